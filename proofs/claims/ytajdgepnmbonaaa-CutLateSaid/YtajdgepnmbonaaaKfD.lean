/- What the laws of this claim need, together: the logic, data in memory, the walks of functions. -/
import Derived.Test.YtajdgepnmbonaaaKfC
set_option linter.unusedVariables false
set_option linter.unusedSimpArgs false
set_option linter.unusedVariables false
set_option linter.unusedSimpArgs false
namespace Go.SL
open Go Go.Proofs
theorem isCount2_spec (L : List HP) (n : Int) : Fn Try.prog 43 #[.int .i64 n] L (fun v L' => v = .bool (decide (0 ≤ n ∧ n ≤ 2147483647)) ∧ L' = L) := by
  refine Fn_enter Try.func43 rfl rfl rfl rfl ?_
  refine T_region ?_
  refine TL_y rfl rfl (Y_assign rfl) ?_
  refine TL_nil ?_
  refine T_region ?_
  refine TL_y rfl rfl (Y_move rfl) ?_
  refine TL_y rfl rfl (Y_ge rfl rfl) ?_
  refine TL_both 4 8 (0 ≤ n ∧ n ≤ 2147483647) ?_ ?_
  · refine TL_y rfl rfl (Y_move rfl) ?_
    refine TL_splitd 5 rfl (fun h5 => ?_) (fun h5 => ?_)
    · refine TL_grun rfl rfl ?_
      refine TL_y rfl rfl (Y_move rfl) ?_
      refine TL_grun rfl rfl ?_
      refine TL_y rfl rfl (Y_le rfl rfl) ?_
      refine TL_y rfl rfl (Y_pick_t rfl rfl) ?_
      refine TL_chain_end rfl ?_ (by repeat (first | exact sub_refl | refine sub_ext rfl ?_)) GivesTo.g
      exact congrArg Value.bool (decide_eq_decide.2 (by omega))
    · refine TL_gskip rfl rfl rfl rfl ?_
      refine TL_gskip rfl rfl rfl rfl ?_
      refine TL_y rfl rfl (Y_pick_f rfl rfl) ?_
      refine TL_chain_end rfl ?_ (by repeat (first | exact sub_refl | refine sub_ext rfl ?_)) GivesTo.g
      exact congrArg Value.bool (decide_eq_false (by omega)).symm
  refine TL_y rfl rfl (Y_assign rfl) ?_
  refine TL_nil ?_
  refine T_ret ?_
  exact RetG_1 (.inl rfl) rfl (ResV.tmp rfl) GivesTo.g (⟨rfl, rfl⟩)
def wiV (v : List Int) (o : Nat) (x : Int) : List Int := (v ++ List.replicate (o + 1 - v.length) 0).set o x
theorem wiV_len (v : List Int) (o : Nat) (x : Int) : (wiV v o x).length = max v.length (o + 1) := by
  unfold wiV
  rw [List.length_set, List.length_append, List.length_replicate]; omega
theorem ofV_wi (v : List Int) (o : Nat) (x : Int) (q : Int) : ofV (wiV v o x) q = if q = (o : Int) then x else ofV v q := by
  unfold ofV
  by_cases h0 : q < 0
  · rw [if_pos h0, if_pos h0, if_neg (by omega)]
  · rw [if_neg h0, if_neg h0]
    have hl : o < (v ++ List.replicate (o + 1 - v.length) 0).length := by rw [List.length_append, List.length_replicate]; omega
    unfold wiV
    rw [List.getElem?_set]
    by_cases h1 : q = (o : Int)
    · subst h1
      rw [if_pos rfl]
      simp only [Int.toNat_natCast]
      rw [if_pos trivial, if_pos hl]; rfl
    · rw [if_neg h1, if_neg (by omega)]
      by_cases h2 : q.toNat < v.length
      · rw [List.getElem?_append_left h2]
      · rw [List.getElem?_append_right (by omega), List.getElem?_replicate, List.getElem?_eq_none (by omega)]
        split <;> rfl
theorem plain_len : ∀ v : List Int, (plainV v).length ≤ v.length
  | [] => Nat.le_refl _
  | x :: r => by
    unfold plainV
    have := plain_len r
    split
    · simp
    · simp only [List.length_cons]; omega
theorem vvWith_spec {L : List HP} {A : Option Addr} {c : Nat} {xs : List Int} (o : Nat) (x : Int) (hk : SlN L (intR .i64) A c xs) (hb : xs.length ≤ 1048576) (ho : o < 7) (hx : 0 ≤ x ∧ x ≤ 2147483647) : Fn Try.prog 20 #[.slice A xs.length c, .int .i64 (o : Int), .int .i64 x] L (fun v L' => ∃ A' c', v = .tuple #[.slice A' (plainV (wiV xs o x)).length c', .int .i64 0] ∧ L' = osl (intR .i64) 3 A' c' (plainV (wiV xs o x)) :: L) := by
  refine Fn_enter Try.func20 rfl rfl rfl rfl ?_
  refine T_region ?_
  refine TL_y rfl rfl (Y_assign rfl) ?_
  refine TL_y rfl rfl (Y_assign rfl) ?_
  refine TL_nil ?_
  refine T_seq ?_
  refine T_region ?_
  refine TL_y rfl rfl (Y_move rfl) ?_
  refine TL_y rfl rfl (Y_lt rfl rfl) ?_
  refine TL_y rfl rfl (Y_move rfl) ?_
  refine TL_name 11 (v' := .bool false) rfl (congrArg Value.bool (decide_eq_false (by omega))) ?_
  refine TL_grun rfl rfl ?_
  refine TL_y rfl rfl (Y_move rfl) ?_
  refine TL_grun rfl rfl ?_
  refine TL_y rfl rfl (Y_ge rfl rfl) ?_
  refine TL_y rfl rfl (Y_pick_f rfl rfl) ?_
  refine TL_y rfl rfl (Y_move rfl) ?_
  refine TL_name 15 (v' := .bool false) rfl (congrArg Value.bool (decide_eq_false (by omega))) ?_
  refine TL_grun rfl rfl ?_
  refine TL_y rfl rfl (Y_move rfl) ?_
  refine TL_grun rfl rfl ?_
  refine TL_call rfl rfl (isCount2_spec _ x) ?_
  rintro _ _ ⟨rfl, rfl⟩
  refine TL_name 17 (v' := .bool true) rfl (congrArg Value.bool (decide_eq_true hx)) ?_
  refine TL_grun rfl rfl ?_
  refine TL_y rfl rfl (Y_not_t rfl) ?_
  refine TL_y rfl rfl (Y_pick_f rfl rfl) ?_
  refine TL_nil ?_
  refine T_cond_false rfl ?_
  refine T_skip ?_
  refine thenS_normal ?_
  refine T_region ?_
  refine TL_y rfl rfl (Y_move rfl) ?_
  refine TL_call rfl rfl (cloneN_spec hk (by omega)) ?_
  rintro _ _ ⟨A21, c21, rfl, rfl⟩
  refine TL_y rfl rfl (Y_move rfl) ?_
  refine TL_y rfl rfl (Y_add rfl rfl (by omega)) ?_
  refine TL_name 23 (v' := .int .i64 ((o + 1 : Nat) : Int)) rfl (rfl) ?_
  refine TL_y rfl rfl (Y_move rfl) ?_
  refine TL_y rfl rfl (Y_len rfl) ?_
  refine TL_y rfl rfl (Y_sub rfl rfl (by omega)) ?_
  refine TL_y rfl rfl (Y_max rfl rfl) ?_
  refine TL_name 27 (v' := .int .i64 ((o + 1 - xs.length : Nat) : Int)) rfl (by congr 1; omega) ?_
  refine TL_append_zeros (R := intR .i64) (0 : Int) rfl rfl rfl rfl rfl (fun _ => ⟨rfl, by decide⟩) (by omega) ?_
  intro A28 c28
  refine TL_y rfl rfl (Y_assign rfl) ?_
  refine TL_nil ?_
  obtain ⟨u, hu⟩ : ∃ u, (xs ++ List.replicate (o + 1 - xs.length) (0 : Int))[o]? = some u := ⟨_, List.getElem?_eq_getElem (by rw [List.length_append, List.length_replicate]; omega)⟩
  refine T_region ?_
  refine TL_y rfl rfl (Y_move rfl) ?_
  refine TL_y rfl rfl (Y_move rfl) ?_
  refine TL_y rfl rfl (Y_move rfl) ?_
  refine TL_index_own rfl rfl rfl (rfl) (hu) ?_
  intro bi32 li32 hA32 hl32
  obtain ⟨lv, rfl⟩ := len_one hl32
  subst hA32
  refine TL_store_x rfl rfl rfl rfl rfl rfl ?_
  refine TL_unx (R := intR .i64) bi32 x (Knows.const fun _ => ⟨rfl, i64In_mk (by omega)⟩) ?_
  rw [show (xs ++ List.replicate (o + 1 - xs.length) (0 : Int)).set o x = wiV xs o x from rfl]
  refine TL_nil ?_
  have hwl := wiV_len xs o x
  refine T_region ?_
  refine TL_y rfl rfl (Y_move rfl) ?_
  refine TL_name 33 (v' := .slice (some ⟨bi32, 0, none⟩) (wiV xs o x).length c28) rfl (by unfold wiV; rw [List.length_set]) ?_
  refine TL_call rfl rfl (vvPlain_spec sln (by omega)) ?_
  rintro _ _ ⟨A34, c34, rfl, rfl⟩
  refine TL_y rfl rfl (Y_assign rfl) ?_
  refine TL_y rfl rfl (Y_assign rfl) ?_
  refine TL_nil ?_
  refine T_ret ?_
  exact RetG_2 (.inl rfl) rfl (ResV.tmp rfl) (ResV.tmp rfl) GivesTo.g (⟨A34, c34, rfl, rfl⟩)
/-! ### Events that have seen all -/
structure AdI (m : List EventD) (s : List Int) : Prop where
  len : s.length ≤ 6
  mem : ∀ e ∈ m, (0 ≤ e.dot.1 ∧ e.dot.1 ≤ 5) ∧ (1 ≤ e.dot.2 ∧ e.dot.2 ≤ 2147483646) ∧ ¬ 0 < ofV e.deps 6 ∧ e.dot.2 ≤ ofV s e.dot.1
theorem AdI.step {m : List EventD} {s s' : List Int} {x : EventD} (h : AdI m s) (hl : s'.length ≤ 6) (hx : (0 ≤ x.dot.1 ∧ x.dot.1 ≤ 5) ∧ (1 ≤ x.dot.2 ∧ x.dot.2 ≤ 2147483646) ∧ ¬ 0 < ofV x.deps 6) (hle : ∀ q, ofV s q ≤ ofV s' q) (hxs : x.dot.2 ≤ ofV s' x.dot.1) : AdI (m ++ [x]) s' := ⟨hl, fun e he => by
  rcases List.mem_append.1 he with he | he
  · have := h.mem e he
    have := hle e.dot.1
    exact ⟨by omega, by omega, by omega, by omega⟩
  · rw [List.mem_singleton.1 he]; exact ⟨hx.1, hx.2.1, hx.2.2, hxs⟩⟩
abbrev adE (s : List Int) (name sku : ByteArray) (qty : Int) (cl : Bool) : EventD := ⟨(6, 1), s, name, 0, sku, qty, cl⟩
theorem ad_goes {l : List EventD} {s : List Int} (h : AdI l s) (name sku : ByteArray) (qty : Int) (cl : Bool) : ¬ goesC l (adE s name sku qty cl) := by
  rintro ⟨x, hx, _, _, _, h4⟩
  have := (h.mem x hx).2.2.1
  unfold hasV at h4
  simp only at h4; omega
theorem ad_dot {l : List EventD} {s : List Int} (h : AdI l s) (name sku : ByteArray) (qty : Int) (cl : Bool) : ∀ e ∈ l, e.dot ≠ (adE s name sku qty cl).dot := fun e he h2 => by
  have := (h.mem e he).1
  rw [h2] at this
  simp only at this; omega
theorem ad_more {l : List EventD} {s : List Int} (hR : RightC l) (h : AdI l s) {name sku : ByteArray} {qty : Int} (hq : 0 ≤ qty ∧ qty ≤ 1000) : lineF (l ++ [adE s name sku qty false]) name sku = lineF l name sku + qty := by
  rw [line_more hR (x := adE s name sku qty false) hq (ad_dot h name sku qty false) rfl (ad_goes h name sku qty false) name sku, if_pos (by simp [ofC])]
theorem ad_set {l : List EventD} {s : List Int} (hR : RightC l) (h : AdI l s) {name sku : ByteArray} {qty : Int} (hq : 0 ≤ qty ∧ qty ≤ 1000) : lineF (l ++ [adE s name sku qty true]) name sku = qty :=
  line_set hR (x := adE s name sku qty true) hq (ad_dot h name sku qty true) rfl (ad_goes h name sku qty true) (fun hh => by
    unfold hasV at hh
    rw [ofV_out (by have := h.len; simp only; omega)] at hh
    omega) (fun e he => by
    have := h.mem e he
    exact ⟨by omega, this.2.2.2⟩)
structure AdSt where
  i : Nat
  A : Option Addr
  c : Nat
  s : List Int
set_option maxHeartbeats 1000000 in
theorem cartAdds_walk {L : List HP} {A : Option Addr} {c : Nat} {l : List EventD} (name sku : ByteArray) (qty : Int) (hk : SlK L eventR A c l) (hl : l.length ≤ 1466015503658) (hn : name.size ≤ maxEl) (hs : sku.size ≤ maxEl) : Fn Try.prog 6 #[.slice A l.length c, .string name, .string sku, .int .i64 qty] L (fun v L' => v = .bool true ∧ L' = L) := by
  refine Fn_enter Try.func6 rfl rfl rfl rfl ?_
  refine T_gives hk.lay ?_
  refine T_gives (slnil (R := intR .i64) (A := none) (c := 0)).lay ?_
  refine T_region ?_
  refine TL_y rfl rfl (Y_assign rfl) ?_
  refine TL_nil ?_
  refine T_seq ?_
  refine T_region ?_
  refine TL_call rfl rfl (lives11_spec _) ?_
  rintro _ _ ⟨rfl, rfl⟩
  refine TL_y rfl rfl (Y_not rfl) ?_
  refine TL_name 17 (v' := .bool false) rfl (rfl) ?_
  refine TL_nil ?_
  refine T_cond_false rfl ?_
  refine T_skip ?_
  refine thenS_normal ?_
  refine T_seq ?_
  refine Classical.byCases (p := RightC l) (fun hR => ?_) (fun hR => ?_)
  · refine T_region ?_
    refine TL_y rfl rfl (Y_move rfl) ?_
    refine TL_call rfl rfl (right11_spec slk) ?_
    rintro _ _ ⟨⟨r, rfl, hr⟩, rfl⟩
    obtain rfl := hr.2 hR
    refine TL_y rfl rfl (Y_not rfl) ?_
    refine TL_name 20 (v' := .bool false) rfl (rfl) ?_
    refine TL_y rfl rfl (Y_move rfl) ?_
    refine TL_both 7 28 (qty < 0 ∨ 1000 < qty) ?_ ?_
    · refine TL_grun rfl rfl ?_
      refine TL_y rfl rfl (Y_move rfl) ?_
      refine TL_grun rfl rfl ?_
      refine TL_y rfl rfl (Y_lt rfl rfl) ?_
      refine TL_y rfl rfl (Y_pick_f rfl rfl) ?_
      refine TL_y rfl rfl (Y_move rfl) ?_
      refine TL_splitd 25 rfl (fun h25 => ?_) (fun h25 => ?_)
      · refine TL_gskip rfl rfl rfl rfl ?_
        refine TL_gskip rfl rfl rfl rfl ?_
        refine TL_y rfl rfl (Y_pick_t rfl rfl) ?_
        refine TL_chain_end rfl ?_ (by repeat (first | exact sub_refl | refine sub_ext rfl ?_)) GivesTo.g
        exact congrArg Value.bool (decide_eq_true (by omega)).symm
      · refine TL_grun rfl rfl ?_
        refine TL_y rfl rfl (Y_move rfl) ?_
        refine TL_grun rfl rfl ?_
        refine TL_y rfl rfl (Y_gt rfl rfl) ?_
        refine TL_y rfl rfl (Y_pick_f rfl rfl) ?_
        refine TL_chain_end rfl ?_ (by repeat (first | exact sub_refl | refine sub_ext rfl ?_)) GivesTo.g
        exact congrArg Value.bool (decide_eq_decide.2 (by omega))
    refine TL_nil ?_
    refine T_if rfl (fun h28 => ?_) (fun h28 => ?_)
    · refine T_region ?_
      refine TL_y rfl rfl (Y_assign rfl) ?_
      refine TL_nil ?_
      refine T_ret ?_
      refine thenS_ret ?_
      exact RetG_1 (.inl rfl) rfl (ResV.tmp rfl) GivesTo.g (⟨rfl, rfl⟩)
    · refine T_skip ?_
      refine thenS_normal ?_
      refine T_region ?_
      refine TL_y rfl rfl (Y_assign rfl) ?_
      refine TL_nil ?_
      refine T_seq ?_
      refine T_region ?_
      refine TL_y rfl rfl (Y_assign rfl) ?_
      refine TL_nil ?_
      refine T_block ?_
      refine T_loopK (σ := AdSt) [0, 1, 2, 3] (fun g => g.i ≤ l.length ∧ AdI (l.take g.i) g.s) (fun g kv => (10, .int .i64 (g.i : Int)) :: (9, .slice g.A g.s.length g.c) :: kv) (fun g => sl (intR .i64) g.A g.c g.s :: sl eventR A c l :: L) (fun g => l.length - g.i) (⟨0, none, 0, []⟩) rfl (⟨Nat.zero_le _, ⟨by simp, by simp⟩⟩) (GivesTo.g) (sub_cons rfl (sub_cons rfl (sub_cons rfl (sub_cons rfl (sub_cons rfl (sub_cons rfl (sub_nil))))))) ?_
      rintro ⟨i, X, cx, s⟩ ⟨hi, hI⟩
      dsimp only at hi hI ⊢
      refine T_seq ?_
      refine T_region ?_
      refine TL_y rfl rfl (Y_move rfl) ?_
      refine TL_y rfl rfl (Y_move rfl) ?_
      refine TL_y rfl rfl (Y_len rfl) ?_
      refine TL_y rfl rfl (Y_lt rfl rfl) ?_
      refine TL_nil ?_
      refine T_if rfl (fun h32 => ?_) (fun h32 => ?_)
      · refine T_skip ?_
        refine thenS_normal ?_
        refine T_seq ?_
        refine T_block ?_
        obtain ⟨x, hx⟩ : ∃ x, l[i]? = some x := ⟨_, List.getElem?_eq_getElem (by omega)⟩
        have hsl := hI.len
        refine T_region ?_
        refine TL_y rfl rfl (Y_move rfl) ?_
        refine TL_y rfl rfl (Y_move rfl) ?_
        refine TL_index_n rfl rfl rfl (rfl) ((sln (A := A) (c := c))) (hx) ?_
        intro bn37 on37 hA37 hk37
        have hu37 := hx
        refine TL_y rfl rfl (Y_field_addr2 rfl) ?_
        refine TL_load_nx rfl rfl hk37 hu37 (fun _ => rfl) ?_
        intro p39 ok39
        simp only [List.cons_append, List.nil_append]
        refine TL_alloc rfl rfl ?_
        intro b11
        refine TL_store rfl rfl rfl rfl rfl rfl ?_
        refine TL_nil ?_
        refine T_seq ?_
        refine T_region ?_
        refine TL_y rfl rfl (Y_field_addr rfl) ?_
        refine TL_y rfl rfl (Y_load rfl rfl) ?_
        refine TL_y rfl rfl (Y_lt rfl rfl) ?_
        refine TL_y rfl rfl (Y_move rfl) ?_
        refine TL_splitd 43 rfl (fun h43 => ?_) (fun h43 => ?_)
        · refine TL_gskip rfl rfl rfl rfl ?_
          refine TL_gskip rfl rfl rfl rfl ?_
          refine TL_gskip rfl rfl rfl rfl ?_
          refine TL_y rfl rfl (Y_pick_t rfl rfl) ?_
          refine TL_y rfl rfl (Y_move rfl) ?_
          refine TL_gskip rfl rfl rfl rfl ?_
          refine TL_gskip rfl rfl rfl rfl ?_
          refine TL_gskip rfl rfl rfl rfl ?_
          refine TL_y rfl rfl (Y_pick_t rfl rfl) ?_
          refine TL_y rfl rfl (Y_move rfl) ?_
          refine TL_gskip rfl rfl rfl rfl ?_
          refine TL_gskip rfl rfl rfl rfl ?_
          refine TL_gskip rfl rfl rfl rfl ?_
          refine TL_y rfl rfl (Y_pick_t rfl rfl) ?_
          refine TL_y rfl rfl (Y_move rfl) ?_
          refine TL_gskip rfl rfl rfl rfl ?_
          refine TL_gskip rfl rfl rfl rfl ?_
          refine TL_gskip rfl rfl rfl rfl ?_
          refine TL_gskip rfl rfl rfl rfl ?_
          refine TL_gskip rfl rfl rfl rfl ?_
          refine TL_gskip rfl rfl rfl rfl ?_
          refine TL_gskip rfl rfl rfl rfl ?_
          refine TL_y rfl rfl (Y_pick_t rfl rfl) ?_
          refine TL_nil ?_
          refine T_cond_true rfl ?_
          refine T_region ?_
          refine TL_y rfl rfl (Y_assign rfl) ?_
          refine TL_nil ?_
          refine T_ret ?_
          refine thenS_ret ?_
          refine inB_ret ?_
          refine thenS_ret ?_
          refine thenS_ret ?_
          refine inB_ret ?_
          refine thenS_ret ?_
          exact RetG_1 (.inl rfl) rfl (ResV.tmp rfl) GivesTo.g (⟨rfl, rfl⟩)
        · refine TL_grun rfl rfl ?_
          refine TL_y rfl rfl (Y_field_addr rfl) ?_
          refine TL_grun rfl rfl ?_
          refine TL_y rfl rfl (Y_load rfl rfl) ?_
          refine TL_grun rfl rfl ?_
          refine TL_y rfl rfl (Y_gt rfl rfl) ?_
          refine TL_y rfl rfl (Y_pick_f rfl rfl) ?_
          refine TL_y rfl rfl (Y_move rfl) ?_
          refine TL_splitd 48 rfl (fun h48 => ?_) (fun h48 => ?_)
          · refine TL_gskip rfl rfl rfl rfl ?_
            refine TL_gskip rfl rfl rfl rfl ?_
            refine TL_gskip rfl rfl rfl rfl ?_
            refine TL_y rfl rfl (Y_pick_t rfl rfl) ?_
            refine TL_y rfl rfl (Y_move rfl) ?_
            refine TL_gskip rfl rfl rfl rfl ?_
            refine TL_gskip rfl rfl rfl rfl ?_
            refine TL_gskip rfl rfl rfl rfl ?_
            refine TL_y rfl rfl (Y_pick_t rfl rfl) ?_
            refine TL_y rfl rfl (Y_move rfl) ?_
            refine TL_gskip rfl rfl rfl rfl ?_
            refine TL_gskip rfl rfl rfl rfl ?_
            refine TL_gskip rfl rfl rfl rfl ?_
            refine TL_gskip rfl rfl rfl rfl ?_
            refine TL_gskip rfl rfl rfl rfl ?_
            refine TL_gskip rfl rfl rfl rfl ?_
            refine TL_gskip rfl rfl rfl rfl ?_
            refine TL_y rfl rfl (Y_pick_t rfl rfl) ?_
            refine TL_nil ?_
            refine T_cond_true rfl ?_
            refine T_region ?_
            refine TL_y rfl rfl (Y_assign rfl) ?_
            refine TL_nil ?_
            refine T_ret ?_
            refine thenS_ret ?_
            refine inB_ret ?_
            refine thenS_ret ?_
            refine thenS_ret ?_
            refine inB_ret ?_
            refine thenS_ret ?_
            exact RetG_1 (.inl rfl) rfl (ResV.tmp rfl) GivesTo.g (⟨rfl, rfl⟩)
          · refine TL_grun rfl rfl ?_
            refine TL_y rfl rfl (Y_field_addr rfl) ?_
            refine TL_grun rfl rfl ?_
            refine TL_y rfl rfl (Y_load rfl rfl) ?_
            refine TL_grun rfl rfl ?_
            refine TL_y rfl rfl (Y_lt rfl rfl) ?_
            refine TL_y rfl rfl (Y_pick_f rfl rfl) ?_
            refine TL_y rfl rfl (Y_move rfl) ?_
            refine TL_splitd 53 rfl (fun h53 => ?_) (fun h53 => ?_)
            · refine TL_gskip rfl rfl rfl rfl ?_
              refine TL_gskip rfl rfl rfl rfl ?_
              refine TL_gskip rfl rfl rfl rfl ?_
              refine TL_y rfl rfl (Y_pick_t rfl rfl) ?_
              refine TL_y rfl rfl (Y_move rfl) ?_
              refine TL_gskip rfl rfl rfl rfl ?_
              refine TL_gskip rfl rfl rfl rfl ?_
              refine TL_gskip rfl rfl rfl rfl ?_
              refine TL_gskip rfl rfl rfl rfl ?_
              refine TL_gskip rfl rfl rfl rfl ?_
              refine TL_gskip rfl rfl rfl rfl ?_
              refine TL_gskip rfl rfl rfl rfl ?_
              refine TL_y rfl rfl (Y_pick_t rfl rfl) ?_
              refine TL_nil ?_
              refine T_cond_true rfl ?_
              refine T_region ?_
              refine TL_y rfl rfl (Y_assign rfl) ?_
              refine TL_nil ?_
              refine T_ret ?_
              refine thenS_ret ?_
              refine inB_ret ?_
              refine thenS_ret ?_
              refine thenS_ret ?_
              refine inB_ret ?_
              refine thenS_ret ?_
              exact RetG_1 (.inl rfl) rfl (ResV.tmp rfl) GivesTo.g (⟨rfl, rfl⟩)
            · refine TL_grun rfl rfl ?_
              refine TL_y rfl rfl (Y_field_addr rfl) ?_
              refine TL_grun rfl rfl ?_
              refine TL_y rfl rfl (Y_load rfl rfl) ?_
              refine TL_grun rfl rfl ?_
              refine TL_y rfl rfl (Y_gt rfl rfl) ?_
              refine TL_y rfl rfl (Y_pick_f rfl rfl) ?_
              refine TL_y rfl rfl (Y_move rfl) ?_
              refine TL_splitd 58 rfl (fun h58 => ?_) (fun h58 => ?_)
              · refine TL_gskip rfl rfl rfl rfl ?_
                refine TL_gskip rfl rfl rfl rfl ?_
                refine TL_gskip rfl rfl rfl rfl ?_
                refine TL_gskip rfl rfl rfl rfl ?_
                refine TL_gskip rfl rfl rfl rfl ?_
                refine TL_gskip rfl rfl rfl rfl ?_
                refine TL_gskip rfl rfl rfl rfl ?_
                refine TL_y rfl rfl (Y_pick_t rfl rfl) ?_
                refine TL_nil ?_
                refine T_cond_true rfl ?_
                refine T_region ?_
                refine TL_y rfl rfl (Y_assign rfl) ?_
                refine TL_nil ?_
                refine T_ret ?_
                refine thenS_ret ?_
                refine inB_ret ?_
                refine thenS_ret ?_
                refine thenS_ret ?_
                refine inB_ret ?_
                refine thenS_ret ?_
                exact RetG_1 (.inl rfl) rfl (ResV.tmp rfl) GivesTo.g (⟨rfl, rfl⟩)
              · refine TL_grun rfl rfl ?_
                refine TL_y rfl rfl (Y_move rfl) ?_
                refine TL_grun rfl rfl ?_
                refine TL_y rfl rfl (Y_move rfl) ?_
                refine TL_grun rfl rfl ?_
                refine TL_index_n rfl rfl rfl (rfl) ((sln (A := A) (c := c))) (hx) ?_
                intro bn61 on61 hA61 hk61
                have hu61 := hx
                refine TL_grun rfl rfl ?_
                refine TL_y rfl rfl (Y_field_addr2 rfl) ?_
                refine TL_grun rfl rfl ?_
                refine TL_load_nx1 rfl rfl hk61 hu61 (fun _ => rfl) ?_
                intro p63 ok63
                simp only [List.cons_append, List.nil_append]
                refine TL_grun rfl rfl ?_
                refine TL_call rfl rfl (vvOf_spec (SlK.n slk) 6) ?_
                rintro _ _ ⟨rfl, rfl⟩
                refine TL_grun rfl rfl ?_
                refine TL_y rfl rfl (Y_gt rfl rfl) ?_
                refine TL_y rfl rfl (Y_pick_f rfl rfl) ?_
                refine TL_nil ?_
                refine T_if rfl (fun h66 => ?_) (fun h66 => ?_)
                · refine T_region ?_
                  refine TL_y rfl rfl (Y_assign rfl) ?_
                  refine TL_nil ?_
                  refine T_ret ?_
                  refine thenS_ret ?_
                  refine inB_ret ?_
                  refine thenS_ret ?_
                  refine thenS_ret ?_
                  refine inB_ret ?_
                  refine thenS_ret ?_
                  exact RetG_1 (.inl rfl) rfl (ResV.tmp rfl) GivesTo.g (⟨rfl, rfl⟩)
                · refine T_skip ?_
                  refine thenS_normal ?_
                  refine T_region_draw _ [0, 1, 0, 0, 8, 28, 63] [] [(0, true), (1, true), (2, true), (3, true), (4, true), (5, false), (6, true)] (by kernel_rfl) (by decide +kernel) (Gives.refl _) ?_
                  refine TF_y rfl rfl (Y_field_addr rfl) ?_
                  refine TF_y rfl rfl (Y_load rfl rfl) ?_
                  refine TF_y rfl rfl (Y_move rfl) ?_
                  refine TF_y rfl rfl (Y_field_addr rfl) ?_
                  refine TF_y rfl rfl (Y_load rfl rfl) ?_
                  refine TF_anchor rfl ?_
                  refine TL_call rfl rfl (vvOf_spec (SlK.n slk) x.dot.1) ?_
                  rintro _ _ ⟨rfl, rfl⟩
                  refine TF_end GivesTo.g ?_
                  refine TF_y rfl rfl (Y_gt rfl rfl) ?_
                  refine TF_nil ?_
                  refine T_if rfl (fun h73 => ?_) (fun h73 => ?_)
                  · obtain ⟨o, ho⟩ : ∃ o : Nat, x.dot.1 = (o : Int) := ⟨x.dot.1.toNat, by omega⟩
                    have hwl := wiV_len s o x.dot.2
                    have hpl := plain_len (wiV s o x.dot.2)
                    refine T_region_last ?_
                    refine TL_y rfl rfl (Y_move rfl) ?_
                    refine TL_y rfl rfl (Y_field_addr rfl) ?_
                    refine TL_y rfl rfl (Y_load rfl rfl) ?_
                    refine TL_name 77 (v' := .int .i64 (o : Int)) rfl (by rw [ho]) ?_
                    refine TL_y rfl rfl (Y_field_addr rfl) ?_
                    refine TL_y rfl rfl (Y_load rfl rfl) ?_
                    refine TL_call rfl rfl (vvWith_spec o x.dot.2 (SlK.n slk) (by omega) (by omega) (by omega)) ?_
                    rintro _ _ ⟨A80, c80, rfl, rfl⟩
                    refine TL_freeze_osl ?_
                    refine TL_y rfl rfl (Y_move rfl) ?_
                    refine TL_y rfl rfl (Y_extract rfl rfl) ?_
                    refine TL_y rfl rfl (Y_extract rfl rfl) ?_
                    refine TL_y rfl rfl (Y_assign rfl) ?_
                    refine TL_nil ?_
                    refine inB_normal ?_
                    refine thenS_normal ?_
                    refine T_region_last ?_
                    refine TL_y rfl rfl (Y_move rfl) ?_
                    refine TL_name 33 (v' := .int .i64 (i : Int)) rfl (rfl) ?_
                    refine TL_y rfl rfl (Y_add rfl rfl (by omega)) ?_
                    refine TL_name 34 (v' := .int .i64 ((i + 1 : Nat) : Int)) rfl (rfl) ?_
                    refine TL_y rfl rfl (Y_assign rfl) ?_
                    refine TL_nil ?_
                    refine thenS_normal ?_
                    exact ⟨⟨i + 1, A80, c80, plainV (wiV s o x.dot.2)⟩, ⟨by simp only; omega, by simp only; rw [takeAt hx]; exact hI.step (by omega) ⟨by omega, by omega, by omega⟩ (fun q => by rw [ofV_plain, ofV_wi]; split; (rename_i e; rw [e, ← ho]; omega); omega) (by rw [ofV_plain, ofV_wi, if_pos ho]; omega)⟩, by simp only; omega, holds_to (sub_cons rfl (sub_cons rfl (sub_cons rfl (sub_cons rfl (sub_cons rfl (sub_cons rfl (sub_nil))))))) GivesTo.g⟩
                  · refine T_skip ?_
                    refine inB_normal ?_
                    refine thenS_normal ?_
                    refine T_region_last ?_
                    refine TL_y rfl rfl (Y_move rfl) ?_
                    refine TL_name 33 (v' := .int .i64 (i : Int)) rfl (rfl) ?_
                    refine TL_y rfl rfl (Y_add rfl rfl (by omega)) ?_
                    refine TL_name 34 (v' := .int .i64 ((i + 1 : Nat) : Int)) rfl (rfl) ?_
                    refine TL_y rfl rfl (Y_assign rfl) ?_
                    refine TL_nil ?_
                    refine thenS_normal ?_
                    exact ⟨⟨i + 1, X, cx, s⟩, ⟨by simp only; omega, by simp only; rw [takeAt hx]; exact hI.step hsl ⟨by omega, by omega, by omega⟩ (fun q => Int.le_refl _) (by omega)⟩, by simp only; omega, holds_to (sub_cons rfl (sub_cons rfl (sub_cons rfl (sub_cons rfl (sub_cons rfl (sub_cons rfl (sub_nil))))))) GivesTo.g⟩
      · refine T_exit ?_
        refine thenS_exit ?_
        refine thenS_exit ?_
        refine inB_hit ?_
        refine thenS_normal ?_
        rw [List.take_of_length_le (show l.length ≤ i by omega)] at hI
        have hlb := lineF_bound hR.qty name sku
        have hsl := hI.len
        have hok : ∀ cl, eventOk (adE s name sku qty cl) := fun cl => ⟨i64In_mk (by simp only; omega), i64In_mk (by simp only; omega), by simp only; omega, hn, i64In_mk (by simp only; omega), hs, i64In_mk (by simp only; omega)⟩
        have hqs : ∀ cl, ∀ e ∈ l ++ [adE s name sku qty cl], 0 ≤ e.qty ∧ e.qty ≤ 1000 := fun cl => qty_snoc hR.qty (by simp only; omega)
        refine T_region ?_
        refine TL_y rfl rfl (Y_build rfl rfl) ?_
        refine TL_y rfl rfl (Y_move rfl) ?_
        refine TL_y rfl rfl (Y_move rfl) ?_
        refine TL_y rfl rfl (Y_move rfl) ?_
        refine TL_y rfl rfl (Y_move rfl) ?_
        refine TL_y rfl rfl (Y_build rfl rfl) ?_
        refine TL_alloc rfl rfl ?_
        intro b12
        refine TL_store rfl rfl rfl rfl rfl rfl ?_
        refine TL_nil ?_
        refine T_region ?_
        refine TL_y rfl rfl (Y_move rfl) ?_
        refine TL_y rfl rfl (Y_move rfl) ?_
        refine TL_call rfl rfl (lines_spec name (slk (A := A) (c := c)) (by omega) hR.qty) ?_
        rintro _ _ ⟨A91, c91, xs91, rfl, rfl, hx91, hl91⟩
        refine TL_y rfl rfl (Y_move rfl) ?_
        refine TL_call rfl rfl (of11_spec sku sln) ?_
        rintro _ _ ⟨rfl, rfl⟩
        refine TL_name 93 (v' := .int .i64 (lineF l name sku)) rfl (by rw [hx91.of hR.qty]) ?_
        refine TL_y rfl rfl (Y_assign rfl) ?_
        refine TL_nil ?_
        refine T_rd [0, 0, 3, 0, 8, 31, 0, 127, 0, 511, 1023] (by kernel_rfl) (by decide +kernel) ?_
        refine RD_pair 0 4 (by decide) ?_ ?_
        · refine RD_pair 2 4 (by decide) ?_ ?_
          · refine RD_leaf (cells b12 (eventC (adE s name sku qty false) (X, cx)) 29 :: []) [0, 0, 3, 0, 15, 31, 0, 127, 0, 511, 1023] [] [(1, true), (3, true), (6, true), (8, true), (0, false), (2, false), (4, false), (5, false), (7, false), (9, false), (10, true)] (by decide +kernel) GivesTo.g ?_
            refine TF_y rfl rfl (Y_move rfl) ?_
            refine TF_y rfl rfl (Y_load_agg rfl rfl) ?_
            refine TF_y rfl rfl (Y_move rfl) ?_
            refine TF_y rfl rfl (Y_move rfl) ?_
            refine TF_anchor rfl ?_
            refine TL_build_slice rfl rfl rfl rfl rfl rfl ?_
            intro b94
            refine TL_osl (k := 0) eventR [] (Knows.const fun M => rfl) rfl (by simp) ?_
            refine TL_name 94 (v' := .slice (some ⟨b94, 0, none⟩) ([] : List EventD).length 0) rfl rfl ?_
            refine TF_end GivesTo.g ?_
            refine TF_anchor rfl ?_
            refine TL_append rfl rfl rfl rfl rfl slk (by simp only [List.length_nil]; omega) ?_
            intro A96 c96
            simp only [List.nil_append]
            refine TF_end GivesTo.g ?_
            refine TF_anchor rfl ?_
            refine TL_build_slice rfl rfl rfl rfl rfl rfl ?_
            intro b98
            refine TL_osl (k := 1) eventR [adE s name sku qty false] (cells_one' (ex_rep (X, cx) (sep_sl slk) (hok false))) rfl (by decide) ?_
            refine TL_freeze_osl ?_
            refine TL_name 98 (v' := .slice (some ⟨b98, 0, none⟩) [adE s name sku qty false].length 1) rfl rfl ?_
            refine TF_end GivesTo.g ?_
            refine TF_anchor rfl ?_
            refine TL_append rfl rfl rfl rfl rfl slk (by simp only [List.length_cons, List.length_nil]; omega) ?_
            intro A99 c99
            refine TL_freeze_osl ?_
            refine TF_end GivesTo.g ?_
            refine TF_anchor rfl ?_
            refine TL_call rfl rfl (lines_spec name slk (by simp only [List.length_append, List.length_cons, List.length_nil]; omega) (hqs false)) ?_
            rintro _ _ ⟨A101, c101, xs101, rfl, rfl, hx101, hl101⟩
            refine TF_end GivesTo.g ?_
            refine TF_anchor rfl ?_
            refine TL_call rfl rfl (of11_spec sku sln) ?_
            rintro _ _ ⟨rfl, rfl⟩
            refine TL_name 103 (v' := .int .i64 (lineF l name sku + qty)) rfl (by rw [hx101.of (hqs false), ad_more hR hI (by omega)]) ?_
            refine TF_end GivesTo.g ?_
            refine TF_y rfl rfl (Y_assign rfl) ?_
            refine TF_nil ?_
            refine thenS_normal ?_
            refine T_region ?_
            refine TL_y rfl rfl (Y_field_addr rfl) ?_
            refine TL_store rfl rfl rfl rfl rfl rfl ?_
            refine TL_nil ?_
            refine T_rd [0, 0, 3, 0, 8, 31, 0, 127, 0, 511, 1023] (by kernel_rfl) (by decide +kernel) ?_
            refine RD_pair 0 4 (by decide) ?_ ?_
            · refine RD_pair 2 4 (by decide) ?_ ?_
              · refine RD_leaf (cells b12 (eventC (adE s name sku qty true) (X, cx)) 29 :: []) [0, 0, 3, 0, 15, 31, 0, 127, 0, 511, 1023] [] [(1, true), (3, true), (6, true), (8, true), (0, false), (2, false), (4, false), (5, false), (7, false), (9, false), (10, true)] (by decide +kernel) GivesTo.g ?_
                refine TF_y rfl rfl (Y_move rfl) ?_
                refine TF_y rfl rfl (Y_load_agg rfl rfl) ?_
                refine TF_y rfl rfl (Y_move rfl) ?_
                refine TF_y rfl rfl (Y_move rfl) ?_
                refine TF_anchor rfl ?_
                refine TL_build_slice rfl rfl rfl rfl rfl rfl ?_
                intro b105
                refine TL_osl (k := 0) eventR [] (Knows.const fun M => rfl) rfl (by simp) ?_
                refine TL_name 105 (v' := .slice (some ⟨b105, 0, none⟩) ([] : List EventD).length 0) rfl rfl ?_
                refine TF_end GivesTo.g ?_
                refine TF_anchor rfl ?_
                refine TL_append rfl rfl rfl rfl rfl slk (by simp only [List.length_nil]; omega) ?_
                intro A107 c107
                simp only [List.nil_append]
                refine TF_end GivesTo.g ?_
                refine TF_anchor rfl ?_
                refine TL_build_slice rfl rfl rfl rfl rfl rfl ?_
                intro b109
                refine TL_osl (k := 1) eventR [adE s name sku qty true] (cells_one' (ex_rep (X, cx) (sep_sl slk) (hok true))) rfl (by decide) ?_
                refine TL_freeze_osl ?_
                refine TL_name 109 (v' := .slice (some ⟨b109, 0, none⟩) [adE s name sku qty true].length 1) rfl rfl ?_
                refine TF_end GivesTo.g ?_
                refine TF_anchor rfl ?_
                refine TL_append rfl rfl rfl rfl rfl slk (by simp only [List.length_cons, List.length_nil]; omega) ?_
                intro A110 c110
                refine TL_freeze_osl ?_
                refine TF_end GivesTo.g ?_
                refine TF_anchor rfl ?_
                refine TL_call rfl rfl (lines_spec name slk (by simp only [List.length_append, List.length_cons, List.length_nil]; omega) (hqs true)) ?_
                rintro _ _ ⟨A112, c112, xs112, rfl, rfl, hx112, hl112⟩
                refine TF_end GivesTo.g ?_
                refine TF_anchor rfl ?_
                refine TL_call rfl rfl (of11_spec sku sln) ?_
                rintro _ _ ⟨rfl, rfl⟩
                refine TL_name 114 (v' := .int .i64 qty) rfl (by rw [hx112.of (hqs true), ad_set hR hI (by omega)]) ?_
                refine TF_end GivesTo.g ?_
                refine TF_y rfl rfl (Y_assign rfl) ?_
                refine TF_nil ?_
                refine thenS_normal ?_
                refine T_region ?_
                refine TL_y rfl rfl (Y_move rfl) ?_
                refine TL_y rfl rfl (Y_move rfl) ?_
                refine TL_y rfl rfl (Y_move rfl) ?_
                refine TL_y rfl rfl (Y_add rfl rfl (by omega)) ?_
                refine TL_y rfl rfl (Y_eq rfl rfl) ?_
                refine TL_name 119 (v' := .bool true) rfl (congrArg Value.bool (decide_eq_true rfl)) ?_
                refine TL_y rfl rfl (Y_move rfl) ?_
                refine TL_grun rfl rfl ?_
                refine TL_y rfl rfl (Y_move rfl) ?_
                refine TL_grun rfl rfl ?_
                refine TL_y rfl rfl (Y_move rfl) ?_
                refine TL_grun rfl rfl ?_
                refine TL_y rfl rfl (Y_eq rfl rfl) ?_
                refine TL_name 123 (v' := .bool true) rfl (congrArg Value.bool (decide_eq_true rfl)) ?_
                refine TL_y rfl rfl (Y_pick_t rfl rfl) ?_
                refine TL_y rfl rfl (Y_assign rfl) ?_
                refine TL_nil ?_
                refine T_ret ?_
                exact RetG_1 (.inl rfl) rfl (ResV.tmp rfl) GivesTo.g (⟨rfl, rfl⟩)
              · refine RD_leaf (cells b12 (eventC (adE s name sku qty true) (X, cx)) 29 :: []) [0, 0, 27, 0, 9, 31, 0, 127, 0, 511, 1023] [] [(1, true), (3, true), (6, true), (8, true), (0, false), (4, false), (2, false), (5, false), (7, false), (9, false), (10, true)] (by decide +kernel) GivesTo.g ?_
                refine TF_y rfl rfl (Y_move rfl) ?_
                refine TF_y rfl rfl (Y_load_agg rfl rfl) ?_
                refine TF_y rfl rfl (Y_move rfl) ?_
                refine TF_y rfl rfl (Y_move rfl) ?_
                refine TF_anchor rfl ?_
                refine TL_build_slice rfl rfl rfl rfl rfl rfl ?_
                intro b105
                refine TL_osl (k := 0) eventR [] (Knows.const fun M => rfl) rfl (by simp) ?_
                refine TL_name 105 (v' := .slice (some ⟨b105, 0, none⟩) ([] : List EventD).length 0) rfl rfl ?_
                refine TF_end GivesTo.g ?_
                refine TF_anchor rfl ?_
                refine TL_build_slice rfl rfl rfl rfl rfl rfl ?_
                intro b109
                refine TL_osl (k := 1) eventR [adE s name sku qty true] (cells_one' (ex_rep (X, cx) (sep_sl slk) (hok true))) rfl (by decide) ?_
                refine TL_freeze_osl ?_
                refine TL_name 109 (v' := .slice (some ⟨b109, 0, none⟩) [adE s name sku qty true].length 1) rfl rfl ?_
                refine TF_end GivesTo.g ?_
                refine TF_anchor rfl ?_
                refine TL_append rfl rfl rfl rfl rfl slk (by simp only [List.length_nil]; omega) ?_
                intro A107 c107
                simp only [List.nil_append]
                refine TF_end GivesTo.g ?_
                refine TF_anchor rfl ?_
                refine TL_append rfl rfl rfl rfl rfl slk (by simp only [List.length_cons, List.length_nil]; omega) ?_
                intro A110 c110
                refine TL_freeze_osl ?_
                refine TF_end GivesTo.g ?_
                refine TF_anchor rfl ?_
                refine TL_call rfl rfl (lines_spec name slk (by simp only [List.length_append, List.length_cons, List.length_nil]; omega) (hqs true)) ?_
                rintro _ _ ⟨A112, c112, xs112, rfl, rfl, hx112, hl112⟩
                refine TF_end GivesTo.g ?_
                refine TF_anchor rfl ?_
                refine TL_call rfl rfl (of11_spec sku sln) ?_
                rintro _ _ ⟨rfl, rfl⟩
                refine TL_name 114 (v' := .int .i64 qty) rfl (by rw [hx112.of (hqs true), ad_set hR hI (by omega)]) ?_
                refine TF_end GivesTo.g ?_
                refine TF_y rfl rfl (Y_assign rfl) ?_
                refine TF_nil ?_
                refine thenS_normal ?_
                refine T_region ?_
                refine TL_y rfl rfl (Y_move rfl) ?_
                refine TL_y rfl rfl (Y_move rfl) ?_
                refine TL_y rfl rfl (Y_move rfl) ?_
                refine TL_y rfl rfl (Y_add rfl rfl (by omega)) ?_
                refine TL_y rfl rfl (Y_eq rfl rfl) ?_
                refine TL_name 119 (v' := .bool true) rfl (congrArg Value.bool (decide_eq_true rfl)) ?_
                refine TL_y rfl rfl (Y_move rfl) ?_
                refine TL_grun rfl rfl ?_
                refine TL_y rfl rfl (Y_move rfl) ?_
                refine TL_grun rfl rfl ?_
                refine TL_y rfl rfl (Y_move rfl) ?_
                refine TL_grun rfl rfl ?_
                refine TL_y rfl rfl (Y_eq rfl rfl) ?_
                refine TL_name 123 (v' := .bool true) rfl (congrArg Value.bool (decide_eq_true rfl)) ?_
                refine TL_y rfl rfl (Y_pick_t rfl rfl) ?_
                refine TL_y rfl rfl (Y_assign rfl) ?_
                refine TL_nil ?_
                refine T_ret ?_
                exact RetG_1 (.inl rfl) rfl (ResV.tmp rfl) GivesTo.g (⟨rfl, rfl⟩)
            · refine RD_leaf (cells b12 (eventC (adE s name sku qty true) (X, cx)) 29 :: []) [24, 0, 27, 0, 8, 31, 0, 127, 0, 511, 1023] [] [(1, true), (3, true), (6, true), (8, true), (4, false), (0, false), (2, false), (5, false), (7, false), (9, false), (10, true)] (by decide +kernel) GivesTo.g ?_
              refine TF_y rfl rfl (Y_move rfl) ?_
              refine TF_y rfl rfl (Y_load_agg rfl rfl) ?_
              refine TF_y rfl rfl (Y_move rfl) ?_
              refine TF_y rfl rfl (Y_move rfl) ?_
              refine TF_anchor rfl ?_
              refine TL_build_slice rfl rfl rfl rfl rfl rfl ?_
              intro b109
              refine TL_osl (k := 1) eventR [adE s name sku qty true] (cells_one' (ex_rep (X, cx) (sep_sl slk) (hok true))) rfl (by decide) ?_
              refine TL_freeze_osl ?_
              refine TL_name 109 (v' := .slice (some ⟨b109, 0, none⟩) [adE s name sku qty true].length 1) rfl rfl ?_
              refine TF_end GivesTo.g ?_
              refine TF_anchor rfl ?_
              refine TL_build_slice rfl rfl rfl rfl rfl rfl ?_
              intro b105
              refine TL_osl (k := 0) eventR [] (Knows.const fun M => rfl) rfl (by simp) ?_
              refine TL_name 105 (v' := .slice (some ⟨b105, 0, none⟩) ([] : List EventD).length 0) rfl rfl ?_
              refine TF_end GivesTo.g ?_
              refine TF_anchor rfl ?_
              refine TL_append rfl rfl rfl rfl rfl slk (by simp only [List.length_nil]; omega) ?_
              intro A107 c107
              simp only [List.nil_append]
              refine TF_end GivesTo.g ?_
              refine TF_anchor rfl ?_
              refine TL_append rfl rfl rfl rfl rfl slk (by simp only [List.length_cons, List.length_nil]; omega) ?_
              intro A110 c110
              refine TL_freeze_osl ?_
              refine TF_end GivesTo.g ?_
              refine TF_anchor rfl ?_
              refine TL_call rfl rfl (lines_spec name slk (by simp only [List.length_append, List.length_cons, List.length_nil]; omega) (hqs true)) ?_
              rintro _ _ ⟨A112, c112, xs112, rfl, rfl, hx112, hl112⟩
              refine TF_end GivesTo.g ?_
              refine TF_anchor rfl ?_
              refine TL_call rfl rfl (of11_spec sku sln) ?_
              rintro _ _ ⟨rfl, rfl⟩
              refine TL_name 114 (v' := .int .i64 qty) rfl (by rw [hx112.of (hqs true), ad_set hR hI (by omega)]) ?_
              refine TF_end GivesTo.g ?_
              refine TF_y rfl rfl (Y_assign rfl) ?_
              refine TF_nil ?_
              refine thenS_normal ?_
              refine T_region ?_
              refine TL_y rfl rfl (Y_move rfl) ?_
              refine TL_y rfl rfl (Y_move rfl) ?_
              refine TL_y rfl rfl (Y_move rfl) ?_
              refine TL_y rfl rfl (Y_add rfl rfl (by omega)) ?_
              refine TL_y rfl rfl (Y_eq rfl rfl) ?_
              refine TL_name 119 (v' := .bool true) rfl (congrArg Value.bool (decide_eq_true rfl)) ?_
              refine TL_y rfl rfl (Y_move rfl) ?_
              refine TL_grun rfl rfl ?_
              refine TL_y rfl rfl (Y_move rfl) ?_
              refine TL_grun rfl rfl ?_
              refine TL_y rfl rfl (Y_move rfl) ?_
              refine TL_grun rfl rfl ?_
              refine TL_y rfl rfl (Y_eq rfl rfl) ?_
              refine TL_name 123 (v' := .bool true) rfl (congrArg Value.bool (decide_eq_true rfl)) ?_
              refine TL_y rfl rfl (Y_pick_t rfl rfl) ?_
              refine TL_y rfl rfl (Y_assign rfl) ?_
              refine TL_nil ?_
              refine T_ret ?_
              exact RetG_1 (.inl rfl) rfl (ResV.tmp rfl) GivesTo.g (⟨rfl, rfl⟩)
          · refine RD_leaf (cells b12 (eventC (adE s name sku qty false) (X, cx)) 29 :: []) [0, 0, 27, 0, 9, 31, 0, 127, 0, 511, 1023] [] [(1, true), (3, true), (6, true), (8, true), (0, false), (4, false), (2, false), (5, false), (7, false), (9, false), (10, true)] (by decide +kernel) GivesTo.g ?_
            refine TF_y rfl rfl (Y_move rfl) ?_
            refine TF_y rfl rfl (Y_load_agg rfl rfl) ?_
            refine TF_y rfl rfl (Y_move rfl) ?_
            refine TF_y rfl rfl (Y_move rfl) ?_
            refine TF_anchor rfl ?_
            refine TL_build_slice rfl rfl rfl rfl rfl rfl ?_
            intro b94
            refine TL_osl (k := 0) eventR [] (Knows.const fun M => rfl) rfl (by simp) ?_
            refine TL_name 94 (v' := .slice (some ⟨b94, 0, none⟩) ([] : List EventD).length 0) rfl rfl ?_
            refine TF_end GivesTo.g ?_
            refine TF_anchor rfl ?_
            refine TL_build_slice rfl rfl rfl rfl rfl rfl ?_
            intro b98
            refine TL_osl (k := 1) eventR [adE s name sku qty false] (cells_one' (ex_rep (X, cx) (sep_sl slk) (hok false))) rfl (by decide) ?_
            refine TL_freeze_osl ?_
            refine TL_name 98 (v' := .slice (some ⟨b98, 0, none⟩) [adE s name sku qty false].length 1) rfl rfl ?_
            refine TF_end GivesTo.g ?_
            refine TF_anchor rfl ?_
            refine TL_append rfl rfl rfl rfl rfl slk (by simp only [List.length_nil]; omega) ?_
            intro A96 c96
            simp only [List.nil_append]
            refine TF_end GivesTo.g ?_
            refine TF_anchor rfl ?_
            refine TL_append rfl rfl rfl rfl rfl slk (by simp only [List.length_cons, List.length_nil]; omega) ?_
            intro A99 c99
            refine TL_freeze_osl ?_
            refine TF_end GivesTo.g ?_
            refine TF_anchor rfl ?_
            refine TL_call rfl rfl (lines_spec name slk (by simp only [List.length_append, List.length_cons, List.length_nil]; omega) (hqs false)) ?_
            rintro _ _ ⟨A101, c101, xs101, rfl, rfl, hx101, hl101⟩
            refine TF_end GivesTo.g ?_
            refine TF_anchor rfl ?_
            refine TL_call rfl rfl (of11_spec sku sln) ?_
            rintro _ _ ⟨rfl, rfl⟩
            refine TL_name 103 (v' := .int .i64 (lineF l name sku + qty)) rfl (by rw [hx101.of (hqs false), ad_more hR hI (by omega)]) ?_
            refine TF_end GivesTo.g ?_
            refine TF_y rfl rfl (Y_assign rfl) ?_
            refine TF_nil ?_
            refine thenS_normal ?_
            refine T_region ?_
            refine TL_y rfl rfl (Y_field_addr rfl) ?_
            refine TL_store rfl rfl rfl rfl rfl rfl ?_
            refine TL_nil ?_
            refine T_rd [0, 0, 3, 0, 8, 31, 0, 127, 0, 511, 1023] (by kernel_rfl) (by decide +kernel) ?_
            refine RD_pair 0 4 (by decide) ?_ ?_
            · refine RD_pair 2 4 (by decide) ?_ ?_
              · refine RD_leaf (cells b12 (eventC (adE s name sku qty true) (X, cx)) 29 :: []) [0, 0, 3, 0, 15, 31, 0, 127, 0, 511, 1023] [] [(1, true), (3, true), (6, true), (8, true), (0, false), (2, false), (4, false), (5, false), (7, false), (9, false), (10, true)] (by decide +kernel) GivesTo.g ?_
                refine TF_y rfl rfl (Y_move rfl) ?_
                refine TF_y rfl rfl (Y_load_agg rfl rfl) ?_
                refine TF_y rfl rfl (Y_move rfl) ?_
                refine TF_y rfl rfl (Y_move rfl) ?_
                refine TF_anchor rfl ?_
                refine TL_build_slice rfl rfl rfl rfl rfl rfl ?_
                intro b105
                refine TL_osl (k := 0) eventR [] (Knows.const fun M => rfl) rfl (by simp) ?_
                refine TL_name 105 (v' := .slice (some ⟨b105, 0, none⟩) ([] : List EventD).length 0) rfl rfl ?_
                refine TF_end GivesTo.g ?_
                refine TF_anchor rfl ?_
                refine TL_append rfl rfl rfl rfl rfl slk (by simp only [List.length_nil]; omega) ?_
                intro A107 c107
                simp only [List.nil_append]
                refine TF_end GivesTo.g ?_
                refine TF_anchor rfl ?_
                refine TL_build_slice rfl rfl rfl rfl rfl rfl ?_
                intro b109
                refine TL_osl (k := 1) eventR [adE s name sku qty true] (cells_one' (ex_rep (X, cx) (sep_sl slk) (hok true))) rfl (by decide) ?_
                refine TL_freeze_osl ?_
                refine TL_name 109 (v' := .slice (some ⟨b109, 0, none⟩) [adE s name sku qty true].length 1) rfl rfl ?_
                refine TF_end GivesTo.g ?_
                refine TF_anchor rfl ?_
                refine TL_append rfl rfl rfl rfl rfl slk (by simp only [List.length_cons, List.length_nil]; omega) ?_
                intro A110 c110
                refine TL_freeze_osl ?_
                refine TF_end GivesTo.g ?_
                refine TF_anchor rfl ?_
                refine TL_call rfl rfl (lines_spec name slk (by simp only [List.length_append, List.length_cons, List.length_nil]; omega) (hqs true)) ?_
                rintro _ _ ⟨A112, c112, xs112, rfl, rfl, hx112, hl112⟩
                refine TF_end GivesTo.g ?_
                refine TF_anchor rfl ?_
                refine TL_call rfl rfl (of11_spec sku sln) ?_
                rintro _ _ ⟨rfl, rfl⟩
                refine TL_name 114 (v' := .int .i64 qty) rfl (by rw [hx112.of (hqs true), ad_set hR hI (by omega)]) ?_
                refine TF_end GivesTo.g ?_
                refine TF_y rfl rfl (Y_assign rfl) ?_
                refine TF_nil ?_
                refine thenS_normal ?_
                refine T_region ?_
                refine TL_y rfl rfl (Y_move rfl) ?_
                refine TL_y rfl rfl (Y_move rfl) ?_
                refine TL_y rfl rfl (Y_move rfl) ?_
                refine TL_y rfl rfl (Y_add rfl rfl (by omega)) ?_
                refine TL_y rfl rfl (Y_eq rfl rfl) ?_
                refine TL_name 119 (v' := .bool true) rfl (congrArg Value.bool (decide_eq_true rfl)) ?_
                refine TL_y rfl rfl (Y_move rfl) ?_
                refine TL_grun rfl rfl ?_
                refine TL_y rfl rfl (Y_move rfl) ?_
                refine TL_grun rfl rfl ?_
                refine TL_y rfl rfl (Y_move rfl) ?_
                refine TL_grun rfl rfl ?_
                refine TL_y rfl rfl (Y_eq rfl rfl) ?_
                refine TL_name 123 (v' := .bool true) rfl (congrArg Value.bool (decide_eq_true rfl)) ?_
                refine TL_y rfl rfl (Y_pick_t rfl rfl) ?_
                refine TL_y rfl rfl (Y_assign rfl) ?_
                refine TL_nil ?_
                refine T_ret ?_
                exact RetG_1 (.inl rfl) rfl (ResV.tmp rfl) GivesTo.g (⟨rfl, rfl⟩)
              · refine RD_leaf (cells b12 (eventC (adE s name sku qty true) (X, cx)) 29 :: []) [0, 0, 27, 0, 9, 31, 0, 127, 0, 511, 1023] [] [(1, true), (3, true), (6, true), (8, true), (0, false), (4, false), (2, false), (5, false), (7, false), (9, false), (10, true)] (by decide +kernel) GivesTo.g ?_
                refine TF_y rfl rfl (Y_move rfl) ?_
                refine TF_y rfl rfl (Y_load_agg rfl rfl) ?_
                refine TF_y rfl rfl (Y_move rfl) ?_
                refine TF_y rfl rfl (Y_move rfl) ?_
                refine TF_anchor rfl ?_
                refine TL_build_slice rfl rfl rfl rfl rfl rfl ?_
                intro b105
                refine TL_osl (k := 0) eventR [] (Knows.const fun M => rfl) rfl (by simp) ?_
                refine TL_name 105 (v' := .slice (some ⟨b105, 0, none⟩) ([] : List EventD).length 0) rfl rfl ?_
                refine TF_end GivesTo.g ?_
                refine TF_anchor rfl ?_
                refine TL_build_slice rfl rfl rfl rfl rfl rfl ?_
                intro b109
                refine TL_osl (k := 1) eventR [adE s name sku qty true] (cells_one' (ex_rep (X, cx) (sep_sl slk) (hok true))) rfl (by decide) ?_
                refine TL_freeze_osl ?_
                refine TL_name 109 (v' := .slice (some ⟨b109, 0, none⟩) [adE s name sku qty true].length 1) rfl rfl ?_
                refine TF_end GivesTo.g ?_
                refine TF_anchor rfl ?_
                refine TL_append rfl rfl rfl rfl rfl slk (by simp only [List.length_nil]; omega) ?_
                intro A107 c107
                simp only [List.nil_append]
                refine TF_end GivesTo.g ?_
                refine TF_anchor rfl ?_
                refine TL_append rfl rfl rfl rfl rfl slk (by simp only [List.length_cons, List.length_nil]; omega) ?_
                intro A110 c110
                refine TL_freeze_osl ?_
                refine TF_end GivesTo.g ?_
                refine TF_anchor rfl ?_
                refine TL_call rfl rfl (lines_spec name slk (by simp only [List.length_append, List.length_cons, List.length_nil]; omega) (hqs true)) ?_
                rintro _ _ ⟨A112, c112, xs112, rfl, rfl, hx112, hl112⟩
                refine TF_end GivesTo.g ?_
                refine TF_anchor rfl ?_
                refine TL_call rfl rfl (of11_spec sku sln) ?_
                rintro _ _ ⟨rfl, rfl⟩
                refine TL_name 114 (v' := .int .i64 qty) rfl (by rw [hx112.of (hqs true), ad_set hR hI (by omega)]) ?_
                refine TF_end GivesTo.g ?_
                refine TF_y rfl rfl (Y_assign rfl) ?_
                refine TF_nil ?_
                refine thenS_normal ?_
                refine T_region ?_
                refine TL_y rfl rfl (Y_move rfl) ?_
                refine TL_y rfl rfl (Y_move rfl) ?_
                refine TL_y rfl rfl (Y_move rfl) ?_
                refine TL_y rfl rfl (Y_add rfl rfl (by omega)) ?_
                refine TL_y rfl rfl (Y_eq rfl rfl) ?_
                refine TL_name 119 (v' := .bool true) rfl (congrArg Value.bool (decide_eq_true rfl)) ?_
                refine TL_y rfl rfl (Y_move rfl) ?_
                refine TL_grun rfl rfl ?_
                refine TL_y rfl rfl (Y_move rfl) ?_
                refine TL_grun rfl rfl ?_
                refine TL_y rfl rfl (Y_move rfl) ?_
                refine TL_grun rfl rfl ?_
                refine TL_y rfl rfl (Y_eq rfl rfl) ?_
                refine TL_name 123 (v' := .bool true) rfl (congrArg Value.bool (decide_eq_true rfl)) ?_
                refine TL_y rfl rfl (Y_pick_t rfl rfl) ?_
                refine TL_y rfl rfl (Y_assign rfl) ?_
                refine TL_nil ?_
                refine T_ret ?_
                exact RetG_1 (.inl rfl) rfl (ResV.tmp rfl) GivesTo.g (⟨rfl, rfl⟩)
            · refine RD_leaf (cells b12 (eventC (adE s name sku qty true) (X, cx)) 29 :: []) [24, 0, 27, 0, 8, 31, 0, 127, 0, 511, 1023] [] [(1, true), (3, true), (6, true), (8, true), (4, false), (0, false), (2, false), (5, false), (7, false), (9, false), (10, true)] (by decide +kernel) GivesTo.g ?_
              refine TF_y rfl rfl (Y_move rfl) ?_
              refine TF_y rfl rfl (Y_load_agg rfl rfl) ?_
              refine TF_y rfl rfl (Y_move rfl) ?_
              refine TF_y rfl rfl (Y_move rfl) ?_
              refine TF_anchor rfl ?_
              refine TL_build_slice rfl rfl rfl rfl rfl rfl ?_
              intro b109
              refine TL_osl (k := 1) eventR [adE s name sku qty true] (cells_one' (ex_rep (X, cx) (sep_sl slk) (hok true))) rfl (by decide) ?_
              refine TL_freeze_osl ?_
              refine TL_name 109 (v' := .slice (some ⟨b109, 0, none⟩) [adE s name sku qty true].length 1) rfl rfl ?_
              refine TF_end GivesTo.g ?_
              refine TF_anchor rfl ?_
              refine TL_build_slice rfl rfl rfl rfl rfl rfl ?_
              intro b105
              refine TL_osl (k := 0) eventR [] (Knows.const fun M => rfl) rfl (by simp) ?_
              refine TL_name 105 (v' := .slice (some ⟨b105, 0, none⟩) ([] : List EventD).length 0) rfl rfl ?_
              refine TF_end GivesTo.g ?_
              refine TF_anchor rfl ?_
              refine TL_append rfl rfl rfl rfl rfl slk (by simp only [List.length_nil]; omega) ?_
              intro A107 c107
              simp only [List.nil_append]
              refine TF_end GivesTo.g ?_
              refine TF_anchor rfl ?_
              refine TL_append rfl rfl rfl rfl rfl slk (by simp only [List.length_cons, List.length_nil]; omega) ?_
              intro A110 c110
              refine TL_freeze_osl ?_
              refine TF_end GivesTo.g ?_
              refine TF_anchor rfl ?_
              refine TL_call rfl rfl (lines_spec name slk (by simp only [List.length_append, List.length_cons, List.length_nil]; omega) (hqs true)) ?_
              rintro _ _ ⟨A112, c112, xs112, rfl, rfl, hx112, hl112⟩
              refine TF_end GivesTo.g ?_
              refine TF_anchor rfl ?_
              refine TL_call rfl rfl (of11_spec sku sln) ?_
              rintro _ _ ⟨rfl, rfl⟩
              refine TL_name 114 (v' := .int .i64 qty) rfl (by rw [hx112.of (hqs true), ad_set hR hI (by omega)]) ?_
              refine TF_end GivesTo.g ?_
              refine TF_y rfl rfl (Y_assign rfl) ?_
              refine TF_nil ?_
              refine thenS_normal ?_
              refine T_region ?_
              refine TL_y rfl rfl (Y_move rfl) ?_
              refine TL_y rfl rfl (Y_move rfl) ?_
              refine TL_y rfl rfl (Y_move rfl) ?_
              refine TL_y rfl rfl (Y_add rfl rfl (by omega)) ?_
              refine TL_y rfl rfl (Y_eq rfl rfl) ?_
              refine TL_name 119 (v' := .bool true) rfl (congrArg Value.bool (decide_eq_true rfl)) ?_
              refine TL_y rfl rfl (Y_move rfl) ?_
              refine TL_grun rfl rfl ?_
              refine TL_y rfl rfl (Y_move rfl) ?_
              refine TL_grun rfl rfl ?_
              refine TL_y rfl rfl (Y_move rfl) ?_
              refine TL_grun rfl rfl ?_
              refine TL_y rfl rfl (Y_eq rfl rfl) ?_
              refine TL_name 123 (v' := .bool true) rfl (congrArg Value.bool (decide_eq_true rfl)) ?_
              refine TL_y rfl rfl (Y_pick_t rfl rfl) ?_
              refine TL_y rfl rfl (Y_assign rfl) ?_
              refine TL_nil ?_
              refine T_ret ?_
              exact RetG_1 (.inl rfl) rfl (ResV.tmp rfl) GivesTo.g (⟨rfl, rfl⟩)
        · refine RD_leaf (cells b12 (eventC (adE s name sku qty false) (X, cx)) 29 :: []) [24, 0, 27, 0, 8, 31, 0, 127, 0, 511, 1023] [] [(1, true), (3, true), (6, true), (8, true), (4, false), (0, false), (2, false), (5, false), (7, false), (9, false), (10, true)] (by decide +kernel) GivesTo.g ?_
          refine TF_y rfl rfl (Y_move rfl) ?_
          refine TF_y rfl rfl (Y_load_agg rfl rfl) ?_
          refine TF_y rfl rfl (Y_move rfl) ?_
          refine TF_y rfl rfl (Y_move rfl) ?_
          refine TF_anchor rfl ?_
          refine TL_build_slice rfl rfl rfl rfl rfl rfl ?_
          intro b98
          refine TL_osl (k := 1) eventR [adE s name sku qty false] (cells_one' (ex_rep (X, cx) (sep_sl slk) (hok false))) rfl (by decide) ?_
          refine TL_freeze_osl ?_
          refine TL_name 98 (v' := .slice (some ⟨b98, 0, none⟩) [adE s name sku qty false].length 1) rfl rfl ?_
          refine TF_end GivesTo.g ?_
          refine TF_anchor rfl ?_
          refine TL_build_slice rfl rfl rfl rfl rfl rfl ?_
          intro b94
          refine TL_osl (k := 0) eventR [] (Knows.const fun M => rfl) rfl (by simp) ?_
          refine TL_name 94 (v' := .slice (some ⟨b94, 0, none⟩) ([] : List EventD).length 0) rfl rfl ?_
          refine TF_end GivesTo.g ?_
          refine TF_anchor rfl ?_
          refine TL_append rfl rfl rfl rfl rfl slk (by simp only [List.length_nil]; omega) ?_
          intro A96 c96
          simp only [List.nil_append]
          refine TF_end GivesTo.g ?_
          refine TF_anchor rfl ?_
          refine TL_append rfl rfl rfl rfl rfl slk (by simp only [List.length_cons, List.length_nil]; omega) ?_
          intro A99 c99
          refine TL_freeze_osl ?_
          refine TF_end GivesTo.g ?_
          refine TF_anchor rfl ?_
          refine TL_call rfl rfl (lines_spec name slk (by simp only [List.length_append, List.length_cons, List.length_nil]; omega) (hqs false)) ?_
          rintro _ _ ⟨A101, c101, xs101, rfl, rfl, hx101, hl101⟩
          refine TF_end GivesTo.g ?_
          refine TF_anchor rfl ?_
          refine TL_call rfl rfl (of11_spec sku sln) ?_
          rintro _ _ ⟨rfl, rfl⟩
          refine TL_name 103 (v' := .int .i64 (lineF l name sku + qty)) rfl (by rw [hx101.of (hqs false), ad_more hR hI (by omega)]) ?_
          refine TF_end GivesTo.g ?_
          refine TF_y rfl rfl (Y_assign rfl) ?_
          refine TF_nil ?_
          refine thenS_normal ?_
          refine T_region ?_
          refine TL_y rfl rfl (Y_field_addr rfl) ?_
          refine TL_store rfl rfl rfl rfl rfl rfl ?_
          refine TL_nil ?_
          refine T_rd [0, 0, 3, 0, 8, 31, 0, 127, 0, 511, 1023] (by kernel_rfl) (by decide +kernel) ?_
          refine RD_pair 0 4 (by decide) ?_ ?_
          · refine RD_pair 2 4 (by decide) ?_ ?_
            · refine RD_leaf (cells b12 (eventC (adE s name sku qty true) (X, cx)) 29 :: []) [0, 0, 3, 0, 15, 31, 0, 127, 0, 511, 1023] [] [(1, true), (3, true), (6, true), (8, true), (0, false), (2, false), (4, false), (5, false), (7, false), (9, false), (10, true)] (by decide +kernel) GivesTo.g ?_
              refine TF_y rfl rfl (Y_move rfl) ?_
              refine TF_y rfl rfl (Y_load_agg rfl rfl) ?_
              refine TF_y rfl rfl (Y_move rfl) ?_
              refine TF_y rfl rfl (Y_move rfl) ?_
              refine TF_anchor rfl ?_
              refine TL_build_slice rfl rfl rfl rfl rfl rfl ?_
              intro b105
              refine TL_osl (k := 0) eventR [] (Knows.const fun M => rfl) rfl (by simp) ?_
              refine TL_name 105 (v' := .slice (some ⟨b105, 0, none⟩) ([] : List EventD).length 0) rfl rfl ?_
              refine TF_end GivesTo.g ?_
              refine TF_anchor rfl ?_
              refine TL_append rfl rfl rfl rfl rfl slk (by simp only [List.length_nil]; omega) ?_
              intro A107 c107
              simp only [List.nil_append]
              refine TF_end GivesTo.g ?_
              refine TF_anchor rfl ?_
              refine TL_build_slice rfl rfl rfl rfl rfl rfl ?_
              intro b109
              refine TL_osl (k := 1) eventR [adE s name sku qty true] (cells_one' (ex_rep (X, cx) (sep_sl slk) (hok true))) rfl (by decide) ?_
              refine TL_freeze_osl ?_
              refine TL_name 109 (v' := .slice (some ⟨b109, 0, none⟩) [adE s name sku qty true].length 1) rfl rfl ?_
              refine TF_end GivesTo.g ?_
              refine TF_anchor rfl ?_
              refine TL_append rfl rfl rfl rfl rfl slk (by simp only [List.length_cons, List.length_nil]; omega) ?_
              intro A110 c110
              refine TL_freeze_osl ?_
              refine TF_end GivesTo.g ?_
              refine TF_anchor rfl ?_
              refine TL_call rfl rfl (lines_spec name slk (by simp only [List.length_append, List.length_cons, List.length_nil]; omega) (hqs true)) ?_
              rintro _ _ ⟨A112, c112, xs112, rfl, rfl, hx112, hl112⟩
              refine TF_end GivesTo.g ?_
              refine TF_anchor rfl ?_
              refine TL_call rfl rfl (of11_spec sku sln) ?_
              rintro _ _ ⟨rfl, rfl⟩
              refine TL_name 114 (v' := .int .i64 qty) rfl (by rw [hx112.of (hqs true), ad_set hR hI (by omega)]) ?_
              refine TF_end GivesTo.g ?_
              refine TF_y rfl rfl (Y_assign rfl) ?_
              refine TF_nil ?_
              refine thenS_normal ?_
              refine T_region ?_
              refine TL_y rfl rfl (Y_move rfl) ?_
              refine TL_y rfl rfl (Y_move rfl) ?_
              refine TL_y rfl rfl (Y_move rfl) ?_
              refine TL_y rfl rfl (Y_add rfl rfl (by omega)) ?_
              refine TL_y rfl rfl (Y_eq rfl rfl) ?_
              refine TL_name 119 (v' := .bool true) rfl (congrArg Value.bool (decide_eq_true rfl)) ?_
              refine TL_y rfl rfl (Y_move rfl) ?_
              refine TL_grun rfl rfl ?_
              refine TL_y rfl rfl (Y_move rfl) ?_
              refine TL_grun rfl rfl ?_
              refine TL_y rfl rfl (Y_move rfl) ?_
              refine TL_grun rfl rfl ?_
              refine TL_y rfl rfl (Y_eq rfl rfl) ?_
              refine TL_name 123 (v' := .bool true) rfl (congrArg Value.bool (decide_eq_true rfl)) ?_
              refine TL_y rfl rfl (Y_pick_t rfl rfl) ?_
              refine TL_y rfl rfl (Y_assign rfl) ?_
              refine TL_nil ?_
              refine T_ret ?_
              exact RetG_1 (.inl rfl) rfl (ResV.tmp rfl) GivesTo.g (⟨rfl, rfl⟩)
            · refine RD_leaf (cells b12 (eventC (adE s name sku qty true) (X, cx)) 29 :: []) [0, 0, 27, 0, 9, 31, 0, 127, 0, 511, 1023] [] [(1, true), (3, true), (6, true), (8, true), (0, false), (4, false), (2, false), (5, false), (7, false), (9, false), (10, true)] (by decide +kernel) GivesTo.g ?_
              refine TF_y rfl rfl (Y_move rfl) ?_
              refine TF_y rfl rfl (Y_load_agg rfl rfl) ?_
              refine TF_y rfl rfl (Y_move rfl) ?_
              refine TF_y rfl rfl (Y_move rfl) ?_
              refine TF_anchor rfl ?_
              refine TL_build_slice rfl rfl rfl rfl rfl rfl ?_
              intro b105
              refine TL_osl (k := 0) eventR [] (Knows.const fun M => rfl) rfl (by simp) ?_
              refine TL_name 105 (v' := .slice (some ⟨b105, 0, none⟩) ([] : List EventD).length 0) rfl rfl ?_
              refine TF_end GivesTo.g ?_
              refine TF_anchor rfl ?_
              refine TL_build_slice rfl rfl rfl rfl rfl rfl ?_
              intro b109
              refine TL_osl (k := 1) eventR [adE s name sku qty true] (cells_one' (ex_rep (X, cx) (sep_sl slk) (hok true))) rfl (by decide) ?_
              refine TL_freeze_osl ?_
              refine TL_name 109 (v' := .slice (some ⟨b109, 0, none⟩) [adE s name sku qty true].length 1) rfl rfl ?_
              refine TF_end GivesTo.g ?_
              refine TF_anchor rfl ?_
              refine TL_append rfl rfl rfl rfl rfl slk (by simp only [List.length_nil]; omega) ?_
              intro A107 c107
              simp only [List.nil_append]
              refine TF_end GivesTo.g ?_
              refine TF_anchor rfl ?_
              refine TL_append rfl rfl rfl rfl rfl slk (by simp only [List.length_cons, List.length_nil]; omega) ?_
              intro A110 c110
              refine TL_freeze_osl ?_
              refine TF_end GivesTo.g ?_
              refine TF_anchor rfl ?_
              refine TL_call rfl rfl (lines_spec name slk (by simp only [List.length_append, List.length_cons, List.length_nil]; omega) (hqs true)) ?_
              rintro _ _ ⟨A112, c112, xs112, rfl, rfl, hx112, hl112⟩
              refine TF_end GivesTo.g ?_
              refine TF_anchor rfl ?_
              refine TL_call rfl rfl (of11_spec sku sln) ?_
              rintro _ _ ⟨rfl, rfl⟩
              refine TL_name 114 (v' := .int .i64 qty) rfl (by rw [hx112.of (hqs true), ad_set hR hI (by omega)]) ?_
              refine TF_end GivesTo.g ?_
              refine TF_y rfl rfl (Y_assign rfl) ?_
              refine TF_nil ?_
              refine thenS_normal ?_
              refine T_region ?_
              refine TL_y rfl rfl (Y_move rfl) ?_
              refine TL_y rfl rfl (Y_move rfl) ?_
              refine TL_y rfl rfl (Y_move rfl) ?_
              refine TL_y rfl rfl (Y_add rfl rfl (by omega)) ?_
              refine TL_y rfl rfl (Y_eq rfl rfl) ?_
              refine TL_name 119 (v' := .bool true) rfl (congrArg Value.bool (decide_eq_true rfl)) ?_
              refine TL_y rfl rfl (Y_move rfl) ?_
              refine TL_grun rfl rfl ?_
              refine TL_y rfl rfl (Y_move rfl) ?_
              refine TL_grun rfl rfl ?_
              refine TL_y rfl rfl (Y_move rfl) ?_
              refine TL_grun rfl rfl ?_
              refine TL_y rfl rfl (Y_eq rfl rfl) ?_
              refine TL_name 123 (v' := .bool true) rfl (congrArg Value.bool (decide_eq_true rfl)) ?_
              refine TL_y rfl rfl (Y_pick_t rfl rfl) ?_
              refine TL_y rfl rfl (Y_assign rfl) ?_
              refine TL_nil ?_
              refine T_ret ?_
              exact RetG_1 (.inl rfl) rfl (ResV.tmp rfl) GivesTo.g (⟨rfl, rfl⟩)
          · refine RD_leaf (cells b12 (eventC (adE s name sku qty true) (X, cx)) 29 :: []) [24, 0, 27, 0, 8, 31, 0, 127, 0, 511, 1023] [] [(1, true), (3, true), (6, true), (8, true), (4, false), (0, false), (2, false), (5, false), (7, false), (9, false), (10, true)] (by decide +kernel) GivesTo.g ?_
            refine TF_y rfl rfl (Y_move rfl) ?_
            refine TF_y rfl rfl (Y_load_agg rfl rfl) ?_
            refine TF_y rfl rfl (Y_move rfl) ?_
            refine TF_y rfl rfl (Y_move rfl) ?_
            refine TF_anchor rfl ?_
            refine TL_build_slice rfl rfl rfl rfl rfl rfl ?_
            intro b109
            refine TL_osl (k := 1) eventR [adE s name sku qty true] (cells_one' (ex_rep (X, cx) (sep_sl slk) (hok true))) rfl (by decide) ?_
            refine TL_freeze_osl ?_
            refine TL_name 109 (v' := .slice (some ⟨b109, 0, none⟩) [adE s name sku qty true].length 1) rfl rfl ?_
            refine TF_end GivesTo.g ?_
            refine TF_anchor rfl ?_
            refine TL_build_slice rfl rfl rfl rfl rfl rfl ?_
            intro b105
            refine TL_osl (k := 0) eventR [] (Knows.const fun M => rfl) rfl (by simp) ?_
            refine TL_name 105 (v' := .slice (some ⟨b105, 0, none⟩) ([] : List EventD).length 0) rfl rfl ?_
            refine TF_end GivesTo.g ?_
            refine TF_anchor rfl ?_
            refine TL_append rfl rfl rfl rfl rfl slk (by simp only [List.length_nil]; omega) ?_
            intro A107 c107
            simp only [List.nil_append]
            refine TF_end GivesTo.g ?_
            refine TF_anchor rfl ?_
            refine TL_append rfl rfl rfl rfl rfl slk (by simp only [List.length_cons, List.length_nil]; omega) ?_
            intro A110 c110
            refine TL_freeze_osl ?_
            refine TF_end GivesTo.g ?_
            refine TF_anchor rfl ?_
            refine TL_call rfl rfl (lines_spec name slk (by simp only [List.length_append, List.length_cons, List.length_nil]; omega) (hqs true)) ?_
            rintro _ _ ⟨A112, c112, xs112, rfl, rfl, hx112, hl112⟩
            refine TF_end GivesTo.g ?_
            refine TF_anchor rfl ?_
            refine TL_call rfl rfl (of11_spec sku sln) ?_
            rintro _ _ ⟨rfl, rfl⟩
            refine TL_name 114 (v' := .int .i64 qty) rfl (by rw [hx112.of (hqs true), ad_set hR hI (by omega)]) ?_
            refine TF_end GivesTo.g ?_
            refine TF_y rfl rfl (Y_assign rfl) ?_
            refine TF_nil ?_
            refine thenS_normal ?_
            refine T_region ?_
            refine TL_y rfl rfl (Y_move rfl) ?_
            refine TL_y rfl rfl (Y_move rfl) ?_
            refine TL_y rfl rfl (Y_move rfl) ?_
            refine TL_y rfl rfl (Y_add rfl rfl (by omega)) ?_
            refine TL_y rfl rfl (Y_eq rfl rfl) ?_
            refine TL_name 119 (v' := .bool true) rfl (congrArg Value.bool (decide_eq_true rfl)) ?_
            refine TL_y rfl rfl (Y_move rfl) ?_
            refine TL_grun rfl rfl ?_
            refine TL_y rfl rfl (Y_move rfl) ?_
            refine TL_grun rfl rfl ?_
            refine TL_y rfl rfl (Y_move rfl) ?_
            refine TL_grun rfl rfl ?_
            refine TL_y rfl rfl (Y_eq rfl rfl) ?_
            refine TL_name 123 (v' := .bool true) rfl (congrArg Value.bool (decide_eq_true rfl)) ?_
            refine TL_y rfl rfl (Y_pick_t rfl rfl) ?_
            refine TL_y rfl rfl (Y_assign rfl) ?_
            refine TL_nil ?_
            refine T_ret ?_
            exact RetG_1 (.inl rfl) rfl (ResV.tmp rfl) GivesTo.g (⟨rfl, rfl⟩)
  · refine T_region ?_
    refine TL_y rfl rfl (Y_move rfl) ?_
    refine TL_call rfl rfl (right11_spec slk) ?_
    rintro _ _ ⟨⟨r, rfl, hr⟩, rfl⟩
    obtain rfl : r = false := by cases r; rfl; exact absurd (hr.1 rfl) hR
    refine TL_y rfl rfl (Y_not rfl) ?_
    refine TL_name 20 (v' := .bool true) rfl (rfl) ?_
    refine TL_y rfl rfl (Y_move rfl) ?_
    refine TL_gskip rfl rfl rfl rfl ?_
    refine TL_gskip rfl rfl rfl rfl ?_
    refine TL_y rfl rfl (Y_pick_t rfl rfl) ?_
    refine TL_y rfl rfl (Y_move rfl) ?_
    refine TL_gskip rfl rfl rfl rfl ?_
    refine TL_gskip rfl rfl rfl rfl ?_
    refine TL_y rfl rfl (Y_pick_t rfl rfl) ?_
    refine TL_nil ?_
    refine T_cond_true rfl ?_
    refine T_region ?_
    refine TL_y rfl rfl (Y_assign rfl) ?_
    refine TL_nil ?_
    refine T_ret ?_
    refine thenS_ret ?_
    exact RetG_1 (.inl rfl) rfl (ResV.tmp rfl) GivesTo.g (⟨rfl, rfl⟩)
end Go.SL
set_option linter.unusedVariables false
namespace Go.SL
open Go Go.Proofs
abbrev sealR : Rep OrderD := orderR
end Go.SL
set_option linter.unusedVariables false
set_option linter.unusedSimpArgs false
namespace Go.SL
open Go Go.Proofs
theorem refTo_spec (L : List HP) (n most : Int) : Fn Try.prog 74 #[.int .i64 n, .int .i64 most] L (fun v L' => v = .bool (decide (rNum most n)) ∧ L' = L) := by
  refine Fn_enter Try.func74 rfl rfl rfl rfl ?_
  refine T_region ?_
  refine TL_y rfl rfl (Y_assign rfl) ?_
  refine TL_nil ?_
  refine T_region ?_
  refine TL_y rfl rfl (Y_move rfl) ?_
  refine TL_both 6 11 (rNum most n) ?_ ?_
  · refine TL_y rfl rfl (Y_ge rfl rfl) ?_
    refine TL_y rfl rfl (Y_move rfl) ?_
    refine TL_splitd 7 rfl (fun h7 => ?_) (fun h7 => ?_)
    · refine TL_grun rfl rfl ?_
      refine TL_y rfl rfl (Y_move rfl) ?_
      refine TL_grun rfl rfl ?_
      refine TL_y rfl rfl (Y_move rfl) ?_
      refine TL_grun rfl rfl ?_
      refine TL_y rfl rfl (Y_le rfl rfl) ?_
      refine TL_y rfl rfl (Y_pick_t rfl rfl) ?_
      refine TL_chain_end rfl ?_ (by repeat (first | exact sub_refl | refine sub_ext rfl ?_)) GivesTo.g
      exact congrArg Value.bool (decide_eq_decide.2 (by unfold rNum; omega))
    · refine TL_gskip rfl rfl rfl rfl ?_
      refine TL_gskip rfl rfl rfl rfl ?_
      refine TL_gskip rfl rfl rfl rfl ?_
      refine TL_y rfl rfl (Y_pick_f rfl rfl) ?_
      refine TL_chain_end rfl ?_ (by repeat (first | exact sub_refl | refine sub_ext rfl ?_)) GivesTo.g
      exact congrArg Value.bool (decide_eq_false (by unfold rNum; omega)).symm
  refine TL_y rfl rfl (Y_assign rfl) ?_
  refine TL_nil ?_
  refine T_ret ?_
  exact RetG_1 (.inl rfl) rfl (ResV.tmp rfl) GivesTo.g (⟨rfl, rfl⟩)
theorem refVector_spec {L : List HP} {A : Option Addr} {c : Nat} {xs : List Int} (hk : SlK L (intR .i64) A c xs) : Fn Try.prog 75 #[.slice A xs.length c] L (fun v L' => v = .bool (decide (rVec xs)) ∧ L' = L) := by
  refine Fn_enter Try.func75 rfl rfl rfl rfl ?_
  refine T_gives hk.lay ?_
  refine hk.tail.lens fun hl => ?_
  simp only [maxEl] at hl
  refine T_region ?_
  refine TL_y rfl rfl (Y_assign rfl) ?_
  refine TL_nil ?_
  refine T_seq ?_
  refine T_region ?_
  refine TL_y rfl rfl (Y_assign rfl) ?_
  refine TL_nil ?_
  refine T_block ?_
  refine T_loopK (σ := Nat) [0] (fun i => i ≤ xs.length ∧ ∀ n ∈ xs.take i, rNum 2147483647 n) (fun i kv => (3, .int .i64 (i : Int)) :: kv) (fun i => sl (intR .i64) A c xs :: L) (fun i => xs.length - i) (0) rfl (⟨Nat.zero_le _, by simp⟩) (GivesTo.g) (sub_cons rfl (sub_cons rfl (sub_nil))) ?_
  intro i hi
  refine T_seq ?_
  refine T_region ?_
  refine TL_y rfl rfl (Y_move rfl) ?_
  refine TL_y rfl rfl (Y_move rfl) ?_
  refine TL_y rfl rfl (Y_len rfl) ?_
  refine TL_y rfl rfl (Y_lt rfl rfl) ?_
  refine TL_nil ?_
  refine T_if rfl (fun h7 => ?_) (fun h7 => ?_)
  · refine T_skip ?_
    refine thenS_normal ?_
    refine T_seq ?_
    refine T_block ?_
    refine T_region ?_
    refine TL_y rfl rfl (Y_move rfl) ?_
    refine TL_y rfl rfl (Y_move rfl) ?_
    obtain ⟨u, hu⟩ : ∃ u, xs[i]? = some u := ⟨_, List.getElem?_eq_getElem (by omega)⟩
    refine TL_index_int rfl rfl rfl slk hu ?_
    intro hi12 bi12 oi12
    refine TL_y rfl rfl (Y_load_row rfl rfl) ?_
    refine TL_call rfl rfl (refTo_spec _ _ _) ?_
    rintro _ _ ⟨rfl, rfl⟩
    refine TL_y rfl rfl (Y_not_d rfl) ?_
    refine TL_nil ?_
    refine T_if rfl (fun h15 => ?_) (fun h15 => ?_)
    · refine T_region ?_
      refine TL_y rfl rfl (Y_assign rfl) ?_
      refine TL_nil ?_
      refine T_ret ?_
      refine inB_ret ?_
      refine thenS_ret ?_
      refine thenS_ret ?_
      refine inB_ret ?_
      refine thenS_ret ?_
      exact RetG_1 (.inl rfl) rfl (ResV.tmp rfl) GivesTo.g (⟨by rw [decide_eq_false]; intro h; exact h15 (h.1 u (List.mem_of_getElem? hu)), rfl⟩)
    · refine T_skip ?_
      refine inB_normal ?_
      refine thenS_normal ?_
      refine T_region_last ?_
      refine TL_y rfl rfl (Y_move rfl) ?_
      refine TL_y rfl rfl (Y_add rfl rfl (by omega)) ?_
      refine TL_name 9 (v' := .int .i64 ((i + 1 : Nat) : Int)) rfl (rfl) ?_
      refine TL_y rfl rfl (Y_assign rfl) ?_
      refine TL_nil ?_
      refine thenS_normal ?_
      exact ⟨i + 1, ⟨by omega, by rw [take_at hu]; intro n hn; rcases List.mem_append.1 hn with h | h; exact hi.2 n h; (simp at h; subst h; exact Classical.not_not.1 h15)⟩, by omega, holds_to (sub_cons rfl (sub_cons rfl (sub_nil))) GivesTo.g⟩
  · refine T_exit ?_
    refine thenS_exit ?_
    refine thenS_exit ?_
    refine inB_hit ?_
    refine thenS_normal ?_
    refine T_region ?_
    refine TL_y rfl rfl (Y_move rfl) ?_
    refine TL_y rfl rfl (Y_len rfl) ?_
    refine TL_both 15 32 (xs.length ≤ 7 ∧ lastZero xs = false) ?_ ?_
    · refine TL_y rfl rfl (Y_le rfl rfl) ?_
      refine TL_y rfl rfl (Y_move rfl) ?_
      refine TL_splitd 19 rfl (fun h19 => ?_) (fun h19 => ?_)
      · refine TL_grun rfl rfl ?_
        refine TL_y rfl rfl (Y_move rfl) ?_
        refine TL_grun rfl rfl ?_
        refine TL_y rfl rfl (Y_len rfl) ?_
        refine TL_grun rfl rfl ?_
        refine TL_y rfl rfl (Y_eq rfl rfl) ?_
        refine TL_grun rfl rfl ?_
        refine TL_y rfl rfl (Y_move rfl) ?_
        refine TL_splitd 23 rfl (fun h23 => ?_) (fun h23 => ?_)
        · refine TL_gskip rfl rfl rfl rfl ?_
          refine TL_gskip rfl rfl rfl rfl ?_
          refine TL_gskip rfl rfl rfl rfl ?_
          refine TL_gskip rfl rfl rfl rfl ?_
          refine TL_gskip rfl rfl rfl rfl ?_
          refine TL_gskip rfl rfl rfl rfl ?_
          refine TL_gskip rfl rfl rfl rfl ?_
          refine TL_grun rfl rfl ?_
          refine TL_y rfl rfl (Y_pick_t rfl rfl) ?_
          refine TL_y rfl rfl (Y_pick_t rfl rfl) ?_
          refine TL_chain_end rfl ?_ (by repeat (first | exact sub_refl | refine sub_ext rfl ?_)) GivesTo.g
          exact congrArg Value.bool (decide_eq_true (by simp [lastZero]; omega)).symm
        · refine TL_grun rfl rfl ?_
          refine TL_y rfl rfl (Y_move rfl) ?_
          refine TL_grun rfl rfl ?_
          refine TL_y rfl rfl (Y_move rfl) ?_
          refine TL_grun rfl rfl ?_
          refine TL_y rfl rfl (Y_len rfl) ?_
          refine TL_grun rfl rfl ?_
          refine TL_y rfl rfl (Y_sub rfl rfl (by omega)) ?_
          refine TL_name 27 (v' := .int .i64 ((xs.length - 1 : Nat) : Int)) rfl (by congr 1; omega) ?_
          refine TL_grun rfl rfl ?_
          obtain ⟨q, hq⟩ : ∃ q, xs[xs.length - 1]? = some q := ⟨_, List.getElem?_eq_getElem (by omega)⟩
          refine TL_index_int rfl rfl rfl slk hq ?_
          intro hi28 bi28 oi28
          refine TL_grun rfl rfl ?_
          refine TL_y rfl rfl (Y_load_row rfl rfl) ?_
          refine TL_grun rfl rfl ?_
          refine TL_y rfl rfl (Y_ne rfl rfl) ?_
          refine TL_grun rfl rfl ?_
          refine TL_y rfl rfl (Y_pick_f rfl rfl) ?_
          refine TL_y rfl rfl (Y_pick_t rfl rfl) ?_
          refine TL_chain_end rfl ?_ (by repeat (first | exact sub_refl | refine sub_ext rfl ?_)) GivesTo.g
          exact congrArg Value.bool (decide_eq_decide.2 (by simp [lastZero, hq]; omega))
      · refine TL_gskip rfl rfl rfl rfl ?_
        refine TL_gskip rfl rfl rfl rfl ?_
        refine TL_gskip rfl rfl rfl rfl ?_
        refine TL_gskip rfl rfl rfl rfl ?_
        refine TL_gskip_u rfl rfl rfl ?_
        refine TL_gskip_u rfl rfl rfl ?_
        refine TL_gskip_u rfl rfl rfl ?_
        refine TL_gskip_u rfl rfl rfl ?_
        refine TL_gskip_u rfl rfl rfl ?_
        refine TL_gskip_u rfl rfl rfl ?_
        refine TL_gskip_u rfl rfl rfl ?_
        refine TL_gskip rfl rfl rfl rfl ?_
        refine TL_y rfl rfl (Y_pick_f rfl rfl) ?_
        refine TL_chain_end rfl ?_ (by repeat (first | exact sub_refl | refine sub_ext rfl ?_)) GivesTo.g
        exact congrArg Value.bool (decide_eq_false (by simp [lastZero]; omega)).symm
    refine TL_y rfl rfl (Y_assign rfl) ?_
    refine TL_nil ?_
    refine T_ret ?_
    have hall : ∀ n ∈ xs, rNum 2147483647 n := by have := hi.2; rwa [List.take_of_length_le (by omega)] at this
    exact RetG_1 (.inl rfl) rfl (ResV.tmp rfl) GivesTo.g (⟨by rw [decide_eq_decide.2 (show rVec xs ↔ xs.length ≤ 7 ∧ lastZero xs = false from ⟨fun h => h.2, fun h => ⟨hall, h⟩⟩)], rfl⟩)
theorem rightSeal_spec {L : List HP} {A : Option Addr} {c : Nat} (x : OrderD) (hx : orderOk' x) (hk : SlK L (intR .i64) A c x.cut) : Fn Try.prog 46 #[.agg (List.toArray (orderC x (A, c)))] L (fun v L' => v = .bool (decide (rSeal x)) ∧ L' = L) := by
  refine Fn_enter Try.func46 rfl rfl rfl rfl ?_
  refine T_gives hk.lay ?_
  refine T_region ?_
  refine TL_box rfl rfl rfl ?_
  intro b1
  refine TL_y rfl rfl (Y_assign rfl) ?_
  refine TL_nil ?_
  refine T_region ?_
  refine TL_y rfl rfl (Y_field_addr rfl) ?_
  refine TL_y rfl rfl (Y_load rfl rfl) ?_
  refine TL_call rfl rfl (refName_spec _ x.token hx.1) ?_
  rintro _ _ ⟨rfl, rfl⟩
  refine TL_both 15 20 (rSeal x) ?_ ?_
  · refine TL_y rfl rfl (Y_move rfl) ?_
    refine TL_splitd 6 rfl (fun h6 => ?_) (fun h6 => ?_)
    · refine TL_grun rfl rfl ?_
      refine TL_y rfl rfl (Y_field_addr rfl) ?_
      refine TL_grun rfl rfl ?_
      refine TL_y rfl rfl (Y_load rfl rfl) ?_
      refine TL_grun rfl rfl ?_
      refine TL_call rfl rfl (refName_spec _ x.cart hx.2.1) ?_
      rintro _ _ ⟨rfl, rfl⟩
      refine TL_y rfl rfl (Y_pick_t rfl rfl) ?_
      refine TL_y rfl rfl (Y_move rfl) ?_
      refine TL_splitd 11 rfl (fun h11 => ?_) (fun h11 => ?_)
      · refine TL_grun rfl rfl ?_
        refine TL_y rfl rfl (Y_field_addr rfl) ?_
        refine TL_grun rfl rfl ?_
        refine TL_y rfl rfl (Y_load rfl rfl) ?_
        refine TL_grun rfl rfl ?_
        refine TL_call rfl rfl (refTo_spec _ x.epoch 2147483647) ?_
        rintro _ _ ⟨rfl, rfl⟩
        refine TL_y rfl rfl (Y_pick_t rfl rfl) ?_
        refine TL_y rfl rfl (Y_move rfl) ?_
        refine TL_splitd 16 rfl (fun h16 => ?_) (fun h16 => ?_)
        · refine TL_grun rfl rfl ?_
          refine TL_y rfl rfl (Y_field_addr rfl) ?_
          refine TL_grun rfl rfl ?_
          refine TL_y rfl rfl (Y_load rfl rfl) ?_
          refine TL_grun rfl rfl ?_
          refine TL_call rfl rfl (refVector_spec slk) ?_
          rintro _ _ ⟨rfl, rfl⟩
          refine TL_y rfl rfl (Y_pick_t rfl rfl) ?_
          refine TL_chain_end rfl ?_ (by repeat (first | exact sub_refl | refine sub_ext rfl ?_)) GivesTo.g
          exact congrArg Value.bool (decide_eq_decide.2 (by simp [rSeal, *]))
        · refine TL_gskip rfl rfl rfl rfl ?_
          refine TL_gskip rfl rfl rfl rfl ?_
          refine TL_gskip rfl rfl rfl rfl ?_
          refine TL_y rfl rfl (Y_pick_f rfl rfl) ?_
          refine TL_chain_end rfl ?_ (by repeat (first | exact sub_refl | refine sub_ext rfl ?_)) GivesTo.g
          exact congrArg Value.bool (decide_eq_false (by simp [rSeal, *])).symm
      · refine TL_gskip rfl rfl rfl rfl ?_
        refine TL_gskip rfl rfl rfl rfl ?_
        refine TL_gskip rfl rfl rfl rfl ?_
        refine TL_y rfl rfl (Y_pick_f rfl rfl) ?_
        refine TL_y rfl rfl (Y_move rfl) ?_
        refine TL_gskip rfl rfl rfl rfl ?_
        refine TL_gskip rfl rfl rfl rfl ?_
        refine TL_gskip rfl rfl rfl rfl ?_
        refine TL_y rfl rfl (Y_pick_f rfl rfl) ?_
        refine TL_chain_end rfl ?_ (by repeat (first | exact sub_refl | refine sub_ext rfl ?_)) GivesTo.g
        exact congrArg Value.bool (decide_eq_false (by simp [rSeal, *])).symm
    · refine TL_gskip rfl rfl rfl rfl ?_
      refine TL_gskip rfl rfl rfl rfl ?_
      refine TL_gskip rfl rfl rfl rfl ?_
      refine TL_y rfl rfl (Y_pick_f rfl rfl) ?_
      refine TL_y rfl rfl (Y_move rfl) ?_
      refine TL_gskip rfl rfl rfl rfl ?_
      refine TL_gskip rfl rfl rfl rfl ?_
      refine TL_gskip rfl rfl rfl rfl ?_
      refine TL_y rfl rfl (Y_pick_f rfl rfl) ?_
      refine TL_y rfl rfl (Y_move rfl) ?_
      refine TL_gskip rfl rfl rfl rfl ?_
      refine TL_gskip rfl rfl rfl rfl ?_
      refine TL_gskip rfl rfl rfl rfl ?_
      refine TL_y rfl rfl (Y_pick_f rfl rfl) ?_
      refine TL_chain_end rfl ?_ (by repeat (first | exact sub_refl | refine sub_ext rfl ?_)) GivesTo.g
      exact congrArg Value.bool (decide_eq_false (by simp [rSeal, *])).symm
  refine TL_y rfl rfl (Y_assign rfl) ?_
  refine TL_nil ?_
  refine T_ret ?_
  exact RetG_1 (.inl rfl) rfl (ResV.tmp rfl) GivesTo.g (⟨rfl, rfl⟩)
end Go.SL
set_option linter.unusedVariables false
set_option linter.unusedSimpArgs false
namespace Go.SL
open Go Go.Proofs
abbrev orderV (x : OrderD) (q : Option Addr × Nat) : Value := .agg (List.toArray (orderC x q))
def selP (e : EventD) (x : OrderD) : Prop := x.cart = e.cart ∧ e.epoch ≤ x.epoch ∧ hasV x.cut e.dot
instance (e : EventD) (x : OrderD) : Decidable (selP e x) := by unfold selP; exact inferInstance
def belC (s : List OrderD) (e : EventD) : Option OrderD := s.find? fun x => decide (selP e x)
def belB (s : List OrderD) (e : EventD) : Bool := (belC s e).isSome
def belN (s : List OrderD) (e : EventD) : Int := match belC s e with
  | some x => x.epoch
  | none => 0
def epochC (s : List OrderD) (name : ByteArray) : Nat := s.countP fun x => decide (x.cart = name)
def CheckC (s : List OrderD) : Prop := ∀ i x, s[i]? = some x → rSeal x ∧ x.epoch = (epochC (s.take i) x.cart : Int)
def ordC12 (l : List EventD) (s : List OrderD) : List EventD := l.filter fun e => belB s e
def openC (l : List EventD) (s : List OrderD) : List EventD := l.filter fun e => !belB s e
def ordLC (l : List EventD) (s : List OrderD) (name : ByteArray) (ep : Int) : List EventD := l.filter fun e => belB s e && decide (belN s e = ep) && decide (e.cart = name)
def belowB (a b : List Int) : Bool := (List.range (max a.length b.length)).all fun i : Nat => decide (ofV a (i : Int) ≤ ofV b (i : Int))
def wholeC (applied : List Int) (s : List OrderD) (name : ByteArray) (ep : Int) : Bool := match s.find? fun x => decide (x.cart = name) && decide (x.epoch = ep) with
  | some x => belowB x.cut applied
  | none => false
theorem find_at {α : Type} {p : α → Bool} {l : List α} {i : Nat} {x : α} (hx : l[i]? = some x) (hp : p x = true) (hn : ∀ y ∈ l.take i, p y = false) : l.find? p = some x := by
  have hd : l.drop i = x :: l.drop (i + 1) := by
    rw [List.drop_eq_getElem_cons (List.getElem?_eq_some_iff.1 hx).1, (List.getElem?_eq_some_iff.1 hx).2]
  have h1 : (l.take i).find? p = none := List.find?_eq_none.2 fun y hy => by rw [hn y hy]; simp
  rw [← List.take_append_drop i l, List.find?_append, h1, hd, List.find?_cons_of_pos hp]; rfl
theorem find_no {α : Type} {p : α → Bool} {l : List α} (hn : ∀ y ∈ l, p y = false) : l.find? p = none := List.find?_eq_none.2 fun y hy => by rw [hn y hy]; simp
/-! ### IndexFunc over seals -/
theorem indexS_spec {L : List HP} {A : Option Addr} {c : Nat} {s : List OrderD} (W : HP) (want : OrderD → Bool) (f : FuncId) [IsCall Try.prog f] (caps : List Value)
    (hspec : ∀ (x : OrderD) (q : Option Addr × Nat) (L1 : List HP), x ∈ s → orderOk' x → SlN L1 (intR .i64) q.1 q.2 x.cut → Fn Try.prog f ([] ++ [orderV x q] ++ caps).toArray (W :: L1) (fun v L' => v = .bool (want x) ∧ L' = W :: L1))
    (hk : SlK L orderR A c s) : Fn Try.prog 49 #[.slice A s.length c, .func (.func f) #[] caps.toArray] (W :: L) (fun v L' => (∃ r : Int, v = .int .i64 r ∧ ((r < 0 ∧ ∀ x ∈ s, want x = false) ∨ ∃ (i : Nat) (x : OrderD), r = (i : Int) ∧ s[i]? = some x ∧ want x = true ∧ ∀ y ∈ s.take i, want y = false)) ∧ L' = W :: L) := by
  refine Fn_enter Try.func49 rfl rfl rfl rfl ?_
  refine T_gives (SlK.lay hk.tail) ?_
  refine SlN.lens (sln (A := A) (c := c)) fun hl => ?_
  simp only [maxEl] at hl
  refine T_region ?_
  refine TL_y rfl rfl (Y_assign rfl) ?_
  refine TL_nil ?_
  refine T_seq ?_
  refine T_region ?_
  refine TL_y rfl rfl (Y_move rfl) ?_
  refine TL_y rfl rfl (Y_len rfl) ?_
  refine TL_y rfl rfl (Y_move rfl) ?_
  refine TL_nil ?_
  refine T_block ?_
  refine T_loopK (σ := Nat) [0, 1, 7] (fun i => i ≤ s.length ∧ ∀ x ∈ s.take i, want x = false) (fun i kv => (8, .int .i64 (i : Int)) :: kv) (fun i => W :: sl orderR A c s :: L) (fun i => s.length - i) (0) rfl (⟨Nat.zero_le _, by simp⟩) (Gives.swap _ _ _) (sub_cons rfl (sub_cons rfl (sub_cons rfl (sub_cons rfl (sub_nil))))) ?_
  intro i hi
  refine T_region ?_
  refine TL_y rfl rfl (Y_lt rfl rfl) ?_
  refine TL_nil ?_
  refine T_seq ?_
  refine T_if rfl (fun h9 => ?_) (fun h9 => ?_)
  · refine T_skip ?_
    refine thenS_normal ?_
    refine T_seq ?_
    refine T_block ?_
    obtain ⟨x, hx⟩ : ∃ x, s[i]? = some x := ⟨_, List.getElem?_eq_getElem (by omega)⟩
    have hxm := List.mem_of_getElem? hx
    refine T_region ?_
    refine TL_y rfl rfl (Y_move rfl) ?_
    refine TL_y rfl rfl (Y_assign rfl) ?_
    refine TL_nil ?_
    refine T_region ?_
    refine TL_y rfl rfl (Y_move rfl) ?_
    refine TL_y rfl rfl (Y_move rfl) ?_
    refine TL_y rfl rfl (Y_move rfl) ?_
    refine TL_index_n rfl rfl rfl (rfl) ((sln (A := A) (c := c))) (hx) ?_
    intro bn14 on14 hA14 hk14
    have hu14 := hx
    refine TL_load_nx rfl rfl hk14 hu14 (fun _ => rfl) ?_
    intro p15 ok15
    simp only [List.cons_append, List.nil_append]
    refine TL_gives (show Gives _ (W :: sl (intR .i64) p15.1 p15.2 x.cut :: sl orderR A c s :: L) from GivesTo.g) ?_
    refine TL_call_fn rfl rfl rfl (hspec x p15 _ hxm ok15 (SlK.n slk)) ?_
    rintro _ _ ⟨rfl, rfl⟩
    refine TL_nil ?_
    refine T_cond rfl (fun h16 => ?_) (fun h16 => ?_)
    · refine T_region ?_
      refine TL_y rfl rfl (Y_move rfl) ?_
      refine TL_y rfl rfl (Y_assign rfl) ?_
      refine TL_nil ?_
      refine T_ret ?_
      refine inB_ret ?_
      refine thenS_ret ?_
      refine thenS_ret ?_
      refine inB_ret ?_
      refine thenS_ret ?_
      refine RetQ.gives (show Gives _ (W :: L) from GivesTo.g) ?_
      exact RetG_1 (.inl rfl) rfl (ResV.tmp rfl) GivesTo.g (⟨⟨_, rfl, .inr ⟨i, x, rfl, hx, h16, hi.2⟩⟩, rfl⟩)
    · refine T_skip ?_
      refine inB_normal ?_
      refine thenS_normal ?_
      refine T_region_last ?_
      refine TL_y rfl rfl (Y_add rfl rfl (by omega)) ?_
      refine TL_name 18 (v' := .int .i64 ((i + 1 : Nat) : Int)) rfl (rfl) ?_
      refine TL_y rfl rfl (Y_move rfl) ?_
      refine TL_nil ?_
      refine thenS_normal ?_
      exact ⟨i + 1, ⟨by omega, by rw [takeAt hx]; intro y hy; rcases List.mem_append.1 hy with h | h; exact hi.2 y h; (rw [List.mem_singleton.1 h]; exact h16)⟩, by omega, holds_to (sub_cons rfl (sub_cons rfl (sub_cons rfl (sub_cons rfl (sub_nil))))) GivesTo.g⟩
  · refine T_exit ?_
    refine thenS_exit ?_
    refine thenS_exit ?_
    refine inB_hit ?_
    refine thenS_normal ?_
    refine T_region ?_
    refine TL_y rfl rfl (Y_assign rfl) ?_
    refine TL_nil ?_
    refine T_ret ?_
    have hno := hi.2
    rw [List.take_of_length_le (show s.length ≤ i by omega)] at hno
    refine RetQ.gives (show Gives _ (W :: L) from GivesTo.g) ?_
    exact RetG_1 (.inl rfl) rfl (ResV.tmp rfl) GivesTo.g (⟨⟨_, rfl, .inl ⟨by omega, hno⟩⟩, rfl⟩)
theorem belongs1_spec {L : List HP} {b2 : Nat} {e : EventD} {p q : Option Addr × Nat} (x : OrderD) (hk : SlN L (intR .i64) q.1 q.2 x.cut) : Fn Try.prog 50 #[orderV x q, .pointer (some ⟨b2, 0, none⟩)] (cells b2 (eventC e p) 29 :: L) (fun v L' => v = .bool (decide (selP e x)) ∧ L' = cells b2 (eventC e p) 29 :: L) := by
  refine Fn_enter Try.func50 rfl rfl rfl rfl ?_
  refine T_region ?_
  refine TL_box rfl rfl rfl ?_
  intro b2
  refine TL_y rfl rfl (Y_assign rfl) ?_
  refine TL_nil ?_
  refine T_region ?_
  refine TL_y rfl rfl (Y_field_addr rfl) ?_
  refine TL_y rfl rfl (Y_load rfl rfl) ?_
  refine TL_y rfl rfl (Y_field_addr rfl) ?_
  refine TL_y rfl rfl (Y_load rfl rfl) ?_
  refine TL_y rfl rfl (Y_str_eq rfl rfl) ?_
  refine TL_y rfl rfl (Y_move rfl) ?_
  refine TL_splitd 9 rfl (fun h9 => ?_) (fun h9 => ?_)
  · refine TL_grun rfl rfl ?_
    refine TL_y rfl rfl (Y_field_addr rfl) ?_
    refine TL_grun rfl rfl ?_
    refine TL_y rfl rfl (Y_load rfl rfl) ?_
    refine TL_grun rfl rfl ?_
    refine TL_y rfl rfl (Y_field_addr rfl) ?_
    refine TL_grun rfl rfl ?_
    refine TL_y rfl rfl (Y_load rfl rfl) ?_
    refine TL_grun rfl rfl ?_
    refine TL_y rfl rfl (Y_ge rfl rfl) ?_
    refine TL_y rfl rfl (Y_pick_t rfl rfl) ?_
    refine TL_y rfl rfl (Y_move rfl) ?_
    refine TL_splitd 16 rfl (fun h16 => ?_) (fun h16 => ?_)
    · refine TL_grun rfl rfl ?_
      refine TL_y rfl rfl (Y_field_addr rfl) ?_
      refine TL_grun rfl rfl ?_
      refine TL_y rfl rfl (Y_load rfl rfl) ?_
      refine TL_grun rfl rfl ?_
      refine TL_y rfl rfl (Y_field_addr rfl) ?_
      refine TL_grun rfl rfl ?_
      refine TL_y rfl rfl (Y_load_agg rfl rfl) ?_
      refine TL_grun rfl rfl ?_
      refine TL_call rfl rfl (vvHas_spec hk.tail.tail e.dot) ?_
      rintro _ _ ⟨rfl, rfl⟩
      refine TL_y rfl rfl (Y_pick_t rfl rfl) ?_
      refine TL_y rfl rfl (Y_assign rfl) ?_
      refine TL_nil ?_
      refine T_ret ?_
      exact RetG_1 (.inl rfl) rfl (ResV.tmp rfl) GivesTo.g (⟨congrArg Value.bool (decide_eq_decide.2 ⟨fun h => ⟨h9, h16, h⟩, fun h => h.2.2⟩), rfl⟩)
    · refine TL_gskip rfl rfl rfl rfl ?_
      refine TL_gskip rfl rfl rfl rfl ?_
      refine TL_gskip rfl rfl rfl rfl ?_
      refine TL_gskip rfl rfl rfl rfl ?_
      refine TL_gskip rfl rfl rfl rfl ?_
      refine TL_y rfl rfl (Y_pick_f rfl rfl) ?_
      refine TL_y rfl rfl (Y_assign rfl) ?_
      refine TL_nil ?_
      refine T_ret ?_
      exact RetG_1 (.inl rfl) rfl (ResV.tmp rfl) GivesTo.g (⟨congrArg Value.bool (decide_eq_false fun h => h16 h.2.1).symm, rfl⟩)
  · refine TL_gskip rfl rfl rfl rfl ?_
    refine TL_gskip rfl rfl rfl rfl ?_
    refine TL_gskip rfl rfl rfl rfl ?_
    refine TL_gskip rfl rfl rfl rfl ?_
    refine TL_gskip rfl rfl rfl rfl ?_
    refine TL_y rfl rfl (Y_pick_f rfl rfl) ?_
    refine TL_y rfl rfl (Y_move rfl) ?_
    refine TL_gskip rfl rfl rfl rfl ?_
    refine TL_gskip rfl rfl rfl rfl ?_
    refine TL_gskip rfl rfl rfl rfl ?_
    refine TL_gskip rfl rfl rfl rfl ?_
    refine TL_gskip rfl rfl rfl rfl ?_
    refine TL_y rfl rfl (Y_pick_f rfl rfl) ?_
    refine TL_y rfl rfl (Y_assign rfl) ?_
    refine TL_nil ?_
    refine T_ret ?_
    exact RetG_1 (.inl rfl) rfl (ResV.tmp rfl) GivesTo.g (⟨congrArg Value.bool (decide_eq_false fun h => h9 h.1).symm, rfl⟩)
theorem belongs_spec {L : List HP} {A : Option Addr} {c : Nat} {s : List OrderD} (e : EventD) (p : Option Addr × Nat) (hk : SlK L orderR A c s) : Fn Try.prog 24 #[evV e p, .slice A s.length c] L (fun v L' => v = .tuple #[.int .i64 (belN s e), .bool (belB s e)] ∧ L' = L) := by
  refine Fn_enter Try.func24 rfl rfl rfl rfl ?_
  refine T_gives hk.lay ?_
  refine T_region ?_
  refine TL_box rfl rfl rfl ?_
  intro b2
  refine TL_y rfl rfl (Y_assign rfl) ?_
  refine TL_y rfl rfl (Y_assign rfl) ?_
  refine TL_nil ?_
  refine T_region ?_
  refine TL_y rfl rfl (Y_move rfl) ?_
  refine TL_y rfl rfl (Y_make_func rfl rfl) ?_
  refine TL_pullc b2 ?_
  refine TL_call rfl rfl (indexS_spec (cells b2 (eventC e p) 29) (fun x ↦ decide (selP e x)) 50 [.pointer (some ⟨b2, 0, none⟩)] (fun x q L1 _ _ hk1 ↦ belongs1_spec x hk1) slk) ?_
  rintro _ _ ⟨⟨r, rfl, hr⟩, rfl⟩
  refine TL_y rfl rfl (Y_assign rfl) ?_
  refine TL_nil ?_
  refine T_seq ?_
  rcases hr with ⟨h0, hn⟩ | ⟨i, x, rfl, hx, hw, hb⟩
  · refine T_region ?_
    refine TL_y rfl rfl (Y_move rfl) ?_
    refine TL_y rfl rfl (Y_lt rfl rfl) ?_
    refine TL_name 11 (v' := .bool true) rfl (congrArg Value.bool (decide_eq_true h0)) ?_
    refine TL_nil ?_
    refine T_cond_true rfl ?_
    refine T_region ?_
    refine TL_y rfl rfl (Y_assign rfl) ?_
    refine TL_y rfl rfl (Y_assign rfl) ?_
    refine TL_nil ?_
    refine T_ret ?_
    refine thenS_ret ?_
    have hf : belC s e = none := find_no hn
    exact RetG_2 (.inl rfl) rfl (ResV.tmp rfl) (ResV.tmp rfl) GivesTo.g (⟨by unfold belN belB; rw [hf]; rfl, rfl⟩)
  · refine T_region ?_
    refine TL_y rfl rfl (Y_move rfl) ?_
    refine TL_y rfl rfl (Y_lt rfl rfl) ?_
    refine TL_name 11 (v' := .bool false) rfl (congrArg Value.bool (decide_eq_false (by omega))) ?_
    refine TL_nil ?_
    refine T_cond_false rfl ?_
    refine T_skip ?_
    refine thenS_normal ?_
    refine T_region ?_
    refine TL_y rfl rfl (Y_move rfl) ?_
    refine TL_y rfl rfl (Y_move rfl) ?_
    refine TL_index_n rfl rfl rfl (rfl) ((sln (A := A) (c := c))) (hx) ?_
    intro bn14 on14 hA14 hk14
    have hu14 := hx
    refine TL_y rfl rfl (Y_field_addr2 rfl) ?_
    refine TL_y rfl rfl (Y_load_nx rfl hk14 hu14 (fun _ => rfl)) ?_
    refine TL_y rfl rfl (Y_assign rfl) ?_
    refine TL_y rfl rfl (Y_assign rfl) ?_
    refine TL_nil ?_
    refine T_ret ?_
    have hf : belC s e = some x := find_at hx hw hb
    exact RetG_2 (.inl rfl) rfl (ResV.tmp rfl) (ResV.tmp rfl) GivesTo.g (⟨by unfold belN belB; rw [hf]; rfl, rfl⟩)
theorem epoch_spec {L : List HP} {A : Option Addr} {c : Nat} {s : List OrderD} (name : ByteArray) (hk : SlK L orderR A c s) : Fn Try.prog 25 #[.slice A s.length c, .string name] L (fun v L' => v = .int .i64 (epochC s name : Int) ∧ L' = L) := by
  refine Fn_enter Try.func25 rfl rfl rfl rfl ?_
  refine T_gives hk.lay ?_
  refine SlN.lens (sln (A := A) (c := c)) fun hl => ?_
  simp only [maxEl] at hl
  refine T_region ?_
  refine TL_y rfl rfl (Y_assign rfl) ?_
  refine TL_nil ?_
  refine T_region ?_
  refine TL_y rfl rfl (Y_assign rfl) ?_
  refine TL_nil ?_
  refine T_seq ?_
  refine T_region ?_
  refine TL_y rfl rfl (Y_move rfl) ?_
  refine TL_y rfl rfl (Y_len rfl) ?_
  refine TL_y rfl rfl (Y_move rfl) ?_
  refine TL_nil ?_
  refine T_block ?_
  refine T_loopK (σ := Nat) [1, 8, 9] (fun i => i ≤ s.length) (fun i kv => (10, .int .i64 (i : Int)) :: (5, .int .i64 (epochC (s.take i) name : Int)) :: kv) (fun i => sl orderR A c s :: L) (fun i => s.length - i) (0) rfl (Nat.zero_le _) (GivesTo.g) (sub_cons rfl (sub_cons rfl (sub_cons rfl (sub_cons rfl (sub_cons rfl (sub_nil)))))) ?_
  intro i hi
  refine T_region ?_
  refine TL_y rfl rfl (Y_lt rfl rfl) ?_
  refine TL_nil ?_
  refine T_seq ?_
  refine T_if rfl (fun h11 => ?_) (fun h11 => ?_)
  · refine T_skip ?_
    refine thenS_normal ?_
    refine T_seq ?_
    refine T_block ?_
    obtain ⟨x, hx⟩ : ∃ x, s[i]? = some x := ⟨_, List.getElem?_eq_getElem (by omega)⟩
    have hec : epochC (s.take (i + 1)) name = epochC (s.take i) name + if x.cart = name then 1 else 0 := (by unfold epochC; rw [takeAt hx, List.countP_append]; by_cases h : x.cart = name <;> simp [h])
    have hel : epochC (s.take i) name ≤ (s.take i).length := List.countP_le_length
    rw [List.length_take] at hel
    refine T_region ?_
    refine TL_index_n rfl rfl rfl (rfl) ((sln (A := A) (c := c))) (hx) ?_
    intro bn12 on12 hA12 hk12
    have hu12 := hx
    refine TL_load_nx rfl rfl hk12 hu12 (fun _ => rfl) ?_
    intro p13 ok13
    simp only [List.cons_append, List.nil_append]
    refine TL_alloc rfl rfl ?_
    intro b7
    refine TL_store rfl rfl rfl rfl rfl rfl ?_
    refine TL_nil ?_
    refine T_region ?_
    refine TL_y rfl rfl (Y_field_addr rfl) ?_
    refine TL_y rfl rfl (Y_load rfl rfl) ?_
    refine TL_y rfl rfl (Y_move rfl) ?_
    refine TL_y rfl rfl (Y_str_eq rfl rfl) ?_
    refine TL_nil ?_
    refine T_if rfl (fun h17 => ?_) (fun h17 => ?_)
    · refine T_region_last ?_
      refine TL_y rfl rfl (Y_move rfl) ?_
      refine TL_y rfl rfl (Y_add rfl rfl (by omega)) ?_
      refine TL_name 19 (v' := .int .i64 (epochC (s.take (i + 1)) name : Int)) rfl (by rw [hec, if_pos h17]; rfl) ?_
      refine TL_y rfl rfl (Y_assign rfl) ?_
      refine TL_nil ?_
      refine inB_normal ?_
      refine thenS_normal ?_
      refine T_region_last ?_
      refine TL_y rfl rfl (Y_add rfl rfl (by omega)) ?_
      refine TL_name 20 (v' := .int .i64 ((i + 1 : Nat) : Int)) rfl (rfl) ?_
      refine TL_y rfl rfl (Y_move rfl) ?_
      refine TL_nil ?_
      refine thenS_normal ?_
      exact ⟨i + 1, (by omega), by omega, holds_to (sub_cons rfl (sub_cons rfl (sub_cons rfl (sub_cons rfl (sub_cons rfl (sub_nil)))))) GivesTo.g⟩
    · refine T_skip ?_
      refine inB_normal ?_
      refine thenS_normal ?_
      refine T_region_last ?_
      refine TL_y rfl rfl (Y_add rfl rfl (by omega)) ?_
      refine TL_name 20 (v' := .int .i64 ((i + 1 : Nat) : Int)) rfl (rfl) ?_
      refine TL_y rfl rfl (Y_move rfl) ?_
      refine TL_nil ?_
      refine thenS_normal ?_
      rw [if_neg h17] at hec
      have hec' : epochC (s.take (i + 1)) name = epochC (s.take i) name := hec
      rw [← hec']
      exact ⟨i + 1, (by omega), by omega, holds_to (sub_cons rfl (sub_cons rfl (sub_cons rfl (sub_cons rfl (sub_cons rfl (sub_nil)))))) GivesTo.g⟩
  · refine T_exit ?_
    refine thenS_exit ?_
    refine thenS_exit ?_
    refine inB_hit ?_
    refine thenS_normal ?_
    refine T_region ?_
    refine TL_y rfl rfl (Y_move rfl) ?_
    refine TL_y rfl rfl (Y_assign rfl) ?_
    refine TL_nil ?_
    refine T_ret ?_
    rw [List.take_of_length_le (show s.length ≤ i by omega)]
    exact RetG_1 (.inl rfl) rfl (ResV.tmp rfl) GivesTo.g (⟨rfl, rfl⟩)
/-! ### where -/
theorem where12_spec {L : List HP} {A : Option Addr} {c : Nat} {l : List EventD} (W : HP) (want : EventD → Bool) (f : FuncId) [IsCall Try.prog f] (caps : List Value)
    (hspec : ∀ (e : EventD) (q : Option Addr × Nat) (L1 : List HP), e ∈ l → eventOk e → Fn Try.prog f ([] ++ [evV e q] ++ caps).toArray (W :: L1) (fun v L' => v = .bool (want e) ∧ L' = W :: L1))
    (hk : SlK L eventR A c l) (hl : l.length ≤ 1466015503701) :
    Fn Try.prog 52 #[.slice A l.length c, .func (.func f) #[] caps.toArray] (W :: L) (fun v L' => ∃ A' c', v = .slice A' (l.filter want).length c' ∧ L' = osl eventR 29 A' c' (l.filter want) :: W :: L) := by
  refine Fn_enter Try.func52 rfl rfl rfl rfl ?_
  refine T_gives (SlK.lay hk.tail) ?_
  refine T_region ?_
  refine TL_y rfl rfl (Y_assign rfl) ?_
  refine TL_nil ?_
  refine T_region ?_
  refine TL_y rfl rfl (Y_assign rfl) ?_
  refine TL_nil ?_
  refine T_seq ?_
  refine T_region ?_
  refine TL_y rfl rfl (Y_move rfl) ?_
  refine TL_y rfl rfl (Y_len rfl) ?_
  refine TL_y rfl rfl (Y_move rfl) ?_
  refine TL_nil ?_
  refine T_block ?_
  refine T_loopK (σ := PcSt) [1, 8, 9] (fun g => g.k ≤ l.length) (fun g kv => (10, .int .i64 (g.k : Int)) :: (5, .slice g.A ((l.take g.k).filter want).length g.c) :: kv) (fun g => osl eventR 29 g.A g.c ((l.take g.k).filter want) :: W :: sl eventR A c l :: L) (fun g => l.length - g.k) (⟨0, none, 0⟩) rfl (Nat.zero_le _) (Gives.trans (Gives.swap _ _ _) (osl_nil eventR 29 none _)) (sub_cons rfl (sub_cons rfl (sub_cons rfl (sub_cons rfl (sub_cons rfl (sub_nil)))))) ?_
  rintro ⟨i, X, cx⟩ hil
  dsimp only at hil ⊢
  refine T_region ?_
  refine TL_y rfl rfl (Y_lt rfl rfl) ?_
  refine TL_nil ?_
  refine T_seq ?_
  refine T_if rfl (fun h11 => ?_) (fun h11 => ?_)
  · refine T_skip ?_
    refine thenS_normal ?_
    refine T_seq ?_
    refine T_block ?_
    obtain ⟨e, he⟩ : ∃ e, l[i]? = some e := ⟨_, List.getElem?_eq_getElem (by omega)⟩
    have hem := List.mem_of_getElem? he
    have hsn : (l.take (i + 1)).filter want = (l.take i).filter want ++ (bif want e then [e] else []) := (by rw [takeAt he, List.filter_append]; cases hw : want e <;> simp [hw])
    have hwl : ((l.take i).filter want).length ≤ (l.take i).length := List.length_filter_le _ _
    rw [List.length_take] at hwl
    refine T_region ?_
    refine TL_index_n rfl rfl rfl (rfl) ((sln (A := A) (c := c))) (he) ?_
    intro bn12 on12 hA12 hk12
    have hu12 := he
    refine TL_load_nx rfl rfl hk12 hu12 (fun _ => rfl) ?_
    intro p13 ok13
    simp only [List.cons_append, List.nil_append]
    refine TL_alloc rfl rfl ?_
    intro b7
    refine TL_store rfl rfl rfl rfl rfl rfl ?_
    refine TL_nil ?_
    refine T_region ?_
    refine TL_y rfl rfl (Y_move rfl) ?_
    refine TL_y rfl rfl (Y_load_agg rfl rfl) ?_
    refine TL_gives (show Gives _ (W :: cells b7 (eventC e p13) 29 :: sl (intR .i64) p13.1 p13.2 e.deps :: osl eventR 29 X cx ((l.take i).filter want) :: sl eventR A c l :: L) from GivesTo.g) ?_
    refine TL_call_fn rfl rfl rfl (hspec e p13 _ hem ok13) ?_
    rintro _ _ ⟨rfl, rfl⟩
    refine TL_nil ?_
    refine T_cond rfl (fun h16 => ?_) (fun h16 => ?_)
    · rw [h16] at hsn
      simp only [cond_true] at hsn
      refine T_region ?_
      refine TL_y rfl rfl (Y_field_addr rfl) ?_
      refine TL_y rfl rfl (Y_load rfl rfl) ?_
      refine TL_call rfl rfl (cloneN_spec (SlK.n slk) ok13.2.2.1) ?_
      rintro _ _ ⟨A19, c19, rfl, rfl⟩
      refine TL_freeze_osl ?_
      refine TL_y rfl rfl (Y_field_addr rfl) ?_
      refine TL_store rfl rfl rfl rfl rfl rfl ?_
      refine TL_nil ?_
      refine T_region_last ?_
      refine TL_y rfl rfl (Y_move rfl) ?_
      refine TL_y rfl rfl (Y_load_agg rfl rfl) ?_
      refine TL_build_slice rfl rfl rfl rfl rfl rfl ?_
      intro b23
      refine TL_osl (k := 1) eventR [e] (cells_one' (ex_rep (u := e) (A19, c19) (sep_sl slk) ok13)) rfl (by decide) ?_
      refine TL_freeze_osl ?_
      refine TL_name 23 (v' := .slice (some ⟨b23, 0, none⟩) [e].length 1) rfl rfl ?_
      refine TL_append rfl rfl rfl rfl rfl slk (by simp only [List.length_cons, List.length_nil]; omega) ?_
      intro A24 c24
      refine TL_y rfl rfl (Y_assign rfl) ?_
      refine TL_nil ?_
      refine inB_normal ?_
      refine thenS_normal ?_
      refine T_region_last ?_
      refine TL_y rfl rfl (Y_add rfl rfl (by omega)) ?_
      refine TL_name 25 (v' := .int .i64 ((i + 1 : Nat) : Int)) rfl (rfl) ?_
      refine TL_y rfl rfl (Y_move rfl) ?_
      refine TL_nil ?_
      refine thenS_normal ?_
      rw [← hsn]
      exact ⟨⟨i + 1, A24, c24⟩, (by simp only; omega), by simp only; omega, holds_to (sub_cons rfl (sub_cons rfl (sub_cons rfl (sub_cons rfl (sub_cons rfl (sub_nil)))))) GivesTo.g⟩
    · rw [h16] at hsn
      simp only [cond_false, List.append_nil] at hsn
      refine T_skip ?_
      refine inB_normal ?_
      refine thenS_normal ?_
      refine T_region_last ?_
      refine TL_y rfl rfl (Y_add rfl rfl (by omega)) ?_
      refine TL_name 25 (v' := .int .i64 ((i + 1 : Nat) : Int)) rfl (rfl) ?_
      refine TL_y rfl rfl (Y_move rfl) ?_
      refine TL_nil ?_
      refine thenS_normal ?_
      rw [← hsn]
      exact ⟨⟨i + 1, X, cx⟩, (by simp only; omega), by simp only; omega, holds_to (sub_cons rfl (sub_cons rfl (sub_cons rfl (sub_cons rfl (sub_cons rfl (sub_nil)))))) GivesTo.g⟩
  · refine T_exit ?_
    refine thenS_exit ?_
    refine thenS_exit ?_
    refine inB_hit ?_
    refine thenS_normal ?_
    refine T_region ?_
    refine TL_y rfl rfl (Y_move rfl) ?_
    refine TL_y rfl rfl (Y_assign rfl) ?_
    refine TL_nil ?_
    refine T_ret ?_
    rw [List.take_of_length_le (show l.length ≤ i by omega)]
    exact RetG_1 (.inl rfl) rfl (ResV.tmp rfl) GivesTo.g (⟨X, cx, rfl, rfl⟩)
end Go.SL
set_option linter.unusedVariables false
set_option linter.unusedSimpArgs false
namespace Go.SL
open Go Go.Proofs
abbrev wSpL (bb : Nat) (S : Option Addr) (cs : Nat) (s : List OrderD) : List HP := [cells bb [.slice S s.length cs] 43, sl orderR S cs s]
def wSp (bb : Nat) (S : Option Addr) (cs : Nat) (s : List OrderD) : HP := unS (wSpL bb S cs s)
theorem split1_spec {L : List HP} {bb cs : Nat} {S : Option Addr} {s : List OrderD} (e : EventD) (q : Option Addr × Nat) : Fn Try.prog 51 #[evV e q, .pointer (some ⟨bb, 0, none⟩)] (wSp bb S cs s :: L) (fun v L' => v = .bool (belB s e) ∧ L' = wSp bb S cs s :: L) := by
  refine Fn_enter Try.func51 rfl rfl rfl rfl ?_
  refine T_gives (show Gives _ (cells bb [.slice S s.length cs] 43 :: sl orderR S cs s :: L) from unS_open) ?_
  refine T_region ?_
  refine TL_box rfl rfl rfl ?_
  intro b2
  refine TL_y rfl rfl (Y_assign rfl) ?_
  refine TL_nil ?_
  refine T_region ?_
  refine TL_y rfl rfl (Y_load_agg rfl rfl) ?_
  refine TL_y rfl rfl (Y_load rfl rfl) ?_
  refine TL_call rfl rfl (belongs_spec e q slk) ?_
  rintro _ _ ⟨rfl, rfl⟩
  refine TL_y rfl rfl (Y_move rfl) ?_
  refine TL_y rfl rfl (Y_extract rfl rfl) ?_
  refine TL_y rfl rfl (Y_extract rfl rfl) ?_
  refine TL_y rfl rfl (Y_assign rfl) ?_
  refine TL_y rfl rfl (Y_assign rfl) ?_
  refine TL_nil ?_
  refine T_region ?_
  refine TL_y rfl rfl (Y_move rfl) ?_
  refine TL_y rfl rfl (Y_assign rfl) ?_
  refine TL_nil ?_
  refine T_ret ?_
  refine RetQ.gives (show Gives _ (cells bb [.slice S s.length cs] 43 :: sl orderR S cs s :: L) from GivesTo.g) ?_
  refine RetQ.gives (show Gives _ (wSp bb S cs s :: L) from unS_close (L := wSpL bb S cs s)) ?_
  exact RetG_1 (.inl rfl) rfl (ResV.tmp rfl) GivesTo.g (⟨rfl, rfl⟩)
abbrev wSp2L (b6 bb : Nat) (S : Option Addr) (cs : Nat) (s : List OrderD) : List HP := [cells b6 [.func (.func 51) #[] #[.pointer (some ⟨bb, 0, none⟩)]] 75, wSp bb S cs s]
def wSp2 (b6 bb : Nat) (S : Option Addr) (cs : Nat) (s : List OrderD) : HP := unS (wSp2L b6 bb S cs s)
theorem split2_spec {L : List HP} {b6 bb cs : Nat} {S : Option Addr} {s : List OrderD} (e : EventD) (q : Option Addr × Nat) : Fn Try.prog 53 #[evV e q, .pointer (some ⟨b6, 0, none⟩)] (wSp2 b6 bb S cs s :: L) (fun v L' => v = .bool (!belB s e) ∧ L' = wSp2 b6 bb S cs s :: L) := by
  refine Fn_enter Try.func53 rfl rfl rfl rfl ?_
  refine T_gives (show Gives _ (cells b6 [.func (.func 51) #[] #[.pointer (some ⟨bb, 0, none⟩)]] 75 :: wSp bb S cs s :: L) from unS_open) ?_
  refine T_region ?_
  refine TL_box rfl rfl rfl ?_
  intro b2
  refine TL_y rfl rfl (Y_assign rfl) ?_
  refine TL_nil ?_
  refine T_region ?_
  refine TL_y rfl rfl (Y_load rfl rfl) ?_
  refine TL_y rfl rfl (Y_load_agg rfl rfl) ?_
  refine TL_gives (show Gives _ (wSp bb S cs s :: cells b6 [.func (.func 51) #[] #[.pointer (some ⟨bb, 0, none⟩)]] 75 :: cells b2 (eventC e q) 29 :: L) from GivesTo.g) ?_
  refine TL_call_fn rfl rfl rfl (split1_spec e q) ?_
  rintro _ _ ⟨rfl, rfl⟩
  refine TL_y rfl rfl (Y_not rfl) ?_
  refine TL_y rfl rfl (Y_assign rfl) ?_
  refine TL_nil ?_
  refine T_ret ?_
  refine RetQ.gives (show Gives _ (cells b6 [.func (.func 51) #[] #[.pointer (some ⟨bb, 0, none⟩)]] 75 :: wSp bb S cs s :: L) from GivesTo.g) ?_
  refine RetQ.gives (show Gives _ (wSp2 b6 bb S cs s :: L) from unS_close (L := wSp2L b6 bb S cs s)) ?_
  exact RetG_1 (.inl rfl) rfl (ResV.tmp rfl) GivesTo.g (⟨rfl, rfl⟩)
theorem split_spec {L : List HP} {A S : Option Addr} {c cs : Nat} {l : List EventD} {s : List OrderD} (hk : SlK L eventR A c l) (hs : SlK L orderR S cs s) (hl : l.length ≤ 1466015503701) : Fn Try.prog 26 #[.slice A l.length c, .slice S s.length cs] L (fun v L' => ∃ A1 c1 A2 c2, v = .tuple #[.slice A1 (ordC12 l s).length c1, .slice A2 (openC l s).length c2] ∧ L' = osl eventR 29 A1 c1 (ordC12 l s) :: osl eventR 29 A2 c2 (openC l s) :: L) := by
  refine Fn_enter Try.func26 rfl rfl rfl rfl ?_
  refine T_gives hk.lay ?_
  refine T_gives (hs.tail).lay ?_
  refine T_region ?_
  refine TL_box rfl rfl rfl ?_
  intro b3
  refine TL_y rfl rfl (Y_assign rfl) ?_
  refine TL_y rfl rfl (Y_assign rfl) ?_
  refine TL_nil ?_
  refine T_region ?_
  refine TL_y rfl rfl (Y_make_func rfl rfl) ?_
  refine TL_alloc rfl rfl ?_
  intro b6
  refine TL_store rfl rfl rfl rfl rfl rfl ?_
  refine TL_nil ?_
  refine T_region ?_
  refine TL_y rfl rfl (Y_move rfl) ?_
  refine TL_y rfl rfl (Y_load rfl rfl) ?_
  refine TL_gives (show Gives _ (cells b3 [.slice S s.length cs] 43 :: sl orderR S cs s :: cells b6 [.func (.func 51) #[] #[.pointer (some ⟨b3, 0, none⟩)]] 75 :: sl eventR A c l :: L) from GivesTo.g) ?_
  refine TL_gives (show Gives _ (wSp b3 S cs s :: cells b6 [.func (.func 51) #[] #[.pointer (some ⟨b3, 0, none⟩)]] 75 :: sl eventR A c l :: L) from unS_close (L := wSpL b3 S cs s)) ?_
  refine TL_call rfl rfl (where12_spec (wSp b3 S cs s) (fun e ↦ belB s e) 51 [.pointer (some ⟨b3, 0, none⟩)] (fun e q L1 _ _ ↦ split1_spec e q) slk hl) ?_
  rintro _ _ ⟨A10, c10, rfl, rfl⟩
  rw [show l.filter (fun e => belB s e) = ordC12 l s from rfl]
  refine TL_y rfl rfl (Y_move rfl) ?_
  refine TL_y rfl rfl (Y_make_func rfl rfl) ?_
  refine TL_gives (show Gives _ (cells b6 [.func (.func 51) #[] #[.pointer (some ⟨b3, 0, none⟩)]] 75 :: wSp b3 S cs s :: osl eventR 29 A10 c10 (ordC12 l s) :: sl eventR A c l :: L) from GivesTo.g) ?_
  refine TL_gives (show Gives _ (wSp2 b6 b3 S cs s :: osl eventR 29 A10 c10 (ordC12 l s) :: sl eventR A c l :: L) from unS_close (L := wSp2L b6 b3 S cs s)) ?_
  refine TL_call rfl rfl (where12_spec (wSp2 b6 b3 S cs s) (fun e ↦ !belB s e) 53 [.pointer (some ⟨b6, 0, none⟩)] (fun e q L1 _ _ ↦ split2_spec e q) slk hl) ?_
  rintro _ _ ⟨A13, c13, rfl, rfl⟩
  rw [show l.filter (fun e => !belB s e) = openC l s from rfl]
  refine TL_y rfl rfl (Y_assign rfl) ?_
  refine TL_y rfl rfl (Y_assign rfl) ?_
  refine TL_nil ?_
  refine T_ret ?_
  exact RetG_2 (.inl rfl) rfl (ResV.tmp rfl) (ResV.tmp rfl) GivesTo.g (⟨A10, c10, A13, c13, rfl, rfl⟩)
theorem openC_sub {l : List EventD} {s : List OrderD} {e : EventD} (h : e ∈ openC l s) : e ∈ l := (List.mem_filter.1 h).1
theorem openC_len (l : List EventD) (s : List OrderD) : (openC l s).length ≤ l.length := List.length_filter_le _ _
theorem ordLC_sub {l : List EventD} {s : List OrderD} {name : ByteArray} {ep : Int} {e : EventD} (h : e ∈ ordLC l s name ep) : e ∈ l := (List.mem_filter.1 h).1
theorem ordLC_len (l : List EventD) (s : List OrderD) (name : ByteArray) (ep : Int) : (ordLC l s name ep).length ≤ l.length := List.length_filter_le _ _
theorem open_spec {L : List HP} {A S : Option Addr} {c cs : Nat} {l : List EventD} {s : List OrderD} (name : ByteArray) (hk : SlK L eventR A c l) (hs : SlK L orderR S cs s) (hl : l.length ≤ 1466015503701) (hq : ∀ e ∈ l, 0 ≤ e.qty ∧ e.qty ≤ 1000) : Fn Try.prog 31 #[.slice A l.length c, .slice S s.length cs, .string name] L (fun v L' => ∃ A' c' xs, v = .slice A' xs.length c' ∧ L' = osl lineR 65 A' c' xs :: L ∧ IsLines (openC l s) name xs) := by
  have hol := openC_len l s
  refine Fn_enter Try.func31 rfl rfl rfl rfl ?_
  refine T_region ?_
  refine TL_y rfl rfl (Y_assign rfl) ?_
  refine TL_nil ?_
  refine T_region ?_
  refine TL_y rfl rfl (Y_move rfl) ?_
  refine TL_y rfl rfl (Y_move rfl) ?_
  refine TL_call rfl rfl (split_spec hk hs (by omega)) ?_
  rintro _ _ ⟨A1, c1, A2, c2, rfl, rfl⟩
  refine TL_gives (show Gives _ (osl eventR 29 A2 c2 (openC l s) :: L) from GivesTo.g) ?_
  refine TL_freeze_osl ?_
  refine TL_y rfl rfl (Y_move rfl) ?_
  refine TL_y rfl rfl (Y_extract rfl rfl) ?_
  refine TL_y rfl rfl (Y_extract rfl rfl) ?_
  refine TL_y rfl rfl (Y_assign rfl) ?_
  refine TL_y rfl rfl (Y_assign rfl) ?_
  refine TL_nil ?_
  refine T_region ?_
  refine TL_y rfl rfl (Y_move rfl) ?_
  refine TL_y rfl rfl (Y_move rfl) ?_
  refine TL_call rfl rfl (lines_spec name slk (by omega) (fun e he ↦ hq e (openC_sub he))) ?_
  rintro _ _ ⟨A17, c17, xs, rfl, rfl, hx, hxl⟩
  refine TL_y rfl rfl (Y_assign rfl) ?_
  refine TL_nil ?_
  refine T_ret ?_
  exact RetG_1 (.inl rfl) rfl (ResV.tmp rfl) GivesTo.g (⟨A17, c17, xs, rfl, rfl, hx⟩)
abbrev wOrL (b5 b6 b7 : Nat) (S : Option Addr) (cs : Nat) (s : List OrderD) (name : ByteArray) (ep : Int) : List HP := [cells b5 [.slice S s.length cs] 43, cells b6 [.string name] 9, cells b7 [.int .i64 ep] 3, sl orderR S cs s]
def wOr (b5 b6 b7 : Nat) (S : Option Addr) (cs : Nat) (s : List OrderD) (name : ByteArray) (ep : Int) : HP := unS (wOrL b5 b6 b7 S cs s name ep)
theorem order1_spec {L : List HP} {b5 b6 b7 cs : Nat} {S : Option Addr} {s : List OrderD} {name : ByteArray} {ep : Int} (e : EventD) (q : Option Addr × Nat) : Fn Try.prog 54 #[evV e q, .pointer (some ⟨b5, 0, none⟩), .pointer (some ⟨b7, 0, none⟩), .pointer (some ⟨b6, 0, none⟩)] (wOr b5 b6 b7 S cs s name ep :: L) (fun v L' => v = .bool (belB s e && decide (belN s e = ep) && decide (e.cart = name)) ∧ L' = wOr b5 b6 b7 S cs s name ep :: L) := by
  refine Fn_enter Try.func54 rfl rfl rfl rfl ?_
  refine T_gives (show Gives _ (cells b5 [.slice S s.length cs] 43 :: cells b6 [.string name] 9 :: cells b7 [.int .i64 ep] 3 :: sl orderR S cs s :: L) from unS_open) ?_
  refine T_region ?_
  refine TL_box rfl rfl rfl ?_
  intro b4
  refine TL_y rfl rfl (Y_assign rfl) ?_
  refine TL_nil ?_
  refine T_region ?_
  refine TL_y rfl rfl (Y_load_agg rfl rfl) ?_
  refine TL_y rfl rfl (Y_load rfl rfl) ?_
  refine TL_call rfl rfl (belongs_spec e q slk) ?_
  rintro _ _ ⟨rfl, rfl⟩
  refine TL_y rfl rfl (Y_move rfl) ?_
  refine TL_y rfl rfl (Y_extract rfl rfl) ?_
  refine TL_y rfl rfl (Y_extract rfl rfl) ?_
  refine TL_y rfl rfl (Y_assign rfl) ?_
  refine TL_y rfl rfl (Y_assign rfl) ?_
  refine TL_nil ?_
  cases hb : belB s e
  · refine T_region ?_
    refine TL_y rfl rfl (Y_move rfl) ?_
    refine TL_y rfl rfl (Y_move rfl) ?_
    refine TL_name 15 (v' := .bool false) rfl (by simp) ?_
    refine TL_gskip rfl rfl rfl rfl ?_
    refine TL_gskip rfl rfl rfl rfl ?_
    refine TL_gskip rfl rfl rfl rfl ?_
    refine TL_y rfl rfl (Y_pick_f rfl rfl) ?_
    refine TL_y rfl rfl (Y_move rfl) ?_
    refine TL_gskip rfl rfl rfl rfl ?_
    refine TL_gskip rfl rfl rfl rfl ?_
    refine TL_gskip rfl rfl rfl rfl ?_
    refine TL_gskip rfl rfl rfl rfl ?_
    refine TL_y rfl rfl (Y_pick_f rfl rfl) ?_
    refine TL_y rfl rfl (Y_assign rfl) ?_
    refine TL_nil ?_
    refine T_ret ?_
    refine RetQ.gives (show Gives _ (cells b5 [.slice S s.length cs] 43 :: cells b6 [.string name] 9 :: cells b7 [.int .i64 ep] 3 :: sl orderR S cs s :: L) from GivesTo.g) ?_
    refine RetQ.gives (show Gives _ (wOr b5 b6 b7 S cs s name ep :: L) from unS_close (L := wOrL b5 b6 b7 S cs s name ep)) ?_
    exact RetG_1 (.inl rfl) rfl (ResV.tmp rfl) GivesTo.g (⟨rfl, rfl⟩)
  · refine T_region ?_
    refine TL_y rfl rfl (Y_move rfl) ?_
    refine TL_y rfl rfl (Y_move rfl) ?_
    refine TL_name 15 (v' := .bool true) rfl (by simp) ?_
    refine TL_grun rfl rfl ?_
    refine TL_y rfl rfl (Y_move rfl) ?_
    refine TL_grun rfl rfl ?_
    refine TL_y rfl rfl (Y_load rfl rfl) ?_
    refine TL_grun rfl rfl ?_
    refine TL_y rfl rfl (Y_eq rfl rfl) ?_
    refine TL_y rfl rfl (Y_pick_t rfl rfl) ?_
    refine TL_y rfl rfl (Y_move rfl) ?_
    refine TL_splitd 20 rfl (fun h20 => ?_) (fun h20 => ?_)
    · refine TL_grun rfl rfl ?_
      refine TL_y rfl rfl (Y_field_addr rfl) ?_
      refine TL_grun rfl rfl ?_
      refine TL_y rfl rfl (Y_load rfl rfl) ?_
      refine TL_grun rfl rfl ?_
      refine TL_y rfl rfl (Y_load rfl rfl) ?_
      refine TL_grun rfl rfl ?_
      refine TL_y rfl rfl (Y_str_eq rfl rfl) ?_
      refine TL_y rfl rfl (Y_pick_t rfl rfl) ?_
      refine TL_y rfl rfl (Y_assign rfl) ?_
      refine TL_nil ?_
      refine T_ret ?_
      refine RetQ.gives (show Gives _ (cells b5 [.slice S s.length cs] 43 :: cells b6 [.string name] 9 :: cells b7 [.int .i64 ep] 3 :: sl orderR S cs s :: L) from GivesTo.g) ?_
      refine RetQ.gives (show Gives _ (wOr b5 b6 b7 S cs s name ep :: L) from unS_close (L := wOrL b5 b6 b7 S cs s name ep)) ?_
      exact RetG_1 (.inl rfl) rfl (ResV.tmp rfl) GivesTo.g (⟨congrArg Value.bool (by rw [decide_eq_true h20]; simp), rfl⟩)
    · refine TL_gskip rfl rfl rfl rfl ?_
      refine TL_gskip rfl rfl rfl rfl ?_
      refine TL_gskip rfl rfl rfl rfl ?_
      refine TL_gskip rfl rfl rfl rfl ?_
      refine TL_y rfl rfl (Y_pick_f rfl rfl) ?_
      refine TL_y rfl rfl (Y_assign rfl) ?_
      refine TL_nil ?_
      refine T_ret ?_
      refine RetQ.gives (show Gives _ (cells b5 [.slice S s.length cs] 43 :: cells b6 [.string name] 9 :: cells b7 [.int .i64 ep] 3 :: sl orderR S cs s :: L) from GivesTo.g) ?_
      refine RetQ.gives (show Gives _ (wOr b5 b6 b7 S cs s name ep :: L) from unS_close (L := wOrL b5 b6 b7 S cs s name ep)) ?_
      exact RetG_1 (.inl rfl) rfl (ResV.tmp rfl) GivesTo.g (⟨congrArg Value.bool (by rw [decide_eq_false h20]; simp), rfl⟩)
theorem order_spec {L : List HP} {A S : Option Addr} {c cs : Nat} {l : List EventD} {s : List OrderD} (name : ByteArray) (ep : Int) (hk : SlK L eventR A c l) (hs : SlK L orderR S cs s) (hl : l.length ≤ 1466015503701) (hq : ∀ e ∈ l, 0 ≤ e.qty ∧ e.qty ≤ 1000) : Fn Try.prog 29 #[.slice A l.length c, .slice S s.length cs, .string name, .int .i64 ep] L (fun v L' => ∃ A' c' xs, v = .slice A' xs.length c' ∧ L' = osl lineR 65 A' c' xs :: L ∧ IsLines (ordLC l s name ep) name xs) := by
  have hol := ordLC_len l s name ep
  refine Fn_enter Try.func29 rfl rfl rfl rfl ?_
  refine T_gives hk.lay ?_
  refine T_gives (hs.tail).lay ?_
  refine T_region ?_
  refine TL_box rfl rfl rfl ?_
  intro b5
  refine TL_box rfl rfl rfl ?_
  intro b6
  refine TL_box rfl rfl rfl ?_
  intro b7
  refine TL_y rfl rfl (Y_assign rfl) ?_
  refine TL_nil ?_
  refine T_region_draw (cells b6 [.string name] 9 :: []) [0, 0, 3, 0, 15, 31] [] [(0, true), (1, true), (3, true), (2, false), (4, false), (5, true)] (by kernel_rfl) (by decide +kernel) GivesTo.g ?_
  refine TF_y rfl rfl (Y_move rfl) ?_
  refine TF_y rfl rfl (Y_make_func rfl rfl) ?_
  refine TF_y rfl rfl (Y_load rfl rfl) ?_
  refine TF_anchor rfl ?_
  refine TL_gives (show Gives _ (cells b5 [.slice S s.length cs] 43 :: cells b6 [.string name] 9 :: cells b7 [.int .i64 ep] 3 :: sl orderR S cs s :: sl eventR A c l :: L) from GivesTo.g) ?_
  refine TL_gives (show Gives _ (wOr b5 b6 b7 S cs s name ep :: sl eventR A c l :: L) from unS_close (L := wOrL b5 b6 b7 S cs s name ep)) ?_
  refine TL_call rfl rfl (where12_spec (wOr b5 b6 b7 S cs s name ep) (fun e ↦ belB s e && decide (belN s e = ep) && decide (e.cart = name)) 54 [.pointer (some ⟨b5, 0, none⟩), .pointer (some ⟨b7, 0, none⟩), .pointer (some ⟨b6, 0, none⟩)] (fun e q L1 _ _ ↦ order1_spec e q) slk (by omega)) ?_
  rintro _ _ ⟨A11, c11, rfl, rfl⟩
  rw [show l.filter (fun e => belB s e && decide (belN s e = ep) && decide (e.cart = name)) = ordLC l s name ep from rfl]
  refine TL_freeze_osl ?_
  refine TL_gives (show Gives _ (wOr b5 b6 b7 S cs s name ep :: sl eventR A11 c11 (ordLC l s name ep) :: L) from GivesTo.g) ?_
  refine TL_gives (show Gives _ (cells b5 [.slice S s.length cs] 43 :: cells b6 [.string name] 9 :: cells b7 [.int .i64 ep] 3 :: sl orderR S cs s :: sl eventR A11 c11 (ordLC l s name ep) :: L) from unS_open) ?_
  refine TF_end GivesTo.g ?_
  refine TF_anchor rfl ?_
  refine TL_call rfl rfl (lines_spec name slk (by omega) (fun e he ↦ hq e (ordLC_sub he))) ?_
  rintro _ _ ⟨A13, c13, xs, rfl, rfl, hx, hxl⟩
  refine TF_end GivesTo.g ?_
  refine TF_y rfl rfl (Y_assign rfl) ?_
  refine TF_nil ?_
  refine T_ret ?_
  exact RetG_1 (.inl rfl) rfl (ResV.tmp rfl) GivesTo.g (⟨A13, c13, xs, rfl, rfl, hx⟩)
/-! ### Whole -/
theorem vvBelow_spec {L : List HP} {A B : Option Addr} {c d : Nat} {a b : List Int} (ha : SlN L (intR .i64) A c a) (hb : SlN L (intR .i64) B d b) : Fn Try.prog 56 #[.slice A a.length c, .slice B b.length d] L (fun v L' => v = .bool (belowB a b) ∧ L' = L) := by
  refine Fn_enter Try.func56 rfl rfl rfl rfl ?_
  refine ha.lens fun hl1 => ?_
  refine hb.lens fun hl2 => ?_
  simp only [maxEl] at hl1 hl2
  refine T_region ?_
  refine TL_y rfl rfl (Y_assign rfl) ?_
  refine TL_nil ?_
  refine T_seq ?_
  refine T_region ?_
  refine TL_y rfl rfl (Y_move rfl) ?_
  refine TL_y rfl rfl (Y_len rfl) ?_
  refine TL_y rfl rfl (Y_move rfl) ?_
  refine TL_y rfl rfl (Y_len rfl) ?_
  refine TL_y rfl rfl (Y_max rfl rfl) ?_
  refine TL_name 10 (v' := .int .i64 ((max a.length b.length : Nat) : Int)) rfl (by congr 1; omega) ?_
  refine TL_y rfl rfl (Y_move rfl) ?_
  refine TL_nil ?_
  refine T_block ?_
  refine T_loopK (σ := Nat) [0, 1, 10] (fun i => i ≤ max a.length b.length ∧ ∀ j : Nat, j < i → ofV a (j : Int) ≤ ofV b (j : Int)) (fun i kv => (11, .int .i64 (i : Int)) :: kv) (fun i => L) (fun i => max a.length b.length - i) (0) rfl (⟨Nat.zero_le _, by omega⟩) (GivesTo.g) (sub_cons rfl (sub_cons rfl (sub_cons rfl (sub_cons rfl (sub_nil))))) ?_
  intro i hi
  refine T_region ?_
  refine TL_y rfl rfl (Y_lt rfl rfl) ?_
  refine TL_nil ?_
  refine T_seq ?_
  refine T_if rfl (fun h12 => ?_) (fun h12 => ?_)
  · refine T_skip ?_
    refine thenS_normal ?_
    refine T_seq ?_
    refine T_block ?_
    refine T_region ?_
    refine TL_y rfl rfl (Y_move rfl) ?_
    refine TL_y rfl rfl (Y_assign rfl) ?_
    refine TL_nil ?_
    refine T_region ?_
    refine TL_y rfl rfl (Y_move rfl) ?_
    refine TL_y rfl rfl (Y_move rfl) ?_
    refine TL_call rfl rfl (vvOf_spec ha (i : Int)) ?_
    rintro _ _ ⟨rfl, rfl⟩
    refine TL_y rfl rfl (Y_move rfl) ?_
    refine TL_y rfl rfl (Y_move rfl) ?_
    refine TL_call rfl rfl (vvOf_spec hb (i : Int)) ?_
    rintro _ _ ⟨rfl, rfl⟩
    refine TL_y rfl rfl (Y_gt rfl rfl) ?_
    refine TL_nil ?_
    refine T_if rfl (fun h20 => ?_) (fun h20 => ?_)
    · refine T_region ?_
      refine TL_y rfl rfl (Y_assign rfl) ?_
      refine TL_nil ?_
      refine T_ret ?_
      refine inB_ret ?_
      refine thenS_ret ?_
      refine thenS_ret ?_
      refine inB_ret ?_
      refine thenS_ret ?_
      exact RetG_1 (.inl rfl) rfl (ResV.tmp rfl) GivesTo.g (⟨congrArg Value.bool (by unfold belowB; rw [List.all_eq_false.2 ⟨i, List.mem_range.2 (by omega), by simp; omega⟩]), rfl⟩)
    · refine T_skip ?_
      refine inB_normal ?_
      refine thenS_normal ?_
      refine T_region_last ?_
      refine TL_y rfl rfl (Y_add rfl rfl (by omega)) ?_
      refine TL_name 21 (v' := .int .i64 ((i + 1 : Nat) : Int)) rfl (rfl) ?_
      refine TL_y rfl rfl (Y_move rfl) ?_
      refine TL_nil ?_
      refine thenS_normal ?_
      exact ⟨i + 1, ⟨by omega, fun j hj => by by_cases h : j = i; (rw [h]; omega); exact hi.2 j (by omega)⟩, by omega, holds_to (sub_cons rfl (sub_cons rfl (sub_cons rfl (sub_cons rfl (sub_nil))))) GivesTo.g⟩
  · refine T_exit ?_
    refine thenS_exit ?_
    refine thenS_exit ?_
    refine inB_hit ?_
    refine thenS_normal ?_
    refine T_region ?_
    refine TL_y rfl rfl (Y_assign rfl) ?_
    refine TL_nil ?_
    refine T_ret ?_
    exact RetG_1 (.inl rfl) rfl (ResV.tmp rfl) GivesTo.g (⟨congrArg Value.bool (by unfold belowB; rw [List.all_eq_true.2 fun j hj => decide_eq_true (hi.2 j (by have := List.mem_range.1 hj; omega))]), rfl⟩)
abbrev wWhL (b6 b7 : Nat) (name : ByteArray) (ep : Int) : List HP := [cells b6 [.string name] 9, cells b7 [.int .i64 ep] 3]
def wWh (b6 b7 : Nat) (name : ByteArray) (ep : Int) : HP := unS (wWhL b6 b7 name ep)
theorem whole1_spec {L : List HP} {b6 b7 : Nat} {name : ByteArray} {ep : Int} (x : OrderD) (q : Option Addr × Nat) : Fn Try.prog 55 #[orderV x q, .pointer (some ⟨b6, 0, none⟩), .pointer (some ⟨b7, 0, none⟩)] (wWh b6 b7 name ep :: L) (fun v L' => v = .bool (decide (x.cart = name) && decide (x.epoch = ep)) ∧ L' = wWh b6 b7 name ep :: L) := by
  refine Fn_enter Try.func55 rfl rfl rfl rfl ?_
  refine T_gives (show Gives _ (cells b6 [.string name] 9 :: cells b7 [.int .i64 ep] 3 :: L) from unS_open) ?_
  refine T_region ?_
  refine TL_box rfl rfl rfl ?_
  intro b3
  refine TL_y rfl rfl (Y_assign rfl) ?_
  refine TL_nil ?_
  refine T_region ?_
  refine TL_y rfl rfl (Y_field_addr rfl) ?_
  refine TL_y rfl rfl (Y_load rfl rfl) ?_
  refine TL_y rfl rfl (Y_load rfl rfl) ?_
  refine TL_y rfl rfl (Y_str_eq rfl rfl) ?_
  refine TL_y rfl rfl (Y_move rfl) ?_
  refine TL_splitd 9 rfl (fun h9 => ?_) (fun h9 => ?_)
  · refine TL_grun rfl rfl ?_
    refine TL_y rfl rfl (Y_field_addr rfl) ?_
    refine TL_grun rfl rfl ?_
    refine TL_y rfl rfl (Y_load rfl rfl) ?_
    refine TL_grun rfl rfl ?_
    refine TL_y rfl rfl (Y_load rfl rfl) ?_
    refine TL_grun rfl rfl ?_
    refine TL_y rfl rfl (Y_eq rfl rfl) ?_
    refine TL_y rfl rfl (Y_pick_t rfl rfl) ?_
    refine TL_y rfl rfl (Y_assign rfl) ?_
    refine TL_nil ?_
    refine T_ret ?_
    refine RetQ.gives (show Gives _ (cells b6 [.string name] 9 :: cells b7 [.int .i64 ep] 3 :: L) from GivesTo.g) ?_
    refine RetQ.gives (show Gives _ (wWh b6 b7 name ep :: L) from unS_close (L := wWhL b6 b7 name ep)) ?_
    exact RetG_1 (.inl rfl) rfl (ResV.tmp rfl) GivesTo.g (⟨congrArg Value.bool (by rw [decide_eq_true h9]; simp), rfl⟩)
  · refine TL_gskip rfl rfl rfl rfl ?_
    refine TL_gskip rfl rfl rfl rfl ?_
    refine TL_gskip rfl rfl rfl rfl ?_
    refine TL_gskip rfl rfl rfl rfl ?_
    refine TL_y rfl rfl (Y_pick_f rfl rfl) ?_
    refine TL_y rfl rfl (Y_assign rfl) ?_
    refine TL_nil ?_
    refine T_ret ?_
    refine RetQ.gives (show Gives _ (cells b6 [.string name] 9 :: cells b7 [.int .i64 ep] 3 :: L) from GivesTo.g) ?_
    refine RetQ.gives (show Gives _ (wWh b6 b7 name ep :: L) from unS_close (L := wWhL b6 b7 name ep)) ?_
    exact RetG_1 (.inl rfl) rfl (ResV.tmp rfl) GivesTo.g (⟨congrArg Value.bool (by rw [decide_eq_false h9]; simp), rfl⟩)
theorem whole_spec {L : List HP} {A S : Option Addr} {c cs : Nat} {ap : List Int} {s : List OrderD} (name : ByteArray) (ep : Int) (ha : SlN L (intR .i64) A c ap) (hs : SlK L orderR S cs s) : Fn Try.prog 32 #[.slice A ap.length c, .slice S s.length cs, .string name, .int .i64 ep] L (fun v L' => v = .bool (wholeC ap s name ep) ∧ L' = L) := by
  refine Fn_enter Try.func32 rfl rfl rfl rfl ?_
  refine T_gives hs.lay ?_
  refine T_region ?_
  refine TL_box rfl rfl rfl ?_
  intro b6
  refine TL_box rfl rfl rfl ?_
  intro b7
  refine TL_y rfl rfl (Y_assign rfl) ?_
  refine TL_nil ?_
  refine T_region ?_
  refine TL_y rfl rfl (Y_move rfl) ?_
  refine TL_y rfl rfl (Y_make_func rfl rfl) ?_
  refine TL_gives (show Gives _ (cells b6 [.string name] 9 :: cells b7 [.int .i64 ep] 3 :: sl orderR S cs s :: L) from GivesTo.g) ?_
  refine TL_gives (show Gives _ (wWh b6 b7 name ep :: sl orderR S cs s :: L) from unS_close (L := wWhL b6 b7 name ep)) ?_
  refine TL_call rfl rfl (indexS_spec (wWh b6 b7 name ep) (fun x ↦ decide (x.cart = name) && decide (x.epoch = ep)) 55 [.pointer (some ⟨b6, 0, none⟩), .pointer (some ⟨b7, 0, none⟩)] (fun x q L1 _ _ _ ↦ whole1_spec x q) slk) ?_
  rintro _ _ ⟨⟨r, rfl, hr⟩, rfl⟩
  refine TL_y rfl rfl (Y_assign rfl) ?_
  refine TL_nil ?_
  rcases hr with ⟨h0, hn⟩ | ⟨i, x, rfl, hx, hw, hb⟩
  · refine T_region ?_
    refine TL_y rfl rfl (Y_move rfl) ?_
    refine TL_y rfl rfl (Y_ge rfl rfl) ?_
    refine TL_name 14 (v' := .bool false) rfl (congrArg Value.bool (decide_eq_false (by omega))) ?_
    refine TL_y rfl rfl (Y_move rfl) ?_
    refine TL_gskip rfl rfl rfl rfl ?_
    refine TL_gskip rfl rfl rfl rfl ?_
    refine TL_gskip rfl rfl rfl rfl ?_
    refine TL_gskip rfl rfl rfl rfl ?_
    refine TL_gskip rfl rfl rfl rfl ?_
    refine TL_gskip rfl rfl rfl rfl ?_
    refine TL_gskip rfl rfl rfl rfl ?_
    refine TL_y rfl rfl (Y_pick_f rfl rfl) ?_
    refine TL_y rfl rfl (Y_assign rfl) ?_
    refine TL_nil ?_
    refine T_ret ?_
    have hf := find_no hn
    exact RetG_1 (.inl rfl) rfl (ResV.tmp rfl) GivesTo.g (⟨congrArg Value.bool (by unfold wholeC; rw [hf]), rfl⟩)
  · refine T_region ?_
    refine TL_y rfl rfl (Y_move rfl) ?_
    refine TL_y rfl rfl (Y_ge rfl rfl) ?_
    refine TL_name 14 (v' := .bool true) rfl (congrArg Value.bool (decide_eq_true (by omega))) ?_
    refine TL_y rfl rfl (Y_move rfl) ?_
    refine TL_grun rfl rfl ?_
    refine TL_y rfl rfl (Y_move rfl) ?_
    refine TL_grun rfl rfl ?_
    refine TL_y rfl rfl (Y_move rfl) ?_
    refine TL_grun rfl rfl ?_
    refine TL_index_n rfl rfl rfl (rfl) ((sln (A := S) (c := cs))) (hx) ?_
    intro bn18 on18 hA18 hk18
    have hu18 := hx
    refine TL_grun rfl rfl ?_
    refine TL_y rfl rfl (Y_field_addr2 rfl) ?_
    refine TL_grun rfl rfl ?_
    refine TL_load_nx1 rfl rfl hk18 hu18 (fun _ => rfl) ?_
    intro p20 ok20
    simp only [List.cons_append, List.nil_append]
    refine TL_grun rfl rfl ?_
    refine TL_y rfl rfl (Y_move rfl) ?_
    refine TL_grun rfl rfl ?_
    refine TL_call rfl rfl (vvBelow_spec (SlK.n slk) ha.tail.tail.tail) ?_
    rintro _ _ ⟨rfl, rfl⟩
    refine TL_y rfl rfl (Y_pick_t rfl rfl) ?_
    refine TL_y rfl rfl (Y_assign rfl) ?_
    refine TL_nil ?_
    refine T_ret ?_
    have hf := find_at (p := fun x : OrderD => decide (x.cart = name) && decide (x.epoch = ep)) hx hw hb
    exact RetG_1 (.inl rfl) rfl (ResV.tmp rfl) GivesTo.g (⟨congrArg Value.bool (by unfold wholeC; rw [hf]), rfl⟩)
end Go.SL
set_option linter.unusedVariables false
set_option linter.unusedSimpArgs false
namespace Go.SL
open Go Go.Proofs
theorem epochC_snoc {s : List OrderD} {i : Nat} {x : OrderD} (h : s[i]? = some x) (name : ByteArray) : epochC (s.take (i + 1)) name = epochC (s.take i) name + if x.cart = name then 1 else 0 := by
  unfold epochC
  rw [takeAt h, List.countP_append]
  by_cases hc : x.cart = name <;> simp [hc]
theorem epochC_len (s : List OrderD) (name : ByteArray) : epochC s name ≤ s.length := List.countP_le_length
abbrev CheckT (s : List OrderD) (i : Nat) : Prop := ∀ j x, j < i → s[j]? = some x → rSeal x ∧ x.epoch = (epochC (s.take j) x.cart : Int)
theorem CheckT.step {s : List OrderD} {i : Nat} {x : OrderD} (h : CheckT s i) (hx : s[i]? = some x) (h1 : rSeal x) (h2 : x.epoch = (epochC (s.take i) x.cart : Int)) : CheckT s (i + 1) := fun j y hj hy => by
  by_cases e : j = i
  · subst e; rw [hx] at hy; cases hy; exact ⟨h1, h2⟩
  · exact h j y (by omega) hy
theorem CheckT.all {s : List OrderD} {i : Nat} (h : CheckT s i) (hi : s.length ≤ i) : CheckC s := fun j x hx => h j x (by have := (List.getElem?_eq_some_iff.1 hx).1; omega) hx
theorem CheckT.no {s : List OrderD} {i : Nat} {x : OrderD} (hx : s[i]? = some x) (h : ¬ (rSeal x ∧ x.epoch = (epochC (s.take i) x.cart : Int))) : ¬ CheckC s := fun hc => h (hc i x hx)
structure CkSt where
  i : Nat
  m : List (ByteArray × Int)
def ckR (s : List OrderD) (v : Value) : Prop := ∃ (n e : Int), v = .tuple #[.int .i64 n, .int .i64 e] ∧ ((e = 0 ∧ CheckC s) ∨ (e = 120 ∧ ¬ CheckC s))
theorem check12_spec {L : List HP} {A : Option Addr} {c : Nat} {s : List OrderD} (hk : SlK L orderR A c s) (hb : ∀ x ∈ s, cSeal x ≤ 140737488355000) : Fn Try.prog 23 #[.slice A s.length c] L (fun v L' => ckR s v ∧ L' = L) := by
  refine Fn_enter Try.func23 rfl rfl rfl rfl ?_
  refine T_gives hk.lay ?_
  refine SlN.lens (sln (A := A) (c := c)) fun hl => ?_
  simp only [maxEl] at hl
  refine T_region ?_
  refine TL_y rfl rfl (Y_assign rfl) ?_
  refine TL_y rfl rfl (Y_assign rfl) ?_
  refine TL_nil ?_
  refine T_region ?_
  refine TL_makeMap strK (intR .i64) false rfl ?_
  intro bm
  refine TL_y rfl rfl (Y_assign rfl) ?_
  refine TL_nil ?_
  refine T_seq ?_
  refine T_region ?_
  refine TL_y rfl rfl (Y_move rfl) ?_
  refine TL_y rfl rfl (Y_len rfl) ?_
  refine TL_y rfl rfl (Y_move rfl) ?_
  refine TL_nil ?_
  refine T_block ?_
  refine T_loopK (σ := CkSt) [4, 10, 11] (fun g => g.i ≤ s.length ∧ (∀ k, (getM g.m k).getD 0 = (epochC (s.take g.i) k : Int)) ∧ CheckT s g.i) (fun g kv => (12, .int .i64 (g.i : Int)) :: kv) (fun g => omap strK (intR .i64) false bm g.m :: sl orderR A c s :: L) (fun g => s.length - g.i) (⟨0, []⟩) rfl (⟨Nat.zero_le _, fun k => rfl, fun j x hj => by simp at hj⟩) (GivesTo.g) (sub_cons rfl (sub_cons rfl (sub_cons rfl (sub_cons rfl (sub_nil))))) ?_
  rintro ⟨i, m⟩ ⟨hi, hI, hC⟩
  dsimp only at hi hI hC ⊢
  refine T_region ?_
  refine TL_y rfl rfl (Y_lt rfl rfl) ?_
  refine TL_nil ?_
  refine T_seq ?_
  refine T_if rfl (fun h13 => ?_) (fun h13 => ?_)
  · refine T_skip ?_
    refine thenS_normal ?_
    refine T_seq ?_
    refine T_block ?_
    obtain ⟨x, hx⟩ : ∃ x, s[i]? = some x := ⟨_, List.getElem?_eq_getElem (by omega)⟩
    have hxm := List.mem_of_getElem? hx
    have hel := epochC_len (s.take i) x.cart
    rw [List.length_take] at hel
    have hec := fun k => epochC_snoc hx k
    refine T_region ?_
    refine TL_y rfl rfl (Y_move rfl) ?_
    refine TL_index_n rfl rfl rfl (rfl) ((sln (A := A) (c := c))) (hx) ?_
    intro bn15 on15 hA15 hk15
    have hu15 := hx
    refine TL_load_nx rfl rfl hk15 hu15 (fun _ => rfl) ?_
    intro p16 ok16
    simp only [List.cons_append, List.nil_append]
    refine TL_alloc rfl rfl ?_
    intro b6
    refine TL_y rfl rfl (Y_assign rfl) ?_
    refine TL_store rfl rfl rfl rfl rfl rfl ?_
    refine TL_nil ?_
    refine T_seq ?_
    refine T_region ?_
    refine TL_y rfl rfl (Y_load_agg rfl rfl) ?_
    refine TL_call rfl rfl (sealWord_spec x ok16 slk (hb x hxm)) ?_
    rintro _ _ ⟨⟨B, dd, kk, rfl⟩, rfl⟩
    refine TL_y rfl rfl (Y_move rfl) ?_
    refine TL_y rfl rfl (Y_extract rfl rfl) ?_
    refine TL_y rfl rfl (Y_extract rfl rfl) ?_
    refine TL_y rfl rfl (Y_assign rfl) ?_
    refine TL_y rfl rfl (Y_assign rfl) ?_
    refine TL_nil ?_
    refine Classical.byCases (p := rSeal x) (fun hR => ?_) (fun hR => ?_)
    · refine T_region ?_
      refine TL_y rfl rfl (Y_move rfl) ?_
      refine TL_y rfl rfl (Y_ne rfl rfl) ?_
      refine TL_name 23 (v' := .bool false) rfl (by rw [if_pos hR]; rfl) ?_
      refine TL_y rfl rfl (Y_move rfl) ?_
      refine TL_grun rfl rfl ?_
      refine TL_y rfl rfl (Y_field_addr rfl) ?_
      refine TL_grun rfl rfl ?_
      refine TL_y rfl rfl (Y_load rfl rfl) ?_
      refine TL_grun rfl rfl ?_
      refine TL_y rfl rfl (Y_move rfl) ?_
      refine TL_grun rfl rfl ?_
      refine TL_y rfl rfl (Y_field_addr rfl) ?_
      refine TL_grun rfl rfl ?_
      refine TL_y rfl rfl (Y_load rfl rfl) ?_
      refine TL_grun rfl rfl ?_
      refine TL_y rfl rfl (Y_lookup (K := strK) (R := intR .i64) (k := x.cart) rfl rfl ok16.2.1) ?_
      refine TL_name 30 (v' := .int .i64 (epochC (s.take i) x.cart : Int)) rfl (by rw [← hI x.cart]; cases getM m x.cart <;> rfl) ?_
      refine TL_grun rfl rfl ?_
      refine TL_y rfl rfl (Y_ne rfl rfl) ?_
      refine TL_y rfl rfl (Y_pick_f rfl rfl) ?_
      refine TL_nil ?_
      refine T_if rfl (fun h32 => ?_) (fun h32 => ?_)
      · refine T_region ?_
        refine TL_y rfl rfl (Y_move rfl) ?_
        refine TL_y rfl rfl (Y_assign rfl) ?_
        refine TL_y rfl rfl (Y_assign rfl) ?_
        refine TL_nil ?_
        refine T_ret ?_
        refine thenS_ret ?_
        refine inB_ret ?_
        refine thenS_ret ?_
        refine thenS_ret ?_
        refine inB_ret ?_
        refine thenS_ret ?_
        exact RetG_2 (.inl rfl) rfl (ResV.tmp rfl) (ResV.tmp rfl) GivesTo.g (⟨⟨_, _, rfl, .inr ⟨rfl, CheckT.no hx fun h => h32 h.2⟩⟩, rfl⟩)
      · refine T_skip ?_
        refine thenS_normal ?_
        refine T_region_last ?_
        refine TL_y rfl rfl (Y_move rfl) ?_
        refine TL_y rfl rfl (Y_field_addr rfl) ?_
        refine TL_y rfl rfl (Y_load rfl rfl) ?_
        refine TL_y rfl rfl (Y_lookup (K := strK) (R := intR .i64) (k := x.cart) rfl rfl ok16.2.1) ?_
        refine TL_name 37 (v' := .int .i64 (epochC (s.take i) x.cart : Int)) rfl (by rw [← hI x.cart]; cases getM m x.cart <;> rfl) ?_
        refine TL_y rfl rfl (Y_add rfl rfl (by omega)) ?_
        refine TL_update (K := strK) (R := intR .i64) (k := x.cart) (u := (epochC (s.take i) x.cart : Int) + 1) (cs := [.int .i64 ((epochC (s.take i) x.cart : Int) + 1)]) ((x.cart, (epochC (s.take i) x.cart : Int) + 1) :: delM m x.cart) rfl rfl rfl ok16.2.1 (Knows.const fun M => ⟨rfl, i64In_mk (by omega)⟩) (List.Perm.refl _) ?_
        refine TL_nil ?_
        refine inB_normal ?_
        refine thenS_normal ?_
        refine T_region_last ?_
        refine TL_y rfl rfl (Y_add rfl rfl (by omega)) ?_
        refine TL_name 39 (v' := .int .i64 ((i + 1 : Nat) : Int)) rfl (rfl) ?_
        refine TL_y rfl rfl (Y_move rfl) ?_
        refine TL_nil ?_
        refine thenS_normal ?_
        exact ⟨⟨i + 1, (x.cart, (epochC (s.take i) x.cart : Int) + 1) :: delM m x.cart⟩, ⟨by simp only; omega, fun k => by (simp only; rw [getM_cons, hec k]; by_cases h : x.cart = k; (subst h; simp); (rw [if_neg h, if_neg h, getM_del, if_neg (fun e => h e.symm), hI k]; simp)), hC.step hx hR (Classical.not_not.1 h32)⟩, by simp only; omega, holds_to (sub_cons rfl (sub_cons rfl (sub_cons rfl (sub_cons rfl (sub_nil))))) GivesTo.g⟩
    · refine T_region ?_
      refine TL_y rfl rfl (Y_move rfl) ?_
      refine TL_y rfl rfl (Y_ne rfl rfl) ?_
      refine TL_name 23 (v' := .bool true) rfl (by rw [if_neg hR]; rfl) ?_
      refine TL_y rfl rfl (Y_move rfl) ?_
      refine TL_gskip rfl rfl rfl rfl ?_
      refine TL_gskip rfl rfl rfl rfl ?_
      refine TL_gskip rfl rfl rfl rfl ?_
      refine TL_gskip rfl rfl rfl rfl ?_
      refine TL_gskip rfl rfl rfl rfl ?_
      refine TL_gskip rfl rfl rfl rfl ?_
      refine TL_gskip rfl rfl rfl rfl ?_
      refine TL_y rfl rfl (Y_pick_t rfl rfl) ?_
      refine TL_nil ?_
      refine T_cond_true rfl ?_
      refine T_region ?_
      refine TL_y rfl rfl (Y_move rfl) ?_
      refine TL_y rfl rfl (Y_assign rfl) ?_
      refine TL_y rfl rfl (Y_assign rfl) ?_
      refine TL_nil ?_
      refine T_ret ?_
      refine thenS_ret ?_
      refine inB_ret ?_
      refine thenS_ret ?_
      refine thenS_ret ?_
      refine inB_ret ?_
      refine thenS_ret ?_
      exact RetG_2 (.inl rfl) rfl (ResV.tmp rfl) (ResV.tmp rfl) GivesTo.g (⟨⟨_, _, rfl, .inr ⟨rfl, CheckT.no hx fun h => hR h.1⟩⟩, rfl⟩)
  · refine T_exit ?_
    refine thenS_exit ?_
    refine thenS_exit ?_
    refine inB_hit ?_
    refine thenS_normal ?_
    refine T_region ?_
    refine TL_y rfl rfl (Y_assign rfl) ?_
    refine TL_y rfl rfl (Y_assign rfl) ?_
    refine TL_nil ?_
    refine T_ret ?_
    exact RetG_2 (.inl rfl) rfl (ResV.tmp rfl) (ResV.tmp rfl) GivesTo.g (⟨⟨_, _, rfl, .inl ⟨rfl, hC.all (by omega)⟩⟩, rfl⟩)
theorem refEpoch_spec12 {L : List HP} {A : Option Addr} {c : Nat} {s : List OrderD} (name : ByteArray) (hk : SlN L orderR A c s) : Fn Try.prog 47 #[.slice A s.length c, .string name] L (fun v L' => v = .int .i64 (epochC s name : Int) ∧ L' = L) := by
  refine Fn_enter Try.func47 rfl rfl rfl rfl ?_
  refine hk.lens fun hl => ?_
  simp only [maxEl] at hl
  refine T_region ?_
  refine TL_y rfl rfl (Y_assign rfl) ?_
  refine TL_nil ?_
  refine T_region ?_
  refine TL_y rfl rfl (Y_assign rfl) ?_
  refine TL_nil ?_
  refine T_seq ?_
  refine T_region ?_
  refine TL_y rfl rfl (Y_assign rfl) ?_
  refine TL_nil ?_
  refine T_block ?_
  refine T_loopK (σ := Nat) [0, 1] (fun i => i ≤ s.length) (fun i kv => (6, .int .i64 (i : Int)) :: (5, .int .i64 (epochC (s.take i) name : Int)) :: kv) (fun i => L) (fun i => s.length - i) (0) rfl (Nat.zero_le _) (GivesTo.g) (sub_cons rfl (sub_cons rfl (sub_cons rfl (sub_cons rfl (sub_nil))))) ?_
  intro i hi
  refine T_seq ?_
  refine T_region ?_
  refine TL_y rfl rfl (Y_move rfl) ?_
  refine TL_y rfl rfl (Y_move rfl) ?_
  refine TL_y rfl rfl (Y_len rfl) ?_
  refine TL_y rfl rfl (Y_lt rfl rfl) ?_
  refine TL_nil ?_
  refine T_if rfl (fun h10 => ?_) (fun h10 => ?_)
  · refine T_skip ?_
    refine thenS_normal ?_
    refine T_seq ?_
    refine T_block ?_
    obtain ⟨x, hx⟩ : ∃ x, s[i]? = some x := ⟨_, List.getElem?_eq_getElem (by omega)⟩
    have hec := epochC_snoc hx name
    have hel := epochC_len (s.take i) name
    rw [List.length_take] at hel
    refine T_region ?_
    refine TL_y rfl rfl (Y_move rfl) ?_
    refine TL_y rfl rfl (Y_move rfl) ?_
    refine TL_index_n rfl rfl rfl (rfl) (hk) (hx) ?_
    intro bn15 on15 hA15 hk15
    have hu15 := hx
    refine TL_y rfl rfl (Y_field_addr2 rfl) ?_
    refine TL_y rfl rfl (Y_load_nx rfl hk15 hu15 (fun _ => rfl)) ?_
    refine TL_y rfl rfl (Y_move rfl) ?_
    refine TL_y rfl rfl (Y_str_eq rfl rfl) ?_
    refine TL_nil ?_
    refine T_if rfl (fun h19 => ?_) (fun h19 => ?_)
    · refine T_region_last ?_
      refine TL_y rfl rfl (Y_move rfl) ?_
      refine TL_y rfl rfl (Y_add rfl rfl (by omega)) ?_
      refine TL_name 21 (v' := .int .i64 (epochC (s.take (i + 1)) name : Int)) rfl (by rw [hec, if_pos h19]; rfl) ?_
      refine TL_y rfl rfl (Y_assign rfl) ?_
      refine TL_nil ?_
      refine inB_normal ?_
      refine thenS_normal ?_
      refine T_region_last ?_
      refine TL_y rfl rfl (Y_move rfl) ?_
      refine TL_y rfl rfl (Y_add rfl rfl (by omega)) ?_
      refine TL_name 12 (v' := .int .i64 ((i + 1 : Nat) : Int)) rfl (rfl) ?_
      refine TL_y rfl rfl (Y_assign rfl) ?_
      refine TL_nil ?_
      refine thenS_normal ?_
      exact ⟨i + 1, (by omega), by omega, holds_to (sub_cons rfl (sub_cons rfl (sub_cons rfl (sub_cons rfl (sub_nil))))) GivesTo.g⟩
    · refine T_skip ?_
      refine inB_normal ?_
      refine thenS_normal ?_
      refine T_region_last ?_
      refine TL_y rfl rfl (Y_move rfl) ?_
      refine TL_y rfl rfl (Y_add rfl rfl (by omega)) ?_
      refine TL_name 12 (v' := .int .i64 ((i + 1 : Nat) : Int)) rfl (rfl) ?_
      refine TL_y rfl rfl (Y_assign rfl) ?_
      refine TL_nil ?_
      refine thenS_normal ?_
      rw [if_neg h19] at hec
      have hec' : epochC (s.take (i + 1)) name = epochC (s.take i) name := hec
      rw [← hec']
      exact ⟨i + 1, (by omega), by omega, holds_to (sub_cons rfl (sub_cons rfl (sub_cons rfl (sub_cons rfl (sub_nil))))) GivesTo.g⟩
  · refine T_exit ?_
    refine thenS_exit ?_
    refine thenS_exit ?_
    refine inB_hit ?_
    refine thenS_normal ?_
    refine T_region ?_
    refine TL_y rfl rfl (Y_move rfl) ?_
    refine TL_y rfl rfl (Y_assign rfl) ?_
    refine TL_nil ?_
    refine T_ret ?_
    rw [List.take_of_length_le (show s.length ≤ i by omega)]
    exact RetG_1 (.inl rfl) rfl (ResV.tmp rfl) GivesTo.g (⟨rfl, rfl⟩)
theorem refCheck_spec {L : List HP} {A : Option Addr} {c : Nat} {s : List OrderD} (hk : SlK L orderR A c s) : Fn Try.prog 22 #[.slice A s.length c] L (fun v L' => ckR s v ∧ L' = L) := by
  refine Fn_enter Try.func22 rfl rfl rfl rfl ?_
  refine T_gives hk.lay ?_
  refine SlN.lens (sln (A := A) (c := c)) fun hl => ?_
  simp only [maxEl] at hl
  refine T_region ?_
  refine TL_y rfl rfl (Y_assign rfl) ?_
  refine TL_y rfl rfl (Y_assign rfl) ?_
  refine TL_nil ?_
  refine T_seq ?_
  refine T_region ?_
  refine TL_y rfl rfl (Y_assign rfl) ?_
  refine TL_nil ?_
  refine T_block ?_
  refine T_loopK (σ := Nat) [0] (fun i => i ≤ s.length ∧ CheckT s i) (fun i kv => (4, .int .i64 (i : Int)) :: kv) (fun i => sl orderR A c s :: L) (fun i => s.length - i) (0) rfl (⟨Nat.zero_le _, fun j x hj => by simp at hj⟩) (GivesTo.g) (sub_cons rfl (sub_cons rfl (sub_nil))) ?_
  rintro i ⟨hi, hC⟩
  refine T_seq ?_
  refine T_region ?_
  refine TL_y rfl rfl (Y_move rfl) ?_
  refine TL_y rfl rfl (Y_move rfl) ?_
  refine TL_y rfl rfl (Y_len rfl) ?_
  refine TL_y rfl rfl (Y_lt rfl rfl) ?_
  refine TL_nil ?_
  refine T_if rfl (fun h8 => ?_) (fun h8 => ?_)
  · refine T_skip ?_
    refine thenS_normal ?_
    refine T_seq ?_
    refine T_block ?_
    refine Classical.byCases (p := ∀ x, s[i]? = some x → rSeal x) (fun hR => ?_) (fun hR => ?_)
    · obtain ⟨x, hx⟩ : ∃ x, s[i]? = some x := ⟨_, List.getElem?_eq_getElem (by omega)⟩
      refine T_at (slk (A := A) (c := c)) hx fun b1 o1 l1 ha1 => ?_
      refine T_ex fun p1 ok1 => ?_
      simp only [List.cons_append, List.nil_append]
      refine T_region_draw _ [0, 0, 3, 7, 15, 31, 63, 127, 127, 511, 1023, 2047, 127, 127, 12415, 127, 127, 98431, 229503, 491647, 1044607, 2097151, 4194303] [] [(0, true), (1, true), (2, true), (3, true), (4, false), (5, true), (6, true), (7, true), (8, true), (9, true), (10, true), (11, true), (12, true), (13, true), (14, true), (15, true), (16, true), (17, true), (18, true), (19, true), (20, false), (21, true), (22, true)] (by kernel_rfl) (by decide +kernel) (Gives.refl _) ?_
      refine TF_y rfl rfl (Y_move rfl) ?_
      refine TF_y rfl rfl (Y_move rfl) ?_
      refine TF_y rfl rfl (Y_index_at rfl rfl (by omega) ha1) ?_
      refine TF_y rfl rfl (Y_load_row_agg (vs := orderC x p1) rfl rfl) ?_
      refine TF_anchor rfl ?_
      refine TL_call rfl rfl (rightSeal_spec x ok1 slk) ?_
      rintro _ _ ⟨rfl, rfl⟩
      refine TL_name 15 (v' := .bool true) rfl (by rw [decide_eq_true (hR x hx)]) ?_
      refine TF_end GivesTo.g ?_
      refine TF_y rfl rfl (Y_not rfl) ?_
      refine TF_name 16 (v' := .bool false) rfl (rfl) ?_
      refine TF_y rfl rfl (Y_move rfl) ?_
      refine TF_gy rfl rfl rfl rfl (Y_move rfl) ?_
      refine TF_gy rfl rfl rfl rfl (Y_move rfl) ?_
      refine TF_gy rfl rfl rfl rfl (Y_index_at rfl rfl (by omega) ha1) ?_
      refine TF_gy rfl rfl rfl rfl (Y_field_addr2 rfl) ?_
      refine TF_gy rfl rfl rfl rfl (Y_load_row rfl rfl) ?_
      refine TF_gy rfl rfl rfl rfl (Y_move rfl) ?_
      refine TF_gy rfl rfl rfl rfl (Y_move rfl) ?_
      refine TF_gy rfl rfl rfl rfl (Y_cut_h rfl rfl (by omega)) ?_
      refine TF_name 25 (v' := .slice A (s.take i).length c) rfl (by congr 1; rw [List.length_take]; omega) ?_
      refine TF_gy rfl rfl rfl rfl (Y_move rfl) ?_
      refine TF_gy rfl rfl rfl rfl (Y_move rfl) ?_
      refine TF_gy rfl rfl rfl rfl (Y_index_at rfl rfl (by omega) ha1) ?_
      refine TF_gy rfl rfl rfl rfl (Y_field_addr2 rfl) ?_
      refine TF_gy rfl rfl rfl rfl (Y_load_row rfl rfl) ?_
      refine TF_anchor rfl ?_
      refine TL_grun rfl rfl ?_
      refine TL_call rfl rfl (refEpoch_spec12 x.cart ((sln (A := A) (c := c) (xs := s)).take i)) ?_
      rintro _ _ ⟨rfl, rfl⟩
      refine TF_end GivesTo.g ?_
      refine TF_gy rfl rfl rfl rfl (Y_ne rfl rfl) ?_
      refine TF_y rfl rfl (Y_pick_f rfl rfl) ?_
      refine TF_nil ?_
      refine T_if rfl (fun h33 => ?_) (fun h33 => ?_)
      · refine T_region ?_
        refine TL_y rfl rfl (Y_move rfl) ?_
        refine TL_y rfl rfl (Y_assign rfl) ?_
        refine TL_y rfl rfl (Y_assign rfl) ?_
        refine TL_nil ?_
        refine T_ret ?_
        refine inB_ret ?_
        refine thenS_ret ?_
        refine thenS_ret ?_
        refine inB_ret ?_
        refine thenS_ret ?_
        exact RetG_2 (.inl rfl) rfl (ResV.tmp rfl) (ResV.tmp rfl) GivesTo.g (⟨⟨_, _, rfl, .inr ⟨rfl, CheckT.no hx fun h => h33 h.2⟩⟩, rfl⟩)
      · refine T_skip ?_
        refine inB_normal ?_
        refine thenS_normal ?_
        refine T_region_last ?_
        refine TL_y rfl rfl (Y_move rfl) ?_
        refine TL_y rfl rfl (Y_add rfl rfl (by omega)) ?_
        refine TL_name 10 (v' := .int .i64 ((i + 1 : Nat) : Int)) rfl (rfl) ?_
        refine TL_y rfl rfl (Y_assign rfl) ?_
        refine TL_nil ?_
        refine thenS_normal ?_
        exact ⟨i + 1, ⟨by omega, hC.step hx (hR x hx) (Classical.not_not.1 h33)⟩, by omega, holds_to (sub_cons rfl (sub_cons rfl (sub_nil))) GivesTo.g⟩
    · obtain ⟨x, hx⟩ : ∃ x, s[i]? = some x := ⟨_, List.getElem?_eq_getElem (by omega)⟩
      refine T_at (slk (A := A) (c := c)) hx fun b1 o1 l1 ha1 => ?_
      refine T_ex fun p1 ok1 => ?_
      simp only [List.cons_append, List.nil_append]
      refine T_region_draw _ [0, 0, 3, 7, 15, 31, 63, 127, 127, 511, 1023, 2047, 127, 127, 12415, 127, 127, 98431, 229503, 491647, 1044607, 2097151, 4194303] [] [(0, true), (1, true), (2, true), (3, true), (4, false), (5, true), (6, true), (7, true), (8, true), (9, true), (10, true), (11, true), (12, true), (13, true), (14, true), (15, true), (16, true), (17, true), (18, true), (19, true), (20, false), (21, true), (22, true)] (by kernel_rfl) (by decide +kernel) (Gives.refl _) ?_
      refine TF_y rfl rfl (Y_move rfl) ?_
      refine TF_y rfl rfl (Y_move rfl) ?_
      refine TF_y rfl rfl (Y_index_at rfl rfl (by omega) ha1) ?_
      refine TF_y rfl rfl (Y_load_row_agg (vs := orderC x p1) rfl rfl) ?_
      refine TF_anchor rfl ?_
      refine TL_call rfl rfl (rightSeal_spec x ok1 slk) ?_
      rintro _ _ ⟨rfl, rfl⟩
      refine TL_name 15 (v' := .bool false) rfl (by rw [decide_eq_false fun h => hR fun y hy => by rw [hx] at hy; cases hy; exact h]) ?_
      refine TF_end GivesTo.g ?_
      refine TF_y rfl rfl (Y_not rfl) ?_
      refine TF_name 16 (v' := .bool true) rfl (rfl) ?_
      refine TF_y rfl rfl (Y_move rfl) ?_
      refine TF_gskip rfl rfl rfl rfl rfl ?_
      refine TF_gskip rfl rfl rfl rfl rfl ?_
      refine TF_gskip rfl rfl rfl rfl rfl ?_
      refine TF_gskip rfl rfl rfl rfl rfl ?_
      refine TF_gskip rfl rfl rfl rfl rfl ?_
      refine TF_gskip rfl rfl rfl rfl rfl ?_
      refine TF_gskip rfl rfl rfl rfl rfl ?_
      refine TF_gskip rfl rfl rfl rfl rfl ?_
      refine TF_gskip rfl rfl rfl rfl rfl ?_
      refine TF_gskip rfl rfl rfl rfl rfl ?_
      refine TF_gskip rfl rfl rfl rfl rfl ?_
      refine TF_gskip rfl rfl rfl rfl rfl ?_
      refine TF_gskip rfl rfl rfl rfl rfl ?_
      refine TF_anchor rfl ?_
      refine TL_gskip rfl rfl rfl rfl ?_
      refine TF_end GivesTo.g ?_
      refine TF_gskip rfl rfl rfl rfl rfl ?_
      refine TF_y rfl rfl (Y_pick_t rfl rfl) ?_
      refine TF_nil ?_
      refine T_cond_true rfl ?_
      refine T_region ?_
      refine TL_y rfl rfl (Y_move rfl) ?_
      refine TL_y rfl rfl (Y_assign rfl) ?_
      refine TL_y rfl rfl (Y_assign rfl) ?_
      refine TL_nil ?_
      refine T_ret ?_
      refine inB_ret ?_
      refine thenS_ret ?_
      refine thenS_ret ?_
      refine inB_ret ?_
      refine thenS_ret ?_
      exact RetG_2 (.inl rfl) rfl (ResV.tmp rfl) (ResV.tmp rfl) GivesTo.g (⟨⟨_, _, rfl, .inr ⟨rfl, fun hc => hR fun y hy => (hc i y hy).1⟩⟩, rfl⟩)
  · refine T_exit ?_
    refine thenS_exit ?_
    refine thenS_exit ?_
    refine inB_hit ?_
    refine thenS_normal ?_
    refine T_region ?_
    refine TL_y rfl rfl (Y_assign rfl) ?_
    refine TL_y rfl rfl (Y_assign rfl) ?_
    refine TL_nil ?_
    refine T_ret ?_
    exact RetG_2 (.inl rfl) rfl (ResV.tmp rfl) (ResV.tmp rfl) GivesTo.g (⟨⟨_, _, rfl, .inl ⟨rfl, hC.all (by omega)⟩⟩, rfl⟩)
/-! ### Each dot once -/
structure Once12 (l : List EventD) : Prop where
  qty : ∀ e ∈ l, 0 ≤ e.qty ∧ e.qty ≤ 1000
  dots : l.Pairwise fun a b => a.dot ≠ b.dot
theorem Once12.right {l : List EventD} (h : Once12 l) : RightC l := ⟨h.qty, fun a ha b hb hab => by
  obtain ⟨i, hi⟩ := List.getElem?_of_mem ha
  obtain ⟨j, hj⟩ := List.getElem?_of_mem hb
  have h1 := (List.getElem?_eq_some_iff.1 hi)
  have h2 := (List.getElem?_eq_some_iff.1 hj)
  have hp := List.pairwise_iff_getElem.1 h.dots
  rcases Nat.lt_trichotomy i j with hij | hij | hij
  · exact absurd (by rw [h1.2, h2.2]; exact hab) (hp i j h1.1 h2.1 hij)
  · subst hij; rw [hi] at hj; cases hj; rfl
  · exact absurd (by rw [h1.2, h2.2]; exact hab.symm) (hp j i h2.1 h1.1 hij)⟩
theorem once_snoc {l : List EventD} {i : Nat} {x : EventD} (h : Once12 (l.take i)) (hx : l[i]? = some x) (hq : 0 ≤ x.qty ∧ x.qty ≤ 1000) (hd : ∀ a ∈ l.take i, a.dot ≠ x.dot) : Once12 (l.take (i + 1)) := by
  rw [takeAt hx]
  refine ⟨fun e he => ?_, ?_⟩
  · rcases List.mem_append.1 he with he | he
    · exact h.qty e he
    · rw [List.mem_singleton.1 he]; exact hq
  · rw [List.pairwise_append]
    exact ⟨h.dots, List.pairwise_singleton _ _, fun a ha b hb => by rw [List.mem_singleton.1 hb]; exact hd a ha⟩
theorem once12_spec {L : List HP} {A : Option Addr} {c : Nat} {l : List EventD} (hk : SlK L eventR A c l) : Fn Try.prog 27 #[.slice A l.length c] L (fun v L' => (∃ r : Bool, v = .bool r ∧ (r = true ↔ Once12 l)) ∧ L' = L) := by
  refine Fn_enter Try.func27 rfl rfl rfl rfl ?_
  refine T_gives hk.lay ?_
  refine SlN.lens (sln (A := A) (c := c)) fun hl => ?_
  simp only [maxEl] at hl
  refine T_region ?_
  refine TL_y rfl rfl (Y_assign rfl) ?_
  refine TL_nil ?_
  refine T_seq ?_
  refine T_region ?_
  refine TL_y rfl rfl (Y_assign rfl) ?_
  refine TL_nil ?_
  refine T_block ?_
  refine T_loopK (σ := Nat) [0] (fun i => i ≤ l.length ∧ Once12 (l.take i)) (fun i kv => (3, .int .i64 (i : Int)) :: kv) (fun i => sl eventR A c l :: L) (fun i => l.length - i) (0) rfl (⟨Nat.zero_le _, ⟨fun e h => by simp at h, by simp⟩⟩) (GivesTo.g) (sub_cons rfl (sub_cons rfl (sub_nil))) ?_
  intro i hi
  refine T_seq ?_
  refine T_region ?_
  refine TL_y rfl rfl (Y_move rfl) ?_
  refine TL_y rfl rfl (Y_move rfl) ?_
  refine TL_y rfl rfl (Y_len rfl) ?_
  refine TL_y rfl rfl (Y_lt rfl rfl) ?_
  refine TL_nil ?_
  refine T_if rfl (fun h8 => ?_) (fun h8 => ?_)
  · refine T_skip ?_
    refine thenS_normal ?_
    refine T_seq ?_
    refine T_block ?_
    refine T_seq ?_
    obtain ⟨x, hx⟩ : ∃ x, l[i]? = some x := ⟨_, List.getElem?_eq_getElem (by omega)⟩
    refine T_region ?_
    refine TL_y rfl rfl (Y_move rfl) ?_
    refine TL_y rfl rfl (Y_move rfl) ?_
    refine TL_index_n rfl rfl rfl (rfl) ((sln (A := A) (c := c))) (hx) ?_
    intro bn13 on13 hA13 hk13
    have hu13 := hx
    refine TL_y rfl rfl (Y_field_addr2 rfl) ?_
    refine TL_y rfl rfl (Y_load_nx rfl hk13 hu13 (fun _ => rfl)) ?_
    refine TL_both 9 24 (x.qty < 0 ∨ 1000 < x.qty) ?_ ?_
    · refine TL_y rfl rfl (Y_lt rfl rfl) ?_
      refine TL_y rfl rfl (Y_move rfl) ?_
      refine TL_splitd 17 rfl (fun h17 => ?_) (fun h17 => ?_)
      · refine TL_gskip rfl rfl rfl rfl ?_
        refine TL_gskip rfl rfl rfl rfl ?_
        refine TL_gskip rfl rfl rfl rfl ?_
        refine TL_gskip rfl rfl rfl rfl ?_
        refine TL_gskip rfl rfl rfl rfl ?_
        refine TL_gskip rfl rfl rfl rfl ?_
        refine TL_y rfl rfl (Y_pick_t rfl rfl) ?_
        refine TL_chain_end rfl ?_ (by repeat (first | exact sub_refl | refine sub_ext rfl ?_)) GivesTo.g
        exact congrArg Value.bool (decide_eq_true (by omega)).symm
      · refine TL_grun rfl rfl ?_
        refine TL_y rfl rfl (Y_move rfl) ?_
        refine TL_grun rfl rfl ?_
        refine TL_y rfl rfl (Y_move rfl) ?_
        refine TL_grun rfl rfl ?_
        refine TL_index_n rfl rfl rfl (rfl) ((sln (A := A) (c := c))) (hx) ?_
        intro bn20 on20 hA20 hk20
        have hu20 := hx
        refine TL_grun rfl rfl ?_
        refine TL_y rfl rfl (Y_field_addr2 rfl) ?_
        refine TL_grun rfl rfl ?_
        refine TL_y rfl rfl (Y_load_nx rfl hk20 hu20 (fun _ => rfl)) ?_
        refine TL_grun rfl rfl ?_
        refine TL_y rfl rfl (Y_gt rfl rfl) ?_
        refine TL_y rfl rfl (Y_pick_f rfl rfl) ?_
        refine TL_chain_end rfl ?_ (by repeat (first | exact sub_refl | refine sub_ext rfl ?_)) GivesTo.g
        exact congrArg Value.bool (decide_eq_decide.2 (by omega))
    refine TL_nil ?_
    refine T_if rfl (fun h24 => ?_) (fun h24 => ?_)
    · refine T_region ?_
      refine TL_y rfl rfl (Y_assign rfl) ?_
      refine TL_nil ?_
      refine T_ret ?_
      refine thenS_ret ?_
      refine inB_ret ?_
      refine thenS_ret ?_
      refine thenS_ret ?_
      refine inB_ret ?_
      refine thenS_ret ?_
      exact RetG_1 (.inl rfl) rfl (ResV.tmp rfl) GivesTo.g (⟨⟨false, rfl, by simp; intro h; have := h.qty x (List.mem_of_getElem? hx); omega⟩, rfl⟩)
    · refine T_skip ?_
      refine thenS_normal ?_
      refine T_region ?_
      refine TL_y rfl rfl (Y_assign rfl) ?_
      refine TL_nil ?_
      refine T_block ?_
      refine T_loopK (σ := Nat) [0, 3] (fun k => k ≤ i ∧ ∀ a ∈ (l.take i).take k, a.dot ≠ x.dot) (fun k kv => (4, .int .i64 (k : Int)) :: kv) (fun k => sl eventR A c l :: L) (fun k => i - k) (0) rfl (⟨Nat.zero_le _, by simp⟩) (GivesTo.g) (sub_cons rfl (sub_cons rfl (sub_cons rfl (sub_nil)))) ?_
      intro k hk2
      refine T_seq ?_
      refine T_region ?_
      refine TL_y rfl rfl (Y_move rfl) ?_
      refine TL_y rfl rfl (Y_move rfl) ?_
      refine TL_y rfl rfl (Y_lt rfl rfl) ?_
      refine TL_nil ?_
      refine T_if rfl (fun h27 => ?_) (fun h27 => ?_)
      · refine T_skip ?_
        refine thenS_normal ?_
        refine T_seq ?_
        refine T_block ?_
        obtain ⟨y, hy⟩ : ∃ y, l[k]? = some y := ⟨_, List.getElem?_eq_getElem (by omega)⟩
        have hyi : (l.take i)[k]? = some y := (by rw [List.getElem?_take_of_lt (by omega)]; exact hy)
        refine T_at (slk (A := A) (c := c)) hy fun b1 o1 l1 ha1 => ?_
        refine T_ex fun p1 ok1 => ?_
        simp only [List.cons_append, List.nil_append]
        refine T_at (slk (A := A) (c := c)) hx fun b2 o2 l2 ha2 => ?_
        refine T_ex fun p2 ok2 => ?_
        simp only [List.cons_append, List.nil_append]
        refine T_region_draw _ [0, 0, 3, 7, 15, 0, 0, 96, 224, 480, 1023] [] [(0, true), (1, true), (2, true), (3, true), (4, true), (5, true), (6, true), (7, true), (8, true), (9, true), (10, true)] (by kernel_rfl) (by decide +kernel) (Gives.refl _) ?_
        refine TF_y rfl rfl (Y_move rfl) ?_
        refine TF_y rfl rfl (Y_move rfl) ?_
        refine TF_y rfl rfl (Y_index_at rfl rfl (by omega) ha1) ?_
        refine TF_y rfl rfl (Y_field_addr2 rfl) ?_
        refine TF_y rfl rfl (Y_load_row_agg (vs := [.int .i64 y.dot.1, .int .i64 y.dot.2]) rfl rfl) ?_
        refine TF_y rfl rfl (Y_move rfl) ?_
        refine TF_y rfl rfl (Y_move rfl) ?_
        refine TF_y rfl rfl (Y_index_at rfl rfl (by omega) ha2) ?_
        refine TF_y rfl rfl (Y_field_addr2 rfl) ?_
        refine TF_y rfl rfl (Y_load_row_agg (vs := [.int .i64 x.dot.1, .int .i64 x.dot.2]) rfl rfl) ?_
        refine TF_y rfl rfl (Y_eq_dot (a := y.dot) (b := x.dot) rfl rfl) ?_
        refine TF_nil ?_
        refine T_if rfl (fun h40 => ?_) (fun h40 => ?_)
        · refine T_region ?_
          refine TL_y rfl rfl (Y_assign rfl) ?_
          refine TL_nil ?_
          refine T_ret ?_
          refine inB_ret ?_
          refine thenS_ret ?_
          refine thenS_ret ?_
          refine inB_ret ?_
          refine inB_ret ?_
          refine thenS_ret ?_
          refine thenS_ret ?_
          refine inB_ret ?_
          refine thenS_ret ?_
          exact RetG_1 (.inl rfl) rfl (ResV.tmp rfl) GivesTo.g (⟨⟨false, rfl, by simp; intro h; have hp := List.pairwise_iff_getElem.1 h.dots k i (by omega) (by omega) (by omega); exact hp (by rw [(List.getElem?_eq_some_iff.1 hy).2, (List.getElem?_eq_some_iff.1 hx).2]; exact h40)⟩, rfl⟩)
        · refine T_skip ?_
          refine inB_normal ?_
          refine thenS_normal ?_
          refine T_region_last ?_
          refine TL_y rfl rfl (Y_move rfl) ?_
          refine TL_y rfl rfl (Y_add rfl rfl (by omega)) ?_
          refine TL_name 29 (v' := .int .i64 ((k + 1 : Nat) : Int)) rfl (rfl) ?_
          refine TL_y rfl rfl (Y_assign rfl) ?_
          refine TL_nil ?_
          refine thenS_normal ?_
          exact ⟨k + 1, ⟨by omega, by rw [takeAt hyi]; intro a ha; rcases List.mem_append.1 ha with ha | ha; exact hk2.2 a ha; (rw [List.mem_singleton.1 ha]; exact h40)⟩, by omega, holds_to (sub_cons rfl (sub_cons rfl (sub_cons rfl (sub_nil)))) GivesTo.g⟩
      · refine T_exit ?_
        refine thenS_exit ?_
        refine thenS_exit ?_
        refine inB_hit ?_
        refine inB_normal ?_
        refine thenS_normal ?_
        refine T_region_last ?_
        refine TL_y rfl rfl (Y_move rfl) ?_
        refine TL_y rfl rfl (Y_add rfl rfl (by omega)) ?_
        refine TL_name 10 (v' := .int .i64 ((i + 1 : Nat) : Int)) rfl (rfl) ?_
        refine TL_y rfl rfl (Y_assign rfl) ?_
        refine TL_nil ?_
        refine thenS_normal ?_
        exact ⟨i + 1, ⟨by omega, once_snoc hi.2 hx (by omega) (by have := hk2.2; rwa [List.take_of_length_le (by rw [List.length_take]; omega)] at this)⟩, by omega, holds_to (sub_cons rfl (sub_cons rfl (sub_nil))) GivesTo.g⟩
  · refine T_exit ?_
    refine thenS_exit ?_
    refine thenS_exit ?_
    refine inB_hit ?_
    refine thenS_normal ?_
    refine T_region ?_
    refine TL_y rfl rfl (Y_assign rfl) ?_
    refine TL_nil ?_
    refine T_ret ?_
    exact RetG_1 (.inl rfl) rfl (ResV.tmp rfl) GivesTo.g (⟨⟨true, rfl, by simp; have := hi.2; rwa [List.take_of_length_le (by omega)] at this⟩, rfl⟩)
theorem of12_spec {L : List HP} {A : Option Addr} {c : Nat} {xs : List LineD} (sku : ByteArray) (hk : SlN L lineR A c xs) : Fn Try.prog 30 #[.slice A xs.length c, .string sku] L (fun v L' => v = .int .i64 (ofX xs sku) ∧ L' = L) := by
  refine Fn_enter Try.func30 rfl rfl rfl rfl ?_
  refine hk.lens fun hl => ?_
  simp only [maxEl] at hl
  refine T_region ?_
  refine TL_y rfl rfl (Y_assign rfl) ?_
  refine TL_nil ?_
  refine T_seq ?_
  refine T_region ?_
  refine TL_y rfl rfl (Y_assign rfl) ?_
  refine TL_nil ?_
  refine T_block ?_
  refine T_loopK (σ := Nat) [0, 1] (fun i => i ≤ xs.length ∧ ∀ p ∈ xs.take i, p.1 ≠ sku) (fun i kv => (5, .int .i64 (i : Int)) :: kv) (fun i => L) (fun i => xs.length - i) (0) rfl (⟨Nat.zero_le _, by simp⟩) (GivesTo.g) (sub_cons rfl (sub_cons rfl (sub_cons rfl (sub_nil)))) ?_
  intro i hi
  refine T_seq ?_
  refine T_region ?_
  refine TL_y rfl rfl (Y_move rfl) ?_
  refine TL_y rfl rfl (Y_move rfl) ?_
  refine TL_y rfl rfl (Y_len rfl) ?_
  refine TL_y rfl rfl (Y_lt rfl rfl) ?_
  refine TL_nil ?_
  refine T_if rfl (fun h9 => ?_) (fun h9 => ?_)
  · refine T_skip ?_
    refine thenS_normal ?_
    refine T_seq ?_
    refine T_block ?_
    obtain ⟨p, hp⟩ : ∃ p, xs[i]? = some p := ⟨_, List.getElem?_eq_getElem (by omega)⟩
    refine T_region ?_
    refine TL_y rfl rfl (Y_move rfl) ?_
    refine TL_y rfl rfl (Y_move rfl) ?_
    refine TL_index_n rfl rfl rfl (rfl) (hk) (hp) ?_
    intro bn14 on14 hA14 hk14
    have hu14 := hp
    refine TL_y rfl rfl (Y_field_addr2 rfl) ?_
    refine TL_y rfl rfl (Y_load_n rfl hk14 hu14 rfl) ?_
    refine TL_y rfl rfl (Y_move rfl) ?_
    refine TL_y rfl rfl (Y_str_eq rfl rfl) ?_
    refine TL_nil ?_
    refine T_if rfl (fun h18 => ?_) (fun h18 => ?_)
    · refine T_region ?_
      refine TL_y rfl rfl (Y_move rfl) ?_
      refine TL_y rfl rfl (Y_move rfl) ?_
      refine TL_index_n rfl rfl rfl (rfl) (hk) (hp) ?_
      intro bn21 on21 hA21 hk21
      have hu21 := hp
      refine TL_y rfl rfl (Y_field_addr2 rfl) ?_
      refine TL_y rfl rfl (Y_load_n rfl hk21 hu21 rfl) ?_
      refine TL_y rfl rfl (Y_assign rfl) ?_
      refine TL_nil ?_
      refine T_ret ?_
      refine inB_ret ?_
      refine thenS_ret ?_
      refine thenS_ret ?_
      refine inB_ret ?_
      refine thenS_ret ?_
      exact RetG_1 (.inl rfl) rfl (ResV.tmp rfl) GivesTo.g (⟨congrArg (Value.int .i64) (ofX_at hp h18 hi.2).symm, rfl⟩)
    · refine T_skip ?_
      refine inB_normal ?_
      refine thenS_normal ?_
      refine T_region_last ?_
      refine TL_y rfl rfl (Y_move rfl) ?_
      refine TL_y rfl rfl (Y_add rfl rfl (by omega)) ?_
      refine TL_name 11 (v' := .int .i64 ((i + 1 : Nat) : Int)) rfl (rfl) ?_
      refine TL_y rfl rfl (Y_assign rfl) ?_
      refine TL_nil ?_
      refine thenS_normal ?_
      exact ⟨i + 1, ⟨by omega, by rw [takeAt hp]; intro q hq; rcases List.mem_append.1 hq with h | h; exact hi.2 q h; (rw [List.mem_singleton.1 h]; exact h18)⟩, by omega, holds_to (sub_cons rfl (sub_cons rfl (sub_cons rfl (sub_nil)))) GivesTo.g⟩
  · refine T_exit ?_
    refine thenS_exit ?_
    refine thenS_exit ?_
    refine inB_hit ?_
    refine thenS_normal ?_
    refine T_region ?_
    refine TL_y rfl rfl (Y_assign rfl) ?_
    refine TL_nil ?_
    refine T_ret ?_
    exact RetG_1 (.inl rfl) rfl (ResV.tmp rfl) GivesTo.g (⟨congrArg (Value.int .i64) (ofX_none (by have := hi.2; rwa [List.take_of_length_le (by omega)] at this)).symm, rfl⟩)
theorem refSameL_spec {L : List HP} {A B : Option Addr} {c d : Nat} {xs ys : List LineD} (hk : SlN L lineR A c xs) (hk2 : SlN L lineR B d ys) : Fn Try.prog 28 #[.slice A xs.length c, .slice B ys.length d] L (fun v L' => v = .bool (decide (xs = ys)) ∧ L' = L) := by
  refine Fn_enter Try.func28 rfl rfl rfl rfl ?_
  refine hk.lens fun hl => ?_
  simp only [maxEl] at hl
  refine T_region ?_
  refine TL_y rfl rfl (Y_assign rfl) ?_
  refine TL_nil ?_
  refine T_seq ?_
  refine T_region ?_
  refine TL_y rfl rfl (Y_move rfl) ?_
  refine TL_y rfl rfl (Y_len rfl) ?_
  refine TL_y rfl rfl (Y_move rfl) ?_
  refine TL_y rfl rfl (Y_len rfl) ?_
  refine TL_y rfl rfl (Y_ne rfl rfl) ?_
  refine TL_nil ?_
  refine T_if rfl (fun h10 => ?_) (fun h10 => ?_)
  · refine T_region ?_
    refine TL_y rfl rfl (Y_assign rfl) ?_
    refine TL_nil ?_
    refine T_ret ?_
    refine thenS_ret ?_
    exact RetG_1 (.inl rfl) rfl (ResV.tmp rfl) GivesTo.g (⟨by rw [decide_eq_false]; rintro rfl; exact h10 rfl, rfl⟩)
  · refine T_skip ?_
    refine thenS_normal ?_
    refine T_seq ?_
    refine T_region ?_
    refine TL_y rfl rfl (Y_assign rfl) ?_
    refine TL_nil ?_
    refine T_block ?_
    refine T_loopK (σ := Nat) [0, 1] (fun i => i ≤ xs.length ∧ xs.take i = ys.take i) (fun i kv => (5, .int .i64 (i : Int)) :: kv) (fun i => L) (fun i => xs.length - i) (0) rfl (⟨Nat.zero_le _, rfl⟩) (GivesTo.g) (sub_cons rfl (sub_cons rfl (sub_cons rfl (sub_nil)))) ?_
    intro i hi
    refine T_seq ?_
    refine T_region ?_
    refine TL_y rfl rfl (Y_move rfl) ?_
    refine TL_y rfl rfl (Y_move rfl) ?_
    refine TL_y rfl rfl (Y_len rfl) ?_
    refine TL_y rfl rfl (Y_lt rfl rfl) ?_
    refine TL_nil ?_
    refine T_if rfl (fun h14 => ?_) (fun h14 => ?_)
    · refine T_skip ?_
      refine thenS_normal ?_
      refine T_seq ?_
      refine T_block ?_
      have hx := List.getElem?_eq_getElem (show i < xs.length by omega)
      have hy := List.getElem?_eq_getElem (show i < ys.length by omega)
      refine T_addr_n hk hx fun b1 o1 e1 => ?_
      refine T_addr_n hk2 hy fun b2 o2 e2 => ?_
      subst e1
      subst e2
      refine T_region_draw _ [0, 0, 3, 7, 0, 0, 48, 112, 255] [] [(0, true), (1, true), (2, true), (3, true), (4, true), (5, true), (6, true), (7, true), (8, true)] (by kernel_rfl) (by decide +kernel) (Gives.refl _) ?_
      refine TF_y rfl rfl (Y_move rfl) ?_
      refine TF_y rfl rfl (Y_move rfl) ?_
      refine TF_y rfl rfl (Y_index_n (R := lineR) (xs := xs) rfl rfl rfl hx) ?_
      refine TF_y rfl rfl (Y_load_naf (q := 0) (vs := lineC xs[i]) rfl hk hx rfl) ?_
      refine TF_y rfl rfl (Y_move rfl) ?_
      refine TF_y rfl rfl (Y_move rfl) ?_
      refine TF_y rfl rfl (Y_index_n (R := lineR) (xs := ys) rfl rfl rfl hy) ?_
      refine TF_y rfl rfl (Y_load_naf (q := 0) (vs := lineC ys[i]) rfl hk2 hy rfl) ?_
      refine TF_y rfl rfl (Y_ne_line rfl rfl) ?_
      refine TF_name 25 (v' := .bool (decide (xs[i] ≠ ys[i]))) rfl (by by_cases h : xs[i] = ys[i] <;> simp [h]) ?_
      refine TF_nil ?_
      refine T_if rfl (fun h25 => ?_) (fun h25 => ?_)
      · refine T_region ?_
        refine TL_y rfl rfl (Y_assign rfl) ?_
        refine TL_nil ?_
        refine T_ret ?_
        refine inB_ret ?_
        refine thenS_ret ?_
        refine thenS_ret ?_
        refine inB_ret ?_
        refine thenS_ret ?_
        exact RetG_1 (.inl rfl) rfl (ResV.tmp rfl) GivesTo.g (⟨by rw [decide_eq_false]; rintro rfl; exact h25 rfl, rfl⟩)
      · refine T_skip ?_
        refine inB_normal ?_
        refine thenS_normal ?_
        refine T_region_last ?_
        refine TL_y rfl rfl (Y_move rfl) ?_
        refine TL_y rfl rfl (Y_add rfl rfl (by omega)) ?_
        refine TL_name 16 (v' := .int .i64 ((i + 1 : Nat) : Int)) rfl (by simp) ?_
        refine TL_y rfl rfl (Y_assign rfl) ?_
        refine TL_nil ?_
        refine thenS_normal ?_
        exact ⟨i + 1, ⟨by omega, takeStep hi.2 hx hy (Classical.not_not.1 h25)⟩, by omega, holds_to (sub_cons rfl (sub_cons rfl (sub_cons rfl (sub_nil)))) GivesTo.g⟩
    · refine T_exit ?_
      refine thenS_exit ?_
      refine thenS_exit ?_
      refine inB_hit ?_
      refine thenS_normal ?_
      refine T_region ?_
      refine TL_y rfl rfl (Y_assign rfl) ?_
      refine TL_nil ?_
      refine T_ret ?_
      exact RetG_1 (.inl rfl) rfl (ResV.tmp rfl) GivesTo.g (⟨by rw [decide_eq_true (takeAll hi.2 (by omega) (by omega))], rfl⟩)
end Go.SL
set_option linter.unusedVariables false
set_option linter.unusedSimpArgs false
namespace Go.SL
open Go Go.Proofs
theorem one_lines {e : EventD} (hc : e.clears = false) (hq : 0 < e.qty) : IsLines [e] e.cart [(e.sku, e.qty)] := by
  have hg : ¬ goesC [e] e := goes_none (fun x hx => by rw [List.mem_singleton.1 hx]; exact hc) e
  have hs : standC [e] = [e] := by unfold standC; rw [List.filter_cons, if_pos (by simpa using hg)]; rfl
  have hn : countC [e] = [e] := by unfold countC; rw [hs]; rfl
  have hf : ∀ k, lineF [e] e.cart k = if e.sku = k then e.qty else 0 := fun k => by
    rw [lineF_eq, hn]
    by_cases h : e.sku = k <;> simp [ofC, h, sumC]
  refine ⟨List.pairwise_singleton _ _, fun k q => ?_, by rw [hn]; simp [sumC]⟩
  rw [hf, List.mem_singleton, Prod.mk.injEq]
  constructor
  · rintro ⟨rfl, rfl⟩; rw [if_pos rfl]; exact ⟨rfl, hq⟩
  · rintro ⟨h1, h2⟩
    by_cases h : e.sku = k
    · rw [if_pos h] at h1; exact ⟨h.symm, h1⟩
    · rw [if_neg h] at h1; omega
abbrev sc1 : OrderD := ⟨⟨#[116]⟩, ⟨#[99]⟩, 0, [1]⟩
abbrev sc2 : OrderD := ⟨⟨#[116]⟩, ⟨#[99]⟩, 1, []⟩
theorem sc1_ok : orderOk' sc1 := ⟨by show (1 : Nat) ≤ maxEl; decide, lc_size1, i64In_mk (by decide), by decide⟩
theorem sc2_ok : orderOk' sc2 := ⟨by show (1 : Nat) ≤ maxEl; decide, lc_size1, i64In_mk (by decide), by decide⟩
theorem sc_bel : belN [sc1] lc1 = 0 ∧ belB [sc1] lc1 = true := by decide +kernel
theorem sc_no : ¬ CheckC [sc2] := fun h => absurd (h 0 sc2 rfl).2 (by decide +kernel)
theorem sc_ord : ordLC [lc1, lc2] [sc1] ⟨#[99]⟩ 0 = [lc1] := by decide +kernel
theorem sc_open : openC [lc1, lc2] [sc1] = [lc2] := by decide +kernel
theorem sc_epoch : epochC [sc1] ⟨#[99]⟩ = 1 := by decide +kernel
theorem sc_whole : wholeC [1] [sc1] ⟨#[99]⟩ 0 = true := by decide +kernel
theorem sc_whole0 : wholeC [] [sc1] ⟨#[99]⟩ 0 = false := by decide +kernel
theorem sc_a {xs : List LineD} (h : IsLines (ordLC [lc1, lc2] [sc1] ⟨#[99]⟩ 0) ⟨#[99]⟩ xs) : xs = [(⟨#[116, 101, 97]⟩, 2)] := by
  rw [sc_ord] at h
  exact h.ext (one_lines (e := lc1) rfl (by decide)) fun _ => rfl
theorem sc_b {xs : List LineD} (h : IsLines (openC [lc1, lc2] [sc1]) ⟨#[99]⟩ xs) : xs = [(⟨#[116, 101, 97]⟩, 1)] := by
  rw [sc_open] at h
  exact h.ext (one_lines (e := lc2) rfl (by decide)) fun _ => rfl
theorem lives12_spec (L : List HP) : Fn Try.prog 21 #[] L (fun v L' => v = .bool true ∧ L' = L) := by
  refine Fn_enter Try.func21 rfl rfl rfl rfl ?_
  refine T_gives (slnil (R := intR .i64) (A := none) (c := 0)).lay ?_
  refine T_region ?_
  refine TL_y rfl rfl (Y_assign rfl) ?_
  refine TL_nil ?_
  refine T_region ?_
  refine TL_y rfl rfl (Y_build rfl rfl) ?_
  refine TL_y rfl rfl (Y_build rfl rfl) ?_
  refine TL_y rfl rfl (Y_build rfl rfl) ?_
  refine TL_y rfl rfl (Y_build rfl rfl) ?_
  refine TL_build_slice rfl rfl rfl rfl rfl rfl ?_
  intro b13
  refine TL_osl (k := 2) eventR [lc1, lc2] (cells_cons (ex_rep (u := lc1) ((none : Option Addr), (0 : Nat)) (sep_sl slk) lc1_ok) (cells_one' (ex_rep (u := lc2) ((none : Option Addr), (0 : Nat)) (sep_sl slk) lc2_ok))) rfl (by decide) ?_
  refine TL_freeze_osl ?_
  refine TL_name 13 (v' := .slice (some ⟨b13, 0, none⟩) [lc1, lc2].length 2) rfl rfl ?_
  refine TL_y rfl rfl (Y_assign rfl) ?_
  refine TL_nil ?_
  refine T_region ?_
  refine TL_build_slice rfl rfl rfl rfl rfl rfl ?_
  intro b14
  refine TL_osl (k := 1) (intR .i64) [1] (Knows.const (cells_ints (xs := [1]) (k := .i64) (fun x hx => by rw [List.mem_singleton.1 hx]; decide))) rfl (by decide) ?_
  refine TL_freeze_osl ?_
  refine TL_y rfl rfl (Y_build rfl rfl) ?_
  refine TL_build_slice rfl rfl rfl rfl rfl rfl ?_
  intro b16
  refine TL_osl (k := 1) orderR [sc1] (cells_one' (ex_rep (u := sc1) ((some ⟨b14, 0, none⟩ : Option Addr), (1 : Nat)) (sep_sl slk) sc1_ok)) rfl (by decide) ?_
  refine TL_freeze_osl ?_
  refine TL_name 16 (v' := .slice (some ⟨b16, 0, none⟩) [sc1].length 1) rfl rfl ?_
  refine TL_y rfl rfl (Y_assign rfl) ?_
  refine TL_nil ?_
  refine T_region ?_
  refine TL_y rfl rfl (Y_move rfl) ?_
  refine TL_index_n rfl rfl rfl (rfl) ((sln (A := some ⟨b13, 0, none⟩) (c := 2) (R := eventR) (xs := [lc1, lc2]))) (show [lc1, lc2][0]? = some lc1 from rfl) ?_
  intro bn19 on19 hA19 hk19
  have hu19 := show [lc1, lc2][0]? = some lc1 from rfl
  refine TL_load_nx rfl rfl hk19 hu19 (fun _ => rfl) ?_
  intro p20 ok20
  simp only [List.cons_append, List.nil_append]
  refine TL_y rfl rfl (Y_move rfl) ?_
  refine TL_call rfl rfl (belongs_spec lc1 p20 (slk (xs := [sc1]))) ?_
  rintro _ _ ⟨rfl, rfl⟩
  rw [sc_bel.1, sc_bel.2]
  refine TL_y rfl rfl (Y_move rfl) ?_
  refine TL_y rfl rfl (Y_extract rfl rfl) ?_
  refine TL_y rfl rfl (Y_extract rfl rfl) ?_
  refine TL_name 24 (v' := .bool true) rfl (rfl) ?_
  refine TL_y rfl rfl (Y_assign rfl) ?_
  refine TL_y rfl rfl (Y_assign rfl) ?_
  refine TL_nil ?_
  refine T_region ?_
  refine TL_y rfl rfl (Y_build rfl rfl) ?_
  refine TL_build_slice rfl rfl rfl rfl rfl rfl ?_
  intro b27
  refine TL_osl (k := 1) orderR [sc2] (cells_one' (ex_rep (u := sc2) ((none : Option Addr), (0 : Nat)) (sep_sl slk) sc2_ok)) rfl (by decide) ?_
  refine TL_freeze_osl ?_
  refine TL_name 27 (v' := .slice (some ⟨b27, 0, none⟩) [sc2].length 1) rfl rfl ?_
  refine TL_call rfl rfl (check12_spec (s := [sc2]) slk (fun x hx ↦ by rw [List.mem_singleton.1 hx]; decide +kernel)) ?_
  rintro _ _ ⟨⟨nn, ee, rfl, hee⟩, rfl⟩
  obtain rfl : ee = 120 := by rcases hee with h | h; exact absurd h.2 sc_no; exact h.1
  refine TL_y rfl rfl (Y_move rfl) ?_
  refine TL_y rfl rfl (Y_extract rfl rfl) ?_
  refine TL_y rfl rfl (Y_extract rfl rfl) ?_
  refine TL_y rfl rfl (Y_assign rfl) ?_
  refine TL_y rfl rfl (Y_assign rfl) ?_
  refine TL_nil ?_
  refine T_region ?_
  refine TL_y rfl rfl (Y_move rfl) ?_
  refine TL_y rfl rfl (Y_move rfl) ?_
  refine TL_call rfl rfl (order_spec (l := [lc1, lc2]) (s := [sc1]) ⟨#[99]⟩ 0 slk slk (by decide) (by decide)) ?_
  rintro _ _ ⟨A33, c33, xs33, rfl, rfl, hx33⟩
  obtain rfl := sc_a hx33
  refine TL_freeze_osl ?_
  refine TL_y rfl rfl (Y_move rfl) ?_
  refine TL_y rfl rfl (Y_move rfl) ?_
  refine TL_call rfl rfl (open_spec (l := [lc1, lc2]) (s := [sc1]) ⟨#[99]⟩ slk slk (by decide) (by decide)) ?_
  rintro _ _ ⟨A36, c36, xs36, rfl, rfl, hx36⟩
  obtain rfl := sc_b hx36
  refine TL_freeze_osl ?_
  refine TL_y rfl rfl (Y_assign rfl) ?_
  refine TL_y rfl rfl (Y_assign rfl) ?_
  refine TL_nil ?_
  refine T_region ?_
  refine TL_y rfl rfl (Y_move rfl) ?_
  refine TL_y rfl rfl (Y_eq rfl rfl) ?_
  refine TL_name 38 (v' := .bool true) rfl (rfl) ?_
  refine TL_y rfl rfl (Y_move rfl) ?_
  refine TL_grun rfl rfl ?_
  refine TL_y rfl rfl (Y_move rfl) ?_
  refine TL_y rfl rfl (Y_pick_t rfl rfl) ?_
  refine TL_y rfl rfl (Y_move rfl) ?_
  refine TL_grun rfl rfl ?_
  refine TL_y rfl rfl (Y_move rfl) ?_
  refine TL_grun rfl rfl ?_
  refine TL_y rfl rfl (Y_eq rfl rfl) ?_
  refine TL_name 44 (v' := .bool true) rfl (rfl) ?_
  refine TL_y rfl rfl (Y_pick_t rfl rfl) ?_
  refine TL_y rfl rfl (Y_move rfl) ?_
  refine TL_grun rfl rfl ?_
  refine TL_y rfl rfl (Y_move rfl) ?_
  refine TL_grun rfl rfl ?_
  refine TL_y rfl rfl (Y_len rfl) ?_
  refine TL_grun rfl rfl ?_
  refine TL_y rfl rfl (Y_eq rfl rfl) ?_
  refine TL_name 49 (v' := .bool true) rfl (rfl) ?_
  refine TL_y rfl rfl (Y_pick_t rfl rfl) ?_
  refine TL_y rfl rfl (Y_move rfl) ?_
  refine TL_grun rfl rfl ?_
  refine TL_y rfl rfl (Y_move rfl) ?_
  refine TL_grun rfl rfl ?_
  refine TL_index_n rfl rfl rfl (rfl) ((sln (A := A33) (c := c33) (R := lineR) (xs := [(⟨#[116, 101, 97]⟩, 2)]))) (show ([(⟨#[116, 101, 97]⟩, 2)] : List LineD)[0]? = some (⟨#[116, 101, 97]⟩, 2) from rfl) ?_
  intro bn53 on53 hA53 hk53
  have hu53 := show ([(⟨#[116, 101, 97]⟩, 2)] : List LineD)[0]? = some (⟨#[116, 101, 97]⟩, 2) from rfl
  refine TL_grun rfl rfl ?_
  refine TL_y rfl rfl (Y_field_addr2 rfl) ?_
  refine TL_grun rfl rfl ?_
  refine TL_y rfl rfl (Y_load_n rfl hk53 hu53 rfl) ?_
  refine TL_grun rfl rfl ?_
  refine TL_y rfl rfl (Y_eq rfl rfl) ?_
  refine TL_name 56 (v' := .bool true) rfl (rfl) ?_
  refine TL_y rfl rfl (Y_pick_t rfl rfl) ?_
  refine TL_y rfl rfl (Y_move rfl) ?_
  refine TL_grun rfl rfl ?_
  refine TL_y rfl rfl (Y_move rfl) ?_
  refine TL_grun rfl rfl ?_
  refine TL_y rfl rfl (Y_len rfl) ?_
  refine TL_grun rfl rfl ?_
  refine TL_y rfl rfl (Y_eq rfl rfl) ?_
  refine TL_name 61 (v' := .bool true) rfl (rfl) ?_
  refine TL_y rfl rfl (Y_pick_t rfl rfl) ?_
  refine TL_y rfl rfl (Y_move rfl) ?_
  refine TL_grun rfl rfl ?_
  refine TL_y rfl rfl (Y_move rfl) ?_
  refine TL_grun rfl rfl ?_
  refine TL_index_n rfl rfl rfl (rfl) ((sln (A := A36) (c := c36) (R := lineR) (xs := [(⟨#[116, 101, 97]⟩, 1)]))) (show ([(⟨#[116, 101, 97]⟩, 1)] : List LineD)[0]? = some (⟨#[116, 101, 97]⟩, 1) from rfl) ?_
  intro bn65 on65 hA65 hk65
  have hu65 := show ([(⟨#[116, 101, 97]⟩, 1)] : List LineD)[0]? = some (⟨#[116, 101, 97]⟩, 1) from rfl
  refine TL_grun rfl rfl ?_
  refine TL_y rfl rfl (Y_field_addr2 rfl) ?_
  refine TL_grun rfl rfl ?_
  refine TL_y rfl rfl (Y_load_n rfl hk65 hu65 rfl) ?_
  refine TL_grun rfl rfl ?_
  refine TL_y rfl rfl (Y_eq rfl rfl) ?_
  refine TL_name 68 (v' := .bool true) rfl (rfl) ?_
  refine TL_y rfl rfl (Y_pick_t rfl rfl) ?_
  refine TL_y rfl rfl (Y_move rfl) ?_
  refine TL_grun rfl rfl ?_
  refine TL_y rfl rfl (Y_move rfl) ?_
  refine TL_grun rfl rfl ?_
  refine TL_call rfl rfl (epoch_spec (s := [sc1]) ⟨#[99]⟩ slk) ?_
  rintro _ _ ⟨rfl, rfl⟩
  refine TL_grun rfl rfl ?_
  refine TL_y rfl rfl (Y_eq rfl rfl) ?_
  refine TL_name 73 (v' := .bool true) rfl (by rw [sc_epoch]; rfl) ?_
  refine TL_y rfl rfl (Y_pick_t rfl rfl) ?_
  refine TL_y rfl rfl (Y_move rfl) ?_
  refine TL_grun rfl rfl ?_
  refine TL_build_slice rfl rfl rfl rfl rfl rfl ?_
  intro b76
  refine TL_osl (k := 1) (intR .i64) [1] (Knows.const (cells_ints (xs := [1]) (k := .i64) (fun x hx => by rw [List.mem_singleton.1 hx]; decide))) rfl (by decide) ?_
  refine TL_freeze_osl ?_
  refine TL_grun rfl rfl ?_
  refine TL_y rfl rfl (Y_move rfl) ?_
  refine TL_grun rfl rfl ?_
  refine TL_call rfl rfl (whole_spec (ap := [1]) (s := [sc1]) ⟨#[99]⟩ 0 (SlK.n (slk (A := some ⟨b76, 0, none⟩) (c := 1))) slk) ?_
  rintro _ _ ⟨rfl, rfl⟩
  refine TL_name 78 (v' := .bool true) rfl (by rw [sc_whole]) ?_
  refine TL_y rfl rfl (Y_pick_t rfl rfl) ?_
  refine TL_y rfl rfl (Y_move rfl) ?_
  refine TL_grun rfl rfl ?_
  refine TL_y rfl rfl (Y_move rfl) ?_
  refine TL_grun rfl rfl ?_
  refine TL_call rfl rfl (whole_spec (A := none) (c := 0) (ap := []) (s := [sc1]) ⟨#[99]⟩ 0 (SlK.n slk) slk) ?_
  rintro _ _ ⟨rfl, rfl⟩
  refine TL_name 82 (v' := .bool false) rfl (by rw [sc_whole0]) ?_
  refine TL_grun rfl rfl ?_
  refine TL_y rfl rfl (Y_not_f rfl) ?_
  refine TL_y rfl rfl (Y_pick_t rfl rfl) ?_
  refine TL_y rfl rfl (Y_assign rfl) ?_
  refine TL_nil ?_
  refine T_ret ?_
  exact RetG_1 (.inl rfl) rfl (ResV.tmp rfl) GivesTo.g (⟨rfl, rfl⟩)
/-! ### Without seals -/
theorem line_cart {l l' : List EventD} {name : ByteArray} (hR : RightC l) (hsub : ∀ e ∈ l', e ∈ l) (hc : ∀ e ∈ l, e.cart = name → e ∈ l') (k : ByteArray) : lineF l name k = lineF l' name k := by
  have hR' := hR.sub hsub
  rw [lineF_eq, lineF_eq]
  refine sumC_perm (nodup_perm ((countC_nodup l).sublist List.filter_sublist) ((countC_nodup l').sublist List.filter_sublist) fun e => ?_)
  rw [List.mem_filter, List.mem_filter, hR.count, hR'.count]
  have hcart : ofC name k e = true → e.cart = name := fun h => by
    unfold ofC at h
    rw [Bool.and_eq_true] at h
    exact of_decide_eq_true h.1
  have hg : e.cart = name → (goesC l e ↔ goesC l' e) := fun he => by
    unfold goesC
    constructor
    · rintro ⟨x, hx, h1, h2, h3⟩; exact ⟨x, hc x hx (h2.trans he), h1, h2, h3⟩
    · rintro ⟨x, hx, h1, h2, h3⟩; exact ⟨x, hsub x hx, h1, h2, h3⟩
  constructor
  · rintro ⟨⟨h1, h2⟩, h3⟩
    exact ⟨⟨hc e h1 (hcart h3), fun h => h2 ((hg (hcart h3)).2 h)⟩, h3⟩
  · rintro ⟨⟨h1, h2⟩, h3⟩
    exact ⟨⟨hsub e h1, fun h => h2 ((hg (hcart h3)).1 h)⟩, h3⟩
theorem bel_none {s : List OrderD} {name : ByteArray} (h : ∀ x ∈ s, x.cart ≠ name) {e : EventD} (he : e.cart = name) : belB s e = false := by
  have : belC s e = none := find_no fun x hx => decide_eq_false fun hs => h x hx (hs.1.trans he)
  unfold belB; rw [this]; rfl
theorem open_others {l : List EventD} {s : List OrderD} {name : ByteArray} (hR : RightC l) (h : ∀ x ∈ s, x.cart ≠ name) (k : ByteArray) : lineF l name k = lineF (openC l s) name k :=
  line_cart hR (fun e he => openC_sub he) (fun e he hc => List.mem_filter.2 ⟨he, by rw [bel_none h hc]; rfl⟩) k
theorem ord_others {l : List EventD} {s : List OrderD} {name : ByteArray} (h : ∀ x ∈ s, x.cart ≠ name) (ep : Int) : ordLC l s name ep = [] := List.filter_eq_nil_iff.2 fun e he => by
  by_cases hc : e.cart = name
  · rw [bel_none h hc]; simp
  · simp [hc]
theorem lines_nil {name : ByteArray} {xs : List LineD} (h : IsLines [] name xs) : xs = [] := by
  refine h.ext (ys := []) (l' := []) (cart' := name) ⟨List.Pairwise.nil, fun k q => ?_, rfl⟩ fun _ => rfl
  constructor
  · intro h; simp at h
  · rintro ⟨h1, h2⟩
    have : lineF [] name k = 0 := rfl
    omega
def othersC (s : List OrderD) (name : ByteArray) : List OrderD := s.filter fun x => !decide (x.cart = name)
theorem others_snoc {s : List OrderD} {i : Nat} {x : OrderD} (h : s[i]? = some x) (name : ByteArray) : othersC (s.take (i + 1)) name = othersC (s.take i) name ++ if x.cart = name then [] else [x] := by
  unfold othersC
  rw [takeAt h, List.filter_append, List.filter_cons]
  by_cases hd : x.cart = name <;> simp [hd]
theorem others_len (s : List OrderD) (name : ByteArray) : (othersC s name).length ≤ s.length := List.length_filter_le _ _
theorem others_ne {s : List OrderD} {name : ByteArray} : ∀ x ∈ othersC s name, x.cart ≠ name := fun x hx => by simpa using (List.mem_filter.1 hx).2
theorem cutNone_walk {L : List HP} {A S : Option Addr} {c cs : Nat} {l : List EventD} {s : List OrderD} (name : ByteArray) (hk : SlK L eventR A c l) (hs : SlK L orderR S cs s) (hl : l.length ≤ 1466015503658) (hsl : s.length ≤ 2199023255488) : Fn Try.prog 9 #[.slice A l.length c, .slice S s.length cs, .string name] L (fun v L' => v = .bool true ∧ L' = L) := by
  refine Fn_enter Try.func9 rfl rfl rfl rfl ?_
  refine T_gives hk.lay ?_
  refine T_gives (hs.tail).lay ?_
  refine T_region ?_
  refine TL_y rfl rfl (Y_assign rfl) ?_
  refine TL_nil ?_
  refine T_seq ?_
  refine T_region ?_
  refine TL_call rfl rfl (lives12_spec _) ?_
  rintro _ _ ⟨rfl, rfl⟩
  refine TL_y rfl rfl (Y_not rfl) ?_
  refine TL_name 11 (v' := .bool false) rfl (rfl) ?_
  refine TL_nil ?_
  refine T_cond_false rfl ?_
  refine T_skip ?_
  refine thenS_normal ?_
  refine T_seq ?_
  refine Classical.byCases (p := Once12 l) (fun hR => ?_) (fun hR => ?_)
  · refine T_region ?_
    refine TL_y rfl rfl (Y_move rfl) ?_
    refine TL_call rfl rfl (once12_spec slk) ?_
    rintro _ _ ⟨⟨r, rfl, hr⟩, rfl⟩
    obtain rfl := hr.2 hR
    refine TL_y rfl rfl (Y_not rfl) ?_
    refine TL_name 14 (v' := .bool false) rfl (rfl) ?_
    refine TL_nil ?_
    refine T_cond_false rfl ?_
    refine T_skip ?_
    refine thenS_normal ?_
    refine T_region ?_
    refine TL_y rfl rfl (Y_assign rfl) ?_
    refine TL_nil ?_
    refine T_seq ?_
    refine T_region ?_
    refine TL_y rfl rfl (Y_assign rfl) ?_
    refine TL_nil ?_
    refine T_block ?_
    refine T_loopK (σ := PcSt) [0, 1, 2] (fun g => g.k ≤ s.length) (fun g kv => (8, .int .i64 (g.k : Int)) :: (7, .slice g.A (othersC (s.take g.k) name).length g.c) :: kv) (fun g => osl orderR 53 g.A g.c (othersC (s.take g.k) name) :: sl orderR S cs s :: sl eventR A c l :: L) (fun g => s.length - g.k) (⟨0, none, 0⟩) rfl (Nat.zero_le _) (osl_nil orderR 53 none _) (sub_cons rfl (sub_cons rfl (sub_cons rfl (sub_cons rfl (sub_cons rfl (sub_nil)))))) ?_
    rintro ⟨k, X, cx⟩ hk2
    dsimp only at hk2 ⊢
    refine T_seq ?_
    refine T_region ?_
    refine TL_y rfl rfl (Y_move rfl) ?_
    refine TL_y rfl rfl (Y_move rfl) ?_
    refine TL_y rfl rfl (Y_len rfl) ?_
    refine TL_y rfl rfl (Y_lt rfl rfl) ?_
    refine TL_nil ?_
    refine T_if rfl (fun h18 => ?_) (fun h18 => ?_)
    · refine T_skip ?_
      refine thenS_normal ?_
      refine T_seq ?_
      refine T_block ?_
      obtain ⟨x, hx⟩ : ∃ x, s[k]? = some x := ⟨_, List.getElem?_eq_getElem (by omega)⟩
      have hls := others_snoc hx name
      have hll := others_len (s.take k) name
      rw [List.length_take] at hll
      refine T_region ?_
      refine TL_y rfl rfl (Y_move rfl) ?_
      refine TL_y rfl rfl (Y_move rfl) ?_
      refine TL_index_n rfl rfl rfl (rfl) ((sln (A := S) (c := cs))) (hx) ?_
      intro bn23 on23 hA23 hk23
      have hu23 := hx
      refine TL_y rfl rfl (Y_field_addr2 rfl) ?_
      refine TL_y rfl rfl (Y_load_nx rfl hk23 hu23 (fun _ => rfl)) ?_
      refine TL_y rfl rfl (Y_move rfl) ?_
      refine TL_y rfl rfl (Y_str_ne rfl rfl) ?_
      refine TL_nil ?_
      refine T_if rfl (fun h27 => ?_) (fun h27 => ?_)
      · refine T_region_last ?_
        refine TL_y rfl rfl (Y_move rfl) ?_
        refine TL_y rfl rfl (Y_move rfl) ?_
        refine TL_y rfl rfl (Y_move rfl) ?_
        refine TL_index_n rfl rfl rfl (rfl) ((sln (A := S) (c := cs))) (hx) ?_
        intro bn31 on31 hA31 hk31
        have hu31 := hx
        refine TL_load_nx rfl rfl hk31 hu31 (fun _ => rfl) ?_
        intro p32 ok32
        simp only [List.cons_append, List.nil_append]
        refine TL_build_slice rfl rfl rfl rfl rfl rfl ?_
        intro b33
        refine TL_osl (k := 1) orderR [x] (cells_one' (ex_rep p32 (sep_sl slk) ok32)) rfl (by decide) ?_
        refine TL_freeze_osl ?_
        refine TL_name 33 (v' := .slice (some ⟨b33, 0, none⟩) [x].length 1) rfl rfl ?_
        refine TL_append rfl rfl rfl rfl rfl slk (by simp only [List.length_cons, List.length_nil]; omega) ?_
        intro A34 c34
        refine TL_y rfl rfl (Y_assign rfl) ?_
        refine TL_nil ?_
        refine inB_normal ?_
        refine thenS_normal ?_
        refine T_region_last ?_
        refine TL_y rfl rfl (Y_move rfl) ?_
        refine TL_name 19 (v' := .int .i64 (k : Int)) rfl (rfl) ?_
        refine TL_y rfl rfl (Y_add rfl rfl (by omega)) ?_
        refine TL_name 20 (v' := .int .i64 ((k + 1 : Nat) : Int)) rfl (rfl) ?_
        refine TL_y rfl rfl (Y_assign rfl) ?_
        refine TL_nil ?_
        refine thenS_normal ?_
        rw [if_neg h27] at hls
        rw [← hls]
        exact ⟨⟨k + 1, A34, c34⟩, (by simp only; omega), by simp only; omega, holds_to (sub_cons rfl (sub_cons rfl (sub_cons rfl (sub_cons rfl (sub_cons rfl (sub_nil)))))) GivesTo.g⟩
      · refine T_skip ?_
        refine inB_normal ?_
        refine thenS_normal ?_
        refine T_region_last ?_
        refine TL_y rfl rfl (Y_move rfl) ?_
        refine TL_name 19 (v' := .int .i64 (k : Int)) rfl (rfl) ?_
        refine TL_y rfl rfl (Y_add rfl rfl (by omega)) ?_
        refine TL_name 20 (v' := .int .i64 ((k + 1 : Nat) : Int)) rfl (rfl) ?_
        refine TL_y rfl rfl (Y_assign rfl) ?_
        refine TL_nil ?_
        refine thenS_normal ?_
        rw [if_pos (Classical.not_not.1 h27), List.append_nil] at hls
        rw [← hls]
        exact ⟨⟨k + 1, X, cx⟩, (by simp only; omega), by simp only; omega, holds_to (sub_cons rfl (sub_cons rfl (sub_cons rfl (sub_cons rfl (sub_cons rfl (sub_nil)))))) GivesTo.g⟩
    · refine T_exit ?_
      refine thenS_exit ?_
      refine thenS_exit ?_
      refine inB_hit ?_
      refine thenS_normal ?_
      rw [List.take_of_length_le (show s.length ≤ k by omega)]
      refine T_freeze_osl ?_
      refine T_gives (slnil (R := orderR) (A := none) (c := 0)).lay ?_
      refine T_region ?_
      refine TL_y rfl rfl (Y_move rfl) ?_
      refine TL_y rfl rfl (Y_move rfl) ?_
      refine TL_call rfl rfl (lines_spec name (slk (A := A) (c := c)) (by omega) hR.qty) ?_
      rintro _ _ ⟨A37, c37, xs37, rfl, rfl, hx37, hl37⟩
      refine TL_freeze_osl ?_
      refine TL_y rfl rfl (Y_assign rfl) ?_
      refine TL_nil ?_
      refine T_region ?_
      refine TL_y rfl rfl (Y_move rfl) ?_
      refine TL_y rfl rfl (Y_move rfl) ?_
      refine TL_call rfl rfl (open_spec (A := A) (S := none) (cs := 0) (s := []) name slk slk (by omega) hR.qty) ?_
      rintro _ _ ⟨A40, c40, xs40, rfl, rfl, hx40⟩
      obtain rfl : xs37 = xs40 := hx37.ext hx40 (open_others hR.right (by simp))
      refine TL_freeze_osl ?_
      refine TL_y rfl rfl (Y_move rfl) ?_
      refine TL_call rfl rfl (refSameL_spec (xs := xs37) (ys := xs37) (sln (A := A40) (c := c40)) (sln (A := A37) (c := c37))) ?_
      rintro _ _ ⟨rfl, rfl⟩
      refine TL_name 42 (v' := .bool true) rfl (congrArg Value.bool (decide_eq_true rfl)) ?_
      refine TL_y rfl rfl (Y_move rfl) ?_
      refine TL_grun rfl rfl ?_
      refine TL_y rfl rfl (Y_move rfl) ?_
      refine TL_grun rfl rfl ?_
      refine TL_y rfl rfl (Y_move rfl) ?_
      refine TL_grun rfl rfl ?_
      refine TL_y rfl rfl (Y_move rfl) ?_
      refine TL_grun rfl rfl ?_
      refine TL_call rfl rfl (open_spec (A := A) (S := X) (cs := cx) (s := othersC s name) name slk slk (by omega) hR.qty) ?_
      rintro _ _ ⟨A47, c47, xs47, rfl, rfl, hx47⟩
      obtain rfl : xs37 = xs47 := hx37.ext hx47 (open_others hR.right others_ne)
      refine TL_freeze_osl ?_
      refine TL_grun rfl rfl ?_
      refine TL_y rfl rfl (Y_move rfl) ?_
      refine TL_grun rfl rfl ?_
      refine TL_call rfl rfl (refSameL_spec (xs := xs37) (ys := xs37) (sln (A := A47) (c := c47)) (sln (A := A37) (c := c37))) ?_
      rintro _ _ ⟨rfl, rfl⟩
      refine TL_name 49 (v' := .bool true) rfl (congrArg Value.bool (decide_eq_true rfl)) ?_
      refine TL_y rfl rfl (Y_pick_t rfl rfl) ?_
      refine TL_y rfl rfl (Y_move rfl) ?_
      refine TL_grun rfl rfl ?_
      refine TL_y rfl rfl (Y_move rfl) ?_
      refine TL_grun rfl rfl ?_
      refine TL_y rfl rfl (Y_move rfl) ?_
      refine TL_grun rfl rfl ?_
      refine TL_call rfl rfl (epoch_spec (A := X) (c := cx) (s := othersC s name) name slk) ?_
      rintro _ _ ⟨rfl, rfl⟩
      refine TL_name 54 (v' := .int .i64 0) rfl (by rw [show epochC (othersC s name) name = 0 from List.countP_eq_zero.2 fun x hx => by simpa using others_ne x hx]; rfl) ?_
      refine TL_grun rfl rfl ?_
      refine TL_y rfl rfl (Y_eq rfl rfl) ?_
      refine TL_name 55 (v' := .bool true) rfl (rfl) ?_
      refine TL_y rfl rfl (Y_pick_t rfl rfl) ?_
      refine TL_y rfl rfl (Y_move rfl) ?_
      refine TL_grun rfl rfl ?_
      refine TL_y rfl rfl (Y_move rfl) ?_
      refine TL_grun rfl rfl ?_
      refine TL_y rfl rfl (Y_move rfl) ?_
      refine TL_grun rfl rfl ?_
      refine TL_y rfl rfl (Y_move rfl) ?_
      refine TL_grun rfl rfl ?_
      refine TL_call rfl rfl (order_spec (A := A) (S := X) (cs := cx) (s := othersC s name) name 0 slk slk (by omega) hR.qty) ?_
      rintro _ _ ⟨A61, c61, xs61, rfl, rfl, hx61⟩
      rw [ord_others others_ne] at hx61
      obtain rfl := lines_nil hx61
      refine TL_grun rfl rfl ?_
      refine TL_y rfl rfl (Y_len rfl) ?_
      refine TL_grun rfl rfl ?_
      refine TL_y rfl rfl (Y_eq rfl rfl) ?_
      refine TL_name 63 (v' := .bool true) rfl (rfl) ?_
      refine TL_y rfl rfl (Y_pick_t rfl rfl) ?_
      refine TL_y rfl rfl (Y_assign rfl) ?_
      refine TL_nil ?_
      refine T_ret ?_
      exact RetG_1 (.inl rfl) rfl (ResV.tmp rfl) GivesTo.g (⟨rfl, rfl⟩)
  · refine T_region ?_
    refine TL_y rfl rfl (Y_move rfl) ?_
    refine TL_call rfl rfl (once12_spec slk) ?_
    rintro _ _ ⟨⟨r, rfl, hr⟩, rfl⟩
    obtain rfl : r = false := by cases r; rfl; exact absurd (hr.1 rfl) hR
    refine TL_y rfl rfl (Y_not rfl) ?_
    refine TL_name 14 (v' := .bool true) rfl (rfl) ?_
    refine TL_nil ?_
    refine T_cond_true rfl ?_
    refine T_region ?_
    refine TL_y rfl rfl (Y_assign rfl) ?_
    refine TL_nil ?_
    refine T_ret ?_
    refine thenS_ret ?_
    exact RetG_1 (.inl rfl) rfl (ResV.tmp rfl) GivesTo.g (⟨rfl, rfl⟩)
end Go.SL
set_option linter.unusedVariables false
set_option linter.unusedSimpArgs false
namespace Go.SL
open Go Go.Proofs
/-! ### Plain -/
/-! ### Each event once -/
end Go.SL
set_option linter.unusedVariables false
set_option linter.unusedSimpArgs false
namespace Go.SL
open Go Go.Proofs
/-! ### An event outside all cuts -/
theorem late_bel {s : List OrderD} (h : ∀ x ∈ s, ¬ 0 < ofV x.cut 6) (name sku : ByteArray) (qty : Int) : belB s (apE name sku qty) = false := by
  have : belC s (apE name sku qty) = none := find_no fun x hx => decide_eq_false fun hs => by
    have h1 := h x hx
    have h2 := hs.2.2
    unfold hasV at h2
    simp only at h2; omega
  unfold belB; rw [this]; rfl
theorem late_ord {l : List EventD} {s : List OrderD} (h : ∀ x ∈ s, ¬ 0 < ofV x.cut 6) (name sku : ByteArray) (qty : Int) (cart : ByteArray) (ep : Int) : ordLC (l ++ [apE name sku qty]) s cart ep = ordLC l s cart ep := by
  unfold ordLC
  rw [List.filter_append, List.filter_cons, late_bel h]
  simp
theorem late_open {l : List EventD} {s : List OrderD} (h : ∀ x ∈ s, ¬ 0 < ofV x.cut 6) (name sku : ByteArray) (qty : Int) : openC (l ++ [apE name sku qty]) s = openC l s ++ [apE name sku qty] := by
  unfold openC
  rw [List.filter_append, List.filter_cons, late_bel h]
  simp
theorem late_line {l : List EventD} {s : List OrderD} (hR : RightC l) (h : ∀ x ∈ s, ¬ 0 < ofV x.cut 6) {name sku : ByteArray} {qty : Int} (hq : 1 ≤ qty ∧ qty ≤ 1000) (hd : ∀ e ∈ l, e.dot.1 ≠ 6 ∧ ¬ 0 < ofV e.deps 6) : lineF (openC (l ++ [apE name sku qty]) s) name sku = lineF (openC l s) name sku + qty := by
  rw [late_open h]
  exact ap_line (hR.sub fun e he => openC_sub he) hq fun e he => hd e (openC_sub he)
set_option maxHeartbeats 1000000 in
theorem cutLate_walk {L : List HP} {A S : Option Addr} {c cs : Nat} {l : List EventD} {s : List OrderD} (cart sku : ByteArray) (qty : Int) (hk : SlK L eventR A c l) (hs : SlK L orderR S cs s) (hl : l.length ≤ 1466015503658) (hsl : s.length ≤ 2199023255488) (hn : cart.size ≤ maxEl) (hsk : sku.size ≤ maxEl) : Fn Try.prog 8 #[.slice A l.length c, .slice S s.length cs, .string cart, .string sku, .int .i64 qty] L (fun v L' => v = .bool true ∧ L' = L) := by
  refine Fn_enter Try.func8 rfl rfl rfl rfl ?_
  refine T_gives hk.lay ?_
  refine T_gives (hs.tail).lay ?_
  refine T_gives (slnil (R := intR .i64) (A := none) (c := 0)).lay ?_
  refine T_region ?_
  refine TL_y rfl rfl (Y_assign rfl) ?_
  refine TL_nil ?_
  refine T_seq ?_
  refine T_region ?_
  refine TL_call rfl rfl (lives12_spec _) ?_
  rintro _ _ ⟨rfl, rfl⟩
  refine TL_y rfl rfl (Y_not rfl) ?_
  refine TL_name 18 (v' := .bool false) rfl (rfl) ?_
  refine TL_nil ?_
  refine T_cond_false rfl ?_
  refine T_skip ?_
  refine thenS_normal ?_
  refine T_seq ?_
  refine T_region ?_
  refine TL_y rfl rfl (Y_move rfl) ?_
  refine TL_call rfl rfl (refCheck_spec (s := s) slk) ?_
  rintro _ _ ⟨⟨nn, ee, rfl, hee⟩, rfl⟩
  refine TL_y rfl rfl (Y_move rfl) ?_
  refine TL_y rfl rfl (Y_extract rfl rfl) ?_
  refine TL_y rfl rfl (Y_extract rfl rfl) ?_
  refine TL_y rfl rfl (Y_assign rfl) ?_
  refine TL_y rfl rfl (Y_assign rfl) ?_
  refine TL_nil ?_
  rcases hee with ⟨rfl, hC⟩ | ⟨rfl, hC⟩ <;> rcases Classical.em (Once12 l) with hR | hR
  · refine T_region ?_
    refine TL_y rfl rfl (Y_move rfl) ?_
    refine TL_y rfl rfl (Y_ne rfl rfl) ?_
    refine TL_name 25 (v' := .bool false) rfl (rfl) ?_
    refine TL_y rfl rfl (Y_move rfl) ?_
    refine TL_grun rfl rfl ?_
    refine TL_y rfl rfl (Y_move rfl) ?_
    refine TL_grun rfl rfl ?_
    refine TL_call rfl rfl (once12_spec (slk (A := A) (c := c))) ?_
    rintro _ _ ⟨⟨r, rfl, hr⟩, rfl⟩
    obtain rfl := hr.2 hR
    refine TL_grun rfl rfl ?_
    refine TL_y rfl rfl (Y_not rfl) ?_
    refine TL_name 29 (v' := .bool false) rfl (rfl) ?_
    refine TL_y rfl rfl (Y_pick_f rfl rfl) ?_
    refine TL_y rfl rfl (Y_move rfl) ?_
    refine TL_both 7 38 (qty < 1 ∨ 1000 < qty) ?_ ?_
    · refine TL_grun rfl rfl ?_
      refine TL_y rfl rfl (Y_move rfl) ?_
      refine TL_grun rfl rfl ?_
      refine TL_y rfl rfl (Y_lt rfl rfl) ?_
      refine TL_y rfl rfl (Y_pick_f rfl rfl) ?_
      refine TL_y rfl rfl (Y_move rfl) ?_
      refine TL_splitd 35 rfl (fun h35 => ?_) (fun h35 => ?_)
      · refine TL_gskip rfl rfl rfl rfl ?_
        refine TL_gskip rfl rfl rfl rfl ?_
        refine TL_y rfl rfl (Y_pick_t rfl rfl) ?_
        refine TL_chain_end rfl ?_ (by repeat (first | exact sub_refl | refine sub_ext rfl ?_)) GivesTo.g
        exact congrArg Value.bool (decide_eq_true (by omega)).symm
      · refine TL_grun rfl rfl ?_
        refine TL_y rfl rfl (Y_move rfl) ?_
        refine TL_grun rfl rfl ?_
        refine TL_y rfl rfl (Y_gt rfl rfl) ?_
        refine TL_y rfl rfl (Y_pick_f rfl rfl) ?_
        refine TL_chain_end rfl ?_ (by repeat (first | exact sub_refl | refine sub_ext rfl ?_)) GivesTo.g
        exact congrArg Value.bool (decide_eq_decide.2 (by omega))
    refine TL_nil ?_
    refine T_if rfl (fun h38 => ?_) (fun h38 => ?_)
    · refine T_region ?_
      refine TL_y rfl rfl (Y_assign rfl) ?_
      refine TL_nil ?_
      refine T_ret ?_
      refine thenS_ret ?_
      exact RetG_1 (.inl rfl) rfl (ResV.tmp rfl) GivesTo.g (⟨rfl, rfl⟩)
    · refine T_skip ?_
      refine thenS_normal ?_
      refine T_seq ?_
      refine T_region ?_
      refine TL_y rfl rfl (Y_assign rfl) ?_
      refine TL_nil ?_
      refine T_block ?_
      refine T_loopK (σ := Nat) [0, 1, 2, 3, 4] (fun i => i ≤ l.length ∧ ∀ e ∈ l.take i, e.dot.1 ≠ 6 ∧ ¬ 0 < ofV e.deps 6) (fun i kv => (13, .int .i64 (i : Int)) :: kv) (fun i => sl (intR .i64) none 0 [] :: sl orderR S cs s :: sl eventR A c l :: L) (fun i => l.length - i) (0) rfl (⟨Nat.zero_le _, by simp⟩) (GivesTo.g) (sub_cons rfl (sub_cons rfl (sub_cons rfl (sub_cons rfl (sub_cons rfl (sub_cons rfl (sub_nil))))))) ?_
      intro i hi
      refine T_seq ?_
      refine T_region ?_
      refine TL_y rfl rfl (Y_move rfl) ?_
      refine TL_y rfl rfl (Y_move rfl) ?_
      refine TL_y rfl rfl (Y_len rfl) ?_
      refine TL_y rfl rfl (Y_lt rfl rfl) ?_
      refine TL_nil ?_
      refine T_if rfl (fun h42 => ?_) (fun h42 => ?_)
      · refine T_skip ?_
        refine thenS_normal ?_
        refine T_seq ?_
        refine T_block ?_
        obtain ⟨x, hx⟩ : ∃ x, l[i]? = some x := ⟨_, List.getElem?_eq_getElem (by omega)⟩
        refine T_region ?_
        refine TL_y rfl rfl (Y_move rfl) ?_
        refine TL_y rfl rfl (Y_move rfl) ?_
        refine TL_index_n rfl rfl rfl (rfl) ((sln (A := A) (c := c))) (hx) ?_
        intro bn47 on47 hA47 hk47
        have hu47 := hx
        refine TL_y rfl rfl (Y_field_addr2 rfl) ?_
        refine TL_y rfl rfl (Y_field_addr2 rfl) ?_
        refine TL_y rfl rfl (Y_load_nx rfl hk47 hu47 (fun _ => rfl)) ?_
        refine TL_y rfl rfl (Y_eq rfl rfl) ?_
        refine TL_y rfl rfl (Y_move rfl) ?_
        refine TL_splitd 52 rfl (fun h52 => ?_) (fun h52 => ?_)
        · refine TL_gskip rfl rfl rfl rfl ?_
          refine TL_gskip rfl rfl rfl rfl ?_
          refine TL_gskip rfl rfl rfl rfl ?_
          refine TL_gskip rfl rfl rfl rfl ?_
          refine TL_gskip rfl rfl rfl rfl ?_
          refine TL_gskip rfl rfl rfl rfl ?_
          refine TL_gskip rfl rfl rfl rfl ?_
          refine TL_y rfl rfl (Y_pick_t rfl rfl) ?_
          refine TL_nil ?_
          refine T_cond_true rfl ?_
          refine T_region ?_
          refine TL_y rfl rfl (Y_assign rfl) ?_
          refine TL_nil ?_
          refine T_ret ?_
          refine inB_ret ?_
          refine thenS_ret ?_
          refine thenS_ret ?_
          refine inB_ret ?_
          refine thenS_ret ?_
          exact RetG_1 (.inl rfl) rfl (ResV.tmp rfl) GivesTo.g (⟨rfl, rfl⟩)
        · refine TL_grun rfl rfl ?_
          refine TL_y rfl rfl (Y_move rfl) ?_
          refine TL_grun rfl rfl ?_
          refine TL_y rfl rfl (Y_move rfl) ?_
          refine TL_grun rfl rfl ?_
          refine TL_index_n rfl rfl rfl (rfl) ((sln (A := A) (c := c))) (hx) ?_
          intro bn55 on55 hA55 hk55
          have hu55 := hx
          refine TL_grun rfl rfl ?_
          refine TL_y rfl rfl (Y_field_addr2 rfl) ?_
          refine TL_grun rfl rfl ?_
          refine TL_load_nx1 rfl rfl hk55 hu55 (fun _ => rfl) ?_
          intro p57 ok57
          simp only [List.cons_append, List.nil_append]
          refine TL_grun rfl rfl ?_
          refine TL_call rfl rfl (vvOf_spec (SlK.n slk) 6) ?_
          rintro _ _ ⟨rfl, rfl⟩
          refine TL_grun rfl rfl ?_
          refine TL_y rfl rfl (Y_gt rfl rfl) ?_
          refine TL_y rfl rfl (Y_pick_f rfl rfl) ?_
          refine TL_nil ?_
          refine T_if rfl (fun h60 => ?_) (fun h60 => ?_)
          · refine T_region ?_
            refine TL_y rfl rfl (Y_assign rfl) ?_
            refine TL_nil ?_
            refine T_ret ?_
            refine inB_ret ?_
            refine thenS_ret ?_
            refine thenS_ret ?_
            refine inB_ret ?_
            refine thenS_ret ?_
            exact RetG_1 (.inl rfl) rfl (ResV.tmp rfl) GivesTo.g (⟨rfl, rfl⟩)
          · refine T_skip ?_
            refine inB_normal ?_
            refine thenS_normal ?_
            refine T_region_last ?_
            refine TL_y rfl rfl (Y_move rfl) ?_
            refine TL_name 43 (v' := .int .i64 (i : Int)) rfl (rfl) ?_
            refine TL_y rfl rfl (Y_add rfl rfl (by omega)) ?_
            refine TL_name 44 (v' := .int .i64 ((i + 1 : Nat) : Int)) rfl (rfl) ?_
            refine TL_y rfl rfl (Y_assign rfl) ?_
            refine TL_nil ?_
            refine thenS_normal ?_
            exact ⟨i + 1, ⟨by omega, by rw [takeAt hx]; intro q hq; rcases List.mem_append.1 hq with h | h; exact hi.2 q h; (rw [List.mem_singleton.1 h]; exact ⟨h52, h60⟩)⟩, by omega, holds_to (sub_cons rfl (sub_cons rfl (sub_cons rfl (sub_cons rfl (sub_cons rfl (sub_cons rfl (sub_nil))))))) GivesTo.g⟩
      · refine T_exit ?_
        refine thenS_exit ?_
        refine thenS_exit ?_
        refine inB_hit ?_
        refine thenS_normal ?_
        refine T_seq ?_
        have hall := hi.2
        rw [List.take_of_length_le (show l.length ≤ i by omega)] at hall
        refine T_region ?_
        refine TL_y rfl rfl (Y_assign rfl) ?_
        refine TL_nil ?_
        refine T_block ?_
        refine T_loopK (σ := Nat) [0, 1, 2, 3, 4] (fun j => j ≤ s.length ∧ ∀ x ∈ s.take j, ¬ 0 < ofV x.cut 6) (fun j kv => (14, .int .i64 (j : Int)) :: kv) (fun j => sl (intR .i64) none 0 [] :: sl orderR S cs s :: sl eventR A c l :: L) (fun j => s.length - j) (0) rfl (⟨Nat.zero_le _, by simp⟩) (GivesTo.g) (sub_cons rfl (sub_cons rfl (sub_cons rfl (sub_cons rfl (sub_cons rfl (sub_cons rfl (sub_nil))))))) ?_
        intro j hj
        refine T_seq ?_
        refine T_region ?_
        refine TL_y rfl rfl (Y_move rfl) ?_
        refine TL_y rfl rfl (Y_move rfl) ?_
        refine TL_y rfl rfl (Y_len rfl) ?_
        refine TL_y rfl rfl (Y_lt rfl rfl) ?_
        refine TL_nil ?_
        refine T_if rfl (fun h64 => ?_) (fun h64 => ?_)
        · refine T_skip ?_
          refine thenS_normal ?_
          refine T_seq ?_
          refine T_block ?_
          obtain ⟨x, hx⟩ : ∃ x, s[j]? = some x := ⟨_, List.getElem?_eq_getElem (by omega)⟩
          refine T_region ?_
          refine TL_y rfl rfl (Y_move rfl) ?_
          refine TL_y rfl rfl (Y_move rfl) ?_
          refine TL_index_n rfl rfl rfl (rfl) ((sln (A := S) (c := cs))) (hx) ?_
          intro bn69 on69 hA69 hk69
          have hu69 := hx
          refine TL_y rfl rfl (Y_field_addr2 rfl) ?_
          refine TL_load_nx1 rfl rfl hk69 hu69 (fun _ => rfl) ?_
          intro p71 ok71
          simp only [List.cons_append, List.nil_append]
          refine TL_call rfl rfl (vvOf_spec (SlK.n slk) 6) ?_
          rintro _ _ ⟨rfl, rfl⟩
          refine TL_y rfl rfl (Y_gt rfl rfl) ?_
          refine TL_nil ?_
          refine T_if rfl (fun h73 => ?_) (fun h73 => ?_)
          · refine T_region ?_
            refine TL_y rfl rfl (Y_assign rfl) ?_
            refine TL_nil ?_
            refine T_ret ?_
            refine inB_ret ?_
            refine thenS_ret ?_
            refine thenS_ret ?_
            refine inB_ret ?_
            refine thenS_ret ?_
            exact RetG_1 (.inl rfl) rfl (ResV.tmp rfl) GivesTo.g (⟨rfl, rfl⟩)
          · refine T_skip ?_
            refine inB_normal ?_
            refine thenS_normal ?_
            refine T_region_last ?_
            refine TL_y rfl rfl (Y_move rfl) ?_
            refine TL_name 65 (v' := .int .i64 (j : Int)) rfl (rfl) ?_
            refine TL_y rfl rfl (Y_add rfl rfl (by omega)) ?_
            refine TL_name 66 (v' := .int .i64 ((j + 1 : Nat) : Int)) rfl (rfl) ?_
            refine TL_y rfl rfl (Y_assign rfl) ?_
            refine TL_nil ?_
            refine thenS_normal ?_
            exact ⟨j + 1, ⟨by omega, by rw [takeAt hx]; intro q hq; rcases List.mem_append.1 hq with h | h; exact hj.2 q h; (rw [List.mem_singleton.1 h]; exact h73)⟩, by omega, holds_to (sub_cons rfl (sub_cons rfl (sub_cons rfl (sub_cons rfl (sub_cons rfl (sub_cons rfl (sub_nil))))))) GivesTo.g⟩
        · refine T_exit ?_
          refine thenS_exit ?_
          refine thenS_exit ?_
          refine inB_hit ?_
          refine thenS_normal ?_
          have hcut := hj.2
          rw [List.take_of_length_le (show s.length ≤ j by omega)] at hcut
          have hqs := qty_snoc (x := apE cart sku qty) hR.qty (by simp only; omega)
          have hll := late_line hR.right hcut (name := cart) (sku := sku) (qty := qty) (by omega) hall
          have hlb := lineF_bound (l := openC l s) (fun e he => hR.qty e (openC_sub he)) cart sku
          have hol := openC_len l s
          have hel := epochC_len s cart
          refine T_region ?_
          refine TL_build_slice rfl rfl rfl rfl rfl rfl ?_
          intro b74
          refine TL_osl (k := 0) eventR [] (Knows.const fun M => rfl) rfl (by simp) ?_
          refine TL_name 74 (v' := .slice (some ⟨b74, 0, none⟩) ([] : List EventD).length 0) rfl rfl ?_
          refine TL_y rfl rfl (Y_move rfl) ?_
          refine TL_append (R := eventR) (ys := l) rfl rfl rfl rfl rfl (slk (A := A) (c := c)) (by simp only [List.length_nil]; omega) ?_
          intro A76 c76
          simp only [List.nil_append]
          refine TL_y rfl rfl (Y_build rfl rfl) ?_
          refine TL_y rfl rfl (Y_move rfl) ?_
          refine TL_y rfl rfl (Y_move rfl) ?_
          refine TL_y rfl rfl (Y_move rfl) ?_
          refine TL_y rfl rfl (Y_build rfl rfl) ?_
          refine TL_build_slice rfl rfl rfl rfl rfl rfl ?_
          intro b82
          refine TL_osl (k := 1) eventR [apE cart sku qty] (cells_one' (ex_rep ((none : Option Addr), (0 : Nat)) (sep_sl slk) ⟨i64In_mk (by simp only; omega), i64In_mk (by simp only; omega), by simp, hn, i64In_mk (by simp only; omega), hsk, i64In_mk (by simp only; omega)⟩)) rfl (by decide) ?_
          refine TL_freeze_osl ?_
          refine TL_name 82 (v' := .slice (some ⟨b82, 0, none⟩) [apE cart sku qty].length 1) rfl rfl ?_
          refine TL_append (R := eventR) (xs := l) (ys := [apE cart sku qty]) rfl rfl rfl rfl rfl (slk (A := some ⟨b82, 0, none⟩) (c := 1)) (by simp only [List.length_cons, List.length_nil]; omega) ?_
          intro A83 c83
          refine TL_freeze_osl ?_
          refine TL_y rfl rfl (Y_assign rfl) ?_
          refine TL_nil ?_
          refine T_seq ?_
          refine T_region ?_
          refine TL_y rfl rfl (Y_assign rfl) ?_
          refine TL_nil ?_
          refine T_block ?_
          refine T_loopK (σ := Nat) [0, 1, 2, 3, 4, 15] (fun n => n ≤ epochC s cart) (fun n kv => (16, .int .i64 (n : Int)) :: kv) (fun n => sl eventR A83 c83 (l ++ [apE cart sku qty]) :: sl orderR S cs s :: sl eventR A c l :: L) (fun n => epochC s cart - n) (0) rfl (Nat.zero_le _) (GivesTo.g) (sub_cons rfl (sub_cons rfl (sub_cons rfl (sub_cons rfl (sub_cons rfl (sub_cons rfl (sub_cons rfl (sub_nil)))))))) ?_
          intro n hnn
          refine T_seq ?_
          refine T_region ?_
          refine TL_y rfl rfl (Y_move rfl) ?_
          refine TL_y rfl rfl (Y_move rfl) ?_
          refine TL_y rfl rfl (Y_move rfl) ?_
          refine TL_call rfl rfl (epoch_spec (s := s) cart slk) ?_
          rintro _ _ ⟨rfl, rfl⟩
          refine TL_y rfl rfl (Y_lt rfl rfl) ?_
          refine TL_nil ?_
          refine T_if rfl (fun h88 => ?_) (fun h88 => ?_)
          · refine T_skip ?_
            refine thenS_normal ?_
            refine T_seq ?_
            refine T_block ?_
            refine T_region ?_
            refine TL_y rfl rfl (Y_move rfl) ?_
            refine TL_y rfl rfl (Y_move rfl) ?_
            refine TL_y rfl rfl (Y_move rfl) ?_
            refine TL_y rfl rfl (Y_move rfl) ?_
            refine TL_call rfl rfl (order_spec (A := A83) (c := c83) (l := l ++ [apE cart sku qty]) (s := s) cart (n : Int) slk slk (by simp only [List.length_append, List.length_cons, List.length_nil]; omega) hqs) ?_
            rintro _ _ ⟨A95, c95, xs95, rfl, rfl, hx95⟩
            refine TL_freeze_osl ?_
            refine TL_y rfl rfl (Y_move rfl) ?_
            refine TL_y rfl rfl (Y_move rfl) ?_
            refine TL_y rfl rfl (Y_move rfl) ?_
            refine TL_y rfl rfl (Y_move rfl) ?_
            refine TL_call rfl rfl (order_spec (A := A) (c := c) (l := l) (s := s) cart (n : Int) slk slk (by omega) hR.qty) ?_
            rintro _ _ ⟨A100, c100, xs100, rfl, rfl, hx100⟩
            rw [late_ord hcut] at hx95
            obtain rfl : xs95 = xs100 := hx95.ext hx100 (fun _ => rfl)
            refine TL_freeze_osl ?_
            refine TL_call rfl rfl (refSameL_spec (xs := xs95) (ys := xs95) (sln (A := A95) (c := c95)) (sln (A := A100) (c := c100))) ?_
            rintro _ _ ⟨rfl, rfl⟩
            refine TL_name 101 (v' := .bool true) rfl (congrArg Value.bool (decide_eq_true rfl)) ?_
            refine TL_y rfl rfl (Y_not_t rfl) ?_
            refine TL_nil ?_
            refine T_cond_false rfl ?_
            refine T_skip ?_
            refine inB_normal ?_
            refine thenS_normal ?_
            refine T_region_last ?_
            refine TL_y rfl rfl (Y_move rfl) ?_
            refine TL_name 89 (v' := .int .i64 (n : Int)) rfl (rfl) ?_
            refine TL_y rfl rfl (Y_add rfl rfl (by omega)) ?_
            refine TL_name 90 (v' := .int .i64 ((n + 1 : Nat) : Int)) rfl (rfl) ?_
            refine TL_y rfl rfl (Y_assign rfl) ?_
            refine TL_nil ?_
            refine thenS_normal ?_
            exact ⟨n + 1, (by omega), by omega, holds_to (sub_cons rfl (sub_cons rfl (sub_cons rfl (sub_cons rfl (sub_cons rfl (sub_cons rfl (sub_cons rfl (sub_nil)))))))) GivesTo.g⟩
          · refine T_exit ?_
            refine thenS_exit ?_
            refine thenS_exit ?_
            refine inB_hit ?_
            refine thenS_normal ?_
            refine T_region ?_
            refine TL_y rfl rfl (Y_move rfl) ?_
            refine TL_y rfl rfl (Y_move rfl) ?_
            refine TL_y rfl rfl (Y_move rfl) ?_
            refine TL_call rfl rfl (open_spec (A := A83) (c := c83) (l := l ++ [apE cart sku qty]) (s := s) cart slk slk (by simp only [List.length_append, List.length_cons, List.length_nil]; omega) hqs) ?_
            rintro _ _ ⟨A106, c106, xs106, rfl, rfl, hx106⟩
            refine TL_y rfl rfl (Y_move rfl) ?_
            refine TL_call rfl rfl (of12_spec sku sln) ?_
            rintro _ _ ⟨rfl, rfl⟩
            refine TL_name 108 (v' := .int .i64 (lineF (openC l s) cart sku + qty)) rfl (by rw [hx106.of (fun e he => hqs e (openC_sub he)), hll]) ?_
            refine TL_y rfl rfl (Y_move rfl) ?_
            refine TL_y rfl rfl (Y_move rfl) ?_
            refine TL_y rfl rfl (Y_move rfl) ?_
            refine TL_call rfl rfl (open_spec (A := A) (c := c) (l := l) (s := s) cart slk slk (by omega) hR.qty) ?_
            rintro _ _ ⟨A112, c112, xs112, rfl, rfl, hx112⟩
            refine TL_y rfl rfl (Y_move rfl) ?_
            refine TL_call rfl rfl (of12_spec sku sln) ?_
            rintro _ _ ⟨rfl, rfl⟩
            refine TL_name 114 (v' := .int .i64 (lineF (openC l s) cart sku)) rfl (by rw [hx112.of (fun e he => hR.qty e (openC_sub he))]) ?_
            refine TL_y rfl rfl (Y_move rfl) ?_
            refine TL_y rfl rfl (Y_add rfl rfl (by omega)) ?_
            refine TL_y rfl rfl (Y_eq rfl rfl) ?_
            refine TL_name 117 (v' := .bool true) rfl (congrArg Value.bool (decide_eq_true rfl)) ?_
            refine TL_y rfl rfl (Y_assign rfl) ?_
            refine TL_nil ?_
            refine T_ret ?_
            exact RetG_1 (.inl rfl) rfl (ResV.tmp rfl) GivesTo.g (⟨rfl, rfl⟩)
  · refine T_region ?_
    refine TL_y rfl rfl (Y_move rfl) ?_
    refine TL_y rfl rfl (Y_ne rfl rfl) ?_
    refine TL_name 25 (v' := .bool false) rfl (rfl) ?_
    refine TL_y rfl rfl (Y_move rfl) ?_
    refine TL_grun rfl rfl ?_
    refine TL_y rfl rfl (Y_move rfl) ?_
    refine TL_grun rfl rfl ?_
    refine TL_call rfl rfl (once12_spec (slk (A := A) (c := c))) ?_
    rintro _ _ ⟨⟨r, rfl, hr⟩, rfl⟩
    obtain rfl : r = false := by cases r; rfl; exact absurd (hr.1 rfl) hR
    refine TL_grun rfl rfl ?_
    refine TL_y rfl rfl (Y_not rfl) ?_
    refine TL_name 29 (v' := .bool true) rfl (rfl) ?_
    refine TL_y rfl rfl (Y_pick_f rfl rfl) ?_
    refine TL_y rfl rfl (Y_move rfl) ?_
    refine TL_gskip rfl rfl rfl rfl ?_
    refine TL_gskip rfl rfl rfl rfl ?_
    refine TL_y rfl rfl (Y_pick_t rfl rfl) ?_
    refine TL_y rfl rfl (Y_move rfl) ?_
    refine TL_gskip rfl rfl rfl rfl ?_
    refine TL_gskip rfl rfl rfl rfl ?_
    refine TL_y rfl rfl (Y_pick_t rfl rfl) ?_
    refine TL_nil ?_
    refine T_cond_true rfl ?_
    refine T_region ?_
    refine TL_y rfl rfl (Y_assign rfl) ?_
    refine TL_nil ?_
    refine T_ret ?_
    refine thenS_ret ?_
    exact RetG_1 (.inl rfl) rfl (ResV.tmp rfl) GivesTo.g (⟨rfl, rfl⟩)
  · refine T_region ?_
    refine TL_y rfl rfl (Y_move rfl) ?_
    refine TL_y rfl rfl (Y_ne rfl rfl) ?_
    refine TL_name 25 (v' := .bool true) rfl (rfl) ?_
    refine TL_y rfl rfl (Y_move rfl) ?_
    refine TL_gskip rfl rfl rfl rfl ?_
    refine TL_gskip rfl rfl rfl rfl ?_
    refine TL_gskip rfl rfl rfl rfl ?_
    refine TL_y rfl rfl (Y_pick_t rfl rfl) ?_
    refine TL_y rfl rfl (Y_move rfl) ?_
    refine TL_gskip rfl rfl rfl rfl ?_
    refine TL_gskip rfl rfl rfl rfl ?_
    refine TL_y rfl rfl (Y_pick_t rfl rfl) ?_
    refine TL_y rfl rfl (Y_move rfl) ?_
    refine TL_gskip rfl rfl rfl rfl ?_
    refine TL_gskip rfl rfl rfl rfl ?_
    refine TL_y rfl rfl (Y_pick_t rfl rfl) ?_
    refine TL_nil ?_
    refine T_cond_true rfl ?_
    refine T_region ?_
    refine TL_y rfl rfl (Y_assign rfl) ?_
    refine TL_nil ?_
    refine T_ret ?_
    refine thenS_ret ?_
    exact RetG_1 (.inl rfl) rfl (ResV.tmp rfl) GivesTo.g (⟨rfl, rfl⟩)
  · refine T_region ?_
    refine TL_y rfl rfl (Y_move rfl) ?_
    refine TL_y rfl rfl (Y_ne rfl rfl) ?_
    refine TL_name 25 (v' := .bool true) rfl (rfl) ?_
    refine TL_y rfl rfl (Y_move rfl) ?_
    refine TL_gskip rfl rfl rfl rfl ?_
    refine TL_gskip rfl rfl rfl rfl ?_
    refine TL_gskip rfl rfl rfl rfl ?_
    refine TL_y rfl rfl (Y_pick_t rfl rfl) ?_
    refine TL_y rfl rfl (Y_move rfl) ?_
    refine TL_gskip rfl rfl rfl rfl ?_
    refine TL_gskip rfl rfl rfl rfl ?_
    refine TL_y rfl rfl (Y_pick_t rfl rfl) ?_
    refine TL_y rfl rfl (Y_move rfl) ?_
    refine TL_gskip rfl rfl rfl rfl ?_
    refine TL_gskip rfl rfl rfl rfl ?_
    refine TL_y rfl rfl (Y_pick_t rfl rfl) ?_
    refine TL_nil ?_
    refine T_cond_true rfl ?_
    refine T_region ?_
    refine TL_y rfl rfl (Y_assign rfl) ?_
    refine TL_nil ?_
    refine T_ret ?_
    refine thenS_ret ?_
    exact RetG_1 (.inl rfl) rfl (ResV.tmp rfl) GivesTo.g (⟨rfl, rfl⟩)
/-! ### An order that is whole -/
end Go.SL
