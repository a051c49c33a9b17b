/- Seal: seals follow. -/
import Derived.Test.YtcpknfcckekhdaaSealG
set_option linter.unusedVariables false
set_option linter.unusedSimpArgs false
namespace Go.SL
open Go Go.Proofs
def cntC (l : List OrderD) (c : ByteArray) : Nat := (l.filter fun x => decide (x.cart = c)).length
theorem cntC_map (os : List OrdD) (c : ByteArray) : cntC (os.map (·.x)) c = cntS os c := by
  unfold cntC cntS; rw [List.filter_map, List.length_map]; rfl
theorem cntC_at {l : List OrderD} {i : Nat} {x : OrderD} (c : ByteArray) (h : l[i]? = some x) : (cntC (l.take (i + 1)) c : Int) = if x.cart = c then (cntC (l.take i) c : Int) + 1 else (cntC (l.take i) c : Int) := by
  rw [take_at h]; unfold cntC; rw [List.filter_append, List.length_append]
  by_cases k : x.cart = c <;> simp [k]
theorem cntC_le (l : List OrderD) (c : ByteArray) : cntC l c ≤ l.length := List.length_filter_le _ _
def CkOk (l : List OrderD) : Prop := ∀ (i : Nat) x, l[i]? = some x → rSeal x ∧ x.epoch = (cntC (l.take i) x.cart : Int)
theorem SOk.ck {s : SM} (h : SOk s) : CkOk (s.os.map (·.x)) := fun i x hx => by
  rw [List.getElem?_map] at hx
  obtain ⟨o, ho, rfl⟩ := Option.map_eq_some_iff.1 hx
  refine ⟨h.rs o (List.mem_of_getElem? ho), ?_⟩
  rw [← List.map_take, cntC_map]
  exact h.eps i o ho
theorem rSeal_small {x : OrderD} (h : rSeal x) : cSeal x ≤ 140737488355000 := by
  obtain ⟨h1, h2, _, _, h3, _⟩ := h
  have q1 := h1.2.2; have q2 := h2.2.2
  unfold cSeal; omega
def EpI (l : List OrderD) (i : Nat) (ep : List (ByteArray × Int)) : Prop := ∀ c, (getM ep c).getD 0 = (cntC (l.take i) c : Int)
theorem EpI.next {l : List OrderD} {i : Nat} {ep : List (ByteArray × Int)} {x : OrderD} {k : Int} (h : EpI l i ep) (hx : l[i]? = some x) (hk : k = (cntC (l.take i) x.cart : Int) + 1) : EpI l (i + 1) ((x.cart, k) :: delM ep x.cart) := fun c => by
  rw [getM_cons, cntC_at c hx]
  by_cases ht : x.cart = c
  · simp [ht, hk]
  · rw [if_neg ht, if_neg ht, getM_del, if_neg (Ne.symm ht)]; exact h c
structure CkSt where
  i : Nat
  ep : List (ByteArray × Int)
theorem check_spec {L : List HP} {A : Option Addr} {c : Nat} {ys : List OrderD} (hk : SlK L orderR A c ys) (hy : CkOk ys) (h65 : ys.length ≤ 65536) : Fn Try.prog 26 #[.slice A ys.length c] L (fun v L' => v = .tuple #[.int .i64 0, .int .i64 0] ∧ L' = L) := by
  refine Fn_enter Try.func26 rfl rfl rfl rfl ?_
  refine T_gives hk.lay ?_
  refine T_region ?_
  refine TL_y rfl rfl (Y_assign rfl) ?_
  refine TL_y rfl rfl (Y_assign rfl) ?_
  refine TL_nil ?_
  refine T_region ?_
  refine TL_makeMap strK (intR .i64) false rfl ?_
  intro bt
  refine TL_y rfl rfl (Y_assign rfl) ?_
  refine TL_nil ?_
  refine T_seq ?_
  refine T_region ?_
  refine TL_y rfl rfl (Y_move rfl) ?_
  refine TL_y rfl rfl (Y_len rfl) ?_
  refine TL_y rfl rfl (Y_move rfl) ?_
  refine TL_nil ?_
  refine T_block ?_
  refine T_loopK (σ := CkSt) [4, 10, 11] (fun g => g.i ≤ ys.length ∧ EpI ys g.i g.ep) (fun g kv => (12, .int .i64 (g.i : Int)) :: kv) (fun g => omap strK (intR .i64) false bt g.ep :: sl orderR A c ys :: L) (fun g => ys.length - g.i) (⟨0, []⟩) rfl (⟨Nat.zero_le _, fun c => by simp [getM, cntC]⟩) (GivesTo.g) (sub_cons rfl (sub_cons rfl (sub_cons rfl (sub_cons rfl (sub_nil))))) ?_
  rintro ⟨i, ep⟩ ⟨hi, hep⟩
  dsimp only at hi hep ⊢
  refine T_region ?_
  refine TL_y rfl rfl (Y_lt rfl rfl) ?_
  refine TL_nil ?_
  refine T_seq ?_
  refine T_if rfl (fun h13 => ?_) (fun h13 => ?_)
  · refine T_skip ?_
    refine thenS_normal ?_
    refine T_seq ?_
    refine T_block ?_
    refine T_region ?_
    refine TL_y rfl rfl (Y_move rfl) ?_
    obtain ⟨u, hu⟩ : ∃ u, ys[i]? = some u := ⟨_, List.getElem?_eq_getElem (by omega)⟩
    have hcu := hy i u hu
    have hle := cntC_le (ys.take i) u.cart
    have hlt : (ys.take i).length ≤ 65536 := by rw [List.length_take]; omega
    refine TL_index_n rfl rfl rfl (rfl) (sln) (hu) ?_
    intro bn15 on15 hA15 hk15
    have hu15 := hu
    refine TL_load_nx rfl rfl hk15 hu15 (fun _ => rfl) ?_
    intro p16 ok16
    simp only [List.cons_append, List.nil_append]
    refine TL_alloc rfl rfl ?_
    intro b6
    refine TL_y rfl rfl (Y_assign rfl) ?_
    refine TL_store rfl rfl rfl rfl rfl rfl ?_
    refine TL_nil ?_
    refine T_seq ?_
    refine T_region ?_
    refine TL_y rfl rfl (Y_load_agg rfl rfl) ?_
    refine TL_call rfl rfl (sealWord_spec u ok16 slk (rSeal_small hcu.1)) ?_
    rintro _ _ ⟨⟨B19, d19, k19, rfl⟩, rfl⟩
    refine TL_y rfl rfl (Y_move rfl) ?_
    refine TL_y rfl rfl (Y_extract rfl rfl) ?_
    refine TL_y rfl rfl (Y_extract rfl rfl) ?_
    refine TL_y rfl rfl (Y_assign rfl) ?_
    refine TL_y rfl rfl (Y_assign rfl) ?_
    refine TL_nil ?_
    refine T_region ?_
    refine TL_y rfl rfl (Y_move rfl) ?_
    refine TL_y rfl rfl (Y_ne rfl rfl) ?_
    refine TL_name 23 (v' := .bool false) rfl (congrArg Value.bool (by rw [if_pos hcu.1]; rfl)) ?_
    refine TL_y rfl rfl (Y_move rfl) ?_
    refine TL_grun rfl rfl ?_
    refine TL_y rfl rfl (Y_field_addr rfl) ?_
    refine TL_grun rfl rfl ?_
    refine TL_y rfl rfl (Y_load rfl rfl) ?_
    refine TL_grun rfl rfl ?_
    refine TL_y rfl rfl (Y_move rfl) ?_
    refine TL_grun rfl rfl ?_
    refine TL_y rfl rfl (Y_field_addr rfl) ?_
    refine TL_grun rfl rfl ?_
    refine TL_y rfl rfl (Y_load rfl rfl) ?_
    refine TL_grun rfl rfl ?_
    refine TL_y rfl rfl (Y_lookup (k := u.cart) rfl rfl ok16.2.1) ?_
    refine TL_name 30 (v' := .int .i64 (cntC (ys.take i) u.cart : Int)) rfl (by have := hep u.cart; cases e0 : getM ep u.cart <;> rw [e0] at this <;> simp at this <;> simp [lookV, this]) ?_
    refine TL_grun rfl rfl ?_
    refine TL_y rfl rfl (Y_ne rfl rfl) ?_
    refine TL_name 31 (v' := .bool false) rfl (congrArg Value.bool (decide_eq_false (by rw [hcu.2]; simp))) ?_
    refine TL_y rfl rfl (Y_pick_f rfl rfl) ?_
    refine TL_nil ?_
    refine T_cond_false rfl ?_
    refine T_skip ?_
    refine thenS_normal ?_
    refine T_region_last ?_
    refine TL_y rfl rfl (Y_move rfl) ?_
    refine TL_y rfl rfl (Y_field_addr rfl) ?_
    refine TL_y rfl rfl (Y_load rfl rfl) ?_
    refine TL_y rfl rfl (Y_lookup (k := u.cart) rfl rfl ok16.2.1) ?_
    refine TL_name 37 (v' := .int .i64 (cntC (ys.take i) u.cart : Int)) rfl (by have := hep u.cart; cases e0 : getM ep u.cart <;> rw [e0] at this <;> simp at this <;> simp [lookV, this]) ?_
    refine TL_y rfl rfl (Y_add rfl rfl (by omega)) ?_
    refine TL_update (k := u.cart) (u := (cntC (ys.take i) u.cart : Int) + 1) (cs := [.int .i64 ((cntC (ys.take i) u.cart : Int) + 1)]) _ rfl rfl rfl ok16.2.1 (by exact Knows.const fun M => ⟨rfl, i64In_mk (by omega)⟩) (List.Perm.refl _) ?_
    refine TL_nil ?_
    refine inB_normal ?_
    refine thenS_normal ?_
    refine T_region_last ?_
    refine TL_y rfl rfl (Y_add rfl rfl (by omega)) ?_
    refine TL_name 39 (v' := .int .i64 ((i + 1 : Nat) : Int)) rfl (rfl) ?_
    refine TL_y rfl rfl (Y_move rfl) ?_
    refine TL_nil ?_
    refine thenS_normal ?_
    exact ⟨⟨i + 1, _⟩, ⟨by simp only; omega, hep.next hu rfl⟩, by simp only; omega, holds_to (sub_cons rfl (sub_cons rfl (sub_cons rfl (sub_cons rfl (sub_nil))))) GivesTo.g⟩
  · refine T_exit ?_
    refine thenS_exit ?_
    refine thenS_exit ?_
    refine inB_hit ?_
    refine thenS_normal ?_
    refine T_region ?_
    refine TL_y rfl rfl (Y_assign rfl) ?_
    refine TL_y rfl rfl (Y_assign rfl) ?_
    refine TL_nil ?_
    refine T_ret ?_
    exact RetG_2 (.inl rfl) rfl (ResV.tmp rfl) (ResV.tmp rfl) GivesTo.g (⟨rfl, rfl⟩)
theorem SOk.tok {s : SM} (h : SOk s) {i : Nat} {o : OrdD} (ho : s.os[i]? = some o) : tokS s.os o.x.token = some o := by
  have hlt := (List.getElem?_eq_some_iff.1 ho).1
  rw [tokS_get, h.tks i o ho, getS, if_pos (by omega), show (((i + 1 : Nat) : Int) - 1).toNat = i by omega, ho]
theorem getS_at {os : List OrdD} {i : Nat} {o : OrdD} (ho : os[i]? = some o) : getS os ((i : Int) + 1) = some o := by
  have hlt := (List.getElem?_eq_some_iff.1 ho).1
  rw [getS, if_pos (by omega), show ((i : Int) + 1 - 1).toNat = i by omega, ho]
theorem sealFollows_walk {L : List HP} {A : Option Addr} {c : Nat} {l : List EntryD} (hk : SlK L entryR A c l) (hl : SLimits l) : Fn Try.prog 5 #[.slice A l.length c] L (fun v L' => v = .bool true ∧ L' = L) := by
  have hl17 := hl.1
  refine Fn_enter Try.func5 rfl rfl rfl rfl ?_
  refine T_gives hk.lay ?_
  refine T_region ?_
  refine TL_y rfl rfl (Y_assign rfl) ?_
  refine TL_nil ?_
  refine T_region ?_
  refine TL_call rfl rfl (sealNew_spec _) ?_
  rintro _ _ ⟨b1, rfl, rfl⟩
  refine TL_y rfl rfl (Y_assign rfl) ?_
  refine TL_nil ?_
  refine T_seq ?_
  refine T_region ?_
  refine TL_call rfl rfl (lives19_spec _) ?_
  rintro _ _ ⟨rfl, rfl⟩
  refine TL_name 19 (v' := .bool true) rfl (rfl) ?_
  refine TL_y rfl rfl (Y_not_t rfl) ?_
  refine TL_y rfl rfl (Y_move rfl) ?_
  refine TL_grun rfl rfl ?_
  refine TL_y rfl rfl (Y_move rfl) ?_
  refine TL_grun rfl rfl ?_
  refine TL_y rfl rfl (Y_equal rfl rfl (EqIs.ptr_nil)) ?_
  refine TL_y rfl rfl (Y_pick_f rfl rfl) ?_
  refine TL_name 24 (v' := .bool false) rfl (by simp) ?_
  refine TL_nil ?_
  refine T_cond_false rfl ?_
  refine T_skip ?_
  refine thenS_normal ?_
  refine T_seq ?_
  refine T_region ?_
  refine TL_y rfl rfl (Y_assign rfl) ?_
  refine TL_nil ?_
  refine T_block ?_
  refine T_loopK (σ := Nat) [0, 3] (fun i => i ≤ l.length) (fun i kv => (4, .int .i64 (i : Int)) :: kv) (fun i => sm b1 (runS (l.take i)) :: sl entryR A c l :: L) (fun i => l.length - i) (0) rfl (Nat.zero_le _) (GivesTo.g (L' := sm b1 ⟨[], 0⟩ :: sl entryR A c l :: L)) (sub_cons rfl (sub_cons rfl (sub_cons rfl (sub_nil)))) ?_
  intro i hi
  refine T_seq ?_
  refine T_region ?_
  refine TL_y rfl rfl (Y_move rfl) ?_
  refine TL_y rfl rfl (Y_move rfl) ?_
  refine TL_y rfl rfl (Y_len rfl) ?_
  refine TL_y rfl rfl (Y_lt rfl rfl) ?_
  refine TL_nil ?_
  refine T_if rfl (fun h28 => ?_) (fun h28 => ?_)
  · refine T_skip ?_
    refine thenS_normal ?_
    refine T_seq ?_
    refine T_block ?_
    refine T_region ?_
    refine TL_y rfl rfl (Y_move rfl) ?_
    obtain ⟨u, hu⟩ : ∃ u, l[i]? = some u := ⟨_, List.getElem?_eq_getElem (by omega)⟩
    have hnx := runS_next hu
    have h65 := (SOk.run (l.take i)).len
    have hmd := doS_made (s := runS (l.take i)) (e := u)
    have hum := doS_unmade (s := runS (l.take i)) (e := u)
    refine TL_pullk b1 ?_
    refine TL_call rfl rfl (sealOrders_spec) ?_
    rintro _ _ ⟨A32, c32, rfl, _, rfl⟩
    refine TL_y rfl rfl (Y_len rfl) ?_
    refine TL_y rfl rfl (Y_assign rfl) ?_
    refine TL_nil ?_
    refine T_region ?_
    refine TL_y rfl rfl (Y_move rfl) ?_
    refine TL_y rfl rfl (Y_move rfl) ?_
    refine TL_y rfl rfl (Y_move rfl) ?_
    refine TL_index_n rfl rfl rfl (rfl) (sln) (hu) ?_
    intro bn38 on38 hA38 hk38
    have hu38 := hu
    refine TL_load_nx rfl rfl hk38 hu38 (fun _ => rfl) ?_
    intro p39 ok39
    simp only [List.cons_append, List.nil_append]
    refine TL_pullk b1 ?_
    refine TL_call rfl rfl (sealDo_spec u ok39 slk (hl.2 u (List.mem_of_getElem? hu)) (run_dn1 hl17)) ?_
    rintro _ _ ⟨A40, c40, rfl, rfl⟩
    refine TL_y rfl rfl (Y_move rfl) ?_
    refine TL_y rfl rfl (Y_extract rfl rfl) ?_
    refine TL_y rfl rfl (Y_extract rfl rfl) ?_
    refine TL_y rfl rfl (Y_extract rfl rfl) ?_
    refine TL_alloc rfl rfl ?_
    intro b6
    refine TL_store rfl rfl rfl rfl rfl rfl ?_
    refine TL_y rfl rfl (Y_assign rfl) ?_
    refine TL_y rfl rfl (Y_assign rfl) ?_
    refine TL_nil ?_
    refine T_region ?_
    refine TL_y rfl rfl (Y_move rfl) ?_
    refine TL_pullk b1 ?_
    refine TL_call rfl rfl (sealOrders_spec) ?_
    rintro _ _ ⟨A45, c45, rfl, _, rfl⟩
    refine TL_y rfl rfl (Y_len rfl) ?_
    refine TL_y rfl rfl (Y_assign rfl) ?_
    refine TL_nil ?_
    refine T_region ?_
    refine TL_y rfl rfl (Y_move rfl) ?_
    refine TL_y rfl rfl (Y_move rfl) ?_
    refine TL_split 48 rfl (fun h48 => ?_) (fun h48 => ?_)
    · refine TL_grun rfl rfl ?_
      refine TL_y rfl rfl (Y_move rfl) ?_
      refine TL_grun rfl rfl ?_
      refine TL_y rfl rfl (Y_ne rfl rfl) ?_
      refine TL_name 50 (v' := .bool false) rfl (congrArg Value.bool (decide_eq_false (by rw [(hmd h48).2.1]; simp))) ?_
      refine TL_grun rfl rfl ?_
      refine TL_y rfl rfl (Y_move rfl) ?_
      refine TL_grun rfl rfl ?_
      refine TL_y rfl rfl (Y_move rfl) ?_
      refine TL_grun rfl rfl ?_
      refine TL_y rfl rfl (Y_move rfl) ?_
      refine TL_grun rfl rfl ?_
      refine TL_y rfl rfl (Y_add rfl rfl (by omega)) ?_
      refine TL_grun rfl rfl ?_
      refine TL_y rfl rfl (Y_ne rfl rfl) ?_
      refine TL_name 55 (v' := .bool false) rfl (congrArg Value.bool (decide_eq_false (by rw [(hmd h48).2.2.1]; simp))) ?_
      refine TL_grun rfl rfl ?_
      refine TL_y rfl rfl (Y_pick_f rfl rfl) ?_
      refine TL_grun rfl rfl ?_
      refine TL_y rfl rfl (Y_move rfl) ?_
      refine TL_grun rfl rfl ?_
      refine TL_y rfl rfl (Y_field_addr rfl) ?_
      refine TL_grun rfl rfl ?_
      refine TL_y rfl rfl (Y_load rfl rfl) ?_
      refine TL_grun rfl rfl ?_
      refine TL_y rfl rfl (Y_move rfl) ?_
      refine TL_grun rfl rfl ?_
      refine TL_y rfl rfl (Y_ne rfl rfl) ?_
      refine TL_name 61 (v' := .bool false) rfl (congrArg Value.bool (decide_eq_false (by rw [(hmd h48).2.2.1, (hmd h48).2.2.2]; simp [newS]))) ?_
      refine TL_grun rfl rfl ?_
      refine TL_y rfl rfl (Y_pick_f rfl rfl) ?_
      refine TL_y rfl rfl (Y_pick_t rfl rfl) ?_
      refine TL_y rfl rfl (Y_move rfl) ?_
      refine TL_grun rfl rfl ?_
      refine TL_y rfl rfl (Y_move rfl) ?_
      refine TL_grun rfl rfl ?_
      refine TL_y rfl rfl (Y_not rfl) ?_
      refine TL_name 66 (v' := .bool false) rfl (congrArg Value.bool (by rw [h48]; rfl)) ?_
      refine TL_grun rfl rfl ?_
      refine TL_y rfl rfl (Y_move rfl) ?_
      refine TL_gskip rfl rfl rfl rfl ?_
      refine TL_gskip rfl rfl rfl rfl ?_
      refine TL_gskip rfl rfl rfl rfl ?_
      refine TL_grun rfl rfl ?_
      refine TL_y rfl rfl (Y_pick_f rfl rfl) ?_
      refine TL_y rfl rfl (Y_pick_f rfl rfl) ?_
      refine TL_nil ?_
      refine T_cond_false rfl ?_
      refine T_skip ?_
      refine inB_normal ?_
      refine thenS_normal ?_
      refine T_region_last ?_
      refine TL_y rfl rfl (Y_move rfl) ?_
      refine TL_y rfl rfl (Y_add rfl rfl (by omega)) ?_
      refine TL_name 30 (v' := .int .i64 ((i + 1 : Nat) : Int)) rfl (rfl) ?_
      refine TL_y rfl rfl (Y_assign rfl) ?_
      refine TL_nil ?_
      refine thenS_normal ?_
      rw [← hnx]
      exact ⟨i + 1, by omega, by omega, holds_to (sub_cons rfl (sub_cons rfl (sub_cons rfl (sub_nil)))) GivesTo.g⟩
    · refine TL_gskip rfl rfl rfl rfl ?_
      refine TL_gskip rfl rfl rfl rfl ?_
      refine TL_gskip rfl rfl rfl rfl ?_
      refine TL_gskip_u rfl rfl rfl ?_
      refine TL_gskip_u rfl rfl rfl ?_
      refine TL_gskip_u rfl rfl rfl ?_
      refine TL_gskip_u rfl rfl rfl ?_
      refine TL_gskip rfl rfl rfl rfl ?_
      refine TL_gskip rfl rfl rfl rfl ?_
      refine TL_gskip_u rfl rfl rfl ?_
      refine TL_gskip_u rfl rfl rfl ?_
      refine TL_gskip_u rfl rfl rfl ?_
      refine TL_gskip_u rfl rfl rfl ?_
      refine TL_gskip rfl rfl rfl rfl ?_
      refine TL_y rfl rfl (Y_pick_f rfl rfl) ?_
      refine TL_y rfl rfl (Y_move rfl) ?_
      refine TL_grun rfl rfl ?_
      refine TL_y rfl rfl (Y_move rfl) ?_
      refine TL_grun rfl rfl ?_
      refine TL_y rfl rfl (Y_not rfl) ?_
      refine TL_name 66 (v' := .bool true) rfl (congrArg Value.bool (by rw [h48]; rfl)) ?_
      refine TL_grun rfl rfl ?_
      refine TL_y rfl rfl (Y_move rfl) ?_
      refine TL_grun rfl rfl ?_
      refine TL_y rfl rfl (Y_move rfl) ?_
      refine TL_grun rfl rfl ?_
      refine TL_y rfl rfl (Y_move rfl) ?_
      refine TL_grun rfl rfl ?_
      refine TL_y rfl rfl (Y_ne rfl rfl) ?_
      refine TL_name 70 (v' := .bool false) rfl (congrArg Value.bool (decide_eq_false (by rw [hum h48]; simp))) ?_
      refine TL_grun rfl rfl ?_
      refine TL_y rfl rfl (Y_pick_t rfl rfl) ?_
      refine TL_y rfl rfl (Y_pick_f rfl rfl) ?_
      refine TL_nil ?_
      refine T_cond_false rfl ?_
      refine T_skip ?_
      refine inB_normal ?_
      refine thenS_normal ?_
      refine T_region_last ?_
      refine TL_y rfl rfl (Y_move rfl) ?_
      refine TL_y rfl rfl (Y_add rfl rfl (by omega)) ?_
      refine TL_name 30 (v' := .int .i64 ((i + 1 : Nat) : Int)) rfl (rfl) ?_
      refine TL_y rfl rfl (Y_assign rfl) ?_
      refine TL_nil ?_
      refine thenS_normal ?_
      rw [← hnx]
      exact ⟨i + 1, by omega, by omega, holds_to (sub_cons rfl (sub_cons rfl (sub_cons rfl (sub_nil)))) GivesTo.g⟩
  · refine T_exit ?_
    refine thenS_exit ?_
    refine thenS_exit ?_
    refine inB_hit ?_
    refine thenS_normal ?_
    refine T_seq ?_
    refine T_region ?_
    refine TL_y rfl rfl (Y_move rfl) ?_
    have hok := SOk.run l
    have hdn := runS_dn l
    rw [show l.take i = l from List.take_of_length_le (by omega)]
    generalize hs : runS l = s at *
    have hlen := hok.len
    refine TL_pullk b1 ?_
    refine TL_call rfl rfl (sealSeals_spec) ?_
    rintro _ _ ⟨A75, c75, rfl, _, rfl⟩
    refine TL_freeze_osl ?_
    refine TL_call rfl rfl (check_spec slk hok.ck (by rw [List.length_map]; exact hlen)) ?_
    rintro _ _ ⟨rfl, rfl⟩
    refine TL_y rfl rfl (Y_move rfl) ?_
    refine TL_y rfl rfl (Y_extract rfl rfl) ?_
    refine TL_y rfl rfl (Y_extract rfl rfl) ?_
    refine TL_y rfl rfl (Y_assign rfl) ?_
    refine TL_y rfl rfl (Y_assign rfl) ?_
    refine TL_nil ?_
    refine T_region ?_
    refine TL_y rfl rfl (Y_move rfl) ?_
    refine TL_y rfl rfl (Y_ne rfl rfl) ?_
    refine TL_name 80 (v' := .bool false) rfl (by simp) ?_
    refine TL_nil ?_
    refine T_cond_false rfl ?_
    refine T_skip ?_
    refine thenS_normal ?_
    refine T_region ?_
    refine TL_y rfl rfl (Y_move rfl) ?_
    refine TL_pullk b1 ?_
    refine TL_call rfl rfl (sealOrders_spec) ?_
    rintro _ _ ⟨A82, c82, rfl, _, rfl⟩
    refine TL_freeze_osl ?_
    refine TL_y rfl rfl (Y_assign rfl) ?_
    refine TL_nil ?_
    refine T_seq ?_
    refine T_region ?_
    refine TL_y rfl rfl (Y_assign rfl) ?_
    refine TL_nil ?_
    refine T_block ?_
    refine T_loopK (σ := Nat) [3, 12] (fun j => j ≤ s.os.length) (fun j kv => (13, .int .i64 (j : Int)) :: kv) (fun j => sl ordR A82 c82 s.os :: sm b1 s :: sl entryR A c l :: L) (fun j => s.os.length - j) (0) rfl (Nat.zero_le _) (GivesTo.g) (sub_cons rfl (sub_cons rfl (sub_cons rfl (sub_nil)))) ?_
    intro j hj
    refine T_seq ?_
    refine T_region ?_
    refine TL_y rfl rfl (Y_move rfl) ?_
    refine TL_y rfl rfl (Y_move rfl) ?_
    refine TL_y rfl rfl (Y_len rfl) ?_
    refine TL_y rfl rfl (Y_lt rfl rfl) ?_
    refine TL_nil ?_
    refine T_if rfl (fun h86 => ?_) (fun h86 => ?_)
    · refine T_skip ?_
      refine thenS_normal ?_
      refine T_seq ?_
      refine T_block ?_
      refine T_region ?_
      refine TL_y rfl rfl (Y_move rfl) ?_
      refine TL_y rfl rfl (Y_move rfl) ?_
      refine TL_y rfl rfl (Y_move rfl) ?_
      obtain ⟨o, ho⟩ : ∃ o, s.os[j]? = some o := ⟨_, List.getElem?_eq_getElem (by omega)⟩
      have hid := hok.ids j o ho
      have htk := hok.tok ho
      have hgt := getS_at ho
      refine TL_index_n rfl rfl rfl (rfl) (sln) (ho) ?_
      intro bn93 on93 hA93 hk93
      have hu93 := ho
      refine TL_y rfl rfl (Y_field_addr2 rfl) ?_
      refine TL_y rfl rfl (Y_load_nx rfl hk93 hu93 (fun _ => rfl)) ?_
      refine TL_elem_fact (p := ordOk o) hk93 hu93 (fun M l h => by obtain ⟨p, _, _, q⟩ := h; exact q) fun okt => ?_
      refine TL_pullk b1 ?_
      refine TL_call rfl rfl (sealToken_spec o.x.token okt.2.1) ?_
      rintro _ _ ⟨A96, c96, rfl, rfl⟩
      simp only [htk, show orE (some o) = o from rfl]
      refine TL_y rfl rfl (Y_move rfl) ?_
      refine TL_y rfl rfl (Y_extract rfl rfl) ?_
      refine TL_y rfl rfl (Y_extract rfl rfl) ?_
      refine TL_alloc rfl rfl ?_
      intro b14
      refine TL_store rfl rfl rfl rfl rfl rfl ?_
      refine TL_y rfl rfl (Y_assign rfl) ?_
      refine TL_nil ?_
      refine T_region ?_
      refine TL_y rfl rfl (Y_move rfl) ?_
      refine TL_y rfl rfl (Y_move rfl) ?_
      refine TL_y rfl rfl (Y_add rfl rfl (by omega)) ?_
      refine TL_pullk b1 ?_
      refine TL_call rfl rfl (sealGet_spec ((j : Int) + 1) (i64In_mk (by omega))) ?_
      rintro _ _ ⟨A103, c103, rfl, rfl⟩
      simp only [hgt, show orE (some o) = o from rfl]
      refine TL_y rfl rfl (Y_move rfl) ?_
      refine TL_y rfl rfl (Y_extract rfl rfl) ?_
      refine TL_y rfl rfl (Y_extract rfl rfl) ?_
      refine TL_alloc rfl rfl ?_
      intro b16
      refine TL_store rfl rfl rfl rfl rfl rfl ?_
      refine TL_y rfl rfl (Y_assign rfl) ?_
      refine TL_nil ?_
      refine T_at (slk (A := A82) (c := c82)) ho fun bq oq lq haq => ?_
      refine T_ex fun pq okq => ?_
      simp only [List.cons_append, List.nil_append]
      refine T_region_draw _ [0, 1, 3, 7, 15, 31, 63, 127, 255, 127, 639, 2047, 4095, 8191, 16383, 16383, 65535, 131071, 262143, 524287, 1048575, 1048575, 1048575, 7340031, 15728639, 33554431, 67108863, 134217727] [] [(0, true), (1, true), (2, true), (3, true), (4, true), (5, true), (6, true), (7, true), (8, true), (9, true), (10, true), (11, true), (12, true), (13, true), (14, true), (15, true), (16, false), (17, true), (18, true), (19, true), (20, true), (21, true), (22, true), (23, true), (24, true), (25, false), (26, true), (27, true)] (by kernel_rfl) (by decide +kernel) (Gives.refl _) ?_
      refine TF_y rfl rfl (Y_move rfl) ?_
      refine TF_y rfl rfl (Y_not rfl) ?_
      refine TF_name 107 (v' := .bool false) rfl (by simp) ?_
      refine TF_y rfl rfl (Y_move rfl) ?_
      refine TF_gy rfl rfl rfl rfl (Y_move rfl) ?_
      refine TF_gy rfl rfl rfl rfl (Y_not rfl) ?_
      refine TF_name 110 (v' := .bool false) rfl (by simp) ?_
      refine TF_y rfl rfl (Y_pick_f rfl rfl) ?_
      refine TF_y rfl rfl (Y_move rfl) ?_
      refine TF_gy rfl rfl rfl rfl (Y_field_addr rfl) ?_
      refine TF_gy rfl rfl rfl rfl (Y_load rfl rfl) ?_
      refine TF_gy rfl rfl rfl rfl (Y_move rfl) ?_
      refine TF_gy rfl rfl rfl rfl (Y_add rfl rfl (by omega)) ?_
      refine TF_gy rfl rfl rfl rfl (Y_ne rfl rfl) ?_
      refine TF_name 117 (v' := .bool false) rfl (congrArg Value.bool (decide_eq_false (by rw [hid]; simp))) ?_
      refine TF_y rfl rfl (Y_pick_f rfl rfl) ?_
      refine TF_y rfl rfl (Y_move rfl) ?_
      refine TF_gy rfl rfl rfl rfl (Y_load_agg rfl rfl) ?_
      refine TF_gy rfl rfl rfl rfl (Y_load_agg rfl rfl) ?_
      refine TF_anchor rfl ?_
      refine TL_grun rfl rfl ?_
      refine TL_call rfl rfl (sameOrder_spec o o sln sln) ?_
      rintro _ _ ⟨rfl, rfl⟩
      refine TL_name 122 (v' := .bool true) rfl (by simp) ?_
      refine TF_end GivesTo.g ?_
      refine TF_gy rfl rfl rfl rfl (Y_not_t rfl) ?_
      refine TF_y rfl rfl (Y_pick_f rfl rfl) ?_
      refine TF_y rfl rfl (Y_move rfl) ?_
      refine TF_gy rfl rfl rfl rfl (Y_load_agg rfl rfl) ?_
      refine TF_gy rfl rfl rfl rfl (Y_move rfl) ?_
      refine TF_gy rfl rfl rfl rfl (Y_move rfl) ?_
      refine TF_gy rfl rfl rfl rfl (Y_index_at rfl rfl (by omega) haq) ?_
      refine TF_gy rfl rfl rfl rfl (Y_load_row_agg (vs := ordC o pq) rfl rfl) ?_
      refine TF_anchor rfl ?_
      refine TL_grun rfl rfl ?_
      refine TL_call rfl rfl (sameOrder_spec o o sln sln) ?_
      rintro _ _ ⟨rfl, rfl⟩
      refine TL_name 131 (v' := .bool true) rfl (by simp) ?_
      refine TF_end GivesTo.g ?_
      refine TF_gy rfl rfl rfl rfl (Y_not_t rfl) ?_
      refine TF_y rfl rfl (Y_pick_f rfl rfl) ?_
      refine TF_nil ?_
      refine T_cond_false rfl ?_
      refine T_skip ?_
      refine inB_normal ?_
      refine thenS_normal ?_
      refine T_region_last ?_
      refine TL_y rfl rfl (Y_move rfl) ?_
      refine TL_y rfl rfl (Y_add rfl rfl (by omega)) ?_
      refine TL_name 88 (v' := .int .i64 ((j + 1 : Nat) : Int)) rfl (rfl) ?_
      refine TL_y rfl rfl (Y_assign rfl) ?_
      refine TL_nil ?_
      refine thenS_normal ?_
      exact ⟨j + 1, by omega, by omega, holds_to (sub_cons rfl (sub_cons rfl (sub_cons rfl (sub_nil)))) GivesTo.g⟩
    · refine T_exit ?_
      refine thenS_exit ?_
      refine thenS_exit ?_
      refine inB_hit ?_
      refine thenS_normal ?_
      refine T_region ?_
      refine TL_y rfl rfl (Y_assign rfl) ?_
      refine TL_nil ?_
      refine T_ret ?_
      exact RetG_1 (.inl rfl) rfl (ResV.tmp rfl) GivesTo.g (⟨rfl, rfl⟩)
end Go.SL
