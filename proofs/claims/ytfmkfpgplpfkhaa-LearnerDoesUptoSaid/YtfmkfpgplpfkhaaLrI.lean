/- Learner: the law on orders. -/
import Derived.Test.YtfmkfpgplpfkhaaLrG
import Derived.Test.YtfmkfpgplpfkhaaSameI
set_option linter.unusedVariables false
set_option linter.unusedSimpArgs false
namespace Go.SL
open Go Go.Proofs
theorem slots_ok {L : List HP} {A : Option Addr} {c : Nat} {xs : List SlotD} (hk : SlK L slotR A c xs) : Knows L (fun _ => ∀ s ∈ xs, slotOk s) := hk.mono fun M h s hs => by
  obtain ⟨i, hi⟩ := List.getElem?_of_mem hs
  rcases h.2.2 with rfl | ⟨b, o, _, h⟩
  · cases hs
  · obtain ⟨_, _, _, _, h⟩ := h
    obtain ⟨l, ⟨p, _, _, ok⟩, _⟩ := h i s hi
    exact ok
def validS (p : SlotD) : Prop := rEntry p.2 ∧ 0 ≤ p.1 ∧ p.1 ≤ 2147483647
def runC (s : List SlotD) (zs : List SlotD) : List SlotD := zs.foldl (fun s z => (chooseS s z.1 z.2).1) s
theorem runC_snoc (s zs : List SlotD) (z : SlotD) : runC s (zs ++ [z]) = (chooseS (runC s zs) z.1 z.2).1 := by simp [runC]
theorem runC_mem : ∀ (zs : List SlotD) (s : List SlotD), LI s → zs.Pairwise (fun p q => p.1 ≠ q.1) → (∀ z ∈ zs, getM s z.1 = none) → s.length + zs.length ≤ 65536 → (∀ z ∈ zs, slotOk z) → LI (runC s zs) ∧ ∀ p, p ∈ runC s zs ↔ p ∈ s ∨ (p ∈ zs ∧ validS p)
  | [], s, hi, _, _, _, _ => ⟨hi, fun p => by simp [runC]⟩
  | z :: r, s, hi, hp, hn, hl, ho => by
    obtain ⟨h1, h2⟩ := List.pairwise_cons.1 hp
    have hz := hn z List.mem_cons_self
    rw [List.length_cons] at hl
    have e : runC s (z :: r) = runC (chooseS s z.1 z.2).1 r := rfl
    rw [e]
    by_cases hv : validS z
    · have hc : (chooseS s z.1 z.2).1 = putS s z.1 z.2 := by
        unfold chooseS
        rw [if_neg (by simp only [Classical.not_not]; exact hv), hz]
        simp only
        rw [if_neg (by omega)]
      rw [hc]
      have hi2 := hi.put hz hv.2 ⟨hv.1, (ho z List.mem_cons_self).2⟩ (by omega)
      obtain ⟨q1, q2⟩ := runC_mem r (putS s z.1 z.2) hi2 h2 (fun w hw => by
        rw [← getM_perm (putS_perm hz) (nd_put (hi.inc.imp fun h => by omega) z.1 z.2), getM_cons, del_none hz]
        simp only
        rw [if_neg (h1 w hw)]
        exact hn w (List.mem_cons_of_mem _ hw)) (by unfold putS; rw [insW_len]; omega) (fun w hw => ho w (List.mem_cons_of_mem _ hw))
      refine ⟨q1, fun p => ?_⟩
      rw [q2]
      unfold putS
      rw [mem_insW]
      simp only [List.mem_cons]
      constructor
      · rintro ((rfl | h) | ⟨h, k⟩)
        · exact .inr ⟨.inl rfl, hv⟩
        · exact .inl h
        · exact .inr ⟨.inr h, k⟩
      · rintro (h | ⟨rfl | h, k⟩)
        · exact .inl (.inr h)
        · exact .inl (.inl rfl)
        · exact .inr ⟨h, k⟩
    · have hc : (chooseS s z.1 z.2).1 = s := by
        unfold chooseS
        rw [if_pos (show ¬ (rEntry z.2 ∧ 0 ≤ z.1 ∧ z.1 ≤ 2147483647) from hv)]
      rw [hc]
      obtain ⟨q1, q2⟩ := runC_mem r s hi h2 (fun w hw => hn w (List.mem_cons_of_mem _ hw)) (by omega) (fun w hw => ho w (List.mem_cons_of_mem _ hw))
      refine ⟨q1, fun p => ?_⟩
      rw [q2]
      simp only [List.mem_cons]
      constructor
      · rintro (h | ⟨h, k⟩)
        · exact .inl h
        · exact .inr ⟨.inr h, k⟩
      · rintro (h | ⟨rfl | h, k⟩)
        · exact .inl h
        · exact absurd k hv
        · exact .inr ⟨h, k⟩
theorem li_ext {a b : List SlotD} (ha : LI a) (hb : LI b) (h : ∀ p, p ∈ a ↔ p ∈ b) : a = b := by
  have nda : a.Nodup := ha.inc.imp fun h e => by rw [e] at h; omega
  have ndb : b.Nodup := hb.inc.imp fun h e => by rw [e] at h; omega
  exact ((List.perm_ext_iff_of_nodup nda ndb).2 h).eq_of_pairwise (fun x y _ _ h1 h2 => by omega) ha.inc hb.inc
def idxT (n k j : Nat) : Nat := n - 1 - (j + k) % n
def turned (ys : List SlotD) (k : Nat) (i : Nat) : List SlotD := (List.range i).filterMap fun j => ys[idxT ys.length k j]?
theorem turned_succ {ys : List SlotD} {k i : Nat} {x : SlotD} (h : ys[idxT ys.length k i]? = some x) : turned ys k (i + 1) = turned ys k i ++ [x] := by
  simp [turned, List.range_succ, List.filterMap_append, h]
theorem turned_perm (ys : List SlotD) {k : Nat} (hk : k < ys.length) : (turned ys k ys.length).Perm ys := by
  have hp : ((List.range ys.length).map (idxT ys.length k)).Perm (List.range ys.length) := by
    refine (List.perm_ext_iff_of_nodup ?_ List.nodup_range).2 fun j => ?_
    · refine List.pairwise_map.2 (List.nodup_range.imp_of_mem fun {a b} ha hb hne e => hne ?_)
      rw [List.mem_range] at ha hb
      unfold idxT at e
      have h1 := Nat.mod_lt (a + k) (show 0 < ys.length by omega)
      have h2 := Nat.mod_lt (b + k) (show 0 < ys.length by omega)
      have e2 : (a + k) % ys.length = (b + k) % ys.length := by omega
      rcases Nat.lt_or_ge (a + k) ys.length with g1 | g1 <;> rcases Nat.lt_or_ge (b + k) ys.length with g2 | g2
      · rw [Nat.mod_eq_of_lt g1, Nat.mod_eq_of_lt g2] at e2; omega
      · rw [Nat.mod_eq_of_lt g1, Nat.mod_eq_sub_mod g2, Nat.mod_eq_of_lt (by omega)] at e2; omega
      · rw [Nat.mod_eq_of_lt g2, Nat.mod_eq_sub_mod g1, Nat.mod_eq_of_lt (by omega)] at e2; omega
      · rw [Nat.mod_eq_sub_mod g2, Nat.mod_eq_sub_mod g1, Nat.mod_eq_of_lt (by omega), Nat.mod_eq_of_lt (by omega)] at e2; omega
    · simp only [List.mem_map, List.mem_range]
      constructor
      · rintro ⟨i, _, rfl⟩; unfold idxT; omega
      · intro hj
        refine ⟨(ys.length - 1 - j + (ys.length - k)) % ys.length, Nat.mod_lt _ (by omega), ?_⟩
        unfold idxT
        rw [Nat.mod_add_mod, show ys.length - 1 - j + (ys.length - k) + k = ys.length - 1 - j + ys.length by omega, Nat.add_mod_right, Nat.mod_eq_of_lt (by omega)]
        omega
  have h2 := hp.filterMap (fun j => ys[j]?)
  rw [List.filterMap_map] at h2
  have h3 : (List.range ys.length).filterMap (fun j => ys[j]?) = ys := by
    apply List.ext_getElem?
    intro i
    have : (List.range ys.length).filterMap (fun j => ys[j]?) = ys := by
      have e1 : (List.range ys.length).map (fun j => ys[j]?) = ys.map some := by
        apply List.ext_getElem?
        intro i
        by_cases hi : i < ys.length
        · simp [hi]
        · simp [hi]
      have e2 := congrArg (List.filterMap id) e1
      simpa [List.filterMap_map, Function.comp_def] using e2
    rw [this]
  rw [h3] at h2
  exact h2
theorem order_same {ys : List SlotD} {k : Nat} (hd : ys.Pairwise fun p q => p.1 ≠ q.1) (hl : ys.length ≤ 60000) (ho : ∀ s ∈ ys, slotOk s) (hk : k < ys.length ∨ ys.length = 0) : runC [] (turned ys k ys.length) = runC [] ys := by
  rcases hk with hk | hk
  · have hp := turned_perm ys hk
    have hd2 : (turned ys k ys.length).Pairwise fun p q => p.1 ≠ q.1 := (hp.pairwise_iff (fun {_ _} h => Ne.symm h)).2 hd
    obtain ⟨a1, a2⟩ := runC_mem (turned ys k ys.length) [] LI.nil hd2 (fun _ _ => rfl) (by rw [hp.length_eq]; simp; omega) (fun z hz => ho z (hp.mem_iff.1 hz))
    obtain ⟨b1, b2⟩ := runC_mem ys [] LI.nil hd (fun _ _ => rfl) (by simp; omega) ho
    refine li_ext a1 b1 fun p => ?_
    rw [a2, b2, hp.mem_iff]
  · have := List.eq_nil_of_length_eq_zero hk
    subst this; rfl
structure OrSt where
  i : Nat
  A : Unit
theorem learnerOrder_walk {L : List HP} {A : Option Addr} {c : Nat} {ys : List SlotD} (by_ : Int) (hby : intIn .i64 by_) (hk : SlK L slotR A c ys) (hl : LLim ys) : Fn Try.prog 5 #[.slice A ys.length c, .int .i64 by_] L (fun v L' => v = .bool true ∧ L' = L) := by
  have hl1 := hl.1
  have hby := i64In hby
  refine Fn_fact (slots_ok hk) (fun _ h => h) fun hso => ?_
  refine Fn_enter Try.func5 rfl rfl rfl rfl ?_
  refine T_gives hk.lay ?_
  refine T_region ?_
  refine TL_y rfl rfl (Y_assign rfl) ?_
  refine TL_nil ?_
  refine T_region ?_
  refine TL_call rfl rfl (lrNew_spec _) ?_
  rintro _ _ ⟨b17, rfl, rfl⟩
  refine TL_call rfl rfl (lrNew_spec _) ?_
  rintro _ _ ⟨b18, rfl, rfl⟩
  refine TL_y rfl rfl (Y_assign rfl) ?_
  refine TL_y rfl rfl (Y_assign rfl) ?_
  refine TL_nil ?_
  refine T_seq ?_
  refine T_region ?_
  refine TL_call rfl rfl (lives18_spec _) ?_
  rintro _ _ ⟨rfl, rfl⟩
  refine TL_name 19 (v' := .bool true) rfl (rfl) ?_
  refine TL_y rfl rfl (Y_not_t rfl) ?_
  refine TL_y rfl rfl (Y_move rfl) ?_
  refine TL_grun rfl rfl ?_
  refine TL_y rfl rfl (Y_move rfl) ?_
  refine TL_grun rfl rfl ?_
  refine TL_y rfl rfl (Y_equal rfl rfl (EqIs.ptr_nil)) ?_
  refine TL_name 23 (v' := .bool false) rfl (by simp) ?_
  refine TL_y rfl rfl (Y_pick_f rfl rfl) ?_
  refine TL_y rfl rfl (Y_move rfl) ?_
  refine TL_grun rfl rfl ?_
  refine TL_y rfl rfl (Y_move rfl) ?_
  refine TL_grun rfl rfl ?_
  refine TL_y rfl rfl (Y_equal rfl rfl (EqIs.ptr_nil)) ?_
  refine TL_name 27 (v' := .bool false) rfl (by simp) ?_
  refine TL_y rfl rfl (Y_pick_f rfl rfl) ?_
  refine TL_nil ?_
  refine T_cond_false rfl ?_
  refine T_skip ?_
  refine thenS_normal ?_
  refine T_seq ?_
  refine T_region ?_
  refine TL_y rfl rfl (Y_move rfl) ?_
  refine TL_y rfl rfl (Y_len rfl) ?_
  refine TL_y rfl rfl (Y_gt rfl rfl) ?_
  refine TL_nil ?_
  refine T_if rfl (fun h31 => ?_) (fun h31 => ?_)
  · refine T_region ?_
    refine TL_y rfl rfl (Y_assign rfl) ?_
    refine TL_nil ?_
    refine T_ret ?_
    refine thenS_ret ?_
    exact RetG_1 (.inl rfl) rfl (ResV.tmp rfl) GivesTo.g (⟨rfl, rfl⟩)
  · refine T_skip ?_
    refine thenS_normal ?_
    refine T_seq ?_
    refine T_region ?_
    refine TL_y rfl rfl (Y_assign rfl) ?_
    refine TL_nil ?_
    refine T_block ?_
    refine T_loopK (σ := Nat) [0, 1, 5, 6] (fun i => i ≤ ys.length ∧ (ys.take i).Pairwise fun p q => p.1 ≠ q.1) (fun i kv => (7, .int .i64 (i : Int)) :: kv) (fun i => lr b18 [] :: lr b17 [] :: sl slotR A c ys :: L) (fun i => ys.length - i) (0) rfl (⟨Nat.zero_le _, by simp⟩) (GivesTo.g) (sub_cons rfl (sub_cons rfl (sub_cons rfl (sub_cons rfl (sub_cons rfl (sub_nil)))))) ?_
    intro i hi
    refine T_seq ?_
    refine T_region ?_
    refine TL_y rfl rfl (Y_move rfl) ?_
    refine TL_y rfl rfl (Y_move rfl) ?_
    refine TL_y rfl rfl (Y_len rfl) ?_
    refine TL_y rfl rfl (Y_lt rfl rfl) ?_
    refine TL_nil ?_
    refine T_if rfl (fun h35 => ?_) (fun h35 => ?_)
    · refine T_skip ?_
      refine thenS_normal ?_
      refine T_seq ?_
      refine T_block ?_
      obtain ⟨u, hu⟩ : ∃ u, ys[i]? = some u := ⟨_, List.getElem?_eq_getElem (by omega)⟩
      refine T_at (slk (A := A) (c := c)) hu fun bq oq lq haq => ?_
      refine T_ex fun pq okq => ?_
      simp only [List.cons_append, List.nil_append]
      refine T_region ?_
      refine TL_y rfl rfl (Y_assign rfl) ?_
      refine TL_nil ?_
      refine T_block ?_
      refine T_loopK (σ := Nat) [0, 1, 5, 6, 7] (fun k => k ≤ i ∧ ∀ q ∈ ys.take k, q.1 ≠ u.1) (fun k kv => (8, .int .i64 (k : Int)) :: kv) (fun k => row bq oq (slotC u pq) :: lr b18 [] :: lr b17 [] :: sl slotR A c ys :: L) (fun k => i - k) (0) rfl (⟨Nat.zero_le _, by simp⟩) (GivesTo.g) (sub_cons rfl (sub_cons rfl (sub_cons rfl (sub_cons rfl (sub_cons rfl (sub_cons rfl (sub_nil))))))) ?_
      intro k hk2
      refine T_seq ?_
      refine T_region ?_
      refine TL_y rfl rfl (Y_move rfl) ?_
      refine TL_y rfl rfl (Y_move rfl) ?_
      refine TL_y rfl rfl (Y_lt rfl rfl) ?_
      refine TL_nil ?_
      refine T_if rfl (fun h40 => ?_) (fun h40 => ?_)
      · refine T_skip ?_
        refine thenS_normal ?_
        refine T_seq ?_
        refine T_block ?_
        obtain ⟨w, hw⟩ : ∃ w, ys[k]? = some w := ⟨_, List.getElem?_eq_getElem (by omega)⟩
        refine T_at (slk (A := A) (c := c)) hw fun bw ow lw haw => ?_
        refine T_ex fun pw okw => ?_
        simp only [List.cons_append, List.nil_append]
        refine T_region_draw _ [0, 0, 3, 7, 15, 0, 0, 96, 224, 480, 1023] [] [(0, true), (1, true), (2, true), (3, true), (4, true), (5, true), (6, true), (7, true), (8, true), (9, true), (10, true)] (by kernel_rfl) (by decide +kernel) (Gives.refl _) ?_
        refine TF_y rfl rfl (Y_move rfl) ?_
        refine TF_y rfl rfl (Y_move rfl) ?_
        refine TF_y rfl rfl (Y_index_at rfl rfl (by omega) haw) ?_
        refine TF_y rfl rfl (Y_field_addr2 rfl) ?_
        refine TF_y rfl rfl (Y_load_row (l := slotC w pw) rfl rfl) ?_
        refine TF_y rfl rfl (Y_move rfl) ?_
        refine TF_y rfl rfl (Y_move rfl) ?_
        refine TF_y rfl rfl (Y_index_at rfl rfl (by omega) haq) ?_
        refine TF_y rfl rfl (Y_field_addr2 rfl) ?_
        refine TF_y rfl rfl (Y_load_row (l := slotC u pq) rfl rfl) ?_
        refine TF_y rfl rfl (Y_eq rfl rfl) ?_
        refine TF_nil ?_
        refine T_if rfl (fun h53 => ?_) (fun h53 => ?_)
        · refine T_region ?_
          refine TL_y rfl rfl (Y_assign rfl) ?_
          refine TL_nil ?_
          refine T_ret ?_
          refine inB_ret ?_
          refine thenS_ret ?_
          refine thenS_ret ?_
          refine inB_ret ?_
          refine inB_ret ?_
          refine thenS_ret ?_
          refine thenS_ret ?_
          refine inB_ret ?_
          refine thenS_ret ?_
          exact RetG_1 (.inl rfl) rfl (ResV.tmp rfl) GivesTo.g (⟨rfl, rfl⟩)
        · refine T_skip ?_
          refine inB_normal ?_
          refine thenS_normal ?_
          refine T_region_last ?_
          refine TL_y rfl rfl (Y_move rfl) ?_
          refine TL_y rfl rfl (Y_add rfl rfl (by omega)) ?_
          refine TL_name 42 (v' := .int .i64 ((k + 1 : Nat) : Int)) rfl (rfl) ?_
          refine TL_y rfl rfl (Y_assign rfl) ?_
          refine TL_nil ?_
          refine thenS_normal ?_
          exact ⟨k + 1, ⟨by omega, by rw [take_at hw]; intro q hq; rcases List.mem_append.1 hq with h | h; exact hk2.2 q h; (simp at h; subst h; exact h53)⟩, by omega, holds_to (sub_cons rfl (sub_cons rfl (sub_cons rfl (sub_cons rfl (sub_cons rfl (sub_cons rfl (sub_nil))))))) GivesTo.g⟩
      · refine T_exit ?_
        refine thenS_exit ?_
        refine thenS_exit ?_
        refine inB_hit ?_
        refine inB_normal ?_
        refine thenS_normal ?_
        refine T_region_last ?_
        refine TL_y rfl rfl (Y_move rfl) ?_
        refine TL_y rfl rfl (Y_add rfl rfl (by omega)) ?_
        refine TL_name 37 (v' := .int .i64 ((i + 1 : Nat) : Int)) rfl (rfl) ?_
        refine TL_y rfl rfl (Y_assign rfl) ?_
        refine TL_nil ?_
        refine thenS_normal ?_
        exact ⟨i + 1, ⟨by omega, by rw [take_at hu]; refine List.pairwise_append.2 ⟨hi.2, by simp, fun p hp q hq => ?_⟩; simp at hq; subst hq; exact hk2.2 p (by rwa [show k = i by omega])⟩, by omega, holds_to (sub_cons rfl (sub_cons rfl (sub_cons rfl (sub_cons rfl (sub_cons rfl (sub_nil)))))) GivesTo.g⟩
    · refine T_exit ?_
      refine thenS_exit ?_
      refine thenS_exit ?_
      refine inB_hit ?_
      refine thenS_normal ?_
      have hd : ys.Pairwise fun p q => p.1 ≠ q.1 := by have := hi.2; rwa [List.take_of_length_le (by omega)] at this
      refine T_region ?_
      refine TL_y rfl rfl (Y_assign rfl) ?_
      refine TL_nil ?_
      refine T_seq ?_
      refine T_region ?_
      refine TL_y rfl rfl (Y_move rfl) ?_
      refine TL_y rfl rfl (Y_len rfl) ?_
      refine TL_y rfl rfl (Y_gt rfl rfl) ?_
      refine TL_nil ?_
      refine T_joinKT (σ := Int) [0, 5, 6] (fun kk => (0 < ys.length → -(ys.length : Int) < kk ∧ kk < ys.length) ∧ (ys.length = 0 → kk = 0)) (fun kk kv => (9, .int .i64 kk) :: kv) (fun kk => lr b18 [] :: lr b17 [] :: sl slotR A c ys :: L) rfl ?_ ?_
      · refine T_if rfl (fun h56 => ?_) (fun h56 => ?_)
        · refine T_region_last ?_
          refine TL_y rfl rfl (Y_move rfl) ?_
          refine TL_y rfl rfl (Y_move rfl) ?_
          refine TL_y rfl rfl (Y_len rfl) ?_
          refine TL_y rfl rfl (Y_rem rfl rfl (by omega)) ?_
          refine TL_y rfl rfl (Y_assign rfl) ?_
          refine TL_nil ?_
          refine thenS_normal ?_
          exact ⟨by_.tmod (ys.length : Int), ⟨fun hp => tm_bound by_ (by omega), fun h0 => by omega⟩, holds_to (sub_cons rfl (sub_cons rfl (sub_cons rfl (sub_cons rfl (sub_nil))))) GivesTo.g⟩
        · refine T_skip ?_
          refine thenS_normal ?_
          exact ⟨0, ⟨fun hp => by omega, fun _ => rfl⟩, holds_to (sub_cons rfl (sub_cons rfl (sub_cons rfl (sub_cons rfl (sub_nil))))) GivesTo.g⟩
      · intro kk hkk
        refine T_seq ?_
        refine T_region ?_
        refine TL_y rfl rfl (Y_move rfl) ?_
        refine TL_y rfl rfl (Y_lt rfl rfl) ?_
        refine TL_nil ?_
        refine T_joinKT (σ := Nat) [0, 5, 6] (fun kn => kn < ys.length ∨ (ys.length = 0 ∧ kn = 0)) (fun kn kv => (9, .int .i64 (kn : Int)) :: kv) (fun kn => lr b18 [] :: lr b17 [] :: sl slotR A c ys :: L) rfl ?_ ?_
        · refine T_if rfl (fun h62 => ?_) (fun h62 => ?_)
          · refine T_region_last ?_
            refine TL_y rfl rfl (Y_move rfl) ?_
            refine TL_y rfl rfl (Y_move rfl) ?_
            refine TL_y rfl rfl (Y_len rfl) ?_
            refine TL_y rfl rfl (Y_add rfl rfl (by omega)) ?_
            refine TL_name 66 (v' := .int .i64 (((kk + (ys.length : Int)).toNat : Nat) : Int)) rfl (by congr 1; omega) ?_
            refine TL_y rfl rfl (Y_assign rfl) ?_
            refine TL_nil ?_
            refine thenS_normal ?_
            exact ⟨(kk + (ys.length : Int)).toNat, by omega, holds_to (sub_cons rfl (sub_cons rfl (sub_cons rfl (sub_cons rfl (sub_nil))))) GivesTo.g⟩
          · refine T_name 9 rfl (show Value.int .i64 kk = .int .i64 ((kk.toNat : Nat) : Int) by congr 1; omega) ?_
            refine T_skip ?_
            refine thenS_normal ?_
            exact ⟨kk.toNat, by omega, holds_to (sub_cons rfl (sub_cons rfl (sub_cons rfl (sub_cons rfl (sub_nil))))) GivesTo.g⟩
        · intro kn hkn
          refine T_seq ?_
          refine T_region ?_
          refine TL_y rfl rfl (Y_assign rfl) ?_
          refine TL_nil ?_
          refine T_block ?_
          refine T_loopK (σ := Nat) [0, 5, 6, 9] (fun i => i ≤ ys.length) (fun i kv => (10, .int .i64 (i : Int)) :: kv) (fun i => lr b18 (runC [] (turned ys kn i)) :: lr b17 (runC [] (ys.take i)) :: sl slotR A c ys :: L) (fun i => ys.length - i) (0) rfl (Nat.zero_le _) (show Gives _ (lr b18 [] :: lr b17 [] :: sl slotR A c ys :: L) from GivesTo.g) (sub_cons rfl (sub_cons rfl (sub_cons rfl (sub_cons rfl (sub_cons rfl (sub_nil)))))) ?_
          intro i hi
          refine T_seq ?_
          refine T_region ?_
          refine TL_y rfl rfl (Y_move rfl) ?_
          refine TL_y rfl rfl (Y_move rfl) ?_
          refine TL_y rfl rfl (Y_len rfl) ?_
          refine TL_y rfl rfl (Y_lt rfl rfl) ?_
          refine TL_nil ?_
          refine T_if rfl (fun h70 => ?_) (fun h70 => ?_)
          · refine T_skip ?_
            refine thenS_normal ?_
            refine T_seq ?_
            refine T_block ?_
            obtain ⟨u, hu⟩ : ∃ u, ys[i]? = some u := ⟨_, List.getElem?_eq_getElem (by omega)⟩
            have hlu := hl.2 u (List.mem_of_getElem? hu)
            refine T_at (slk (A := A) (c := c)) hu fun bq oq lq haq => ?_
            refine T_ex fun pq okq => ?_
            simp only [List.cons_append, List.nil_append]
            have hpos : 0 < ys.length := by omega
            have hmd := Nat.mod_lt (i + kn) hpos
            refine T_region_draw _ [0, 0, 0, 6, 14, 30, 0, 0, 192, 448, 960, 2047] [11] [(0, true), (1, true), (2, true), (3, true), (4, true), (5, true), (6, true), (7, true), (8, true), (9, true), (10, true), (11, false)] (by kernel_rfl) (by decide +kernel) (Gives.refl _) ?_
            refine TF_y rfl rfl (Y_move rfl) ?_
            refine TF_y rfl rfl (Y_move rfl) ?_
            refine TF_y rfl rfl (Y_move rfl) ?_
            refine TF_y rfl rfl (Y_index_at rfl rfl (by omega) haq) ?_
            refine TF_y rfl rfl (Y_field_addr2 rfl) ?_
            refine TF_y rfl rfl (Y_load_row rfl rfl) ?_
            refine TF_y rfl rfl (Y_move rfl) ?_
            refine TF_y rfl rfl (Y_move rfl) ?_
            refine TF_y rfl rfl (Y_index_at rfl rfl (by omega) haq) ?_
            refine TF_y rfl rfl (Y_field_addr2 rfl) ?_
            refine TF_y rfl rfl (Y_load_row_agg (vs := entryC u.2 pq) rfl rfl) ?_
            refine TF_anchor rfl ?_
            refine TL_pullk b17 ?_
            refine TL_call rfl rfl (lrChoose_spec u.1 u.2 okq.1 okq.2 hlu sln) ?_
            rintro _ _ ⟨rfl, rfl⟩
            rw [← runC_snoc, ← take_at hu]
            refine TF_end_tail rfl ?_
            refine TF_nil ?_
            refine T_region ?_
            refine TL_y rfl rfl (Y_move rfl) ?_
            refine TL_y rfl rfl (Y_move rfl) ?_
            refine TL_y rfl rfl (Y_len rfl) ?_
            refine TL_y rfl rfl (Y_sub rfl rfl (by omega)) ?_
            refine TL_y rfl rfl (Y_move rfl) ?_
            refine TL_y rfl rfl (Y_move rfl) ?_
            refine TL_y rfl rfl (Y_add rfl rfl (by omega)) ?_
            refine TL_name 91 (v' := .int .i64 ((i + kn : Nat) : Int)) rfl (rfl) ?_
            refine TL_y rfl rfl (Y_move rfl) ?_
            refine TL_y rfl rfl (Y_len rfl) ?_
            refine TL_y rfl rfl (Y_rem rfl rfl (by omega)) ?_
            refine TL_name 94 (v' := .int .i64 (((i + kn) % ys.length : Nat) : Int)) rfl (rfl) ?_
            refine TL_y rfl rfl (Y_sub rfl rfl (by omega)) ?_
            refine TL_name 95 (v' := .int .i64 ((idxT ys.length kn i : Nat) : Int)) rfl (by congr 1; unfold idxT; omega) ?_
            obtain ⟨w, hw⟩ : ∃ w, ys[idxT ys.length kn i]? = some w := ⟨_, List.getElem?_eq_getElem (by unfold idxT; omega)⟩
            have hlw := hl.2 w (List.mem_of_getElem? hw)
            refine TL_index rfl rfl rfl slk hw ?_
            intro bi96 oi96 li96
            refine TL_ex fun pw okw => ?_
            simp only [List.cons_append, List.nil_append]
            refine TL_y rfl rfl (Y_load_row_agg rfl rfl) ?_
            refine TL_alloc rfl rfl ?_
            intro b11
            refine TL_store rfl rfl rfl rfl rfl rfl ?_
            refine TL_nil ?_
            refine T_region_last ?_
            refine TL_y rfl rfl (Y_move rfl) ?_
            refine TL_y rfl rfl (Y_field_addr rfl) ?_
            refine TL_y rfl rfl (Y_load rfl rfl) ?_
            refine TL_y rfl rfl (Y_field_addr rfl) ?_
            refine TL_y rfl rfl (Y_load_agg rfl rfl) ?_
            refine TL_pullk b18 ?_
            refine TL_call rfl rfl (lrChoose_spec w.1 w.2 okw.1 okw.2 hlw sln) ?_
            rintro _ _ ⟨rfl, rfl⟩
            rw [← runC_snoc, ← turned_succ hw]
            refine TL_nil ?_
            refine inB_normal ?_
            refine thenS_normal ?_
            refine T_region_last ?_
            refine TL_y rfl rfl (Y_move rfl) ?_
            refine TL_y rfl rfl (Y_add rfl rfl (by omega)) ?_
            refine TL_name 72 (v' := .int .i64 ((i + 1 : Nat) : Int)) rfl (rfl) ?_
            refine TL_y rfl rfl (Y_assign rfl) ?_
            refine TL_nil ?_
            refine thenS_normal ?_
            exact ⟨i + 1, (by omega), by omega, holds_to (sub_cons rfl (sub_cons rfl (sub_cons rfl (sub_cons rfl (sub_cons rfl (sub_nil)))))) GivesTo.g⟩
          · refine T_exit ?_
            refine thenS_exit ?_
            refine thenS_exit ?_
            refine inB_hit ?_
            refine thenS_normal ?_
            refine T_seq ?_
            have hie : i = ys.length := by omega
            subst hie
            rw [List.take_length, order_same hd (by omega) hso (by omega)]
            generalize hS : runC [] ys = S
            refine T_region ?_
            refine TL_y rfl rfl (Y_assign rfl) ?_
            refine TL_nil ?_
            refine T_block ?_
            refine T_loopK (σ := Nat) [0, 5, 6] (fun i => i ≤ ys.length) (fun i kv => (12, .int .i64 (i : Int)) :: kv) (fun i => lr b18 S :: lr b17 S :: sl slotR A c ys :: L) (fun i => ys.length - i) (0) rfl (Nat.zero_le _) (GivesTo.g) (sub_cons rfl (sub_cons rfl (sub_cons rfl (sub_cons rfl (sub_nil))))) ?_
            intro i hi
            refine T_seq ?_
            refine T_region ?_
            refine TL_y rfl rfl (Y_move rfl) ?_
            refine TL_y rfl rfl (Y_move rfl) ?_
            refine TL_y rfl rfl (Y_len rfl) ?_
            refine TL_y rfl rfl (Y_lt rfl rfl) ?_
            refine TL_nil ?_
            refine T_if rfl (fun h107 => ?_) (fun h107 => ?_)
            · refine T_skip ?_
              refine thenS_normal ?_
              refine T_seq ?_
              refine T_block ?_
              obtain ⟨u, hu⟩ : ∃ u, ys[i]? = some u := ⟨_, List.getElem?_eq_getElem (by omega)⟩
              refine T_at (slk (A := A) (c := c)) hu fun bq oq lq haq => ?_
              refine T_ex fun pq okq => ?_
              simp only [List.cons_append, List.nil_append]
              refine T_region ?_
              refine TL_y rfl rfl (Y_move rfl) ?_
              refine TL_y rfl rfl (Y_move rfl) ?_
              refine TL_y rfl rfl (Y_move rfl) ?_
              refine TL_y rfl rfl (Y_index_at rfl rfl (by omega) haq) ?_
              refine TL_y rfl rfl (Y_field_addr2 rfl) ?_
              refine TL_y rfl rfl (Y_load_row rfl rfl) ?_
              refine TL_pullk b17 ?_
              refine TL_call rfl rfl (lrGet_spec u.1 okq.1) ?_
              rintro _ _ ⟨q, rfl, hoq, rfl⟩
              refine TL_freeze_osl ?_
              refine TL_y rfl rfl (Y_move rfl) ?_
              refine TL_y rfl rfl (Y_extract rfl rfl) ?_
              refine TL_y rfl rfl (Y_extract rfl rfl) ?_
              refine TL_alloc rfl rfl ?_
              intro b13
              refine TL_store rfl rfl rfl rfl rfl rfl ?_
              refine TL_y rfl rfl (Y_assign rfl) ?_
              refine TL_nil ?_
              refine T_region ?_
              refine TL_y rfl rfl (Y_move rfl) ?_
              refine TL_y rfl rfl (Y_move rfl) ?_
              refine TL_y rfl rfl (Y_move rfl) ?_
              refine TL_y rfl rfl (Y_index_at rfl rfl (by omega) haq) ?_
              refine TL_y rfl rfl (Y_field_addr2 rfl) ?_
              refine TL_y rfl rfl (Y_load_row rfl rfl) ?_
              refine TL_pullk b18 ?_
              refine TL_call rfl rfl (lrGet_spec u.1 okq.1) ?_
              rintro _ _ ⟨q2, rfl, hoq2, rfl⟩
              refine TL_freeze_osl ?_
              refine TL_y rfl rfl (Y_move rfl) ?_
              refine TL_y rfl rfl (Y_extract rfl rfl) ?_
              refine TL_y rfl rfl (Y_extract rfl rfl) ?_
              refine TL_alloc rfl rfl ?_
              intro b15
              refine TL_store rfl rfl rfl rfl rfl rfl ?_
              refine TL_y rfl rfl (Y_assign rfl) ?_
              refine TL_nil ?_
              refine T_region ?_
              refine TL_y rfl rfl (Y_move rfl) ?_
              refine TL_y rfl rfl (Y_move rfl) ?_
              refine TL_y rfl rfl (Y_unequal rfl rfl (EqIs.bool)) ?_
              refine TL_name 132 (v' := .bool false) rfl (congrArg Value.bool (by simp)) ?_
              refine TL_y rfl rfl (Y_move rfl) ?_
              refine TL_grun rfl rfl ?_
              refine TL_y rfl rfl (Y_load_agg rfl rfl) ?_
              refine TL_grun rfl rfl ?_
              refine TL_y rfl rfl (Y_load_agg rfl rfl) ?_
              refine TL_grun rfl rfl ?_
              refine TL_call rfl rfl (sameEntry_spec (getS S u.1) (getS S u.1) sln sln) ?_
              rintro _ _ ⟨rfl, rfl⟩
              refine TL_grun rfl rfl ?_
              refine TL_y rfl rfl (Y_not rfl) ?_
              refine TL_name 137 (v' := .bool false) rfl (congrArg Value.bool (by simp)) ?_
              refine TL_y rfl rfl (Y_pick_f rfl rfl) ?_
              refine TL_nil ?_
              refine T_cond_false rfl ?_
              refine T_skip ?_
              refine inB_normal ?_
              refine thenS_normal ?_
              refine T_region_last ?_
              refine TL_y rfl rfl (Y_move rfl) ?_
              refine TL_y rfl rfl (Y_add rfl rfl (by omega)) ?_
              refine TL_name 109 (v' := .int .i64 ((i + 1 : Nat) : Int)) rfl (rfl) ?_
              refine TL_y rfl rfl (Y_assign rfl) ?_
              refine TL_nil ?_
              refine thenS_normal ?_
              exact ⟨i + 1, (by omega), by omega, holds_to (sub_cons rfl (sub_cons rfl (sub_cons rfl (sub_cons rfl (sub_nil))))) GivesTo.g⟩
            · refine T_exit ?_
              refine thenS_exit ?_
              refine thenS_exit ?_
              refine inB_hit ?_
              refine thenS_normal ?_
              refine T_region ?_
              refine TL_y rfl rfl (Y_move rfl) ?_
              refine TL_pullk b17 ?_
              refine TL_call rfl rfl (lrPrefix_spec) ?_
              rintro _ _ ⟨rfl, rfl⟩
              refine TL_y rfl rfl (Y_move rfl) ?_
              refine TL_pullk b18 ?_
              refine TL_call rfl rfl (lrPrefix_spec) ?_
              rintro _ _ ⟨rfl, rfl⟩
              refine TL_y rfl rfl (Y_eq rfl rfl) ?_
              refine TL_name 143 (v' := .bool true) rfl (congrArg Value.bool (by simp)) ?_
              refine TL_y rfl rfl (Y_move rfl) ?_
              refine TL_grun rfl rfl ?_
              refine TL_y rfl rfl (Y_move rfl) ?_
              refine TL_grun rfl rfl ?_
              refine TL_pullk b17 ?_
              refine TL_call rfl rfl (lrExtras_spec) ?_
              rintro _ _ ⟨A146, c146, rfl, rfl⟩
              refine TL_grun rfl rfl ?_
              refine TL_y rfl rfl (Y_move rfl) ?_
              refine TL_grun rfl rfl ?_
              refine TL_pullk b18 ?_
              refine TL_call rfl rfl (lrExtras_spec) ?_
              rintro _ _ ⟨A148, c148, rfl, rfl⟩
              refine TL_grun rfl rfl ?_
              refine TL_call rfl rfl (sameInts_spec sln sln) ?_
              rintro _ _ ⟨rfl, rfl⟩
              refine TL_name 149 (v' := .bool true) rfl (congrArg Value.bool (by simp)) ?_
              refine TL_y rfl rfl (Y_pick_t rfl rfl) ?_
              refine TL_y rfl rfl (Y_move rfl) ?_
              refine TL_grun rfl rfl ?_
              refine TL_y rfl rfl (Y_move rfl) ?_
              refine TL_grun rfl rfl ?_
              refine TL_pullk b17 ?_
              refine TL_call rfl rfl (lrMissing_spec 50) ?_
              rintro _ _ ⟨A153, c153, rfl, rfl⟩
              refine TL_grun rfl rfl ?_
              refine TL_y rfl rfl (Y_move rfl) ?_
              refine TL_grun rfl rfl ?_
              refine TL_pullk b18 ?_
              refine TL_call rfl rfl (lrMissing_spec 50) ?_
              rintro _ _ ⟨A155, c155, rfl, rfl⟩
              refine TL_grun rfl rfl ?_
              refine TL_call rfl rfl (sameInts_spec sln sln) ?_
              rintro _ _ ⟨rfl, rfl⟩
              refine TL_name 156 (v' := .bool true) rfl (congrArg Value.bool (by simp)) ?_
              refine TL_y rfl rfl (Y_pick_t rfl rfl) ?_
              refine TL_y rfl rfl (Y_move rfl) ?_
              refine TL_grun rfl rfl ?_
              refine TL_y rfl rfl (Y_move rfl) ?_
              refine TL_grun rfl rfl ?_
              refine TL_pullk b17 ?_
              refine TL_call rfl rfl (lrLen_spec) ?_
              rintro _ _ ⟨rfl, rfl⟩
              refine TL_grun rfl rfl ?_
              refine TL_y rfl rfl (Y_move rfl) ?_
              refine TL_grun rfl rfl ?_
              refine TL_pullk b18 ?_
              refine TL_call rfl rfl (lrLen_spec) ?_
              rintro _ _ ⟨rfl, rfl⟩
              refine TL_grun rfl rfl ?_
              refine TL_y rfl rfl (Y_eq rfl rfl) ?_
              refine TL_name 163 (v' := .bool true) rfl (congrArg Value.bool (by simp)) ?_
              refine TL_y rfl rfl (Y_pick_t rfl rfl) ?_
              refine TL_y rfl rfl (Y_assign rfl) ?_
              refine TL_nil ?_
              refine T_ret ?_
              exact RetG_1 (.inl rfl) rfl (ResV.tmp rfl) GivesTo.g (⟨rfl, rfl⟩)
end Go.SL
