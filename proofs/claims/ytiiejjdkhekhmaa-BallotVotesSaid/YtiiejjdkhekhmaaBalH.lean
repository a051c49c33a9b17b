/- The walk of the law on votes that come. -/
import Derived.Test.YtiiejjdkhekhmaaBalG
import Derived.Test.YtiiejjdkhekhmaaSlK
set_option linter.unusedVariables false
set_option linter.unusedSimpArgs false
namespace Go.SL
open Go Go.Proofs
theorem allTo_add {bs : List Bool} {n u : Int} (hb : bs.length = 7) (hn : n ≤ 7) (hu : isV n u) (hh : ¬ hasV bs n u) : ∀ k : Nat, (allTo (addV bs n u) n k).length = (allTo bs n k).length + (if u.toNat < k then 1 else 0)
  | 0 => by simp [allTo]
  | k + 1 => by
    have ih := allTo_add hb hn hu hh k
    have hu1 := hu.1; have hu2 := hu.2
    rw [allTo_succ, allTo_succ, List.length_append, List.length_append, ih]
    have e : addV bs n u = bs.set u.toNat true := by rw [addV, if_pos hu]
    by_cases hk : u.toNat = k
    · have h1 : hasV (addV bs n u) n (k : Int) := ⟨⟨by omega, by omega⟩, by rw [e, Int.toNat_natCast, ← hk, List.getElem?_set_self (by omega)]⟩
      have h2 : ¬ hasV bs n (k : Int) := by rw [← hk, show ((u.toNat : Nat) : Int) = u by omega]; exact hh
      rw [if_pos h1, if_neg h2, if_neg (by omega), if_pos (by omega)]; simp
    · have h3 : hasV (addV bs n u) n (k : Int) ↔ hasV bs n (k : Int) := by
        unfold hasV; rw [e, Int.toNat_natCast, List.getElem?_set_ne hk]
      by_cases h4 : hasV bs n (k : Int)
      · rw [if_pos (h3.2 h4), if_pos h4]; by_cases h5 : u.toNat < k <;> simp [h5] <;> omega
      · rw [if_neg (fun h => h4 (h3.1 h)), if_neg h4]; by_cases h5 : u.toNat < k <;> simp [h5] <;> omega
theorem addV_same {bs : List Bool} {n u : Int} (h : ¬ (isV n u ∧ ¬ hasV bs n u)) : addV bs n u = bs := by
  unfold addV
  split
  · rename_i hu
    exact set_self (Classical.byContradiction fun hh => h ⟨hu, fun k => hh k.2⟩)
  · rfl
theorem allV_add {bs : List Bool} {n u : Int} (hb : bs.length = 7) (hn : n ≤ 7) : (allV (addV bs n u) n).length = (allV bs n).length + (if isV n u ∧ ¬ hasV bs n u then 1 else 0) := by
  split
  · rename_i h
    have h1 := h.1.1; have h2 := h.1.2
    rw [allV, allTo_add hb hn h.1 h.2, if_pos (by omega)]; rfl
  · rename_i h
    rw [addV_same h]; rfl
theorem allTo_pre (bs : List Bool) (n : Int) (k : Nat) : ∀ j, ∃ t, allTo bs n (k + j) = allTo bs n k ++ t
  | 0 => ⟨[], by simp⟩
  | j + 1 => by
    obtain ⟨t, ht⟩ := allTo_pre bs n k j
    exact ⟨t ++ (if hasV bs n ((k + j : Nat) : Int) then [((k + j : Nat) : Int)] else []), by rw [← Nat.add_assoc, allTo_succ, ht, List.append_assoc]⟩
theorem allTo_full (bs : List Bool) (n : Nat) : ∀ j, allTo bs n (n + j) = allTo bs n n
  | 0 => rfl
  | j + 1 => by
    rw [← Nat.add_assoc, allTo_succ, allTo_full bs n j, if_neg (fun h => by have := h.1.2; omega)]; simp
theorem allV_full (bs : List Bool) (n : Nat) (h : n ≤ 7) : allV bs n = allTo bs n n := by
  have := allTo_full bs n (7 - n)
  rwa [show n + (7 - n) = 7 by omega] at this
theorem allV_at {bs : List Bool} {n i : Nat} (hn : n ≤ 7) (hi : i < n) (h : hasV bs n (i : Int)) : (allV bs n)[(allTo bs n i).length]? = some (i : Int) := by
  obtain ⟨t, ht⟩ := allTo_pre bs n (i + 1) (7 - (i + 1))
  rw [show i + 1 + (7 - (i + 1)) = 7 by omega, show allTo bs n (i + 1) = _ from allTo_succ bs n i, if_pos h] at ht
  rw [allV, ht]; simp
theorem take_has {bs : List Bool} {n j : Nat} {u : Bool} (h : (bs.take n)[j]? = some u) : bs[j]? = some u := by
  rw [List.getElem?_take] at h
  split at h
  · exact h
  · cases h
theorem take_addV {bs : List Bool} {n : Nat} {u : Int} (h : isV n u) : (bs.take n).set u.toNat true = (addV bs n u).take n := by
  rw [addV, if_pos h, List.take_set]

theorem votes_bad {L : List HP} {A : Option Addr} {c : Nat} {l : List Int} (n ask : Int) (h : ¬ (1 ≤ n ∧ n ≤ 7)) : Fn Try.prog 8 #[.int .i64 n, .slice A l.length c, .int .i64 ask] L (fun v L' => v = .bool true ∧ L' = L) := by
  refine Fn_enter Try.func8 rfl rfl rfl rfl ?_
  refine T_region ?_
  refine TL_y rfl rfl (Y_assign rfl) ?_
  refine TL_nil ?_
  refine T_region ?_
  refine TL_y rfl rfl (Y_move rfl) ?_
  refine TL_call rfl rfl (newVotes_bad h _) ?_
  rintro _ _ ⟨rfl, rfl⟩
  refine TL_y rfl rfl (Y_move rfl) ?_
  refine TL_y rfl rfl (Y_extract rfl rfl) ?_
  refine TL_y rfl rfl (Y_extract rfl rfl) ?_
  refine TL_y rfl rfl (Y_assign rfl) ?_
  refine TL_y rfl rfl (Y_assign rfl) ?_
  refine TL_nil ?_
  refine T_seq ?_
  refine T_region ?_
  refine TL_call rfl rfl (lives15_spec _) ?_
  rintro _ _ ⟨rfl, rfl⟩
  refine TL_name 23 (v' := .bool true) rfl (rfl) ?_
  refine TL_y rfl rfl (Y_not_t rfl) ?_
  refine TL_nil ?_
  refine T_cond_false rfl ?_
  refine T_skip ?_
  refine thenS_normal ?_
  refine T_seq ?_
  refine T_region ?_
  refine TL_y rfl rfl (Y_move rfl) ?_
  refine TL_y rfl rfl (Y_lt rfl rfl) ?_
  refine TL_y rfl rfl (Y_move rfl) ?_
  refine TL_splitd 27 rfl (fun h27 => ?_) (fun h27 => ?_)
  · refine TL_gskip rfl rfl rfl rfl ?_
    refine TL_gskip rfl rfl rfl rfl ?_
    refine TL_y rfl rfl (Y_pick_t rfl rfl) ?_
    refine TL_nil ?_
    refine T_cond_true rfl ?_
    refine T_region ?_
    refine TL_y rfl rfl (Y_move rfl) ?_
    refine TL_y rfl rfl (Y_equal rfl rfl (EqIs.ptr_nil)) ?_
    refine TL_name 32 (v' := .bool true) rfl (congrArg Value.bool (by simp)) ?_
    refine TL_y rfl rfl (Y_move rfl) ?_
    refine TL_grun rfl rfl ?_
    refine TL_y rfl rfl (Y_move rfl) ?_
    refine TL_grun rfl rfl ?_
    refine TL_y rfl rfl (Y_eq rfl rfl) ?_
    refine TL_name 35 (v' := .bool true) rfl (congrArg Value.bool (by decide)) ?_
    refine TL_y rfl rfl (Y_pick_t rfl rfl) ?_
    refine TL_y rfl rfl (Y_assign rfl) ?_
    refine TL_nil ?_
    refine T_ret ?_
    refine thenS_ret ?_
    exact RetG_1 (.inl rfl) rfl (ResV.tmp rfl) GivesTo.g (⟨rfl, rfl⟩)
  · refine TL_grun rfl rfl ?_
    refine TL_y rfl rfl (Y_move rfl) ?_
    refine TL_grun rfl rfl ?_
    refine TL_y rfl rfl (Y_gt rfl rfl) ?_
    refine TL_y rfl rfl (Y_pick_f rfl rfl) ?_
    refine TL_nil ?_
    refine T_if_pos rfl (by omega) ?_
    refine T_region ?_
    refine TL_y rfl rfl (Y_move rfl) ?_
    refine TL_y rfl rfl (Y_equal rfl rfl (EqIs.ptr_nil)) ?_
    refine TL_name 32 (v' := .bool true) rfl (congrArg Value.bool (by simp)) ?_
    refine TL_y rfl rfl (Y_move rfl) ?_
    refine TL_grun rfl rfl ?_
    refine TL_y rfl rfl (Y_move rfl) ?_
    refine TL_grun rfl rfl ?_
    refine TL_y rfl rfl (Y_eq rfl rfl) ?_
    refine TL_name 35 (v' := .bool true) rfl (congrArg Value.bool (by decide)) ?_
    refine TL_y rfl rfl (Y_pick_t rfl rfl) ?_
    refine TL_y rfl rfl (Y_assign rfl) ?_
    refine TL_nil ?_
    refine T_ret ?_
    refine thenS_ret ?_
    exact RetG_1 (.inl rfl) rfl (ResV.tmp rfl) GivesTo.g (⟨rfl, rfl⟩)
theorem votes_ok {L : List HP} {A : Option Addr} {c : Nat} {l : List Int} (n : Nat) (ask : Int) (h : 1 ≤ n ∧ n ≤ 7) (hk : SlK L (intR .i64) A c l) (hl : l.length ≤ 17592186044416) : Fn Try.prog 8 #[.int .i64 (n : Int), .slice A l.length c, .int .i64 ask] L (fun v L' => v = .bool true ∧ L' = L) := by
  have h7 : (n : Int) ≤ 7 := by omega
  have hn17 : (1 : Int) ≤ (n : Int) ∧ (n : Int) ≤ 7 := by omega
  refine Fn_enter Try.func8 rfl rfl rfl rfl ?_
  refine T_gives hk.lay ?_
  refine T_region ?_
  refine TL_y rfl rfl (Y_assign rfl) ?_
  refine TL_nil ?_
  refine T_region ?_
  refine TL_y rfl rfl (Y_move rfl) ?_
  refine TL_call rfl rfl (newVotes_ok hn17 _) ?_
  rintro _ _ ⟨b1, rfl, rfl⟩
  refine TL_y rfl rfl (Y_move rfl) ?_
  refine TL_y rfl rfl (Y_extract rfl rfl) ?_
  refine TL_y rfl rfl (Y_extract rfl rfl) ?_
  refine TL_y rfl rfl (Y_assign rfl) ?_
  refine TL_y rfl rfl (Y_assign rfl) ?_
  refine TL_nil ?_
  refine T_seq ?_
  refine T_region ?_
  refine TL_call rfl rfl (lives15_spec _) ?_
  rintro _ _ ⟨rfl, rfl⟩
  refine TL_name 23 (v' := .bool true) rfl (rfl) ?_
  refine TL_y rfl rfl (Y_not_t rfl) ?_
  refine TL_nil ?_
  refine T_cond_false rfl ?_
  refine T_skip ?_
  refine thenS_normal ?_
  refine T_seq ?_
  refine T_region ?_
  refine TL_y rfl rfl (Y_move rfl) ?_
  refine TL_y rfl rfl (Y_lt rfl rfl) ?_
  refine TL_name 26 (v' := .bool false) rfl (congrArg Value.bool (decide_eq_false (by omega))) ?_
  refine TL_y rfl rfl (Y_move rfl) ?_
  refine TL_grun rfl rfl ?_
  refine TL_y rfl rfl (Y_move rfl) ?_
  refine TL_grun rfl rfl ?_
  refine TL_y rfl rfl (Y_gt rfl rfl) ?_
  refine TL_name 29 (v' := .bool false) rfl (congrArg Value.bool (decide_eq_false (by omega))) ?_
  refine TL_y rfl rfl (Y_pick_f rfl rfl) ?_
  refine TL_nil ?_
  refine T_cond_false rfl ?_
  refine T_skip ?_
  refine thenS_normal ?_
  refine T_seq ?_
  refine T_region ?_
  refine TL_y rfl rfl (Y_move rfl) ?_
  refine TL_y rfl rfl (Y_ne rfl rfl) ?_
  refine TL_name 38 (v' := .bool false) rfl (congrArg Value.bool (by decide)) ?_
  refine TL_y rfl rfl (Y_move rfl) ?_
  refine TL_grun rfl rfl ?_
  refine TL_y rfl rfl (Y_move rfl) ?_
  refine TL_grun rfl rfl ?_
  refine TL_y rfl rfl (Y_equal rfl rfl (EqIs.ptr_nil)) ?_
  refine TL_name 41 (v' := .bool false) rfl (congrArg Value.bool (by simp)) ?_
  refine TL_y rfl rfl (Y_pick_f rfl rfl) ?_
  refine TL_nil ?_
  refine T_cond_false rfl ?_
  refine T_skip ?_
  refine thenS_normal ?_
  refine T_region ?_
  refine TL_y rfl rfl (Y_move rfl) ?_
  refine TL_make boolR false (m := n) (k := n) rfl rfl rfl (Nat.le_refl _) (by omega) (by omega) rfl rfl rfl (fun _ => rfl) ?_
  intro bh
  refine TL_name 44 (v' := .slice (some ⟨bh, 0, none⟩) n n) rfl (by simp) ?_
  rw [show List.replicate n false = (List.replicate 7 false).take n by rw [List.take_replicate, Nat.min_eq_left (by omega)]]
  refine TL_y rfl rfl (Y_assign rfl) ?_
  refine TL_nil ?_
  refine T_region ?_
  refine TL_y rfl rfl (Y_assign rfl) ?_
  refine TL_nil ?_
  refine T_seq ?_
  refine T_region ?_
  refine TL_y rfl rfl (Y_assign rfl) ?_
  refine TL_nil ?_
  refine T_block ?_
  refine T_loopK (σ := Nat × Nat) [0, 1, 2, 9] (fun p => p.1 ≤ l.length) (fun p kv => (11, .int .i64 (p.1 : Int)) :: (7, .pointer (some ⟨p.2, 0, none⟩)) :: (10, .int .i64 (((allV (addL (List.replicate 7 false) n (l.take p.1)) n).length : Nat) : Int)) :: kv) (fun p => votes p.2 (addL (List.replicate 7 false) n (l.take p.1)) n :: osl boolR 4 (some ⟨bh, 0, none⟩) n ((addL (List.replicate 7 false) n (l.take p.1)).take n) :: sl (intR .i64) A c l :: L) (fun p => l.length - p.1) ((0, b1)) rfl (Nat.zero_le _) (GivesTo.g (L' := votes b1 (List.replicate 7 false) n :: osl boolR 4 (some ⟨bh, 0, none⟩) n ((List.replicate 7 false).take n) :: sl (intR .i64) A c l :: L)) (sub_cons rfl (sub_cons rfl (sub_cons (by show some (Value.int .i64 0) = some (Value.int .i64 (((allV (List.replicate 7 false) n).length : Nat) : Int)); rw [allV_none]; rfl) (sub_cons rfl (sub_cons rfl (sub_cons rfl (sub_cons rfl (sub_nil)))))))) ?_
  rintro ⟨i, bv⟩ hi
  dsimp only at hi ⊢
  refine T_seq ?_
  refine T_region ?_
  refine TL_y rfl rfl (Y_move rfl) ?_
  refine TL_y rfl rfl (Y_move rfl) ?_
  refine TL_y rfl rfl (Y_len rfl) ?_
  refine TL_y rfl rfl (Y_lt rfl rfl) ?_
  refine TL_nil ?_
  refine T_if rfl (fun h48 => ?_) (fun h48 => ?_)
  · refine T_skip ?_
    refine thenS_normal ?_
    refine T_seq ?_
    refine T_block ?_
    obtain ⟨u, hu⟩ : ∃ u, l[i]? = some u := ⟨_, List.getElem?_eq_getElem (by omega)⟩
    have hnx := addL_next (bs := List.replicate 7 false) (n := n) hu
    have hlen : (addL (List.replicate 7 false) n (l.take i)).length = 7 := addL_len rfl
    generalize hbs : addL (List.replicate 7 false) n (l.take i) = bs at *
    have hcnt := allV_add (n := n) (u := u) hlen h7
    have htk := fun h => take_addV (bs := bs) (n := n) (u := u) h
    refine T_region ?_
    refine TL_both 23 73 (isV n u ∧ ¬ hasV bs n u) ?_ ?_
    · refine TL_y rfl rfl (Y_move rfl) ?_
      refine TL_y rfl rfl (Y_move rfl) ?_
      refine TL_index_int rfl rfl rfl slk hu ?_
      intro hi53 bi53 oi53
      refine TL_y rfl rfl (Y_load_row rfl rfl) ?_
      refine TL_y rfl rfl (Y_ge rfl rfl) ?_
      refine TL_y rfl rfl (Y_move rfl) ?_
      refine TL_splitd 56 rfl (fun h56 => ?_) (fun h56 => ?_)
      · refine TL_grun rfl rfl ?_
        refine TL_y rfl rfl (Y_move rfl) ?_
        refine TL_grun rfl rfl ?_
        refine TL_y rfl rfl (Y_move rfl) ?_
        refine TL_grun rfl rfl ?_
        refine TL_index_int rfl rfl rfl slk hu ?_
        intro hi59 bi59 oi59
        refine TL_grun rfl rfl ?_
        refine TL_y rfl rfl (Y_load_row rfl rfl) ?_
        refine TL_grun rfl rfl ?_
        refine TL_y rfl rfl (Y_move rfl) ?_
        refine TL_grun rfl rfl ?_
        refine TL_y rfl rfl (Y_lt rfl rfl) ?_
        refine TL_y rfl rfl (Y_pick_t rfl rfl) ?_
        refine TL_y rfl rfl (Y_move rfl) ?_
        refine TL_splitd 64 rfl (fun h64 => ?_) (fun h64 => ?_)
        · refine TL_grun rfl rfl ?_
          refine TL_y rfl rfl (Y_move rfl) ?_
          refine TL_grun rfl rfl ?_
          refine TL_y rfl rfl (Y_move rfl) ?_
          refine TL_grun rfl rfl ?_
          refine TL_y rfl rfl (Y_move rfl) ?_
          refine TL_grun rfl rfl ?_
          obtain ⟨j, rfl⟩ : ∃ j : Nat, u = (j : Int) := ⟨u.toNat, by omega⟩
          obtain ⟨q, hq⟩ : ∃ q, (bs.take n)[j]? = some q := ⟨_, List.getElem?_eq_getElem (by simp; omega)⟩
          refine TL_index_int rfl rfl rfl slk hu ?_
          intro hi68 bi68 oi68
          refine TL_grun rfl rfl ?_
          refine TL_y rfl rfl (Y_load_row rfl rfl) ?_
          refine TL_grun rfl rfl ?_
          refine TL_index_get rfl rfl rfl (by simp; omega) (hq) ?_
          intro bi70 hA70 ha70
          refine TL_grun rfl rfl ?_
          refine TL_y rfl rfl (Y_load_at rfl ha70 rfl) ?_
          refine TL_grun rfl rfl ?_
          refine TL_y rfl rfl (Y_not rfl) ?_
          refine TL_y rfl rfl (Y_pick_t rfl rfl) ?_
          refine TL_chain_end rfl ?_ (by repeat (first | exact sub_refl | refine sub_ext rfl ?_)) GivesTo.g
          exact congrArg Value.bool (by cases q <;> simp [isV, hasV, h56, h64, take_has hq])
        · refine TL_gskip rfl rfl rfl rfl ?_
          refine TL_gskip rfl rfl rfl rfl ?_
          refine TL_gskip rfl rfl rfl rfl ?_
          refine TL_gskip rfl rfl rfl rfl ?_
          refine TL_gskip rfl rfl rfl rfl ?_
          refine TL_gskip rfl rfl rfl rfl ?_
          refine TL_gskip rfl rfl rfl rfl ?_
          refine TL_gskip rfl rfl rfl rfl ?_
          refine TL_y rfl rfl (Y_pick_f rfl rfl) ?_
          refine TL_chain_end rfl ?_ (by repeat (first | exact sub_refl | refine sub_ext rfl ?_)) GivesTo.g
          exact congrArg Value.bool (decide_eq_false (fun h => by have h1 := h.1.1; have h2 := h.1.2; omega)).symm
      · refine TL_gskip rfl rfl rfl rfl ?_
        refine TL_gskip rfl rfl rfl rfl ?_
        refine TL_gskip rfl rfl rfl rfl ?_
        refine TL_gskip rfl rfl rfl rfl ?_
        refine TL_gskip rfl rfl rfl rfl ?_
        refine TL_gskip rfl rfl rfl rfl ?_
        refine TL_y rfl rfl (Y_pick_f rfl rfl) ?_
        refine TL_y rfl rfl (Y_move rfl) ?_
        refine TL_gskip rfl rfl rfl rfl ?_
        refine TL_gskip rfl rfl rfl rfl ?_
        refine TL_gskip rfl rfl rfl rfl ?_
        refine TL_gskip rfl rfl rfl rfl ?_
        refine TL_gskip rfl rfl rfl rfl ?_
        refine TL_gskip rfl rfl rfl rfl ?_
        refine TL_gskip rfl rfl rfl rfl ?_
        refine TL_gskip rfl rfl rfl rfl ?_
        refine TL_y rfl rfl (Y_pick_f rfl rfl) ?_
        refine TL_chain_end rfl ?_ (by repeat (first | exact sub_refl | refine sub_ext rfl ?_)) GivesTo.g
        exact congrArg Value.bool (decide_eq_false (fun h => by have h1 := h.1.1; have h2 := h.1.2; omega)).symm
    refine TL_y rfl rfl (Y_assign rfl) ?_
    refine TL_nil ?_
    refine T_seq ?_
    refine T_region ?_
    refine TL_y rfl rfl (Y_move rfl) ?_
    refine TL_y rfl rfl (Y_rem rfl rfl (by decide)) ?_
    refine TL_y rfl rfl (Y_eq rfl rfl) ?_
    refine TL_nil ?_
    refine T_if rfl (fun h76 => ?_) (fun h76 => ?_)
    · refine T_region ?_
      refine TL_y rfl rfl (Y_move rfl) ?_
      refine TL_pullc bv ?_
      refine TL_call rfl rfl (fork_spec hlen) ?_
      rintro _ _ ⟨b2, rfl, rfl⟩
      refine TL_y rfl rfl (Y_assign rfl) ?_
      refine TL_nil ?_
      refine T_seq ?_
      refine T_region ?_
      refine TL_y rfl rfl (Y_move rfl) ?_
      refine TL_y rfl rfl (Y_equal rfl rfl (EqIs.ptr_nil)) ?_
      refine TL_name 80 (v' := .bool false) rfl (congrArg Value.bool (by simp)) ?_
      refine TL_nil ?_
      refine T_cond_false rfl ?_
      refine T_skip ?_
      refine thenS_normal ?_
      refine T_seq ?_
      refine T_region ?_
      refine TL_y rfl rfl (Y_assign rfl) ?_
      refine TL_nil ?_
      refine T_block ?_
      refine T_loopK (σ := Nat × List Bool) [0, 1, 2, 7, 9, 10, 11, 12, 13] (fun p => p.1 ≤ n ∧ p.2.length = 7) (fun p kv => (14, .int .i64 (p.1 : Int)) :: kv) (fun p => votes bv p.2 n :: votes b2 bs n :: osl boolR 4 (some ⟨bh, 0, none⟩) n (bs.take n) :: sl (intR .i64) A c l :: L) (fun p => n - p.1) ((0, bs)) rfl (⟨Nat.zero_le _, hlen⟩) (GivesTo.g (L' := votes bv bs n :: votes b2 bs n :: osl boolR 4 (some ⟨bh, 0, none⟩) n (bs.take n) :: sl (intR .i64) A c l :: L)) (sub_cons rfl (sub_cons rfl (sub_cons rfl (sub_cons rfl (sub_cons rfl (sub_cons rfl (sub_cons rfl (sub_cons rfl (sub_cons rfl (sub_cons rfl (sub_nil))))))))))) ?_
      rintro ⟨k, cs⟩ hk2
      dsimp only at hk2 ⊢
      refine T_seq ?_
      refine T_region ?_
      refine TL_y rfl rfl (Y_move rfl) ?_
      refine TL_y rfl rfl (Y_move rfl) ?_
      refine TL_y rfl rfl (Y_lt rfl rfl) ?_
      refine TL_nil ?_
      refine T_if rfl (fun h83 => ?_) (fun h83 => ?_)
      · refine T_skip ?_
        refine thenS_normal ?_
        refine T_seq ?_
        refine T_block ?_
        refine T_region_last ?_
        refine TL_y rfl rfl (Y_move rfl) ?_
        refine TL_y rfl rfl (Y_move rfl) ?_
        refine TL_call rfl rfl (add_spec hk2.2 h7 (k : Int)) ?_
        rintro _ _ ⟨rfl, rfl⟩
        refine TL_nil ?_
        refine inB_normal ?_
        refine thenS_normal ?_
        refine T_region_last ?_
        refine TL_y rfl rfl (Y_move rfl) ?_
        refine TL_y rfl rfl (Y_add rfl rfl (by omega)) ?_
        refine TL_name 85 (v' := .int .i64 ((k + 1 : Nat) : Int)) rfl (rfl) ?_
        refine TL_y rfl rfl (Y_assign rfl) ?_
        refine TL_nil ?_
        refine thenS_normal ?_
        exact ⟨(k + 1, addV cs n (k : Int)), ⟨by simp only; omega, addV_len hk2.2⟩, by simp only; omega, holds_to (sub_cons rfl (sub_cons rfl (sub_cons rfl (sub_cons rfl (sub_cons rfl (sub_cons rfl (sub_cons rfl (sub_cons rfl (sub_cons rfl (sub_cons rfl (sub_nil))))))))))) GivesTo.g⟩
      · refine T_exit ?_
        refine thenS_exit ?_
        refine thenS_exit ?_
        refine inB_hit ?_
        refine thenS_normal ?_
        refine T_region_last ?_
        refine TL_y rfl rfl (Y_move rfl) ?_
        refine TL_y rfl rfl (Y_assign rfl) ?_
        refine TL_nil ?_
        refine thenS_normal ?_
        refine T_seq ?_
        refine T_region ?_
        refine TL_y rfl rfl (Y_move rfl) ?_
        refine TL_y rfl rfl (Y_move rfl) ?_
        refine TL_y rfl rfl (Y_move rfl) ?_
        refine TL_index_int rfl rfl rfl slk hu ?_
        intro hi93 bi93 oi93
        refine TL_y rfl rfl (Y_load_row rfl rfl) ?_
        refine TL_pullc b2 ?_
        refine TL_call rfl rfl (add_spec hlen h7 u) ?_
        rintro _ _ ⟨rfl, rfl⟩
        refine TL_y rfl rfl (Y_move rfl) ?_
        refine TL_y rfl rfl (Y_unequal rfl rfl (EqIs.bool)) ?_
        refine TL_name 97 (v' := .bool false) rfl (congrArg Value.bool (by simp)) ?_
        refine TL_nil ?_
        refine T_cond_false rfl ?_
        refine T_skip ?_
        refine thenS_normal ?_
        refine T_seq ?_
        refine T_region ?_
        refine TL_y rfl rfl (Y_move rfl) ?_
        refine TL_nil ?_
        refine T_if rfl (fun h98 => ?_) (fun h98 => ?_)
        · rw [if_pos h98] at hcnt
          refine T_region ?_
          refine TL_y rfl rfl (Y_move rfl) ?_
          refine TL_y rfl rfl (Y_move rfl) ?_
          refine TL_y rfl rfl (Y_move rfl) ?_
          refine TL_index_int rfl rfl rfl slk hu ?_
          intro hi102 bi102 oi102
          refine TL_y rfl rfl (Y_load_row rfl rfl) ?_
          obtain ⟨j, rfl⟩ : ∃ j : Nat, u = (j : Int) := ⟨u.toNat, by have := h98.1.1; omega⟩
          have hj7 : j < n := by have := h98.1.2; omega
          refine TL_index_own rfl rfl rfl (by simp; omega) (List.getElem?_eq_getElem (show j < (bs.take n).length by simp; omega)) ?_
          intro bi104 li104 hA104 hl104
          obtain rfl : bh = bi104 := by cases hA104; rfl
          obtain ⟨w0, rfl⟩ := List.length_eq_one_iff.1 hl104
          refine TL_store_x rfl rfl rfl rfl rfl (show setN 0 [w0] [Value.bool true] = some [Value.bool true] by rfl) ?_
          refine TL_unx bh true (Knows.const fun _ => rfl) ?_
          rw [show (bs.take n).set j true = (addV bs n (j : Int)).take n by simpa using htk h98.1]
          refine TL_nil ?_
          refine T_region_last ?_
          refine TL_y rfl rfl (Y_move rfl) ?_
          refine TL_y rfl rfl (Y_add rfl rfl (by have : (allV bs n).length ≤ 7 := allTo_len bs n 7; omega)) ?_
          refine TL_y rfl rfl (Y_assign rfl) ?_
          refine TL_nil ?_
          refine thenS_normal ?_
          refine T_region ?_
          refine TL_name 10 (v' := .int .i64 (((allV (addL (List.replicate 7 false) n (l.take (i + 1))) n).length : Nat) : Int)) rfl (by rw [hnx, hcnt]; simp) ?_
          refine TL_y rfl rfl (Y_move rfl) ?_
          refine TL_pullc b2 ?_
          refine TL_call rfl rfl (count_spec (addV_len hlen) h7) ?_
          rintro _ _ ⟨rfl, rfl⟩
          refine TL_y rfl rfl (Y_move rfl) ?_
          refine TL_y rfl rfl (Y_ne rfl rfl) ?_
          refine TL_name 110 (v' := .bool false) rfl (congrArg Value.bool (by rw [hnx]; simp)) ?_
          refine TL_y rfl rfl (Y_move rfl) ?_
          refine TL_grun rfl rfl ?_
          refine TL_y rfl rfl (Y_move rfl) ?_
          refine TL_grun rfl rfl ?_
          refine TL_call rfl rfl (enough_spec (addV_len hlen) hn17) ?_
          rintro _ _ ⟨rfl, rfl⟩
          refine TL_grun rfl rfl ?_
          refine TL_y rfl rfl (Y_move rfl) ?_
          refine TL_grun rfl rfl ?_
          refine TL_y rfl rfl (Y_move rfl) ?_
          refine TL_grun rfl rfl ?_
          refine TL_y rfl rfl (Y_quo rfl rfl (by omega)) ?_
          refine TL_grun rfl rfl ?_
          refine TL_y rfl rfl (Y_gt rfl rfl) ?_
          refine TL_grun rfl rfl ?_
          refine TL_y rfl rfl (Y_unequal rfl rfl (EqIs.bool)) ?_
          refine TL_name 118 (v' := .bool false) rfl (congrArg Value.bool (by rw [hnx]; simp only [Bool.not_eq_false', beq_iff_eq, decide_eq_decide]; omega)) ?_
          refine TL_y rfl rfl (Y_pick_f rfl rfl) ?_
          refine TL_nil ?_
          refine T_cond_false rfl ?_
          refine T_skip ?_
          refine inB_normal ?_
          refine thenS_normal ?_
          refine T_region_last ?_
          refine TL_y rfl rfl (Y_move rfl) ?_
          refine TL_y rfl rfl (Y_add rfl rfl (by omega)) ?_
          refine TL_name 50 (v' := .int .i64 ((i + 1 : Nat) : Int)) rfl (rfl) ?_
          refine TL_y rfl rfl (Y_assign rfl) ?_
          refine TL_nil ?_
          refine thenS_normal ?_
          exact ⟨(i + 1, b2), (by simp only; omega), (by simp only; omega), holds_to (sub_cons rfl (sub_cons rfl (sub_cons rfl (sub_cons rfl (sub_cons rfl (sub_cons rfl (sub_cons rfl (sub_nil)))))))) (by simp only; rw [hnx]; exact GivesTo.g)⟩
        · rw [if_neg h98] at hcnt
          rw [show bs.take n = (addV bs n u).take n by rw [addV_same h98]]
          refine T_skip ?_
          refine thenS_normal ?_
          refine T_region ?_
          refine TL_name 10 (v' := .int .i64 (((allV (addL (List.replicate 7 false) n (l.take (i + 1))) n).length : Nat) : Int)) rfl (by rw [hnx, hcnt]; simp) ?_
          refine TL_y rfl rfl (Y_move rfl) ?_
          refine TL_pullc b2 ?_
          refine TL_call rfl rfl (count_spec (addV_len hlen) h7) ?_
          rintro _ _ ⟨rfl, rfl⟩
          refine TL_y rfl rfl (Y_move rfl) ?_
          refine TL_y rfl rfl (Y_ne rfl rfl) ?_
          refine TL_name 110 (v' := .bool false) rfl (congrArg Value.bool (by rw [hnx]; simp)) ?_
          refine TL_y rfl rfl (Y_move rfl) ?_
          refine TL_grun rfl rfl ?_
          refine TL_y rfl rfl (Y_move rfl) ?_
          refine TL_grun rfl rfl ?_
          refine TL_call rfl rfl (enough_spec (addV_len hlen) hn17) ?_
          rintro _ _ ⟨rfl, rfl⟩
          refine TL_grun rfl rfl ?_
          refine TL_y rfl rfl (Y_move rfl) ?_
          refine TL_grun rfl rfl ?_
          refine TL_y rfl rfl (Y_move rfl) ?_
          refine TL_grun rfl rfl ?_
          refine TL_y rfl rfl (Y_quo rfl rfl (by omega)) ?_
          refine TL_grun rfl rfl ?_
          refine TL_y rfl rfl (Y_gt rfl rfl) ?_
          refine TL_grun rfl rfl ?_
          refine TL_y rfl rfl (Y_unequal rfl rfl (EqIs.bool)) ?_
          refine TL_name 118 (v' := .bool false) rfl (congrArg Value.bool (by rw [hnx]; simp only [Bool.not_eq_false', beq_iff_eq, decide_eq_decide]; omega)) ?_
          refine TL_y rfl rfl (Y_pick_f rfl rfl) ?_
          refine TL_nil ?_
          refine T_cond_false rfl ?_
          refine T_skip ?_
          refine inB_normal ?_
          refine thenS_normal ?_
          refine T_region_last ?_
          refine TL_y rfl rfl (Y_move rfl) ?_
          refine TL_y rfl rfl (Y_add rfl rfl (by omega)) ?_
          refine TL_name 50 (v' := .int .i64 ((i + 1 : Nat) : Int)) rfl (rfl) ?_
          refine TL_y rfl rfl (Y_assign rfl) ?_
          refine TL_nil ?_
          refine thenS_normal ?_
          exact ⟨(i + 1, b2), (by simp only; omega), (by simp only; omega), holds_to (sub_cons rfl (sub_cons rfl (sub_cons rfl (sub_cons rfl (sub_cons rfl (sub_cons rfl (sub_cons rfl (sub_nil)))))))) (by simp only; rw [hnx]; exact GivesTo.g)⟩
    · refine T_skip ?_
      refine thenS_normal ?_
      refine T_seq ?_
      refine T_region ?_
      refine TL_y rfl rfl (Y_move rfl) ?_
      refine TL_y rfl rfl (Y_move rfl) ?_
      refine TL_y rfl rfl (Y_move rfl) ?_
      refine TL_index_int rfl rfl rfl slk hu ?_
      intro hi93 bi93 oi93
      refine TL_y rfl rfl (Y_load_row rfl rfl) ?_
      refine TL_pullc bv ?_
      refine TL_call rfl rfl (add_spec hlen h7 u) ?_
      rintro _ _ ⟨rfl, rfl⟩
      refine TL_y rfl rfl (Y_move rfl) ?_
      refine TL_y rfl rfl (Y_unequal rfl rfl (EqIs.bool)) ?_
      refine TL_name 97 (v' := .bool false) rfl (congrArg Value.bool (by simp)) ?_
      refine TL_nil ?_
      refine T_cond_false rfl ?_
      refine T_skip ?_
      refine thenS_normal ?_
      refine T_seq ?_
      refine T_region ?_
      refine TL_y rfl rfl (Y_move rfl) ?_
      refine TL_nil ?_
      refine T_if rfl (fun h98 => ?_) (fun h98 => ?_)
      · rw [if_pos h98] at hcnt
        refine T_region ?_
        refine TL_y rfl rfl (Y_move rfl) ?_
        refine TL_y rfl rfl (Y_move rfl) ?_
        refine TL_y rfl rfl (Y_move rfl) ?_
        refine TL_index_int rfl rfl rfl slk hu ?_
        intro hi102 bi102 oi102
        refine TL_y rfl rfl (Y_load_row rfl rfl) ?_
        obtain ⟨j, rfl⟩ : ∃ j : Nat, u = (j : Int) := ⟨u.toNat, by have := h98.1.1; omega⟩
        have hj7 : j < n := by have := h98.1.2; omega
        refine TL_index_own rfl rfl rfl (by simp; omega) (List.getElem?_eq_getElem (show j < (bs.take n).length by simp; omega)) ?_
        intro bi104 li104 hA104 hl104
        obtain rfl : bh = bi104 := by cases hA104; rfl
        obtain ⟨w0, rfl⟩ := List.length_eq_one_iff.1 hl104
        refine TL_store_x rfl rfl rfl rfl rfl (show setN 0 [w0] [Value.bool true] = some [Value.bool true] by rfl) ?_
        refine TL_unx bh true (Knows.const fun _ => rfl) ?_
        rw [show (bs.take n).set j true = (addV bs n (j : Int)).take n by simpa using htk h98.1]
        refine TL_nil ?_
        refine T_region_last ?_
        refine TL_y rfl rfl (Y_move rfl) ?_
        refine TL_y rfl rfl (Y_add rfl rfl (by have : (allV bs n).length ≤ 7 := allTo_len bs n 7; omega)) ?_
        refine TL_y rfl rfl (Y_assign rfl) ?_
        refine TL_nil ?_
        refine thenS_normal ?_
        refine T_region ?_
        refine TL_name 10 (v' := .int .i64 (((allV (addL (List.replicate 7 false) n (l.take (i + 1))) n).length : Nat) : Int)) rfl (by rw [hnx, hcnt]; simp) ?_
        refine TL_y rfl rfl (Y_move rfl) ?_
        refine TL_pullc bv ?_
        refine TL_call rfl rfl (count_spec (addV_len hlen) h7) ?_
        rintro _ _ ⟨rfl, rfl⟩
        refine TL_y rfl rfl (Y_move rfl) ?_
        refine TL_y rfl rfl (Y_ne rfl rfl) ?_
        refine TL_name 110 (v' := .bool false) rfl (congrArg Value.bool (by rw [hnx]; simp)) ?_
        refine TL_y rfl rfl (Y_move rfl) ?_
        refine TL_grun rfl rfl ?_
        refine TL_y rfl rfl (Y_move rfl) ?_
        refine TL_grun rfl rfl ?_
        refine TL_call rfl rfl (enough_spec (addV_len hlen) hn17) ?_
        rintro _ _ ⟨rfl, rfl⟩
        refine TL_grun rfl rfl ?_
        refine TL_y rfl rfl (Y_move rfl) ?_
        refine TL_grun rfl rfl ?_
        refine TL_y rfl rfl (Y_move rfl) ?_
        refine TL_grun rfl rfl ?_
        refine TL_y rfl rfl (Y_quo rfl rfl (by omega)) ?_
        refine TL_grun rfl rfl ?_
        refine TL_y rfl rfl (Y_gt rfl rfl) ?_
        refine TL_grun rfl rfl ?_
        refine TL_y rfl rfl (Y_unequal rfl rfl (EqIs.bool)) ?_
        refine TL_name 118 (v' := .bool false) rfl (congrArg Value.bool (by rw [hnx]; simp only [Bool.not_eq_false', beq_iff_eq, decide_eq_decide]; omega)) ?_
        refine TL_y rfl rfl (Y_pick_f rfl rfl) ?_
        refine TL_nil ?_
        refine T_cond_false rfl ?_
        refine T_skip ?_
        refine inB_normal ?_
        refine thenS_normal ?_
        refine T_region_last ?_
        refine TL_y rfl rfl (Y_move rfl) ?_
        refine TL_y rfl rfl (Y_add rfl rfl (by omega)) ?_
        refine TL_name 50 (v' := .int .i64 ((i + 1 : Nat) : Int)) rfl (rfl) ?_
        refine TL_y rfl rfl (Y_assign rfl) ?_
        refine TL_nil ?_
        refine thenS_normal ?_
        exact ⟨(i + 1, bv), (by simp only; omega), (by simp only; omega), holds_to (sub_cons rfl (sub_cons rfl (sub_cons rfl (sub_cons rfl (sub_cons rfl (sub_cons rfl (sub_cons rfl (sub_nil)))))))) (by simp only; rw [hnx]; exact GivesTo.g)⟩
      · rw [if_neg h98] at hcnt
        rw [show bs.take n = (addV bs n u).take n by rw [addV_same h98]]
        refine T_skip ?_
        refine thenS_normal ?_
        refine T_region ?_
        refine TL_name 10 (v' := .int .i64 (((allV (addL (List.replicate 7 false) n (l.take (i + 1))) n).length : Nat) : Int)) rfl (by rw [hnx, hcnt]; simp) ?_
        refine TL_y rfl rfl (Y_move rfl) ?_
        refine TL_pullc bv ?_
        refine TL_call rfl rfl (count_spec (addV_len hlen) h7) ?_
        rintro _ _ ⟨rfl, rfl⟩
        refine TL_y rfl rfl (Y_move rfl) ?_
        refine TL_y rfl rfl (Y_ne rfl rfl) ?_
        refine TL_name 110 (v' := .bool false) rfl (congrArg Value.bool (by rw [hnx]; simp)) ?_
        refine TL_y rfl rfl (Y_move rfl) ?_
        refine TL_grun rfl rfl ?_
        refine TL_y rfl rfl (Y_move rfl) ?_
        refine TL_grun rfl rfl ?_
        refine TL_call rfl rfl (enough_spec (addV_len hlen) hn17) ?_
        rintro _ _ ⟨rfl, rfl⟩
        refine TL_grun rfl rfl ?_
        refine TL_y rfl rfl (Y_move rfl) ?_
        refine TL_grun rfl rfl ?_
        refine TL_y rfl rfl (Y_move rfl) ?_
        refine TL_grun rfl rfl ?_
        refine TL_y rfl rfl (Y_quo rfl rfl (by omega)) ?_
        refine TL_grun rfl rfl ?_
        refine TL_y rfl rfl (Y_gt rfl rfl) ?_
        refine TL_grun rfl rfl ?_
        refine TL_y rfl rfl (Y_unequal rfl rfl (EqIs.bool)) ?_
        refine TL_name 118 (v' := .bool false) rfl (congrArg Value.bool (by rw [hnx]; simp only [Bool.not_eq_false', beq_iff_eq, decide_eq_decide]; omega)) ?_
        refine TL_y rfl rfl (Y_pick_f rfl rfl) ?_
        refine TL_nil ?_
        refine T_cond_false rfl ?_
        refine T_skip ?_
        refine inB_normal ?_
        refine thenS_normal ?_
        refine T_region_last ?_
        refine TL_y rfl rfl (Y_move rfl) ?_
        refine TL_y rfl rfl (Y_add rfl rfl (by omega)) ?_
        refine TL_name 50 (v' := .int .i64 ((i + 1 : Nat) : Int)) rfl (rfl) ?_
        refine TL_y rfl rfl (Y_assign rfl) ?_
        refine TL_nil ?_
        refine thenS_normal ?_
        exact ⟨(i + 1, bv), (by simp only; omega), (by simp only; omega), holds_to (sub_cons rfl (sub_cons rfl (sub_cons rfl (sub_cons rfl (sub_cons rfl (sub_cons rfl (sub_cons rfl (sub_nil)))))))) (by simp only; rw [hnx]; exact GivesTo.g)⟩
  · refine T_exit ?_
    refine thenS_exit ?_
    refine thenS_exit ?_
    refine inB_hit ?_
    refine thenS_normal ?_
    have e : l.take i = l := List.take_of_length_le (by omega)
    rw [e]
    have hlen : (addL (List.replicate 7 false) n l).length = 7 := addL_len rfl
    generalize addL (List.replicate 7 false) n l = bs at *
    refine T_region ?_
    refine TL_y rfl rfl (Y_move rfl) ?_
    refine TL_pullc bv ?_
    refine TL_call rfl rfl (all_spec hlen h7) ?_
    rintro _ _ ⟨A15, c15, rfl, rfl⟩
    refine TL_freeze_osl ?_
    refine TL_y rfl rfl (Y_assign rfl) ?_
    refine TL_nil ?_
    refine T_region ?_
    refine TL_y rfl rfl (Y_assign rfl) ?_
    refine TL_nil ?_
    refine T_seq ?_
    refine T_region ?_
    refine TL_y rfl rfl (Y_assign rfl) ?_
    refine TL_nil ?_
    refine T_block ?_
    refine T_loopK (σ := Nat) [0, 2, 7, 9, 15] (fun k => k ≤ n) (fun k kv => (17, .int .i64 (k : Int)) :: (16, .int .i64 (((allTo bs n k).length : Nat) : Int)) :: kv) (fun k => votes bv bs n :: osl boolR 4 (some ⟨bh, 0, none⟩) n (bs.take n) :: sl (intR .i64) A15 c15 (allV bs n) :: L) (fun k => n - k) (0) rfl (Nat.zero_le _) (GivesTo.g) (sub_cons rfl (sub_cons rfl (sub_cons rfl (sub_cons rfl (sub_cons rfl (sub_cons rfl (sub_cons rfl (sub_nil)))))))) ?_
    intro k hk
    refine T_seq ?_
    refine T_region ?_
    refine TL_y rfl rfl (Y_move rfl) ?_
    refine TL_y rfl rfl (Y_move rfl) ?_
    refine TL_y rfl rfl (Y_lt rfl rfl) ?_
    refine TL_nil ?_
    refine T_if rfl (fun h124 => ?_) (fun h124 => ?_)
    · refine T_skip ?_
      refine thenS_normal ?_
      refine T_seq ?_
      refine T_block ?_
      refine T_seq ?_
      obtain ⟨q, hq⟩ : ∃ q, (bs.take n)[k]? = some q := ⟨_, List.getElem?_eq_getElem (by simp; omega)⟩
      have hq2 := take_has hq
      have hv : hasV bs n (k : Int) ↔ q = true := by simp [hasV, isV, hq2]; omega
      refine T_region_draw _ [0, 0, 3, 0, 0, 24, 56, 127] [] [(0, true), (1, true), (3, true), (4, true), (5, true), (6, true), (2, false), (7, true)] (by kernel_rfl) (by decide +kernel) (Gives.refl _) ?_
      refine TF_y rfl rfl (Y_move rfl) ?_
      refine TF_y rfl rfl (Y_move rfl) ?_
      refine TF_y rfl rfl (Y_move rfl) ?_
      refine TF_y rfl rfl (Y_move rfl) ?_
      refine TF_y rfl rfl (Y_index_at (o := k * 1) rfl rfl (by omega) ⟨0, rfl, by omega⟩) ?_
      refine TF_y rfl rfl (Y_load_at (o := k * 1) (j := 0) rfl (AtL.gives (Gives.swap _ _ _) (osl_at (R := boolR) (t := 4) (A := some ⟨bh, 0, none⟩) (c := n) hq _)) rfl) ?_
      refine TF_anchor rfl ?_
      refine TL_call rfl rfl (has_spec hlen h7 (k : Int)) ?_
      rintro _ _ ⟨rfl, rfl⟩
      refine TF_end GivesTo.g ?_
      refine TF_y rfl rfl (Y_unequal rfl rfl (EqIs.bool)) ?_
      refine TF_name 134 (v' := .bool false) rfl (congrArg Value.bool (by cases q <;> simp [hv])) ?_
      refine TF_nil ?_
      refine T_cond_false rfl ?_
      refine T_skip ?_
      refine thenS_normal ?_
      refine T_region ?_
      refine TL_y rfl rfl (Y_move rfl) ?_
      refine TL_y rfl rfl (Y_move rfl) ?_
      refine TL_index_get rfl rfl rfl (by simp; omega) (hq) ?_
      intro bi137 hA137 ha137
      refine TL_y rfl rfl (Y_load_at rfl ha137 rfl) ?_
      refine TL_nil ?_
      refine T_cond rfl (fun h138 => ?_) (fun h138 => ?_)
      · have hv2 := hv.2 h138
        have hat := allV_at (by omega) (by omega) hv2
        refine T_seq ?_
        refine T_region ?_
        refine TL_y rfl rfl (Y_move rfl) ?_
        refine TL_y rfl rfl (Y_move rfl) ?_
        refine TL_y rfl rfl (Y_len rfl) ?_
        refine TL_y rfl rfl (Y_ge rfl rfl) ?_
        refine TL_name 142 (v' := .bool false) rfl (congrArg Value.bool (decide_eq_false (by have := (List.getElem?_eq_some_iff.1 hat).1; omega))) ?_
        refine TL_y rfl rfl (Y_move rfl) ?_
        refine TL_grun rfl rfl ?_
        refine TL_y rfl rfl (Y_move rfl) ?_
        refine TL_grun rfl rfl ?_
        refine TL_y rfl rfl (Y_move rfl) ?_
        refine TL_grun rfl rfl ?_
        refine TL_index_int rfl rfl rfl slk hat ?_
        intro hi146 bi146 oi146
        refine TL_grun rfl rfl ?_
        refine TL_y rfl rfl (Y_load_row rfl rfl) ?_
        refine TL_grun rfl rfl ?_
        refine TL_y rfl rfl (Y_move rfl) ?_
        refine TL_grun rfl rfl ?_
        refine TL_y rfl rfl (Y_ne rfl rfl) ?_
        refine TL_name 149 (v' := .bool false) rfl (congrArg Value.bool (by simp)) ?_
        refine TL_y rfl rfl (Y_pick_f rfl rfl) ?_
        refine TL_nil ?_
        refine T_cond_false rfl ?_
        refine T_skip ?_
        refine thenS_normal ?_
        refine T_region_last ?_
        refine TL_y rfl rfl (Y_move rfl) ?_
        refine TL_y rfl rfl (Y_add rfl rfl (by have := allTo_len bs n k; omega)) ?_
        refine TL_y rfl rfl (Y_assign rfl) ?_
        refine TL_nil ?_
        refine inB_normal ?_
        refine thenS_normal ?_
        refine T_region_last ?_
        refine TL_name 16 (v' := .int .i64 (((allTo bs n (k + 1)).length : Nat) : Int)) rfl (by rw [allTo_succ]; simp [hv2]) ?_
        refine TL_y rfl rfl (Y_move rfl) ?_
        refine TL_y rfl rfl (Y_add rfl rfl (by omega)) ?_
        refine TL_name 126 (v' := .int .i64 ((k + 1 : Nat) : Int)) rfl (rfl) ?_
        refine TL_y rfl rfl (Y_assign rfl) ?_
        refine TL_nil ?_
        refine thenS_normal ?_
        exact ⟨k + 1, (by omega), by omega, holds_to (sub_cons rfl (sub_cons rfl (sub_cons rfl (sub_cons rfl (sub_cons rfl (sub_cons rfl (sub_cons rfl (sub_nil)))))))) GivesTo.g⟩
      · have hv2 : ¬ hasV bs n (k : Int) := fun h => by have := hv.1 h; rw [h138] at this; cases this
        refine T_skip ?_
        refine inB_normal ?_
        refine thenS_normal ?_
        refine T_region_last ?_
        refine TL_name 16 (v' := .int .i64 (((allTo bs n (k + 1)).length : Nat) : Int)) rfl (by rw [allTo_succ]; simp [hv2]) ?_
        refine TL_y rfl rfl (Y_move rfl) ?_
        refine TL_y rfl rfl (Y_add rfl rfl (by omega)) ?_
        refine TL_name 126 (v' := .int .i64 ((k + 1 : Nat) : Int)) rfl (rfl) ?_
        refine TL_y rfl rfl (Y_assign rfl) ?_
        refine TL_nil ?_
        refine thenS_normal ?_
        exact ⟨k + 1, (by omega), by omega, holds_to (sub_cons rfl (sub_cons rfl (sub_cons rfl (sub_cons rfl (sub_cons rfl (sub_cons rfl (sub_cons rfl (sub_nil)))))))) GivesTo.g⟩
    · refine T_exit ?_
      refine thenS_exit ?_
      refine thenS_exit ?_
      refine inB_hit ?_
      refine thenS_normal ?_
      obtain rfl : k = n := by omega
      refine T_region ?_
      refine TL_y rfl rfl (Y_move rfl) ?_
      refine TL_y rfl rfl (Y_move rfl) ?_
      refine TL_y rfl rfl (Y_len rfl) ?_
      refine TL_y rfl rfl (Y_eq rfl rfl) ?_
      refine TL_name 156 (v' := .bool true) rfl (congrArg Value.bool (decide_eq_true (by rw [allV_full bs k h.2]))) ?_
      refine TL_y rfl rfl (Y_move rfl) ?_
      refine TL_grun rfl rfl ?_
      refine TL_y rfl rfl (Y_move rfl) ?_
      refine TL_grun rfl rfl ?_
      refine TL_y rfl rfl (Y_move rfl) ?_
      refine TL_grun rfl rfl ?_
      refine TL_pullc bv ?_
      refine TL_call rfl rfl (has_spec hlen h7 ask) ?_
      rintro _ _ ⟨rfl, rfl⟩
      refine TL_both 13 173 (hasV bs k ask) ?_ ?_
      · refine TL_grun rfl rfl ?_
        refine TL_y rfl rfl (Y_move rfl) ?_
        refine TL_grun rfl rfl ?_
        refine TL_y rfl rfl (Y_ge rfl rfl) ?_
        refine TL_grun rfl rfl ?_
        refine TL_y rfl rfl (Y_move rfl) ?_
        refine TL_splitd 163 rfl (fun h163 => ?_) (fun h163 => ?_)
        · refine TL_grun rfl rfl ?_
          refine TL_y rfl rfl (Y_move rfl) ?_
          refine TL_grun rfl rfl ?_
          refine TL_y rfl rfl (Y_move rfl) ?_
          refine TL_grun rfl rfl ?_
          refine TL_y rfl rfl (Y_lt rfl rfl) ?_
          refine TL_grun rfl rfl ?_
          refine TL_y rfl rfl (Y_pick_t rfl rfl) ?_
          refine TL_grun rfl rfl ?_
          refine TL_y rfl rfl (Y_move rfl) ?_
          refine TL_splitd 168 rfl (fun h168 => ?_) (fun h168 => ?_)
          · refine TL_grun rfl rfl ?_
            refine TL_y rfl rfl (Y_move rfl) ?_
            refine TL_grun rfl rfl ?_
            refine TL_y rfl rfl (Y_move rfl) ?_
            refine TL_grun rfl rfl ?_
            obtain ⟨j, rfl⟩ : ∃ j : Nat, ask = (j : Int) := ⟨ask.toNat, by omega⟩
            obtain ⟨q, hq⟩ : ∃ q, (bs.take k)[j]? = some q := ⟨_, List.getElem?_eq_getElem (by simp; omega)⟩
            refine TL_index_get rfl rfl rfl (by simp; omega) (hq) ?_
            intro bi171 hA171 ha171
            refine TL_grun rfl rfl ?_
            refine TL_y rfl rfl (Y_load_at rfl ha171 rfl) ?_
            refine TL_grun rfl rfl ?_
            refine TL_y rfl rfl (Y_pick_t rfl rfl) ?_
            refine TL_chain_end rfl ?_ (by repeat (first | exact sub_refl | refine sub_ext rfl ?_)) GivesTo.g
            exact congrArg Value.bool (by have hq2 := take_has hq; cases q <;> simp [hasV, isV, hq2]; omega)
          · refine TL_gskip rfl rfl rfl rfl ?_
            refine TL_gskip rfl rfl rfl rfl ?_
            refine TL_gskip rfl rfl rfl rfl ?_
            refine TL_gskip rfl rfl rfl rfl ?_
            refine TL_grun rfl rfl ?_
            refine TL_y rfl rfl (Y_pick_f rfl rfl) ?_
            refine TL_chain_end rfl ?_ (by repeat (first | exact sub_refl | refine sub_ext rfl ?_)) GivesTo.g
            exact congrArg Value.bool (decide_eq_false (fun h => by have h1 := h.1.1; have h2 := h.1.2; omega)).symm
        · refine TL_gskip rfl rfl rfl rfl ?_
          refine TL_gskip rfl rfl rfl rfl ?_
          refine TL_gskip rfl rfl rfl rfl ?_
          refine TL_grun rfl rfl ?_
          refine TL_y rfl rfl (Y_pick_f rfl rfl) ?_
          refine TL_grun rfl rfl ?_
          refine TL_y rfl rfl (Y_move rfl) ?_
          refine TL_gskip rfl rfl rfl rfl ?_
          refine TL_gskip rfl rfl rfl rfl ?_
          refine TL_gskip rfl rfl rfl rfl ?_
          refine TL_gskip rfl rfl rfl rfl ?_
          refine TL_grun rfl rfl ?_
          refine TL_y rfl rfl (Y_pick_f rfl rfl) ?_
          refine TL_chain_end rfl ?_ (by repeat (first | exact sub_refl | refine sub_ext rfl ?_)) GivesTo.g
          exact congrArg Value.bool (decide_eq_false (fun h => by have h1 := h.1.1; have h2 := h.1.2; omega)).symm
      refine TL_grun rfl rfl ?_
      refine TL_y rfl rfl (Y_equal rfl rfl (EqIs.bool)) ?_
      refine TL_name 174 (v' := .bool true) rfl (congrArg Value.bool (by simp)) ?_
      refine TL_y rfl rfl (Y_pick_t rfl rfl) ?_
      refine TL_y rfl rfl (Y_assign rfl) ?_
      refine TL_nil ?_
      refine T_ret ?_
      exact RetG_1 (.inl rfl) rfl (ResV.tmp rfl) GivesTo.g (⟨rfl, rfl⟩)
theorem ballotVotes_walk {L : List HP} {A : Option Addr} {c : Nat} {l : List Int} (n ask : Int) (hk : SlK L (intR .i64) A c l) (hl : l.length ≤ 17592186044416) : Fn Try.prog 8 #[.int .i64 n, .slice A l.length c, .int .i64 ask] L (fun v L' => v = .bool true ∧ L' = L) := by
  by_cases h : 1 ≤ n ∧ n ≤ 7
  · obtain ⟨m, rfl⟩ : ∃ m : Nat, n = (m : Int) := ⟨n.toNat, by omega⟩
    exact votes_ok m ask (by omega) hk hl
  · exact votes_bad n ask h
end Go.SL
