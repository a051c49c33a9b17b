/- Learner: slots among the arguments; the law on gaps. -/
import Derived.Test.YtfmkfpgplpfkhaaLrN
set_option linter.unusedVariables false
set_option linter.unusedSimpArgs false
namespace Go.SL
open Go Go.Proofs
abbrev slotC (s : SlotD) (p : Option Addr × Nat) : List Value := [.int .i64 s.1, .bool s.2.noop, .string s.2.order.token, .string s.2.order.cart, .int .i64 s.2.order.epoch, .slice p.1 s.2.order.cut.length p.2]
def slotOk (s : SlotD) : Prop := intIn .i64 s.1 ∧ orderOk' s.2.order
def slotR : Rep SlotD := exR 6 slotC (fun s p => [sl (intR .i64) p.1 p.2 s.2.order.cut]) slotOk (fun _ _ => rfl) (fun _ _ => rfl)
instance : IsEx slotR (Option Addr × Nat) 6 slotC (fun s p => [sl (intR .i64) p.1 p.2 s.2.order.cut]) slotOk := ⟨⟨_, _, rfl⟩⟩
def LLim (l : List SlotD) : Prop := l.length ≤ 1048576 ∧ ∀ s ∈ l, cSeal s.2.order ≤ 140737488355000
/-! ### What is missing, where there is room -/
theorem mem_ints {a x : Int} {n : Nat} : x ∈ ints a n ↔ a ≤ x ∧ x < a + (n : Int) := by
  unfold ints
  simp only [List.mem_map, List.mem_range]
  constructor
  · rintro ⟨i, hi, rfl⟩; omega
  · rintro ⟨h1, h2⟩; exact ⟨(x - a).toNat, by omega, by omega⟩
theorem missF_mem : ∀ {ks : List Int} {cap nx : Int} {out : List Int}, ks.Pairwise (fun x y => x < y) → (∀ k ∈ ks, nx ≤ k ∧ (out.length : Int) + (k - nx) ≤ cap) → ∀ x, x ∈ missF cap ks nx out ↔ x ∈ out ∨ (nx ≤ x ∧ x ∉ ks ∧ ∃ k ∈ ks, x < k)
  | [], cap, nx, out, _, _, x => by simp [missF]
  | k :: r, cap, nx, out, hs, hr, x => by
    obtain ⟨h1, h2⟩ := List.pairwise_cons.1 hs
    have hk := hr k List.mem_cons_self
    have hg : gapN cap nx k out.length = (k - nx).toNat := by unfold gapN; omega
    show x ∈ missF cap r (k + 1) (out ++ ints nx (gapN cap nx k out.length)) ↔ _
    rw [hg, missF_mem h2 (fun q hq => ⟨by have := h1 q hq; omega, by have := h1 q hq; have := hr q (List.mem_cons_of_mem _ hq); rw [List.length_append, ints_len]; omega⟩), List.mem_append, mem_ints]
    constructor
    · rintro ((h | h) | ⟨h3, h4, q, hq, h5⟩)
      · exact .inl h
      · refine .inr ⟨h.1, fun hm => ?_, k, List.mem_cons_self, by omega⟩
        rcases List.mem_cons.1 hm with rfl | hm
        · omega
        · have := h1 x hm; omega
      · exact .inr ⟨by omega, fun hm => by rcases List.mem_cons.1 hm with rfl | hm; omega; exact h4 hm, q, List.mem_cons_of_mem _ hq, h5⟩
    · rintro (h | ⟨h3, h4, q, hq, h5⟩)
      · exact .inl (.inl h)
      · by_cases hx : x < k
        · exact .inl (.inr ⟨h3, by omega⟩)
        · refine .inr ⟨?_, fun hm => h4 (List.mem_cons_of_mem _ hm), ?_⟩
          · have : x ≠ k := fun e => h4 (by rw [e]; exact List.mem_cons_self)
            omega
          · rcases List.mem_cons.1 hq with rfl | hq
            · omega
            · exact ⟨q, hq, h5⟩
theorem ints_sorted (a : Int) (n : Nat) : (ints a n).Pairwise (fun x y => x < y) := by
  unfold ints
  exact List.pairwise_map.2 (List.pairwise_lt_range.imp fun h => by omega)
theorem missF_sorted : ∀ {ks : List Int} {cap nx : Int} {out : List Int}, ks.Pairwise (fun x y => x < y) → (∀ k ∈ ks, nx ≤ k) → out.Pairwise (fun x y => x < y) → (∀ x ∈ out, x < nx) → (missF cap ks nx out).Pairwise (fun x y => x < y)
  | [], cap, nx, out, _, _, ho, _ => ho
  | k :: r, cap, nx, out, hs, hr, ho, hx => by
    obtain ⟨h1, h2⟩ := List.pairwise_cons.1 hs
    have hk := hr k List.mem_cons_self
    show (missF cap r (k + 1) (out ++ ints nx (gapN cap nx k out.length))).Pairwise (fun x y => x < y)
    refine missF_sorted h2 (fun q hq => by have := h1 q hq; omega) ?_ ?_
    · refine List.pairwise_append.2 ⟨ho, ints_sorted _ _, fun x hx' y hy => ?_⟩
      have := hx x hx'; have := (mem_ints.1 hy).1; omega
    · intro x hm
      rcases List.mem_append.1 hm with hm | hm
      · have := hx x hm; omega
      · have := (mem_ints.1 hm).2; unfold gapN at this; omega
theorem extra_mem {l : List SlotD} (h : LI l) {k : Int} : k ∈ extraN l ↔ hasK l k ∧ ((pfx l : Nat) : Int) ≤ k := by
  rw [← h.extra, List.mem_filter, hasK_key]
  simp
theorem extra_sorted {l : List SlotD} (h : LI l) : (extraN l).Pairwise (fun x y => x < y) := by
  rw [← h.extra]
  exact (List.pairwise_map.2 h.inc).filter _
theorem miss_sorted {l : List SlotD} (h : LI l) (most : Int) : (missingS l most).Pairwise (fun x y => x < y) :=
  missF_sorted (extra_sorted h) (fun k hk => ((extra_mem h).1 hk).2) List.Pairwise.nil (by simp)
theorem miss_mem {l : List SlotD} (h : LI l) {most : Int} (hc : ∀ p ∈ l, p.1 ≤ min most 4096) (x : Int) : x ∈ missingS l most ↔ (((pfx l : Nat) : Int) ≤ x ∧ ¬ hasK l x ∧ ∃ p ∈ l, x < p.1) := by
  unfold missingS
  rw [missF_mem (extra_sorted h) (fun k hk => ⟨((extra_mem h).1 hk).2, by
    obtain ⟨p, hp, rfl⟩ := hasK_key.1 ((extra_mem h).1 hk).1
    have := hc p hp; simp; omega⟩)]
  simp only [List.not_mem_nil, false_or]
  constructor
  · rintro ⟨h1, h2, q, hq, h3⟩
    obtain ⟨p, hp, rfl⟩ := hasK_key.1 ((extra_mem h).1 hq).1
    exact ⟨h1, fun hk => h2 ((extra_mem h).2 ⟨hk, h1⟩), p, hp, h3⟩
  · rintro ⟨h1, h2, p, hp, h3⟩
    exact ⟨h1, fun hm => h2 ((extra_mem h).1 hm).1, p.1, (extra_mem h).2 ⟨hasK_key.2 ⟨p, hp, rfl⟩, by omega⟩, h3⟩
theorem choose_mem {l : List SlotD} {k : Int} {e : EntryD} {p : SlotD} (h : p ∈ (chooseS l k e).1) : p ∈ l ∨ p = (k, e) := by
  unfold chooseS at h
  split at h
  · exact .inl h
  · split at h
    · split at h <;> exact .inl h
    · split at h
      · exact .inl h
      · rcases mem_insW.1 h with h | h
        · exact .inr h
        · exact .inl h
theorem choose_len {l : List SlotD} {k : Int} {e : EntryD} : (chooseS l k e).1.length ≤ l.length + 1 := by
  unfold chooseS
  split
  · simp
  · split
    · split <;> simp
    · split
      · simp
      · simp [putS, insW_len]
/-- Where nothing stands ahead of a gap, all is the prefix. -/
theorem whole {l : List SlotD} (h : LI l) (hd : ∀ j k, 0 ≤ j → j < k → hasK l k → hasK l j) : pfx l = l.length ∧ extraN l = [] := by
  have he : l.drop (pfx l) = [] := by
    cases hl : l.drop (pfx l) with
    | nil => rfl
    | cons p r =>
      have hp : p ∈ l.drop (pfx l) := by rw [hl]; exact List.mem_cons_self
      have h1 := h.spec.2.2.1 p hp
      exact absurd (hd _ p.1 (by omega) h1 (hasK_key.2 ⟨p, List.mem_of_mem_drop hp, rfl⟩)) h.gap
  have h1 := h.spec.1
  have h2 := congrArg List.length he
  simp at h2
  exact ⟨by omega, by unfold extraN; rw [he]; rfl⟩
theorem noop_spec (L : List HP) : Fn Try.prog 33 #[] L (fun v L' => v = entV noopE (none, 0) ∧ L' = L) := by
  refine Fn_enter Try.func33 rfl rfl rfl rfl ?_
  refine T_region ?_
  refine TL_alloc rfl rfl ?_
  intro b0
  refine TL_nil ?_
  refine T_region ?_
  refine TL_y rfl rfl (Y_build rfl rfl) ?_
  refine TL_store rfl rfl rfl rfl rfl rfl ?_
  refine TL_nil ?_
  refine T_ret ?_
  exact RetG_1 (.inl rfl) rfl (ResV.agg rfl rfl) GivesTo.g (⟨rfl, rfl⟩)
structure GapSt where
  i : Nat
  s : List SlotD
theorem learnerGaps_walk {L : List HP} {A : Option Addr} {c : Nat} {xs : List SlotD} (hk : SlK L slotR A c xs) (hl : LLim xs) : Fn Try.prog 6 #[.slice A xs.length c] L (fun v L' => v = .bool true ∧ L' = L) := by
  have hl1 := hl.1
  refine Fn_enter Try.func6 rfl rfl rfl rfl ?_
  refine T_gives hk.lay ?_
  refine T_region ?_
  refine TL_y rfl rfl (Y_assign rfl) ?_
  refine TL_nil ?_
  refine T_region ?_
  refine TL_call rfl rfl (lrNew_spec _) ?_
  rintro _ _ ⟨b9, rfl, rfl⟩
  refine TL_y rfl rfl (Y_assign rfl) ?_
  refine TL_nil ?_
  refine T_seq ?_
  refine T_region ?_
  refine TL_call rfl rfl (lives18_spec _) ?_
  rintro _ _ ⟨rfl, rfl⟩
  refine TL_name 10 (v' := .bool true) rfl (rfl) ?_
  refine TL_y rfl rfl (Y_not_t rfl) ?_
  refine TL_y rfl rfl (Y_move rfl) ?_
  refine TL_grun rfl rfl ?_
  refine TL_y rfl rfl (Y_move rfl) ?_
  refine TL_grun rfl rfl ?_
  refine TL_y rfl rfl (Y_equal rfl rfl (EqIs.ptr_nil)) ?_
  refine TL_name 14 (v' := .bool false) rfl (by simp) ?_
  refine TL_y rfl rfl (Y_pick_f rfl rfl) ?_
  refine TL_nil ?_
  refine T_cond_false rfl ?_
  refine T_skip ?_
  refine thenS_normal ?_
  refine T_seq ?_
  refine T_region ?_
  refine TL_y rfl rfl (Y_assign rfl) ?_
  refine TL_nil ?_
  refine T_block ?_
  refine T_loopK (σ := GapSt) [0, 3] (fun g => (g.i ≤ xs.length ∧ g.i ≤ 1000) ∧ g.s.length ≤ g.i ∧ ∀ p ∈ g.s, p.1 < 3000) (fun g kv => (4, .int .i64 (g.i : Int)) :: kv) (fun g => lr b9 g.s :: sl slotR A c xs :: L) (fun g => xs.length - g.i) (⟨0, []⟩) rfl (⟨by simp, by simp, by simp⟩) (GivesTo.g) (sub_cons rfl (sub_cons rfl (sub_cons rfl (sub_nil)))) ?_
  rintro ⟨i, s⟩ ⟨⟨hi, hi2⟩, hsl, hs3⟩
  dsimp only at hi hi2 hsl hs3 ⊢
  refine T_seq ?_
  refine T_region ?_
  refine TL_y rfl rfl (Y_move rfl) ?_
  refine TL_y rfl rfl (Y_move rfl) ?_
  refine TL_y rfl rfl (Y_len rfl) ?_
  refine TL_y rfl rfl (Y_lt rfl rfl) ?_
  refine TL_y rfl rfl (Y_move rfl) ?_
  refine TL_splitd 20 rfl (fun h20 => ?_) (fun h20 => ?_)
  · refine TL_grun rfl rfl ?_
    refine TL_y rfl rfl (Y_move rfl) ?_
    refine TL_grun rfl rfl ?_
    refine TL_y rfl rfl (Y_lt rfl rfl) ?_
    refine TL_y rfl rfl (Y_pick_t rfl rfl) ?_
    refine TL_nil ?_
    refine T_if rfl (fun h23 => ?_) (fun h23 => ?_)
    · refine T_skip ?_
      refine thenS_normal ?_
      refine T_seq ?_
      refine T_block ?_
      obtain ⟨u, hu⟩ : ∃ u, xs[i]? = some u := ⟨_, List.getElem?_eq_getElem (by omega)⟩
      have hlu := hl.2 u (List.mem_of_getElem? hu)
      refine T_at (slk (A := A) (c := c)) hu fun bq oq lq haq => ?_
      refine T_ex fun pq okq => ?_
      simp only [List.cons_append, List.nil_append]
      refine T_region ?_
      refine TL_y rfl rfl (Y_move rfl) ?_
      refine TL_y rfl rfl (Y_move rfl) ?_
      refine TL_y rfl rfl (Y_index_at rfl rfl (by omega) haq) ?_
      refine TL_y rfl rfl (Y_field_addr2 rfl) ?_
      refine TL_y rfl rfl (Y_load_row rfl rfl) ?_
      refine TL_y rfl rfl (Y_lt rfl rfl) ?_
      refine TL_nil ?_
      refine T_if rfl (fun h31 => ?_) (fun h31 => ?_)
      · refine T_region_draw_last _ [0, 0, 0, 6, 14, 30, 0, 0, 192, 448, 960, 2047] [11] [(0, true), (1, true), (2, true), (3, true), (4, true), (5, true), (6, true), (7, true), (8, true), (9, true), (10, true), (11, false)] (by kernel_rfl) (by decide +kernel) (Gives.refl _) ?_
        refine TF_y rfl rfl (Y_move rfl) ?_
        refine TF_y rfl rfl (Y_move rfl) ?_
        refine TF_y rfl rfl (Y_move rfl) ?_
        refine TF_y rfl rfl (Y_index_at rfl rfl (by omega) haq) ?_
        refine TF_y rfl rfl (Y_field_addr2 rfl) ?_
        refine TF_y rfl rfl (Y_load_row rfl rfl) ?_
        refine TF_y rfl rfl (Y_move rfl) ?_
        refine TF_y rfl rfl (Y_move rfl) ?_
        refine TF_y rfl rfl (Y_index_at rfl rfl (by omega) haq) ?_
        refine TF_y rfl rfl (Y_field_addr2 rfl) ?_
        refine TF_y rfl rfl (Y_load_row_agg (vs := entryC u.2 pq) rfl rfl) ?_
        refine TF_anchor rfl ?_
        refine TL_pullk b9 ?_
        refine TL_call rfl rfl (lrChoose_spec u.1 u.2 okq.1 okq.2 hlu sln) ?_
        rintro _ _ ⟨rfl, rfl⟩
        refine TF_end_tail rfl ?_
        refine TF_nil ?_
        refine inB_normal ?_
        refine thenS_normal ?_
        have hcl := choose_len (l := s) (k := u.1) (e := u.2)
        refine T_region_last ?_
        refine TL_y rfl rfl (Y_move rfl) ?_
        refine TL_y rfl rfl (Y_add rfl rfl (by omega)) ?_
        refine TL_name 25 (v' := .int .i64 ((i + 1 : Nat) : Int)) rfl (rfl) ?_
        refine TL_y rfl rfl (Y_assign rfl) ?_
        refine TL_nil ?_
        refine thenS_normal ?_
        exact ⟨⟨i + 1, (chooseS s u.1 u.2).1⟩, ⟨⟨by simp only; omega, by simp only; omega⟩, by simp only; omega, fun p hp => by rcases choose_mem hp with h | rfl; exact hs3 p h; exact h31⟩, by simp only; omega, holds_to (sub_cons rfl (sub_cons rfl (sub_cons rfl (sub_nil)))) GivesTo.g⟩
      · refine T_skip ?_
        refine inB_normal ?_
        refine thenS_normal ?_
        refine T_region_last ?_
        refine TL_y rfl rfl (Y_move rfl) ?_
        refine TL_y rfl rfl (Y_add rfl rfl (by omega)) ?_
        refine TL_name 25 (v' := .int .i64 ((i + 1 : Nat) : Int)) rfl (rfl) ?_
        refine TL_y rfl rfl (Y_assign rfl) ?_
        refine TL_nil ?_
        refine thenS_normal ?_
        exact ⟨⟨i + 1, s⟩, ⟨⟨by simp only; omega, by simp only; omega⟩, by simp only; omega, hs3⟩, by simp only; omega, holds_to (sub_cons rfl (sub_cons rfl (sub_cons rfl (sub_nil)))) GivesTo.g⟩
    · refine T_exit ?_
      refine thenS_exit ?_
      refine thenS_exit ?_
      refine inB_hit ?_
      refine thenS_normal ?_
      refine T_pullk b9 ?_
      refine T_lrI fun hli => ?_
      have hms := miss_sorted hli 4096
      have hmm := miss_mem hli (most := 4096) (fun p hp => by have := hs3 p hp; omega)
      have hml : (missingS s 4096).length ≤ 4096 := missF_len (by omega) (by simp)
      refine T_region ?_
      refine TL_y rfl rfl (Y_move rfl) ?_
      refine TL_pullk b9 ?_
      refine TL_call rfl rfl (lrMissing_spec 4096) ?_
      rintro _ _ ⟨A45, c45, rfl, rfl⟩
      refine TL_freeze_osl ?_
      generalize hmg : missingS s 4096 = ms at hms hmm hml ⊢
      refine TL_y rfl rfl (Y_assign rfl) ?_
      refine TL_nil ?_
      refine T_seq ?_
      refine T_region ?_
      refine TL_y rfl rfl (Y_assign rfl) ?_
      refine TL_nil ?_
      refine T_block ?_
      refine T_loopK (σ := GapSt) [3, 5] (fun g => g.i ≤ ms.length ∧ g.s.length ≤ s.length + g.i ∧ ∀ k, hasK g.s k ↔ hasK s k ∨ k ∈ ms.take g.i) (fun g kv => (6, .int .i64 (g.i : Int)) :: kv) (fun g => sl (intR .i64) A45 c45 ms :: lr b9 g.s :: sl slotR A c xs :: L) (fun g => ms.length - g.i) (⟨0, s⟩) rfl (⟨Nat.zero_le _, by simp, by simp⟩) (GivesTo.g) (sub_cons rfl (sub_cons rfl (sub_cons rfl (sub_nil)))) ?_
      rintro ⟨j, s1⟩ ⟨hj, hs1, hkk⟩
      dsimp only at hj hs1 hkk ⊢
      refine T_seq ?_
      refine T_region ?_
      refine TL_y rfl rfl (Y_move rfl) ?_
      refine TL_y rfl rfl (Y_move rfl) ?_
      refine TL_y rfl rfl (Y_len rfl) ?_
      refine TL_y rfl rfl (Y_lt rfl rfl) ?_
      refine TL_nil ?_
      refine T_if rfl (fun h49 => ?_) (fun h49 => ?_)
      · refine T_skip ?_
        refine thenS_normal ?_
        refine T_seq ?_
        refine T_block ?_
        refine T_seq ?_
        obtain ⟨k, hkj⟩ : ∃ k, ms[j]? = some k := ⟨_, List.getElem?_eq_getElem (by omega)⟩
        obtain ⟨k0, hk0⟩ : ∃ k0, ms[j - 1]? = some k0 := ⟨_, List.getElem?_eq_getElem (by omega)⟩
        obtain ⟨q1, q2, q3, q4, q5⟩ := (hmm k).1 (List.mem_of_getElem? hkj)
        have hk3 := hs3 q3 q4
        have hik : intIn .i64 k := i64In_mk (by omega)
        have hlt : 0 < j → k0 < k := fun h0 => by have h1 := List.getElem?_eq_some_iff.1 hkj; have h2 := List.getElem?_eq_some_iff.1 hk0; have := (List.pairwise_iff_getElem.1 hms) (j - 1) j h2.1 h1.1 (by omega); rw [h1.2, h2.2] at this; exact this
        have hnot : ¬ hasK s1 k := fun h => by rcases (hkk k).1 h with h | h; exact q2 h; (obtain ⟨z, hz, hzk⟩ := List.mem_take_iff_getElem.1 h; have h1 := List.getElem?_eq_some_iff.1 hkj; have := (List.pairwise_iff_getElem.1 hms) z j (by omega) h1.1 (by omega); rw [h1.2, hzk] at this; omega)
        have hnone : getM s1 k = none := by unfold hasK at hnot; cases hg : getM s1 k with | none => rfl | some _ => rw [hg] at hnot; simp at hnot
        refine T_region ?_
        refine TL_y rfl rfl (Y_move rfl) ?_
        refine TL_y rfl rfl (Y_move rfl) ?_
        refine TL_y rfl rfl (Y_move rfl) ?_
        refine TL_index_int rfl rfl rfl slk hkj ?_
        intro hi56 bi56 oi56
        refine TL_y rfl rfl (Y_load_row rfl rfl) ?_
        refine TL_pullk b9 ?_
        refine TL_call rfl rfl (lrGet_spec k hik) ?_
        rintro _ _ ⟨q, rfl, hoq, rfl⟩
        refine TL_freeze_osl ?_
        refine TL_y rfl rfl (Y_move rfl) ?_
        refine TL_y rfl rfl (Y_extract rfl rfl) ?_
        refine TL_y rfl rfl (Y_extract rfl rfl) ?_
        refine TL_name 60 (v' := .bool false) rfl (congrArg Value.bool (by rw [hnone]; rfl)) ?_
        refine TL_alloc rfl rfl ?_
        intro b7
        refine TL_store rfl rfl rfl rfl rfl rfl ?_
        refine TL_y rfl rfl (Y_assign rfl) ?_
        refine TL_nil ?_
        refine T_addr_n (sln (A := A45) (c := c45)) hkj fun bq oq eq => ?_
        subst eq
        refine T_region_draw _ [0, 1, 3, 7, 15, 31, 31, 95, 255, 511, 31, 31, 3103, 7199, 16383, 32767, 65535] [] [(0, true), (1, true), (2, true), (3, true), (4, true), (5, true), (6, true), (7, true), (8, true), (9, true), (10, true), (11, true), (12, true), (13, true), (14, true), (15, true), (16, true)] (by kernel_rfl) (by decide +kernel) (Gives.refl _) ?_
        refine TF_y rfl rfl (Y_move rfl) ?_
        refine TF_y rfl rfl (Y_move rfl) ?_
        refine TF_gy rfl rfl rfl rfl (Y_move rfl) ?_
        refine TF_gy rfl rfl rfl rfl (Y_gt rfl rfl) ?_
        refine TF_gy rfl rfl rfl rfl (Y_move rfl) ?_
        refine TF_splitd 65 rfl (fun h65 => ?_) (fun h65 => ?_)
        · refine TF_gy rfl rfl rfl rfl (Y_move rfl) ?_
          refine TF_gy rfl rfl rfl rfl (Y_move rfl) ?_
          refine TF_gy rfl rfl rfl rfl (Y_sub rfl rfl (by omega)) ?_
          refine TF_name 68 (v' := .int .i64 ((j - 1 : Nat) : Int)) rfl (by congr 1; omega) ?_
          refine TF_gy rfl rfl rfl rfl (Y_index_n (R := intR .i64) (xs := ms) rfl rfl rfl hk0) ?_
          refine TF_gy rfl rfl rfl rfl (Y_load_n (R := intR .i64) (c := c45) (xs := ms) (q := 0) rfl sln hk0 rfl) ?_
          refine TF_gy rfl rfl rfl rfl (Y_move rfl) ?_
          refine TF_gy rfl rfl rfl rfl (Y_move rfl) ?_
          refine TF_gy rfl rfl rfl rfl (Y_index_n (R := intR .i64) (xs := ms) rfl rfl rfl hkj) ?_
          refine TF_gy rfl rfl rfl rfl (Y_load_n (R := intR .i64) (c := c45) (xs := ms) (q := 0) rfl sln hkj rfl) ?_
          refine TF_gy rfl rfl rfl rfl (Y_ge rfl rfl) ?_
          refine TF_name 75 (v' := .bool false) rfl (congrArg Value.bool (decide_eq_false (by have := hlt (by omega); omega))) ?_
          refine TF_gy rfl rfl rfl rfl (Y_pick_t rfl rfl) ?_
          refine TF_y rfl rfl (Y_pick_f rfl rfl) ?_
          refine TF_nil ?_
          refine T_cond_false rfl ?_
          refine T_skip ?_
          refine thenS_normal ?_
          refine T_region_draw_last _ [0, 0, 0, 6, 14, 0, 63] [6] [(0, true), (1, true), (2, true), (3, true), (4, true), (5, false), (6, false)] (by kernel_rfl) (by decide +kernel) (Gives.refl _) ?_
          refine TF_y rfl rfl (Y_move rfl) ?_
          refine TF_y rfl rfl (Y_move rfl) ?_
          refine TF_y rfl rfl (Y_move rfl) ?_
          refine TF_y rfl rfl (Y_index_n (R := intR .i64) (xs := ms) rfl rfl rfl hkj) ?_
          refine TF_y rfl rfl (Y_load_n (R := intR .i64) (c := c45) (xs := ms) (q := 0) rfl sln hkj rfl) ?_
          refine TF_anchor rfl ?_
          refine TL_call rfl rfl (noop_spec _) ?_
          rintro _ _ ⟨rfl, rfl⟩
          refine TF_end GivesTo.g ?_
          refine TF_anchor rfl ?_
          refine TL_pullk b9 ?_
          refine TL_call rfl rfl (lrChoose_spec k noopE hik noop_ok (by decide) .nil) ?_
          rintro _ _ ⟨rfl, rfl⟩
          have hce : (chooseS s1 k noopE).1 = putS s1 k noopE := by unfold chooseS; rw [if_neg (by simp only [Classical.not_not]; exact ⟨by decide, by omega, by omega⟩), hnone]; simp only; rw [if_neg (by omega)]
          rw [hce]
          refine TF_end_tail rfl ?_
          refine TF_nil ?_
          refine inB_normal ?_
          refine thenS_normal ?_
          refine T_region_last ?_
          refine TL_y rfl rfl (Y_move rfl) ?_
          refine TL_y rfl rfl (Y_add rfl rfl (by omega)) ?_
          refine TL_name 51 (v' := .int .i64 ((j + 1 : Nat) : Int)) rfl (rfl) ?_
          refine TL_y rfl rfl (Y_assign rfl) ?_
          refine TL_nil ?_
          refine thenS_normal ?_
          exact ⟨⟨j + 1, putS s1 k noopE⟩, ⟨by simp only; omega, by simp only [putS, insW_len]; omega, fun k' => by rw [putS_has, hkk, take_at hkj, List.mem_append, List.mem_singleton]; constructor; (rintro (h | h | h); exact .inr (.inr h); exact .inl h; exact .inr (.inl h)); (rintro (h | h | h); exact .inr (.inl h); exact .inr (.inr h); exact .inl h)⟩, by simp only; omega, holds_to (sub_cons rfl (sub_cons rfl (sub_cons rfl (sub_nil)))) GivesTo.g⟩
        · refine TF_gskip rfl rfl rfl rfl rfl ?_
          refine TF_gskip rfl rfl rfl rfl rfl ?_
          refine TF_gskip rfl rfl rfl rfl rfl ?_
          refine TF_gskip rfl rfl rfl rfl rfl ?_
          refine TF_gskip rfl rfl rfl rfl rfl ?_
          refine TF_gskip rfl rfl rfl rfl rfl ?_
          refine TF_gskip rfl rfl rfl rfl rfl ?_
          refine TF_gskip rfl rfl rfl rfl rfl ?_
          refine TF_gskip rfl rfl rfl rfl rfl ?_
          refine TF_gskip rfl rfl rfl rfl rfl ?_
          refine TF_gy rfl rfl rfl rfl (Y_pick_f rfl rfl) ?_
          refine TF_y rfl rfl (Y_pick_f rfl rfl) ?_
          refine TF_nil ?_
          refine T_cond_false rfl ?_
          refine T_skip ?_
          refine thenS_normal ?_
          refine T_region_draw_last _ [0, 0, 0, 6, 14, 0, 63] [6] [(0, true), (1, true), (2, true), (3, true), (4, true), (5, false), (6, false)] (by kernel_rfl) (by decide +kernel) (Gives.refl _) ?_
          refine TF_y rfl rfl (Y_move rfl) ?_
          refine TF_y rfl rfl (Y_move rfl) ?_
          refine TF_y rfl rfl (Y_move rfl) ?_
          refine TF_y rfl rfl (Y_index_n (R := intR .i64) (xs := ms) rfl rfl rfl hkj) ?_
          refine TF_y rfl rfl (Y_load_n (R := intR .i64) (c := c45) (xs := ms) (q := 0) rfl sln hkj rfl) ?_
          refine TF_anchor rfl ?_
          refine TL_call rfl rfl (noop_spec _) ?_
          rintro _ _ ⟨rfl, rfl⟩
          refine TF_end GivesTo.g ?_
          refine TF_anchor rfl ?_
          refine TL_pullk b9 ?_
          refine TL_call rfl rfl (lrChoose_spec k noopE hik noop_ok (by decide) .nil) ?_
          rintro _ _ ⟨rfl, rfl⟩
          have hce : (chooseS s1 k noopE).1 = putS s1 k noopE := by unfold chooseS; rw [if_neg (by simp only [Classical.not_not]; exact ⟨by decide, by omega, by omega⟩), hnone]; simp only; rw [if_neg (by omega)]
          rw [hce]
          refine TF_end_tail rfl ?_
          refine TF_nil ?_
          refine inB_normal ?_
          refine thenS_normal ?_
          refine T_region_last ?_
          refine TL_y rfl rfl (Y_move rfl) ?_
          refine TL_y rfl rfl (Y_add rfl rfl (by omega)) ?_
          refine TL_name 51 (v' := .int .i64 ((j + 1 : Nat) : Int)) rfl (rfl) ?_
          refine TL_y rfl rfl (Y_assign rfl) ?_
          refine TL_nil ?_
          refine thenS_normal ?_
          exact ⟨⟨j + 1, putS s1 k noopE⟩, ⟨by simp only; omega, by simp only [putS, insW_len]; omega, fun k' => by rw [putS_has, hkk, take_at hkj, List.mem_append, List.mem_singleton]; constructor; (rintro (h | h | h); exact .inr (.inr h); exact .inl h; exact .inr (.inl h)); (rintro (h | h | h); exact .inr (.inl h); exact .inr (.inr h); exact .inl h)⟩, by simp only; omega, holds_to (sub_cons rfl (sub_cons rfl (sub_cons rfl (sub_nil)))) GivesTo.g⟩
      · refine T_exit ?_
        refine thenS_exit ?_
        refine thenS_exit ?_
        refine inB_hit ?_
        refine thenS_normal ?_
        have hall : ∀ k, hasK s1 k ↔ hasK s k ∨ k ∈ ms := by have := hkk; rwa [List.take_of_length_le (by omega)] at this
        refine T_pullk b9 ?_
        refine T_lrI fun hl1i => ?_
        obtain ⟨hw1, hw2⟩ := whole hl1i (fun j k h0 hjk hkx => (hall j).2 (by rcases (hall k).1 hkx with h | h; (obtain ⟨p, hp, rfl⟩ := hasK_key.1 h; by_cases h1 : ((pfx s : Nat) : Int) ≤ j; (by_cases h2 : hasK s j; exact .inl h2; exact .inr ((hmm j).2 ⟨h1, h2, p, hp, hjk⟩)); (left; have := hli.below (k := j.toNat) (by omega); rwa [Int.toNat_of_nonneg h0] at this)); (obtain ⟨a1, a2, p, hp, a3⟩ := (hmm k).1 h; by_cases h1 : ((pfx s : Nat) : Int) ≤ j; (by_cases h2 : hasK s j; exact .inl h2; exact .inr ((hmm j).2 ⟨h1, h2, p, hp, by omega⟩)); (left; have := hli.below (k := j.toNat) (by omega); rwa [Int.toNat_of_nonneg h0] at this))))
        refine T_region ?_
        refine TL_y rfl rfl (Y_move rfl) ?_
        refine TL_pullk b9 ?_
        refine TL_call rfl rfl (lrPrefix_spec) ?_
        rintro _ _ ⟨rfl, rfl⟩
        refine TL_y rfl rfl (Y_move rfl) ?_
        refine TL_pullk b9 ?_
        refine TL_call rfl rfl (lrLen_spec) ?_
        rintro _ _ ⟨rfl, rfl⟩
        refine TL_y rfl rfl (Y_eq rfl rfl) ?_
        refine TL_name 89 (v' := .bool true) rfl (congrArg Value.bool (decide_eq_true (by rw [hw1]))) ?_
        refine TL_y rfl rfl (Y_move rfl) ?_
        refine TL_grun rfl rfl ?_
        refine TL_y rfl rfl (Y_move rfl) ?_
        refine TL_grun rfl rfl ?_
        refine TL_pullk b9 ?_
        refine TL_call rfl rfl (lrExtras_spec) ?_
        rintro _ _ ⟨A92, c92, rfl, rfl⟩
        rw [hw2]
        refine TL_grun rfl rfl ?_
        refine TL_y rfl rfl (Y_len rfl) ?_
        refine TL_grun rfl rfl ?_
        refine TL_y rfl rfl (Y_eq rfl rfl) ?_
        refine TL_name 94 (v' := .bool true) rfl (by simp) ?_
        refine TL_y rfl rfl (Y_pick_t rfl rfl) ?_
        refine TL_y rfl rfl (Y_move rfl) ?_
        refine TL_grun rfl rfl ?_
        refine TL_y rfl rfl (Y_move rfl) ?_
        refine TL_grun rfl rfl ?_
        refine TL_pullk b9 ?_
        refine TL_call rfl rfl (lrMissing_spec 1) ?_
        rintro _ _ ⟨A98, c98, rfl, rfl⟩
        rw [show missingS s1 1 = [] by unfold missingS; rw [hw2]; rfl]
        refine TL_grun rfl rfl ?_
        refine TL_y rfl rfl (Y_len rfl) ?_
        refine TL_grun rfl rfl ?_
        refine TL_y rfl rfl (Y_eq rfl rfl) ?_
        refine TL_name 100 (v' := .bool true) rfl (by simp) ?_
        refine TL_y rfl rfl (Y_pick_t rfl rfl) ?_
        refine TL_y rfl rfl (Y_assign rfl) ?_
        refine TL_nil ?_
        refine T_ret ?_
        exact RetG_1 (.inl rfl) rfl (ResV.tmp rfl) GivesTo.g (⟨rfl, rfl⟩)
  · refine TL_gskip rfl rfl rfl rfl ?_
    refine TL_gskip rfl rfl rfl rfl ?_
    refine TL_y rfl rfl (Y_pick_f rfl rfl) ?_
    refine TL_nil ?_
    refine T_cond_false rfl ?_
    refine T_exit ?_
    refine thenS_exit ?_
    refine thenS_exit ?_
    refine inB_hit ?_
    refine thenS_normal ?_
    refine T_pullk b9 ?_
    refine T_lrI fun hli => ?_
    have hms := miss_sorted hli 4096
    have hmm := miss_mem hli (most := 4096) (fun p hp => by have := hs3 p hp; omega)
    have hml : (missingS s 4096).length ≤ 4096 := missF_len (by omega) (by simp)
    refine T_region ?_
    refine TL_y rfl rfl (Y_move rfl) ?_
    refine TL_pullk b9 ?_
    refine TL_call rfl rfl (lrMissing_spec 4096) ?_
    rintro _ _ ⟨A45, c45, rfl, rfl⟩
    refine TL_freeze_osl ?_
    generalize hmg : missingS s 4096 = ms at hms hmm hml ⊢
    refine TL_y rfl rfl (Y_assign rfl) ?_
    refine TL_nil ?_
    refine T_seq ?_
    refine T_region ?_
    refine TL_y rfl rfl (Y_assign rfl) ?_
    refine TL_nil ?_
    refine T_block ?_
    refine T_loopK (σ := GapSt) [3, 5] (fun g => g.i ≤ ms.length ∧ g.s.length ≤ s.length + g.i ∧ ∀ k, hasK g.s k ↔ hasK s k ∨ k ∈ ms.take g.i) (fun g kv => (6, .int .i64 (g.i : Int)) :: kv) (fun g => sl (intR .i64) A45 c45 ms :: lr b9 g.s :: sl slotR A c xs :: L) (fun g => ms.length - g.i) (⟨0, s⟩) rfl (⟨Nat.zero_le _, by simp, by simp⟩) (GivesTo.g) (sub_cons rfl (sub_cons rfl (sub_cons rfl (sub_nil)))) ?_
    rintro ⟨j, s1⟩ ⟨hj, hs1, hkk⟩
    dsimp only at hj hs1 hkk ⊢
    refine T_seq ?_
    refine T_region ?_
    refine TL_y rfl rfl (Y_move rfl) ?_
    refine TL_y rfl rfl (Y_move rfl) ?_
    refine TL_y rfl rfl (Y_len rfl) ?_
    refine TL_y rfl rfl (Y_lt rfl rfl) ?_
    refine TL_nil ?_
    refine T_if rfl (fun h49 => ?_) (fun h49 => ?_)
    · refine T_skip ?_
      refine thenS_normal ?_
      refine T_seq ?_
      refine T_block ?_
      refine T_seq ?_
      obtain ⟨k, hkj⟩ : ∃ k, ms[j]? = some k := ⟨_, List.getElem?_eq_getElem (by omega)⟩
      obtain ⟨k0, hk0⟩ : ∃ k0, ms[j - 1]? = some k0 := ⟨_, List.getElem?_eq_getElem (by omega)⟩
      obtain ⟨q1, q2, q3, q4, q5⟩ := (hmm k).1 (List.mem_of_getElem? hkj)
      have hk3 := hs3 q3 q4
      have hik : intIn .i64 k := i64In_mk (by omega)
      have hlt : 0 < j → k0 < k := fun h0 => by have h1 := List.getElem?_eq_some_iff.1 hkj; have h2 := List.getElem?_eq_some_iff.1 hk0; have := (List.pairwise_iff_getElem.1 hms) (j - 1) j h2.1 h1.1 (by omega); rw [h1.2, h2.2] at this; exact this
      have hnot : ¬ hasK s1 k := fun h => by rcases (hkk k).1 h with h | h; exact q2 h; (obtain ⟨z, hz, hzk⟩ := List.mem_take_iff_getElem.1 h; have h1 := List.getElem?_eq_some_iff.1 hkj; have := (List.pairwise_iff_getElem.1 hms) z j (by omega) h1.1 (by omega); rw [h1.2, hzk] at this; omega)
      have hnone : getM s1 k = none := by unfold hasK at hnot; cases hg : getM s1 k with | none => rfl | some _ => rw [hg] at hnot; simp at hnot
      refine T_region ?_
      refine TL_y rfl rfl (Y_move rfl) ?_
      refine TL_y rfl rfl (Y_move rfl) ?_
      refine TL_y rfl rfl (Y_move rfl) ?_
      refine TL_index_int rfl rfl rfl slk hkj ?_
      intro hi56 bi56 oi56
      refine TL_y rfl rfl (Y_load_row rfl rfl) ?_
      refine TL_pullk b9 ?_
      refine TL_call rfl rfl (lrGet_spec k hik) ?_
      rintro _ _ ⟨q, rfl, hoq, rfl⟩
      refine TL_freeze_osl ?_
      refine TL_y rfl rfl (Y_move rfl) ?_
      refine TL_y rfl rfl (Y_extract rfl rfl) ?_
      refine TL_y rfl rfl (Y_extract rfl rfl) ?_
      refine TL_name 60 (v' := .bool false) rfl (congrArg Value.bool (by rw [hnone]; rfl)) ?_
      refine TL_alloc rfl rfl ?_
      intro b7
      refine TL_store rfl rfl rfl rfl rfl rfl ?_
      refine TL_y rfl rfl (Y_assign rfl) ?_
      refine TL_nil ?_
      refine T_addr_n (sln (A := A45) (c := c45)) hkj fun bq oq eq => ?_
      subst eq
      refine T_region_draw _ [0, 1, 3, 7, 15, 31, 31, 95, 255, 511, 31, 31, 3103, 7199, 16383, 32767, 65535] [] [(0, true), (1, true), (2, true), (3, true), (4, true), (5, true), (6, true), (7, true), (8, true), (9, true), (10, true), (11, true), (12, true), (13, true), (14, true), (15, true), (16, true)] (by kernel_rfl) (by decide +kernel) (Gives.refl _) ?_
      refine TF_y rfl rfl (Y_move rfl) ?_
      refine TF_y rfl rfl (Y_move rfl) ?_
      refine TF_gy rfl rfl rfl rfl (Y_move rfl) ?_
      refine TF_gy rfl rfl rfl rfl (Y_gt rfl rfl) ?_
      refine TF_gy rfl rfl rfl rfl (Y_move rfl) ?_
      refine TF_splitd 65 rfl (fun h65 => ?_) (fun h65 => ?_)
      · refine TF_gy rfl rfl rfl rfl (Y_move rfl) ?_
        refine TF_gy rfl rfl rfl rfl (Y_move rfl) ?_
        refine TF_gy rfl rfl rfl rfl (Y_sub rfl rfl (by omega)) ?_
        refine TF_name 68 (v' := .int .i64 ((j - 1 : Nat) : Int)) rfl (by congr 1; omega) ?_
        refine TF_gy rfl rfl rfl rfl (Y_index_n (R := intR .i64) (xs := ms) rfl rfl rfl hk0) ?_
        refine TF_gy rfl rfl rfl rfl (Y_load_n (R := intR .i64) (c := c45) (xs := ms) (q := 0) rfl sln hk0 rfl) ?_
        refine TF_gy rfl rfl rfl rfl (Y_move rfl) ?_
        refine TF_gy rfl rfl rfl rfl (Y_move rfl) ?_
        refine TF_gy rfl rfl rfl rfl (Y_index_n (R := intR .i64) (xs := ms) rfl rfl rfl hkj) ?_
        refine TF_gy rfl rfl rfl rfl (Y_load_n (R := intR .i64) (c := c45) (xs := ms) (q := 0) rfl sln hkj rfl) ?_
        refine TF_gy rfl rfl rfl rfl (Y_ge rfl rfl) ?_
        refine TF_name 75 (v' := .bool false) rfl (congrArg Value.bool (decide_eq_false (by have := hlt (by omega); omega))) ?_
        refine TF_gy rfl rfl rfl rfl (Y_pick_t rfl rfl) ?_
        refine TF_y rfl rfl (Y_pick_f rfl rfl) ?_
        refine TF_nil ?_
        refine T_cond_false rfl ?_
        refine T_skip ?_
        refine thenS_normal ?_
        refine T_region_draw_last _ [0, 0, 0, 6, 14, 0, 63] [6] [(0, true), (1, true), (2, true), (3, true), (4, true), (5, false), (6, false)] (by kernel_rfl) (by decide +kernel) (Gives.refl _) ?_
        refine TF_y rfl rfl (Y_move rfl) ?_
        refine TF_y rfl rfl (Y_move rfl) ?_
        refine TF_y rfl rfl (Y_move rfl) ?_
        refine TF_y rfl rfl (Y_index_n (R := intR .i64) (xs := ms) rfl rfl rfl hkj) ?_
        refine TF_y rfl rfl (Y_load_n (R := intR .i64) (c := c45) (xs := ms) (q := 0) rfl sln hkj rfl) ?_
        refine TF_anchor rfl ?_
        refine TL_call rfl rfl (noop_spec _) ?_
        rintro _ _ ⟨rfl, rfl⟩
        refine TF_end GivesTo.g ?_
        refine TF_anchor rfl ?_
        refine TL_pullk b9 ?_
        refine TL_call rfl rfl (lrChoose_spec k noopE hik noop_ok (by decide) .nil) ?_
        rintro _ _ ⟨rfl, rfl⟩
        have hce : (chooseS s1 k noopE).1 = putS s1 k noopE := by unfold chooseS; rw [if_neg (by simp only [Classical.not_not]; exact ⟨by decide, by omega, by omega⟩), hnone]; simp only; rw [if_neg (by omega)]
        rw [hce]
        refine TF_end_tail rfl ?_
        refine TF_nil ?_
        refine inB_normal ?_
        refine thenS_normal ?_
        refine T_region_last ?_
        refine TL_y rfl rfl (Y_move rfl) ?_
        refine TL_y rfl rfl (Y_add rfl rfl (by omega)) ?_
        refine TL_name 51 (v' := .int .i64 ((j + 1 : Nat) : Int)) rfl (rfl) ?_
        refine TL_y rfl rfl (Y_assign rfl) ?_
        refine TL_nil ?_
        refine thenS_normal ?_
        exact ⟨⟨j + 1, putS s1 k noopE⟩, ⟨by simp only; omega, by simp only [putS, insW_len]; omega, fun k' => by rw [putS_has, hkk, take_at hkj, List.mem_append, List.mem_singleton]; constructor; (rintro (h | h | h); exact .inr (.inr h); exact .inl h; exact .inr (.inl h)); (rintro (h | h | h); exact .inr (.inl h); exact .inr (.inr h); exact .inl h)⟩, by simp only; omega, holds_to (sub_cons rfl (sub_cons rfl (sub_cons rfl (sub_nil)))) GivesTo.g⟩
      · refine TF_gskip rfl rfl rfl rfl rfl ?_
        refine TF_gskip rfl rfl rfl rfl rfl ?_
        refine TF_gskip rfl rfl rfl rfl rfl ?_
        refine TF_gskip rfl rfl rfl rfl rfl ?_
        refine TF_gskip rfl rfl rfl rfl rfl ?_
        refine TF_gskip rfl rfl rfl rfl rfl ?_
        refine TF_gskip rfl rfl rfl rfl rfl ?_
        refine TF_gskip rfl rfl rfl rfl rfl ?_
        refine TF_gskip rfl rfl rfl rfl rfl ?_
        refine TF_gskip rfl rfl rfl rfl rfl ?_
        refine TF_gy rfl rfl rfl rfl (Y_pick_f rfl rfl) ?_
        refine TF_y rfl rfl (Y_pick_f rfl rfl) ?_
        refine TF_nil ?_
        refine T_cond_false rfl ?_
        refine T_skip ?_
        refine thenS_normal ?_
        refine T_region_draw_last _ [0, 0, 0, 6, 14, 0, 63] [6] [(0, true), (1, true), (2, true), (3, true), (4, true), (5, false), (6, false)] (by kernel_rfl) (by decide +kernel) (Gives.refl _) ?_
        refine TF_y rfl rfl (Y_move rfl) ?_
        refine TF_y rfl rfl (Y_move rfl) ?_
        refine TF_y rfl rfl (Y_move rfl) ?_
        refine TF_y rfl rfl (Y_index_n (R := intR .i64) (xs := ms) rfl rfl rfl hkj) ?_
        refine TF_y rfl rfl (Y_load_n (R := intR .i64) (c := c45) (xs := ms) (q := 0) rfl sln hkj rfl) ?_
        refine TF_anchor rfl ?_
        refine TL_call rfl rfl (noop_spec _) ?_
        rintro _ _ ⟨rfl, rfl⟩
        refine TF_end GivesTo.g ?_
        refine TF_anchor rfl ?_
        refine TL_pullk b9 ?_
        refine TL_call rfl rfl (lrChoose_spec k noopE hik noop_ok (by decide) .nil) ?_
        rintro _ _ ⟨rfl, rfl⟩
        have hce : (chooseS s1 k noopE).1 = putS s1 k noopE := by unfold chooseS; rw [if_neg (by simp only [Classical.not_not]; exact ⟨by decide, by omega, by omega⟩), hnone]; simp only; rw [if_neg (by omega)]
        rw [hce]
        refine TF_end_tail rfl ?_
        refine TF_nil ?_
        refine inB_normal ?_
        refine thenS_normal ?_
        refine T_region_last ?_
        refine TL_y rfl rfl (Y_move rfl) ?_
        refine TL_y rfl rfl (Y_add rfl rfl (by omega)) ?_
        refine TL_name 51 (v' := .int .i64 ((j + 1 : Nat) : Int)) rfl (rfl) ?_
        refine TL_y rfl rfl (Y_assign rfl) ?_
        refine TL_nil ?_
        refine thenS_normal ?_
        exact ⟨⟨j + 1, putS s1 k noopE⟩, ⟨by simp only; omega, by simp only [putS, insW_len]; omega, fun k' => by rw [putS_has, hkk, take_at hkj, List.mem_append, List.mem_singleton]; constructor; (rintro (h | h | h); exact .inr (.inr h); exact .inl h; exact .inr (.inl h)); (rintro (h | h | h); exact .inr (.inl h); exact .inr (.inr h); exact .inl h)⟩, by simp only; omega, holds_to (sub_cons rfl (sub_cons rfl (sub_cons rfl (sub_nil)))) GivesTo.g⟩
    · refine T_exit ?_
      refine thenS_exit ?_
      refine thenS_exit ?_
      refine inB_hit ?_
      refine thenS_normal ?_
      have hall : ∀ k, hasK s1 k ↔ hasK s k ∨ k ∈ ms := by have := hkk; rwa [List.take_of_length_le (by omega)] at this
      refine T_pullk b9 ?_
      refine T_lrI fun hl1i => ?_
      obtain ⟨hw1, hw2⟩ := whole hl1i (fun j k h0 hjk hkx => (hall j).2 (by rcases (hall k).1 hkx with h | h; (obtain ⟨p, hp, rfl⟩ := hasK_key.1 h; by_cases h1 : ((pfx s : Nat) : Int) ≤ j; (by_cases h2 : hasK s j; exact .inl h2; exact .inr ((hmm j).2 ⟨h1, h2, p, hp, hjk⟩)); (left; have := hli.below (k := j.toNat) (by omega); rwa [Int.toNat_of_nonneg h0] at this)); (obtain ⟨a1, a2, p, hp, a3⟩ := (hmm k).1 h; by_cases h1 : ((pfx s : Nat) : Int) ≤ j; (by_cases h2 : hasK s j; exact .inl h2; exact .inr ((hmm j).2 ⟨h1, h2, p, hp, by omega⟩)); (left; have := hli.below (k := j.toNat) (by omega); rwa [Int.toNat_of_nonneg h0] at this))))
      refine T_region ?_
      refine TL_y rfl rfl (Y_move rfl) ?_
      refine TL_pullk b9 ?_
      refine TL_call rfl rfl (lrPrefix_spec) ?_
      rintro _ _ ⟨rfl, rfl⟩
      refine TL_y rfl rfl (Y_move rfl) ?_
      refine TL_pullk b9 ?_
      refine TL_call rfl rfl (lrLen_spec) ?_
      rintro _ _ ⟨rfl, rfl⟩
      refine TL_y rfl rfl (Y_eq rfl rfl) ?_
      refine TL_name 89 (v' := .bool true) rfl (congrArg Value.bool (decide_eq_true (by rw [hw1]))) ?_
      refine TL_y rfl rfl (Y_move rfl) ?_
      refine TL_grun rfl rfl ?_
      refine TL_y rfl rfl (Y_move rfl) ?_
      refine TL_grun rfl rfl ?_
      refine TL_pullk b9 ?_
      refine TL_call rfl rfl (lrExtras_spec) ?_
      rintro _ _ ⟨A92, c92, rfl, rfl⟩
      rw [hw2]
      refine TL_grun rfl rfl ?_
      refine TL_y rfl rfl (Y_len rfl) ?_
      refine TL_grun rfl rfl ?_
      refine TL_y rfl rfl (Y_eq rfl rfl) ?_
      refine TL_name 94 (v' := .bool true) rfl (by simp) ?_
      refine TL_y rfl rfl (Y_pick_t rfl rfl) ?_
      refine TL_y rfl rfl (Y_move rfl) ?_
      refine TL_grun rfl rfl ?_
      refine TL_y rfl rfl (Y_move rfl) ?_
      refine TL_grun rfl rfl ?_
      refine TL_pullk b9 ?_
      refine TL_call rfl rfl (lrMissing_spec 1) ?_
      rintro _ _ ⟨A98, c98, rfl, rfl⟩
      rw [show missingS s1 1 = [] by unfold missingS; rw [hw2]; rfl]
      refine TL_grun rfl rfl ?_
      refine TL_y rfl rfl (Y_len rfl) ?_
      refine TL_grun rfl rfl ?_
      refine TL_y rfl rfl (Y_eq rfl rfl) ?_
      refine TL_name 100 (v' := .bool true) rfl (by simp) ?_
      refine TL_y rfl rfl (Y_pick_t rfl rfl) ?_
      refine TL_y rfl rfl (Y_assign rfl) ?_
      refine TL_nil ?_
      refine T_ret ?_
      exact RetG_1 (.inl rfl) rfl (ResV.tmp rfl) GivesTo.g (⟨rfl, rfl⟩)
end Go.SL
