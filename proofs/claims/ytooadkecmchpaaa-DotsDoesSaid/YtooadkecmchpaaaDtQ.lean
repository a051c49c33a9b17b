/- Dots: the law that what is missing fills a vector. -/
import Derived.Test.YtooadkecmchpaaaDtX
set_option linter.unusedVariables false
set_option linter.unusedSimpArgs false
namespace Go.SL
open Go Go.Proofs
theorem mem_betL {a b : List Int} {d : DotD} : d ∈ betL a b ↔ ∃ o : Nat, o < b.length ∧ d.1 = (o : Int) ∧ max (ofV a (o : Int)) 0 < d.2 ∧ d.2 ≤ (b[o]?).getD 0 := by
  simp only [betL, betO, List.mem_flatMap, List.mem_range, List.mem_map]
  constructor
  · rintro ⟨o, ho, i, hi, rfl⟩
    exact ⟨o, ho, rfl, by dsimp only; omega, by dsimp only; omega⟩
  · rintro ⟨o, ho, h1, h2, h3⟩
    exact ⟨o, ho, (d.2 - max (ofV a (o : Int)) 0 - 1).toNat, by omega, Prod.ext (by dsimp only; omega) (by dsimp only; omega)⟩
theorem betL_sorted (a b : List Int) : (betL a b).Pairwise (fun x y => lessD x y = true) := by
  unfold betL
  refine List.pairwise_flatMap.2 ⟨fun o _ => ?_, List.pairwise_lt_range.imp fun {p q} hpq x hx y hy => ?_⟩
  · unfold betO
    exact List.pairwise_map.2 (List.pairwise_lt_range.imp fun h => by rw [lessD_iff]; right; exact ⟨rfl, by dsimp only; omega⟩)
  · simp only [betO, List.mem_map] at hx hy
    obtain ⟨i, _, rfl⟩ := hx
    obtain ⟨j, _, rfl⟩ := hy
    rw [lessD_iff]; left; dsimp only; omega
theorem betL_len (a b : List Int) {k : Nat} (h : ∀ x ∈ b, x ≤ (k : Int)) : (betL a b).length ≤ b.length * k := by
  unfold betL
  rw [List.length_flatMap]
  have : ∀ (n : Nat), ((List.range n).map fun o => (betO a b o).length).sum ≤ n * k := fun n => by
    induction n with
    | zero => simp
    | succ n ih =>
      rw [List.range_succ, List.map_append, List.sum_append]
      have : (betO a b n).length ≤ k := by
        rw [betO_len]
        cases hb : b[n]? with
        | none => simp; omega
        | some x => have := h x (List.mem_of_getElem? hb); simp; omega
      simp only [List.map_cons, List.map_nil, List.sum_cons, List.sum_nil]
      rw [Nat.add_mul]
      omega
  exact this b.length
theorem lessD_nodup {c : List DotD} (hc : c.Pairwise fun x y => lessD x y = true) : c.Nodup := hc.imp fun hh e => by rw [e, lessD_iff] at hh; omega
theorem not_take {α : Type} {xs : List α} (hn : xs.Nodup) {i : Nat} {x : α} (h : xs[i]? = some x) : x ∉ xs.take i := fun hm => by
  obtain ⟨j, hj, e⟩ := List.mem_take_iff_getElem.1 hm
  obtain ⟨h1, h2⟩ := List.getElem?_eq_some_iff.1 h
  have := (List.pairwise_iff_getElem.1 hn) j i (by omega) h1 (by omega)
  exact this (by rw [e, h2])
structure FlSt where
  i : Nat
  lc : List (DotD × tSTR)
theorem fill_vec {l lc : List (DotD × tSTR)} {v ms : List Int × List DotD} (hi : DI l) (hc : DI lc) (hm : ∀ d, d ∈ ms.2 ↔ d ∈ betL (vecL l) v.1 ∧ ¬ hasD l d) (hh : ∀ d, hasD lc d ↔ hasD l d ∨ d ∈ ms.2) {i : Nat} {x : Int} (hx : v.1[i]? = some x) (h7 : i < 7) : x ≤ (vecO lc (i : Int) : Int) := by
  have hlt := (List.getElem?_eq_some_iff.1 hx).1
  refine Int.not_lt.1 fun hgt => hc.vec_gap (i : Int) ((hh _).2 ?_)
  by_cases hd : hasD l ((i : Int), (vecO lc (i : Int) : Int) + 1)
  · exact .inl hd
  · refine .inr ((hm _).2 ⟨mem_betL.2 ⟨i, hlt, rfl, ?_, ?_⟩, hd⟩)
    · rw [ofV_vecL h7]
      dsimp only
      have := hi.vec_gap (i : Int)
      by_cases hle : (vecO lc (i : Int) : Int) + 1 ≤ (vecO l (i : Int) : Int)
      · exact absurd (hi.vec_has (by omega) hle) hd
      · omega
    · rw [hx]; dsimp only [Option.getD]; omega
theorem dotsFill_walk {L : List HP} {A Av : Option Addr} {c cv : Nat} {ys : List pairD} {v : List Int} (hk : SlK L pairR A c ys) (hkv : SlK L (intR .i64) Av cv v) (hvl : v.length ≤ 17592186043904) : Fn Try.prog 4 #[.slice A ys.length c, .slice Av v.length cv] L (fun v L' => v = .bool true ∧ L' = L) := by
  refine Fn_enter Try.func4 rfl rfl rfl rfl ?_
  refine T_gives hk.lay ?_
  refine T_gives hkv.tail.lay ?_
  refine hk.tail.tail.lens fun hyl => ?_
  simp only [maxEl] at hyl
  refine T_region ?_
  refine TL_y rfl rfl (Y_assign rfl) ?_
  refine TL_nil ?_
  refine T_region ?_
  refine TL_call rfl rfl (newSTR_spec _) ?_
  rintro _ _ ⟨b12, p12, rfl, rfl⟩
  refine TL_y rfl rfl (Y_assign rfl) ?_
  refine TL_nil ?_
  refine T_seq ?_
  refine T_region ?_
  refine TL_call rfl rfl (lives09_spec _) ?_
  rintro _ _ ⟨rfl, rfl⟩
  refine TL_name 13 (v' := .bool true) rfl (rfl) ?_
  refine TL_y rfl rfl (Y_not_t rfl) ?_
  refine TL_y rfl rfl (Y_move rfl) ?_
  refine TL_grun rfl rfl ?_
  refine TL_y rfl rfl (Y_move rfl) ?_
  refine TL_grun rfl rfl ?_
  refine TL_y rfl rfl (Y_equal rfl rfl (EqIs.ptr_nil)) ?_
  refine TL_name 17 (v' := .bool false) rfl (by simp) ?_
  refine TL_y rfl rfl (Y_pick_f rfl rfl) ?_
  refine TL_nil ?_
  refine T_cond_false rfl ?_
  refine T_skip ?_
  refine thenS_normal ?_
  refine T_seq ?_
  refine T_region ?_
  refine TL_y rfl rfl (Y_move rfl) ?_
  refine TL_y rfl rfl (Y_len rfl) ?_
  refine TL_y rfl rfl (Y_gt rfl rfl) ?_
  refine TL_both 5 26 (1000 < ys.length ∨ 7 < v.length) ?_ ?_
  · refine TL_y rfl rfl (Y_move rfl) ?_
    refine TL_splitd 22 rfl (fun h22 => ?_) (fun h22 => ?_)
    · refine TL_gskip rfl rfl rfl rfl ?_
      refine TL_gskip rfl rfl rfl rfl ?_
      refine TL_gskip rfl rfl rfl rfl ?_
      refine TL_y rfl rfl (Y_pick_t rfl rfl) ?_
      refine TL_chain_end rfl ?_ (by repeat (first | exact sub_refl | refine sub_ext rfl ?_)) GivesTo.g
      exact congrArg Value.bool (decide_eq_true (by omega)).symm
    · refine TL_grun rfl rfl ?_
      refine TL_y rfl rfl (Y_move rfl) ?_
      refine TL_grun rfl rfl ?_
      refine TL_y rfl rfl (Y_len rfl) ?_
      refine TL_grun rfl rfl ?_
      refine TL_y rfl rfl (Y_gt rfl rfl) ?_
      refine TL_y rfl rfl (Y_pick_f rfl rfl) ?_
      refine TL_chain_end rfl ?_ (by repeat (first | exact sub_refl | refine sub_ext rfl ?_)) GivesTo.g
      exact congrArg Value.bool (decide_eq_decide.2 (by omega))
  refine TL_nil ?_
  refine T_if rfl (fun h26 => ?_) (fun h26 => ?_)
  · refine T_region ?_
    refine TL_y rfl rfl (Y_assign rfl) ?_
    refine TL_nil ?_
    refine T_ret ?_
    refine thenS_ret ?_
    exact RetG_1 (.inl rfl) rfl (ResV.tmp rfl) GivesTo.g (⟨rfl, rfl⟩)
  · have hb1 : ys.length ≤ 1000 := by omega
    have hb2 : v.length ≤ 7 := by omega
    refine T_skip ?_
    refine thenS_normal ?_
    refine T_seq ?_
    refine T_region ?_
    refine TL_y rfl rfl (Y_assign rfl) ?_
    refine TL_nil ?_
    refine T_block ?_
    refine T_loopK (σ := Nat) [0, 1, 5] (fun i => i ≤ v.length ∧ ∀ x ∈ v.take i, x ≤ 500) (fun i kv => (6, .int .i64 (i : Int)) :: kv) (fun i => dsSTR b12 p12 [] :: sl (intR .i64) Av cv v :: sl pairR A c ys :: L) (fun i => v.length - i) (0) rfl (⟨Nat.zero_le _, by simp⟩) (GivesTo.g) (sub_cons rfl (sub_cons rfl (sub_cons rfl (sub_cons rfl (sub_nil))))) ?_
    intro i hi
    refine T_seq ?_
    refine T_region ?_
    refine TL_y rfl rfl (Y_move rfl) ?_
    refine TL_y rfl rfl (Y_move rfl) ?_
    refine TL_y rfl rfl (Y_len rfl) ?_
    refine TL_y rfl rfl (Y_lt rfl rfl) ?_
    refine TL_nil ?_
    refine T_if rfl (fun h30 => ?_) (fun h30 => ?_)
    · refine T_skip ?_
      refine thenS_normal ?_
      refine T_seq ?_
      refine T_block ?_
      refine T_region ?_
      refine TL_y rfl rfl (Y_move rfl) ?_
      refine TL_y rfl rfl (Y_move rfl) ?_
      obtain ⟨x, hx⟩ : ∃ x, v[i]? = some x := ⟨_, List.getElem?_eq_getElem (by omega)⟩
      refine TL_index_int rfl rfl rfl slk hx ?_
      intro hi35 bi35 oi35
      refine TL_y rfl rfl (Y_load_row rfl rfl) ?_
      refine TL_y rfl rfl (Y_gt rfl rfl) ?_
      refine TL_nil ?_
      refine T_if rfl (fun h37 => ?_) (fun h37 => ?_)
      · refine T_region ?_
        refine TL_y rfl rfl (Y_assign rfl) ?_
        refine TL_nil ?_
        refine T_ret ?_
        refine inB_ret ?_
        refine thenS_ret ?_
        refine thenS_ret ?_
        refine inB_ret ?_
        refine thenS_ret ?_
        exact RetG_1 (.inl rfl) rfl (ResV.tmp rfl) GivesTo.g (⟨rfl, rfl⟩)
      · refine T_skip ?_
        refine inB_normal ?_
        refine thenS_normal ?_
        refine T_region_last ?_
        refine TL_y rfl rfl (Y_move rfl) ?_
        refine TL_y rfl rfl (Y_add rfl rfl (by omega)) ?_
        refine TL_name 32 (v' := .int .i64 ((i + 1 : Nat) : Int)) rfl (rfl) ?_
        refine TL_y rfl rfl (Y_assign rfl) ?_
        refine TL_nil ?_
        refine thenS_normal ?_
        exact ⟨i + 1, ⟨by omega, by rw [takeAt hx]; intro q hq; rcases List.mem_append.1 hq with h | h; exact hi.2 q h; (simp at h; subst h; omega)⟩, by omega, holds_to (sub_cons rfl (sub_cons rfl (sub_cons rfl (sub_cons rfl (sub_nil))))) GivesTo.g⟩
    · refine T_exit ?_
      refine thenS_exit ?_
      refine thenS_exit ?_
      refine inB_hit ?_
      refine thenS_normal ?_
      refine T_seq ?_
      have hv5 : ∀ x ∈ v, x ≤ ((500 : Nat) : Int) := by have := hi.2; rwa [List.take_of_length_le (by omega)] at this
      refine T_region ?_
      refine TL_y rfl rfl (Y_assign rfl) ?_
      refine TL_nil ?_
      refine T_block ?_
      refine T_loopK (σ := FlSt) [0, 1, 5] (fun g => g.i ≤ ys.length ∧ g.lc.length ≤ g.i) (fun g kv => (7, .int .i64 (g.i : Int)) :: kv) (fun g => dsSTR b12 p12 g.lc :: sl (intR .i64) Av cv v :: sl pairR A c ys :: L) (fun g => ys.length - g.i) (⟨0, []⟩) rfl (⟨Nat.zero_le _, Nat.zero_le _⟩) (GivesTo.g) (sub_cons rfl (sub_cons rfl (sub_cons rfl (sub_cons rfl (sub_nil))))) ?_
      rintro ⟨i2, l⟩ ⟨hi2, hl2⟩
      dsimp only at hi2 hl2 ⊢
      refine T_seq ?_
      refine T_region ?_
      refine TL_y rfl rfl (Y_move rfl) ?_
      refine TL_y rfl rfl (Y_move rfl) ?_
      refine TL_y rfl rfl (Y_len rfl) ?_
      refine TL_y rfl rfl (Y_lt rfl rfl) ?_
      refine TL_nil ?_
      refine T_if rfl (fun h41 => ?_) (fun h41 => ?_)
      · refine T_skip ?_
        refine thenS_normal ?_
        refine T_seq ?_
        refine T_block ?_
        obtain ⟨u, hu⟩ : ∃ u, ys[i2]? = some u := ⟨_, List.getElem?_eq_getElem (by omega)⟩
        refine T_elem_fact (sln (A := A) (c := c) (R := pairR)) hu (fun M l h => h.2) fun hou => ?_
        refine T_addr_n (sln (A := A) (c := c) (R := pairR)) hu fun bq oq eq => ?_
        subst eq
        refine T_region_draw_last _ [0, 0, 0, 6, 14, 30, 0, 0, 192, 448, 960, 2047] [11] [(0, true), (1, true), (2, true), (3, true), (4, true), (5, true), (6, true), (7, true), (8, true), (9, true), (10, true), (11, false)] (by kernel_rfl) (by decide +kernel) (Gives.refl _) ?_
        refine TF_y rfl rfl (Y_move rfl) ?_
        refine TF_y rfl rfl (Y_move rfl) ?_
        refine TF_y rfl rfl (Y_move rfl) ?_
        refine TF_y rfl rfl (Y_index_n (R := pairR) (xs := ys) rfl rfl rfl hu) ?_
        refine TF_y rfl rfl (Y_field_addr2 rfl) ?_
        refine TF_y rfl rfl (Y_load_naf (R := pairR) (c := c) (xs := ys) (q := 0) (vs := dotC u.1) rfl sln hu rfl) ?_
        refine TF_y rfl rfl (Y_move rfl) ?_
        refine TF_y rfl rfl (Y_move rfl) ?_
        refine TF_y rfl rfl (Y_index_n (R := pairR) (xs := ys) rfl rfl rfl hu) ?_
        refine TF_y rfl rfl (Y_field_addr2 rfl) ?_
        refine TF_y rfl rfl (Y_load_n (R := pairR) (c := c) (xs := ys) (q := 2) rfl sln hu rfl) ?_
        refine TF_anchor rfl ?_
        refine TL_pullk b12 ?_
        refine TL_call rfl rfl (addSTR_spec u.1 u.2 hou.2) ?_
        rintro _ _ ⟨rfl, rfl⟩
        refine TF_end_tail rfl ?_
        refine TF_nil ?_
        refine inB_normal ?_
        refine thenS_normal ?_
        have hb := add_len (l := l) (d := u.1) (x := u.2)
        refine T_region_last ?_
        refine TL_y rfl rfl (Y_move rfl) ?_
        refine TL_y rfl rfl (Y_add rfl rfl (by omega)) ?_
        refine TL_name 43 (v' := .int .i64 ((i2 + 1 : Nat) : Int)) rfl (rfl) ?_
        refine TL_y rfl rfl (Y_assign rfl) ?_
        refine TL_nil ?_
        refine thenS_normal ?_
        exact ⟨⟨i2 + 1, (addS l u.1 u.2).1⟩, ⟨by simp only; omega, by simp only; omega⟩, by simp only; omega, holds_to (sub_cons rfl (sub_cons rfl (sub_cons rfl (sub_cons rfl (sub_nil))))) GivesTo.g⟩
      · refine T_exit ?_
        refine thenS_exit ?_
        refine thenS_exit ?_
        refine inB_hit ?_
        refine thenS_normal ?_
        refine T_pullk b12 ?_
        refine T_dsSTRI fun hil => ?_
        have hml : (betL (vecL l) v).length ≤ 3500 := Nat.le_trans (betL_len _ _ hv5) (by omega)
        have hme : missD l v = (betL (vecL l) v).filter (fun d => !decide (hasD l d)) := by unfold missD; exact List.take_of_length_le (Nat.le_trans (List.length_filter_le _ _) (by omega))
        have hmm : ∀ d, d ∈ missD l v ↔ d ∈ betL (vecL l) v ∧ ¬ hasD l d := fun d => by rw [hme, List.mem_filter]; simp
        have hms : (missD l v).Nodup := by rw [hme]; exact lessD_nodup ((betL_sorted _ _).filter _)
        have hmn : (missD l v).length ≤ 3500 := by rw [hme]; exact Nat.le_trans (List.length_filter_le _ _) hml
        refine T_region ?_
        refine TL_y rfl rfl (Y_move rfl) ?_
        refine TL_y rfl rfl (Y_move rfl) ?_
        refine TL_pullk b12 ?_
        refine TL_call rfl rfl (missingSTR_spec (SlN.of_gives GivesTo.g hkv.n) hvl) ?_
        rintro _ _ ⟨A58, c58, rfl, rfl⟩
        refine TL_freeze_osl ?_
        generalize missD l v = ms at hmm hms hmn ⊢
        refine TL_y rfl rfl (Y_assign rfl) ?_
        refine TL_nil ?_
        refine T_seq ?_
        refine T_region ?_
        refine TL_y rfl rfl (Y_assign rfl) ?_
        refine TL_nil ?_
        refine T_block ?_
        refine T_loopK (σ := FlSt) [1, 5, 8] (fun g => g.i ≤ ms.length ∧ g.lc.length ≤ 1000 + g.i ∧ ∀ d, hasD g.lc d ↔ hasD l d ∨ d ∈ ms.take g.i) (fun g kv => (9, .int .i64 (g.i : Int)) :: kv) (fun g => sl dotR A58 c58 ms :: dsSTR b12 p12 g.lc :: sl (intR .i64) Av cv v :: sl pairR A c ys :: L) (fun g => ms.length - g.i) (⟨0, l⟩) rfl (⟨Nat.zero_le _, by simp only; omega, fun d => by simp⟩) (GivesTo.g) (sub_cons rfl (sub_cons rfl (sub_cons rfl (sub_cons rfl (sub_nil))))) ?_
        rintro ⟨j, lc⟩ ⟨hj, hlc, hhas⟩
        dsimp only at hj hlc hhas ⊢
        refine T_seq ?_
        refine T_region ?_
        refine TL_y rfl rfl (Y_move rfl) ?_
        refine TL_y rfl rfl (Y_move rfl) ?_
        refine TL_y rfl rfl (Y_len rfl) ?_
        refine TL_y rfl rfl (Y_lt rfl rfl) ?_
        refine TL_nil ?_
        refine T_if rfl (fun h62 => ?_) (fun h62 => ?_)
        · refine T_skip ?_
          refine thenS_normal ?_
          refine T_seq ?_
          refine T_block ?_
          obtain ⟨u, hu⟩ : ∃ u, ms[j]? = some u := ⟨_, List.getElem?_eq_getElem (by omega)⟩
          obtain ⟨hub, hun⟩ := (hmm u).1 (List.mem_of_getElem? hu)
          obtain ⟨o, ho1, ho2, ho3, ho4⟩ := mem_betL.1 hub
          have hmu : mayD u := by have hx := List.getElem?_eq_getElem ho1; rw [hx] at ho4; have := hv5 _ (List.getElem_mem ho1); simp only [Option.getD_some] at ho4; unfold mayD; omega
          have hnl : ¬ hasD lc u := fun h => by rcases (hhas u).1 h with h | h; exact hun h; exact not_take hms hu h
          have hadd : addS lc u ⟨#[110, 101, 119]⟩ = (putD lc u ⟨#[110, 101, 119]⟩, 0) := by unfold addS; rw [if_neg (fun h => h hmu), if_neg hnl, if_neg (by omega)]
          refine T_region ?_
          refine TL_y rfl rfl (Y_move rfl) ?_
          refine TL_y rfl rfl (Y_move rfl) ?_
          refine TL_y rfl rfl (Y_move rfl) ?_
          refine TL_index_n rfl rfl rfl (rfl) (sln) (hu) ?_
          intro bn68 on68 hA68 hk68
          have hu68 := hu
          refine TL_y rfl rfl (Y_load_naf rfl hk68 hu68 rfl) ?_
          refine TL_pullk b12 ?_
          refine TL_call rfl rfl (addSTR_spec u ⟨#[110, 101, 119]⟩ (show (3 : Nat) ≤ maxEl by decide)) ?_
          rintro _ _ ⟨rfl, rfl⟩
          rw [hadd]
          refine TL_y rfl rfl (Y_ne rfl rfl) ?_
          refine TL_name 71 (v' := .bool false) rfl (by simp) ?_
          refine TL_nil ?_
          refine T_cond_false rfl ?_
          refine T_skip ?_
          refine inB_normal ?_
          refine thenS_normal ?_
          refine T_region_last ?_
          refine TL_y rfl rfl (Y_move rfl) ?_
          refine TL_y rfl rfl (Y_add rfl rfl (by omega)) ?_
          refine TL_name 64 (v' := .int .i64 ((j + 1 : Nat) : Int)) rfl (rfl) ?_
          refine TL_y rfl rfl (Y_assign rfl) ?_
          refine TL_nil ?_
          refine thenS_normal ?_
          exact ⟨⟨j + 1, putD lc u ⟨#[110, 101, 119]⟩⟩, ⟨by simp only; omega, by simp only [putD_len]; omega, fun d => by dsimp only; rw [putD_has, hhas, takeAt hu, List.mem_append, List.mem_singleton]; constructor; (rintro (h | h | h); exact .inr (.inr h); exact .inl h; exact .inr (.inl h)); (rintro (h | h | h); exact .inr (.inl h); exact .inr (.inr h); exact .inl h)⟩, by simp only; omega, holds_to (sub_cons rfl (sub_cons rfl (sub_cons rfl (sub_cons rfl (sub_nil))))) GivesTo.g⟩
        · refine T_exit ?_
          refine thenS_exit ?_
          refine thenS_exit ?_
          refine inB_hit ?_
          refine thenS_normal ?_
          have hhas2 : ∀ d, hasD lc d ↔ hasD l d ∨ d ∈ ms := by have := hhas; rwa [List.take_of_length_le (by omega)] at this
          refine T_pullk b12 ?_
          refine T_dsSTRI fun hic => ?_
          have hfv : ∀ {i : Nat} {x : Int}, v[i]? = some x → x ≤ (vecO lc (i : Int) : Int) := fun {i x} hx => fill_vec (v := (v, [])) (ms := ([], ms)) hil hic hmm hhas2 hx (by have := (List.getElem?_eq_some_iff.1 hx).1; omega)
          refine T_region ?_
          refine TL_y rfl rfl (Y_move rfl) ?_
          refine TL_pullk b12 ?_
          refine TL_call rfl rfl (vectorSTR_spec) ?_
          rintro _ _ ⟨A73, c73, rfl, rfl⟩
          refine TL_freeze_osl ?_
          refine TL_y rfl rfl (Y_assign rfl) ?_
          refine TL_nil ?_
          refine T_seq ?_
          refine T_region ?_
          refine TL_y rfl rfl (Y_assign rfl) ?_
          refine TL_nil ?_
          refine T_block ?_
          refine T_loopK (σ := Nat) [1, 5, 10] (fun i => i ≤ v.length) (fun i kv => (11, .int .i64 (i : Int)) :: kv) (fun i => sl (intR .i64) A73 c73 (plainV (vecL lc)) :: dsSTR b12 p12 lc :: sl (intR .i64) Av cv v :: sl pairR A c ys :: L) (fun i => v.length - i) (0) rfl (Nat.zero_le _) (GivesTo.g) (sub_cons rfl (sub_cons rfl (sub_cons rfl (sub_cons rfl (sub_nil))))) ?_
          intro i hi
          refine T_seq ?_
          refine T_region ?_
          refine TL_y rfl rfl (Y_move rfl) ?_
          refine TL_y rfl rfl (Y_move rfl) ?_
          refine TL_y rfl rfl (Y_len rfl) ?_
          refine TL_y rfl rfl (Y_lt rfl rfl) ?_
          refine TL_nil ?_
          refine T_if rfl (fun h77 => ?_) (fun h77 => ?_)
          · refine T_skip ?_
            refine thenS_normal ?_
            refine T_seq ?_
            refine T_block ?_
            obtain ⟨x, hx⟩ : ∃ x, v[i]? = some x := ⟨_, List.getElem?_eq_getElem (by omega)⟩
            have hxv := hfv hx
            refine T_addr_n (sln (A := Av) (c := cv) (R := intR .i64) (xs := v)) hx fun bq oq eq => ?_
            refine Classical.byCases (p := 0 < x) (fun hx0 => ?_) (fun hx0 => ?_)
            · have how : ofV (plainV (vecL lc)) (i : Int) = (vecO lc (i : Int) : Int) := by rw [ofV_plain, ofV_vecL (by omega)]
              have hiw : i < (plainV (vecL lc)).length := Nat.lt_of_not_le fun h => by rw [ofV_out (.inr (by omega))] at how; omega
              obtain ⟨y, hy⟩ : ∃ y, (plainV (vecL lc))[i]? = some y := ⟨_, List.getElem?_eq_getElem hiw⟩
              have hyx : x ≤ y := by rw [ofV_at hy] at how; omega
              refine T_addr_n (sln (A := A73) (c := c73) (R := intR .i64) (xs := plainV (vecL lc))) hy fun bw ow ew => ?_
              subst ew
              subst eq
              refine T_region_draw _ [0, 0, 3, 7, 15, 31, 63, 63, 191, 511, 1023, 2047, 2047, 8191, 16383, 2047, 2047, 100351, 231423, 524287, 1048575, 2097151] [] [(0, true), (1, true), (2, true), (3, true), (4, true), (5, true), (6, true), (7, true), (8, true), (9, true), (10, true), (11, true), (12, true), (13, true), (14, true), (15, true), (16, true), (17, true), (18, true), (19, true), (20, true), (21, true)] (by kernel_rfl) (by decide +kernel) (Gives.refl _) ?_
              refine TF_y rfl rfl (Y_move rfl) ?_
              refine TF_y rfl rfl (Y_move rfl) ?_
              refine TF_y rfl rfl (Y_index_n (R := intR .i64) (xs := v) rfl rfl rfl hx) ?_
              refine TF_y rfl rfl (Y_load_n (R := intR .i64) (c := cv) (xs := v) (q := 0) rfl sln hx rfl) ?_
              refine TF_y rfl rfl (Y_gt rfl rfl) ?_
              refine TF_name 84 (v' := .bool true) rfl (congrArg Value.bool (decide_eq_true (by omega))) ?_
              refine TF_y rfl rfl (Y_move rfl) ?_
              refine TF_gy rfl rfl rfl rfl (Y_move rfl) ?_
              refine TF_gy rfl rfl rfl rfl (Y_move rfl) ?_
              refine TF_gy rfl rfl rfl rfl (Y_len rfl) ?_
              refine TF_gy rfl rfl rfl rfl (Y_ge rfl rfl) ?_
              refine TF_name 89 (v' := .bool false) rfl (congrArg Value.bool (decide_eq_false (by omega))) ?_
              refine TF_gy rfl rfl rfl rfl (Y_move rfl) ?_
              refine TF_gy rfl rfl rfl rfl (Y_move rfl) ?_
              refine TF_gy rfl rfl rfl rfl (Y_move rfl) ?_
              refine TF_gy rfl rfl rfl rfl (Y_index_n (R := intR .i64) (xs := plainV (vecL lc)) rfl rfl rfl hy) ?_
              refine TF_gy rfl rfl rfl rfl (Y_load_n (R := intR .i64) (c := c73) (xs := plainV (vecL lc)) (q := 0) rfl sln hy rfl) ?_
              refine TF_gy rfl rfl rfl rfl (Y_move rfl) ?_
              refine TF_gy rfl rfl rfl rfl (Y_move rfl) ?_
              refine TF_gy rfl rfl rfl rfl (Y_index_n (R := intR .i64) (xs := v) rfl rfl rfl hx) ?_
              refine TF_gy rfl rfl rfl rfl (Y_load_n (R := intR .i64) (c := cv) (xs := v) (q := 0) rfl sln hx rfl) ?_
              refine TF_gy rfl rfl rfl rfl (Y_lt rfl rfl) ?_
              refine TF_name 99 (v' := .bool false) rfl (congrArg Value.bool (decide_eq_false (by omega))) ?_
              refine TF_gy rfl rfl rfl rfl (Y_pick_f rfl rfl) ?_
              refine TF_y rfl rfl (Y_pick_t rfl rfl) ?_
              refine TF_nil ?_
              refine T_cond_false rfl ?_
              refine T_skip ?_
              refine inB_normal ?_
              refine thenS_normal ?_
              refine T_region_last ?_
              refine TL_y rfl rfl (Y_move rfl) ?_
              refine TL_y rfl rfl (Y_add rfl rfl (by omega)) ?_
              refine TL_name 79 (v' := .int .i64 ((i + 1 : Nat) : Int)) rfl (rfl) ?_
              refine TL_y rfl rfl (Y_assign rfl) ?_
              refine TL_nil ?_
              refine thenS_normal ?_
              exact ⟨i + 1, (by omega), by omega, holds_to (sub_cons rfl (sub_cons rfl (sub_cons rfl (sub_cons rfl (sub_nil))))) GivesTo.g⟩
            · subst eq
              refine T_region_draw _ [0, 0, 3, 7, 15, 31, 63, 63, 191, 511, 1023, 2047, 2047, 8191, 16383, 2047, 2047, 100351, 231423, 524287, 1048575, 2097151] [] [(0, true), (1, true), (2, true), (3, true), (4, true), (5, true), (6, true), (7, true), (8, true), (9, true), (10, true), (11, true), (12, true), (13, true), (14, true), (15, true), (16, true), (17, true), (18, true), (19, true), (20, true), (21, true)] (by kernel_rfl) (by decide +kernel) (Gives.refl _) ?_
              refine TF_y rfl rfl (Y_move rfl) ?_
              refine TF_y rfl rfl (Y_move rfl) ?_
              refine TF_y rfl rfl (Y_index_n (R := intR .i64) (xs := v) rfl rfl rfl hx) ?_
              refine TF_y rfl rfl (Y_load_n (R := intR .i64) (c := cv) (xs := v) (q := 0) rfl sln hx rfl) ?_
              refine TF_y rfl rfl (Y_gt rfl rfl) ?_
              refine TF_name 84 (v' := .bool false) rfl (congrArg Value.bool (decide_eq_false (by omega))) ?_
              refine TF_y rfl rfl (Y_move rfl) ?_
              refine TF_gskip rfl rfl rfl rfl rfl ?_
              refine TF_gskip rfl rfl rfl rfl rfl ?_
              refine TF_gskip rfl rfl rfl rfl rfl ?_
              refine TF_gskip rfl rfl rfl rfl rfl ?_
              refine TF_gskip rfl rfl rfl rfl rfl ?_
              refine TF_gskip_u rfl rfl rfl rfl ?_
              refine TF_gskip_u rfl rfl rfl rfl ?_
              refine TF_gskip_u rfl rfl rfl rfl ?_
              refine TF_gskip_u rfl rfl rfl rfl ?_
              refine TF_gskip_u rfl rfl rfl rfl ?_
              refine TF_gskip_u rfl rfl rfl rfl ?_
              refine TF_gskip_u rfl rfl rfl rfl ?_
              refine TF_gskip_u rfl rfl rfl rfl ?_
              refine TF_gskip_u rfl rfl rfl rfl ?_
              refine TF_gskip rfl rfl rfl rfl rfl ?_
              refine TF_y rfl rfl (Y_pick_f rfl rfl) ?_
              refine TF_nil ?_
              refine T_cond_false rfl ?_
              refine T_skip ?_
              refine inB_normal ?_
              refine thenS_normal ?_
              refine T_region_last ?_
              refine TL_y rfl rfl (Y_move rfl) ?_
              refine TL_y rfl rfl (Y_add rfl rfl (by omega)) ?_
              refine TL_name 79 (v' := .int .i64 ((i + 1 : Nat) : Int)) rfl (rfl) ?_
              refine TL_y rfl rfl (Y_assign rfl) ?_
              refine TL_nil ?_
              refine thenS_normal ?_
              exact ⟨i + 1, (by omega), by omega, holds_to (sub_cons rfl (sub_cons rfl (sub_cons rfl (sub_cons rfl (sub_nil))))) GivesTo.g⟩
          · refine T_exit ?_
            refine thenS_exit ?_
            refine thenS_exit ?_
            refine inB_hit ?_
            refine thenS_normal ?_
            refine T_region ?_
            refine TL_y rfl rfl (Y_move rfl) ?_
            refine TL_y rfl rfl (Y_move rfl) ?_
            refine TL_pullk b12 ?_
            refine TL_call rfl rfl (missingSTR_spec (SlN.of_gives GivesTo.g hkv.n) hvl) ?_
            rintro _ _ ⟨A104, c104, rfl, rfl⟩
            have hbe : betL (vecL lc) v = [] := List.eq_nil_iff_forall_not_mem.2 fun d hd => by obtain ⟨o, ho1, ho2, ho3, ho4⟩ := mem_betL.1 hd; have hx := List.getElem?_eq_getElem ho1; rw [hx] at ho4; have := hfv hx; rw [ofV_vecL (by omega)] at ho3; simp only [Option.getD_some] at ho4; omega
            rw [show missD lc v = [] by unfold missD; rw [hbe]; rfl]
            refine TL_y rfl rfl (Y_len rfl) ?_
            refine TL_y rfl rfl (Y_eq rfl rfl) ?_
            refine TL_name 106 (v' := .bool true) rfl (by simp) ?_
            refine TL_y rfl rfl (Y_assign rfl) ?_
            refine TL_nil ?_
            refine T_ret ?_
            exact RetG_1 (.inl rfl) rfl (ResV.tmp rfl) GivesTo.g (⟨rfl, rfl⟩)
end Go.SL
