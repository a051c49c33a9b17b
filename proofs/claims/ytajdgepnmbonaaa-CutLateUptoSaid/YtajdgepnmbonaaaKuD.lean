/- What the laws of this claim need, together: the logic, data in memory, the walks of functions. -/
import Derived.Test.YtajdgepnmbonaaaKuC
import Derived.Test.YtajdgepnmbonaaaRows
import Derived.WalkKit
import Derived.JoinedCond
import Derived.Deep.CondSized
set_option linter.unusedVariables false
set_option linter.unusedSimpArgs false
set_option linter.unusedVariables false
set_option linter.unusedSimpArgs false
namespace Go.SL
open Go Go.Proofs
theorem one_lines {e : EventD} (hc : e.clears = false) (hq : 0 < e.qty) : IsLines [e] e.cart [(e.sku, e.qty)] := by
  have hg : ¬ goesC [e] e := goes_none (fun x hx => by rw [List.mem_singleton.1 hx]; exact hc) e
  have hs : standC [e] = [e] := by unfold standC; rw [List.filter_cons, if_pos (by simpa using hg)]; rfl
  have hn : countC [e] = [e] := by unfold countC; rw [hs]; rfl
  have hf : ∀ k, lineF [e] e.cart k = if e.sku = k then e.qty else 0 := fun k => by
    rw [lineF_eq, hn]
    by_cases h : e.sku = k <;> simp [ofC, h, sumC]
  refine ⟨List.pairwise_singleton _ _, fun k q => ?_, by rw [hn]; simp [sumC]⟩
  rw [hf, List.mem_singleton, Prod.mk.injEq]
  constructor
  · rintro ⟨rfl, rfl⟩; rw [if_pos rfl]; exact ⟨rfl, hq⟩
  · rintro ⟨h1, h2⟩
    by_cases h : e.sku = k
    · rw [if_pos h] at h1; exact ⟨h.symm, h1⟩
    · rw [if_neg h] at h1; omega
abbrev sc1 : OrderD := ⟨⟨#[116]⟩, ⟨#[99]⟩, 0, [1]⟩
abbrev sc2 : OrderD := ⟨⟨#[116]⟩, ⟨#[99]⟩, 1, []⟩
theorem sc1_ok : orderOk' sc1 := ⟨by show (1 : Nat) ≤ maxEl; decide, lc_size1, i64In_mk (by decide), by decide⟩
theorem sc2_ok : orderOk' sc2 := ⟨by show (1 : Nat) ≤ maxEl; decide, lc_size1, i64In_mk (by decide), by decide⟩
theorem sc_bel : belN [sc1] lc1 = 0 ∧ belB [sc1] lc1 = true := by decide +kernel
theorem sc_no : ¬ CheckC [sc2] := fun h => absurd (h 0 sc2 rfl).2 (by decide +kernel)
theorem sc_ord : ordLC [lc1, lc2] [sc1] ⟨#[99]⟩ 0 = [lc1] := by decide +kernel
theorem sc_open : openC [lc1, lc2] [sc1] = [lc2] := by decide +kernel
theorem sc_epoch : epochC [sc1] ⟨#[99]⟩ = 1 := by decide +kernel
theorem sc_whole : wholeC [1] [sc1] ⟨#[99]⟩ 0 = true := by decide +kernel
theorem sc_whole0 : wholeC [] [sc1] ⟨#[99]⟩ 0 = false := by decide +kernel
theorem sc_a {xs : List LineD} (h : IsLines (ordLC [lc1, lc2] [sc1] ⟨#[99]⟩ 0) ⟨#[99]⟩ xs) : xs = [(⟨#[116, 101, 97]⟩, 2)] := by
  rw [sc_ord] at h
  exact h.ext (one_lines (e := lc1) rfl (by decide)) fun _ => rfl
theorem sc_b {xs : List LineD} (h : IsLines (openC [lc1, lc2] [sc1]) ⟨#[99]⟩ xs) : xs = [(⟨#[116, 101, 97]⟩, 1)] := by
  rw [sc_open] at h
  exact h.ext (one_lines (e := lc2) rfl (by decide)) fun _ => rfl
theorem lives12_spec (L : List HP) : Fn Try.prog 21 #[] L (fun v L' => v = .bool true ∧ L' = L) := by
  refine Fn_enter Try.func21 rfl rfl rfl rfl ?_
  refine T_gives (slnil (R := intR .i64) (A := none) (c := 0)).lay ?_
  refine T_region ?_
  refine TL_y rfl rfl (Y_assign rfl) ?_
  refine TL_nil ?_
  refine T_region ?_
  refine TL_y rfl rfl (Y_build rfl rfl) ?_
  refine TL_y rfl rfl (Y_build rfl rfl) ?_
  refine TL_y rfl rfl (Y_build rfl rfl) ?_
  refine TL_y rfl rfl (Y_build rfl rfl) ?_
  refine TL_build_slice rfl rfl rfl rfl rfl rfl ?_
  intro b13
  refine TL_osl (k := 2) eventR [lc1, lc2] (cells_cons (ex_rep (u := lc1) ((none : Option Addr), (0 : Nat)) (sep_sl slk) lc1_ok) (cells_one' (ex_rep (u := lc2) ((none : Option Addr), (0 : Nat)) (sep_sl slk) lc2_ok))) rfl (by decide) ?_
  refine TL_freeze_osl ?_
  refine TL_name 13 (v' := .slice (some ⟨b13, 0, none⟩) [lc1, lc2].length 2) rfl rfl ?_
  refine TL_y rfl rfl (Y_assign rfl) ?_
  refine TL_nil ?_
  refine T_region ?_
  refine TL_build_slice rfl rfl rfl rfl rfl rfl ?_
  intro b14
  refine TL_osl (k := 1) (intR .i64) [1] (Knows.const (cells_ints (xs := [1]) (k := .i64) (fun x hx => by rw [List.mem_singleton.1 hx]; decide))) rfl (by decide) ?_
  refine TL_freeze_osl ?_
  refine TL_y rfl rfl (Y_build rfl rfl) ?_
  refine TL_build_slice rfl rfl rfl rfl rfl rfl ?_
  intro b16
  refine TL_osl (k := 1) orderR [sc1] (cells_one' (ex_rep (u := sc1) ((some ⟨b14, 0, none⟩ : Option Addr), (1 : Nat)) (sep_sl slk) sc1_ok)) rfl (by decide) ?_
  refine TL_freeze_osl ?_
  refine TL_name 16 (v' := .slice (some ⟨b16, 0, none⟩) [sc1].length 1) rfl rfl ?_
  refine TL_y rfl rfl (Y_assign rfl) ?_
  refine TL_nil ?_
  refine T_region ?_
  refine TL_y rfl rfl (Y_move rfl) ?_
  refine TL_index_n rfl rfl rfl (rfl) ((sln (A := some ⟨b13, 0, none⟩) (c := 2) (R := eventR) (xs := [lc1, lc2]))) (show [lc1, lc2][0]? = some lc1 from rfl) ?_
  intro bn19 on19 hA19 hk19
  have hu19 := show [lc1, lc2][0]? = some lc1 from rfl
  refine TL_load_nx rfl rfl hk19 hu19 (fun _ => rfl) ?_
  intro p20 ok20
  simp only [List.cons_append, List.nil_append]
  refine TL_y rfl rfl (Y_move rfl) ?_
  refine TL_call rfl rfl (belongs_spec lc1 p20 (slk (xs := [sc1]))) ?_
  rintro _ _ ⟨rfl, rfl⟩
  rw [sc_bel.1, sc_bel.2]
  refine TL_y rfl rfl (Y_move rfl) ?_
  refine TL_y rfl rfl (Y_extract rfl rfl) ?_
  refine TL_y rfl rfl (Y_extract rfl rfl) ?_
  refine TL_name 24 (v' := .bool true) rfl (rfl) ?_
  refine TL_y rfl rfl (Y_assign rfl) ?_
  refine TL_y rfl rfl (Y_assign rfl) ?_
  refine TL_nil ?_
  refine T_region ?_
  refine TL_y rfl rfl (Y_build rfl rfl) ?_
  refine TL_build_slice rfl rfl rfl rfl rfl rfl ?_
  intro b27
  refine TL_osl (k := 1) orderR [sc2] (cells_one' (ex_rep (u := sc2) ((none : Option Addr), (0 : Nat)) (sep_sl slk) sc2_ok)) rfl (by decide) ?_
  refine TL_freeze_osl ?_
  refine TL_name 27 (v' := .slice (some ⟨b27, 0, none⟩) [sc2].length 1) rfl rfl ?_
  refine TL_call rfl rfl (check12_spec (s := [sc2]) slk (fun x hx ↦ by rw [List.mem_singleton.1 hx]; decide +kernel)) ?_
  rintro _ _ ⟨⟨nn, ee, rfl, hee⟩, rfl⟩
  obtain rfl : ee = 120 := by rcases hee with h | h; exact absurd h.2 sc_no; exact h.1
  refine TL_y rfl rfl (Y_move rfl) ?_
  refine TL_y rfl rfl (Y_extract rfl rfl) ?_
  refine TL_y rfl rfl (Y_extract rfl rfl) ?_
  refine TL_y rfl rfl (Y_assign rfl) ?_
  refine TL_y rfl rfl (Y_assign rfl) ?_
  refine TL_nil ?_
  refine T_region ?_
  refine TL_y rfl rfl (Y_move rfl) ?_
  refine TL_y rfl rfl (Y_move rfl) ?_
  refine TL_call rfl rfl (order_spec (l := [lc1, lc2]) (s := [sc1]) ⟨#[99]⟩ 0 slk slk (by decide) (by decide)) ?_
  rintro _ _ ⟨A33, c33, xs33, rfl, rfl, hx33⟩
  obtain rfl := sc_a hx33
  refine TL_freeze_osl ?_
  refine TL_y rfl rfl (Y_move rfl) ?_
  refine TL_y rfl rfl (Y_move rfl) ?_
  refine TL_call rfl rfl (open_spec (l := [lc1, lc2]) (s := [sc1]) ⟨#[99]⟩ slk slk (by decide) (by decide)) ?_
  rintro _ _ ⟨A36, c36, xs36, rfl, rfl, hx36⟩
  obtain rfl := sc_b hx36
  refine TL_freeze_osl ?_
  refine TL_y rfl rfl (Y_assign rfl) ?_
  refine TL_y rfl rfl (Y_assign rfl) ?_
  refine TL_nil ?_
  refine T_region ?_
  refine TL_y rfl rfl (Y_move rfl) ?_
  refine TL_y rfl rfl (Y_eq rfl rfl) ?_
  refine TL_name 38 (v' := .bool true) rfl (rfl) ?_
  refine TL_y rfl rfl (Y_move rfl) ?_
  refine TL_grun rfl rfl ?_
  refine TL_y rfl rfl (Y_move rfl) ?_
  refine TL_y rfl rfl (Y_pick_t rfl rfl) ?_
  refine TL_y rfl rfl (Y_move rfl) ?_
  refine TL_grun rfl rfl ?_
  refine TL_y rfl rfl (Y_move rfl) ?_
  refine TL_grun rfl rfl ?_
  refine TL_y rfl rfl (Y_eq rfl rfl) ?_
  refine TL_name 44 (v' := .bool true) rfl (rfl) ?_
  refine TL_y rfl rfl (Y_pick_t rfl rfl) ?_
  refine TL_y rfl rfl (Y_move rfl) ?_
  refine TL_grun rfl rfl ?_
  refine TL_y rfl rfl (Y_move rfl) ?_
  refine TL_grun rfl rfl ?_
  refine TL_y rfl rfl (Y_len rfl) ?_
  refine TL_grun rfl rfl ?_
  refine TL_y rfl rfl (Y_eq rfl rfl) ?_
  refine TL_name 49 (v' := .bool true) rfl (rfl) ?_
  refine TL_y rfl rfl (Y_pick_t rfl rfl) ?_
  refine TL_y rfl rfl (Y_move rfl) ?_
  refine TL_grun rfl rfl ?_
  refine TL_y rfl rfl (Y_move rfl) ?_
  refine TL_grun rfl rfl ?_
  refine TL_index_n rfl rfl rfl (rfl) ((sln (A := A33) (c := c33) (R := lineR) (xs := [(⟨#[116, 101, 97]⟩, 2)]))) (show ([(⟨#[116, 101, 97]⟩, 2)] : List LineD)[0]? = some (⟨#[116, 101, 97]⟩, 2) from rfl) ?_
  intro bn53 on53 hA53 hk53
  have hu53 := show ([(⟨#[116, 101, 97]⟩, 2)] : List LineD)[0]? = some (⟨#[116, 101, 97]⟩, 2) from rfl
  refine TL_grun rfl rfl ?_
  refine TL_y rfl rfl (Y_field_addr2 rfl) ?_
  refine TL_grun rfl rfl ?_
  refine TL_y rfl rfl (Y_load_n rfl hk53 hu53 rfl) ?_
  refine TL_grun rfl rfl ?_
  refine TL_y rfl rfl (Y_eq rfl rfl) ?_
  refine TL_name 56 (v' := .bool true) rfl (rfl) ?_
  refine TL_y rfl rfl (Y_pick_t rfl rfl) ?_
  refine TL_y rfl rfl (Y_move rfl) ?_
  refine TL_grun rfl rfl ?_
  refine TL_y rfl rfl (Y_move rfl) ?_
  refine TL_grun rfl rfl ?_
  refine TL_y rfl rfl (Y_len rfl) ?_
  refine TL_grun rfl rfl ?_
  refine TL_y rfl rfl (Y_eq rfl rfl) ?_
  refine TL_name 61 (v' := .bool true) rfl (rfl) ?_
  refine TL_y rfl rfl (Y_pick_t rfl rfl) ?_
  refine TL_y rfl rfl (Y_move rfl) ?_
  refine TL_grun rfl rfl ?_
  refine TL_y rfl rfl (Y_move rfl) ?_
  refine TL_grun rfl rfl ?_
  refine TL_index_n rfl rfl rfl (rfl) ((sln (A := A36) (c := c36) (R := lineR) (xs := [(⟨#[116, 101, 97]⟩, 1)]))) (show ([(⟨#[116, 101, 97]⟩, 1)] : List LineD)[0]? = some (⟨#[116, 101, 97]⟩, 1) from rfl) ?_
  intro bn65 on65 hA65 hk65
  have hu65 := show ([(⟨#[116, 101, 97]⟩, 1)] : List LineD)[0]? = some (⟨#[116, 101, 97]⟩, 1) from rfl
  refine TL_grun rfl rfl ?_
  refine TL_y rfl rfl (Y_field_addr2 rfl) ?_
  refine TL_grun rfl rfl ?_
  refine TL_y rfl rfl (Y_load_n rfl hk65 hu65 rfl) ?_
  refine TL_grun rfl rfl ?_
  refine TL_y rfl rfl (Y_eq rfl rfl) ?_
  refine TL_name 68 (v' := .bool true) rfl (rfl) ?_
  refine TL_y rfl rfl (Y_pick_t rfl rfl) ?_
  refine TL_y rfl rfl (Y_move rfl) ?_
  refine TL_grun rfl rfl ?_
  refine TL_y rfl rfl (Y_move rfl) ?_
  refine TL_grun rfl rfl ?_
  refine TL_call rfl rfl (epoch_spec (s := [sc1]) ⟨#[99]⟩ slk) ?_
  rintro _ _ ⟨rfl, rfl⟩
  refine TL_grun rfl rfl ?_
  refine TL_y rfl rfl (Y_eq rfl rfl) ?_
  refine TL_name 73 (v' := .bool true) rfl (by rw [sc_epoch]; rfl) ?_
  refine TL_y rfl rfl (Y_pick_t rfl rfl) ?_
  refine TL_y rfl rfl (Y_move rfl) ?_
  refine TL_grun rfl rfl ?_
  refine TL_build_slice rfl rfl rfl rfl rfl rfl ?_
  intro b76
  refine TL_osl (k := 1) (intR .i64) [1] (Knows.const (cells_ints (xs := [1]) (k := .i64) (fun x hx => by rw [List.mem_singleton.1 hx]; decide))) rfl (by decide) ?_
  refine TL_freeze_osl ?_
  refine TL_grun rfl rfl ?_
  refine TL_y rfl rfl (Y_move rfl) ?_
  refine TL_grun rfl rfl ?_
  refine TL_call rfl rfl (whole_spec (ap := [1]) (s := [sc1]) ⟨#[99]⟩ 0 (SlK.n (slk (A := some ⟨b76, 0, none⟩) (c := 1))) slk) ?_
  rintro _ _ ⟨rfl, rfl⟩
  refine TL_name 78 (v' := .bool true) rfl (by rw [sc_whole]) ?_
  refine TL_y rfl rfl (Y_pick_t rfl rfl) ?_
  refine TL_y rfl rfl (Y_move rfl) ?_
  refine TL_grun rfl rfl ?_
  refine TL_y rfl rfl (Y_move rfl) ?_
  refine TL_grun rfl rfl ?_
  refine TL_call rfl rfl (whole_spec (A := none) (c := 0) (ap := []) (s := [sc1]) ⟨#[99]⟩ 0 (SlK.n slk) slk) ?_
  rintro _ _ ⟨rfl, rfl⟩
  refine TL_name 82 (v' := .bool false) rfl (by rw [sc_whole0]) ?_
  refine TL_grun rfl rfl ?_
  refine TL_y rfl rfl (Y_not_f rfl) ?_
  refine TL_y rfl rfl (Y_pick_t rfl rfl) ?_
  refine TL_y rfl rfl (Y_assign rfl) ?_
  refine TL_nil ?_
  refine T_ret ?_
  exact RetG_1 (.inl rfl) rfl (ResV.tmp rfl) GivesTo.g (⟨rfl, rfl⟩)
/-! ### Without seals -/
theorem line_cart {l l' : List EventD} {name : ByteArray} (hR : RightC l) (hsub : ∀ e ∈ l', e ∈ l) (hc : ∀ e ∈ l, e.cart = name → e ∈ l') (k : ByteArray) : lineF l name k = lineF l' name k := by
  have hR' := hR.sub hsub
  rw [lineF_eq, lineF_eq]
  refine sumC_perm (nodup_perm ((countC_nodup l).sublist List.filter_sublist) ((countC_nodup l').sublist List.filter_sublist) fun e => ?_)
  rw [List.mem_filter, List.mem_filter, hR.count, hR'.count]
  have hcart : ofC name k e = true → e.cart = name := fun h => by
    unfold ofC at h
    rw [Bool.and_eq_true] at h
    exact of_decide_eq_true h.1
  have hg : e.cart = name → (goesC l e ↔ goesC l' e) := fun he => by
    unfold goesC
    constructor
    · rintro ⟨x, hx, h1, h2, h3⟩; exact ⟨x, hc x hx (h2.trans he), h1, h2, h3⟩
    · rintro ⟨x, hx, h1, h2, h3⟩; exact ⟨x, hsub x hx, h1, h2, h3⟩
  constructor
  · rintro ⟨⟨h1, h2⟩, h3⟩
    exact ⟨⟨hc e h1 (hcart h3), fun h => h2 ((hg (hcart h3)).2 h)⟩, h3⟩
  · rintro ⟨⟨h1, h2⟩, h3⟩
    exact ⟨⟨hsub e h1, fun h => h2 ((hg (hcart h3)).1 h)⟩, h3⟩
theorem bel_none {s : List OrderD} {name : ByteArray} (h : ∀ x ∈ s, x.cart ≠ name) {e : EventD} (he : e.cart = name) : belB s e = false := by
  have : belC s e = none := find_no fun x hx => decide_eq_false fun hs => h x hx (hs.1.trans he)
  unfold belB; rw [this]; rfl
theorem open_others {l : List EventD} {s : List OrderD} {name : ByteArray} (hR : RightC l) (h : ∀ x ∈ s, x.cart ≠ name) (k : ByteArray) : lineF l name k = lineF (openC l s) name k :=
  line_cart hR (fun e he => openC_sub he) (fun e he hc => List.mem_filter.2 ⟨he, by rw [bel_none h hc]; rfl⟩) k
theorem ord_others {l : List EventD} {s : List OrderD} {name : ByteArray} (h : ∀ x ∈ s, x.cart ≠ name) (ep : Int) : ordLC l s name ep = [] := List.filter_eq_nil_iff.2 fun e he => by
  by_cases hc : e.cart = name
  · rw [bel_none h hc]; simp
  · simp [hc]
theorem lines_nil {name : ByteArray} {xs : List LineD} (h : IsLines [] name xs) : xs = [] := by
  refine h.ext (ys := []) (l' := []) (cart' := name) ⟨List.Pairwise.nil, fun k q => ?_, rfl⟩ fun _ => rfl
  constructor
  · intro h; simp at h
  · rintro ⟨h1, h2⟩
    have : lineF [] name k = 0 := rfl
    omega
def othersC (s : List OrderD) (name : ByteArray) : List OrderD := s.filter fun x => !decide (x.cart = name)
theorem others_snoc {s : List OrderD} {i : Nat} {x : OrderD} (h : s[i]? = some x) (name : ByteArray) : othersC (s.take (i + 1)) name = othersC (s.take i) name ++ if x.cart = name then [] else [x] := by
  unfold othersC
  rw [takeAt h, List.filter_append, List.filter_cons]
  by_cases hd : x.cart = name <;> simp [hd]
theorem others_len (s : List OrderD) (name : ByteArray) : (othersC s name).length ≤ s.length := List.length_filter_le _ _
theorem others_ne {s : List OrderD} {name : ByteArray} : ∀ x ∈ othersC s name, x.cart ≠ name := fun x hx => by simpa using (List.mem_filter.1 hx).2
theorem cutNone_walk {L : List HP} {A S : Option Addr} {c cs : Nat} {l : List EventD} {s : List OrderD} (name : ByteArray) (hk : SlK L eventR A c l) (hs : SlK L orderR S cs s) (hl : l.length ≤ 1048576) (hsl : s.length ≤ 1048576) : Fn Try.prog 9 #[.slice A l.length c, .slice S s.length cs, .string name] L (fun v L' => v = .bool true ∧ L' = L) := by
  refine Fn_enter Try.func9 rfl rfl rfl rfl ?_
  refine T_gives hk.lay ?_
  refine T_gives (hs.tail).lay ?_
  refine T_region ?_
  refine TL_y rfl rfl (Y_assign rfl) ?_
  refine TL_nil ?_
  refine T_seq ?_
  refine T_region ?_
  refine TL_call rfl rfl (lives12_spec _) ?_
  rintro _ _ ⟨rfl, rfl⟩
  refine TL_y rfl rfl (Y_not rfl) ?_
  refine TL_name 11 (v' := .bool false) rfl (rfl) ?_
  refine TL_nil ?_
  refine T_cond_false rfl ?_
  refine T_skip ?_
  refine thenS_normal ?_
  refine T_seq ?_
  refine Classical.byCases (p := Once12 l) (fun hR => ?_) (fun hR => ?_)
  · refine T_region ?_
    refine TL_y rfl rfl (Y_move rfl) ?_
    refine TL_call rfl rfl (once12_spec slk) ?_
    rintro _ _ ⟨⟨r, rfl, hr⟩, rfl⟩
    obtain rfl := hr.2 hR
    refine TL_y rfl rfl (Y_not rfl) ?_
    refine TL_name 14 (v' := .bool false) rfl (rfl) ?_
    refine TL_nil ?_
    refine T_cond_false rfl ?_
    refine T_skip ?_
    refine thenS_normal ?_
    refine T_region ?_
    refine TL_y rfl rfl (Y_assign rfl) ?_
    refine TL_nil ?_
    refine T_seq ?_
    refine T_region ?_
    refine TL_y rfl rfl (Y_assign rfl) ?_
    refine TL_nil ?_
    refine T_block ?_
    refine T_loopK (σ := PcSt) [0, 1, 2] (fun g => g.k ≤ s.length) (fun g kv => (8, .int .i64 (g.k : Int)) :: (7, .slice g.A (othersC (s.take g.k) name).length g.c) :: kv) (fun g => osl orderR 53 g.A g.c (othersC (s.take g.k) name) :: sl orderR S cs s :: sl eventR A c l :: L) (fun g => s.length - g.k) (⟨0, none, 0⟩) rfl (Nat.zero_le _) (osl_nil orderR 53 none _) (sub_cons rfl (sub_cons rfl (sub_cons rfl (sub_cons rfl (sub_cons rfl (sub_nil)))))) ?_
    rintro ⟨k, X, cx⟩ hk2
    dsimp only at hk2 ⊢
    refine T_seq ?_
    refine T_region ?_
    refine TL_y rfl rfl (Y_move rfl) ?_
    refine TL_y rfl rfl (Y_move rfl) ?_
    refine TL_y rfl rfl (Y_len rfl) ?_
    refine TL_y rfl rfl (Y_lt rfl rfl) ?_
    refine TL_nil ?_
    refine T_if rfl (fun h18 => ?_) (fun h18 => ?_)
    · refine T_skip ?_
      refine thenS_normal ?_
      refine T_seq ?_
      refine T_block ?_
      obtain ⟨x, hx⟩ : ∃ x, s[k]? = some x := ⟨_, List.getElem?_eq_getElem (by omega)⟩
      have hls := others_snoc hx name
      have hll := others_len (s.take k) name
      rw [List.length_take] at hll
      refine T_region ?_
      refine TL_y rfl rfl (Y_move rfl) ?_
      refine TL_y rfl rfl (Y_move rfl) ?_
      refine TL_index_n rfl rfl rfl (rfl) ((sln (A := S) (c := cs))) (hx) ?_
      intro bn23 on23 hA23 hk23
      have hu23 := hx
      refine TL_y rfl rfl (Y_field_addr2 rfl) ?_
      refine TL_y rfl rfl (Y_load_nx rfl hk23 hu23 (fun _ => rfl)) ?_
      refine TL_y rfl rfl (Y_move rfl) ?_
      refine TL_y rfl rfl (Y_str_ne rfl rfl) ?_
      refine TL_nil ?_
      refine T_if rfl (fun h27 => ?_) (fun h27 => ?_)
      · refine T_region_last ?_
        refine TL_y rfl rfl (Y_move rfl) ?_
        refine TL_y rfl rfl (Y_move rfl) ?_
        refine TL_y rfl rfl (Y_move rfl) ?_
        refine TL_index_n rfl rfl rfl (rfl) ((sln (A := S) (c := cs))) (hx) ?_
        intro bn31 on31 hA31 hk31
        have hu31 := hx
        refine TL_load_nx rfl rfl hk31 hu31 (fun _ => rfl) ?_
        intro p32 ok32
        simp only [List.cons_append, List.nil_append]
        refine TL_build_slice rfl rfl rfl rfl rfl rfl ?_
        intro b33
        refine TL_osl (k := 1) orderR [x] (cells_one' (ex_rep p32 (sep_sl slk) ok32)) rfl (by decide) ?_
        refine TL_freeze_osl ?_
        refine TL_name 33 (v' := .slice (some ⟨b33, 0, none⟩) [x].length 1) rfl rfl ?_
        refine TL_append rfl rfl rfl rfl rfl slk (by simp only [List.length_cons, List.length_nil]; omega) ?_
        intro A34 c34
        refine TL_y rfl rfl (Y_assign rfl) ?_
        refine TL_nil ?_
        refine inB_normal ?_
        refine thenS_normal ?_
        refine T_region_last ?_
        refine TL_y rfl rfl (Y_move rfl) ?_
        refine TL_name 19 (v' := .int .i64 (k : Int)) rfl (rfl) ?_
        refine TL_y rfl rfl (Y_add rfl rfl (by omega)) ?_
        refine TL_name 20 (v' := .int .i64 ((k + 1 : Nat) : Int)) rfl (rfl) ?_
        refine TL_y rfl rfl (Y_assign rfl) ?_
        refine TL_nil ?_
        refine thenS_normal ?_
        rw [if_neg h27] at hls
        rw [← hls]
        exact ⟨⟨k + 1, A34, c34⟩, (by simp only; omega), by simp only; omega, holds_to (sub_cons rfl (sub_cons rfl (sub_cons rfl (sub_cons rfl (sub_cons rfl (sub_nil)))))) GivesTo.g⟩
      · refine T_skip ?_
        refine inB_normal ?_
        refine thenS_normal ?_
        refine T_region_last ?_
        refine TL_y rfl rfl (Y_move rfl) ?_
        refine TL_name 19 (v' := .int .i64 (k : Int)) rfl (rfl) ?_
        refine TL_y rfl rfl (Y_add rfl rfl (by omega)) ?_
        refine TL_name 20 (v' := .int .i64 ((k + 1 : Nat) : Int)) rfl (rfl) ?_
        refine TL_y rfl rfl (Y_assign rfl) ?_
        refine TL_nil ?_
        refine thenS_normal ?_
        rw [if_pos (Classical.not_not.1 h27), List.append_nil] at hls
        rw [← hls]
        exact ⟨⟨k + 1, X, cx⟩, (by simp only; omega), by simp only; omega, holds_to (sub_cons rfl (sub_cons rfl (sub_cons rfl (sub_cons rfl (sub_cons rfl (sub_nil)))))) GivesTo.g⟩
    · refine T_exit ?_
      refine thenS_exit ?_
      refine thenS_exit ?_
      refine inB_hit ?_
      refine thenS_normal ?_
      rw [List.take_of_length_le (show s.length ≤ k by omega)]
      refine T_freeze_osl ?_
      refine T_gives (slnil (R := orderR) (A := none) (c := 0)).lay ?_
      refine T_region ?_
      refine TL_y rfl rfl (Y_move rfl) ?_
      refine TL_y rfl rfl (Y_move rfl) ?_
      refine TL_call rfl rfl (lines_spec name (slk (A := A) (c := c)) (by omega) hR.qty) ?_
      rintro _ _ ⟨A37, c37, xs37, rfl, rfl, hx37, hl37⟩
      refine TL_freeze_osl ?_
      refine TL_y rfl rfl (Y_assign rfl) ?_
      refine TL_nil ?_
      refine T_region ?_
      refine TL_y rfl rfl (Y_move rfl) ?_
      refine TL_y rfl rfl (Y_move rfl) ?_
      refine TL_call rfl rfl (open_spec (A := A) (S := none) (cs := 0) (s := []) name slk slk (by omega) hR.qty) ?_
      rintro _ _ ⟨A40, c40, xs40, rfl, rfl, hx40⟩
      obtain rfl : xs37 = xs40 := hx37.ext hx40 (open_others hR.right (by simp))
      refine TL_freeze_osl ?_
      refine TL_y rfl rfl (Y_move rfl) ?_
      refine TL_call rfl rfl (refSameL_spec (xs := xs37) (ys := xs37) (sln (A := A40) (c := c40)) (sln (A := A37) (c := c37))) ?_
      rintro _ _ ⟨rfl, rfl⟩
      refine TL_name 42 (v' := .bool true) rfl (congrArg Value.bool (decide_eq_true rfl)) ?_
      refine TL_y rfl rfl (Y_move rfl) ?_
      refine TL_grun rfl rfl ?_
      refine TL_y rfl rfl (Y_move rfl) ?_
      refine TL_grun rfl rfl ?_
      refine TL_y rfl rfl (Y_move rfl) ?_
      refine TL_grun rfl rfl ?_
      refine TL_y rfl rfl (Y_move rfl) ?_
      refine TL_grun rfl rfl ?_
      refine TL_call rfl rfl (open_spec (A := A) (S := X) (cs := cx) (s := othersC s name) name slk slk (by omega) hR.qty) ?_
      rintro _ _ ⟨A47, c47, xs47, rfl, rfl, hx47⟩
      obtain rfl : xs37 = xs47 := hx37.ext hx47 (open_others hR.right others_ne)
      refine TL_freeze_osl ?_
      refine TL_grun rfl rfl ?_
      refine TL_y rfl rfl (Y_move rfl) ?_
      refine TL_grun rfl rfl ?_
      refine TL_call rfl rfl (refSameL_spec (xs := xs37) (ys := xs37) (sln (A := A47) (c := c47)) (sln (A := A37) (c := c37))) ?_
      rintro _ _ ⟨rfl, rfl⟩
      refine TL_name 49 (v' := .bool true) rfl (congrArg Value.bool (decide_eq_true rfl)) ?_
      refine TL_y rfl rfl (Y_pick_t rfl rfl) ?_
      refine TL_y rfl rfl (Y_move rfl) ?_
      refine TL_grun rfl rfl ?_
      refine TL_y rfl rfl (Y_move rfl) ?_
      refine TL_grun rfl rfl ?_
      refine TL_y rfl rfl (Y_move rfl) ?_
      refine TL_grun rfl rfl ?_
      refine TL_call rfl rfl (epoch_spec (A := X) (c := cx) (s := othersC s name) name slk) ?_
      rintro _ _ ⟨rfl, rfl⟩
      refine TL_name 54 (v' := .int .i64 0) rfl (by rw [show epochC (othersC s name) name = 0 from List.countP_eq_zero.2 fun x hx => by simpa using others_ne x hx]; rfl) ?_
      refine TL_grun rfl rfl ?_
      refine TL_y rfl rfl (Y_eq rfl rfl) ?_
      refine TL_name 55 (v' := .bool true) rfl (rfl) ?_
      refine TL_y rfl rfl (Y_pick_t rfl rfl) ?_
      refine TL_y rfl rfl (Y_move rfl) ?_
      refine TL_grun rfl rfl ?_
      refine TL_y rfl rfl (Y_move rfl) ?_
      refine TL_grun rfl rfl ?_
      refine TL_y rfl rfl (Y_move rfl) ?_
      refine TL_grun rfl rfl ?_
      refine TL_y rfl rfl (Y_move rfl) ?_
      refine TL_grun rfl rfl ?_
      refine TL_call rfl rfl (order_spec (A := A) (S := X) (cs := cx) (s := othersC s name) name 0 slk slk (by omega) hR.qty) ?_
      rintro _ _ ⟨A61, c61, xs61, rfl, rfl, hx61⟩
      rw [ord_others others_ne] at hx61
      obtain rfl := lines_nil hx61
      refine TL_grun rfl rfl ?_
      refine TL_y rfl rfl (Y_len rfl) ?_
      refine TL_grun rfl rfl ?_
      refine TL_y rfl rfl (Y_eq rfl rfl) ?_
      refine TL_name 63 (v' := .bool true) rfl (rfl) ?_
      refine TL_y rfl rfl (Y_pick_t rfl rfl) ?_
      refine TL_y rfl rfl (Y_assign rfl) ?_
      refine TL_nil ?_
      refine T_ret ?_
      exact RetG_1 (.inl rfl) rfl (ResV.tmp rfl) GivesTo.g (⟨rfl, rfl⟩)
  · refine T_region ?_
    refine TL_y rfl rfl (Y_move rfl) ?_
    refine TL_call rfl rfl (once12_spec slk) ?_
    rintro _ _ ⟨⟨r, rfl, hr⟩, rfl⟩
    obtain rfl : r = false := by cases r; rfl; exact absurd (hr.1 rfl) hR
    refine TL_y rfl rfl (Y_not rfl) ?_
    refine TL_name 14 (v' := .bool true) rfl (rfl) ?_
    refine TL_nil ?_
    refine T_cond_true rfl ?_
    refine T_region ?_
    refine TL_y rfl rfl (Y_assign rfl) ?_
    refine TL_nil ?_
    refine T_ret ?_
    refine thenS_ret ?_
    exact RetG_1 (.inl rfl) rfl (ResV.tmp rfl) GivesTo.g (⟨rfl, rfl⟩)
end Go.SL
set_option linter.unusedVariables false
set_option linter.unusedSimpArgs false
namespace Go.SL
open Go Go.Proofs
/-! ### Plain -/
theorem bel_app {s more : List OrderD} {e : EventD} (h : belB s e = true) : belB (s ++ more) e = true ∧ belN s e = belN (s ++ more) e := by
  unfold belB at h
  obtain ⟨x, hx⟩ := Option.isSome_iff_exists.1 h
  have h2 : belC (s ++ more) e = some x := by
    unfold belC at hx ⊢
    rw [List.find?_append, hx]; rfl
  unfold belB belN
  rw [h2, hx]; exact ⟨rfl, rfl⟩
theorem belN_no {s : List OrderD} {e : EventD} (h : belB s e = false) : belN s e = 0 := by
  unfold belB at h
  have : belC s e = none := by cases hc : belC s e with
    | none => rfl
    | some x => rw [hc] at h; cases h
  unfold belN; rw [this]
theorem once_ways (s more : List OrderD) (e : EventD) : (belB s e = true ∧ belB (s ++ more) e = true ∧ belN s e = belN (s ++ more) e) ∨ (belB s e = false ∧ belB (s ++ more) e = false ∧ belN s e = 0) ∨ (belB s e = false ∧ belB (s ++ more) e = true ∧ belN s e = 0) := by
  cases h1 : belB s e with
  | true => exact .inl ⟨rfl, (bel_app h1).1, (bel_app h1).2⟩
  | false =>
    cases h2 : belB (s ++ more) e with
    | false => exact .inr (.inl ⟨rfl, rfl, belN_no h1⟩)
    | true => exact .inr (.inr ⟨rfl, rfl, belN_no h1⟩)
theorem epochC_lt {s : List OrderD} {i : Nat} {x : OrderD} (h : s[i]? = some x) : epochC (s.take i) x.cart < epochC s x.cart := by
  have hd : s.drop i = x :: s.drop (i + 1) := by
    rw [List.drop_eq_getElem_cons (List.getElem?_eq_some_iff.1 h).1, (List.getElem?_eq_some_iff.1 h).2]
  have e : epochC s x.cart = epochC (s.take i) x.cart + epochC (s.drop i) x.cart := by
    unfold epochC
    rw [← List.countP_append, List.take_append_drop]
  rw [e, hd]
  unfold epochC
  rw [List.countP_cons_of_pos (by simp)]; omega
theorem epoch_inj {s : List OrderD} (hC : CheckC s) {i j : Nat} {x y : OrderD} (hx : s[i]? = some x) (hy : s[j]? = some y) (hc : x.cart = y.cart) (he : x.epoch = y.epoch) : ¬ i < j := fun hij => by
  have h1 := (hC i x hx).2
  have h2 := (hC j y hy).2
  have h3 : (s.take j)[i]? = some x := by rw [List.getElem?_take_of_lt hij]; exact hx
  have h4 := epochC_lt h3
  rw [List.take_take, Nat.min_eq_left (by omega), hc] at h4
  rw [hc] at h1
  omega
theorem bel_some {s : List OrderD} {e : EventD} (h : belB s e = true) : ∃ (i : Nat) (x : OrderD), s[i]? = some x ∧ selP e x ∧ belN s e = x.epoch := by
  unfold belB at h
  obtain ⟨x, hx⟩ := Option.isSome_iff_exists.1 h
  obtain ⟨i, hi⟩ := List.getElem?_of_mem (List.mem_of_find?_eq_some hx)
  exact ⟨i, x, hi, of_decide_eq_true (List.find?_some (p := fun x => decide (selP e x)) hx), by unfold belN; rw [hx]⟩
theorem now_facts {s : List OrderD} (hC : CheckC s) {e : EventD} (h : belB s e = true) : e.epoch ≤ belN s e ∧ belN s e < (epochC s e.cart : Int) := by
  obtain ⟨i, x, hi, hs, hn⟩ := bel_some h
  have h1 := (hC i x hi).2
  have h2 := epochC_lt hi
  rw [hs.1] at h1 h2
  have := hs.2.1
  omega
theorem split_len (l : List EventD) (s : List OrderD) : (ordC12 l s).length + (openC l s).length = l.length := by
  unfold ordC12 openC
  induction l with
  | nil => rfl
  | cons e r ih =>
    rw [List.filter_cons, List.filter_cons]
    cases belB s e <;> simp <;> omega
/-! ### Each event once -/
set_option maxHeartbeats 1000000 in
theorem cutOnce_walk {L : List HP} {A S M : Option Addr} {c cs cm : Nat} {l : List EventD} {s more : List OrderD} (hk : SlK L eventR A c l) (hs : SlK L orderR S cs s) (hm : SlK L orderR M cm more) (hl : l.length ≤ 1048576) (hsl : s.length ≤ 1048576) (hml : more.length ≤ 1048576) (hb : ∀ x ∈ s ++ more, cSeal x ≤ 140737488355000) : Fn Try.prog 7 #[.slice A l.length c, .slice S s.length cs, .slice M more.length cm] L (fun v L' => v = .bool true ∧ L' = L) := by
  refine Fn_enter Try.func7 rfl rfl rfl rfl ?_
  refine T_gives hk.lay ?_
  refine T_gives (hs.tail).lay ?_
  refine T_gives (hm.tail.tail).lay ?_
  refine T_region ?_
  refine TL_y rfl rfl (Y_assign rfl) ?_
  refine TL_nil ?_
  refine T_seq ?_
  refine T_region ?_
  refine TL_call rfl rfl (lives12_spec _) ?_
  rintro _ _ ⟨rfl, rfl⟩
  refine TL_y rfl rfl (Y_not rfl) ?_
  refine TL_name 20 (v' := .bool false) rfl (rfl) ?_
  refine TL_nil ?_
  refine T_cond_false rfl ?_
  refine T_skip ?_
  refine thenS_normal ?_
  refine T_region ?_
  refine TL_build_slice rfl rfl rfl rfl rfl rfl ?_
  intro b21
  refine TL_osl (k := 0) orderR [] (Knows.const fun M => rfl) rfl (by simp) ?_
  refine TL_name 21 (v' := .slice (some ⟨b21, 0, none⟩) ([] : List OrderD).length 0) rfl rfl ?_
  refine TL_y rfl rfl (Y_move rfl) ?_
  refine TL_append (R := orderR) (ys := s) rfl rfl rfl rfl rfl (slk (A := S) (c := cs)) (by simp only [List.length_nil]; omega) ?_
  intro A23 c23
  simp only [List.nil_append]
  refine TL_y rfl rfl (Y_move rfl) ?_
  refine TL_append (R := orderR) (xs := s) (ys := more) rfl rfl rfl rfl rfl (slk (A := M) (c := cm)) (by omega) ?_
  intro A25 c25
  refine TL_freeze_osl ?_
  refine TL_y rfl rfl (Y_assign rfl) ?_
  refine TL_nil ?_
  refine T_seq ?_
  refine T_region ?_
  refine TL_y rfl rfl (Y_move rfl) ?_
  refine TL_call rfl rfl (refCheck_spec (s := s ++ more) slk) ?_
  rintro _ _ ⟨⟨nn, ee, rfl, hee⟩, rfl⟩
  refine TL_y rfl rfl (Y_move rfl) ?_
  refine TL_y rfl rfl (Y_extract rfl rfl) ?_
  refine TL_y rfl rfl (Y_extract rfl rfl) ?_
  refine TL_y rfl rfl (Y_assign rfl) ?_
  refine TL_y rfl rfl (Y_assign rfl) ?_
  refine TL_nil ?_
  rcases hee with ⟨rfl, hC⟩ | ⟨rfl, hC⟩
  · refine T_region ?_
    refine TL_y rfl rfl (Y_move rfl) ?_
    refine TL_y rfl rfl (Y_ne rfl rfl) ?_
    refine TL_name 32 (v' := .bool false) rfl (rfl) ?_
    refine TL_nil ?_
    refine T_cond_false rfl ?_
    refine T_skip ?_
    refine thenS_normal ?_
    refine T_seq ?_
    refine T_region ?_
    refine TL_y rfl rfl (Y_assign rfl) ?_
    refine TL_nil ?_
    refine T_block ?_
    refine T_loopK (σ := Nat) [0, 1, 7] (fun i => i ≤ l.length) (fun i kv => (12, .int .i64 (i : Int)) :: kv) (fun i => sl orderR A25 c25 (s ++ more) :: sl orderR S cs s :: sl eventR A c l :: L) (fun i => l.length - i) (0) rfl (Nat.zero_le _) (GivesTo.g) (sub_cons rfl (sub_cons rfl (sub_cons rfl (sub_cons rfl (sub_nil))))) ?_
    intro i hi
    refine T_seq ?_
    refine T_region ?_
    refine TL_y rfl rfl (Y_move rfl) ?_
    refine TL_y rfl rfl (Y_move rfl) ?_
    refine TL_y rfl rfl (Y_len rfl) ?_
    refine TL_y rfl rfl (Y_lt rfl rfl) ?_
    refine TL_nil ?_
    refine T_if rfl (fun h43 => ?_) (fun h43 => ?_)
    · refine T_skip ?_
      refine thenS_normal ?_
      refine T_seq ?_
      refine T_block ?_
      obtain ⟨x, hx⟩ : ∃ x, l[i]? = some x := ⟨_, List.getElem?_eq_getElem (by omega)⟩
      refine T_region ?_
      refine TL_y rfl rfl (Y_move rfl) ?_
      refine TL_y rfl rfl (Y_move rfl) ?_
      refine TL_index_n rfl rfl rfl (rfl) ((sln (A := A) (c := c))) (hx) ?_
      intro bn49 on49 hA49 hk49
      have hu49 := hx
      refine TL_load_nx rfl rfl hk49 hu49 (fun _ => rfl) ?_
      intro p50 ok50
      simp only [List.cons_append, List.nil_append]
      refine TL_y rfl rfl (Y_move rfl) ?_
      refine TL_call rfl rfl (belongs_spec x p50 (slk (A := S) (c := cs))) ?_
      rintro _ _ ⟨rfl, rfl⟩
      refine TL_y rfl rfl (Y_move rfl) ?_
      refine TL_y rfl rfl (Y_extract rfl rfl) ?_
      refine TL_y rfl rfl (Y_extract rfl rfl) ?_
      refine TL_y rfl rfl (Y_assign rfl) ?_
      refine TL_y rfl rfl (Y_assign rfl) ?_
      refine TL_nil ?_
      refine T_region ?_
      refine TL_y rfl rfl (Y_move rfl) ?_
      refine TL_y rfl rfl (Y_move rfl) ?_
      refine TL_index_n rfl rfl rfl (rfl) ((sln (A := A) (c := c))) (hx) ?_
      intro bn58 on58 hA58 hk58
      have hu58 := hx
      refine TL_load_nx rfl rfl hk58 hu58 (fun _ => rfl) ?_
      intro p59 ok59
      simp only [List.cons_append, List.nil_append]
      refine TL_y rfl rfl (Y_move rfl) ?_
      refine TL_call rfl rfl (belongs_spec x p59 (slk (A := A25) (c := c25))) ?_
      rintro _ _ ⟨rfl, rfl⟩
      refine TL_y rfl rfl (Y_move rfl) ?_
      refine TL_y rfl rfl (Y_extract rfl rfl) ?_
      refine TL_y rfl rfl (Y_extract rfl rfl) ?_
      refine TL_y rfl rfl (Y_assign rfl) ?_
      refine TL_y rfl rfl (Y_assign rfl) ?_
      refine TL_nil ?_
      refine T_seq ?_
      rcases once_ways s more x with ⟨h1, h2, h3⟩ | ⟨h1, h2, h3⟩ | ⟨h1, h2, h3⟩
      · rw [h1, h2, h3]
        refine T_region ?_
        refine TL_y rfl rfl (Y_move rfl) ?_
        refine TL_name 64 (v' := .bool true) rfl (rfl) ?_
        refine TL_y rfl rfl (Y_move rfl) ?_
        refine TL_grun rfl rfl ?_
        refine TL_y rfl rfl (Y_move rfl) ?_
        refine TL_name 66 (v' := .bool true) rfl (rfl) ?_
        refine TL_grun rfl rfl ?_
        refine TL_y rfl rfl (Y_not_t rfl) ?_
        refine TL_grun rfl rfl ?_
        refine TL_y rfl rfl (Y_move rfl) ?_
        refine TL_grun rfl rfl ?_
        refine TL_y rfl rfl (Y_move rfl) ?_
        refine TL_grun rfl rfl ?_
        refine TL_y rfl rfl (Y_move rfl) ?_
        refine TL_grun rfl rfl ?_
        refine TL_y rfl rfl (Y_ne rfl rfl) ?_
        refine TL_name 71 (v' := .bool false) rfl (congrArg Value.bool (by simp)) ?_
        refine TL_grun rfl rfl ?_
        refine TL_y rfl rfl (Y_pick_f rfl rfl) ?_
        refine TL_y rfl rfl (Y_pick_t rfl rfl) ?_
        refine TL_y rfl rfl (Y_move rfl) ?_
        refine TL_grun rfl rfl ?_
        refine TL_y rfl rfl (Y_move rfl) ?_
        refine TL_name 75 (v' := .bool true) rfl (rfl) ?_
        refine TL_grun rfl rfl ?_
        refine TL_y rfl rfl (Y_not_t rfl) ?_
        refine TL_grun rfl rfl ?_
        refine TL_y rfl rfl (Y_move rfl) ?_
        refine TL_gskip rfl rfl rfl rfl ?_
        refine TL_gskip rfl rfl rfl rfl ?_
        refine TL_grun rfl rfl ?_
        refine TL_y rfl rfl (Y_pick_f rfl rfl) ?_
        refine TL_y rfl rfl (Y_pick_f rfl rfl) ?_
        refine TL_nil ?_
        refine T_cond_false rfl ?_
        refine T_skip ?_
        refine thenS_normal ?_
        have hnf := now_facts hC h2
        refine T_region ?_
        refine TL_y rfl rfl (Y_move rfl) ?_
        refine TL_name 82 (v' := .bool true) rfl (rfl) ?_
        refine TL_y rfl rfl (Y_move rfl) ?_
        refine TL_grun rfl rfl ?_
        refine TL_y rfl rfl (Y_move rfl) ?_
        refine TL_grun rfl rfl ?_
        refine TL_y rfl rfl (Y_move rfl) ?_
        refine TL_grun rfl rfl ?_
        refine TL_y rfl rfl (Y_move rfl) ?_
        refine TL_grun rfl rfl ?_
        refine TL_index_n rfl rfl rfl (rfl) ((sln (A := A) (c := c))) (hx) ?_
        intro bn87 on87 hA87 hk87
        have hu87 := hx
        refine TL_grun rfl rfl ?_
        refine TL_y rfl rfl (Y_field_addr2 rfl) ?_
        refine TL_grun rfl rfl ?_
        refine TL_y rfl rfl (Y_load_nx rfl hk87 hu87 (fun _ => rfl)) ?_
        refine TL_grun rfl rfl ?_
        refine TL_y rfl rfl (Y_lt rfl rfl) ?_
        refine TL_name 90 (v' := .bool false) rfl (congrArg Value.bool (decide_eq_false (by omega))) ?_
        refine TL_grun rfl rfl ?_
        refine TL_y rfl rfl (Y_move rfl) ?_
        refine TL_grun rfl rfl ?_
        refine TL_y rfl rfl (Y_move rfl) ?_
        refine TL_grun rfl rfl ?_
        refine TL_y rfl rfl (Y_move rfl) ?_
        refine TL_grun rfl rfl ?_
        refine TL_y rfl rfl (Y_move rfl) ?_
        refine TL_grun rfl rfl ?_
        refine TL_y rfl rfl (Y_move rfl) ?_
        refine TL_grun rfl rfl ?_
        refine TL_index_n rfl rfl rfl (rfl) ((sln (A := A) (c := c))) (hx) ?_
        intro bn96 on96 hA96 hk96
        have hu96 := hx
        refine TL_grun rfl rfl ?_
        refine TL_y rfl rfl (Y_field_addr2 rfl) ?_
        refine TL_grun rfl rfl ?_
        refine TL_y rfl rfl (Y_load_nx rfl hk96 hu96 (fun _ => rfl)) ?_
        refine TL_grun rfl rfl ?_
        refine TL_call rfl rfl (epoch_spec (s := s ++ more) x.cart slk) ?_
        rintro _ _ ⟨rfl, rfl⟩
        refine TL_grun rfl rfl ?_
        refine TL_y rfl rfl (Y_ge rfl rfl) ?_
        refine TL_name 100 (v' := .bool false) rfl (congrArg Value.bool (decide_eq_false (by omega))) ?_
        refine TL_grun rfl rfl ?_
        refine TL_y rfl rfl (Y_pick_f rfl rfl) ?_
        refine TL_y rfl rfl (Y_pick_t rfl rfl) ?_
        refine TL_nil ?_
        refine T_cond_false rfl ?_
        refine T_skip ?_
        refine inB_normal ?_
        refine thenS_normal ?_
        refine T_region_last ?_
        refine TL_y rfl rfl (Y_move rfl) ?_
        refine TL_name 44 (v' := .int .i64 (i : Int)) rfl (rfl) ?_
        refine TL_y rfl rfl (Y_add rfl rfl (by omega)) ?_
        refine TL_name 45 (v' := .int .i64 ((i + 1 : Nat) : Int)) rfl (rfl) ?_
        refine TL_y rfl rfl (Y_assign rfl) ?_
        refine TL_nil ?_
        refine thenS_normal ?_
        exact ⟨i + 1, (by omega), by omega, holds_to (sub_cons rfl (sub_cons rfl (sub_cons rfl (sub_cons rfl (sub_nil))))) GivesTo.g⟩
      · rw [h1, h2, h3]
        refine T_region ?_
        refine TL_y rfl rfl (Y_move rfl) ?_
        refine TL_name 64 (v' := .bool false) rfl (rfl) ?_
        refine TL_y rfl rfl (Y_move rfl) ?_
        refine TL_gskip rfl rfl rfl rfl ?_
        refine TL_gskip rfl rfl rfl rfl ?_
        refine TL_gskip rfl rfl rfl rfl ?_
        refine TL_gskip_u rfl rfl rfl ?_
        refine TL_gskip_u rfl rfl rfl ?_
        refine TL_gskip_u rfl rfl rfl ?_
        refine TL_gskip rfl rfl rfl rfl ?_
        refine TL_y rfl rfl (Y_pick_f rfl rfl) ?_
        refine TL_y rfl rfl (Y_move rfl) ?_
        refine TL_grun rfl rfl ?_
        refine TL_y rfl rfl (Y_move rfl) ?_
        refine TL_name 75 (v' := .bool false) rfl (rfl) ?_
        refine TL_grun rfl rfl ?_
        refine TL_y rfl rfl (Y_not_f rfl) ?_
        refine TL_grun rfl rfl ?_
        refine TL_y rfl rfl (Y_move rfl) ?_
        refine TL_grun rfl rfl ?_
        refine TL_y rfl rfl (Y_move rfl) ?_
        refine TL_grun rfl rfl ?_
        refine TL_y rfl rfl (Y_ne rfl rfl) ?_
        refine TL_name 79 (v' := .bool false) rfl (rfl) ?_
        refine TL_grun rfl rfl ?_
        refine TL_y rfl rfl (Y_pick_t rfl rfl) ?_
        refine TL_y rfl rfl (Y_pick_f rfl rfl) ?_
        refine TL_nil ?_
        refine T_cond_false rfl ?_
        refine T_skip ?_
        refine thenS_normal ?_
        refine T_region ?_
        refine TL_y rfl rfl (Y_move rfl) ?_
        refine TL_name 82 (v' := .bool false) rfl (rfl) ?_
        refine TL_y rfl rfl (Y_move rfl) ?_
        refine TL_gskip rfl rfl rfl rfl ?_
        refine TL_gskip rfl rfl rfl rfl ?_
        refine TL_gskip rfl rfl rfl rfl ?_
        refine TL_gskip rfl rfl rfl rfl ?_
        refine TL_gskip rfl rfl rfl rfl ?_
        refine TL_gskip rfl rfl rfl rfl ?_
        refine TL_gskip rfl rfl rfl rfl ?_
        refine TL_gskip rfl rfl rfl rfl ?_
        refine TL_gskip_u rfl rfl rfl ?_
        refine TL_gskip_u rfl rfl rfl ?_
        refine TL_gskip_u rfl rfl rfl ?_
        refine TL_gskip_u rfl rfl rfl ?_
        refine TL_gskip_u rfl rfl rfl ?_
        refine TL_gskip_u rfl rfl rfl ?_
        refine TL_gskip_u rfl rfl rfl ?_
        refine TL_gskip_u rfl rfl rfl ?_
        refine TL_gskip_u rfl rfl rfl ?_
        refine TL_gskip rfl rfl rfl rfl ?_
        refine TL_y rfl rfl (Y_pick_f rfl rfl) ?_
        refine TL_nil ?_
        refine T_cond_false rfl ?_
        refine T_skip ?_
        refine inB_normal ?_
        refine thenS_normal ?_
        refine T_region_last ?_
        refine TL_y rfl rfl (Y_move rfl) ?_
        refine TL_name 44 (v' := .int .i64 (i : Int)) rfl (rfl) ?_
        refine TL_y rfl rfl (Y_add rfl rfl (by omega)) ?_
        refine TL_name 45 (v' := .int .i64 ((i + 1 : Nat) : Int)) rfl (rfl) ?_
        refine TL_y rfl rfl (Y_assign rfl) ?_
        refine TL_nil ?_
        refine thenS_normal ?_
        exact ⟨i + 1, (by omega), by omega, holds_to (sub_cons rfl (sub_cons rfl (sub_cons rfl (sub_cons rfl (sub_nil))))) GivesTo.g⟩
      · rw [h1, h2, h3]
        refine T_region ?_
        refine TL_y rfl rfl (Y_move rfl) ?_
        refine TL_name 64 (v' := .bool false) rfl (rfl) ?_
        refine TL_y rfl rfl (Y_move rfl) ?_
        refine TL_gskip rfl rfl rfl rfl ?_
        refine TL_gskip rfl rfl rfl rfl ?_
        refine TL_gskip rfl rfl rfl rfl ?_
        refine TL_gskip_u rfl rfl rfl ?_
        refine TL_gskip_u rfl rfl rfl ?_
        refine TL_gskip_u rfl rfl rfl ?_
        refine TL_gskip rfl rfl rfl rfl ?_
        refine TL_y rfl rfl (Y_pick_f rfl rfl) ?_
        refine TL_y rfl rfl (Y_move rfl) ?_
        refine TL_grun rfl rfl ?_
        refine TL_y rfl rfl (Y_move rfl) ?_
        refine TL_name 75 (v' := .bool false) rfl (rfl) ?_
        refine TL_grun rfl rfl ?_
        refine TL_y rfl rfl (Y_not_f rfl) ?_
        refine TL_grun rfl rfl ?_
        refine TL_y rfl rfl (Y_move rfl) ?_
        refine TL_grun rfl rfl ?_
        refine TL_y rfl rfl (Y_move rfl) ?_
        refine TL_grun rfl rfl ?_
        refine TL_y rfl rfl (Y_ne rfl rfl) ?_
        refine TL_name 79 (v' := .bool false) rfl (rfl) ?_
        refine TL_grun rfl rfl ?_
        refine TL_y rfl rfl (Y_pick_t rfl rfl) ?_
        refine TL_y rfl rfl (Y_pick_f rfl rfl) ?_
        refine TL_nil ?_
        refine T_cond_false rfl ?_
        refine T_skip ?_
        refine thenS_normal ?_
        have hnf := now_facts hC h2
        refine T_region ?_
        refine TL_y rfl rfl (Y_move rfl) ?_
        refine TL_name 82 (v' := .bool true) rfl (rfl) ?_
        refine TL_y rfl rfl (Y_move rfl) ?_
        refine TL_grun rfl rfl ?_
        refine TL_y rfl rfl (Y_move rfl) ?_
        refine TL_grun rfl rfl ?_
        refine TL_y rfl rfl (Y_move rfl) ?_
        refine TL_grun rfl rfl ?_
        refine TL_y rfl rfl (Y_move rfl) ?_
        refine TL_grun rfl rfl ?_
        refine TL_index_n rfl rfl rfl (rfl) ((sln (A := A) (c := c))) (hx) ?_
        intro bn87 on87 hA87 hk87
        have hu87 := hx
        refine TL_grun rfl rfl ?_
        refine TL_y rfl rfl (Y_field_addr2 rfl) ?_
        refine TL_grun rfl rfl ?_
        refine TL_y rfl rfl (Y_load_nx rfl hk87 hu87 (fun _ => rfl)) ?_
        refine TL_grun rfl rfl ?_
        refine TL_y rfl rfl (Y_lt rfl rfl) ?_
        refine TL_name 90 (v' := .bool false) rfl (congrArg Value.bool (decide_eq_false (by omega))) ?_
        refine TL_grun rfl rfl ?_
        refine TL_y rfl rfl (Y_move rfl) ?_
        refine TL_grun rfl rfl ?_
        refine TL_y rfl rfl (Y_move rfl) ?_
        refine TL_grun rfl rfl ?_
        refine TL_y rfl rfl (Y_move rfl) ?_
        refine TL_grun rfl rfl ?_
        refine TL_y rfl rfl (Y_move rfl) ?_
        refine TL_grun rfl rfl ?_
        refine TL_y rfl rfl (Y_move rfl) ?_
        refine TL_grun rfl rfl ?_
        refine TL_index_n rfl rfl rfl (rfl) ((sln (A := A) (c := c))) (hx) ?_
        intro bn96 on96 hA96 hk96
        have hu96 := hx
        refine TL_grun rfl rfl ?_
        refine TL_y rfl rfl (Y_field_addr2 rfl) ?_
        refine TL_grun rfl rfl ?_
        refine TL_y rfl rfl (Y_load_nx rfl hk96 hu96 (fun _ => rfl)) ?_
        refine TL_grun rfl rfl ?_
        refine TL_call rfl rfl (epoch_spec (s := s ++ more) x.cart slk) ?_
        rintro _ _ ⟨rfl, rfl⟩
        refine TL_grun rfl rfl ?_
        refine TL_y rfl rfl (Y_ge rfl rfl) ?_
        refine TL_name 100 (v' := .bool false) rfl (congrArg Value.bool (decide_eq_false (by omega))) ?_
        refine TL_grun rfl rfl ?_
        refine TL_y rfl rfl (Y_pick_f rfl rfl) ?_
        refine TL_y rfl rfl (Y_pick_t rfl rfl) ?_
        refine TL_nil ?_
        refine T_cond_false rfl ?_
        refine T_skip ?_
        refine inB_normal ?_
        refine thenS_normal ?_
        refine T_region_last ?_
        refine TL_y rfl rfl (Y_move rfl) ?_
        refine TL_name 44 (v' := .int .i64 (i : Int)) rfl (rfl) ?_
        refine TL_y rfl rfl (Y_add rfl rfl (by omega)) ?_
        refine TL_name 45 (v' := .int .i64 ((i + 1 : Nat) : Int)) rfl (rfl) ?_
        refine TL_y rfl rfl (Y_assign rfl) ?_
        refine TL_nil ?_
        refine thenS_normal ?_
        exact ⟨i + 1, (by omega), by omega, holds_to (sub_cons rfl (sub_cons rfl (sub_cons rfl (sub_cons rfl (sub_nil))))) GivesTo.g⟩
    · refine T_exit ?_
      refine thenS_exit ?_
      refine thenS_exit ?_
      refine inB_hit ?_
      refine thenS_normal ?_
      have hsp := split_len l (s ++ more)
      refine T_region ?_
      refine TL_y rfl rfl (Y_move rfl) ?_
      refine TL_y rfl rfl (Y_move rfl) ?_
      refine TL_call rfl rfl (split_spec (s := s ++ more) slk slk (by omega)) ?_
      rintro _ _ ⟨A1, c1, A2, c2, rfl, rfl⟩
      refine TL_y rfl rfl (Y_move rfl) ?_
      refine TL_y rfl rfl (Y_extract rfl rfl) ?_
      refine TL_y rfl rfl (Y_extract rfl rfl) ?_
      refine TL_y rfl rfl (Y_assign rfl) ?_
      refine TL_y rfl rfl (Y_assign rfl) ?_
      refine TL_nil ?_
      refine T_region ?_
      refine TL_y rfl rfl (Y_move rfl) ?_
      refine TL_y rfl rfl (Y_len rfl) ?_
      refine TL_y rfl rfl (Y_move rfl) ?_
      refine TL_y rfl rfl (Y_len rfl) ?_
      refine TL_y rfl rfl (Y_add rfl rfl (by omega)) ?_
      refine TL_y rfl rfl (Y_move rfl) ?_
      refine TL_y rfl rfl (Y_len rfl) ?_
      refine TL_y rfl rfl (Y_eq rfl rfl) ?_
      refine TL_name 116 (v' := .bool true) rfl (congrArg Value.bool (decide_eq_true (by omega))) ?_
      refine TL_y rfl rfl (Y_assign rfl) ?_
      refine TL_nil ?_
      refine T_ret ?_
      exact RetG_1 (.inl rfl) rfl (ResV.tmp rfl) GivesTo.g (⟨rfl, rfl⟩)
  · refine T_region ?_
    refine TL_y rfl rfl (Y_move rfl) ?_
    refine TL_y rfl rfl (Y_ne rfl rfl) ?_
    refine TL_name 32 (v' := .bool true) rfl (rfl) ?_
    refine TL_nil ?_
    refine T_cond_true rfl ?_
    refine T_region ?_
    refine TL_y rfl rfl (Y_move rfl) ?_
    refine TL_call rfl rfl (check12_spec (s := s ++ more) slk hb) ?_
    rintro _ _ ⟨⟨n2, e2, rfl, he2⟩, rfl⟩
    obtain rfl : e2 = 120 := by rcases he2 with h | h; exact absurd h.2 hC; exact h.1
    refine TL_y rfl rfl (Y_move rfl) ?_
    refine TL_y rfl rfl (Y_extract rfl rfl) ?_
    refine TL_y rfl rfl (Y_extract rfl rfl) ?_
    refine TL_y rfl rfl (Y_assign rfl) ?_
    refine TL_y rfl rfl (Y_assign rfl) ?_
    refine TL_nil ?_
    refine T_region ?_
    refine TL_y rfl rfl (Y_move rfl) ?_
    refine TL_y rfl rfl (Y_eq rfl rfl) ?_
    refine TL_name 39 (v' := .bool true) rfl (rfl) ?_
    refine TL_y rfl rfl (Y_assign rfl) ?_
    refine TL_nil ?_
    refine T_ret ?_
    refine thenS_ret ?_
    exact RetG_1 (.inl rfl) rfl (ResV.tmp rfl) GivesTo.g (⟨rfl, rfl⟩)
end Go.SL
set_option linter.unusedVariables false
set_option linter.unusedSimpArgs false
namespace Go.SL
open Go Go.Proofs
/-! ### An event outside all cuts -/
theorem late_bel {s : List OrderD} (h : ∀ x ∈ s, ¬ 0 < ofV x.cut 6) (name sku : ByteArray) (qty : Int) : belB s (apE name sku qty) = false := by
  have : belC s (apE name sku qty) = none := find_no fun x hx => decide_eq_false fun hs => by
    have h1 := h x hx
    have h2 := hs.2.2
    unfold hasV at h2
    simp only at h2; omega
  unfold belB; rw [this]; rfl
theorem late_ord {l : List EventD} {s : List OrderD} (h : ∀ x ∈ s, ¬ 0 < ofV x.cut 6) (name sku : ByteArray) (qty : Int) (cart : ByteArray) (ep : Int) : ordLC (l ++ [apE name sku qty]) s cart ep = ordLC l s cart ep := by
  unfold ordLC
  rw [List.filter_append, List.filter_cons, late_bel h]
  simp
theorem late_open {l : List EventD} {s : List OrderD} (h : ∀ x ∈ s, ¬ 0 < ofV x.cut 6) (name sku : ByteArray) (qty : Int) : openC (l ++ [apE name sku qty]) s = openC l s ++ [apE name sku qty] := by
  unfold openC
  rw [List.filter_append, List.filter_cons, late_bel h]
  simp
theorem late_line {l : List EventD} {s : List OrderD} (hR : RightC l) (h : ∀ x ∈ s, ¬ 0 < ofV x.cut 6) {name sku : ByteArray} {qty : Int} (hq : 1 ≤ qty ∧ qty ≤ 1000) (hd : ∀ e ∈ l, e.dot.1 ≠ 6 ∧ ¬ 0 < ofV e.deps 6) : lineF (openC (l ++ [apE name sku qty]) s) name sku = lineF (openC l s) name sku + qty := by
  rw [late_open h]
  exact ap_line (hR.sub fun e he => openC_sub he) hq fun e he => hd e (openC_sub he)
set_option maxHeartbeats 1000000 in
theorem cutLate_walk {L : List HP} {A S : Option Addr} {c cs : Nat} {l : List EventD} {s : List OrderD} (cart sku : ByteArray) (qty : Int) (hk : SlK L eventR A c l) (hs : SlK L orderR S cs s) (hl : l.length ≤ 1048576) (hsl : s.length ≤ 1048576) (hn : cart.size ≤ maxEl) (hsk : sku.size ≤ maxEl) : Fn Try.prog 8 #[.slice A l.length c, .slice S s.length cs, .string cart, .string sku, .int .i64 qty] L (fun v L' => v = .bool true ∧ L' = L) := by
  refine Fn_enter Try.func8 rfl rfl rfl rfl ?_
  refine T_gives hk.lay ?_
  refine T_gives (hs.tail).lay ?_
  refine T_gives (slnil (R := intR .i64) (A := none) (c := 0)).lay ?_
  refine T_region ?_
  refine TL_y rfl rfl (Y_assign rfl) ?_
  refine TL_nil ?_
  refine T_seq ?_
  refine T_region ?_
  refine TL_call rfl rfl (lives12_spec _) ?_
  rintro _ _ ⟨rfl, rfl⟩
  refine TL_y rfl rfl (Y_not rfl) ?_
  refine TL_name 18 (v' := .bool false) rfl (rfl) ?_
  refine TL_nil ?_
  refine T_cond_false rfl ?_
  refine T_skip ?_
  refine thenS_normal ?_
  refine T_seq ?_
  refine T_region ?_
  refine TL_y rfl rfl (Y_move rfl) ?_
  refine TL_call rfl rfl (refCheck_spec (s := s) slk) ?_
  rintro _ _ ⟨⟨nn, ee, rfl, hee⟩, rfl⟩
  refine TL_y rfl rfl (Y_move rfl) ?_
  refine TL_y rfl rfl (Y_extract rfl rfl) ?_
  refine TL_y rfl rfl (Y_extract rfl rfl) ?_
  refine TL_y rfl rfl (Y_assign rfl) ?_
  refine TL_y rfl rfl (Y_assign rfl) ?_
  refine TL_nil ?_
  rcases hee with ⟨rfl, hC⟩ | ⟨rfl, hC⟩ <;> rcases Classical.em (Once12 l) with hR | hR
  · refine T_region ?_
    refine TL_y rfl rfl (Y_move rfl) ?_
    refine TL_y rfl rfl (Y_ne rfl rfl) ?_
    refine TL_name 25 (v' := .bool false) rfl (rfl) ?_
    refine TL_y rfl rfl (Y_move rfl) ?_
    refine TL_grun rfl rfl ?_
    refine TL_y rfl rfl (Y_move rfl) ?_
    refine TL_grun rfl rfl ?_
    refine TL_call rfl rfl (once12_spec (slk (A := A) (c := c))) ?_
    rintro _ _ ⟨⟨r, rfl, hr⟩, rfl⟩
    obtain rfl := hr.2 hR
    refine TL_grun rfl rfl ?_
    refine TL_y rfl rfl (Y_not rfl) ?_
    refine TL_name 29 (v' := .bool false) rfl (rfl) ?_
    refine TL_y rfl rfl (Y_pick_f rfl rfl) ?_
    refine TL_y rfl rfl (Y_move rfl) ?_
    refine TL_both 7 38 (qty < 1 ∨ 1000 < qty) ?_ ?_
    · refine TL_grun rfl rfl ?_
      refine TL_y rfl rfl (Y_move rfl) ?_
      refine TL_grun rfl rfl ?_
      refine TL_y rfl rfl (Y_lt rfl rfl) ?_
      refine TL_y rfl rfl (Y_pick_f rfl rfl) ?_
      refine TL_y rfl rfl (Y_move rfl) ?_
      refine TL_splitd 35 rfl (fun h35 => ?_) (fun h35 => ?_)
      · refine TL_gskip rfl rfl rfl rfl ?_
        refine TL_gskip rfl rfl rfl rfl ?_
        refine TL_y rfl rfl (Y_pick_t rfl rfl) ?_
        refine TL_chain_end rfl ?_ (by repeat (first | exact sub_refl | refine sub_ext rfl ?_)) GivesTo.g
        exact congrArg Value.bool (decide_eq_true (by omega)).symm
      · refine TL_grun rfl rfl ?_
        refine TL_y rfl rfl (Y_move rfl) ?_
        refine TL_grun rfl rfl ?_
        refine TL_y rfl rfl (Y_gt rfl rfl) ?_
        refine TL_y rfl rfl (Y_pick_f rfl rfl) ?_
        refine TL_chain_end rfl ?_ (by repeat (first | exact sub_refl | refine sub_ext rfl ?_)) GivesTo.g
        exact congrArg Value.bool (decide_eq_decide.2 (by omega))
    refine TL_nil ?_
    refine T_if rfl (fun h38 => ?_) (fun h38 => ?_)
    · refine T_region ?_
      refine TL_y rfl rfl (Y_assign rfl) ?_
      refine TL_nil ?_
      refine T_ret ?_
      refine thenS_ret ?_
      exact RetG_1 (.inl rfl) rfl (ResV.tmp rfl) GivesTo.g (⟨rfl, rfl⟩)
    · refine T_skip ?_
      refine thenS_normal ?_
      refine T_seq ?_
      refine T_region ?_
      refine TL_y rfl rfl (Y_assign rfl) ?_
      refine TL_nil ?_
      refine T_block ?_
      refine T_loopK (σ := Nat) [0, 1, 2, 3, 4] (fun i => i ≤ l.length ∧ ∀ e ∈ l.take i, e.dot.1 ≠ 6 ∧ ¬ 0 < ofV e.deps 6) (fun i kv => (13, .int .i64 (i : Int)) :: kv) (fun i => sl (intR .i64) none 0 [] :: sl orderR S cs s :: sl eventR A c l :: L) (fun i => l.length - i) (0) rfl (⟨Nat.zero_le _, by simp⟩) (GivesTo.g) (sub_cons rfl (sub_cons rfl (sub_cons rfl (sub_cons rfl (sub_cons rfl (sub_cons rfl (sub_nil))))))) ?_
      intro i hi
      refine T_seq ?_
      refine T_region ?_
      refine TL_y rfl rfl (Y_move rfl) ?_
      refine TL_y rfl rfl (Y_move rfl) ?_
      refine TL_y rfl rfl (Y_len rfl) ?_
      refine TL_y rfl rfl (Y_lt rfl rfl) ?_
      refine TL_nil ?_
      refine T_if rfl (fun h42 => ?_) (fun h42 => ?_)
      · refine T_skip ?_
        refine thenS_normal ?_
        refine T_seq ?_
        refine T_block ?_
        obtain ⟨x, hx⟩ : ∃ x, l[i]? = some x := ⟨_, List.getElem?_eq_getElem (by omega)⟩
        refine T_region ?_
        refine TL_y rfl rfl (Y_move rfl) ?_
        refine TL_y rfl rfl (Y_move rfl) ?_
        refine TL_index_n rfl rfl rfl (rfl) ((sln (A := A) (c := c))) (hx) ?_
        intro bn47 on47 hA47 hk47
        have hu47 := hx
        refine TL_y rfl rfl (Y_field_addr2 rfl) ?_
        refine TL_y rfl rfl (Y_field_addr2 rfl) ?_
        refine TL_y rfl rfl (Y_load_nx rfl hk47 hu47 (fun _ => rfl)) ?_
        refine TL_y rfl rfl (Y_eq rfl rfl) ?_
        refine TL_y rfl rfl (Y_move rfl) ?_
        refine TL_splitd 52 rfl (fun h52 => ?_) (fun h52 => ?_)
        · refine TL_gskip rfl rfl rfl rfl ?_
          refine TL_gskip rfl rfl rfl rfl ?_
          refine TL_gskip rfl rfl rfl rfl ?_
          refine TL_gskip rfl rfl rfl rfl ?_
          refine TL_gskip rfl rfl rfl rfl ?_
          refine TL_gskip rfl rfl rfl rfl ?_
          refine TL_gskip rfl rfl rfl rfl ?_
          refine TL_y rfl rfl (Y_pick_t rfl rfl) ?_
          refine TL_nil ?_
          refine T_cond_true rfl ?_
          refine T_region ?_
          refine TL_y rfl rfl (Y_assign rfl) ?_
          refine TL_nil ?_
          refine T_ret ?_
          refine inB_ret ?_
          refine thenS_ret ?_
          refine thenS_ret ?_
          refine inB_ret ?_
          refine thenS_ret ?_
          exact RetG_1 (.inl rfl) rfl (ResV.tmp rfl) GivesTo.g (⟨rfl, rfl⟩)
        · refine TL_grun rfl rfl ?_
          refine TL_y rfl rfl (Y_move rfl) ?_
          refine TL_grun rfl rfl ?_
          refine TL_y rfl rfl (Y_move rfl) ?_
          refine TL_grun rfl rfl ?_
          refine TL_index_n rfl rfl rfl (rfl) ((sln (A := A) (c := c))) (hx) ?_
          intro bn55 on55 hA55 hk55
          have hu55 := hx
          refine TL_grun rfl rfl ?_
          refine TL_y rfl rfl (Y_field_addr2 rfl) ?_
          refine TL_grun rfl rfl ?_
          refine TL_load_nx1 rfl rfl hk55 hu55 (fun _ => rfl) ?_
          intro p57 ok57
          simp only [List.cons_append, List.nil_append]
          refine TL_grun rfl rfl ?_
          refine TL_call rfl rfl (vvOf_spec (SlK.n slk) 6) ?_
          rintro _ _ ⟨rfl, rfl⟩
          refine TL_grun rfl rfl ?_
          refine TL_y rfl rfl (Y_gt rfl rfl) ?_
          refine TL_y rfl rfl (Y_pick_f rfl rfl) ?_
          refine TL_nil ?_
          refine T_if rfl (fun h60 => ?_) (fun h60 => ?_)
          · refine T_region ?_
            refine TL_y rfl rfl (Y_assign rfl) ?_
            refine TL_nil ?_
            refine T_ret ?_
            refine inB_ret ?_
            refine thenS_ret ?_
            refine thenS_ret ?_
            refine inB_ret ?_
            refine thenS_ret ?_
            exact RetG_1 (.inl rfl) rfl (ResV.tmp rfl) GivesTo.g (⟨rfl, rfl⟩)
          · refine T_skip ?_
            refine inB_normal ?_
            refine thenS_normal ?_
            refine T_region_last ?_
            refine TL_y rfl rfl (Y_move rfl) ?_
            refine TL_name 43 (v' := .int .i64 (i : Int)) rfl (rfl) ?_
            refine TL_y rfl rfl (Y_add rfl rfl (by omega)) ?_
            refine TL_name 44 (v' := .int .i64 ((i + 1 : Nat) : Int)) rfl (rfl) ?_
            refine TL_y rfl rfl (Y_assign rfl) ?_
            refine TL_nil ?_
            refine thenS_normal ?_
            exact ⟨i + 1, ⟨by omega, by rw [takeAt hx]; intro q hq; rcases List.mem_append.1 hq with h | h; exact hi.2 q h; (rw [List.mem_singleton.1 h]; exact ⟨h52, h60⟩)⟩, by omega, holds_to (sub_cons rfl (sub_cons rfl (sub_cons rfl (sub_cons rfl (sub_cons rfl (sub_cons rfl (sub_nil))))))) GivesTo.g⟩
      · refine T_exit ?_
        refine thenS_exit ?_
        refine thenS_exit ?_
        refine inB_hit ?_
        refine thenS_normal ?_
        refine T_seq ?_
        have hall := hi.2
        rw [List.take_of_length_le (show l.length ≤ i by omega)] at hall
        refine T_region ?_
        refine TL_y rfl rfl (Y_assign rfl) ?_
        refine TL_nil ?_
        refine T_block ?_
        refine T_loopK (σ := Nat) [0, 1, 2, 3, 4] (fun j => j ≤ s.length ∧ ∀ x ∈ s.take j, ¬ 0 < ofV x.cut 6) (fun j kv => (14, .int .i64 (j : Int)) :: kv) (fun j => sl (intR .i64) none 0 [] :: sl orderR S cs s :: sl eventR A c l :: L) (fun j => s.length - j) (0) rfl (⟨Nat.zero_le _, by simp⟩) (GivesTo.g) (sub_cons rfl (sub_cons rfl (sub_cons rfl (sub_cons rfl (sub_cons rfl (sub_cons rfl (sub_nil))))))) ?_
        intro j hj
        refine T_seq ?_
        refine T_region ?_
        refine TL_y rfl rfl (Y_move rfl) ?_
        refine TL_y rfl rfl (Y_move rfl) ?_
        refine TL_y rfl rfl (Y_len rfl) ?_
        refine TL_y rfl rfl (Y_lt rfl rfl) ?_
        refine TL_nil ?_
        refine T_if rfl (fun h64 => ?_) (fun h64 => ?_)
        · refine T_skip ?_
          refine thenS_normal ?_
          refine T_seq ?_
          refine T_block ?_
          obtain ⟨x, hx⟩ : ∃ x, s[j]? = some x := ⟨_, List.getElem?_eq_getElem (by omega)⟩
          refine T_region ?_
          refine TL_y rfl rfl (Y_move rfl) ?_
          refine TL_y rfl rfl (Y_move rfl) ?_
          refine TL_index_n rfl rfl rfl (rfl) ((sln (A := S) (c := cs))) (hx) ?_
          intro bn69 on69 hA69 hk69
          have hu69 := hx
          refine TL_y rfl rfl (Y_field_addr2 rfl) ?_
          refine TL_load_nx1 rfl rfl hk69 hu69 (fun _ => rfl) ?_
          intro p71 ok71
          simp only [List.cons_append, List.nil_append]
          refine TL_call rfl rfl (vvOf_spec (SlK.n slk) 6) ?_
          rintro _ _ ⟨rfl, rfl⟩
          refine TL_y rfl rfl (Y_gt rfl rfl) ?_
          refine TL_nil ?_
          refine T_if rfl (fun h73 => ?_) (fun h73 => ?_)
          · refine T_region ?_
            refine TL_y rfl rfl (Y_assign rfl) ?_
            refine TL_nil ?_
            refine T_ret ?_
            refine inB_ret ?_
            refine thenS_ret ?_
            refine thenS_ret ?_
            refine inB_ret ?_
            refine thenS_ret ?_
            exact RetG_1 (.inl rfl) rfl (ResV.tmp rfl) GivesTo.g (⟨rfl, rfl⟩)
          · refine T_skip ?_
            refine inB_normal ?_
            refine thenS_normal ?_
            refine T_region_last ?_
            refine TL_y rfl rfl (Y_move rfl) ?_
            refine TL_name 65 (v' := .int .i64 (j : Int)) rfl (rfl) ?_
            refine TL_y rfl rfl (Y_add rfl rfl (by omega)) ?_
            refine TL_name 66 (v' := .int .i64 ((j + 1 : Nat) : Int)) rfl (rfl) ?_
            refine TL_y rfl rfl (Y_assign rfl) ?_
            refine TL_nil ?_
            refine thenS_normal ?_
            exact ⟨j + 1, ⟨by omega, by rw [takeAt hx]; intro q hq; rcases List.mem_append.1 hq with h | h; exact hj.2 q h; (rw [List.mem_singleton.1 h]; exact h73)⟩, by omega, holds_to (sub_cons rfl (sub_cons rfl (sub_cons rfl (sub_cons rfl (sub_cons rfl (sub_cons rfl (sub_nil))))))) GivesTo.g⟩
        · refine T_exit ?_
          refine thenS_exit ?_
          refine thenS_exit ?_
          refine inB_hit ?_
          refine thenS_normal ?_
          have hcut := hj.2
          rw [List.take_of_length_le (show s.length ≤ j by omega)] at hcut
          have hqs := qty_snoc (x := apE cart sku qty) hR.qty (by simp only; omega)
          have hll := late_line hR.right hcut (name := cart) (sku := sku) (qty := qty) (by omega) hall
          have hlb := lineF_bound (l := openC l s) (fun e he => hR.qty e (openC_sub he)) cart sku
          have hol := openC_len l s
          have hel := epochC_len s cart
          refine T_region ?_
          refine TL_build_slice rfl rfl rfl rfl rfl rfl ?_
          intro b74
          refine TL_osl (k := 0) eventR [] (Knows.const fun M => rfl) rfl (by simp) ?_
          refine TL_name 74 (v' := .slice (some ⟨b74, 0, none⟩) ([] : List EventD).length 0) rfl rfl ?_
          refine TL_y rfl rfl (Y_move rfl) ?_
          refine TL_append (R := eventR) (ys := l) rfl rfl rfl rfl rfl (slk (A := A) (c := c)) (by simp only [List.length_nil]; omega) ?_
          intro A76 c76
          simp only [List.nil_append]
          refine TL_y rfl rfl (Y_build rfl rfl) ?_
          refine TL_y rfl rfl (Y_move rfl) ?_
          refine TL_y rfl rfl (Y_move rfl) ?_
          refine TL_y rfl rfl (Y_move rfl) ?_
          refine TL_y rfl rfl (Y_build rfl rfl) ?_
          refine TL_build_slice rfl rfl rfl rfl rfl rfl ?_
          intro b82
          refine TL_osl (k := 1) eventR [apE cart sku qty] (cells_one' (ex_rep ((none : Option Addr), (0 : Nat)) (sep_sl slk) ⟨i64In_mk (by simp only; omega), i64In_mk (by simp only; omega), by simp, hn, i64In_mk (by simp only; omega), hsk, i64In_mk (by simp only; omega)⟩)) rfl (by decide) ?_
          refine TL_freeze_osl ?_
          refine TL_name 82 (v' := .slice (some ⟨b82, 0, none⟩) [apE cart sku qty].length 1) rfl rfl ?_
          refine TL_append (R := eventR) (xs := l) (ys := [apE cart sku qty]) rfl rfl rfl rfl rfl (slk (A := some ⟨b82, 0, none⟩) (c := 1)) (by simp only [List.length_cons, List.length_nil]; omega) ?_
          intro A83 c83
          refine TL_freeze_osl ?_
          refine TL_y rfl rfl (Y_assign rfl) ?_
          refine TL_nil ?_
          refine T_seq ?_
          refine T_region ?_
          refine TL_y rfl rfl (Y_assign rfl) ?_
          refine TL_nil ?_
          refine T_block ?_
          refine T_loopK (σ := Nat) [0, 1, 2, 3, 4, 15] (fun n => n ≤ epochC s cart) (fun n kv => (16, .int .i64 (n : Int)) :: kv) (fun n => sl eventR A83 c83 (l ++ [apE cart sku qty]) :: sl orderR S cs s :: sl eventR A c l :: L) (fun n => epochC s cart - n) (0) rfl (Nat.zero_le _) (GivesTo.g) (sub_cons rfl (sub_cons rfl (sub_cons rfl (sub_cons rfl (sub_cons rfl (sub_cons rfl (sub_cons rfl (sub_nil)))))))) ?_
          intro n hnn
          refine T_seq ?_
          refine T_region ?_
          refine TL_y rfl rfl (Y_move rfl) ?_
          refine TL_y rfl rfl (Y_move rfl) ?_
          refine TL_y rfl rfl (Y_move rfl) ?_
          refine TL_call rfl rfl (epoch_spec (s := s) cart slk) ?_
          rintro _ _ ⟨rfl, rfl⟩
          refine TL_y rfl rfl (Y_lt rfl rfl) ?_
          refine TL_nil ?_
          refine T_if rfl (fun h88 => ?_) (fun h88 => ?_)
          · refine T_skip ?_
            refine thenS_normal ?_
            refine T_seq ?_
            refine T_block ?_
            refine T_region ?_
            refine TL_y rfl rfl (Y_move rfl) ?_
            refine TL_y rfl rfl (Y_move rfl) ?_
            refine TL_y rfl rfl (Y_move rfl) ?_
            refine TL_y rfl rfl (Y_move rfl) ?_
            refine TL_call rfl rfl (order_spec (A := A83) (c := c83) (l := l ++ [apE cart sku qty]) (s := s) cart (n : Int) slk slk (by simp only [List.length_append, List.length_cons, List.length_nil]; omega) hqs) ?_
            rintro _ _ ⟨A95, c95, xs95, rfl, rfl, hx95⟩
            refine TL_freeze_osl ?_
            refine TL_y rfl rfl (Y_move rfl) ?_
            refine TL_y rfl rfl (Y_move rfl) ?_
            refine TL_y rfl rfl (Y_move rfl) ?_
            refine TL_y rfl rfl (Y_move rfl) ?_
            refine TL_call rfl rfl (order_spec (A := A) (c := c) (l := l) (s := s) cart (n : Int) slk slk (by omega) hR.qty) ?_
            rintro _ _ ⟨A100, c100, xs100, rfl, rfl, hx100⟩
            rw [late_ord hcut] at hx95
            obtain rfl : xs95 = xs100 := hx95.ext hx100 (fun _ => rfl)
            refine TL_freeze_osl ?_
            refine TL_call rfl rfl (refSameL_spec (xs := xs95) (ys := xs95) (sln (A := A95) (c := c95)) (sln (A := A100) (c := c100))) ?_
            rintro _ _ ⟨rfl, rfl⟩
            refine TL_name 101 (v' := .bool true) rfl (congrArg Value.bool (decide_eq_true rfl)) ?_
            refine TL_y rfl rfl (Y_not_t rfl) ?_
            refine TL_nil ?_
            refine T_cond_false rfl ?_
            refine T_skip ?_
            refine inB_normal ?_
            refine thenS_normal ?_
            refine T_region_last ?_
            refine TL_y rfl rfl (Y_move rfl) ?_
            refine TL_name 89 (v' := .int .i64 (n : Int)) rfl (rfl) ?_
            refine TL_y rfl rfl (Y_add rfl rfl (by omega)) ?_
            refine TL_name 90 (v' := .int .i64 ((n + 1 : Nat) : Int)) rfl (rfl) ?_
            refine TL_y rfl rfl (Y_assign rfl) ?_
            refine TL_nil ?_
            refine thenS_normal ?_
            exact ⟨n + 1, (by omega), by omega, holds_to (sub_cons rfl (sub_cons rfl (sub_cons rfl (sub_cons rfl (sub_cons rfl (sub_cons rfl (sub_cons rfl (sub_nil)))))))) GivesTo.g⟩
          · refine T_exit ?_
            refine thenS_exit ?_
            refine thenS_exit ?_
            refine inB_hit ?_
            refine thenS_normal ?_
            refine T_region ?_
            refine TL_y rfl rfl (Y_move rfl) ?_
            refine TL_y rfl rfl (Y_move rfl) ?_
            refine TL_y rfl rfl (Y_move rfl) ?_
            refine TL_call rfl rfl (open_spec (A := A83) (c := c83) (l := l ++ [apE cart sku qty]) (s := s) cart slk slk (by simp only [List.length_append, List.length_cons, List.length_nil]; omega) hqs) ?_
            rintro _ _ ⟨A106, c106, xs106, rfl, rfl, hx106⟩
            refine TL_y rfl rfl (Y_move rfl) ?_
            refine TL_call rfl rfl (of12_spec sku sln) ?_
            rintro _ _ ⟨rfl, rfl⟩
            refine TL_name 108 (v' := .int .i64 (lineF (openC l s) cart sku + qty)) rfl (by rw [hx106.of (fun e he => hqs e (openC_sub he)), hll]) ?_
            refine TL_y rfl rfl (Y_move rfl) ?_
            refine TL_y rfl rfl (Y_move rfl) ?_
            refine TL_y rfl rfl (Y_move rfl) ?_
            refine TL_call rfl rfl (open_spec (A := A) (c := c) (l := l) (s := s) cart slk slk (by omega) hR.qty) ?_
            rintro _ _ ⟨A112, c112, xs112, rfl, rfl, hx112⟩
            refine TL_y rfl rfl (Y_move rfl) ?_
            refine TL_call rfl rfl (of12_spec sku sln) ?_
            rintro _ _ ⟨rfl, rfl⟩
            refine TL_name 114 (v' := .int .i64 (lineF (openC l s) cart sku)) rfl (by rw [hx112.of (fun e he => hR.qty e (openC_sub he))]) ?_
            refine TL_y rfl rfl (Y_move rfl) ?_
            refine TL_y rfl rfl (Y_add rfl rfl (by omega)) ?_
            refine TL_y rfl rfl (Y_eq rfl rfl) ?_
            refine TL_name 117 (v' := .bool true) rfl (congrArg Value.bool (decide_eq_true rfl)) ?_
            refine TL_y rfl rfl (Y_assign rfl) ?_
            refine TL_nil ?_
            refine T_ret ?_
            exact RetG_1 (.inl rfl) rfl (ResV.tmp rfl) GivesTo.g (⟨rfl, rfl⟩)
  · refine T_region ?_
    refine TL_y rfl rfl (Y_move rfl) ?_
    refine TL_y rfl rfl (Y_ne rfl rfl) ?_
    refine TL_name 25 (v' := .bool false) rfl (rfl) ?_
    refine TL_y rfl rfl (Y_move rfl) ?_
    refine TL_grun rfl rfl ?_
    refine TL_y rfl rfl (Y_move rfl) ?_
    refine TL_grun rfl rfl ?_
    refine TL_call rfl rfl (once12_spec (slk (A := A) (c := c))) ?_
    rintro _ _ ⟨⟨r, rfl, hr⟩, rfl⟩
    obtain rfl : r = false := by cases r; rfl; exact absurd (hr.1 rfl) hR
    refine TL_grun rfl rfl ?_
    refine TL_y rfl rfl (Y_not rfl) ?_
    refine TL_name 29 (v' := .bool true) rfl (rfl) ?_
    refine TL_y rfl rfl (Y_pick_f rfl rfl) ?_
    refine TL_y rfl rfl (Y_move rfl) ?_
    refine TL_gskip rfl rfl rfl rfl ?_
    refine TL_gskip rfl rfl rfl rfl ?_
    refine TL_y rfl rfl (Y_pick_t rfl rfl) ?_
    refine TL_y rfl rfl (Y_move rfl) ?_
    refine TL_gskip rfl rfl rfl rfl ?_
    refine TL_gskip rfl rfl rfl rfl ?_
    refine TL_y rfl rfl (Y_pick_t rfl rfl) ?_
    refine TL_nil ?_
    refine T_cond_true rfl ?_
    refine T_region ?_
    refine TL_y rfl rfl (Y_assign rfl) ?_
    refine TL_nil ?_
    refine T_ret ?_
    refine thenS_ret ?_
    exact RetG_1 (.inl rfl) rfl (ResV.tmp rfl) GivesTo.g (⟨rfl, rfl⟩)
  · refine T_region ?_
    refine TL_y rfl rfl (Y_move rfl) ?_
    refine TL_y rfl rfl (Y_ne rfl rfl) ?_
    refine TL_name 25 (v' := .bool true) rfl (rfl) ?_
    refine TL_y rfl rfl (Y_move rfl) ?_
    refine TL_gskip rfl rfl rfl rfl ?_
    refine TL_gskip rfl rfl rfl rfl ?_
    refine TL_gskip rfl rfl rfl rfl ?_
    refine TL_y rfl rfl (Y_pick_t rfl rfl) ?_
    refine TL_y rfl rfl (Y_move rfl) ?_
    refine TL_gskip rfl rfl rfl rfl ?_
    refine TL_gskip rfl rfl rfl rfl ?_
    refine TL_y rfl rfl (Y_pick_t rfl rfl) ?_
    refine TL_y rfl rfl (Y_move rfl) ?_
    refine TL_gskip rfl rfl rfl rfl ?_
    refine TL_gskip rfl rfl rfl rfl ?_
    refine TL_y rfl rfl (Y_pick_t rfl rfl) ?_
    refine TL_nil ?_
    refine T_cond_true rfl ?_
    refine T_region ?_
    refine TL_y rfl rfl (Y_assign rfl) ?_
    refine TL_nil ?_
    refine T_ret ?_
    refine thenS_ret ?_
    exact RetG_1 (.inl rfl) rfl (ResV.tmp rfl) GivesTo.g (⟨rfl, rfl⟩)
  · refine T_region ?_
    refine TL_y rfl rfl (Y_move rfl) ?_
    refine TL_y rfl rfl (Y_ne rfl rfl) ?_
    refine TL_name 25 (v' := .bool true) rfl (rfl) ?_
    refine TL_y rfl rfl (Y_move rfl) ?_
    refine TL_gskip rfl rfl rfl rfl ?_
    refine TL_gskip rfl rfl rfl rfl ?_
    refine TL_gskip rfl rfl rfl rfl ?_
    refine TL_y rfl rfl (Y_pick_t rfl rfl) ?_
    refine TL_y rfl rfl (Y_move rfl) ?_
    refine TL_gskip rfl rfl rfl rfl ?_
    refine TL_gskip rfl rfl rfl rfl ?_
    refine TL_y rfl rfl (Y_pick_t rfl rfl) ?_
    refine TL_y rfl rfl (Y_move rfl) ?_
    refine TL_gskip rfl rfl rfl rfl ?_
    refine TL_gskip rfl rfl rfl rfl ?_
    refine TL_y rfl rfl (Y_pick_t rfl rfl) ?_
    refine TL_nil ?_
    refine T_cond_true rfl ?_
    refine T_region ?_
    refine TL_y rfl rfl (Y_assign rfl) ?_
    refine TL_nil ?_
    refine T_ret ?_
    refine thenS_ret ?_
    exact RetG_1 (.inl rfl) rfl (ResV.tmp rfl) GivesTo.g (⟨rfl, rfl⟩)
/-! ### An order that is whole -/
theorem belowB_of {a b : List Int} (h : belowB a b = true) (o : Int) : ofV a o ≤ ofV b o := by
  by_cases h0 : o < 0
  · rw [ofV_out (.inl h0), ofV_out (.inl h0)]; exact Int.le_refl _
  · by_cases h1 : o.toNat < max a.length b.length
    · have := of_decide_eq_true (List.all_eq_true.1 h o.toNat (List.mem_range.2 h1))
      rwa [show ((o.toNat : Nat) : Int) = o by omega] at this
    · rw [ofV_out (v := a) (.inr (by omega)), ofV_out (v := b) (.inr (by omega))]; exact Int.le_refl _
theorem whole_more {s : List OrderD} {ap : List Int} {name : ByteArray} {ep : Int} {more : List EventD} (hC : CheckC s) (hw : wholeC ap s name ep = true) (hm : ∀ e ∈ more, ¬ hasV ap e.dot) : ordLC more s name ep = [] := List.filter_eq_nil_iff.2 fun e he hh => by
  rw [Bool.and_eq_true, Bool.and_eq_true] at hh
  obtain ⟨⟨h1, h2⟩, h3⟩ := hh
  have h2 := of_decide_eq_true h2
  have h3 := of_decide_eq_true h3
  obtain ⟨i, x, hx, hsel, hn⟩ := bel_some h1
  unfold wholeC at hw
  cases hf : s.find? fun x => decide (x.cart = name) && decide (x.epoch = ep) with
  | none => rw [hf] at hw; cases hw
  | some y =>
    rw [hf] at hw
    have hy := List.find?_some hf
    rw [Bool.and_eq_true] at hy
    obtain ⟨j, hj⟩ := List.getElem?_of_mem (List.mem_of_find?_eq_some hf)
    have hyc := of_decide_eq_true hy.1
    have hye := of_decide_eq_true hy.2
    have hxc : x.cart = y.cart := by rw [hyc, hsel.1, h3]
    have hxe : x.epoch = y.epoch := by rw [hye, ← hn, h2]
    have hij : i = j := by
      have a1 := epoch_inj hC hx hj hxc hxe
      have a2 := epoch_inj hC hj hx hxc.symm hxe.symm
      omega
    subst hij
    rw [hx] at hj; cases hj
    refine hm e he ⟨hsel.2.2.1, Int.le_trans hsel.2.2.2 (belowB_of hw _)⟩
set_option maxHeartbeats 1000000 in
theorem cutWhole_walk {L : List HP} {A M S : Option Addr} {c cm cs : Nat} {l more : List EventD} {s : List OrderD} (cart : ByteArray) (ep : Int) (hk : SlK L eventR A c l) (hm : SlK L eventR M cm more) (hs : SlK L orderR S cs s) (hl : l.length ≤ 1048576) (hml : more.length ≤ 1048576) (hsl : s.length ≤ 1048576) : Fn Try.prog 10 #[.slice A l.length c, .slice M more.length cm, .slice S s.length cs, .string cart, .int .i64 ep] L (fun v L' => v = .bool true ∧ L' = L) := by
  refine Fn_enter Try.func10 rfl rfl rfl rfl ?_
  refine T_gives hk.lay ?_
  refine T_gives (hs.tail).lay ?_
  refine T_gives (hm.tail.tail).lay ?_
  refine T_gives (slnil (R := intR .i64) (A := none) (c := 0)).lay ?_
  refine T_region ?_
  refine TL_y rfl rfl (Y_assign rfl) ?_
  refine TL_nil ?_
  refine T_seq ?_
  refine T_region ?_
  refine TL_call rfl rfl (lives12_spec _) ?_
  rintro _ _ ⟨rfl, rfl⟩
  refine TL_y rfl rfl (Y_not rfl) ?_
  refine TL_name 19 (v' := .bool false) rfl (rfl) ?_
  refine TL_nil ?_
  refine T_cond_false rfl ?_
  refine T_skip ?_
  refine thenS_normal ?_
  refine T_region ?_
  refine TL_build_slice rfl rfl rfl rfl rfl rfl ?_
  intro b20
  refine TL_osl (k := 0) eventR [] (Knows.const fun M => rfl) rfl (by simp) ?_
  refine TL_name 20 (v' := .slice (some ⟨b20, 0, none⟩) ([] : List EventD).length 0) rfl rfl ?_
  refine TL_y rfl rfl (Y_move rfl) ?_
  refine TL_append (R := eventR) (ys := l) rfl rfl rfl rfl rfl (slk (A := A) (c := c)) (by simp only [List.length_nil]; omega) ?_
  intro A22 c22
  simp only [List.nil_append]
  refine TL_y rfl rfl (Y_move rfl) ?_
  refine TL_append (R := eventR) (xs := l) (ys := more) rfl rfl rfl rfl rfl (slk (A := M) (c := cm)) (by omega) ?_
  intro A24 c24
  refine TL_freeze_osl ?_
  refine TL_y rfl rfl (Y_assign rfl) ?_
  refine TL_nil ?_
  refine T_seq ?_
  refine T_region ?_
  refine TL_y rfl rfl (Y_move rfl) ?_
  refine TL_call rfl rfl (refCheck_spec (s := s) slk) ?_
  rintro _ _ ⟨⟨nn, ee, rfl, hee⟩, rfl⟩
  refine TL_y rfl rfl (Y_move rfl) ?_
  refine TL_y rfl rfl (Y_extract rfl rfl) ?_
  refine TL_y rfl rfl (Y_extract rfl rfl) ?_
  refine TL_y rfl rfl (Y_assign rfl) ?_
  refine TL_y rfl rfl (Y_assign rfl) ?_
  refine TL_nil ?_
  rcases hee with ⟨rfl, hC⟩ | ⟨rfl, hC⟩ <;> rcases Classical.em (Once12 (l ++ more)) with hR | hR
  · refine T_region ?_
    refine TL_y rfl rfl (Y_move rfl) ?_
    refine TL_y rfl rfl (Y_ne rfl rfl) ?_
    refine TL_name 31 (v' := .bool false) rfl (rfl) ?_
    refine TL_y rfl rfl (Y_move rfl) ?_
    refine TL_grun rfl rfl ?_
    refine TL_y rfl rfl (Y_move rfl) ?_
    refine TL_grun rfl rfl ?_
    refine TL_call rfl rfl (once12_spec (l := l ++ more) (slk (A := A24) (c := c24))) ?_
    rintro _ _ ⟨⟨r, rfl, hr⟩, rfl⟩
    obtain rfl := hr.2 hR
    refine TL_grun rfl rfl ?_
    refine TL_y rfl rfl (Y_not rfl) ?_
    refine TL_name 35 (v' := .bool false) rfl (rfl) ?_
    refine TL_y rfl rfl (Y_pick_f rfl rfl) ?_
    refine TL_nil ?_
    refine T_cond_false rfl ?_
    refine T_skip ?_
    refine thenS_normal ?_
    refine T_region ?_
    refine TL_y rfl rfl (Y_assign rfl) ?_
    refine TL_nil ?_
    refine T_seq ?_
    refine T_region ?_
    refine TL_y rfl rfl (Y_assign rfl) ?_
    refine TL_nil ?_
    refine T_block ?_
    refine T_loopK (σ := AdSt) [0, 1, 2, 3, 4, 11] (fun g => g.i ≤ l.length ∧ g.s.length ≤ 7) (fun g kv => (15, .int .i64 (g.i : Int)) :: (14, .slice g.A g.s.length g.c) :: kv) (fun g => sl (intR .i64) g.A g.c g.s :: sl eventR A24 c24 (l ++ more) :: sl eventR M cm more :: sl orderR S cs s :: sl eventR A c l :: L) (fun g => l.length - g.i) (⟨0, none, 0, []⟩) rfl (⟨Nat.zero_le _, by simp⟩) (GivesTo.g) (sub_cons rfl (sub_cons rfl (sub_cons rfl (sub_cons rfl (sub_cons rfl (sub_cons rfl (sub_cons rfl (sub_cons rfl (sub_nil))))))))) ?_
    rintro ⟨i, X, cx, v⟩ ⟨hi, hv7⟩
    dsimp only at hi hv7 ⊢
    refine T_seq ?_
    refine T_region ?_
    refine TL_y rfl rfl (Y_move rfl) ?_
    refine TL_y rfl rfl (Y_move rfl) ?_
    refine TL_y rfl rfl (Y_len rfl) ?_
    refine TL_y rfl rfl (Y_lt rfl rfl) ?_
    refine TL_nil ?_
    refine T_if rfl (fun h40 => ?_) (fun h40 => ?_)
    · refine T_skip ?_
      refine thenS_normal ?_
      refine T_seq ?_
      refine T_block ?_
      obtain ⟨x, hx⟩ : ∃ x, l[i]? = some x := ⟨_, List.getElem?_eq_getElem (by omega)⟩
      refine T_region ?_
      refine TL_y rfl rfl (Y_move rfl) ?_
      refine TL_y rfl rfl (Y_move rfl) ?_
      refine TL_index_n rfl rfl rfl (rfl) ((sln (A := A) (c := c))) (hx) ?_
      intro bn45 on45 hA45 hk45
      have hu45 := hx
      refine TL_y rfl rfl (Y_field_addr2 rfl) ?_
      refine TL_load_nx rfl rfl hk45 hu45 (fun _ => rfl) ?_
      intro p47 ok47
      simp only [List.cons_append, List.nil_append]
      refine TL_alloc rfl rfl ?_
      intro b16
      refine TL_store rfl rfl rfl rfl rfl rfl ?_
      refine TL_nil ?_
      refine T_seq ?_
      refine T_region ?_
      refine TL_y rfl rfl (Y_field_addr rfl) ?_
      refine TL_y rfl rfl (Y_load rfl rfl) ?_
      refine TL_y rfl rfl (Y_lt rfl rfl) ?_
      refine TL_y rfl rfl (Y_move rfl) ?_
      refine TL_splitd 51 rfl (fun h51 => ?_) (fun h51 => ?_)
      · refine TL_gskip rfl rfl rfl rfl ?_
        refine TL_gskip rfl rfl rfl rfl ?_
        refine TL_gskip rfl rfl rfl rfl ?_
        refine TL_y rfl rfl (Y_pick_t rfl rfl) ?_
        refine TL_y rfl rfl (Y_move rfl) ?_
        refine TL_gskip rfl rfl rfl rfl ?_
        refine TL_gskip rfl rfl rfl rfl ?_
        refine TL_gskip rfl rfl rfl rfl ?_
        refine TL_y rfl rfl (Y_pick_t rfl rfl) ?_
        refine TL_y rfl rfl (Y_move rfl) ?_
        refine TL_gskip rfl rfl rfl rfl ?_
        refine TL_gskip rfl rfl rfl rfl ?_
        refine TL_gskip rfl rfl rfl rfl ?_
        refine TL_y rfl rfl (Y_pick_t rfl rfl) ?_
        refine TL_nil ?_
        refine T_cond_true rfl ?_
        refine T_region ?_
        refine TL_y rfl rfl (Y_assign rfl) ?_
        refine TL_nil ?_
        refine T_ret ?_
        refine thenS_ret ?_
        refine inB_ret ?_
        refine thenS_ret ?_
        refine thenS_ret ?_
        refine inB_ret ?_
        refine thenS_ret ?_
        exact RetG_1 (.inl rfl) rfl (ResV.tmp rfl) GivesTo.g (⟨rfl, rfl⟩)
      · refine TL_grun rfl rfl ?_
        refine TL_y rfl rfl (Y_field_addr rfl) ?_
        refine TL_grun rfl rfl ?_
        refine TL_y rfl rfl (Y_load rfl rfl) ?_
        refine TL_grun rfl rfl ?_
        refine TL_y rfl rfl (Y_gt rfl rfl) ?_
        refine TL_y rfl rfl (Y_pick_f rfl rfl) ?_
        refine TL_y rfl rfl (Y_move rfl) ?_
        refine TL_splitd 56 rfl (fun h56 => ?_) (fun h56 => ?_)
        · refine TL_gskip rfl rfl rfl rfl ?_
          refine TL_gskip rfl rfl rfl rfl ?_
          refine TL_gskip rfl rfl rfl rfl ?_
          refine TL_y rfl rfl (Y_pick_t rfl rfl) ?_
          refine TL_y rfl rfl (Y_move rfl) ?_
          refine TL_gskip rfl rfl rfl rfl ?_
          refine TL_gskip rfl rfl rfl rfl ?_
          refine TL_gskip rfl rfl rfl rfl ?_
          refine TL_y rfl rfl (Y_pick_t rfl rfl) ?_
          refine TL_nil ?_
          refine T_cond_true rfl ?_
          refine T_region ?_
          refine TL_y rfl rfl (Y_assign rfl) ?_
          refine TL_nil ?_
          refine T_ret ?_
          refine thenS_ret ?_
          refine inB_ret ?_
          refine thenS_ret ?_
          refine thenS_ret ?_
          refine inB_ret ?_
          refine thenS_ret ?_
          exact RetG_1 (.inl rfl) rfl (ResV.tmp rfl) GivesTo.g (⟨rfl, rfl⟩)
        · refine TL_grun rfl rfl ?_
          refine TL_y rfl rfl (Y_field_addr rfl) ?_
          refine TL_grun rfl rfl ?_
          refine TL_y rfl rfl (Y_load rfl rfl) ?_
          refine TL_grun rfl rfl ?_
          refine TL_y rfl rfl (Y_lt rfl rfl) ?_
          refine TL_y rfl rfl (Y_pick_f rfl rfl) ?_
          refine TL_y rfl rfl (Y_move rfl) ?_
          refine TL_splitd 61 rfl (fun h61 => ?_) (fun h61 => ?_)
          · refine TL_gskip rfl rfl rfl rfl ?_
            refine TL_gskip rfl rfl rfl rfl ?_
            refine TL_gskip rfl rfl rfl rfl ?_
            refine TL_y rfl rfl (Y_pick_t rfl rfl) ?_
            refine TL_nil ?_
            refine T_cond_true rfl ?_
            refine T_region ?_
            refine TL_y rfl rfl (Y_assign rfl) ?_
            refine TL_nil ?_
            refine T_ret ?_
            refine thenS_ret ?_
            refine inB_ret ?_
            refine thenS_ret ?_
            refine thenS_ret ?_
            refine inB_ret ?_
            refine thenS_ret ?_
            exact RetG_1 (.inl rfl) rfl (ResV.tmp rfl) GivesTo.g (⟨rfl, rfl⟩)
          · refine TL_grun rfl rfl ?_
            refine TL_y rfl rfl (Y_field_addr rfl) ?_
            refine TL_grun rfl rfl ?_
            refine TL_y rfl rfl (Y_load rfl rfl) ?_
            refine TL_grun rfl rfl ?_
            refine TL_y rfl rfl (Y_gt rfl rfl) ?_
            refine TL_y rfl rfl (Y_pick_f rfl rfl) ?_
            refine TL_nil ?_
            refine T_if rfl (fun h65 => ?_) (fun h65 => ?_)
            · refine T_region ?_
              refine TL_y rfl rfl (Y_assign rfl) ?_
              refine TL_nil ?_
              refine T_ret ?_
              refine thenS_ret ?_
              refine inB_ret ?_
              refine thenS_ret ?_
              refine thenS_ret ?_
              refine inB_ret ?_
              refine thenS_ret ?_
              exact RetG_1 (.inl rfl) rfl (ResV.tmp rfl) GivesTo.g (⟨rfl, rfl⟩)
            · refine T_skip ?_
              refine thenS_normal ?_
              refine T_region_draw _ [0, 1, 0, 0, 8, 28, 63] [] [(0, true), (1, true), (2, true), (3, true), (4, true), (5, false), (6, true)] (by kernel_rfl) (by decide +kernel) (Gives.refl _) ?_
              refine TF_y rfl rfl (Y_field_addr rfl) ?_
              refine TF_y rfl rfl (Y_load rfl rfl) ?_
              refine TF_y rfl rfl (Y_move rfl) ?_
              refine TF_y rfl rfl (Y_field_addr rfl) ?_
              refine TF_y rfl rfl (Y_load rfl rfl) ?_
              refine TF_anchor rfl ?_
              refine TL_call rfl rfl (vvOf_spec (SlK.n slk) x.dot.1) ?_
              rintro _ _ ⟨rfl, rfl⟩
              refine TF_end GivesTo.g ?_
              refine TF_y rfl rfl (Y_gt rfl rfl) ?_
              refine TF_nil ?_
              refine T_if rfl (fun h72 => ?_) (fun h72 => ?_)
              · obtain ⟨o, ho⟩ : ∃ o : Nat, x.dot.1 = (o : Int) := ⟨x.dot.1.toNat, by omega⟩
                have hwl := wiV_len v o x.dot.2
                have hpl := plain_len (wiV v o x.dot.2)
                refine T_region_last ?_
                refine TL_y rfl rfl (Y_move rfl) ?_
                refine TL_y rfl rfl (Y_field_addr rfl) ?_
                refine TL_y rfl rfl (Y_load rfl rfl) ?_
                refine TL_name 76 (v' := .int .i64 (o : Int)) rfl (by rw [ho]) ?_
                refine TL_y rfl rfl (Y_field_addr rfl) ?_
                refine TL_y rfl rfl (Y_load rfl rfl) ?_
                refine TL_call rfl rfl (vvWith_spec o x.dot.2 (SlK.n slk) (by omega) (by omega) (by omega)) ?_
                rintro _ _ ⟨A79, c79, rfl, rfl⟩
                refine TL_freeze_osl ?_
                refine TL_y rfl rfl (Y_move rfl) ?_
                refine TL_y rfl rfl (Y_extract rfl rfl) ?_
                refine TL_y rfl rfl (Y_extract rfl rfl) ?_
                refine TL_y rfl rfl (Y_assign rfl) ?_
                refine TL_nil ?_
                refine inB_normal ?_
                refine thenS_normal ?_
                refine T_region_last ?_
                refine TL_y rfl rfl (Y_move rfl) ?_
                refine TL_name 41 (v' := .int .i64 (i : Int)) rfl (rfl) ?_
                refine TL_y rfl rfl (Y_add rfl rfl (by omega)) ?_
                refine TL_name 42 (v' := .int .i64 ((i + 1 : Nat) : Int)) rfl (rfl) ?_
                refine TL_y rfl rfl (Y_assign rfl) ?_
                refine TL_nil ?_
                refine thenS_normal ?_
                exact ⟨⟨i + 1, A79, c79, plainV (wiV v o x.dot.2)⟩, ⟨by simp only; omega, by simp only; omega⟩, by simp only; omega, holds_to (sub_cons rfl (sub_cons rfl (sub_cons rfl (sub_cons rfl (sub_cons rfl (sub_cons rfl (sub_cons rfl (sub_cons rfl (sub_nil))))))))) GivesTo.g⟩
              · refine T_skip ?_
                refine inB_normal ?_
                refine thenS_normal ?_
                refine T_region_last ?_
                refine TL_y rfl rfl (Y_move rfl) ?_
                refine TL_name 41 (v' := .int .i64 (i : Int)) rfl (rfl) ?_
                refine TL_y rfl rfl (Y_add rfl rfl (by omega)) ?_
                refine TL_name 42 (v' := .int .i64 ((i + 1 : Nat) : Int)) rfl (rfl) ?_
                refine TL_y rfl rfl (Y_assign rfl) ?_
                refine TL_nil ?_
                refine thenS_normal ?_
                exact ⟨⟨i + 1, X, cx, v⟩, ⟨by simp only; omega, hv7⟩, by simp only; omega, holds_to (sub_cons rfl (sub_cons rfl (sub_cons rfl (sub_cons rfl (sub_cons rfl (sub_cons rfl (sub_cons rfl (sub_cons rfl (sub_nil))))))))) GivesTo.g⟩
    · refine T_exit ?_
      refine thenS_exit ?_
      refine thenS_exit ?_
      refine inB_hit ?_
      refine thenS_normal ?_
      refine T_seq ?_
      refine T_region ?_
      refine TL_y rfl rfl (Y_assign rfl) ?_
      refine TL_nil ?_
      refine T_block ?_
      refine T_loopK (σ := Nat) [0, 1, 2, 3, 4, 11, 14] (fun j => j ≤ more.length ∧ ∀ e ∈ more.take j, ¬ hasV v e.dot) (fun j kv => (17, .int .i64 (j : Int)) :: kv) (fun j => sl (intR .i64) X cx v :: sl eventR A24 c24 (l ++ more) :: sl eventR M cm more :: sl orderR S cs s :: sl eventR A c l :: L) (fun j => more.length - j) (0) rfl (⟨Nat.zero_le _, by simp⟩) (GivesTo.g) (sub_cons rfl (sub_cons rfl (sub_cons rfl (sub_cons rfl (sub_cons rfl (sub_cons rfl (sub_cons rfl (sub_cons rfl (sub_nil))))))))) ?_
      intro j hj
      refine T_seq ?_
      refine T_region ?_
      refine TL_y rfl rfl (Y_move rfl) ?_
      refine TL_y rfl rfl (Y_move rfl) ?_
      refine TL_y rfl rfl (Y_len rfl) ?_
      refine TL_y rfl rfl (Y_lt rfl rfl) ?_
      refine TL_nil ?_
      refine T_if rfl (fun h85 => ?_) (fun h85 => ?_)
      · refine T_skip ?_
        refine thenS_normal ?_
        refine T_seq ?_
        refine T_block ?_
        obtain ⟨x, hx⟩ : ∃ x, more[j]? = some x := ⟨_, List.getElem?_eq_getElem (by omega)⟩
        refine T_region ?_
        refine TL_y rfl rfl (Y_move rfl) ?_
        refine TL_y rfl rfl (Y_move rfl) ?_
        refine TL_y rfl rfl (Y_move rfl) ?_
        refine TL_index_n rfl rfl rfl (rfl) ((sln (A := M) (c := cm))) (hx) ?_
        intro bn91 on91 hA91 hk91
        have hu91 := hx
        refine TL_y rfl rfl (Y_field_addr2 rfl) ?_
        refine TL_load_nx rfl rfl hk91 hu91 (fun _ => rfl) ?_
        intro p93 ok93
        simp only [List.cons_append, List.nil_append]
        refine TL_call rfl rfl (vvHas_spec (SlK.n (slk (A := X) (c := cx))) x.dot) ?_
        rintro _ _ ⟨rfl, rfl⟩
        refine TL_nil ?_
        refine T_if rfl (fun h94 => ?_) (fun h94 => ?_)
        · refine T_region ?_
          refine TL_y rfl rfl (Y_assign rfl) ?_
          refine TL_nil ?_
          refine T_ret ?_
          refine inB_ret ?_
          refine thenS_ret ?_
          refine thenS_ret ?_
          refine inB_ret ?_
          refine thenS_ret ?_
          exact RetG_1 (.inl rfl) rfl (ResV.tmp rfl) GivesTo.g (⟨rfl, rfl⟩)
        · refine T_skip ?_
          refine inB_normal ?_
          refine thenS_normal ?_
          refine T_region_last ?_
          refine TL_y rfl rfl (Y_move rfl) ?_
          refine TL_name 86 (v' := .int .i64 (j : Int)) rfl (rfl) ?_
          refine TL_y rfl rfl (Y_add rfl rfl (by omega)) ?_
          refine TL_name 87 (v' := .int .i64 ((j + 1 : Nat) : Int)) rfl (rfl) ?_
          refine TL_y rfl rfl (Y_assign rfl) ?_
          refine TL_nil ?_
          refine thenS_normal ?_
          exact ⟨j + 1, ⟨by omega, by rw [takeAt hx]; intro q hq; rcases List.mem_append.1 hq with h | h; exact hj.2 q h; (rw [List.mem_singleton.1 h]; exact h94)⟩, by omega, holds_to (sub_cons rfl (sub_cons rfl (sub_cons rfl (sub_cons rfl (sub_cons rfl (sub_cons rfl (sub_cons rfl (sub_cons rfl (sub_nil))))))))) GivesTo.g⟩
      · refine T_exit ?_
        refine thenS_exit ?_
        refine thenS_exit ?_
        refine inB_hit ?_
        refine thenS_normal ?_
        refine T_seq ?_
        rcases hw : wholeC v s cart ep with _ | _
        · have hno := hj.2
          rw [List.take_of_length_le (show more.length ≤ j by omega)] at hno
          have hql : ∀ e ∈ l, 0 ≤ e.qty ∧ e.qty ≤ 1000 := fun e he => hR.qty e (List.mem_append_left _ he)
          refine T_region ?_
          refine TL_y rfl rfl (Y_move rfl) ?_
          refine TL_y rfl rfl (Y_move rfl) ?_
          refine TL_y rfl rfl (Y_move rfl) ?_
          refine TL_y rfl rfl (Y_move rfl) ?_
          refine TL_call rfl rfl (whole_spec (s := s) cart ep (SlK.n (slk (A := X) (c := cx))) slk) ?_
          rintro _ _ ⟨rfl, rfl⟩
          rw [hw]
          refine TL_y rfl rfl (Y_not rfl) ?_
          refine TL_name 100 (v' := .bool true) rfl (rfl) ?_
          refine TL_nil ?_
          refine T_cond_true rfl ?_
          refine T_region ?_
          refine TL_y rfl rfl (Y_assign rfl) ?_
          refine TL_nil ?_
          refine T_ret ?_
          refine thenS_ret ?_
          exact RetG_1 (.inl rfl) rfl (ResV.tmp rfl) GivesTo.g (⟨rfl, rfl⟩)
        · have hno := hj.2
          rw [List.take_of_length_le (show more.length ≤ j by omega)] at hno
          have hql : ∀ e ∈ l, 0 ≤ e.qty ∧ e.qty ≤ 1000 := fun e he => hR.qty e (List.mem_append_left _ he)
          refine T_region ?_
          refine TL_y rfl rfl (Y_move rfl) ?_
          refine TL_y rfl rfl (Y_move rfl) ?_
          refine TL_y rfl rfl (Y_move rfl) ?_
          refine TL_y rfl rfl (Y_move rfl) ?_
          refine TL_call rfl rfl (whole_spec (s := s) cart ep (SlK.n (slk (A := X) (c := cx))) slk) ?_
          rintro _ _ ⟨rfl, rfl⟩
          rw [hw]
          refine TL_y rfl rfl (Y_not rfl) ?_
          refine TL_name 100 (v' := .bool false) rfl (rfl) ?_
          refine TL_nil ?_
          refine T_cond_false rfl ?_
          refine T_skip ?_
          refine thenS_normal ?_
          have hmo := whole_more hC hw hno
          have hor : ordLC (l ++ more) s cart ep = ordLC l s cart ep := (by unfold ordLC at hmo ⊢; rw [List.filter_append, hmo, List.append_nil])
          refine T_region ?_
          refine TL_y rfl rfl (Y_move rfl) ?_
          refine TL_y rfl rfl (Y_move rfl) ?_
          refine TL_y rfl rfl (Y_move rfl) ?_
          refine TL_y rfl rfl (Y_move rfl) ?_
          refine TL_call rfl rfl (order_spec (A := A) (c := c) (l := l) (s := s) cart ep slk slk (by omega) hql) ?_
          rintro _ _ ⟨A105, c105, xs105, rfl, rfl, hx105⟩
          refine TL_freeze_osl ?_
          refine TL_y rfl rfl (Y_move rfl) ?_
          refine TL_y rfl rfl (Y_move rfl) ?_
          refine TL_y rfl rfl (Y_move rfl) ?_
          refine TL_y rfl rfl (Y_move rfl) ?_
          refine TL_call rfl rfl (order_spec (A := A24) (c := c24) (l := l ++ more) (s := s) cart ep slk slk (by rw [List.length_append]; omega) hR.qty) ?_
          rintro _ _ ⟨A110, c110, xs110, rfl, rfl, hx110⟩
          rw [hor] at hx110
          obtain rfl : xs105 = xs110 := hx105.ext hx110 (fun _ => rfl)
          refine TL_freeze_osl ?_
          refine TL_call rfl rfl (refSameL_spec (xs := xs105) (ys := xs105) (sln (A := A105) (c := c105)) (sln (A := A110) (c := c110))) ?_
          rintro _ _ ⟨rfl, rfl⟩
          refine TL_name 111 (v' := .bool true) rfl (congrArg Value.bool (decide_eq_true rfl)) ?_
          refine TL_y rfl rfl (Y_assign rfl) ?_
          refine TL_nil ?_
          refine T_ret ?_
          exact RetG_1 (.inl rfl) rfl (ResV.tmp rfl) GivesTo.g (⟨rfl, rfl⟩)
  · refine T_region ?_
    refine TL_y rfl rfl (Y_move rfl) ?_
    refine TL_y rfl rfl (Y_ne rfl rfl) ?_
    refine TL_name 31 (v' := .bool false) rfl (rfl) ?_
    refine TL_y rfl rfl (Y_move rfl) ?_
    refine TL_grun rfl rfl ?_
    refine TL_y rfl rfl (Y_move rfl) ?_
    refine TL_grun rfl rfl ?_
    refine TL_call rfl rfl (once12_spec (l := l ++ more) (slk (A := A24) (c := c24))) ?_
    rintro _ _ ⟨⟨r, rfl, hr⟩, rfl⟩
    obtain rfl : r = false := by cases r; rfl; exact absurd (hr.1 rfl) hR
    refine TL_grun rfl rfl ?_
    refine TL_y rfl rfl (Y_not rfl) ?_
    refine TL_name 35 (v' := .bool true) rfl (rfl) ?_
    refine TL_y rfl rfl (Y_pick_f rfl rfl) ?_
    refine TL_nil ?_
    refine T_cond_true rfl ?_
    refine T_region ?_
    refine TL_y rfl rfl (Y_assign rfl) ?_
    refine TL_nil ?_
    refine T_ret ?_
    refine thenS_ret ?_
    exact RetG_1 (.inl rfl) rfl (ResV.tmp rfl) GivesTo.g (⟨rfl, rfl⟩)
  · refine T_region ?_
    refine TL_y rfl rfl (Y_move rfl) ?_
    refine TL_y rfl rfl (Y_ne rfl rfl) ?_
    refine TL_name 31 (v' := .bool true) rfl (rfl) ?_
    refine TL_y rfl rfl (Y_move rfl) ?_
    refine TL_gskip rfl rfl rfl rfl ?_
    refine TL_gskip rfl rfl rfl rfl ?_
    refine TL_gskip rfl rfl rfl rfl ?_
    refine TL_y rfl rfl (Y_pick_t rfl rfl) ?_
    refine TL_nil ?_
    refine T_cond_true rfl ?_
    refine T_region ?_
    refine TL_y rfl rfl (Y_assign rfl) ?_
    refine TL_nil ?_
    refine T_ret ?_
    refine thenS_ret ?_
    exact RetG_1 (.inl rfl) rfl (ResV.tmp rfl) GivesTo.g (⟨rfl, rfl⟩)
  · refine T_region ?_
    refine TL_y rfl rfl (Y_move rfl) ?_
    refine TL_y rfl rfl (Y_ne rfl rfl) ?_
    refine TL_name 31 (v' := .bool true) rfl (rfl) ?_
    refine TL_y rfl rfl (Y_move rfl) ?_
    refine TL_gskip rfl rfl rfl rfl ?_
    refine TL_gskip rfl rfl rfl rfl ?_
    refine TL_gskip rfl rfl rfl rfl ?_
    refine TL_y rfl rfl (Y_pick_t rfl rfl) ?_
    refine TL_nil ?_
    refine T_cond_true rfl ?_
    refine T_region ?_
    refine TL_y rfl rfl (Y_assign rfl) ?_
    refine TL_nil ?_
    refine T_ret ?_
    refine thenS_ret ?_
    exact RetG_1 (.inl rfl) rfl (ResV.tmp rfl) GivesTo.g (⟨rfl, rfl⟩)
end Go.SL
set_option linter.unusedVariables false
namespace Go.SL
open Go Go.Proofs
theorem cells_i : Try.prog.cellsOf 3 = 1 := by kernel_rfl
theorem cells_b : Try.prog.cellsOf 4 = 1 := by kernel_rfl
theorem cells_s : Try.prog.cellsOf 9 = 1 := by kernel_rfl
theorem cells_li : Try.prog.cellsOf 27 = 1 := by kernel_rfl
theorem cells_seal : Try.prog.cellsOf 53 = 4 := by kernel_rfl
theorem bytes_i : Try.prog.bytesOf 3 = 8 := by kernel_rfl
theorem sl_to {α : Type} {R : Rep α} {A : Option Addr} {c : Nat} {xs : List α} {M : Mem} (k : sliceAt M R A c xs) : Sep [sl R A c xs] M Mem.emp := ⟨Mem.emp, Mem.emp, Mem.emp_disj _, Mem.le_refl _, Mem.le_refl _, k, trivial⟩
theorem reads_ints : Reads Try.prog 27 (sliceR (intR .i64)) (fun xs => xs.length * 8 ≤ 140737488351232) (fun xs => xs.length + 1) := fun H enc W held fuel cs d ps h hw => by
  obtain ⟨xs, h1, h2, h3⟩ := reads_slice Try.underlying27 (R := intR .i64) (by kernel_rfl) (by decide) (by rw [bytes_i]; decide) (reads_int Try.underlying3) H enc W held fuel cs d ps h hw
  rw [bytes_i] at h2
  refine ⟨xs, h1, h2.1, fun B => Nat.le_trans ?_ (h3 B)⟩
  have q : xs.length ≤ (xs.map fun _ : Int => 1).sum := sum_ge (μ := fun _ : Int => 1) (fun _ => Nat.le_refl _) xs
  exact Nat.succ_le_succ q
def μSeal (x : OrderD) : Nat := x.token.size + x.cart.size + x.cut.length + 5
set_option maxRecDepth 100000 in
theorem reads_seal : Reads Try.prog 53 orderR (fun _ => True) μSeal := fun H enc W held fuel cs d ps h hw => by
  obtain ⟨ds, n, rfl, hl, hdl, hf⟩ := reads_fields Try.underlying53 h hw
  rw [cells_seal] at hl
  match cs, hl with
  | [u0, u1, u2, u3], _ =>
  obtain ⟨d0, p0, g0, h0, w0⟩ := hf 0 _ rfl
  obtain ⟨d1, p1, g1, h1, w1⟩ := hf 1 _ rfl
  obtain ⟨d2, p2, g2, h2, w2⟩ := hf 2 _ rfl
  obtain ⟨d3, p3, g3, h3, w3⟩ := hf 3 _ rfl
  obtain ⟨x0, ⟨e0, i0⟩, _, m0⟩ := reads_str Try.underlying9 H enc W held n _ d0 p0 h0 w0
  obtain ⟨x1, ⟨e1, i1⟩, _, m1⟩ := reads_str Try.underlying9 H enc W held n _ d1 p1 h1 w1
  obtain ⟨x2, ⟨e2, i2⟩, _, m2⟩ := reads_int Try.underlying3 H enc W held n _ d2 p2 h2 w2
  obtain ⟨x3, ⟨A, c, e3, i3⟩, k3, m3⟩ := reads_ints H enc W held n _ d3 p3 h3 w3
  simp [cells_s] at e0 e1
  simp [cells_i] at e2
  simp [cells_li] at e3
  subst e0; subst e1; subst e2; subst e3
  refine ⟨⟨x0, x1, x2, x3⟩, ⟨(A, c), rfl, sl_to i3, i0, i1, i2, by show x3.length ≤ _; omega⟩, trivial, fun B => ?_⟩
  refine Nat.le_trans ?_ (B.agg ds)
  match ds, hdl with
  | [a0, a1, a2, a3], _ =>
  simp at g0 g1 g2 g3
  subst g0; subst g1; subst g2; subst g3
  have q0 : x0.size + 1 ≤ B.f a0 := m0 B
  have q1 : x1.size + 1 ≤ B.f a1 := m1 B
  have q2 : 1 ≤ B.f a2 := m2 B
  have q3 : x3.length + 1 ≤ B.f a3 := m3 B
  simp only [List.map_cons, List.map_nil, List.sum_cons, List.sum_nil]
  show x0.size + x1.size + x3.length + 5 ≤ _
  omega
def μEntry (e : EntryD) : Nat := μSeal e.order + 2
end Go.SL
set_option linter.unusedVariables false
namespace Go.SL
open Go Go.Proofs
def pairR : Rep (Int × Int) := ⟨2, fun _ a cs => cs = [.int .i64 a.1, .int .i64 a.2] ∧ intIn .i64 a.1 ∧ intIn .i64 a.2, fun _ h => h, fun h => by rw [h.1]; rfl, fun h v hv => by rw [h.1] at hv; simp at hv; rcases hv with rfl | rfl <;> rfl⟩
theorem cells_dot : Try.prog.cellsOf 26 = 2 := by kernel_rfl
set_option maxRecDepth 100000 in
theorem reads_dot : Reads Try.prog 26 pairR (fun _ => True) (fun _ => 1) := fun H enc W held fuel cs d ps h hw => by
  obtain ⟨ds, n, rfl, hl, _, hf⟩ := reads_fields Try.underlying26 h hw
  rw [cells_dot] at hl
  match cs, hl with
  | [u, v], _ =>
  obtain ⟨d0, p0, _, h0, w0⟩ := hf 0 _ rfl
  obtain ⟨d1, p1, _, h1, w1⟩ := hf 1 _ rfl
  obtain ⟨x, ⟨e0, i0⟩, _⟩ := reads_int Try.underlying3 H enc W held n _ d0 p0 h0 w0
  obtain ⟨y, ⟨e1, i1⟩, _⟩ := reads_int Try.underlying3 H enc W held n _ d1 p1 h1 w1
  simp [cells_i] at e0 e1
  subst e0; subst e1
  exact ⟨(x, y), ⟨rfl, i0, i1⟩, trivial, fun B => B.one _⟩
def μEvent (e : EventD) : Nat := e.deps.length + e.cart.size + e.sku.size + 8
def μVoted (v : VotedD) : Nat := μEntry v.en + 3
def μMsg (m : MsgD) : Nat := μEntry m.en + (m.voted.map μVoted).sum + m.seen.length + (m.events.map μEvent).sum + 10
theorem cells_event : Try.prog.cellsOf 29 = 8 := by kernel_rfl
set_option maxRecDepth 100000 in
theorem reads_event : Reads Try.prog 29 eventR (fun _ => True) μEvent := fun H enc W held fuel cs d ps h hw => by
  obtain ⟨ds, n, rfl, hl, hdl, hf⟩ := reads_fields Try.underlying29 h hw
  rw [cells_event] at hl
  match cs, hl with
  | [u0, u1, u2, u3, u4, u5, u6, u7], _ =>
  obtain ⟨d0, p0, g0, h0, w0⟩ := hf 0 _ rfl
  obtain ⟨d1, p1, g1, h1, w1⟩ := hf 1 _ rfl
  obtain ⟨d2, p2, g2, h2, w2⟩ := hf 2 _ rfl
  obtain ⟨d3, p3, g3, h3, w3⟩ := hf 3 _ rfl
  obtain ⟨d4, p4, g4, h4, w4⟩ := hf 4 _ rfl
  obtain ⟨d5, p5, g5, h5, w5⟩ := hf 5 _ rfl
  obtain ⟨d6, p6, g6, h6, w6⟩ := hf 6 _ rfl
  obtain ⟨x0, ⟨e0, i0, j0⟩, _, m0⟩ := reads_dot H enc W held n _ d0 p0 h0 w0
  obtain ⟨x1, ⟨A1, c1, e1, i1⟩, k1, m1⟩ := reads_ints H enc W held n _ d1 p1 h1 w1
  obtain ⟨x2, ⟨e2, i2⟩, _, m2⟩ := reads_str Try.underlying9 H enc W held n _ d2 p2 h2 w2
  obtain ⟨x3, ⟨e3, i3⟩, _, m3⟩ := reads_int Try.underlying3 H enc W held n _ d3 p3 h3 w3
  obtain ⟨x4, ⟨e4, i4⟩, _, m4⟩ := reads_str Try.underlying9 H enc W held n _ d4 p4 h4 w4
  obtain ⟨x5, ⟨e5, i5⟩, _, m5⟩ := reads_int Try.underlying3 H enc W held n _ d5 p5 h5 w5
  obtain ⟨x6, e6, _, m6⟩ := reads_bool Try.underlying4 H enc W held n _ d6 p6 h6 w6
  simp [cells_dot] at e0
  obtain ⟨rfl, rfl⟩ := e0
  simp [cells_li] at e1
  subst e1
  simp [cells_s] at e2
  subst e2
  simp [cells_i] at e3
  subst e3
  simp [cells_s] at e4
  subst e4
  simp [cells_i] at e5
  subst e5
  simp [cells_b, boolR] at e6
  subst e6
  refine ⟨⟨x0, x1, x2, x3, x4, x5, x6⟩, ⟨(A1, c1), rfl, sl_to i1, i0, j0, by show x1.length ≤ _; omega, i2, i3, i4, i5⟩, trivial, fun B => ?_⟩
  refine Nat.le_trans ?_ (B.agg ds)
  match ds, hdl with
  | [a0, a1, a2, a3, a4, a5, a6], _ =>
  simp at g0 g1 g2 g3 g4 g5 g6
  subst g0
  subst g1
  subst g2
  subst g3
  subst g4
  subst g5
  subst g6
  have q0' : 1 ≤ B.f a0 := m0 B
  have q1' : x1.length + 1 ≤ B.f a1 := m1 B
  have q2' : x2.size + 1 ≤ B.f a2 := m2 B
  have q3' : 1 ≤ B.f a3 := m3 B
  have q4' : x4.size + 1 ≤ B.f a4 := m4 B
  have q5' : 1 ≤ B.f a5 := m5 B
  have q6' : 1 ≤ B.f a6 := m6 B
  simp only [List.map_cons, List.map_nil, List.sum_cons, List.sum_nil]
  show x1.length + x2.size + x4.size + 8 ≤ _
  omega
def msgR : Rep MsgD := exR 15 msgC (fun m p => [sl (intR .i64) p.cut.1 p.cut.2 m.en.order.cut, sl votedR p.voted.1 p.voted.2 m.voted, sl (intR .i64) p.seen.1 p.seen.2 m.seen, sl eventR p.events.1 p.events.2 m.events]) MsgOk (fun _ _ => rfl) (fun _ _ => rfl)
end Go.SL
set_option linter.unusedVariables false
namespace Go.SL
open Go Go.Proofs
abbrev sealR : Rep OrderD := orderR
theorem sum_mem12 {α : Type} {μ : α → Nat} : ∀ {l : List α} {x : α}, x ∈ l → μ x ≤ (l.map μ).sum
  | y :: l, x, h => by
    rw [List.map_cons, List.sum_cons]
    rcases List.mem_cons.1 h with rfl | h
    · omega
    · have := sum_mem12 (μ := μ) h; omega
theorem seals_small {l : List OrderD} (h : (l.map μSeal).sum ≤ 1048576) : ∀ x ∈ l, cSeal x ≤ 140737488355000 := fun x hx => by
  have h1 := Nat.le_trans (sum_mem12 (μ := μSeal) hx) h
  unfold μSeal at h1; unfold cSeal; omega
theorem seals_small2 {l m : List OrderD} (h : (l.map μSeal).sum ≤ 1048576) (h2 : (m.map μSeal).sum ≤ 1048576) : ∀ x ∈ l ++ m, cSeal x ≤ 140737488355000 := fun x hx => by
  rcases List.mem_append.1 hx with hx | hx
  · exact seals_small h x hx
  · exact seals_small h2 x hx
theorem seals_len {l : List OrderD} (h : (l.map μSeal).sum ≤ 1048576) : l.length ≤ 1048576 := by
  have := sum_ge (μ := μSeal) (fun x => by unfold μSeal; omega) l
  omega
theorem events_len {l : List EventD} (h : (l.map μEvent).sum ≤ 1048576) : l.length ≤ 1048576 := by
  have := sum_ge (μ := μEvent) (fun x => by unfold μEvent; omega) l
  omega
end Go.SL
set_option linter.unusedVariables false
namespace Go.Proofs.Ytajdgepnmbonaaa
open Go.SL
theorem up_one {H : Type} (d : DataW H) : 1 ≤ Rows.uptoBulk d := by
  cases d with
  | lit l => cases l <;> simp [Rows.uptoBulk]
  | nil => simp [Rows.uptoBulk]
  | ptr d => simp [Rows.uptoBulk]
  | slice elems spare => simp [Rows.uptoBulk]
  | agg parts => simp [Rows.uptoBulk]
  | iface t d => simp [Rows.uptoBulk]
  | map entries => simp [Rows.uptoBulk]
  | held h => simp [Rows.uptoBulk]
theorem up_all {H : Type} : ∀ l : List (DataW H), Rows.uptoBulkAll l = (l.map Rows.uptoBulk).sum
  | [] => by simp [Rows.uptoBulkAll]
  | d :: l => by simp [Rows.uptoBulkAll, up_all l]
def upB {H : Type} : Bulk H := ⟨Rows.uptoBulk, up_one, fun b => by simp [Rows.uptoBulk], fun e s => by simp only [Rows.uptoBulk, up_all]; omega, fun ps => by simp only [Rows.uptoBulk, up_all]; omega, fun d => by simp only [Rows.uptoBulk]; omega⟩
theorem up_bound {H : Type} {l : List (DataW H)} (hk : Rows.uptoSmall H l = true) : (l.map upB.f).sum ≤ 1048576 := by
  have := of_decide_eq_true hk
  rwa [up_all] at this
end Go.Proofs.Ytajdgepnmbonaaa
