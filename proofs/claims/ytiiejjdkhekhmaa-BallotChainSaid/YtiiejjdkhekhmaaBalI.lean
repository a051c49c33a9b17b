/- The walk of the law on ballots that are made of one another. -/
import Derived.Test.YtiiejjdkhekhmaaBalG
import Derived.Test.YtiiejjdkhekhmaaSlK
set_option linter.unusedVariables false
set_option linter.unusedSimpArgs false
namespace Go.SL
open Go Go.Proofs
def ballotR : Rep (Int × Int) := ⟨2, fun _ a cs => cs = [.int .i64 a.1, .int .i64 a.2] ∧ intIn .i64 a.1 ∧ intIn .i64 a.2, fun _ h => h, fun h => by rw [h.1]; rfl, fun h v hv => by rw [h.1] at hv; simp at hv; rcases hv with rfl | rfl <;> rfl⟩
instance : RepF ballotR (fun a => [.int .i64 a.1, .int .i64 a.2]) := ⟨fun _ _ _ h => h.1⟩
theorem nextB_err {a : Int × Int} {m : Int} (h : (nextB a m).2 ≠ 0) : (nextB a m).1 = (0, 0) ∧ ((nextB a m).2 = 1 ∧ ¬ (0 ≤ m ∧ m < 7) ∨ (nextB a m).2 = 2) := by
  revert h; unfold nextB; split
  · rename_i h; intro _; exact ⟨rfl, .inl ⟨rfl, h⟩⟩
  · split
    · intro _; exact ⟨rfl, .inr rfl⟩
    · intro h; exact absurd rfl h
theorem nextB_ok {a : Int × Int} {m : Int} (h : (nextB a m).2 = 0) : (nextB a m).1 = (a.1 + 1, m) ∧ 0 ≤ a.1 ∧ a.1 < 2147483647 ∧ 0 ≤ m ∧ m < 7 := by
  revert h; unfold nextB; split
  · intro h; simp at h
  · split
    · intro h; simp at h
    · intro _; exact ⟨rfl, by omega⟩
structure ChSt where
  i : Nat
  A : Option Addr
  c : Nat
  xs : List (Int × Int)
  z : Int × Int
def ChI (m : Nat) (g : ChSt) : Prop := g.i ≤ m ∧ g.i ≤ 200 ∧ g.xs.length ≤ g.i + 1 ∧ g.xs[g.xs.length - 1]? = some g.z ∧ (∀ x ∈ g.xs, x.1 ≤ g.z.1)
theorem chain_walk {L : List HP} {A : Option Addr} {c : Nat} {l : List Int} (b : Int × Int) (hb : intIn .i64 b.1 ∧ intIn .i64 b.2) (hk : SlK L (intR .i64) A c l) (hl : l.length ≤ 17592186044416) : Fn Try.prog 11 #[balV b, .slice A l.length c] L (fun v L' => v = .bool true ∧ L' = L) := by
  refine Fn_enter Try.func11 rfl rfl rfl rfl ?_
  refine T_gives hk.lay ?_
  refine T_region ?_
  refine TL_box rfl rfl rfl ?_
  intro b2
  refine TL_y rfl rfl (Y_assign rfl) ?_
  refine TL_nil ?_
  refine T_seq ?_
  refine T_region ?_
  refine TL_call rfl rfl (lives15_spec _) ?_
  rintro _ _ ⟨rfl, rfl⟩
  refine TL_name 10 (v' := .bool true) rfl (rfl) ?_
  refine TL_y rfl rfl (Y_not_t rfl) ?_
  refine TL_nil ?_
  refine T_cond_false rfl ?_
  refine T_skip ?_
  refine thenS_normal ?_
  refine T_region ?_
  refine TL_y rfl rfl (Y_load_agg rfl rfl) ?_
  refine TL_build_slice rfl rfl rfl rfl rfl rfl ?_
  intro b13
  refine TL_osl (k := 1) ballotR [b] (Knows.const fun M => ⟨[.int .i64 b.1, .int .i64 b.2], [], ⟨rfl, hb.1, hb.2⟩, rfl, rfl⟩) rfl (by decide) ?_
  refine TL_name 13 (v' := .slice (some ⟨b13, 0, none⟩) [b].length 1) rfl rfl ?_
  refine TL_y rfl rfl (Y_assign rfl) ?_
  refine TL_nil ?_
  refine T_seq ?_
  refine T_region ?_
  refine TL_y rfl rfl (Y_assign rfl) ?_
  refine TL_nil ?_
  refine T_block ?_
  refine T_loopK (σ := ChSt) [1] (fun g => ChI l.length g) (fun g kv => (6, .int .i64 (g.i : Int)) :: (5, .slice g.A g.xs.length g.c) :: kv) (fun g => osl ballotR 56 g.A g.c g.xs :: sl (intR .i64) A c l :: L) (fun g => l.length - g.i) (⟨0, some ⟨b13, 0, none⟩, 1, [b], b⟩) rfl (⟨by simp, by simp, by simp, rfl, by simp⟩) (GivesTo.g) (sub_cons rfl (sub_cons rfl (sub_cons rfl (sub_nil)))) ?_
  rintro ⟨i, A2, c2, xs, z⟩ ⟨q1, q2, q3, q4, q5⟩
  dsimp only at q1 q2 q3 q4 q5 ⊢
  refine T_seq ?_
  refine T_region ?_
  refine TL_y rfl rfl (Y_move rfl) ?_
  refine TL_y rfl rfl (Y_move rfl) ?_
  refine TL_y rfl rfl (Y_len rfl) ?_
  refine TL_y rfl rfl (Y_lt rfl rfl) ?_
  refine TL_y rfl rfl (Y_move rfl) ?_
  refine TL_splitd 18 rfl (fun h18 => ?_) (fun h18 => ?_)
  · refine TL_grun rfl rfl ?_
    refine TL_y rfl rfl (Y_move rfl) ?_
    refine TL_grun rfl rfl ?_
    refine TL_y rfl rfl (Y_lt rfl rfl) ?_
    refine TL_y rfl rfl (Y_pick_t rfl rfl) ?_
    refine TL_nil ?_
    refine T_if rfl (fun h21 => ?_) (fun h21 => ?_)
    · refine T_skip ?_
      refine thenS_normal ?_
      refine T_seq ?_
      refine T_block ?_
      obtain ⟨u, hu⟩ : ∃ u, l[i]? = some u := ⟨_, List.getElem?_eq_getElem (by omega)⟩
      have hx0 : xs.length - 1 < xs.length := (List.getElem?_eq_some_iff.1 q4).1
      refine T_at_int (A := A) (c := c) slk hu fun b1 o1 hi1 ha1 => ?_
      refine T_oaddr A2 c2 q4 fun g hg => ?_
      subst hg
      refine T_pullo (some ⟨g, 0, none⟩) c2 ?_
      have hat := osl_at (R := ballotR) (t := 56) (A := some ⟨g, 0, none⟩) (c := c2) q4 (row b1 o1 [.int .i64 u] :: sl (intR .i64) A c l :: L)
      have hox := nextB_ok (a := z) (m := u)
      have hex := nextB_err (a := z) (m := u)
      refine T_region_draw2 (osl ballotR 56 (some ⟨g, 0, none⟩) c2 xs :: row b1 o1 [.int .i64 u] :: sl (intR .i64) A c l :: L) (osl ballotR 56 (some ⟨g, 0, none⟩) c2 xs :: row b1 o1 [.int .i64 u] :: sl (intR .i64) A c l :: L) 10 14 (by decide) [0, 0, 2, 6, 15, 31, 0, 0, 192, 448, 1023, 2047, 4095, 4095, 2047, 24575, 65535] [] [(0, true), (1, true), (2, true), (3, true), (4, true), (5, true), (6, true), (7, true), (8, true), (9, true), (10, false), (11, true), (12, true), (13, true), (14, false), (15, false), (16, true)] [0, 0, 2, 6, 15, 31, 0, 0, 192, 448, 17407, 18431, 20479, 20479, 0, 24575, 65535] [] [(0, true), (1, true), (2, true), (3, true), (4, true), (5, true), (6, true), (7, true), (8, true), (9, true), (14, false), (10, false), (11, true), (12, true), (13, true), (15, false), (16, true)] (by kernel_rfl) (by decide +kernel) (by decide +kernel) GivesTo.g GivesTo.g ?_ ?_
      · refine TF_y rfl rfl (Y_move rfl) ?_
        refine TF_y rfl rfl (Y_move rfl) ?_
        refine TF_y rfl rfl (Y_len rfl) ?_
        refine TF_y rfl rfl (Y_sub rfl rfl (by omega)) ?_
        refine TF_name 28 (v' := .int .i64 ((xs.length - 1 : Nat) : Int)) rfl (by congr 1; omega) ?_
        refine TF_y rfl rfl (Y_index_at (o := (xs.length - 1) * 2) rfl rfl hx0 ⟨0, rfl, by omega⟩) ?_
        refine TF_y rfl rfl (Y_load_at_agg (o := (xs.length - 1) * 2) (j := 0) rfl hat rfl) ?_
        refine TF_y rfl rfl (Y_move rfl) ?_
        refine TF_y rfl rfl (Y_move rfl) ?_
        refine TF_y rfl rfl (Y_index_at rfl rfl (by omega) ha1) ?_
        refine TF_y rfl rfl (Y_load_row rfl rfl) ?_
        refine TF_anchor rfl ?_
        refine TL_call rfl rfl (next_spec z u _) ?_
        rintro _ _ ⟨rfl, rfl⟩
        refine TF_end GivesTo.g ?_
        refine TF_y rfl rfl (Y_move rfl) ?_
        refine TF_y rfl rfl (Y_extract rfl rfl) ?_
        refine TF_y rfl rfl (Y_extract rfl rfl) ?_
        refine TF_anchor rfl ?_
        refine TL_alloc rfl rfl ?_
        intro b7
        refine TF_end GivesTo.g ?_
        refine TF_anchor rfl ?_
        refine TL_store rfl rfl rfl rfl rfl rfl ?_
        refine TF_end GivesTo.g ?_
        refine TF_y rfl rfl (Y_assign rfl) ?_
        refine TF_nil ?_
        refine T_seq ?_
        refine T_region ?_
        refine TL_y rfl rfl (Y_move rfl) ?_
        refine TL_y rfl rfl (Y_ne rfl rfl) ?_
        refine TL_nil ?_
        refine T_if rfl (fun h39 => ?_) (fun h39 => ?_)
        · have hx1 := hex h39
          have hu2 := hu
          refine T_seq ?_
          refine T_region ?_
          refine TL_y rfl rfl (Y_load_agg rfl rfl) ?_
          refine TL_y rfl rfl (Y_build rfl rfl) ?_
          refine TL_y rfl rfl (Y_ne_bal (a := (nextB z u).1) (b := (0, 0)) rfl rfl) ?_
          refine TL_name 42 (v' := .bool false) rfl (congrArg Value.bool (by rw [hx1.1]; rfl)) ?_
          refine TL_y rfl rfl (Y_move rfl) ?_
          refine TL_both 17 60 (False) ?_ ?_
          · refine TL_grun rfl rfl ?_
            refine TL_y rfl rfl (Y_move rfl) ?_
            refine TL_grun rfl rfl ?_
            refine TL_y rfl rfl (Y_move rfl) ?_
            refine TL_grun rfl rfl ?_
            refine TL_index_int rfl rfl rfl slk hu ?_
            intro hi46 bi46 oi46
            refine TL_grun rfl rfl ?_
            refine TL_y rfl rfl (Y_load_row rfl rfl) ?_
            refine TL_grun rfl rfl ?_
            refine TL_y rfl rfl (Y_ge rfl rfl) ?_
            refine TL_grun rfl rfl ?_
            refine TL_y rfl rfl (Y_move rfl) ?_
            refine TL_splitd 49 rfl (fun h49 => ?_) (fun h49 => ?_)
            · refine TL_grun rfl rfl ?_
              refine TL_y rfl rfl (Y_move rfl) ?_
              refine TL_grun rfl rfl ?_
              refine TL_y rfl rfl (Y_move rfl) ?_
              refine TL_grun rfl rfl ?_
              refine TL_index_int rfl rfl rfl slk hu ?_
              intro hi52 bi52 oi52
              refine TL_grun rfl rfl ?_
              refine TL_y rfl rfl (Y_load_row rfl rfl) ?_
              refine TL_grun rfl rfl ?_
              refine TL_y rfl rfl (Y_le rfl rfl) ?_
              refine TL_grun rfl rfl ?_
              refine TL_y rfl rfl (Y_pick_t rfl rfl) ?_
              refine TL_grun rfl rfl ?_
              refine TL_y rfl rfl (Y_move rfl) ?_
              refine TL_splitd 56 rfl (fun h56 => ?_) (fun h56 => ?_)
              · refine TL_grun rfl rfl ?_
                refine TL_y rfl rfl (Y_move rfl) ?_
                refine TL_grun rfl rfl ?_
                refine TL_y rfl rfl (Y_ne rfl rfl) ?_
                refine TL_grun rfl rfl ?_
                refine TL_y rfl rfl (Y_pick_t rfl rfl) ?_
                refine TL_y rfl rfl (Y_pick_f rfl rfl) ?_
                refine TL_chain_end rfl ?_ (by repeat (first | exact sub_refl | refine sub_ext rfl ?_)) GivesTo.g
                exact congrArg Value.bool (decide_eq_decide.2 (⟨fun h => by rcases hx1.2 with ⟨_, k⟩ | k; exact k (by omega); exact h k, fun h => h.elim⟩))
              · refine TL_gskip rfl rfl rfl rfl ?_
                refine TL_gskip rfl rfl rfl rfl ?_
                refine TL_grun rfl rfl ?_
                refine TL_y rfl rfl (Y_pick_f rfl rfl) ?_
                refine TL_y rfl rfl (Y_pick_f rfl rfl) ?_
                refine TL_chain_end rfl ?_ (by repeat (first | exact sub_refl | refine sub_ext rfl ?_)) GivesTo.g
                exact congrArg Value.bool (decide_eq_false (fun h => h)).symm
            · refine TL_gskip rfl rfl rfl rfl ?_
              refine TL_gskip rfl rfl rfl rfl ?_
              refine TL_gskip rfl rfl rfl rfl ?_
              refine TL_gskip rfl rfl rfl rfl ?_
              refine TL_gskip rfl rfl rfl rfl ?_
              refine TL_grun rfl rfl ?_
              refine TL_y rfl rfl (Y_pick_f rfl rfl) ?_
              refine TL_grun rfl rfl ?_
              refine TL_y rfl rfl (Y_move rfl) ?_
              refine TL_gskip rfl rfl rfl rfl ?_
              refine TL_gskip rfl rfl rfl rfl ?_
              refine TL_grun rfl rfl ?_
              refine TL_y rfl rfl (Y_pick_f rfl rfl) ?_
              refine TL_y rfl rfl (Y_pick_f rfl rfl) ?_
              refine TL_chain_end rfl ?_ (by repeat (first | exact sub_refl | refine sub_ext rfl ?_)) GivesTo.g
              exact congrArg Value.bool (decide_eq_false (fun h => h)).symm
          refine TL_nil ?_
          refine T_if_neg rfl (fun h => h) ?_
          refine T_skip ?_
          refine thenS_normal ?_
          refine T_exit ?_
          refine thenS_exit ?_
          refine inB_hit ?_
          refine thenS_normal ?_
          refine T_region_last ?_
          refine TL_y rfl rfl (Y_move rfl) ?_
          refine TL_y rfl rfl (Y_add rfl rfl (by omega)) ?_
          refine TL_name 23 (v' := .int .i64 ((i + 1 : Nat) : Int)) rfl (rfl) ?_
          refine TL_y rfl rfl (Y_assign rfl) ?_
          refine TL_nil ?_
          refine thenS_normal ?_
          exact ⟨⟨i + 1, some ⟨g, 0, none⟩, c2, xs, z⟩, ⟨by simp only; omega, by simp only; omega, by simp only; omega, q4, q5⟩, by simp only; omega, holds_to (sub_cons rfl (sub_cons rfl (sub_cons rfl (sub_nil)))) GivesTo.g⟩
        · have hx1 := hox (Classical.not_not.1 h39)
          have hlen := hx1.1
          refine T_skip ?_
          refine thenS_normal ?_
          refine T_seq ?_
          refine T_region ?_
          refine TL_y rfl rfl (Y_assign rfl) ?_
          refine TL_nil ?_
          refine T_block ?_
          refine T_loopK (σ := Nat) [1, 5, 6, 7] (fun k => k ≤ xs.length) (fun k kv => (9, .int .i64 (k : Int)) :: kv) (fun k => cells b7 [.int .i64 (nextB z u).1.1, .int .i64 (nextB z u).1.2] 56 :: osl ballotR 56 (some ⟨g, 0, none⟩) c2 xs :: sl (intR .i64) A c l :: L) (fun k => xs.length - k) (0) rfl (Nat.zero_le _) (GivesTo.g) (sub_cons rfl (sub_cons rfl (sub_cons rfl (sub_cons rfl (sub_cons rfl (sub_nil)))))) ?_
          intro k hk
          refine T_seq ?_
          refine T_region ?_
          refine TL_y rfl rfl (Y_move rfl) ?_
          refine TL_y rfl rfl (Y_move rfl) ?_
          refine TL_y rfl rfl (Y_len rfl) ?_
          refine TL_y rfl rfl (Y_lt rfl rfl) ?_
          refine TL_nil ?_
          refine T_if rfl (fun h64 => ?_) (fun h64 => ?_)
          · refine T_skip ?_
            refine thenS_normal ?_
            refine T_seq ?_
            refine T_block ?_
            obtain ⟨y, hy⟩ : ∃ y, xs[k]? = some y := ⟨_, List.getElem?_eq_getElem (by omega)⟩
            have hy5 := q5 y (List.mem_of_getElem? hy)
            have hat2 := AtL.gives (Gives.swap _ _ _) (osl_at (R := ballotR) (t := 56) (A := some ⟨g, 0, none⟩) (c := c2) hy (cells b7 [.int .i64 (nextB z u).1.1, .int .i64 (nextB z u).1.2] 56 :: sl (intR .i64) A c l :: L))
            refine T_region_draw _ [0, 0, 3, 7, 0, 31, 63] [] [(0, true), (1, true), (2, true), (3, true), (4, true), (5, false), (6, true)] (by kernel_rfl) (by decide +kernel) (Gives.refl _) ?_
            refine TF_y rfl rfl (Y_move rfl) ?_
            refine TF_y rfl rfl (Y_move rfl) ?_
            refine TF_y rfl rfl (Y_index_at (o := k * 2) rfl rfl (by omega) ⟨0, rfl, by omega⟩) ?_
            refine TF_y rfl rfl (Y_load_at_agg (o := k * 2) (j := 0) rfl hat2 rfl) ?_
            refine TF_y rfl rfl (Y_load_agg rfl rfl) ?_
            refine TF_anchor rfl ?_
            refine TL_call rfl rfl (compare_spec y (nextB z u).1 _) ?_
            rintro _ _ ⟨rfl, rfl⟩
            refine TF_end GivesTo.g ?_
            refine TF_y rfl rfl (Y_ge rfl rfl) ?_
            refine TF_name 73 (v' := .bool false) rfl (congrArg Value.bool (decide_eq_false (by have : cmpB y (nextB z u).1 < 0 := (by rw [cmpB_lt, hlen]; left; show y.1 < z.1 + 1; omega); omega))) ?_
            refine TF_nil ?_
            refine T_cond_false rfl ?_
            refine T_skip ?_
            refine inB_normal ?_
            refine thenS_normal ?_
            refine T_region_last ?_
            refine TL_y rfl rfl (Y_move rfl) ?_
            refine TL_y rfl rfl (Y_add rfl rfl (by omega)) ?_
            refine TL_name 66 (v' := .int .i64 ((k + 1 : Nat) : Int)) rfl (rfl) ?_
            refine TL_y rfl rfl (Y_assign rfl) ?_
            refine TL_nil ?_
            refine thenS_normal ?_
            exact ⟨k + 1, (by omega), by omega, holds_to (sub_cons rfl (sub_cons rfl (sub_cons rfl (sub_cons rfl (sub_cons rfl (sub_nil)))))) GivesTo.g⟩
          · refine T_exit ?_
            refine thenS_exit ?_
            refine thenS_exit ?_
            refine inB_hit ?_
            refine thenS_normal ?_
            refine T_region_last ?_
            refine TL_y rfl rfl (Y_move rfl) ?_
            refine TL_y rfl rfl (Y_load_agg rfl rfl) ?_
            refine TL_build_slice rfl rfl rfl rfl rfl rfl ?_
            intro b76
            refine TL_osl (k := 1) ballotR [(nextB z u).1] (Knows.const fun M => ⟨[.int .i64 (nextB z u).1.1, .int .i64 (nextB z u).1.2], [], ⟨rfl, by rw [hlen]; exact i64In_mk (by show -9223372036854775808 ≤ z.1 + 1 ∧ z.1 + 1 ≤ 9223372036854775807; omega), by rw [hlen]; exact i64In_mk (by show -9223372036854775808 ≤ u ∧ u ≤ 9223372036854775807; omega)⟩, rfl, rfl⟩) rfl (by decide) ?_
            refine TL_freeze_osl ?_
            refine TL_name 76 (v' := .slice (some ⟨b76, 0, none⟩) [(nextB z u).1].length 1) rfl rfl ?_
            refine TL_append rfl rfl rfl rfl rfl slk (by (try simp only [List.length_append, List.length_cons, List.length_nil]); omega) ?_
            intro A77 c77
            refine TL_y rfl rfl (Y_assign rfl) ?_
            refine TL_nil ?_
            refine inB_normal ?_
            refine thenS_normal ?_
            refine T_region_last ?_
            refine TL_y rfl rfl (Y_move rfl) ?_
            refine TL_y rfl rfl (Y_add rfl rfl (by omega)) ?_
            refine TL_name 23 (v' := .int .i64 ((i + 1 : Nat) : Int)) rfl (rfl) ?_
            refine TL_y rfl rfl (Y_assign rfl) ?_
            refine TL_nil ?_
            refine thenS_normal ?_
            exact ⟨⟨i + 1, A77, c77, xs ++ [(nextB z u).1], (nextB z u).1⟩, ⟨by simp only; omega, by simp only; omega, by simp; omega, by simp, fun x hx => by rcases List.mem_append.1 hx with hx | hx; (have := q5 x hx; rw [hlen]; show x.1 ≤ z.1 + 1; omega); (simp at hx; rw [hx]; exact Int.le_refl _)⟩, by simp only; omega, holds_to (sub_cons rfl (sub_cons rfl (sub_cons rfl (sub_nil)))) GivesTo.g⟩
      · refine TF_y rfl rfl (Y_move rfl) ?_
        refine TF_y rfl rfl (Y_move rfl) ?_
        refine TF_y rfl rfl (Y_len rfl) ?_
        refine TF_y rfl rfl (Y_sub rfl rfl (by omega)) ?_
        refine TF_name 28 (v' := .int .i64 ((xs.length - 1 : Nat) : Int)) rfl (by congr 1; omega) ?_
        refine TF_y rfl rfl (Y_index_at (o := (xs.length - 1) * 2) rfl rfl hx0 ⟨0, rfl, by omega⟩) ?_
        refine TF_y rfl rfl (Y_load_at_agg (o := (xs.length - 1) * 2) (j := 0) rfl hat rfl) ?_
        refine TF_y rfl rfl (Y_move rfl) ?_
        refine TF_y rfl rfl (Y_move rfl) ?_
        refine TF_y rfl rfl (Y_index_at rfl rfl (by omega) ha1) ?_
        refine TF_y rfl rfl (Y_load_row rfl rfl) ?_
        refine TF_anchor rfl ?_
        refine TL_alloc rfl rfl ?_
        intro b7
        refine TF_end GivesTo.g ?_
        refine TF_anchor rfl ?_
        refine TL_call rfl rfl (next_spec z u _) ?_
        rintro _ _ ⟨rfl, rfl⟩
        refine TF_end GivesTo.g ?_
        refine TF_y rfl rfl (Y_move rfl) ?_
        refine TF_y rfl rfl (Y_extract rfl rfl) ?_
        refine TF_y rfl rfl (Y_extract rfl rfl) ?_
        refine TF_anchor rfl ?_
        refine TL_store rfl rfl rfl rfl rfl rfl ?_
        refine TF_end GivesTo.g ?_
        refine TF_y rfl rfl (Y_assign rfl) ?_
        refine TF_nil ?_
        refine T_seq ?_
        refine T_region ?_
        refine TL_y rfl rfl (Y_move rfl) ?_
        refine TL_y rfl rfl (Y_ne rfl rfl) ?_
        refine TL_nil ?_
        refine T_if rfl (fun h39 => ?_) (fun h39 => ?_)
        · have hx1 := hex h39
          have hu2 := hu
          refine T_seq ?_
          refine T_region ?_
          refine TL_y rfl rfl (Y_load_agg rfl rfl) ?_
          refine TL_y rfl rfl (Y_build rfl rfl) ?_
          refine TL_y rfl rfl (Y_ne_bal (a := (nextB z u).1) (b := (0, 0)) rfl rfl) ?_
          refine TL_name 42 (v' := .bool false) rfl (congrArg Value.bool (by rw [hx1.1]; rfl)) ?_
          refine TL_y rfl rfl (Y_move rfl) ?_
          refine TL_both 17 60 (False) ?_ ?_
          · refine TL_grun rfl rfl ?_
            refine TL_y rfl rfl (Y_move rfl) ?_
            refine TL_grun rfl rfl ?_
            refine TL_y rfl rfl (Y_move rfl) ?_
            refine TL_grun rfl rfl ?_
            refine TL_index_int rfl rfl rfl slk hu ?_
            intro hi46 bi46 oi46
            refine TL_grun rfl rfl ?_
            refine TL_y rfl rfl (Y_load_row rfl rfl) ?_
            refine TL_grun rfl rfl ?_
            refine TL_y rfl rfl (Y_ge rfl rfl) ?_
            refine TL_grun rfl rfl ?_
            refine TL_y rfl rfl (Y_move rfl) ?_
            refine TL_splitd 49 rfl (fun h49 => ?_) (fun h49 => ?_)
            · refine TL_grun rfl rfl ?_
              refine TL_y rfl rfl (Y_move rfl) ?_
              refine TL_grun rfl rfl ?_
              refine TL_y rfl rfl (Y_move rfl) ?_
              refine TL_grun rfl rfl ?_
              refine TL_index_int rfl rfl rfl slk hu ?_
              intro hi52 bi52 oi52
              refine TL_grun rfl rfl ?_
              refine TL_y rfl rfl (Y_load_row rfl rfl) ?_
              refine TL_grun rfl rfl ?_
              refine TL_y rfl rfl (Y_le rfl rfl) ?_
              refine TL_grun rfl rfl ?_
              refine TL_y rfl rfl (Y_pick_t rfl rfl) ?_
              refine TL_grun rfl rfl ?_
              refine TL_y rfl rfl (Y_move rfl) ?_
              refine TL_splitd 56 rfl (fun h56 => ?_) (fun h56 => ?_)
              · refine TL_grun rfl rfl ?_
                refine TL_y rfl rfl (Y_move rfl) ?_
                refine TL_grun rfl rfl ?_
                refine TL_y rfl rfl (Y_ne rfl rfl) ?_
                refine TL_grun rfl rfl ?_
                refine TL_y rfl rfl (Y_pick_t rfl rfl) ?_
                refine TL_y rfl rfl (Y_pick_f rfl rfl) ?_
                refine TL_chain_end rfl ?_ (by repeat (first | exact sub_refl | refine sub_ext rfl ?_)) GivesTo.g
                exact congrArg Value.bool (decide_eq_decide.2 (⟨fun h => by rcases hx1.2 with ⟨_, k⟩ | k; exact k (by omega); exact h k, fun h => h.elim⟩))
              · refine TL_gskip rfl rfl rfl rfl ?_
                refine TL_gskip rfl rfl rfl rfl ?_
                refine TL_grun rfl rfl ?_
                refine TL_y rfl rfl (Y_pick_f rfl rfl) ?_
                refine TL_y rfl rfl (Y_pick_f rfl rfl) ?_
                refine TL_chain_end rfl ?_ (by repeat (first | exact sub_refl | refine sub_ext rfl ?_)) GivesTo.g
                exact congrArg Value.bool (decide_eq_false (fun h => h)).symm
            · refine TL_gskip rfl rfl rfl rfl ?_
              refine TL_gskip rfl rfl rfl rfl ?_
              refine TL_gskip rfl rfl rfl rfl ?_
              refine TL_gskip rfl rfl rfl rfl ?_
              refine TL_gskip rfl rfl rfl rfl ?_
              refine TL_grun rfl rfl ?_
              refine TL_y rfl rfl (Y_pick_f rfl rfl) ?_
              refine TL_grun rfl rfl ?_
              refine TL_y rfl rfl (Y_move rfl) ?_
              refine TL_gskip rfl rfl rfl rfl ?_
              refine TL_gskip rfl rfl rfl rfl ?_
              refine TL_grun rfl rfl ?_
              refine TL_y rfl rfl (Y_pick_f rfl rfl) ?_
              refine TL_y rfl rfl (Y_pick_f rfl rfl) ?_
              refine TL_chain_end rfl ?_ (by repeat (first | exact sub_refl | refine sub_ext rfl ?_)) GivesTo.g
              exact congrArg Value.bool (decide_eq_false (fun h => h)).symm
          refine TL_nil ?_
          refine T_if_neg rfl (fun h => h) ?_
          refine T_skip ?_
          refine thenS_normal ?_
          refine T_exit ?_
          refine thenS_exit ?_
          refine inB_hit ?_
          refine thenS_normal ?_
          refine T_region_last ?_
          refine TL_y rfl rfl (Y_move rfl) ?_
          refine TL_y rfl rfl (Y_add rfl rfl (by omega)) ?_
          refine TL_name 23 (v' := .int .i64 ((i + 1 : Nat) : Int)) rfl (rfl) ?_
          refine TL_y rfl rfl (Y_assign rfl) ?_
          refine TL_nil ?_
          refine thenS_normal ?_
          exact ⟨⟨i + 1, some ⟨g, 0, none⟩, c2, xs, z⟩, ⟨by simp only; omega, by simp only; omega, by simp only; omega, q4, q5⟩, by simp only; omega, holds_to (sub_cons rfl (sub_cons rfl (sub_cons rfl (sub_nil)))) GivesTo.g⟩
        · have hx1 := hox (Classical.not_not.1 h39)
          have hlen := hx1.1
          refine T_skip ?_
          refine thenS_normal ?_
          refine T_seq ?_
          refine T_region ?_
          refine TL_y rfl rfl (Y_assign rfl) ?_
          refine TL_nil ?_
          refine T_block ?_
          refine T_loopK (σ := Nat) [1, 5, 6, 7] (fun k => k ≤ xs.length) (fun k kv => (9, .int .i64 (k : Int)) :: kv) (fun k => cells b7 [.int .i64 (nextB z u).1.1, .int .i64 (nextB z u).1.2] 56 :: osl ballotR 56 (some ⟨g, 0, none⟩) c2 xs :: sl (intR .i64) A c l :: L) (fun k => xs.length - k) (0) rfl (Nat.zero_le _) (GivesTo.g) (sub_cons rfl (sub_cons rfl (sub_cons rfl (sub_cons rfl (sub_cons rfl (sub_nil)))))) ?_
          intro k hk
          refine T_seq ?_
          refine T_region ?_
          refine TL_y rfl rfl (Y_move rfl) ?_
          refine TL_y rfl rfl (Y_move rfl) ?_
          refine TL_y rfl rfl (Y_len rfl) ?_
          refine TL_y rfl rfl (Y_lt rfl rfl) ?_
          refine TL_nil ?_
          refine T_if rfl (fun h64 => ?_) (fun h64 => ?_)
          · refine T_skip ?_
            refine thenS_normal ?_
            refine T_seq ?_
            refine T_block ?_
            obtain ⟨y, hy⟩ : ∃ y, xs[k]? = some y := ⟨_, List.getElem?_eq_getElem (by omega)⟩
            have hy5 := q5 y (List.mem_of_getElem? hy)
            have hat2 := AtL.gives (Gives.swap _ _ _) (osl_at (R := ballotR) (t := 56) (A := some ⟨g, 0, none⟩) (c := c2) hy (cells b7 [.int .i64 (nextB z u).1.1, .int .i64 (nextB z u).1.2] 56 :: sl (intR .i64) A c l :: L))
            refine T_region_draw _ [0, 0, 3, 7, 0, 31, 63] [] [(0, true), (1, true), (2, true), (3, true), (4, true), (5, false), (6, true)] (by kernel_rfl) (by decide +kernel) (Gives.refl _) ?_
            refine TF_y rfl rfl (Y_move rfl) ?_
            refine TF_y rfl rfl (Y_move rfl) ?_
            refine TF_y rfl rfl (Y_index_at (o := k * 2) rfl rfl (by omega) ⟨0, rfl, by omega⟩) ?_
            refine TF_y rfl rfl (Y_load_at_agg (o := k * 2) (j := 0) rfl hat2 rfl) ?_
            refine TF_y rfl rfl (Y_load_agg rfl rfl) ?_
            refine TF_anchor rfl ?_
            refine TL_call rfl rfl (compare_spec y (nextB z u).1 _) ?_
            rintro _ _ ⟨rfl, rfl⟩
            refine TF_end GivesTo.g ?_
            refine TF_y rfl rfl (Y_ge rfl rfl) ?_
            refine TF_name 73 (v' := .bool false) rfl (congrArg Value.bool (decide_eq_false (by have : cmpB y (nextB z u).1 < 0 := (by rw [cmpB_lt, hlen]; left; show y.1 < z.1 + 1; omega); omega))) ?_
            refine TF_nil ?_
            refine T_cond_false rfl ?_
            refine T_skip ?_
            refine inB_normal ?_
            refine thenS_normal ?_
            refine T_region_last ?_
            refine TL_y rfl rfl (Y_move rfl) ?_
            refine TL_y rfl rfl (Y_add rfl rfl (by omega)) ?_
            refine TL_name 66 (v' := .int .i64 ((k + 1 : Nat) : Int)) rfl (rfl) ?_
            refine TL_y rfl rfl (Y_assign rfl) ?_
            refine TL_nil ?_
            refine thenS_normal ?_
            exact ⟨k + 1, (by omega), by omega, holds_to (sub_cons rfl (sub_cons rfl (sub_cons rfl (sub_cons rfl (sub_cons rfl (sub_nil)))))) GivesTo.g⟩
          · refine T_exit ?_
            refine thenS_exit ?_
            refine thenS_exit ?_
            refine inB_hit ?_
            refine thenS_normal ?_
            refine T_region_last ?_
            refine TL_y rfl rfl (Y_move rfl) ?_
            refine TL_y rfl rfl (Y_load_agg rfl rfl) ?_
            refine TL_build_slice rfl rfl rfl rfl rfl rfl ?_
            intro b76
            refine TL_osl (k := 1) ballotR [(nextB z u).1] (Knows.const fun M => ⟨[.int .i64 (nextB z u).1.1, .int .i64 (nextB z u).1.2], [], ⟨rfl, by rw [hlen]; exact i64In_mk (by show -9223372036854775808 ≤ z.1 + 1 ∧ z.1 + 1 ≤ 9223372036854775807; omega), by rw [hlen]; exact i64In_mk (by show -9223372036854775808 ≤ u ∧ u ≤ 9223372036854775807; omega)⟩, rfl, rfl⟩) rfl (by decide) ?_
            refine TL_freeze_osl ?_
            refine TL_name 76 (v' := .slice (some ⟨b76, 0, none⟩) [(nextB z u).1].length 1) rfl rfl ?_
            refine TL_append rfl rfl rfl rfl rfl slk (by (try simp only [List.length_append, List.length_cons, List.length_nil]); omega) ?_
            intro A77 c77
            refine TL_y rfl rfl (Y_assign rfl) ?_
            refine TL_nil ?_
            refine inB_normal ?_
            refine thenS_normal ?_
            refine T_region_last ?_
            refine TL_y rfl rfl (Y_move rfl) ?_
            refine TL_y rfl rfl (Y_add rfl rfl (by omega)) ?_
            refine TL_name 23 (v' := .int .i64 ((i + 1 : Nat) : Int)) rfl (rfl) ?_
            refine TL_y rfl rfl (Y_assign rfl) ?_
            refine TL_nil ?_
            refine thenS_normal ?_
            exact ⟨⟨i + 1, A77, c77, xs ++ [(nextB z u).1], (nextB z u).1⟩, ⟨by simp only; omega, by simp only; omega, by simp; omega, by simp, fun x hx => by rcases List.mem_append.1 hx with hx | hx; (have := q5 x hx; rw [hlen]; show x.1 ≤ z.1 + 1; omega); (simp at hx; rw [hx]; exact Int.le_refl _)⟩, by simp only; omega, holds_to (sub_cons rfl (sub_cons rfl (sub_cons rfl (sub_nil)))) GivesTo.g⟩
    · refine T_exit ?_
      refine thenS_exit ?_
      refine thenS_exit ?_
      refine inB_hit ?_
      refine thenS_normal ?_
      refine T_region ?_
      refine TL_y rfl rfl (Y_assign rfl) ?_
      refine TL_nil ?_
      refine T_ret ?_
      exact RetG_1 (.inl rfl) rfl (ResV.tmp rfl) GivesTo.g (⟨rfl, rfl⟩)
  · refine TL_gskip rfl rfl rfl rfl ?_
    refine TL_gskip rfl rfl rfl rfl ?_
    refine TL_y rfl rfl (Y_pick_f rfl rfl) ?_
    refine TL_nil ?_
    refine T_cond_false rfl ?_
    refine T_exit ?_
    refine thenS_exit ?_
    refine thenS_exit ?_
    refine inB_hit ?_
    refine thenS_normal ?_
    refine T_region ?_
    refine TL_y rfl rfl (Y_assign rfl) ?_
    refine TL_nil ?_
    refine T_ret ?_
    exact RetG_1 (.inl rfl) rfl (ResV.tmp rfl) GivesTo.g (⟨rfl, rfl⟩)
end Go.SL
