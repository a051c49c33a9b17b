/- Net: the law on every call: the walk. -/
import Derived.Test.YtfmkfpgplpfkhaaNetQ
import Derived.Test.YtfmkfpgplpfkhaaNetF
set_option linter.unusedVariables false
set_option linter.unusedSimpArgs false
namespace Go.SL
open Go Go.Proofs
theorem refNew_bad (n : Int) (h : ¬ (1 ≤ n ∧ n ≤ 7)) (L : List HP) : Fn Try.prog 10 #[.int .i64 n] L (fun v L' => v = .tuple #[.pointer none, .int .i64 1] ∧ L' = L) := by
  refine Fn_enter Try.func10 rfl rfl rfl rfl ?_
  refine T_region ?_
  refine TL_y rfl rfl (Y_assign rfl) ?_
  refine TL_y rfl rfl (Y_assign rfl) ?_
  refine TL_nil ?_
  refine T_seq ?_
  refine T_region ?_
  refine TL_y rfl rfl (Y_move rfl) ?_
  refine TL_y rfl rfl (Y_lt rfl rfl) ?_
  refine TL_y rfl rfl (Y_move rfl) ?_
  refine TL_splitd 6 rfl (fun h6 => ?_) (fun h6 => ?_)
  · refine TL_gskip rfl rfl rfl rfl ?_
    refine TL_gskip rfl rfl rfl rfl ?_
    refine TL_y rfl rfl (Y_pick_t rfl rfl) ?_
    refine TL_nil ?_
    refine T_cond_true rfl ?_
    refine T_region ?_
    refine TL_y rfl rfl (Y_assign rfl) ?_
    refine TL_y rfl rfl (Y_assign rfl) ?_
    refine TL_nil ?_
    refine T_ret ?_
    refine thenS_ret ?_
    exact RetG_2 (.inl rfl) rfl (ResV.tmp rfl) (ResV.tmp rfl) GivesTo.g (⟨rfl, rfl⟩)
  · refine TL_grun rfl rfl ?_
    refine TL_y rfl rfl (Y_move rfl) ?_
    refine TL_grun rfl rfl ?_
    refine TL_y rfl rfl (Y_gt rfl rfl) ?_
    refine TL_y rfl rfl (Y_pick_f rfl rfl) ?_
    refine TL_nil ?_
    refine T_if_pos rfl (by omega) ?_
    refine T_region ?_
    refine TL_y rfl rfl (Y_assign rfl) ?_
    refine TL_y rfl rfl (Y_assign rfl) ?_
    refine TL_nil ?_
    refine T_ret ?_
    refine thenS_ret ?_
    exact RetG_2 (.inl rfl) rfl (ResV.tmp rfl) (ResV.tmp rfl) GivesTo.g (⟨rfl, rfl⟩)
theorem netDoes_bad {L : List HP} {A : Option Addr} {c : Nat} {l : List OpD} (n : Int) (h : ¬ (1 ≤ n ∧ n ≤ 7)) : Fn Try.prog 3 #[.int .i64 n, .slice A l.length c] L (fun v L' => v = .bool true ∧ L' = L) := by
  refine Fn_enter Try.func3 rfl rfl rfl rfl ?_
  refine T_gives (Gives.pure_intro trivial) ?_
  refine T_region ?_
  refine TL_y rfl rfl (Y_assign rfl) ?_
  refine TL_nil ?_
  refine T_region ?_
  refine TL_y rfl rfl (Y_move rfl) ?_
  refine TL_call rfl rfl (netNew_bad n h _) ?_
  rintro _ _ ⟨rfl, rfl⟩
  refine TL_y rfl rfl (Y_move rfl) ?_
  refine TL_y rfl rfl (Y_extract rfl rfl) ?_
  refine TL_y rfl rfl (Y_extract rfl rfl) ?_
  refine TL_y rfl rfl (Y_assign rfl) ?_
  refine TL_y rfl rfl (Y_assign rfl) ?_
  refine TL_nil ?_
  refine T_region ?_
  refine TL_y rfl rfl (Y_move rfl) ?_
  refine TL_call rfl rfl (refNew_bad n h _) ?_
  rintro _ _ ⟨rfl, rfl⟩
  refine TL_y rfl rfl (Y_move rfl) ?_
  refine TL_y rfl rfl (Y_extract rfl rfl) ?_
  refine TL_y rfl rfl (Y_extract rfl rfl) ?_
  refine TL_y rfl rfl (Y_assign rfl) ?_
  refine TL_y rfl rfl (Y_assign rfl) ?_
  refine TL_nil ?_
  refine T_seq ?_
  refine T_region ?_
  refine TL_call rfl rfl (lives04_spec _) ?_
  rintro _ _ ⟨rfl, rfl⟩
  refine TL_name 39 (v' := .bool true) rfl (rfl) ?_
  refine TL_y rfl rfl (Y_not_t rfl) ?_
  refine TL_y rfl rfl (Y_move rfl) ?_
  refine TL_grun rfl rfl ?_
  refine TL_y rfl rfl (Y_move rfl) ?_
  refine TL_grun rfl rfl ?_
  refine TL_y rfl rfl (Y_move rfl) ?_
  refine TL_grun rfl rfl ?_
  refine TL_y rfl rfl (Y_ne rfl rfl) ?_
  refine TL_name 44 (v' := .bool false) rfl (congrArg Value.bool (by decide)) ?_
  refine TL_y rfl rfl (Y_pick_f rfl rfl) ?_
  refine TL_y rfl rfl (Y_move rfl) ?_
  refine TL_grun rfl rfl ?_
  refine TL_y rfl rfl (Y_move rfl) ?_
  refine TL_grun rfl rfl ?_
  refine TL_y rfl rfl (Y_equal rfl rfl (EqIs.ptr_nil)) ?_
  refine TL_name 48 (v' := .bool true) rfl (by simp) ?_
  refine TL_grun rfl rfl ?_
  refine TL_y rfl rfl (Y_move rfl) ?_
  refine TL_grun rfl rfl ?_
  refine TL_y rfl rfl (Y_equal rfl rfl (EqIs.ptr_nil)) ?_
  refine TL_name 50 (v' := .bool true) rfl (by simp) ?_
  refine TL_grun rfl rfl ?_
  refine TL_y rfl rfl (Y_unequal rfl rfl (EqIs.bool)) ?_
  refine TL_name 51 (v' := .bool false) rfl (congrArg Value.bool (by decide)) ?_
  refine TL_y rfl rfl (Y_pick_f rfl rfl) ?_
  refine TL_nil ?_
  refine T_cond_false rfl ?_
  refine T_skip ?_
  refine thenS_normal ?_
  refine T_seq ?_
  refine T_region ?_
  refine TL_y rfl rfl (Y_assign rfl) ?_
  refine TL_nil ?_
  refine T_block ?_
  refine T_loopK (σ := Unit) [1, 7] (fun g => True) (fun g kv => (9, .int .i64 0) :: (5, .pointer none) :: kv) (fun g => L) (fun g => 0) (()) rfl (trivial) (GivesTo.g) (sub_cons rfl (sub_cons rfl (sub_cons rfl (sub_cons rfl (sub_nil))))) ?_
  intro g hg
  refine T_seq ?_
  refine T_region ?_
  refine TL_y rfl rfl (Y_move rfl) ?_
  refine TL_y rfl rfl (Y_move rfl) ?_
  refine TL_y rfl rfl (Y_len rfl) ?_
  refine TL_y rfl rfl (Y_lt rfl rfl) ?_
  refine TL_y rfl rfl (Y_move rfl) ?_
  refine TL_splitd 57 rfl (fun h57 => ?_) (fun h57 => ?_)
  · refine TL_grun rfl rfl ?_
    refine TL_y rfl rfl (Y_move rfl) ?_
    refine TL_grun rfl rfl ?_
    refine TL_y rfl rfl (Y_unequal rfl rfl (EqIs.ptr_nil)) ?_
    refine TL_name 59 (v' := .bool false) rfl (by simp) ?_
    refine TL_y rfl rfl (Y_pick_t rfl rfl) ?_
    refine TL_name 60 (v' := .bool false) rfl (by simp) ?_
    refine TL_nil ?_
    refine T_cond_false rfl ?_
    refine T_exit ?_
    refine thenS_exit ?_
    refine thenS_exit ?_
    refine inB_hit ?_
    refine thenS_normal ?_
    refine T_region ?_
    refine TL_y rfl rfl (Y_assign rfl) ?_
    refine TL_nil ?_
    refine T_ret ?_
    exact RetG_1 (.inl rfl) rfl (ResV.tmp rfl) GivesTo.g (⟨rfl, rfl⟩)
  · refine TL_gskip rfl rfl rfl rfl ?_
    refine TL_gskip rfl rfl rfl rfl ?_
    refine TL_y rfl rfl (Y_pick_f rfl rfl) ?_
    refine TL_name 60 (v' := .bool false) rfl (by simp) ?_
    refine TL_nil ?_
    refine T_cond_false rfl ?_
    refine T_exit ?_
    refine thenS_exit ?_
    refine thenS_exit ?_
    refine inB_hit ?_
    refine thenS_normal ?_
    refine T_region ?_
    refine TL_y rfl rfl (Y_assign rfl) ?_
    refine TL_nil ?_
    refine T_ret ?_
    exact RetG_1 (.inl rfl) rfl (ResV.tmp rfl) GivesTo.g (⟨rfl, rfl⟩)
structure NdSt where
  i : Nat
  s : NS
  b : Nat
theorem netDoes_good {L : List HP} {A : Option Addr} {c : Nat} {l : List OpD} (n : Int) (h : 1 ≤ n ∧ n ≤ 7) (hk : SlK L opR A c l) (hl : l.length ≤ 17592186044416) : Fn Try.prog 3 #[.int .i64 n, .slice A l.length c] L (fun v L' => v = .bool true ∧ L' = L) := by
  refine Fn_enter Try.func3 rfl rfl rfl rfl ?_
  refine T_gives hk.lay ?_
  refine T_region ?_
  refine TL_y rfl rfl (Y_assign rfl) ?_
  refine TL_nil ?_
  refine T_region ?_
  refine TL_y rfl rfl (Y_move rfl) ?_
  refine TL_call rfl rfl (netNew_ok n h _) ?_
  rintro _ _ ⟨b0, rfl, rfl⟩
  refine TL_y rfl rfl (Y_move rfl) ?_
  refine TL_y rfl rfl (Y_extract rfl rfl) ?_
  refine TL_y rfl rfl (Y_extract rfl rfl) ?_
  refine TL_y rfl rfl (Y_assign rfl) ?_
  refine TL_y rfl rfl (Y_assign rfl) ?_
  refine TL_nil ?_
  refine T_region ?_
  refine TL_y rfl rfl (Y_move rfl) ?_
  refine TL_call rfl rfl (refNew_ok n h _) ?_
  rintro _ _ ⟨bx, rfl, rfl⟩
  refine TL_y rfl rfl (Y_move rfl) ?_
  refine TL_y rfl rfl (Y_extract rfl rfl) ?_
  refine TL_y rfl rfl (Y_extract rfl rfl) ?_
  refine TL_y rfl rfl (Y_assign rfl) ?_
  refine TL_y rfl rfl (Y_assign rfl) ?_
  refine TL_nil ?_
  refine T_seq ?_
  refine T_region ?_
  refine TL_call rfl rfl (lives04_spec _) ?_
  rintro _ _ ⟨rfl, rfl⟩
  refine TL_name 39 (v' := .bool true) rfl (rfl) ?_
  refine TL_y rfl rfl (Y_not_t rfl) ?_
  refine TL_y rfl rfl (Y_move rfl) ?_
  refine TL_grun rfl rfl ?_
  refine TL_y rfl rfl (Y_move rfl) ?_
  refine TL_grun rfl rfl ?_
  refine TL_y rfl rfl (Y_move rfl) ?_
  refine TL_grun rfl rfl ?_
  refine TL_y rfl rfl (Y_ne rfl rfl) ?_
  refine TL_name 44 (v' := .bool false) rfl (congrArg Value.bool (by decide)) ?_
  refine TL_y rfl rfl (Y_pick_f rfl rfl) ?_
  refine TL_y rfl rfl (Y_move rfl) ?_
  refine TL_grun rfl rfl ?_
  refine TL_y rfl rfl (Y_move rfl) ?_
  refine TL_grun rfl rfl ?_
  refine TL_y rfl rfl (Y_equal rfl rfl (EqIs.ptr_nil)) ?_
  refine TL_name 48 (v' := .bool false) rfl (by simp) ?_
  refine TL_grun rfl rfl ?_
  refine TL_y rfl rfl (Y_move rfl) ?_
  refine TL_grun rfl rfl ?_
  refine TL_y rfl rfl (Y_equal rfl rfl (EqIs.ptr_nil)) ?_
  refine TL_name 50 (v' := .bool false) rfl (by simp) ?_
  refine TL_grun rfl rfl ?_
  refine TL_y rfl rfl (Y_unequal rfl rfl (EqIs.bool)) ?_
  refine TL_name 51 (v' := .bool false) rfl (congrArg Value.bool (by decide)) ?_
  refine TL_y rfl rfl (Y_pick_f rfl rfl) ?_
  refine TL_nil ?_
  refine T_cond_false rfl ?_
  refine T_skip ?_
  refine thenS_normal ?_
  refine T_seq ?_
  refine T_region ?_
  refine TL_y rfl rfl (Y_assign rfl) ?_
  refine TL_nil ?_
  refine T_block ?_
  refine T_loopK (σ := NdSt) [1, 7] (fun g => g.i ≤ l.length ∧ 0 ≤ g.s.last ∧ g.s.last ≤ (g.i : Int)) (fun g kv => (9, .int .i64 (g.i : Int)) :: (5, .pointer (some ⟨g.b, 0, none⟩)) :: kv) (fun g => nt g.b g.s :: rn bx g.s :: sl opR A c l :: L) (fun g => l.length - g.i) (⟨0, nsNew n, b0⟩) rfl (⟨Nat.zero_le _, Int.le_refl _, Int.le_refl _⟩) (GivesTo.g) (sub_cons rfl (sub_cons rfl (sub_cons rfl (sub_cons rfl (sub_nil))))) ?_
  rintro ⟨i, s, b⟩ ⟨hi, hs0, hsi⟩
  dsimp only at hi hs0 hsi ⊢
  refine T_seq ?_
  refine T_region ?_
  refine TL_y rfl rfl (Y_move rfl) ?_
  refine TL_y rfl rfl (Y_move rfl) ?_
  refine TL_y rfl rfl (Y_len rfl) ?_
  refine TL_y rfl rfl (Y_lt rfl rfl) ?_
  refine TL_y rfl rfl (Y_move rfl) ?_
  refine TL_splitd 57 rfl (fun h57 => ?_) (fun h57 => ?_)
  · refine TL_grun rfl rfl ?_
    refine TL_y rfl rfl (Y_move rfl) ?_
    refine TL_grun rfl rfl ?_
    refine TL_y rfl rfl (Y_unequal rfl rfl (EqIs.ptr_nil)) ?_
    refine TL_name 59 (v' := .bool true) rfl (by simp) ?_
    refine TL_y rfl rfl (Y_pick_t rfl rfl) ?_
    refine TL_nil ?_
    refine T_cond_true rfl ?_
    refine T_skip ?_
    refine thenS_normal ?_
    refine T_seq ?_
    refine T_block ?_
    obtain ⟨u, hu⟩ : ∃ u, l[i]? = some u := ⟨_, List.getElem?_eq_getElem (by omega)⟩
    refine T_at (slk (A := A) (c := c)) hu fun bo oo lo hao => ?_
    refine T_is (p := lo = opC u ∧ opOk u) (fun M h => h) fun ⟨e1, ok1⟩ => ?_
    subst e1
    have hsl := send_last s u.frm u.to_ u.body
    have htl := twice_last s u.id
    have hkl := take_last s u.id
    refine T_pullk b ?_
    refine T_nt fun bt hni => ?_
    refine T_gives (nt_close b s hni) ?_
    have hlen := hni.len
    refine T_region ?_
    refine TL_y rfl rfl (Y_move rfl) ?_
    refine TL_y rfl rfl (Y_move rfl) ?_
    refine TL_y rfl rfl (Y_index_at rfl rfl (by omega) hao) ?_
    refine TL_y rfl rfl (Y_load_row_agg (vs := opC u) rfl rfl) ?_
    refine TL_alloc rfl rfl ?_
    intro b10
    refine TL_store rfl rfl rfl rfl rfl rfl ?_
    refine TL_nil ?_
    refine T_region ?_
    refine TL_y rfl rfl (Y_assign rfl) ?_
    refine TL_nil ?_
    refine T_seq ?_
    refine T_region ?_
    refine TL_y rfl rfl (Y_field_addr rfl) ?_
    refine TL_y rfl rfl (Y_load rfl rfl) ?_
    refine TL_nil ?_
    refine T_block ?_
    refine T_region ?_
    refine TL_y rfl rfl (Y_eq rfl rfl) ?_
    refine TL_y rfl rfl (Y_assign rfl) ?_
    refine TL_nil ?_
    refine T_if rfl (fun h69 => ?_) (fun h69 => ?_)
    · refine T_region ?_
      refine TL_y rfl rfl (Y_move rfl) ?_
      refine TL_y rfl rfl (Y_field_addr rfl) ?_
      refine TL_y rfl rfl (Y_load rfl rfl) ?_
      refine TL_y rfl rfl (Y_field_addr rfl) ?_
      refine TL_y rfl rfl (Y_load rfl rfl) ?_
      refine TL_y rfl rfl (Y_field_addr rfl) ?_
      refine TL_y rfl rfl (Y_load rfl rfl) ?_
      refine TL_pullk b ?_
      refine TL_call rfl rfl (netSend_spec u.frm u.to_ u.body (by omega)) ?_
      rintro _ _ ⟨rfl, rfl⟩
      refine TL_y rfl rfl (Y_move rfl) ?_
      refine TL_y rfl rfl (Y_extract rfl rfl) ?_
      refine TL_y rfl rfl (Y_extract rfl rfl) ?_
      refine TL_y rfl rfl (Y_assign rfl) ?_
      refine TL_y rfl rfl (Y_assign rfl) ?_
      refine TL_nil ?_
      refine T_region ?_
      refine TL_y rfl rfl (Y_move rfl) ?_
      refine TL_y rfl rfl (Y_field_addr rfl) ?_
      refine TL_y rfl rfl (Y_load rfl rfl) ?_
      refine TL_y rfl rfl (Y_field_addr rfl) ?_
      refine TL_y rfl rfl (Y_load rfl rfl) ?_
      refine TL_y rfl rfl (Y_field_addr rfl) ?_
      refine TL_y rfl rfl (Y_load rfl rfl) ?_
      refine TL_pullk bx ?_
      refine TL_call rfl rfl (refSendN_spec u.frm u.to_ u.body hlen ⟨hs0, by omega⟩ ⟨show intIn .i64 (s.last + 1) from i64In_mk (by omega), ok1.2.1, ok1.2.2.1, ok1.2.2.2.2⟩) ?_
      rintro _ _ ⟨rfl, rfl⟩
      refine TL_y rfl rfl (Y_move rfl) ?_
      refine TL_y rfl rfl (Y_extract rfl rfl) ?_
      refine TL_y rfl rfl (Y_extract rfl rfl) ?_
      refine TL_y rfl rfl (Y_assign rfl) ?_
      refine TL_y rfl rfl (Y_assign rfl) ?_
      refine TL_nil ?_
      refine T_region_last ?_
      refine TL_y rfl rfl (Y_move rfl) ?_
      refine TL_y rfl rfl (Y_move rfl) ?_
      refine TL_y rfl rfl (Y_eq rfl rfl) ?_
      refine TL_name 95 (v' := .bool true) rfl (congrArg Value.bool (decide_eq_true rfl)) ?_
      refine TL_y rfl rfl (Y_move rfl) ?_
      refine TL_grun rfl rfl ?_
      refine TL_y rfl rfl (Y_move rfl) ?_
      refine TL_grun rfl rfl ?_
      refine TL_y rfl rfl (Y_move rfl) ?_
      refine TL_grun rfl rfl ?_
      refine TL_y rfl rfl (Y_eq rfl rfl) ?_
      refine TL_name 99 (v' := .bool true) rfl (congrArg Value.bool (decide_eq_true rfl)) ?_
      refine TL_y rfl rfl (Y_pick_t rfl rfl) ?_
      refine TL_y rfl rfl (Y_assign rfl) ?_
      refine TL_nil ?_
      refine inB_normal ?_
      refine thenS_normal ?_
      refine T_region ?_
      refine TL_y rfl rfl (Y_move rfl) ?_
      refine TL_y rfl rfl (Y_not_t rfl) ?_
      refine TL_y rfl rfl (Y_move rfl) ?_
      refine TL_grun rfl rfl ?_
      refine TL_y rfl rfl (Y_move rfl) ?_
      refine TL_grun rfl rfl ?_
      refine TL_y rfl rfl (Y_move rfl) ?_
      refine TL_grun rfl rfl ?_
      refine TL_y rfl rfl (Y_field_addr rfl) ?_
      refine TL_grun rfl rfl ?_
      refine TL_y rfl rfl (Y_load rfl rfl) ?_
      refine TL_grun rfl rfl ?_
      refine TL_pullk bx ?_
      refine TL_pullk b ?_
      refine TL_call rfl rfl (looks04_spec u.to_ ok1.2.2.1) ?_
      rintro _ _ ⟨rfl, rfl⟩
      refine TL_name 191 (v' := .bool true) rfl (rfl) ?_
      refine TL_grun rfl rfl ?_
      refine TL_y rfl rfl (Y_not_t rfl) ?_
      refine TL_y rfl rfl (Y_pick_f rfl rfl) ?_
      refine TL_nil ?_
      refine T_cond_false rfl ?_
      refine T_skip ?_
      refine inB_normal ?_
      refine thenS_normal ?_
      refine T_region_last ?_
      refine TL_y rfl rfl (Y_move rfl) ?_
      refine TL_y rfl rfl (Y_add rfl rfl (by omega)) ?_
      refine TL_name 62 (v' := .int .i64 ((i + 1 : Nat) : Int)) rfl (rfl) ?_
      refine TL_y rfl rfl (Y_assign rfl) ?_
      refine TL_nil ?_
      refine thenS_normal ?_
      exact ⟨⟨i + 1, (sendS s u.frm u.to_ u.body).1, b⟩, ⟨by simp only; omega, by dsimp only; by_cases hz : (sendS s u.frm u.to_ u.body).2.2 = 0; (have := (hsl.1 hz).2; omega); (have := (hsl.2 hz).2; omega), by dsimp only; by_cases hz : (sendS s u.frm u.to_ u.body).2.2 = 0; (have := (hsl.1 hz).2; omega); (have := (hsl.2 hz).2; omega)⟩, by simp only; omega, holds_to (sub_cons rfl (sub_cons rfl (sub_cons rfl (sub_cons rfl (sub_nil))))) GivesTo.g⟩
    · refine T_region ?_
      refine TL_y rfl rfl (Y_eq rfl rfl) ?_
      refine TL_y rfl rfl (Y_assign rfl) ?_
      refine TL_nil ?_
      refine T_if rfl (fun h101 => ?_) (fun h101 => ?_)
      · refine T_region ?_
        refine TL_y rfl rfl (Y_move rfl) ?_
        refine TL_y rfl rfl (Y_field_addr rfl) ?_
        refine TL_y rfl rfl (Y_load rfl rfl) ?_
        refine TL_pullk b ?_
        refine TL_call rfl rfl (netTake_spec u.id ok1.2.2.2.1) ?_
        rintro _ _ ⟨rfl, rfl⟩
        refine TL_y rfl rfl (Y_move rfl) ?_
        refine TL_y rfl rfl (Y_extract rfl rfl) ?_
        refine TL_y rfl rfl (Y_extract rfl rfl) ?_
        refine TL_alloc rfl rfl ?_
        intro b16
        refine TL_store rfl rfl rfl rfl rfl rfl ?_
        refine TL_y rfl rfl (Y_assign rfl) ?_
        refine TL_nil ?_
        refine T_region ?_
        refine TL_y rfl rfl (Y_move rfl) ?_
        refine TL_y rfl rfl (Y_field_addr rfl) ?_
        refine TL_y rfl rfl (Y_load rfl rfl) ?_
        refine TL_pullk bx ?_
        refine TL_call rfl rfl (refTakeN_spec u.id hni) ?_
        rintro _ _ ⟨rfl, rfl⟩
        refine TL_y rfl rfl (Y_move rfl) ?_
        refine TL_y rfl rfl (Y_extract rfl rfl) ?_
        refine TL_y rfl rfl (Y_extract rfl rfl) ?_
        refine TL_alloc rfl rfl ?_
        intro b18
        refine TL_store rfl rfl rfl rfl rfl rfl ?_
        refine TL_y rfl rfl (Y_assign rfl) ?_
        refine TL_nil ?_
        refine T_region_last ?_
        refine TL_y rfl rfl (Y_load_agg rfl rfl) ?_
        refine TL_y rfl rfl (Y_load_agg rfl rfl) ?_
        refine TL_y rfl rfl (Y_eq_pack rfl rfl) ?_
        refine TL_name 119 (v' := .bool true) rfl (congrArg Value.bool (decide_eq_true rfl)) ?_
        refine TL_y rfl rfl (Y_move rfl) ?_
        refine TL_grun rfl rfl ?_
        refine TL_y rfl rfl (Y_move rfl) ?_
        refine TL_grun rfl rfl ?_
        refine TL_y rfl rfl (Y_move rfl) ?_
        refine TL_grun rfl rfl ?_
        refine TL_y rfl rfl (Y_eq rfl rfl) ?_
        refine TL_name 123 (v' := .bool true) rfl (congrArg Value.bool (decide_eq_true rfl)) ?_
        refine TL_y rfl rfl (Y_pick_t rfl rfl) ?_
        refine TL_y rfl rfl (Y_assign rfl) ?_
        refine TL_nil ?_
        refine inB_normal ?_
        refine thenS_normal ?_
        refine T_region ?_
        refine TL_y rfl rfl (Y_move rfl) ?_
        refine TL_y rfl rfl (Y_not_t rfl) ?_
        refine TL_y rfl rfl (Y_move rfl) ?_
        refine TL_grun rfl rfl ?_
        refine TL_y rfl rfl (Y_move rfl) ?_
        refine TL_grun rfl rfl ?_
        refine TL_y rfl rfl (Y_move rfl) ?_
        refine TL_grun rfl rfl ?_
        refine TL_y rfl rfl (Y_field_addr rfl) ?_
        refine TL_grun rfl rfl ?_
        refine TL_y rfl rfl (Y_load rfl rfl) ?_
        refine TL_grun rfl rfl ?_
        refine TL_pullk bx ?_
        refine TL_pullk b ?_
        refine TL_call rfl rfl (looks04_spec u.to_ ok1.2.2.1) ?_
        rintro _ _ ⟨rfl, rfl⟩
        refine TL_name 191 (v' := .bool true) rfl (rfl) ?_
        refine TL_grun rfl rfl ?_
        refine TL_y rfl rfl (Y_not_t rfl) ?_
        refine TL_y rfl rfl (Y_pick_f rfl rfl) ?_
        refine TL_nil ?_
        refine T_cond_false rfl ?_
        refine T_skip ?_
        refine inB_normal ?_
        refine thenS_normal ?_
        refine T_region_last ?_
        refine TL_y rfl rfl (Y_move rfl) ?_
        refine TL_y rfl rfl (Y_add rfl rfl (by omega)) ?_
        refine TL_name 62 (v' := .int .i64 ((i + 1 : Nat) : Int)) rfl (rfl) ?_
        refine TL_y rfl rfl (Y_assign rfl) ?_
        refine TL_nil ?_
        refine thenS_normal ?_
        exact ⟨⟨i + 1, (takeS s u.id).1, b⟩, ⟨by simp only; omega, by simp only; omega, by simp only; omega⟩, by simp only; omega, holds_to (sub_cons rfl (sub_cons rfl (sub_cons rfl (sub_cons rfl (sub_nil))))) GivesTo.g⟩
      · refine T_region ?_
        refine TL_y rfl rfl (Y_eq rfl rfl) ?_
        refine TL_y rfl rfl (Y_assign rfl) ?_
        refine TL_nil ?_
        refine T_if rfl (fun h125 => ?_) (fun h125 => ?_)
        · refine T_region ?_
          refine TL_y rfl rfl (Y_move rfl) ?_
          refine TL_y rfl rfl (Y_field_addr rfl) ?_
          refine TL_y rfl rfl (Y_load rfl rfl) ?_
          refine TL_pullk b ?_
          refine TL_call rfl rfl (netTwice_spec u.id ok1.2.2.2.1 (by omega)) ?_
          rintro _ _ ⟨rfl, rfl⟩
          refine TL_y rfl rfl (Y_move rfl) ?_
          refine TL_y rfl rfl (Y_extract rfl rfl) ?_
          refine TL_y rfl rfl (Y_extract rfl rfl) ?_
          refine TL_y rfl rfl (Y_assign rfl) ?_
          refine TL_y rfl rfl (Y_assign rfl) ?_
          refine TL_nil ?_
          refine T_region ?_
          refine TL_y rfl rfl (Y_move rfl) ?_
          refine TL_y rfl rfl (Y_field_addr rfl) ?_
          refine TL_y rfl rfl (Y_load rfl rfl) ?_
          refine TL_pullk bx ?_
          refine TL_call rfl rfl (refTwiceN_spec u.id hni (by omega)) ?_
          rintro _ _ ⟨rfl, rfl⟩
          refine TL_y rfl rfl (Y_move rfl) ?_
          refine TL_y rfl rfl (Y_extract rfl rfl) ?_
          refine TL_y rfl rfl (Y_extract rfl rfl) ?_
          refine TL_y rfl rfl (Y_assign rfl) ?_
          refine TL_y rfl rfl (Y_assign rfl) ?_
          refine TL_nil ?_
          refine T_region_last ?_
          refine TL_y rfl rfl (Y_move rfl) ?_
          refine TL_y rfl rfl (Y_move rfl) ?_
          refine TL_y rfl rfl (Y_eq rfl rfl) ?_
          refine TL_name 143 (v' := .bool true) rfl (congrArg Value.bool (decide_eq_true rfl)) ?_
          refine TL_y rfl rfl (Y_move rfl) ?_
          refine TL_grun rfl rfl ?_
          refine TL_y rfl rfl (Y_move rfl) ?_
          refine TL_grun rfl rfl ?_
          refine TL_y rfl rfl (Y_move rfl) ?_
          refine TL_grun rfl rfl ?_
          refine TL_y rfl rfl (Y_eq rfl rfl) ?_
          refine TL_name 147 (v' := .bool true) rfl (congrArg Value.bool (decide_eq_true rfl)) ?_
          refine TL_y rfl rfl (Y_pick_t rfl rfl) ?_
          refine TL_y rfl rfl (Y_assign rfl) ?_
          refine TL_nil ?_
          refine inB_normal ?_
          refine thenS_normal ?_
          refine T_region ?_
          refine TL_y rfl rfl (Y_move rfl) ?_
          refine TL_y rfl rfl (Y_not_t rfl) ?_
          refine TL_y rfl rfl (Y_move rfl) ?_
          refine TL_grun rfl rfl ?_
          refine TL_y rfl rfl (Y_move rfl) ?_
          refine TL_grun rfl rfl ?_
          refine TL_y rfl rfl (Y_move rfl) ?_
          refine TL_grun rfl rfl ?_
          refine TL_y rfl rfl (Y_field_addr rfl) ?_
          refine TL_grun rfl rfl ?_
          refine TL_y rfl rfl (Y_load rfl rfl) ?_
          refine TL_grun rfl rfl ?_
          refine TL_pullk bx ?_
          refine TL_pullk b ?_
          refine TL_call rfl rfl (looks04_spec u.to_ ok1.2.2.1) ?_
          rintro _ _ ⟨rfl, rfl⟩
          refine TL_name 191 (v' := .bool true) rfl (rfl) ?_
          refine TL_grun rfl rfl ?_
          refine TL_y rfl rfl (Y_not_t rfl) ?_
          refine TL_y rfl rfl (Y_pick_f rfl rfl) ?_
          refine TL_nil ?_
          refine T_cond_false rfl ?_
          refine T_skip ?_
          refine inB_normal ?_
          refine thenS_normal ?_
          refine T_region_last ?_
          refine TL_y rfl rfl (Y_move rfl) ?_
          refine TL_y rfl rfl (Y_add rfl rfl (by omega)) ?_
          refine TL_name 62 (v' := .int .i64 ((i + 1 : Nat) : Int)) rfl (rfl) ?_
          refine TL_y rfl rfl (Y_assign rfl) ?_
          refine TL_nil ?_
          refine thenS_normal ?_
          exact ⟨⟨i + 1, (twiceS s u.id).1, b⟩, ⟨by simp only; omega, by dsimp only; by_cases hz : (twiceS s u.id).2.2 = 0; (have := (htl.1 hz).2; omega); (have := (htl.2 hz).2; omega), by dsimp only; by_cases hz : (twiceS s u.id).2.2 = 0; (have := (htl.1 hz).2; omega); (have := (htl.2 hz).2; omega)⟩, by simp only; omega, holds_to (sub_cons rfl (sub_cons rfl (sub_cons rfl (sub_cons rfl (sub_nil))))) GivesTo.g⟩
        · refine T_region ?_
          refine TL_y rfl rfl (Y_eq rfl rfl) ?_
          refine TL_y rfl rfl (Y_assign rfl) ?_
          refine TL_nil ?_
          refine T_if rfl (fun h149 => ?_) (fun h149 => ?_)
          · refine T_region ?_
            refine TL_y rfl rfl (Y_move rfl) ?_
            refine TL_y rfl rfl (Y_field_addr rfl) ?_
            refine TL_y rfl rfl (Y_load rfl rfl) ?_
            refine TL_pullk b ?_
            refine TL_call rfl rfl (netAt_spec u.id ok1.2.2.2.1) ?_
            rintro _ _ ⟨rfl, rfl⟩
            refine TL_y rfl rfl (Y_move rfl) ?_
            refine TL_y rfl rfl (Y_extract rfl rfl) ?_
            refine TL_y rfl rfl (Y_extract rfl rfl) ?_
            refine TL_y rfl rfl (Y_assign rfl) ?_
            refine TL_y rfl rfl (Y_assign rfl) ?_
            refine TL_nil ?_
            refine T_region ?_
            refine TL_y rfl rfl (Y_move rfl) ?_
            refine TL_y rfl rfl (Y_field_addr rfl) ?_
            refine TL_y rfl rfl (Y_load rfl rfl) ?_
            refine TL_pullk bx ?_
            refine TL_call rfl rfl (refAtN_spec u.id ok1.2.2.2.1 hlen) ?_
            rintro _ _ ⟨rfl, rfl⟩
            refine TL_y rfl rfl (Y_move rfl) ?_
            refine TL_y rfl rfl (Y_extract rfl rfl) ?_
            refine TL_y rfl rfl (Y_extract rfl rfl) ?_
            refine TL_y rfl rfl (Y_assign rfl) ?_
            refine TL_y rfl rfl (Y_assign rfl) ?_
            refine TL_nil ?_
            refine T_region_last ?_
            refine TL_y rfl rfl (Y_move rfl) ?_
            refine TL_y rfl rfl (Y_move rfl) ?_
            refine TL_y rfl rfl (Y_eq rfl rfl) ?_
            refine TL_name 167 (v' := .bool true) rfl (congrArg Value.bool (decide_eq_true rfl)) ?_
            refine TL_y rfl rfl (Y_move rfl) ?_
            refine TL_grun rfl rfl ?_
            refine TL_y rfl rfl (Y_move rfl) ?_
            refine TL_grun rfl rfl ?_
            refine TL_y rfl rfl (Y_move rfl) ?_
            refine TL_grun rfl rfl ?_
            refine TL_y rfl rfl (Y_equal rfl rfl (EqIs.bool)) ?_
            refine TL_name 171 (v' := .bool true) rfl (congrArg Value.bool (by simp)) ?_
            refine TL_y rfl rfl (Y_pick_t rfl rfl) ?_
            refine TL_y rfl rfl (Y_assign rfl) ?_
            refine TL_nil ?_
            refine inB_normal ?_
            refine thenS_normal ?_
            refine T_region ?_
            refine TL_y rfl rfl (Y_move rfl) ?_
            refine TL_y rfl rfl (Y_not_t rfl) ?_
            refine TL_y rfl rfl (Y_move rfl) ?_
            refine TL_grun rfl rfl ?_
            refine TL_y rfl rfl (Y_move rfl) ?_
            refine TL_grun rfl rfl ?_
            refine TL_y rfl rfl (Y_move rfl) ?_
            refine TL_grun rfl rfl ?_
            refine TL_y rfl rfl (Y_field_addr rfl) ?_
            refine TL_grun rfl rfl ?_
            refine TL_y rfl rfl (Y_load rfl rfl) ?_
            refine TL_grun rfl rfl ?_
            refine TL_pullk bx ?_
            refine TL_pullk b ?_
            refine TL_call rfl rfl (looks04_spec u.to_ ok1.2.2.1) ?_
            rintro _ _ ⟨rfl, rfl⟩
            refine TL_name 191 (v' := .bool true) rfl (rfl) ?_
            refine TL_grun rfl rfl ?_
            refine TL_y rfl rfl (Y_not_t rfl) ?_
            refine TL_y rfl rfl (Y_pick_f rfl rfl) ?_
            refine TL_nil ?_
            refine T_cond_false rfl ?_
            refine T_skip ?_
            refine inB_normal ?_
            refine thenS_normal ?_
            refine T_region_last ?_
            refine TL_y rfl rfl (Y_move rfl) ?_
            refine TL_y rfl rfl (Y_add rfl rfl (by omega)) ?_
            refine TL_name 62 (v' := .int .i64 ((i + 1 : Nat) : Int)) rfl (rfl) ?_
            refine TL_y rfl rfl (Y_assign rfl) ?_
            refine TL_nil ?_
            refine thenS_normal ?_
            exact ⟨⟨i + 1, s, b⟩, ⟨by simp only; omega, by simp only; omega, by simp only; omega⟩, by simp only; omega, holds_to (sub_cons rfl (sub_cons rfl (sub_cons rfl (sub_cons rfl (sub_nil))))) GivesTo.g⟩
          · refine T_region ?_
            refine TL_y rfl rfl (Y_eq rfl rfl) ?_
            refine TL_y rfl rfl (Y_assign rfl) ?_
            refine TL_nil ?_
            refine T_if rfl (fun h173 => ?_) (fun h173 => ?_)
            · refine T_region ?_
              refine TL_y rfl rfl (Y_move rfl) ?_
              refine TL_pullk b ?_
              refine TL_call rfl rfl (netFork_spec) ?_
              rintro _ _ ⟨b2, rfl, rfl⟩
              refine TL_y rfl rfl (Y_assign rfl) ?_
              refine TL_nil ?_
              refine T_region ?_
              refine TL_y rfl rfl (Y_move rfl) ?_
              refine TL_pullk b ?_
              refine TL_call rfl rfl (netSend_spec 0 0 ⟨#[111, 116, 104, 101, 114]⟩ (by omega)) ?_
              rintro _ _ ⟨rfl, rfl⟩
              refine TL_nil ?_
              refine T_region ?_
              refine TL_y rfl rfl (Y_move rfl) ?_
              refine TL_pullk b ?_
              refine TL_call rfl rfl (netTake_spec 1 (i64In_mk (by decide))) ?_
              rintro _ _ ⟨rfl, rfl⟩
              refine TL_nil ?_
              refine T_region ?_
              refine TL_y rfl rfl (Y_move rfl) ?_
              refine TL_y rfl rfl (Y_assign rfl) ?_
              refine TL_nil ?_
              refine T_region_last ?_
              refine TL_y rfl rfl (Y_move rfl) ?_
              refine TL_y rfl rfl (Y_unequal rfl rfl (EqIs.ptr_nil)) ?_
              refine TL_name 183 (v' := .bool true) rfl (by simp) ?_
              refine TL_y rfl rfl (Y_assign rfl) ?_
              refine TL_nil ?_
              refine inB_normal ?_
              refine thenS_normal ?_
              refine T_region ?_
              refine TL_y rfl rfl (Y_move rfl) ?_
              refine TL_y rfl rfl (Y_not_t rfl) ?_
              refine TL_y rfl rfl (Y_move rfl) ?_
              refine TL_grun rfl rfl ?_
              refine TL_y rfl rfl (Y_move rfl) ?_
              refine TL_grun rfl rfl ?_
              refine TL_y rfl rfl (Y_move rfl) ?_
              refine TL_grun rfl rfl ?_
              refine TL_y rfl rfl (Y_field_addr rfl) ?_
              refine TL_grun rfl rfl ?_
              refine TL_y rfl rfl (Y_load rfl rfl) ?_
              refine TL_grun rfl rfl ?_
              refine TL_pullk bx ?_
              refine TL_pullk b2 ?_
              refine TL_call rfl rfl (looks04_spec u.to_ ok1.2.2.1) ?_
              rintro _ _ ⟨rfl, rfl⟩
              refine TL_name 191 (v' := .bool true) rfl (rfl) ?_
              refine TL_grun rfl rfl ?_
              refine TL_y rfl rfl (Y_not_t rfl) ?_
              refine TL_y rfl rfl (Y_pick_f rfl rfl) ?_
              refine TL_nil ?_
              refine T_cond_false rfl ?_
              refine T_skip ?_
              refine inB_normal ?_
              refine thenS_normal ?_
              refine T_region_last ?_
              refine TL_y rfl rfl (Y_move rfl) ?_
              refine TL_y rfl rfl (Y_add rfl rfl (by omega)) ?_
              refine TL_name 62 (v' := .int .i64 ((i + 1 : Nat) : Int)) rfl (rfl) ?_
              refine TL_y rfl rfl (Y_assign rfl) ?_
              refine TL_nil ?_
              refine thenS_normal ?_
              exact ⟨⟨i + 1, s, b2⟩, ⟨by simp only; omega, by simp only; omega, by simp only; omega⟩, by simp only; omega, holds_to (sub_cons rfl (sub_cons rfl (sub_cons rfl (sub_cons rfl (sub_nil))))) GivesTo.g⟩
            · refine T_skip ?_
              refine inB_normal ?_
              refine thenS_normal ?_
              refine T_region ?_
              refine TL_y rfl rfl (Y_move rfl) ?_
              refine TL_y rfl rfl (Y_not_t rfl) ?_
              refine TL_y rfl rfl (Y_move rfl) ?_
              refine TL_grun rfl rfl ?_
              refine TL_y rfl rfl (Y_move rfl) ?_
              refine TL_grun rfl rfl ?_
              refine TL_y rfl rfl (Y_move rfl) ?_
              refine TL_grun rfl rfl ?_
              refine TL_y rfl rfl (Y_field_addr rfl) ?_
              refine TL_grun rfl rfl ?_
              refine TL_y rfl rfl (Y_load rfl rfl) ?_
              refine TL_grun rfl rfl ?_
              refine TL_pullk bx ?_
              refine TL_pullk b ?_
              refine TL_call rfl rfl (looks04_spec u.to_ ok1.2.2.1) ?_
              rintro _ _ ⟨rfl, rfl⟩
              refine TL_name 191 (v' := .bool true) rfl (rfl) ?_
              refine TL_grun rfl rfl ?_
              refine TL_y rfl rfl (Y_not_t rfl) ?_
              refine TL_y rfl rfl (Y_pick_f rfl rfl) ?_
              refine TL_nil ?_
              refine T_cond_false rfl ?_
              refine T_skip ?_
              refine inB_normal ?_
              refine thenS_normal ?_
              refine T_region_last ?_
              refine TL_y rfl rfl (Y_move rfl) ?_
              refine TL_y rfl rfl (Y_add rfl rfl (by omega)) ?_
              refine TL_name 62 (v' := .int .i64 ((i + 1 : Nat) : Int)) rfl (rfl) ?_
              refine TL_y rfl rfl (Y_assign rfl) ?_
              refine TL_nil ?_
              refine thenS_normal ?_
              exact ⟨⟨i + 1, s, b⟩, ⟨by simp only; omega, by simp only; omega, by simp only; omega⟩, by simp only; omega, holds_to (sub_cons rfl (sub_cons rfl (sub_cons rfl (sub_cons rfl (sub_nil))))) GivesTo.g⟩
  · refine TL_gskip rfl rfl rfl rfl ?_
    refine TL_gskip rfl rfl rfl rfl ?_
    refine TL_y rfl rfl (Y_pick_f rfl rfl) ?_
    refine TL_nil ?_
    refine T_cond_false rfl ?_
    refine T_exit ?_
    refine thenS_exit ?_
    refine thenS_exit ?_
    refine inB_hit ?_
    refine thenS_normal ?_
    refine T_region ?_
    refine TL_y rfl rfl (Y_assign rfl) ?_
    refine TL_nil ?_
    refine T_ret ?_
    exact RetG_1 (.inl rfl) rfl (ResV.tmp rfl) GivesTo.g (⟨rfl, rfl⟩)
theorem netDoes_walk {L : List HP} {A : Option Addr} {c : Nat} {l : List OpD} (n : Int) (hk : SlK L opR A c l) (hl : l.length ≤ 17592186044416) : Fn Try.prog 3 #[.int .i64 n, .slice A l.length c] L (fun v L' => v = .bool true ∧ L' = L) := by
  by_cases h : 1 ≤ n ∧ n ≤ 7
  · exact netDoes_good n h hk hl
  · exact netDoes_bad n h
end Go.SL
