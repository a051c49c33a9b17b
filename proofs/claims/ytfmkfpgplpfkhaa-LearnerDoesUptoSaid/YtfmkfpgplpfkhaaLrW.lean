/- Learner: the law on whatever is chosen. -/
import Derived.Test.YtfmkfpgplpfkhaaLrT
set_option linter.unusedVariables false
set_option linter.unusedSimpArgs false
namespace Go.SL
open Go Go.Proofs
theorem one_len {l : List Value} (h : l.length = 1) : ∃ v, l = [v] := by
  match l, h with
  | [v], _ => exact ⟨v, rfl⟩
structure DsSt where
  i : Nat
  ba : Nat
structure WrSt where
  k : Nat
  zs : List Int
theorem learnerDoes_walk {L : List HP} {A : Option Addr} {c : Nat} {ys : List SlotD} (slot most : Int) (hsl : intIn .i64 slot) (hk : SlK L slotR A c ys) (hl : LLim ys) : Fn Try.prog 7 #[.slice A ys.length c, .int .i64 slot, .int .i64 most] L (fun v L' => v = .bool true ∧ L' = L) := by
  have hl1 := hl.1
  refine Fn_enter Try.func7 rfl rfl rfl rfl ?_
  refine T_gives hk.lay ?_
  refine T_region ?_
  refine TL_y rfl rfl (Y_assign rfl) ?_
  refine TL_nil ?_
  refine T_region ?_
  refine TL_call rfl rfl (lrNew_spec _) ?_
  rintro _ _ ⟨b7, rfl, rfl⟩
  refine TL_y rfl rfl (Y_build rfl rfl) ?_
  refine TL_box rfl rfl rfl ?_
  intro b15
  refine TL_gives (osl_nil slotR 56 none _) ?_
  refine TL_gives (rl_close (A := none) (c := 0) b15 []) ?_
  refine TL_y rfl rfl (Y_assign rfl) ?_
  refine TL_y rfl rfl (Y_assign rfl) ?_
  refine TL_nil ?_
  refine T_seq ?_
  refine T_region ?_
  refine TL_call rfl rfl (lives18_spec _) ?_
  rintro _ _ ⟨rfl, rfl⟩
  refine TL_name 16 (v' := .bool true) rfl (rfl) ?_
  refine TL_y rfl rfl (Y_not_t rfl) ?_
  refine TL_y rfl rfl (Y_move rfl) ?_
  refine TL_grun rfl rfl ?_
  refine TL_y rfl rfl (Y_move rfl) ?_
  refine TL_grun rfl rfl ?_
  refine TL_y rfl rfl (Y_equal rfl rfl (EqIs.ptr_nil)) ?_
  refine TL_name 20 (v' := .bool false) rfl (by simp) ?_
  refine TL_y rfl rfl (Y_pick_f rfl rfl) ?_
  refine TL_nil ?_
  refine T_cond_false rfl ?_
  refine T_skip ?_
  refine thenS_normal ?_
  refine T_seq ?_
  refine T_region ?_
  refine TL_y rfl rfl (Y_assign rfl) ?_
  refine TL_nil ?_
  refine T_block ?_
  refine T_loopK (σ := DsSt) [0, 1, 2, 8] (fun g => g.i ≤ ys.length) (fun g kv => (9, .int .i64 (g.i : Int)) :: (7, .pointer (some ⟨g.ba, 0, none⟩)) :: kv) (fun g => lr g.ba (runC [] (ys.take g.i)) :: rl b15 (runC [] (ys.take g.i)) :: sl slotR A c ys :: L) (fun g => ys.length - g.i) (⟨0, b7⟩) rfl (Nat.zero_le _) (show Gives _ (lr b7 [] :: rl b15 [] :: sl slotR A c ys :: L) from GivesTo.g) (sub_cons rfl (sub_cons rfl (sub_cons rfl (sub_cons rfl (sub_cons rfl (sub_cons rfl (sub_nil))))))) ?_
  rintro ⟨i, ba⟩ hi
  dsimp only at hi ⊢
  refine T_seq ?_
  refine T_region ?_
  refine TL_y rfl rfl (Y_move rfl) ?_
  refine TL_y rfl rfl (Y_move rfl) ?_
  refine TL_y rfl rfl (Y_len rfl) ?_
  refine TL_y rfl rfl (Y_lt rfl rfl) ?_
  refine TL_nil ?_
  refine T_if rfl (fun h25 => ?_) (fun h25 => ?_)
  · refine T_skip ?_
    refine thenS_normal ?_
    refine T_seq ?_
    refine T_block ?_
    obtain ⟨u, hu⟩ : ∃ u, ys[i]? = some u := ⟨_, List.getElem?_eq_getElem (by omega)⟩
    have hlu := hl.2 u (List.mem_of_getElem? hu)
    refine T_at (slk (A := A) (c := c)) hu fun bq oq lq haq => ?_
    refine T_ex fun pq okq => ?_
    simp only [List.cons_append, List.nil_append]
    refine T_pullk ba ?_
    refine T_lrI fun hli => ?_
    have hcl := okq.2.2.2.2
    refine T_region ?_
    refine TL_y rfl rfl (Y_move rfl) ?_
    refine TL_y rfl rfl (Y_move rfl) ?_
    refine TL_y rfl rfl (Y_index_at rfl rfl (by omega) haq) ?_
    refine TL_y rfl rfl (Y_field_addr2 rfl) ?_
    refine TL_y rfl rfl (Y_load_row_agg (vs := entryC u.2 pq) rfl rfl) ?_
    refine TL_alloc rfl rfl ?_
    intro b10
    refine TL_store rfl rfl rfl rfl rfl rfl ?_
    refine TL_nil ?_
    refine T_region ?_
    refine TL_build_slice rfl rfl rfl rfl rfl rfl ?_
    intro b33
    refine TL_osl (k := 0) (intR .i64) [] (Knows.const fun M => rfl) rfl (by simp) ?_
    refine TL_name 33 (v' := .slice (some ⟨b33, 0, none⟩) ([] : List Int).length 0) rfl rfl ?_
    refine TL_y rfl rfl (Y_move rfl) ?_
    refine TL_y rfl rfl (Y_move rfl) ?_
    refine TL_y rfl rfl (Y_index_at rfl rfl (by omega) haq) ?_
    refine TL_y rfl rfl (Y_field_addr2 rfl) ?_
    refine TL_y rfl rfl (Y_field_addr2 rfl) ?_
    refine TL_y rfl rfl (Y_field_addr2 rfl) ?_
    refine TL_y rfl rfl (Y_load_row (l := slotC u pq) rfl rfl) ?_
    refine TL_append_n (ys := u.2.order.cut) rfl rfl rfl rfl rfl sln (by have := okq.2.2.2.2; simp only [List.length_nil]; omega) ?_
    intro A41 c41
    simp only [List.nil_append]
    refine TL_y rfl rfl (Y_field_addr rfl) ?_
    refine TL_y rfl rfl (Y_field_addr rfl) ?_
    refine TL_store rfl rfl rfl rfl rfl rfl ?_
    refine TL_nil ?_
    refine T_seq ?_
    refine T_region_draw (row bq oq (slotC u pq) :: cells b10 (entryC u.2 (A41, c41)) 54 :: []) [0, 0, 0, 6, 14, 30, 0, 127, 0, 0, 0, 1536, 3584, 7680, 0, 0, 49152, 114688, 245760, 524287, 1048575] [] [(0, true), (1, true), (2, true), (3, true), (4, true), (5, true), (6, true), (8, true), (9, true), (10, true), (11, true), (12, true), (13, true), (14, true), (15, true), (16, true), (17, true), (18, true), (7, false), (19, false), (20, true)] (by kernel_rfl) (by decide +kernel) GivesTo.g ?_
    refine TF_y rfl rfl (Y_move rfl) ?_
    refine TF_y rfl rfl (Y_move rfl) ?_
    refine TF_y rfl rfl (Y_move rfl) ?_
    refine TF_y rfl rfl (Y_index_at rfl rfl (by omega) haq) ?_
    refine TF_y rfl rfl (Y_field_addr2 rfl) ?_
    refine TF_y rfl rfl (Y_load_row rfl rfl) ?_
    refine TF_y rfl rfl (Y_load_agg (vs := entryC u.2 (A41, c41)) rfl rfl) ?_
    refine TF_y rfl rfl (Y_move rfl) ?_
    refine TF_y rfl rfl (Y_move rfl) ?_
    refine TF_y rfl rfl (Y_move rfl) ?_
    refine TF_y rfl rfl (Y_index_at rfl rfl (by omega) haq) ?_
    refine TF_y rfl rfl (Y_field_addr2 rfl) ?_
    refine TF_y rfl rfl (Y_load_row rfl rfl) ?_
    refine TF_y rfl rfl (Y_move rfl) ?_
    refine TF_y rfl rfl (Y_move rfl) ?_
    refine TF_y rfl rfl (Y_index_at rfl rfl (by omega) haq) ?_
    refine TF_y rfl rfl (Y_field_addr2 rfl) ?_
    refine TF_y rfl rfl (Y_load_row_agg (vs := entryC u.2 pq) rfl rfl) ?_
    refine TF_anchor rfl ?_
    refine TL_pullk ba ?_
    refine TL_call rfl rfl (lrChoose_spec u.1 u.2 okq.1 okq.2 hlu (sln (A := A41) (c := c41) (xs := u.2.order.cut))) ?_
    rintro _ _ ⟨rfl, rfl⟩
    refine TF_end GivesTo.g ?_
    refine TF_anchor rfl ?_
    refine TL_pullk b15 ?_
    refine TL_call rfl rfl (refChooseL_spec u.1 u.2 hli okq.1 okq.2 slk) ?_
    rintro _ _ ⟨rfl, rfl⟩
    rw [← runC_snoc, ← take_at hu]
    refine TF_end GivesTo.g ?_
    refine TF_y rfl rfl (Y_ne rfl rfl) ?_
    refine TF_name 64 (v' := .bool false) rfl (congrArg Value.bool (by simp)) ?_
    refine TF_nil ?_
    refine T_cond_false rfl ?_
    refine T_skip ?_
    refine thenS_normal ?_
    refine T_seq ?_
    refine T_region ?_
    refine TL_y rfl rfl (Y_assign rfl) ?_
    refine TL_nil ?_
    refine T_block ?_
    refine T_loopK (σ := WrSt) [0, 1, 2, 7, 8, 9, 10] (fun g => g.k ≤ u.2.order.cut.length ∧ g.zs.length = u.2.order.cut.length) (fun g kv => (11, .int .i64 (g.k : Int)) :: kv) (fun g => osl (intR .i64) 3 A41 c41 g.zs :: cells b10 (entryC u.2 (A41, c41)) 54 :: lr ba (runC [] (ys.take (i + 1))) :: rl b15 (runC [] (ys.take (i + 1))) :: sl slotR A c ys :: L) (fun g => u.2.order.cut.length - g.k) (⟨0, u.2.order.cut⟩) rfl (⟨Nat.zero_le _, rfl⟩) (GivesTo.g) (sub_cons rfl (sub_cons rfl (sub_cons rfl (sub_cons rfl (sub_cons rfl (sub_cons rfl (sub_cons rfl (sub_cons rfl (sub_nil))))))))) ?_
    rintro ⟨k, zs⟩ ⟨hk1, hk2⟩
    dsimp only at hk1 hk2 ⊢
    refine T_seq ?_
    refine T_region ?_
    refine TL_y rfl rfl (Y_move rfl) ?_
    refine TL_y rfl rfl (Y_field_addr rfl) ?_
    refine TL_y rfl rfl (Y_field_addr rfl) ?_
    refine TL_y rfl rfl (Y_load rfl rfl) ?_
    refine TL_y rfl rfl (Y_len rfl) ?_
    refine TL_y rfl rfl (Y_lt rfl rfl) ?_
    refine TL_nil ?_
    refine T_if rfl (fun h70 => ?_) (fun h70 => ?_)
    · refine T_skip ?_
      refine thenS_normal ?_
      refine T_seq ?_
      refine T_block ?_
      refine T_region_last ?_
      refine TL_y rfl rfl (Y_field_addr rfl) ?_
      refine TL_y rfl rfl (Y_field_addr rfl) ?_
      refine TL_y rfl rfl (Y_load rfl rfl) ?_
      refine TL_y rfl rfl (Y_move rfl) ?_
      obtain ⟨z, hz⟩ : ∃ z, zs[k]? = some z := ⟨_, List.getElem?_eq_getElem (by omega)⟩
      refine TL_index_own rfl rfl rfl (by omega) (hz) ?_
      intro bi77 li77 hA77 hl77
      obtain ⟨lv, rfl⟩ := one_len hl77
      refine TL_store_x rfl rfl rfl rfl rfl rfl ?_
      refine TL_nil ?_
      refine inB_normal ?_
      refine thenS_normal ?_
      refine T_unx bi77 77 (Knows.const fun M => (show (intR .i64).rep M 77 [.int .i64 77] from ⟨rfl, by decide⟩)) ?_
      rw [show (some ⟨bi77, 0, none⟩ : Option Addr) = A41 from hA77.symm]
      refine T_region_last ?_
      refine TL_y rfl rfl (Y_move rfl) ?_
      refine TL_y rfl rfl (Y_add rfl rfl (by omega)) ?_
      refine TL_name 72 (v' := .int .i64 ((k + 1 : Nat) : Int)) rfl (rfl) ?_
      refine TL_y rfl rfl (Y_assign rfl) ?_
      refine TL_nil ?_
      refine thenS_normal ?_
      exact ⟨⟨k + 1, zs.set k 77⟩, ⟨by simp only; omega, by simp only [List.length_set]; exact hk2⟩, by simp only; omega, holds_to (sub_cons rfl (sub_cons rfl (sub_cons rfl (sub_cons rfl (sub_cons rfl (sub_cons rfl (sub_cons rfl (sub_cons rfl (sub_nil))))))))) GivesTo.g⟩
    · refine T_exit ?_
      refine thenS_exit ?_
      refine thenS_exit ?_
      refine inB_hit ?_
      refine thenS_normal ?_
      refine T_region ?_
      refine TL_y rfl rfl (Y_move rfl) ?_
      refine TL_y rfl rfl (Y_rem rfl rfl (by decide)) ?_
      refine TL_name 79 (v' := .int .i64 ((i % 5 : Nat) : Int)) rfl (by congr 1) ?_
      refine TL_y rfl rfl (Y_eq rfl rfl) ?_
      refine TL_nil ?_
      refine T_if rfl (fun h80 => ?_) (fun h80 => ?_)
      · refine T_region ?_
        refine TL_y rfl rfl (Y_move rfl) ?_
        refine TL_pullk ba ?_
        refine TL_call rfl rfl (lrFork_spec) ?_
        rintro _ _ ⟨b82, rfl, rfl⟩
        refine TL_y rfl rfl (Y_assign rfl) ?_
        refine TL_nil ?_
        refine T_seq ?_
        refine T_region ?_
        refine TL_y rfl rfl (Y_move rfl) ?_
        refine TL_y rfl rfl (Y_equal rfl rfl (EqIs.ptr_nil)) ?_
        refine TL_name 84 (v' := .bool false) rfl (by simp) ?_
        refine TL_nil ?_
        refine T_cond_false rfl ?_
        refine T_skip ?_
        refine thenS_normal ?_
        refine T_region ?_
        refine TL_y rfl rfl (Y_move rfl) ?_
        refine TL_y rfl rfl (Y_build rfl rfl) ?_
        refine TL_pullk ba ?_
        refine TL_call rfl rfl (lrChoose_spec 1000 noopE (by decide) noop_ok (by decide) .nil) ?_
        rintro _ _ ⟨rfl, rfl⟩
        refine TL_nil ?_
        refine T_region_last ?_
        refine TL_y rfl rfl (Y_move rfl) ?_
        refine TL_y rfl rfl (Y_assign rfl) ?_
        refine TL_nil ?_
        refine inB_normal ?_
        refine thenS_normal ?_
        refine T_region_last ?_
        refine TL_y rfl rfl (Y_move rfl) ?_
        refine TL_y rfl rfl (Y_add rfl rfl (by omega)) ?_
        refine TL_name 27 (v' := .int .i64 ((i + 1 : Nat) : Int)) rfl (rfl) ?_
        refine TL_y rfl rfl (Y_assign rfl) ?_
        refine TL_nil ?_
        refine thenS_normal ?_
        exact ⟨⟨i + 1, b82⟩, (by simp only; omega), by simp only; omega, holds_to (sub_cons rfl (sub_cons rfl (sub_cons rfl (sub_cons rfl (sub_cons rfl (sub_cons rfl (sub_nil))))))) GivesTo.g⟩
      · refine T_skip ?_
        refine inB_normal ?_
        refine thenS_normal ?_
        refine T_region_last ?_
        refine TL_y rfl rfl (Y_move rfl) ?_
        refine TL_y rfl rfl (Y_add rfl rfl (by omega)) ?_
        refine TL_name 27 (v' := .int .i64 ((i + 1 : Nat) : Int)) rfl (rfl) ?_
        refine TL_y rfl rfl (Y_assign rfl) ?_
        refine TL_nil ?_
        refine thenS_normal ?_
        exact ⟨⟨i + 1, ba⟩, (by simp only; omega), by simp only; omega, holds_to (sub_cons rfl (sub_cons rfl (sub_cons rfl (sub_cons rfl (sub_cons rfl (sub_cons rfl (sub_nil))))))) GivesTo.g⟩
  · refine T_exit ?_
    refine thenS_exit ?_
    refine thenS_exit ?_
    refine inB_hit ?_
    refine thenS_normal ?_
    refine T_region ?_
    refine TL_y rfl rfl (Y_move rfl) ?_
    refine TL_y rfl rfl (Y_move rfl) ?_
    refine TL_y rfl rfl (Y_move rfl) ?_
    refine TL_y rfl rfl (Y_move rfl) ?_
    refine TL_pullk b15 ?_
    refine TL_pullk ba ?_
    refine TL_call rfl rfl (looks18_spec slot most hsl) ?_
    rintro _ _ ⟨rfl, rfl⟩
    refine TL_y rfl rfl (Y_assign rfl) ?_
    refine TL_nil ?_
    refine T_ret ?_
    exact RetG_1 (.inl rfl) rfl (ResV.tmp rfl) GivesTo.g (⟨rfl, rfl⟩)
end Go.SL
