/- Seal: the walks of the laws on entries that are carried out. -/
import Derived.Test.YtcpknfcckekhdaaSealE
set_option linter.unusedVariables false
set_option linter.unusedSimpArgs false
namespace Go.SL
open Go Go.Proofs
abbrev SLimits (l : List EntryD) : Prop := l.length ≤ 17592186044416 ∧ ∀ e ∈ l, cSeal e.order ≤ 140737488355000
theorem run_dn1 {l : List EntryD} {i : Nat} (hl : l.length ≤ 17592186044416) : intIn .i64 ((runS (l.take i)).dn + 1) := by
  have h := runS_dn (l.take i)
  rw [List.length_take] at h
  refine i64In_mk ?_; omega
theorem sealCounts_walk {L : List HP} {A : Option Addr} {c : Nat} {l : List EntryD} (cart : ByteArray) (hc : cart.size ≤ maxEl) (hk : SlK L entryR A c l) (hl : SLimits l) : Fn Try.prog 4 #[.slice A l.length c, .string cart] L (fun v L' => v = .bool true ∧ L' = L) := by
  have hl17 := hl.1
  refine Fn_enter Try.func4 rfl rfl rfl rfl ?_
  refine T_gives hk.lay ?_
  refine T_region ?_
  refine TL_y rfl rfl (Y_assign rfl) ?_
  refine TL_nil ?_
  refine T_region ?_
  refine TL_call rfl rfl (sealNew_spec _) ?_
  rintro _ _ ⟨b1, rfl, rfl⟩
  refine TL_y rfl rfl (Y_assign rfl) ?_
  refine TL_nil ?_
  refine T_seq ?_
  refine T_region ?_
  refine TL_call rfl rfl (lives19_spec _) ?_
  rintro _ _ ⟨rfl, rfl⟩
  refine TL_name 15 (v' := .bool true) rfl (rfl) ?_
  refine TL_y rfl rfl (Y_not_t rfl) ?_
  refine TL_y rfl rfl (Y_move rfl) ?_
  refine TL_grun rfl rfl ?_
  refine TL_y rfl rfl (Y_move rfl) ?_
  refine TL_grun rfl rfl ?_
  refine TL_y rfl rfl (Y_equal rfl rfl (EqIs.ptr_nil)) ?_
  refine TL_y rfl rfl (Y_pick_f rfl rfl) ?_
  refine TL_name 20 (v' := .bool false) rfl (by simp) ?_
  refine TL_nil ?_
  refine T_cond_false rfl ?_
  refine T_skip ?_
  refine thenS_normal ?_
  refine T_seq ?_
  refine T_region ?_
  refine TL_y rfl rfl (Y_assign rfl) ?_
  refine TL_nil ?_
  refine T_block ?_
  refine T_loopK (σ := Nat) [0, 1, 5] (fun i => i ≤ l.length) (fun i kv => (6, .int .i64 (i : Int)) :: kv) (fun i => sm b1 (runS (l.take i)) :: sl entryR A c l :: L) (fun i => l.length - i) (0) rfl (Nat.zero_le _) (GivesTo.g (L' := sm b1 ⟨[], 0⟩ :: sl entryR A c l :: L)) (sub_cons rfl (sub_cons rfl (sub_cons rfl (sub_cons rfl (sub_nil))))) ?_
  intro i hi
  refine T_seq ?_
  refine T_region ?_
  refine TL_y rfl rfl (Y_move rfl) ?_
  refine TL_y rfl rfl (Y_move rfl) ?_
  refine TL_y rfl rfl (Y_len rfl) ?_
  refine TL_y rfl rfl (Y_lt rfl rfl) ?_
  refine TL_nil ?_
  refine T_if rfl (fun h24 => ?_) (fun h24 => ?_)
  · refine T_skip ?_
    refine thenS_normal ?_
    refine T_seq ?_
    refine T_block ?_
    refine T_region_last ?_
    refine TL_y rfl rfl (Y_move rfl) ?_
    refine TL_y rfl rfl (Y_move rfl) ?_
    refine TL_y rfl rfl (Y_move rfl) ?_
    obtain ⟨u, hu⟩ : ∃ u, l[i]? = some u := ⟨_, List.getElem?_eq_getElem (by omega)⟩
    have hnx := runS_next hu
    refine TL_index_n rfl rfl rfl (rfl) (sln) (hu) ?_
    intro bn30 on30 hA30 hk30
    have hu30 := hu
    refine TL_load_nx rfl rfl hk30 hu30 (fun _ => rfl) ?_
    intro p31 ok31
    simp only [List.cons_append, List.nil_append]
    refine TL_pullk b1 ?_
    refine TL_call rfl rfl (sealDo_spec u ok31 slk (hl.2 u (List.mem_of_getElem? hu)) (run_dn1 hl17)) ?_
    rintro _ _ ⟨A32, c32, rfl, rfl⟩
    rw [← hnx]
    refine TL_nil ?_
    refine inB_normal ?_
    refine thenS_normal ?_
    refine T_region_last ?_
    refine TL_y rfl rfl (Y_move rfl) ?_
    refine TL_y rfl rfl (Y_add rfl rfl (by omega)) ?_
    refine TL_name 26 (v' := .int .i64 ((i + 1 : Nat) : Int)) rfl (rfl) ?_
    refine TL_y rfl rfl (Y_assign rfl) ?_
    refine TL_nil ?_
    refine thenS_normal ?_
    exact ⟨i + 1, by omega, by omega, holds_to (sub_cons rfl (sub_cons rfl (sub_cons rfl (sub_cons rfl (sub_nil))))) GivesTo.g⟩
  · refine T_exit ?_
    refine thenS_exit ?_
    refine thenS_exit ?_
    refine inB_hit ?_
    refine thenS_normal ?_
    refine T_region ?_
    refine TL_y rfl rfl (Y_assign rfl) ?_
    refine TL_nil ?_
    refine T_region ?_
    refine TL_y rfl rfl (Y_move rfl) ?_
    have hok := SOk.run l
    have hdn := runS_dn l
    rw [show l.take i = l from List.take_of_length_le (by omega)]
    generalize hs : runS l = s at *
    have hlen := hok.len
    refine TL_pullk b1 ?_
    refine TL_call rfl rfl (sealOrders_spec) ?_
    rintro _ _ ⟨A34, c34, rfl, _, rfl⟩
    refine TL_y rfl rfl (Y_assign rfl) ?_
    refine TL_nil ?_
    refine T_seq ?_
    refine T_region ?_
    refine TL_y rfl rfl (Y_assign rfl) ?_
    refine TL_nil ?_
    refine T_block ?_
    refine T_loopK (σ := Nat) [0, 1, 5, 8] (fun j => j ≤ s.os.length) (fun j kv => (9, .int .i64 (j : Int)) :: (7, .int .i64 (cntS (s.os.take j) cart : Int)) :: kv) (fun j => osl ordR 29 A34 c34 s.os :: sm b1 s :: sl entryR A c l :: L) (fun j => s.os.length - j) (0) rfl (Nat.zero_le _) (GivesTo.g) (sub_cons rfl (sub_cons rfl (sub_cons rfl (sub_cons rfl (sub_cons rfl (sub_cons rfl (sub_nil))))))) ?_
    intro j hj
    refine T_seq ?_
    refine T_region ?_
    refine TL_y rfl rfl (Y_move rfl) ?_
    refine TL_y rfl rfl (Y_move rfl) ?_
    refine TL_y rfl rfl (Y_len rfl) ?_
    refine TL_y rfl rfl (Y_lt rfl rfl) ?_
    refine TL_nil ?_
    refine T_if rfl (fun h38 => ?_) (fun h38 => ?_)
    · refine T_skip ?_
      refine thenS_normal ?_
      refine T_seq ?_
      refine T_block ?_
      refine T_seq ?_
      obtain ⟨o, ho⟩ : ∃ o, s.os[j]? = some o := ⟨_, List.getElem?_eq_getElem (by omega)⟩
      have hid := hok.ids j o ho
      have hep := hok.eps j o ho
      have hcn := cntS_at (c := cart) ho
      have hle := cntS_le (s.os.take j) cart
      have hlt : (s.os.take j).length ≤ 65536 := by rw [List.length_take]; omega
      refine T_region ?_
      refine TL_y rfl rfl (Y_move rfl) ?_
      refine TL_y rfl rfl (Y_move rfl) ?_
      refine TL_index_n rfl rfl rfl (rfl) (sln) (ho) ?_
      intro bn43 on43 hA43 hk43
      have hu43 := ho
      refine TL_y rfl rfl (Y_field_addr2 rfl) ?_
      refine TL_y rfl rfl (Y_load_nx rfl hk43 hu43 (fun _ => rfl)) ?_
      refine TL_y rfl rfl (Y_move rfl) ?_
      refine TL_y rfl rfl (Y_str_eq rfl rfl) ?_
      refine TL_nil ?_
      refine T_if rfl (fun h47 => ?_) (fun h47 => ?_)
      · refine T_seq ?_
        refine T_region ?_
        refine TL_y rfl rfl (Y_move rfl) ?_
        refine TL_y rfl rfl (Y_move rfl) ?_
        refine TL_index_n rfl rfl rfl (rfl) (sln) (ho) ?_
        intro bn50 on50 hA50 hk50
        have hu50 := ho
        refine TL_y rfl rfl (Y_field_addr2 rfl) ?_
        refine TL_y rfl rfl (Y_load_nx rfl hk50 hu50 (fun _ => rfl)) ?_
        refine TL_y rfl rfl (Y_move rfl) ?_
        refine TL_y rfl rfl (Y_ne rfl rfl) ?_
        refine TL_name 54 (v' := .bool false) rfl (congrArg Value.bool (decide_eq_false (by rw [hep, h47]; omega))) ?_
        refine TL_nil ?_
        refine T_cond_false rfl ?_
        refine T_skip ?_
        refine thenS_normal ?_
        refine T_region_last ?_
        refine TL_y rfl rfl (Y_move rfl) ?_
        refine TL_y rfl rfl (Y_add rfl rfl (by omega)) ?_
        refine TL_name 56 (v' := .int .i64 (cntS (s.os.take (j + 1)) cart : Int)) rfl (by rw [hcn, if_pos h47]; rfl) ?_
        refine TL_y rfl rfl (Y_assign rfl) ?_
        refine TL_nil ?_
        refine thenS_normal ?_
        refine T_region ?_
        refine TL_y rfl rfl (Y_move rfl) ?_
        refine TL_y rfl rfl (Y_move rfl) ?_
        refine TL_index_n rfl rfl rfl (rfl) (sln) (ho) ?_
        intro bn59 on59 hA59 hk59
        have hu59 := ho
        refine TL_y rfl rfl (Y_field_addr2 rfl) ?_
        refine TL_y rfl rfl (Y_load_nx rfl hk59 hu59 (fun _ => rfl)) ?_
        refine TL_y rfl rfl (Y_move rfl) ?_
        refine TL_y rfl rfl (Y_add rfl rfl (by omega)) ?_
        refine TL_y rfl rfl (Y_ne rfl rfl) ?_
        refine TL_name 64 (v' := .bool false) rfl (congrArg Value.bool (decide_eq_false (by rw [hid]; omega))) ?_
        refine TL_nil ?_
        refine T_cond_false rfl ?_
        refine T_skip ?_
        refine inB_normal ?_
        refine thenS_normal ?_
        refine T_region_last ?_
        refine TL_y rfl rfl (Y_move rfl) ?_
        refine TL_y rfl rfl (Y_add rfl rfl (by omega)) ?_
        refine TL_name 40 (v' := .int .i64 ((j + 1 : Nat) : Int)) rfl (rfl) ?_
        refine TL_y rfl rfl (Y_assign rfl) ?_
        refine TL_nil ?_
        refine thenS_normal ?_
        exact ⟨j + 1, by omega, by omega, holds_to (sub_cons rfl (sub_cons rfl (sub_cons rfl (sub_cons rfl (sub_cons rfl (sub_cons rfl (sub_nil))))))) GivesTo.g⟩
      · refine T_skip ?_
        refine thenS_normal ?_
        refine T_region ?_
        refine TL_y rfl rfl (Y_move rfl) ?_
        refine TL_name 7 (v' := .int .i64 (cntS (s.os.take (j + 1)) cart : Int)) rfl (by rw [hcn, if_neg h47]; rfl) ?_
        refine TL_y rfl rfl (Y_move rfl) ?_
        refine TL_index_n rfl rfl rfl (rfl) (sln) (ho) ?_
        intro bn59 on59 hA59 hk59
        have hu59 := ho
        refine TL_y rfl rfl (Y_field_addr2 rfl) ?_
        refine TL_y rfl rfl (Y_load_nx rfl hk59 hu59 (fun _ => rfl)) ?_
        refine TL_y rfl rfl (Y_move rfl) ?_
        refine TL_y rfl rfl (Y_add rfl rfl (by omega)) ?_
        refine TL_y rfl rfl (Y_ne rfl rfl) ?_
        refine TL_name 64 (v' := .bool false) rfl (congrArg Value.bool (decide_eq_false (by rw [hid]; omega))) ?_
        refine TL_nil ?_
        refine T_cond_false rfl ?_
        refine T_skip ?_
        refine inB_normal ?_
        refine thenS_normal ?_
        refine T_region_last ?_
        refine TL_y rfl rfl (Y_move rfl) ?_
        refine TL_y rfl rfl (Y_add rfl rfl (by omega)) ?_
        refine TL_name 40 (v' := .int .i64 ((j + 1 : Nat) : Int)) rfl (rfl) ?_
        refine TL_y rfl rfl (Y_assign rfl) ?_
        refine TL_nil ?_
        refine thenS_normal ?_
        exact ⟨j + 1, by omega, by omega, holds_to (sub_cons rfl (sub_cons rfl (sub_cons rfl (sub_cons rfl (sub_cons rfl (sub_cons rfl (sub_nil))))))) GivesTo.g⟩
    · refine T_exit ?_
      refine thenS_exit ?_
      refine thenS_exit ?_
      refine inB_hit ?_
      refine thenS_normal ?_
      refine T_region ?_
      refine TL_y rfl rfl (Y_move rfl) ?_
      refine TL_y rfl rfl (Y_move rfl) ?_
      refine TL_y rfl rfl (Y_len rfl) ?_
      refine TL_y rfl rfl (Y_add rfl rfl (by omega)) ?_
      refine TL_pullk b1 ?_
      refine TL_call rfl rfl (sealGet_spec ((s.os.length : Int) + 1) (i64In_mk (by omega))) ?_
      rintro _ _ ⟨A70, c70, rfl, rfl⟩
      refine TL_y rfl rfl (Y_move rfl) ?_
      refine TL_y rfl rfl (Y_extract rfl rfl) ?_
      refine TL_y rfl rfl (Y_extract rfl rfl) ?_
      refine TL_alloc rfl rfl ?_
      intro b10
      refine TL_store rfl rfl rfl rfl rfl rfl ?_
      refine TL_y rfl rfl (Y_assign rfl) ?_
      refine TL_nil ?_
      refine T_region ?_
      refine TL_y rfl rfl (Y_move rfl) ?_
      refine TL_pullk b1 ?_
      refine TL_call rfl rfl (sealGet_spec 0 (by decide)) ?_
      rintro _ _ ⟨A75, c75, rfl, rfl⟩
      refine TL_y rfl rfl (Y_move rfl) ?_
      refine TL_y rfl rfl (Y_extract rfl rfl) ?_
      refine TL_y rfl rfl (Y_extract rfl rfl) ?_
      refine TL_alloc rfl rfl ?_
      intro b12
      refine TL_store rfl rfl rfl rfl rfl rfl ?_
      refine TL_y rfl rfl (Y_assign rfl) ?_
      refine TL_nil ?_
      refine T_region ?_
      refine TL_y rfl rfl (Y_move rfl) ?_
      refine TL_y rfl rfl (Y_move rfl) ?_
      refine TL_pullk b1 ?_
      refine TL_call rfl rfl (sealEpoch_spec cart hc) ?_
      rintro _ _ ⟨rfl, rfl⟩
      refine TL_y rfl rfl (Y_move rfl) ?_
      refine TL_y rfl rfl (Y_eq rfl rfl) ?_
      refine TL_name 82 (v' := .bool true) rfl (congrArg Value.bool (decide_eq_true (by rw [show s.os.take j = s.os from List.take_of_length_le (by omega)]))) ?_
      refine TL_y rfl rfl (Y_move rfl) ?_
      refine TL_grun rfl rfl ?_
      refine TL_y rfl rfl (Y_move rfl) ?_
      refine TL_grun rfl rfl ?_
      refine TL_y rfl rfl (Y_not rfl) ?_
      refine TL_name 85 (v' := .bool true) rfl (congrArg Value.bool (by rw [getS_none (.inr (by omega))]; rfl)) ?_
      refine TL_y rfl rfl (Y_pick_t rfl rfl) ?_
      refine TL_y rfl rfl (Y_move rfl) ?_
      refine TL_grun rfl rfl ?_
      refine TL_y rfl rfl (Y_move rfl) ?_
      refine TL_grun rfl rfl ?_
      refine TL_y rfl rfl (Y_not rfl) ?_
      refine TL_name 89 (v' := .bool true) rfl (congrArg Value.bool (by rw [getS_none (.inl (by omega))]; rfl)) ?_
      refine TL_y rfl rfl (Y_pick_t rfl rfl) ?_
      refine TL_y rfl rfl (Y_move rfl) ?_
      refine TL_grun rfl rfl ?_
      refine TL_y rfl rfl (Y_move rfl) ?_
      refine TL_grun rfl rfl ?_
      refine TL_pullk b1 ?_
      refine TL_call rfl rfl (sealDone_spec) ?_
      rintro _ _ ⟨rfl, rfl⟩
      refine TL_grun rfl rfl ?_
      refine TL_y rfl rfl (Y_move rfl) ?_
      refine TL_grun rfl rfl ?_
      refine TL_y rfl rfl (Y_len rfl) ?_
      refine TL_grun rfl rfl ?_
      refine TL_y rfl rfl (Y_le rfl rfl) ?_
      refine TL_name 96 (v' := .bool true) rfl (congrArg Value.bool (decide_eq_true (by omega))) ?_
      refine TL_y rfl rfl (Y_pick_t rfl rfl) ?_
      refine TL_y rfl rfl (Y_assign rfl) ?_
      refine TL_nil ?_
      refine T_ret ?_
      exact RetG_1 (.inl rfl) rfl (ResV.tmp rfl) GivesTo.g (⟨rfl, rfl⟩)
end Go.SL
