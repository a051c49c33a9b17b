/- Codec: the document's reader of texts; what must come of every program. -/
import Derived.Test.YtiiejjdkhekhmaaCodF
set_option linter.unusedVariables false
set_option linter.unusedSimpArgs false
namespace Go.SL
open Go Go.Proofs

theorem refReadText_spec {L : List HP} {A : Option Addr} {c : Nat} {bs : List Int} (hk : SlK L (intR .u8) A c bs) (most : Int) (hm : intIn .i64 most) : Fn Try.prog 22 #[.slice A bs.length c, .int .i64 most] L (fun v L' => (∃ (s : ByteArray) (n e : Nat), v = .tuple #[.string s, .int .i64 (n : Int), .int .i64 (e : Int)] ∧ RdT bs most s n e) ∧ L' = L) := by
  have hm := i64In hm
  refine Fn_enter Try.func22 rfl rfl rfl rfl ?_
  refine hk.lens fun hl => ?_
  refine T_fact hk.all_int (fun _ h => h) fun hall => ?_
  simp only [maxEl] at hl
  refine T_region ?_
  refine TL_y rfl rfl (Y_assign rfl) ?_
  refine TL_y rfl rfl (Y_assign rfl) ?_
  refine TL_y rfl rfl (Y_assign rfl) ?_
  refine TL_nil ?_
  refine T_region ?_
  refine TL_y rfl rfl (Y_move rfl) ?_
  refine TL_call rfl rfl (refReadUint_spec hk) ?_
  rintro _ _ ⟨⟨n, k, e, rfl, hr⟩, rfl⟩
  have he := rdU_e hr
  refine TL_y rfl rfl (Y_move rfl) ?_
  refine TL_y rfl rfl (Y_extract rfl rfl) ?_
  refine TL_y rfl rfl (Y_extract rfl rfl) ?_
  refine TL_y rfl rfl (Y_extract rfl rfl) ?_
  refine TL_y rfl rfl (Y_assign rfl) ?_
  refine TL_y rfl rfl (Y_assign rfl) ?_
  refine TL_y rfl rfl (Y_assign rfl) ?_
  refine TL_nil ?_
  refine T_seq ?_
  refine T_region ?_
  refine TL_y rfl rfl (Y_move rfl) ?_
  refine TL_y rfl rfl (Y_ne rfl rfl) ?_
  refine TL_y rfl rfl (Y_move rfl) ?_
  refine TL_splitd 18 rfl (fun h18 => ?_) (fun h18 => ?_)
  · refine TL_gskip rfl rfl rfl rfl ?_
    refine TL_gskip rfl rfl rfl rfl ?_
    refine TL_y rfl rfl (Y_pick_t rfl rfl) ?_
    refine TL_y rfl rfl (Y_move rfl) ?_
    refine TL_gskip rfl rfl rfl rfl ?_
    refine TL_gskip rfl rfl rfl rfl ?_
    refine TL_gskip rfl rfl rfl rfl ?_
    refine TL_gskip rfl rfl rfl rfl ?_
    refine TL_y rfl rfl (Y_pick_t rfl rfl) ?_
    refine TL_y rfl rfl (Y_move rfl) ?_
    refine TL_gskip rfl rfl rfl rfl ?_
    refine TL_gskip rfl rfl rfl rfl ?_
    refine TL_gskip rfl rfl rfl rfl ?_
    refine TL_gskip rfl rfl rfl rfl ?_
    refine TL_gskip rfl rfl rfl rfl ?_
    refine TL_gskip rfl rfl rfl rfl ?_
    refine TL_gskip rfl rfl rfl rfl ?_
    refine TL_y rfl rfl (Y_pick_t rfl rfl) ?_
    refine TL_nil ?_
    refine T_cond_true rfl ?_
    refine T_region ?_
    refine TL_y rfl rfl (Y_assign rfl) ?_
    refine TL_y rfl rfl (Y_assign rfl) ?_
    refine TL_y rfl rfl (Y_assign rfl) ?_
    refine TL_nil ?_
    refine T_ret ?_
    refine thenS_ret ?_
    exact RetG_3 (.inl rfl) rfl (ResV.tmp rfl) (ResV.tmp rfl) (ResV.tmp rfl) GivesTo.g (⟨⟨⟨#[]⟩, 0, 10, rfl, by rcases he with ⟨rfl, _⟩ | ⟨rfl, _⟩; exact rdT_bad hm.2 hr (by omega); exact rdT_none hm.2 hr⟩, rfl⟩)
  · refine TL_grun rfl rfl ?_
    refine TL_y rfl rfl (Y_move rfl) ?_
    refine TL_grun rfl rfl ?_
    refine TL_y rfl rfl (Y_lt rfl rfl) ?_
    refine TL_y rfl rfl (Y_pick_f rfl rfl) ?_
    refine TL_y rfl rfl (Y_move rfl) ?_
    refine TL_splitd 22 rfl (fun h22 => ?_) (fun h22 => ?_)
    · refine TL_gskip rfl rfl rfl rfl ?_
      refine TL_gskip rfl rfl rfl rfl ?_
      refine TL_gskip rfl rfl rfl rfl ?_
      refine TL_gskip rfl rfl rfl rfl ?_
      refine TL_y rfl rfl (Y_pick_t rfl rfl) ?_
      refine TL_y rfl rfl (Y_move rfl) ?_
      refine TL_gskip rfl rfl rfl rfl ?_
      refine TL_gskip rfl rfl rfl rfl ?_
      refine TL_gskip rfl rfl rfl rfl ?_
      refine TL_gskip rfl rfl rfl rfl ?_
      refine TL_gskip rfl rfl rfl rfl ?_
      refine TL_gskip rfl rfl rfl rfl ?_
      refine TL_gskip rfl rfl rfl rfl ?_
      refine TL_y rfl rfl (Y_pick_t rfl rfl) ?_
      refine TL_nil ?_
      refine T_cond_true rfl ?_
      refine T_region ?_
      refine TL_y rfl rfl (Y_assign rfl) ?_
      refine TL_y rfl rfl (Y_assign rfl) ?_
      refine TL_y rfl rfl (Y_assign rfl) ?_
      refine TL_nil ?_
      refine T_ret ?_
      refine thenS_ret ?_
      exact RetG_3 (.inl rfl) rfl (ResV.tmp rfl) (ResV.tmp rfl) (ResV.tmp rfl) GivesTo.g (⟨⟨⟨#[]⟩, 0, 10, rfl, by rcases he with ⟨rfl, _⟩ | ⟨rfl, _⟩; exact rdT_bad hm.2 hr (by omega); exact rdT_none hm.2 hr⟩, rfl⟩)
    · refine TL_grun rfl rfl ?_
      refine TL_y rfl rfl (Y_move rfl) ?_
      refine TL_grun rfl rfl ?_
      refine TL_y rfl rfl (Y_move rfl) ?_
      refine TL_grun rfl rfl ?_
      refine TL_y rfl rfl (Y_conv rfl) ?_
      refine TL_name 25 (v' := .int .u64 most) rfl (by rw [show most = ((most.toNat : Nat) : Int) by omega, u64_small (by omega)]) ?_
      refine TL_grun rfl rfl ?_
      refine TL_y rfl rfl (Y_gt rfl rfl) ?_
      refine TL_y rfl rfl (Y_pick_f rfl rfl) ?_
      refine TL_y rfl rfl (Y_move rfl) ?_
      refine TL_splitd 28 rfl (fun h28 => ?_) (fun h28 => ?_)
      · refine TL_gskip rfl rfl rfl rfl ?_
        refine TL_gskip rfl rfl rfl rfl ?_
        refine TL_gskip rfl rfl rfl rfl ?_
        refine TL_gskip rfl rfl rfl rfl ?_
        refine TL_gskip rfl rfl rfl rfl ?_
        refine TL_gskip rfl rfl rfl rfl ?_
        refine TL_gskip rfl rfl rfl rfl ?_
        refine TL_y rfl rfl (Y_pick_t rfl rfl) ?_
        refine TL_nil ?_
        refine T_cond_true rfl ?_
        refine T_region ?_
        refine TL_y rfl rfl (Y_assign rfl) ?_
        refine TL_y rfl rfl (Y_assign rfl) ?_
        refine TL_y rfl rfl (Y_assign rfl) ?_
        refine TL_nil ?_
        refine T_ret ?_
        refine thenS_ret ?_
        exact RetG_3 (.inl rfl) rfl (ResV.tmp rfl) (ResV.tmp rfl) (ResV.tmp rfl) GivesTo.g (⟨⟨⟨#[]⟩, 0, 10, rfl, by rcases he with ⟨rfl, _⟩ | ⟨rfl, _⟩; exact rdT_bad hm.2 hr (by omega); exact rdT_none hm.2 hr⟩, rfl⟩)
      · refine TL_grun rfl rfl ?_
        refine TL_y rfl rfl (Y_move rfl) ?_
        refine TL_grun rfl rfl ?_
        refine TL_y rfl rfl (Y_move rfl) ?_
        refine TL_grun rfl rfl ?_
        refine TL_y rfl rfl (Y_len rfl) ?_
        refine TL_grun rfl rfl ?_
        refine TL_y rfl rfl (Y_move rfl) ?_
        refine TL_grun rfl rfl ?_
        refine TL_y rfl rfl (Y_sub rfl rfl (by omega)) ?_
        refine TL_name 33 (v' := .int .i64 ((bs.length - k : Nat) : Int)) rfl (by congr 1; omega) ?_
        refine TL_grun rfl rfl ?_
        refine TL_y rfl rfl (Y_conv rfl) ?_
        refine TL_name 34 (v' := .int .u64 ((bs.length - k : Nat) : Int)) rfl (by rw [u64_small (by omega)]) ?_
        refine TL_grun rfl rfl ?_
        refine TL_y rfl rfl (Y_gt rfl rfl) ?_
        refine TL_y rfl rfl (Y_pick_f rfl rfl) ?_
        refine TL_nil ?_
        refine T_if rfl (fun h36 => ?_) (fun h36 => ?_)
        · refine T_region ?_
          refine TL_y rfl rfl (Y_assign rfl) ?_
          refine TL_y rfl rfl (Y_assign rfl) ?_
          refine TL_y rfl rfl (Y_assign rfl) ?_
          refine TL_nil ?_
          refine T_ret ?_
          refine thenS_ret ?_
          exact RetG_3 (.inl rfl) rfl (ResV.tmp rfl) (ResV.tmp rfl) (ResV.tmp rfl) GivesTo.g (⟨⟨⟨#[]⟩, 0, 10, rfl, by rcases he with ⟨rfl, _⟩ | ⟨rfl, _⟩; exact rdT_bad hm.2 hr (by omega); exact rdT_none hm.2 hr⟩, rfl⟩)
        · refine T_skip ?_
          refine thenS_normal ?_
          refine T_region ?_
          have he0 : e = 0 := by omega
          subst he0
          refine TL_y rfl rfl (Y_move rfl) ?_
          refine TL_y rfl rfl (Y_move rfl) ?_
          refine TL_y rfl rfl (Y_move rfl) ?_
          refine TL_y rfl rfl (Y_move rfl) ?_
          refine TL_y rfl rfl (Y_conv rfl) ?_
          refine TL_name 41 (v' := .int .i64 (n : Int)) rfl (by rw [IntWalk.i64_in _ (by omega)]) ?_
          refine TL_y rfl rfl (Y_add rfl rfl (by omega)) ?_
          refine TL_name 42 (v' := .int .i64 ((k + n : Nat) : Int)) rfl (rfl) ?_
          refine TL_y rfl rfl (Y_cut_lh rfl rfl rfl (by omega)) ?_
          refine TL_name 43 (v' := .slice (cutA A k c 1) ((bs.take (k + n)).drop k).length (c - k)) rfl (by simp; omega) ?_
          refine TL_y rfl rfl (Y_bytes_str rfl (hk.cut k (k + n) c (by omega) (by omega) (by omega))) ?_
          refine TL_y rfl rfl (Y_move rfl) ?_
          refine TL_y rfl rfl (Y_move rfl) ?_
          refine TL_y rfl rfl (Y_conv rfl) ?_
          refine TL_name 47 (v' := .int .i64 (n : Int)) rfl (by rw [IntWalk.i64_in _ (by omega)]) ?_
          refine TL_y rfl rfl (Y_add rfl rfl (by omega)) ?_
          refine TL_name 48 (v' := .int .i64 ((k + n : Nat) : Int)) rfl (rfl) ?_
          refine TL_y rfl rfl (Y_assign rfl) ?_
          refine TL_y rfl rfl (Y_assign rfl) ?_
          refine TL_y rfl rfl (Y_assign rfl) ?_
          refine TL_nil ?_
          refine T_ret ?_
          exact RetG_3 (.inl rfl) rfl (ResV.tmp rfl) (ResV.tmp rfl) (ResV.tmp rfl) GivesTo.g (⟨⟨strOfNums ((bs.take (k + n)).drop k), k + n, 0, rfl, rdT_done hr (u8_all hall) (by omega) (by omega)⟩, rfl⟩)

theorem grp300 : grp 300 = [172, 2] := by rw [grp_big (by decide), grp_small (by decide)]; rfl
theorem txt_ab : [7] ++ txt ⟨#[97, 98]⟩ = [7, 2, 97, 98] := by
  unfold txt
  rw [show (⟨#[97, 98]⟩ : ByteArray).size = 2 from rfl, grp_small (by decide)]
  rfl
theorem lives01_spec (L : List HP) : Fn Try.prog 18 #[] L (fun v L' => v = .bool true ∧ L' = L) := by
  refine Fn_enter Try.func18 rfl rfl rfl rfl ?_
  refine T_region ?_
  refine TL_y rfl rfl (Y_assign rfl) ?_
  refine TL_nil ?_
  refine T_region ?_
  refine TL_build_slice rfl rfl rfl rfl rfl rfl ?_
  intro b9
  refine TL_osl (k := 3) (intR .u8) [172, 2, 9] (Knows.const fun M => cells_ints (k := .u8) (xs := [172, 2, 9]) (by decide) M) rfl (by decide) ?_
  refine TL_freeze_osl ?_
  refine TL_name 9 (v' := .slice (some ⟨b9, 0, none⟩) ([172, 2, 9] : List Int).length 3) rfl rfl ?_
  refine TL_call rfl rfl (readUint_spec (bs := [172, 2, 9]) slk) ?_
  rintro _ _ ⟨⟨x, n, e, rfl, hr⟩, rfl⟩
  obtain ⟨rfl, rfl, rfl⟩ : x = 300 ∧ n = 2 ∧ e = 0 := rdU_unique hr (by have := rdU_of_grp (x := 300) (by decide) [9]; rw [grp300] at this; exact this)
  refine TL_y rfl rfl (Y_move rfl) ?_
  refine TL_y rfl rfl (Y_extract rfl rfl) ?_
  refine TL_y rfl rfl (Y_extract rfl rfl) ?_
  refine TL_y rfl rfl (Y_extract rfl rfl) ?_
  refine TL_y rfl rfl (Y_assign rfl) ?_
  refine TL_y rfl rfl (Y_assign rfl) ?_
  refine TL_y rfl rfl (Y_assign rfl) ?_
  refine TL_nil ?_
  refine T_region ?_
  refine TL_build_slice rfl rfl rfl rfl rfl rfl ?_
  intro b15
  refine TL_osl (k := 2) (intR .u8) [128, 0] (Knows.const fun M => cells_ints (k := .u8) (xs := [128, 0]) (by decide) M) rfl (by decide) ?_
  refine TL_freeze_osl ?_
  refine TL_name 15 (v' := .slice (some ⟨b15, 0, none⟩) ([128, 0] : List Int).length 2) rfl rfl ?_
  refine TL_call rfl rfl (readUint_spec (bs := [128, 0]) slk) ?_
  rintro _ _ ⟨⟨x, n, e, rfl, hr2⟩, rfl⟩
  obtain ⟨rfl, rfl, rfl⟩ : x = 0 ∧ n = 0 ∧ e = 10 := rdU_unique hr2 (rdU_zero (i := 1) (by simp [High]) rfl (by decide))
  refine TL_y rfl rfl (Y_move rfl) ?_
  refine TL_y rfl rfl (Y_extract rfl rfl) ?_
  refine TL_y rfl rfl (Y_extract rfl rfl) ?_
  refine TL_y rfl rfl (Y_extract rfl rfl) ?_
  refine TL_y rfl rfl (Y_assign rfl) ?_
  refine TL_y rfl rfl (Y_assign rfl) ?_
  refine TL_y rfl rfl (Y_assign rfl) ?_
  refine TL_nil ?_
  refine T_region ?_
  refine TL_build_slice rfl rfl rfl rfl rfl rfl ?_
  intro b20
  refine TL_osl (k := 1) (intR .u8) [7] (Knows.const fun M => cells_ints (k := .u8) (xs := [7]) (by decide) M) rfl (by decide) ?_
  refine TL_freeze_osl ?_
  refine TL_name 20 (v' := .slice (some ⟨b20, 0, none⟩) ([7] : List Int).length 1) rfl rfl ?_
  refine TL_call rfl rfl (text_spec (xs := [7]) slk ⟨#[97, 98]⟩ (by decide)) ?_
  rintro _ _ ⟨A21, c21, rfl, rfl⟩
  refine TL_freeze_osl ?_
  rw [txt_ab]
  refine TL_y rfl rfl (Y_assign rfl) ?_
  refine TL_nil ?_
  refine T_region ?_
  refine TL_y rfl rfl (Y_move rfl) ?_
  refine TL_y rfl rfl (Y_eq rfl rfl) ?_
  refine TL_name 23 (v' := .bool true) rfl (congrArg Value.bool (by decide)) ?_
  refine TL_y rfl rfl (Y_move rfl) ?_
  refine TL_grun rfl rfl ?_
  refine TL_y rfl rfl (Y_move rfl) ?_
  refine TL_grun rfl rfl ?_
  refine TL_y rfl rfl (Y_eq rfl rfl) ?_
  refine TL_name 26 (v' := .bool true) rfl (congrArg Value.bool (by decide)) ?_
  refine TL_y rfl rfl (Y_pick_t rfl rfl) ?_
  refine TL_y rfl rfl (Y_move rfl) ?_
  refine TL_grun rfl rfl ?_
  refine TL_y rfl rfl (Y_move rfl) ?_
  refine TL_grun rfl rfl ?_
  refine TL_y rfl rfl (Y_eq rfl rfl) ?_
  refine TL_name 30 (v' := .bool true) rfl (congrArg Value.bool (by decide)) ?_
  refine TL_y rfl rfl (Y_pick_t rfl rfl) ?_
  refine TL_y rfl rfl (Y_move rfl) ?_
  refine TL_grun rfl rfl ?_
  refine TL_y rfl rfl (Y_move rfl) ?_
  refine TL_grun rfl rfl ?_
  refine TL_y rfl rfl (Y_eq rfl rfl) ?_
  refine TL_name 34 (v' := .bool true) rfl (congrArg Value.bool (by decide)) ?_
  refine TL_y rfl rfl (Y_pick_t rfl rfl) ?_
  refine TL_y rfl rfl (Y_move rfl) ?_
  refine TL_grun rfl rfl ?_
  refine TL_y rfl rfl (Y_move rfl) ?_
  refine TL_grun rfl rfl ?_
  refine TL_y rfl rfl (Y_bytes_str rfl slk) ?_
  refine TL_grun rfl rfl ?_
  refine TL_y rfl rfl (Y_str_eq rfl rfl) ?_
  refine TL_name 39 (v' := .bool true) rfl (congrArg Value.bool (by decide)) ?_
  refine TL_y rfl rfl (Y_pick_t rfl rfl) ?_
  refine TL_y rfl rfl (Y_move rfl) ?_
  refine TL_grun rfl rfl ?_
  refine TL_call rfl rfl (name_spec _ _ (by decide)) ?_
  rintro _ _ ⟨rfl, rfl⟩
  refine TL_name 42 (v' := .bool true) rfl (congrArg Value.bool (by decide)) ?_
  refine TL_y rfl rfl (Y_pick_t rfl rfl) ?_
  refine TL_y rfl rfl (Y_move rfl) ?_
  refine TL_grun rfl rfl ?_
  refine TL_call rfl rfl (name_spec _ _ (by decide)) ?_
  rintro _ _ ⟨rfl, rfl⟩
  refine TL_name 45 (v' := .bool false) rfl (congrArg Value.bool (by decide)) ?_
  refine TL_grun rfl rfl ?_
  refine TL_y rfl rfl (Y_not_f rfl) ?_
  refine TL_y rfl rfl (Y_pick_t rfl rfl) ?_
  refine TL_y rfl rfl (Y_assign rfl) ?_
  refine TL_nil ?_
  refine T_ret ?_
  exact RetG_1 (.inl rfl) rfl (ResV.tmp rfl) GivesTo.g (⟨rfl, rfl⟩)
end Go.SL
