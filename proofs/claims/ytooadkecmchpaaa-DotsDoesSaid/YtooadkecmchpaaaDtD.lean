/- Dots (STR): New, Add, Vector, the iterators. -/
import Derived.Test.YtooadkecmchpaaaDtB
import Derived.Test.YtooadkecmchpaaaDtK
set_option linter.unusedVariables false
set_option linter.unusedSimpArgs false
namespace Go.SL
open Go Go.Proofs
theorem zerosSTR : (List.replicate 7 (0 : Int)) = vecL ([] : List (DotD × tSTR)) := rfl
theorem newSTR_spec (L : List HP) : Fn Try.prog 13 #[] L (fun v L' => ∃ b p, v = .pointer (some ⟨b, 0, none⟩) ∧ L' = dsSTR b p [] :: L) := by
  refine Fn_enter Try.func13 rfl rfl rfl rfl ?_
  refine T_region ?_
  refine TL_y rfl rfl (Y_assign rfl) ?_
  refine TL_nil ?_
  refine T_rd [0, 0, 3, 7, 15] (by kernel_rfl) (by decide +kernel) ?_
  refine RD_pair 0 1 (by decide) ?_ ?_
  · refine RD_leaf _ [0, 1, 3, 7, 15] [] [(0, false), (1, false), (2, true), (3, false), (4, true)] (by decide +kernel) (Gives.refl _) ?_
    refine TF_anchor rfl ?_
    refine TL_make mapOR none (m := 7) (k := 7) rfl rfl rfl (Nat.le_refl _) (by decide) (by decide) rfl rfl rfl (fun _ => rfl) ?_
    intro b3
    refine TL_name 3 (v' := .slice (some ⟨b3, 0, none⟩) 7 7) rfl (rfl) ?_
    refine TF_end GivesTo.g ?_
    refine TF_anchor rfl ?_
    refine TL_make (intR .i64) 0 (m := 7) (k := 7) rfl rfl rfl (Nat.le_refl _) (by decide) (by decide) rfl rfl rfl (fun _ => ⟨rfl, i64In_mk (by decide)⟩) ?_
    intro b4
    refine TL_name 4 (v' := .slice (some ⟨b4, 0, none⟩) 7 7) rfl (rfl) ?_
    refine TF_end GivesTo.g ?_
    refine TF_y rfl rfl (Y_build rfl rfl) ?_
    refine TF_anchor rfl ?_
    refine TL_box rfl rfl rfl ?_
    intro b6
    refine TF_end GivesTo.g ?_
    refine TF_y rfl rfl (Y_assign rfl) ?_
    refine TF_nil ?_
    refine thenS_normal ?_
    refine T_seq ?_
    refine T_region ?_
    refine TL_y rfl rfl (Y_move rfl) ?_
    refine TL_y rfl rfl (Y_nil_check rfl) ?_
    refine TL_y rfl rfl (Y_field_addr rfl) ?_
    refine TL_y rfl rfl (Y_load rfl rfl) ?_
    refine TL_y rfl rfl (Y_len rfl) ?_
    refine TL_y rfl rfl (Y_move rfl) ?_
    refine TL_nil ?_
    refine T_block ?_
    refine T_loopK (σ := List Nat) [1, 11] (fun bts => bts.length ≤ 7) (fun bts kv => (12, .int .i64 (bts.length : Int)) :: kv) (fun bts => cells b6 [.slice (some ⟨b3, 0, none⟩) 7 7, .slice (some ⟨b4, 0, none⟩) 7 7, .int .i64 0] 100 :: osl mapOR 101 (some ⟨b3, 0, none⟩) 7 (bts.map some ++ List.replicate (7 - bts.length) none) :: osl (intR .i64) 3 (some ⟨b4, 0, none⟩) 7 (vecL ([] : List (DotD × tSTR))) :: unS (bts.map fun b => omap intK rSTR false b []) :: L) (fun bts => 7 - bts.length) ([]) rfl (Nat.zero_le _) ((unS_close (L := []) (L' := _)).trans (show Gives _ (cells b6 [.slice (some ⟨b3, 0, none⟩) 7 7, .slice (some ⟨b4, 0, none⟩) 7 7, .int .i64 0] 100 :: osl mapOR 101 (some ⟨b3, 0, none⟩) 7 (List.replicate 7 none) :: osl (intR .i64) 3 (some ⟨b4, 0, none⟩) 7 (List.replicate 7 0) :: unS [] :: L) from GivesTo.g)) (sub_cons rfl (sub_cons rfl (sub_cons rfl (sub_nil)))) ?_
    intro bts hbl
    refine T_region ?_
    refine TL_y rfl rfl (Y_lt rfl rfl) ?_
    refine TL_nil ?_
    refine T_seq ?_
    refine T_if rfl (fun h13 => ?_) (fun h13 => ?_)
    · refine T_skip ?_
      refine thenS_normal ?_
      refine T_seq ?_
      refine T_block ?_
      refine T_region ?_
      refine TL_y rfl rfl (Y_move rfl) ?_
      refine TL_y rfl rfl (Y_assign rfl) ?_
      refine TL_nil ?_
      refine T_region_last ?_
      refine TL_y rfl rfl (Y_move rfl) ?_
      refine TL_y rfl rfl (Y_nil_check rfl) ?_
      refine TL_y rfl rfl (Y_field_addr rfl) ?_
      refine TL_y rfl rfl (Y_load rfl rfl) ?_
      refine TL_y rfl rfl (Y_move rfl) ?_
      refine TL_makeMap intK rSTR false rfl ?_
      intro bm
      have hun : (bts.map some ++ List.replicate (7 - bts.length) none)[bts.length]? = some (none : Option Nat) := by rw [List.getElem?_append_right (by simp)]; simp only [List.length_map, Nat.sub_self]; rw [List.getElem?_replicate, if_pos (by omega)]
      refine TL_index_own rfl rfl rfl (by simp; omega) (hun) ?_
      intro bi21 li21 hA21 hl21
      obtain ⟨lv, rfl⟩ := len_one hl21
      refine TL_store_x rfl rfl rfl rfl rfl rfl ?_
      refine TL_unx (R := mapOR) bi21 (some bm) (Knows.const (mapOR_rep (some bm))) ?_
      refine TL_nil ?_
      refine inB_normal ?_
      refine thenS_normal ?_
      obtain ⟨rfl⟩ : bi21 = b3 := by cases hA21; rfl
      have hset : (bts.map some ++ List.replicate (7 - bts.length) none).set bts.length (some bm) = (bts ++ [bm]).map some ++ List.replicate (7 - (bts ++ [bm]).length) none := by rw [List.set_append_right _ _ (by simp)]; simp only [List.length_map, Nat.sub_self, List.map_append, List.map_cons, List.map_nil, List.length_append, List.length_cons, List.length_nil]; rw [show 7 - bts.length = (7 - (bts.length + 1)) + 1 by omega, List.replicate_succ]; simp
      rw [hset]
      refine T_gives (show Gives _ (omap intK rSTR false bm [] :: unS (bts.map fun b => omap intK rSTR false b []) :: cells b6 [.slice (some ⟨b3, 0, none⟩) 7 7, .slice (some ⟨b4, 0, none⟩) 7 7, .int .i64 0] 100 :: osl mapOR 101 (some ⟨b3, 0, none⟩) 7 ((bts ++ [bm]).map some ++ List.replicate (7 - (bts ++ [bm]).length) none) :: osl (intR .i64) 3 (some ⟨b4, 0, none⟩) 7 (vecL ([] : List (DotD × tSTR))) :: L) from GivesTo.g) ?_
      refine T_gives (unS_snoc (f := fun b => omap intK rSTR false b [])) ?_
      refine T_region_last ?_
      refine TL_y rfl rfl (Y_add rfl rfl (by omega)) ?_
      refine TL_name 22 (v' := .int .i64 ((bts ++ [bm]).length : Int)) rfl (by simp) ?_
      refine TL_y rfl rfl (Y_move rfl) ?_
      refine TL_nil ?_
      refine thenS_normal ?_
      exact ⟨bts ++ [bm], (by simp; omega), (by simp; omega), holds_to (sub_cons rfl (sub_cons rfl (sub_cons rfl (sub_nil)))) GivesTo.g⟩
    · refine T_exit ?_
      refine thenS_exit ?_
      refine thenS_exit ?_
      refine inB_hit ?_
      refine thenS_normal ?_
      refine T_region ?_
      refine TL_y rfl rfl (Y_move rfl) ?_
      refine TL_y rfl rfl (Y_assign rfl) ?_
      refine TL_nil ?_
      refine T_ret ?_
      have h7 : bts.length = 7 := by omega
      have hmaps : (bts.map fun b => omap intK rSTR false b ([] : List (Int × tSTR))) = mapsSTR bts [] := by apply List.ext_getElem?; intro i; by_cases hi : i < 7; (obtain ⟨x, hx⟩ : ∃ x, bts[i]? = some x := ⟨_, List.getElem?_eq_getElem (by omega)⟩; rw [List.getElem?_map, hx, mapsSTR_at hi hx]; rfl); rw [List.getElem?_eq_none (by simp; omega), List.getElem?_eq_none (by rw [mapsSTR_len]; omega)]
      rw [hmaps, show unS (mapsSTR bts []) = allH (mapsSTR bts []) from rfl, show 7 - bts.length = 0 by omega, List.replicate_zero, List.append_nil]
      refine RetQ.gives (dsSTR_close b6 ⟨bts, some ⟨b3, 0, none⟩, 7, some ⟨b4, 0, none⟩, 7⟩ [] DI.nil h7) ?_
      exact RetG_1 (.inl rfl) rfl (ResV.tmp rfl) GivesTo.g (⟨b6, ⟨bts, some ⟨b3, 0, none⟩, 7, some ⟨b4, 0, none⟩, 7⟩, rfl, rfl⟩)
  · refine RD_leaf _ [2, 0, 3, 7, 15] [] [(1, false), (0, false), (2, true), (3, false), (4, true)] (by decide +kernel) (Gives.refl _) ?_
    refine TF_anchor rfl ?_
    refine TL_make (intR .i64) 0 (m := 7) (k := 7) rfl rfl rfl (Nat.le_refl _) (by decide) (by decide) rfl rfl rfl (fun _ => ⟨rfl, i64In_mk (by decide)⟩) ?_
    intro b4
    refine TL_name 4 (v' := .slice (some ⟨b4, 0, none⟩) 7 7) rfl (rfl) ?_
    refine TF_end GivesTo.g ?_
    refine TF_anchor rfl ?_
    refine TL_make mapOR none (m := 7) (k := 7) rfl rfl rfl (Nat.le_refl _) (by decide) (by decide) rfl rfl rfl (fun _ => rfl) ?_
    intro b3
    refine TL_name 3 (v' := .slice (some ⟨b3, 0, none⟩) 7 7) rfl (rfl) ?_
    refine TF_end GivesTo.g ?_
    refine TF_y rfl rfl (Y_build rfl rfl) ?_
    refine TF_anchor rfl ?_
    refine TL_box rfl rfl rfl ?_
    intro b6
    refine TF_end GivesTo.g ?_
    refine TF_y rfl rfl (Y_assign rfl) ?_
    refine TF_nil ?_
    refine thenS_normal ?_
    refine T_seq ?_
    refine T_region ?_
    refine TL_y rfl rfl (Y_move rfl) ?_
    refine TL_y rfl rfl (Y_nil_check rfl) ?_
    refine TL_y rfl rfl (Y_field_addr rfl) ?_
    refine TL_y rfl rfl (Y_load rfl rfl) ?_
    refine TL_y rfl rfl (Y_len rfl) ?_
    refine TL_y rfl rfl (Y_move rfl) ?_
    refine TL_nil ?_
    refine T_block ?_
    refine T_loopK (σ := List Nat) [1, 11] (fun bts => bts.length ≤ 7) (fun bts kv => (12, .int .i64 (bts.length : Int)) :: kv) (fun bts => cells b6 [.slice (some ⟨b3, 0, none⟩) 7 7, .slice (some ⟨b4, 0, none⟩) 7 7, .int .i64 0] 100 :: osl mapOR 101 (some ⟨b3, 0, none⟩) 7 (bts.map some ++ List.replicate (7 - bts.length) none) :: osl (intR .i64) 3 (some ⟨b4, 0, none⟩) 7 (vecL ([] : List (DotD × tSTR))) :: unS (bts.map fun b => omap intK rSTR false b []) :: L) (fun bts => 7 - bts.length) ([]) rfl (Nat.zero_le _) ((unS_close (L := []) (L' := _)).trans (show Gives _ (cells b6 [.slice (some ⟨b3, 0, none⟩) 7 7, .slice (some ⟨b4, 0, none⟩) 7 7, .int .i64 0] 100 :: osl mapOR 101 (some ⟨b3, 0, none⟩) 7 (List.replicate 7 none) :: osl (intR .i64) 3 (some ⟨b4, 0, none⟩) 7 (List.replicate 7 0) :: unS [] :: L) from GivesTo.g)) (sub_cons rfl (sub_cons rfl (sub_cons rfl (sub_nil)))) ?_
    intro bts hbl
    refine T_region ?_
    refine TL_y rfl rfl (Y_lt rfl rfl) ?_
    refine TL_nil ?_
    refine T_seq ?_
    refine T_if rfl (fun h13 => ?_) (fun h13 => ?_)
    · refine T_skip ?_
      refine thenS_normal ?_
      refine T_seq ?_
      refine T_block ?_
      refine T_region ?_
      refine TL_y rfl rfl (Y_move rfl) ?_
      refine TL_y rfl rfl (Y_assign rfl) ?_
      refine TL_nil ?_
      refine T_region_last ?_
      refine TL_y rfl rfl (Y_move rfl) ?_
      refine TL_y rfl rfl (Y_nil_check rfl) ?_
      refine TL_y rfl rfl (Y_field_addr rfl) ?_
      refine TL_y rfl rfl (Y_load rfl rfl) ?_
      refine TL_y rfl rfl (Y_move rfl) ?_
      refine TL_makeMap intK rSTR false rfl ?_
      intro bm
      have hun : (bts.map some ++ List.replicate (7 - bts.length) none)[bts.length]? = some (none : Option Nat) := by rw [List.getElem?_append_right (by simp)]; simp only [List.length_map, Nat.sub_self]; rw [List.getElem?_replicate, if_pos (by omega)]
      refine TL_index_own rfl rfl rfl (by simp; omega) (hun) ?_
      intro bi21 li21 hA21 hl21
      obtain ⟨lv, rfl⟩ := len_one hl21
      refine TL_store_x rfl rfl rfl rfl rfl rfl ?_
      refine TL_unx (R := mapOR) bi21 (some bm) (Knows.const (mapOR_rep (some bm))) ?_
      refine TL_nil ?_
      refine inB_normal ?_
      refine thenS_normal ?_
      obtain ⟨rfl⟩ : bi21 = b3 := by cases hA21; rfl
      have hset : (bts.map some ++ List.replicate (7 - bts.length) none).set bts.length (some bm) = (bts ++ [bm]).map some ++ List.replicate (7 - (bts ++ [bm]).length) none := by rw [List.set_append_right _ _ (by simp)]; simp only [List.length_map, Nat.sub_self, List.map_append, List.map_cons, List.map_nil, List.length_append, List.length_cons, List.length_nil]; rw [show 7 - bts.length = (7 - (bts.length + 1)) + 1 by omega, List.replicate_succ]; simp
      rw [hset]
      refine T_gives (show Gives _ (omap intK rSTR false bm [] :: unS (bts.map fun b => omap intK rSTR false b []) :: cells b6 [.slice (some ⟨b3, 0, none⟩) 7 7, .slice (some ⟨b4, 0, none⟩) 7 7, .int .i64 0] 100 :: osl mapOR 101 (some ⟨b3, 0, none⟩) 7 ((bts ++ [bm]).map some ++ List.replicate (7 - (bts ++ [bm]).length) none) :: osl (intR .i64) 3 (some ⟨b4, 0, none⟩) 7 (vecL ([] : List (DotD × tSTR))) :: L) from GivesTo.g) ?_
      refine T_gives (unS_snoc (f := fun b => omap intK rSTR false b [])) ?_
      refine T_region_last ?_
      refine TL_y rfl rfl (Y_add rfl rfl (by omega)) ?_
      refine TL_name 22 (v' := .int .i64 ((bts ++ [bm]).length : Int)) rfl (by simp) ?_
      refine TL_y rfl rfl (Y_move rfl) ?_
      refine TL_nil ?_
      refine thenS_normal ?_
      exact ⟨bts ++ [bm], (by simp; omega), (by simp; omega), holds_to (sub_cons rfl (sub_cons rfl (sub_cons rfl (sub_nil)))) GivesTo.g⟩
    · refine T_exit ?_
      refine thenS_exit ?_
      refine thenS_exit ?_
      refine inB_hit ?_
      refine thenS_normal ?_
      refine T_region ?_
      refine TL_y rfl rfl (Y_move rfl) ?_
      refine TL_y rfl rfl (Y_assign rfl) ?_
      refine TL_nil ?_
      refine T_ret ?_
      have h7 : bts.length = 7 := by omega
      have hmaps : (bts.map fun b => omap intK rSTR false b ([] : List (Int × tSTR))) = mapsSTR bts [] := by apply List.ext_getElem?; intro i; by_cases hi : i < 7; (obtain ⟨x, hx⟩ : ∃ x, bts[i]? = some x := ⟨_, List.getElem?_eq_getElem (by omega)⟩; rw [List.getElem?_map, hx, mapsSTR_at hi hx]; rfl); rw [List.getElem?_eq_none (by simp; omega), List.getElem?_eq_none (by rw [mapsSTR_len]; omega)]
      rw [hmaps, show unS (mapsSTR bts []) = allH (mapsSTR bts []) from rfl, show 7 - bts.length = 0 by omega, List.replicate_zero, List.append_nil]
      refine RetQ.gives (dsSTR_close b6 ⟨bts, some ⟨b3, 0, none⟩, 7, some ⟨b4, 0, none⟩, 7⟩ [] DI.nil h7) ?_
      exact RetG_1 (.inl rfl) rfl (ResV.tmp rfl) GivesTo.g (⟨b6, ⟨bts, some ⟨b3, 0, none⟩, 7, some ⟨b4, 0, none⟩, 7⟩, rfl, rfl⟩)
end Go.SL
