/- Net: the packet at a place. -/
import Derived.Test.YtfmkfpgplpfkhaaNetE
import Derived.Test.YtfmkfpgplpfkhaaSlU
set_option linter.unusedVariables false
set_option linter.unusedSimpArgs false
namespace Go.SL
open Go Go.Proofs
def atS (s : NS) (place : Int) : Int × Bool := match s.L[(place % (s.L.length : Int)).toNat]? with
  | some p => (p.id, true)
  | none => (0, false)
theorem netAt_spec {L : List HP} {b : Nat} {s : NS} (place : Int) (hp : intIn .i64 place) : Fn Try.prog 18 #[.pointer (some ⟨b, 0, none⟩), .int .i64 place] (nt b s :: L) (fun v L' => v = .tuple #[.int .i64 (atS s place).1, .bool (atS s place).2] ∧ L' = nt b s :: L) := by
  have hp := i64In hp
  refine Fn_enter Try.func18 rfl rfl rfl rfl ?_
  refine T_region ?_
  refine TL_y rfl rfl (Y_assign rfl) ?_
  refine TL_y rfl rfl (Y_assign rfl) ?_
  refine TL_nil ?_
  refine T_region ?_
  refine TL_y rfl rfl (Y_move rfl) ?_
  refine TL_pullk b ?_
  refine TL_call rfl rfl (netIds_spec) ?_
  rintro _ _ ⟨A8, c8, rfl, rfl⟩
  refine TL_freeze_osl ?_
  refine TL_y rfl rfl (Y_assign rfl) ?_
  refine TL_nil ?_
  refine T_seq ?_
  refine T_region ?_
  refine TL_y rfl rfl (Y_move rfl) ?_
  refine TL_y rfl rfl (Y_len rfl) ?_
  refine TL_name 10 (v' := .int .i64 (s.L.length : Int)) rfl (by simp) ?_
  refine TL_y rfl rfl (Y_eq rfl rfl) ?_
  refine TL_nil ?_
  refine T_if rfl (fun h11 => ?_) (fun h11 => ?_)
  · refine T_region ?_
    refine TL_y rfl rfl (Y_assign rfl) ?_
    refine TL_y rfl rfl (Y_assign rfl) ?_
    refine TL_nil ?_
    refine T_ret ?_
    refine thenS_ret ?_
    have he : s.L = [] := List.eq_nil_of_length_eq_zero (by omega)
    exact RetG_2 (.inl rfl) rfl (ResV.tmp rfl) (ResV.tmp rfl) GivesTo.g (⟨by simp [atS, he], rfl⟩)
  · refine T_skip ?_
    refine thenS_normal ?_
    refine T_pullk b ?_
    refine T_nt fun bt hni => ?_
    refine T_gives (nt_close b s hni) ?_
    have hlen := hni.len
    have hpos : (0 : Int) < (s.L.length : Int) := by omega
    have htm := tm_bound place hpos
    have hid := at_idx place hpos
    have e1 := Int.emod_nonneg place (by omega : (s.L.length : Int) ≠ 0)
    have e2 := Int.emod_lt_of_pos place hpos
    refine T_region ?_
    refine TL_y rfl rfl (Y_move rfl) ?_
    refine TL_y rfl rfl (Y_move rfl) ?_
    refine TL_y rfl rfl (Y_move rfl) ?_
    refine TL_y rfl rfl (Y_len rfl) ?_
    refine TL_name 15 (v' := .int .i64 (s.L.length : Int)) rfl (by simp) ?_
    refine TL_y rfl rfl (Y_rem rfl rfl (by omega)) ?_
    refine TL_y rfl rfl (Y_move rfl) ?_
    refine TL_y rfl rfl (Y_len rfl) ?_
    refine TL_name 18 (v' := .int .i64 (s.L.length : Int)) rfl (by simp) ?_
    refine TL_y rfl rfl (Y_add rfl rfl (by omega)) ?_
    refine TL_y rfl rfl (Y_move rfl) ?_
    refine TL_y rfl rfl (Y_len rfl) ?_
    refine TL_name 21 (v' := .int .i64 (s.L.length : Int)) rfl (by simp) ?_
    refine TL_y rfl rfl (Y_rem rfl rfl (by omega)) ?_
    refine TL_name 22 (v' := .int .i64 (((place % (s.L.length : Int)).toNat : Nat) : Int)) rfl (by rw [hid]; congr 1; omega) ?_
    obtain ⟨p, hq⟩ : ∃ p, s.L[(place % (s.L.length : Int)).toNat]? = some p := ⟨_, List.getElem?_eq_getElem (by omega)⟩
    have hu : (idsN s)[(place % (s.L.length : Int)).toNat]? = some p.id := by simp [hq]
    refine TL_index_int rfl rfl rfl slk hu ?_
    intro hi23 bi23 oi23
    refine TL_y rfl rfl (Y_load_row rfl rfl) ?_
    refine TL_y rfl rfl (Y_assign rfl) ?_
    refine TL_y rfl rfl (Y_assign rfl) ?_
    refine TL_nil ?_
    refine T_ret ?_
    exact RetG_2 (.inl rfl) rfl (ResV.tmp rfl) (ResV.tmp rfl) GivesTo.g (⟨by simp [atS, hq], rfl⟩)
end Go.SL
