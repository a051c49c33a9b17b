/- Codec: numbers as bytes, what they are and what the code makes of them. -/
import Derived.Test.YtibejpgjgkeheaaSlT
import Derived.Test.YtibejpgjgkeheaaSlH
set_option linter.unusedVariables false
set_option linter.unusedSimpArgs false
namespace Go.SL
open Go Go.Proofs

instance (k : IntKind) (x : Int) : Decidable (intIn k x) := by unfold intIn; exact inferInstance
theorem drop_at {α : Type} {l : List α} {i : Nat} {s : α} (h : l[i]? = some s) : l.drop i = s :: l.drop (i + 1) := by
  have hlt := (List.getElem?_eq_some_iff.1 h).1
  rw [List.drop_eq_getElem_cons hlt]
  congr 1
  exact (List.getElem?_eq_some_iff.1 h).2
theorem take_at {α : Type} {l : List α} {i : Nat} {s : α} (h : l[i]? = some s) : l.take (i + 1) = l.take i ++ [s] := by rw [List.take_add_one, h]; rfl
/-! ### Plain -/
/-- A number's bytes. -/
def grp (x : Nat) : List Int := if x < 128 then [(x : Int)] else ((x % 128 : Nat) + 128 : Int) :: grp (x / 128)
  termination_by x
  decreasing_by omega
theorem grp_small {x : Nat} (h : x < 128) : grp x = [(x : Int)] := by rw [grp, if_pos h]
theorem grp_big {x : Nat} (h : ¬ x < 128) : grp x = ((x % 128 : Nat) + 128 : Int) :: grp (x / 128) := by rw [grp, if_neg h]
theorem grp_pos (x : Nat) : 0 < (grp x).length := by
  rw [grp]; split <;> simp
theorem grp_len : ∀ (k x : Nat), x < 128 ^ (k + 1) → (grp x).length ≤ k + 1
  | 0, x, h => by rw [grp_small (by simpa using h)]; simp
  | k + 1, x, h => by
    by_cases hx : x < 128
    · rw [grp_small hx]; simp
    · rw [grp_big hx]
      have := grp_len k (x / 128) (by rw [Nat.pow_succ] at h; omega)
      simp; omega
theorem grp_ten {x : Nat} (h : x < 18446744073709551616) : (grp x).length ≤ 10 := grp_len 9 x (Nat.lt_of_lt_of_le h (by decide))
theorem u8_or : ∀ m : Fin 256, bitsOf .or .u8 (m.val : Int) 128 = ((m.val % 128 : Nat) : Int) + 128 := by decide +kernel
theorem u8_wrap (x : Nat) : IntKind.u8.wrap (x : Int) = ((x % 256 : Nat) : Int) := by
  simp [IntKind.wrap, IntKind.bits, IntKind.signed]
theorem u8_or_wrap (x : Nat) : bitsOf .or .u8 (IntKind.u8.wrap (x : Int)) 128 = ((x % 128 : Nat) : Int) + 128 := by
  rw [u8_wrap]
  have := u8_or ⟨x % 256, Nat.mod_lt _ (by decide)⟩
  simp only at this
  rw [this]
  omega
theorem shr7 (x : Nat) : (x : Int).fdiv (2 ^ min (7 : Int).toNat IntKind.u64.bits) = ((x / 128 : Nat) : Int) := by
  have : (2 : Int) ^ min (7 : Int).toNat IntKind.u64.bits = 128 := by decide
  rw [this, Int.fdiv_eq_ediv_of_nonneg _ (by decide)]
  omega
/-- What a byte list in the making looks like. -/
structure GrpSt where
  y : Nat
  out : List Int
  A : Option Addr
  c : Nat
def GrpI (x : Nat) (g : GrpSt) : Prop := g.y < 18446744073709551616 ∧ g.out ++ grp g.y = grp x ∧ x < 18446744073709551616
theorem GrpI.len {x : Nat} {g : GrpSt} (h : GrpI x g) : g.out.length < 10 := by
  have := congrArg List.length h.2.1
  have h1 := grp_ten h.2.2
  have := grp_pos g.y
  simp at *
  omega
theorem GrpI.next {x : Nat} {g : GrpSt} (h : GrpI x g) (hy : ¬ g.y < 128) (A : Option Addr) (c : Nat) : GrpI x ⟨g.y / 128, g.out ++ [((g.y % 128 : Nat) : Int) + 128], A, c⟩ := by
  refine ⟨by have := h.1; simp only; omega, ?_, h.2.2⟩
  rw [← h.2.1, grp_big hy]
  simp
theorem byteIn {x : Nat} : intIn .u8 (((x % 128 : Nat) : Int) + 128) := u8In_mk (by omega)

/-! ### group -/
theorem group_spec (x : Nat) (hx : x < 18446744073709551616) (L : List HP) : Fn Try.prog 172 #[.int .u64 (x : Int)] L (fun v L' => ∃ A c, v = .slice A (grp x).length c ∧ L' = osl (intR .u8) 5 A c (grp x) :: L) := by
  refine Fn_enter Try.func172 rfl rfl rfl rfl ?_
  refine T_region ?_
  refine TL_y rfl rfl (Y_assign rfl) ?_
  refine TL_nil ?_
  refine T_region ?_
  refine TL_y rfl rfl (Y_assign rfl) ?_
  refine TL_nil ?_
  refine T_seq ?_
  refine T_block ?_
  refine T_loopK (σ := GrpSt) [] (fun g => GrpI x g) (fun g kv => (0, .int .u64 (g.y : Int)) :: (3, .slice g.A g.out.length g.c) :: kv) (fun g => osl (intR .u8) 5 g.A g.c g.out :: L) (fun g => g.y) (⟨x, [], none, 0⟩) rfl (⟨hx, rfl, hx⟩) (osl_nil _ _ _ _) (sub_cons rfl (sub_cons rfl (sub_nil))) ?_
  intro g hg
  have hl := hg.len
  refine T_seq ?_
  refine T_region ?_
  refine TL_y rfl rfl (Y_move rfl) ?_
  refine TL_y rfl rfl (Y_ge rfl rfl) ?_
  refine TL_nil ?_
  refine T_if rfl (fun h5 => ?_) (fun h5 => ?_)
  · refine T_skip ?_
    refine thenS_normal ?_
    refine T_seq ?_
    refine T_block ?_
    refine T_region_last ?_
    refine TL_y rfl rfl (Y_move rfl) ?_
    refine TL_y rfl rfl (Y_move rfl) ?_
    refine TL_y rfl rfl (Y_conv rfl) ?_
    refine TL_y rfl rfl (Y_bits (by simp) rfl rfl) ?_
    refine TL_name 11 (v' := .int .u8 (((g.y % 128 : Nat) : Int) + 128)) rfl (by rw [u8_or_wrap]) ?_
    refine TL_build_slice rfl rfl rfl rfl rfl rfl ?_
    intro b12
    refine TL_osl (intR .u8) [((g.y % 128 : Nat) : Int) + 128] (Knows.const fun M => cells_ints (xs := [((g.y % 128 : Nat) : Int) + 128]) (by simpa using byteIn) M) rfl (by simp) ?_
    refine TL_freeze_osl ?_
    refine TL_name 12 (v' := .slice (some ⟨b12, 0, none⟩) [((g.y % 128 : Nat) : Int) + 128].length 1) rfl rfl ?_
    refine TL_append rfl rfl rfl rfl rfl slk (by (try simp only [List.length_append, List.length_cons, List.length_nil]); omega) ?_
    intro A13 c13
    refine TL_y rfl rfl (Y_assign rfl) ?_
    refine TL_nil ?_
    refine inB_normal ?_
    refine thenS_normal ?_
    refine T_region_last ?_
    refine TL_y rfl rfl (Y_move rfl) ?_
    refine TL_y rfl rfl (Y_shr rfl rfl (by omega)) ?_
    refine TL_name 7 (v' := .int .u64 ((g.y / 128 : Nat) : Int)) rfl (by rw [shr7]) ?_
    refine TL_y rfl rfl (Y_assign rfl) ?_
    refine TL_nil ?_
    refine thenS_normal ?_
    exact ⟨⟨g.y / 128, g.out ++ [((g.y % 128 : Nat) : Int) + 128], A13, c13⟩, hg.next (by omega) A13 c13, by simp only; omega, holds_to (sub_cons rfl (sub_cons rfl (sub_nil))) GivesTo.g⟩
  · refine T_exit ?_
    refine thenS_exit ?_
    refine thenS_exit ?_
    refine inB_hit ?_
    refine thenS_normal ?_
    refine T_region ?_
    refine TL_y rfl rfl (Y_move rfl) ?_
    refine TL_y rfl rfl (Y_move rfl) ?_
    refine TL_y rfl rfl (Y_conv rfl) ?_
    refine TL_name 16 (v' := .int .u8 (g.y : Int)) rfl (by rw [u8_wrap, Nat.mod_eq_of_lt (by omega)]) ?_
    refine TL_build_slice rfl rfl rfl rfl rfl rfl ?_
    intro b17
    refine TL_osl (intR .u8) [(g.y : Int)] (Knows.const fun M => cells_ints (xs := [(g.y : Int)]) (by simpa using u8In_mk (by omega)) M) rfl (by simp) ?_
    refine TL_freeze_osl ?_
    refine TL_name 17 (v' := .slice (some ⟨b17, 0, none⟩) [(g.y : Int)].length 1) rfl rfl ?_
    refine TL_append rfl rfl rfl rfl rfl slk (by (try simp only [List.length_append, List.length_cons, List.length_nil]); omega) ?_
    intro A18 c18
    refine TL_y rfl rfl (Y_assign rfl) ?_
    refine TL_nil ?_
    refine T_ret ?_
    have e : g.out ++ [(g.y : Int)] = grp x := by rw [← hg.2.1, grp_small (by omega)]
    rw [e]
    exact RetG_1 (.inl rfl) rfl (ResV.tmp rfl) GivesTo.g (⟨A18, c18, rfl, rfl⟩)
end Go.SL
