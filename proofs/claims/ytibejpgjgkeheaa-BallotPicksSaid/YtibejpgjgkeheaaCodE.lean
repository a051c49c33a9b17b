/- Codec: texts and names. -/
import Derived.Test.YtibejpgjgkeheaaCodD
set_option linter.unusedVariables false
set_option linter.unusedSimpArgs false
namespace Go.SL
open Go Go.Proofs

/-- The bytes of a text. -/
def txt (s : ByteArray) : List Int := grp s.size ++ strBytes s
theorem refText_spec (L : List HP) (s : ByteArray) (hb : s.size ≤ 140737488355318) : Fn Try.prog 163 #[.string s] L (fun v L' => ∃ A' c', v = .slice A' (txt s).length c' ∧ L' = osl (intR .u8) 5 A' c' (txt s) :: L) := by
  have hl := grp_ten (x := s.size) (by omega)
  refine Fn_enter Try.func163 rfl rfl rfl rfl ?_
  refine T_region ?_
  refine TL_y rfl rfl (Y_assign rfl) ?_
  refine TL_nil ?_
  refine T_region ?_
  refine TL_y rfl rfl (Y_move rfl) ?_
  refine TL_y rfl rfl (Y_len_str rfl) ?_
  refine TL_y rfl rfl (Y_conv rfl) ?_
  refine TL_name 5 (v' := .int .u64 ((s.size : Nat) : Int)) rfl (by rw [u64_small (by omega)]) ?_
  refine TL_call rfl rfl (refUint_spec s.size (by omega) _) ?_
  rintro _ _ ⟨A6, c6, rfl, rfl⟩
  refine TL_y rfl rfl (Y_move rfl) ?_
  refine TL_append_str rfl rfl rfl rfl (by (try simp only [List.length_append, List.length_cons, List.length_nil]); omega) ?_
  intro A8 c8
  refine TL_y rfl rfl (Y_assign rfl) ?_
  refine TL_nil ?_
  refine T_ret ?_
  rw [show grp s.size ++ strBytes s = txt s from rfl]
  exact RetG_1 (.inl rfl) rfl (ResV.tmp rfl) GivesTo.g (⟨A8, c8, rfl, rfl⟩)

/-- May it be a name? -/
def nameByte (c : Int) : Prop := (97 ≤ c ∧ c ≤ 122) ∨ (48 ≤ c ∧ c ≤ 57) ∨ c = 45
instance (c : Int) : Decidable (nameByte c) := by unfold nameByte; exact inferInstance
def isName (s : ByteArray) : Prop := (∀ c ∈ strBytes s, nameByte c) ∧ s.size ≠ 0 ∧ s.size ≤ 32
instance (s : ByteArray) : Decidable (isName s) := by unfold isName; exact inferInstance
theorem take_next {α : Type} {p : α → Prop} {xs : List α} {i : Nat} {u : α} (h : ∀ c ∈ xs.take i, p c) (hu : xs[i]? = some u) (hp : p u) : ∀ c ∈ xs.take (i + 1), p c := by
  intro c hc
  rw [List.take_add_one, hu] at hc
  rcases List.mem_append.1 hc with hc | hc
  · exact h c hc
  · simp at hc; subst hc; exact hp
theorem not_name {s : ByteArray} {u : Int} {i : Nat} (hu : (strBytes s)[i]? = some u) (h : ¬ nameByte u) : ¬ isName s := fun ⟨k, _⟩ => h (k u (List.mem_of_getElem? hu))
theorem empty_eq (s : ByteArray) : s = ⟨#[]⟩ ↔ s.size = 0 := by
  constructor
  · rintro rfl; rfl
  · intro h
    cases s with
    | mk d =>
      have : d.size = 0 := h
      rw [Array.size_eq_zero_iff] at this
      rw [this]
theorem name_spec (L : List HP) (s : ByteArray) (hb : s.size ≤ maxEl) : Fn Try.prog 180 #[.string s] L (fun v L' => v = .bool (decide (isName s)) ∧ L' = L) := by
  have hsl := strBytes_length s
  refine Fn_enter Try.func180 rfl rfl rfl rfl ?_
  refine T_region ?_
  refine TL_y rfl rfl (Y_assign rfl) ?_
  refine TL_nil ?_
  refine T_seq ?_
  refine T_region ?_
  refine TL_y rfl rfl (Y_move rfl) ?_
  refine TL_str_bytes rfl rfl (hb) ?_
  intro A6 c6
  refine TL_y rfl rfl (Y_len rfl) ?_
  refine TL_y rfl rfl (Y_move rfl) ?_
  refine TL_nil ?_
  refine T_block ?_
  refine T_loopK (σ := Nat) [0, 6, 7] (fun i => i ≤ (strBytes s).length ∧ ∀ c ∈ (strBytes s).take i, nameByte c) (fun i kv => (8, .int .i64 (i : Int)) :: kv) (fun i => sl (intR .u8) A6 c6 (strBytes s) :: L) (fun i => (strBytes s).length - i) (0) rfl (⟨Nat.zero_le _, by simp⟩) (GivesTo.g) (sub_cons rfl (sub_cons rfl (sub_cons rfl (sub_cons rfl (sub_nil))))) ?_
  intro i hi
  refine T_region ?_
  refine TL_y rfl rfl (Y_lt rfl rfl) ?_
  refine TL_nil ?_
  refine T_seq ?_
  refine T_if rfl (fun h9 => ?_) (fun h9 => ?_)
  · refine T_skip ?_
    refine thenS_normal ?_
    refine T_seq ?_
    refine T_block ?_
    refine T_region ?_
    obtain ⟨u, hu⟩ : ∃ u, (strBytes s)[i]? = some u := ⟨_, List.getElem?_eq_getElem (by omega)⟩
    refine TL_index_int rfl rfl rfl slk hu ?_
    intro hi10 bi10 oi10
    have hu8 := u8In hi10
    refine TL_y rfl rfl (Y_load_row rfl rfl) ?_
    refine TL_y rfl rfl (Y_assign rfl) ?_
    refine TL_nil ?_
    refine T_region ?_
    refine TL_y rfl rfl (Y_move rfl) ?_
    refine TL_y rfl rfl (Y_lt rfl rfl) ?_
    refine TL_y rfl rfl (Y_move rfl) ?_
    refine TL_splitd 14 rfl (fun h14 => ?_) (fun h14 => ?_)
    · refine TL_gskip rfl rfl rfl rfl ?_
      refine TL_gskip rfl rfl rfl rfl ?_
      refine TL_y rfl rfl (Y_pick_t rfl rfl) ?_
      refine TL_y rfl rfl (Y_move rfl) ?_
      refine TL_grun rfl rfl ?_
      refine TL_y rfl rfl (Y_move rfl) ?_
      refine TL_grun rfl rfl ?_
      refine TL_y rfl rfl (Y_lt rfl rfl) ?_
      refine TL_grun rfl rfl ?_
      refine TL_y rfl rfl (Y_move rfl) ?_
      refine TL_splitd 21 rfl (fun h21 => ?_) (fun h21 => ?_)
      · refine TL_gskip rfl rfl rfl rfl ?_
        refine TL_gskip rfl rfl rfl rfl ?_
        refine TL_grun rfl rfl ?_
        refine TL_y rfl rfl (Y_pick_t rfl rfl) ?_
        refine TL_y rfl rfl (Y_pick_t rfl rfl) ?_
        refine TL_y rfl rfl (Y_move rfl) ?_
        refine TL_grun rfl rfl ?_
        refine TL_y rfl rfl (Y_move rfl) ?_
        refine TL_grun rfl rfl ?_
        refine TL_y rfl rfl (Y_ne rfl rfl) ?_
        refine TL_y rfl rfl (Y_pick_t rfl rfl) ?_
        refine TL_nil ?_
        refine T_if rfl (fun h29 => ?_) (fun h29 => ?_)
        · refine T_region ?_
          refine TL_y rfl rfl (Y_assign rfl) ?_
          refine TL_nil ?_
          refine T_ret ?_
          refine inB_ret ?_
          refine thenS_ret ?_
          refine thenS_ret ?_
          refine inB_ret ?_
          refine thenS_ret ?_
          exact RetG_1 (.inl rfl) rfl (ResV.tmp rfl) GivesTo.g (⟨by rw [decide_eq_false (not_name hu (by unfold nameByte; omega))], rfl⟩)
        · refine T_skip ?_
          refine inB_normal ?_
          refine thenS_normal ?_
          refine T_region_last ?_
          refine TL_y rfl rfl (Y_add rfl rfl (by simp only [maxEl] at hb; omega)) ?_
          refine TL_name 30 (v' := .int .i64 ((i + 1 : Nat) : Int)) rfl (rfl) ?_
          refine TL_y rfl rfl (Y_move rfl) ?_
          refine TL_nil ?_
          refine thenS_normal ?_
          exact ⟨i + 1, ⟨by omega, take_next hi.2 hu (by unfold nameByte; omega)⟩, by omega, holds_to (sub_cons rfl (sub_cons rfl (sub_cons rfl (sub_cons rfl (sub_nil))))) GivesTo.g⟩
      · refine TL_grun rfl rfl ?_
        refine TL_y rfl rfl (Y_move rfl) ?_
        refine TL_grun rfl rfl ?_
        refine TL_y rfl rfl (Y_gt rfl rfl) ?_
        refine TL_grun rfl rfl ?_
        refine TL_y rfl rfl (Y_pick_f rfl rfl) ?_
        refine TL_y rfl rfl (Y_pick_t rfl rfl) ?_
        refine TL_y rfl rfl (Y_move rfl) ?_
        refine TL_splitd 26 rfl (fun h26 => ?_) (fun h26 => ?_)
        · refine TL_grun rfl rfl ?_
          refine TL_y rfl rfl (Y_move rfl) ?_
          refine TL_grun rfl rfl ?_
          refine TL_y rfl rfl (Y_ne rfl rfl) ?_
          refine TL_y rfl rfl (Y_pick_t rfl rfl) ?_
          refine TL_nil ?_
          refine T_if rfl (fun h29 => ?_) (fun h29 => ?_)
          · refine T_region ?_
            refine TL_y rfl rfl (Y_assign rfl) ?_
            refine TL_nil ?_
            refine T_ret ?_
            refine inB_ret ?_
            refine thenS_ret ?_
            refine thenS_ret ?_
            refine inB_ret ?_
            refine thenS_ret ?_
            exact RetG_1 (.inl rfl) rfl (ResV.tmp rfl) GivesTo.g (⟨by rw [decide_eq_false (not_name hu (by unfold nameByte; omega))], rfl⟩)
          · refine T_skip ?_
            refine inB_normal ?_
            refine thenS_normal ?_
            refine T_region_last ?_
            refine TL_y rfl rfl (Y_add rfl rfl (by simp only [maxEl] at hb; omega)) ?_
            refine TL_name 30 (v' := .int .i64 ((i + 1 : Nat) : Int)) rfl (rfl) ?_
            refine TL_y rfl rfl (Y_move rfl) ?_
            refine TL_nil ?_
            refine thenS_normal ?_
            exact ⟨i + 1, ⟨by omega, take_next hi.2 hu (by unfold nameByte; omega)⟩, by omega, holds_to (sub_cons rfl (sub_cons rfl (sub_cons rfl (sub_cons rfl (sub_nil))))) GivesTo.g⟩
        · refine TL_gskip rfl rfl rfl rfl ?_
          refine TL_gskip rfl rfl rfl rfl ?_
          refine TL_y rfl rfl (Y_pick_f rfl rfl) ?_
          refine TL_nil ?_
          refine T_cond_false rfl ?_
          refine T_skip ?_
          refine inB_normal ?_
          refine thenS_normal ?_
          refine T_region_last ?_
          refine TL_y rfl rfl (Y_add rfl rfl (by simp only [maxEl] at hb; omega)) ?_
          refine TL_name 30 (v' := .int .i64 ((i + 1 : Nat) : Int)) rfl (rfl) ?_
          refine TL_y rfl rfl (Y_move rfl) ?_
          refine TL_nil ?_
          refine thenS_normal ?_
          exact ⟨i + 1, ⟨by omega, take_next hi.2 hu (by unfold nameByte; omega)⟩, by omega, holds_to (sub_cons rfl (sub_cons rfl (sub_cons rfl (sub_cons rfl (sub_nil))))) GivesTo.g⟩
    · refine TL_grun rfl rfl ?_
      refine TL_y rfl rfl (Y_move rfl) ?_
      refine TL_grun rfl rfl ?_
      refine TL_y rfl rfl (Y_gt rfl rfl) ?_
      refine TL_y rfl rfl (Y_pick_f rfl rfl) ?_
      refine TL_y rfl rfl (Y_move rfl) ?_
      refine TL_splitd 18 rfl (fun h18 => ?_) (fun h18 => ?_)
      · refine TL_grun rfl rfl ?_
        refine TL_y rfl rfl (Y_move rfl) ?_
        refine TL_grun rfl rfl ?_
        refine TL_y rfl rfl (Y_lt rfl rfl) ?_
        refine TL_grun rfl rfl ?_
        refine TL_y rfl rfl (Y_move rfl) ?_
        refine TL_splitd 21 rfl (fun h21 => ?_) (fun h21 => ?_)
        · refine TL_gskip rfl rfl rfl rfl ?_
          refine TL_gskip rfl rfl rfl rfl ?_
          refine TL_grun rfl rfl ?_
          refine TL_y rfl rfl (Y_pick_t rfl rfl) ?_
          refine TL_y rfl rfl (Y_pick_t rfl rfl) ?_
          refine TL_y rfl rfl (Y_move rfl) ?_
          refine TL_grun rfl rfl ?_
          refine TL_y rfl rfl (Y_move rfl) ?_
          refine TL_grun rfl rfl ?_
          refine TL_y rfl rfl (Y_ne rfl rfl) ?_
          refine TL_y rfl rfl (Y_pick_t rfl rfl) ?_
          refine TL_nil ?_
          refine T_if rfl (fun h29 => ?_) (fun h29 => ?_)
          · refine T_region ?_
            refine TL_y rfl rfl (Y_assign rfl) ?_
            refine TL_nil ?_
            refine T_ret ?_
            refine inB_ret ?_
            refine thenS_ret ?_
            refine thenS_ret ?_
            refine inB_ret ?_
            refine thenS_ret ?_
            exact RetG_1 (.inl rfl) rfl (ResV.tmp rfl) GivesTo.g (⟨by rw [decide_eq_false (not_name hu (by unfold nameByte; omega))], rfl⟩)
          · refine T_skip ?_
            refine inB_normal ?_
            refine thenS_normal ?_
            refine T_region_last ?_
            refine TL_y rfl rfl (Y_add rfl rfl (by simp only [maxEl] at hb; omega)) ?_
            refine TL_name 30 (v' := .int .i64 ((i + 1 : Nat) : Int)) rfl (rfl) ?_
            refine TL_y rfl rfl (Y_move rfl) ?_
            refine TL_nil ?_
            refine thenS_normal ?_
            exact ⟨i + 1, ⟨by omega, take_next hi.2 hu (by unfold nameByte; omega)⟩, by omega, holds_to (sub_cons rfl (sub_cons rfl (sub_cons rfl (sub_cons rfl (sub_nil))))) GivesTo.g⟩
        · refine TL_grun rfl rfl ?_
          refine TL_y rfl rfl (Y_move rfl) ?_
          refine TL_grun rfl rfl ?_
          refine TL_y rfl rfl (Y_gt rfl rfl) ?_
          refine TL_grun rfl rfl ?_
          refine TL_y rfl rfl (Y_pick_f rfl rfl) ?_
          refine TL_y rfl rfl (Y_pick_t rfl rfl) ?_
          refine TL_y rfl rfl (Y_move rfl) ?_
          refine TL_splitd 26 rfl (fun h26 => ?_) (fun h26 => ?_)
          · refine TL_grun rfl rfl ?_
            refine TL_y rfl rfl (Y_move rfl) ?_
            refine TL_grun rfl rfl ?_
            refine TL_y rfl rfl (Y_ne rfl rfl) ?_
            refine TL_y rfl rfl (Y_pick_t rfl rfl) ?_
            refine TL_nil ?_
            refine T_if rfl (fun h29 => ?_) (fun h29 => ?_)
            · refine T_region ?_
              refine TL_y rfl rfl (Y_assign rfl) ?_
              refine TL_nil ?_
              refine T_ret ?_
              refine inB_ret ?_
              refine thenS_ret ?_
              refine thenS_ret ?_
              refine inB_ret ?_
              refine thenS_ret ?_
              exact RetG_1 (.inl rfl) rfl (ResV.tmp rfl) GivesTo.g (⟨by rw [decide_eq_false (not_name hu (by unfold nameByte; omega))], rfl⟩)
            · refine T_skip ?_
              refine inB_normal ?_
              refine thenS_normal ?_
              refine T_region_last ?_
              refine TL_y rfl rfl (Y_add rfl rfl (by simp only [maxEl] at hb; omega)) ?_
              refine TL_name 30 (v' := .int .i64 ((i + 1 : Nat) : Int)) rfl (rfl) ?_
              refine TL_y rfl rfl (Y_move rfl) ?_
              refine TL_nil ?_
              refine thenS_normal ?_
              exact ⟨i + 1, ⟨by omega, take_next hi.2 hu (by unfold nameByte; omega)⟩, by omega, holds_to (sub_cons rfl (sub_cons rfl (sub_cons rfl (sub_cons rfl (sub_nil))))) GivesTo.g⟩
          · refine TL_gskip rfl rfl rfl rfl ?_
            refine TL_gskip rfl rfl rfl rfl ?_
            refine TL_y rfl rfl (Y_pick_f rfl rfl) ?_
            refine TL_nil ?_
            refine T_cond_false rfl ?_
            refine T_skip ?_
            refine inB_normal ?_
            refine thenS_normal ?_
            refine T_region_last ?_
            refine TL_y rfl rfl (Y_add rfl rfl (by simp only [maxEl] at hb; omega)) ?_
            refine TL_name 30 (v' := .int .i64 ((i + 1 : Nat) : Int)) rfl (rfl) ?_
            refine TL_y rfl rfl (Y_move rfl) ?_
            refine TL_nil ?_
            refine thenS_normal ?_
            exact ⟨i + 1, ⟨by omega, take_next hi.2 hu (by unfold nameByte; omega)⟩, by omega, holds_to (sub_cons rfl (sub_cons rfl (sub_cons rfl (sub_cons rfl (sub_nil))))) GivesTo.g⟩
      · refine TL_gskip rfl rfl rfl rfl ?_
        refine TL_gskip rfl rfl rfl rfl ?_
        refine TL_gskip rfl rfl rfl rfl ?_
        refine TL_gskip_u rfl rfl rfl ?_
        refine TL_gskip_u rfl rfl rfl ?_
        refine TL_gskip rfl rfl rfl rfl ?_
        refine TL_y rfl rfl (Y_pick_f rfl rfl) ?_
        refine TL_y rfl rfl (Y_move rfl) ?_
        refine TL_gskip rfl rfl rfl rfl ?_
        refine TL_gskip rfl rfl rfl rfl ?_
        refine TL_y rfl rfl (Y_pick_f rfl rfl) ?_
        refine TL_nil ?_
        refine T_cond_false rfl ?_
        refine T_skip ?_
        refine inB_normal ?_
        refine thenS_normal ?_
        refine T_region_last ?_
        refine TL_y rfl rfl (Y_add rfl rfl (by simp only [maxEl] at hb; omega)) ?_
        refine TL_name 30 (v' := .int .i64 ((i + 1 : Nat) : Int)) rfl (rfl) ?_
        refine TL_y rfl rfl (Y_move rfl) ?_
        refine TL_nil ?_
        refine thenS_normal ?_
        exact ⟨i + 1, ⟨by omega, take_next hi.2 hu (by unfold nameByte; omega)⟩, by omega, holds_to (sub_cons rfl (sub_cons rfl (sub_cons rfl (sub_cons rfl (sub_nil))))) GivesTo.g⟩
  · refine T_exit ?_
    refine thenS_exit ?_
    refine thenS_exit ?_
    refine inB_hit ?_
    refine thenS_normal ?_
    refine T_region ?_
    refine TL_y rfl rfl (Y_move rfl) ?_
    refine TL_y rfl rfl (Y_str_ne rfl rfl) ?_
    refine TL_y rfl rfl (Y_move rfl) ?_
    refine TL_splitd 33 rfl (fun h33 => ?_) (fun h33 => ?_)
    · refine TL_grun rfl rfl ?_
      refine TL_y rfl rfl (Y_move rfl) ?_
      refine TL_grun rfl rfl ?_
      refine TL_y rfl rfl (Y_len_str rfl) ?_
      refine TL_grun rfl rfl ?_
      refine TL_y rfl rfl (Y_le rfl rfl) ?_
      refine TL_y rfl rfl (Y_pick_t rfl rfl) ?_
      refine TL_y rfl rfl (Y_assign rfl) ?_
      refine TL_nil ?_
      refine T_ret ?_
      have hall : ∀ c ∈ strBytes s, nameByte c := by have := hi.2; rwa [List.take_of_length_le (by omega)] at this
      exact RetG_1 (.inl rfl) rfl (ResV.tmp rfl) GivesTo.g (⟨by rw [decide_eq_decide.2 (show isName s ↔ (s.size : Int) ≤ 32 from ⟨fun h => by have := h.2.2; omega, fun h => ⟨hall, fun e => h33 ((empty_eq s).2 e), by omega⟩⟩)], rfl⟩)
    · refine TL_gskip rfl rfl rfl rfl ?_
      refine TL_gskip rfl rfl rfl rfl ?_
      refine TL_gskip rfl rfl rfl rfl ?_
      refine TL_y rfl rfl (Y_pick_f rfl rfl) ?_
      refine TL_y rfl rfl (Y_assign rfl) ?_
      refine TL_nil ?_
      refine T_ret ?_
      have hall : ∀ c ∈ strBytes s, nameByte c := by have := hi.2; rwa [List.take_of_length_le (by omega)] at this
      exact RetG_1 (.inl rfl) rfl (ResV.tmp rfl) GivesTo.g (⟨by rw [decide_eq_false (fun h => h.2.1 ((empty_eq s).1 (Classical.not_not.1 h33)))], rfl⟩)

theorem refName_spec (L : List HP) (s : ByteArray) (hb : s.size ≤ maxEl) : Fn Try.prog 161 #[.string s] L (fun v L' => v = .bool (decide (isName s)) ∧ L' = L) := by
  have hsl := strBytes_length s
  refine Fn_enter Try.func161 rfl rfl rfl rfl ?_
  refine T_region ?_
  refine TL_y rfl rfl (Y_assign rfl) ?_
  refine TL_nil ?_
  refine T_seq ?_
  refine T_region ?_
  refine TL_y rfl rfl (Y_assign rfl) ?_
  refine TL_nil ?_
  refine T_block ?_
  refine T_loopK (σ := Nat) [0] (fun i => i ≤ (strBytes s).length ∧ ∀ c ∈ (strBytes s).take i, nameByte c) (fun i kv => (3, .int .i64 (i : Int)) :: kv) (fun i => L) (fun i => (strBytes s).length - i) (0) rfl (⟨Nat.zero_le _, by simp⟩) (GivesTo.g) (sub_cons rfl (sub_cons rfl (sub_nil))) ?_
  intro i hi
  refine T_seq ?_
  refine T_region ?_
  refine TL_y rfl rfl (Y_move rfl) ?_
  refine TL_y rfl rfl (Y_move rfl) ?_
  refine TL_y rfl rfl (Y_len_str rfl) ?_
  refine TL_y rfl rfl (Y_lt rfl rfl) ?_
  refine TL_nil ?_
  refine T_if rfl (fun h8 => ?_) (fun h8 => ?_)
  · refine T_skip ?_
    refine thenS_normal ?_
    refine T_seq ?_
    refine T_block ?_
    refine T_region ?_
    refine TL_y rfl rfl (Y_move rfl) ?_
    refine TL_y rfl rfl (Y_move rfl) ?_
    obtain ⟨u, hu⟩ : ∃ u, (strBytes s)[i]? = some u := ⟨_, List.getElem?_eq_getElem (by omega)⟩
    refine TL_y rfl rfl (Y_index_s rfl rfl hu) ?_
    have hu8 := strBytes_in hu
    refine TL_y rfl rfl (Y_assign rfl) ?_
    refine TL_nil ?_
    refine T_region ?_
    refine TL_y rfl rfl (Y_move rfl) ?_
    refine TL_y rfl rfl (Y_lt rfl rfl) ?_
    refine TL_y rfl rfl (Y_move rfl) ?_
    refine TL_splitd 16 rfl (fun h16 => ?_) (fun h16 => ?_)
    · refine TL_gskip rfl rfl rfl rfl ?_
      refine TL_gskip rfl rfl rfl rfl ?_
      refine TL_y rfl rfl (Y_pick_t rfl rfl) ?_
      refine TL_y rfl rfl (Y_move rfl) ?_
      refine TL_grun rfl rfl ?_
      refine TL_y rfl rfl (Y_move rfl) ?_
      refine TL_grun rfl rfl ?_
      refine TL_y rfl rfl (Y_lt rfl rfl) ?_
      refine TL_grun rfl rfl ?_
      refine TL_y rfl rfl (Y_move rfl) ?_
      refine TL_splitd 23 rfl (fun h23 => ?_) (fun h23 => ?_)
      · refine TL_gskip rfl rfl rfl rfl ?_
        refine TL_gskip rfl rfl rfl rfl ?_
        refine TL_grun rfl rfl ?_
        refine TL_y rfl rfl (Y_pick_t rfl rfl) ?_
        refine TL_y rfl rfl (Y_pick_t rfl rfl) ?_
        refine TL_y rfl rfl (Y_move rfl) ?_
        refine TL_grun rfl rfl ?_
        refine TL_y rfl rfl (Y_move rfl) ?_
        refine TL_grun rfl rfl ?_
        refine TL_y rfl rfl (Y_ne rfl rfl) ?_
        refine TL_y rfl rfl (Y_pick_t rfl rfl) ?_
        refine TL_nil ?_
        refine T_if rfl (fun h31 => ?_) (fun h31 => ?_)
        · refine T_region ?_
          refine TL_y rfl rfl (Y_assign rfl) ?_
          refine TL_nil ?_
          refine T_ret ?_
          refine inB_ret ?_
          refine thenS_ret ?_
          refine thenS_ret ?_
          refine inB_ret ?_
          refine thenS_ret ?_
          exact RetG_1 (.inl rfl) rfl (ResV.tmp rfl) GivesTo.g (⟨by rw [decide_eq_false (not_name hu (by unfold nameByte; omega))], rfl⟩)
        · refine T_skip ?_
          refine inB_normal ?_
          refine thenS_normal ?_
          refine T_region_last ?_
          refine TL_y rfl rfl (Y_move rfl) ?_
          refine TL_y rfl rfl (Y_add rfl rfl (by simp only [maxEl] at hb; omega)) ?_
          refine TL_name 10 (v' := .int .i64 ((i + 1 : Nat) : Int)) rfl (rfl) ?_
          refine TL_y rfl rfl (Y_assign rfl) ?_
          refine TL_nil ?_
          refine thenS_normal ?_
          exact ⟨i + 1, ⟨by omega, take_next hi.2 hu (by unfold nameByte; omega)⟩, by omega, holds_to (sub_cons rfl (sub_cons rfl (sub_nil))) GivesTo.g⟩
      · refine TL_grun rfl rfl ?_
        refine TL_y rfl rfl (Y_move rfl) ?_
        refine TL_grun rfl rfl ?_
        refine TL_y rfl rfl (Y_gt rfl rfl) ?_
        refine TL_grun rfl rfl ?_
        refine TL_y rfl rfl (Y_pick_f rfl rfl) ?_
        refine TL_y rfl rfl (Y_pick_t rfl rfl) ?_
        refine TL_y rfl rfl (Y_move rfl) ?_
        refine TL_splitd 28 rfl (fun h28 => ?_) (fun h28 => ?_)
        · refine TL_grun rfl rfl ?_
          refine TL_y rfl rfl (Y_move rfl) ?_
          refine TL_grun rfl rfl ?_
          refine TL_y rfl rfl (Y_ne rfl rfl) ?_
          refine TL_y rfl rfl (Y_pick_t rfl rfl) ?_
          refine TL_nil ?_
          refine T_if rfl (fun h31 => ?_) (fun h31 => ?_)
          · refine T_region ?_
            refine TL_y rfl rfl (Y_assign rfl) ?_
            refine TL_nil ?_
            refine T_ret ?_
            refine inB_ret ?_
            refine thenS_ret ?_
            refine thenS_ret ?_
            refine inB_ret ?_
            refine thenS_ret ?_
            exact RetG_1 (.inl rfl) rfl (ResV.tmp rfl) GivesTo.g (⟨by rw [decide_eq_false (not_name hu (by unfold nameByte; omega))], rfl⟩)
          · refine T_skip ?_
            refine inB_normal ?_
            refine thenS_normal ?_
            refine T_region_last ?_
            refine TL_y rfl rfl (Y_move rfl) ?_
            refine TL_y rfl rfl (Y_add rfl rfl (by simp only [maxEl] at hb; omega)) ?_
            refine TL_name 10 (v' := .int .i64 ((i + 1 : Nat) : Int)) rfl (rfl) ?_
            refine TL_y rfl rfl (Y_assign rfl) ?_
            refine TL_nil ?_
            refine thenS_normal ?_
            exact ⟨i + 1, ⟨by omega, take_next hi.2 hu (by unfold nameByte; omega)⟩, by omega, holds_to (sub_cons rfl (sub_cons rfl (sub_nil))) GivesTo.g⟩
        · refine TL_gskip rfl rfl rfl rfl ?_
          refine TL_gskip rfl rfl rfl rfl ?_
          refine TL_y rfl rfl (Y_pick_f rfl rfl) ?_
          refine TL_nil ?_
          refine T_cond_false rfl ?_
          refine T_skip ?_
          refine inB_normal ?_
          refine thenS_normal ?_
          refine T_region_last ?_
          refine TL_y rfl rfl (Y_move rfl) ?_
          refine TL_y rfl rfl (Y_add rfl rfl (by simp only [maxEl] at hb; omega)) ?_
          refine TL_name 10 (v' := .int .i64 ((i + 1 : Nat) : Int)) rfl (rfl) ?_
          refine TL_y rfl rfl (Y_assign rfl) ?_
          refine TL_nil ?_
          refine thenS_normal ?_
          exact ⟨i + 1, ⟨by omega, take_next hi.2 hu (by unfold nameByte; omega)⟩, by omega, holds_to (sub_cons rfl (sub_cons rfl (sub_nil))) GivesTo.g⟩
    · refine TL_grun rfl rfl ?_
      refine TL_y rfl rfl (Y_move rfl) ?_
      refine TL_grun rfl rfl ?_
      refine TL_y rfl rfl (Y_gt rfl rfl) ?_
      refine TL_y rfl rfl (Y_pick_f rfl rfl) ?_
      refine TL_y rfl rfl (Y_move rfl) ?_
      refine TL_splitd 20 rfl (fun h20 => ?_) (fun h20 => ?_)
      · refine TL_grun rfl rfl ?_
        refine TL_y rfl rfl (Y_move rfl) ?_
        refine TL_grun rfl rfl ?_
        refine TL_y rfl rfl (Y_lt rfl rfl) ?_
        refine TL_grun rfl rfl ?_
        refine TL_y rfl rfl (Y_move rfl) ?_
        refine TL_splitd 23 rfl (fun h23 => ?_) (fun h23 => ?_)
        · refine TL_gskip rfl rfl rfl rfl ?_
          refine TL_gskip rfl rfl rfl rfl ?_
          refine TL_grun rfl rfl ?_
          refine TL_y rfl rfl (Y_pick_t rfl rfl) ?_
          refine TL_y rfl rfl (Y_pick_t rfl rfl) ?_
          refine TL_y rfl rfl (Y_move rfl) ?_
          refine TL_grun rfl rfl ?_
          refine TL_y rfl rfl (Y_move rfl) ?_
          refine TL_grun rfl rfl ?_
          refine TL_y rfl rfl (Y_ne rfl rfl) ?_
          refine TL_y rfl rfl (Y_pick_t rfl rfl) ?_
          refine TL_nil ?_
          refine T_if rfl (fun h31 => ?_) (fun h31 => ?_)
          · refine T_region ?_
            refine TL_y rfl rfl (Y_assign rfl) ?_
            refine TL_nil ?_
            refine T_ret ?_
            refine inB_ret ?_
            refine thenS_ret ?_
            refine thenS_ret ?_
            refine inB_ret ?_
            refine thenS_ret ?_
            exact RetG_1 (.inl rfl) rfl (ResV.tmp rfl) GivesTo.g (⟨by rw [decide_eq_false (not_name hu (by unfold nameByte; omega))], rfl⟩)
          · refine T_skip ?_
            refine inB_normal ?_
            refine thenS_normal ?_
            refine T_region_last ?_
            refine TL_y rfl rfl (Y_move rfl) ?_
            refine TL_y rfl rfl (Y_add rfl rfl (by simp only [maxEl] at hb; omega)) ?_
            refine TL_name 10 (v' := .int .i64 ((i + 1 : Nat) : Int)) rfl (rfl) ?_
            refine TL_y rfl rfl (Y_assign rfl) ?_
            refine TL_nil ?_
            refine thenS_normal ?_
            exact ⟨i + 1, ⟨by omega, take_next hi.2 hu (by unfold nameByte; omega)⟩, by omega, holds_to (sub_cons rfl (sub_cons rfl (sub_nil))) GivesTo.g⟩
        · refine TL_grun rfl rfl ?_
          refine TL_y rfl rfl (Y_move rfl) ?_
          refine TL_grun rfl rfl ?_
          refine TL_y rfl rfl (Y_gt rfl rfl) ?_
          refine TL_grun rfl rfl ?_
          refine TL_y rfl rfl (Y_pick_f rfl rfl) ?_
          refine TL_y rfl rfl (Y_pick_t rfl rfl) ?_
          refine TL_y rfl rfl (Y_move rfl) ?_
          refine TL_splitd 28 rfl (fun h28 => ?_) (fun h28 => ?_)
          · refine TL_grun rfl rfl ?_
            refine TL_y rfl rfl (Y_move rfl) ?_
            refine TL_grun rfl rfl ?_
            refine TL_y rfl rfl (Y_ne rfl rfl) ?_
            refine TL_y rfl rfl (Y_pick_t rfl rfl) ?_
            refine TL_nil ?_
            refine T_if rfl (fun h31 => ?_) (fun h31 => ?_)
            · refine T_region ?_
              refine TL_y rfl rfl (Y_assign rfl) ?_
              refine TL_nil ?_
              refine T_ret ?_
              refine inB_ret ?_
              refine thenS_ret ?_
              refine thenS_ret ?_
              refine inB_ret ?_
              refine thenS_ret ?_
              exact RetG_1 (.inl rfl) rfl (ResV.tmp rfl) GivesTo.g (⟨by rw [decide_eq_false (not_name hu (by unfold nameByte; omega))], rfl⟩)
            · refine T_skip ?_
              refine inB_normal ?_
              refine thenS_normal ?_
              refine T_region_last ?_
              refine TL_y rfl rfl (Y_move rfl) ?_
              refine TL_y rfl rfl (Y_add rfl rfl (by simp only [maxEl] at hb; omega)) ?_
              refine TL_name 10 (v' := .int .i64 ((i + 1 : Nat) : Int)) rfl (rfl) ?_
              refine TL_y rfl rfl (Y_assign rfl) ?_
              refine TL_nil ?_
              refine thenS_normal ?_
              exact ⟨i + 1, ⟨by omega, take_next hi.2 hu (by unfold nameByte; omega)⟩, by omega, holds_to (sub_cons rfl (sub_cons rfl (sub_nil))) GivesTo.g⟩
          · refine TL_gskip rfl rfl rfl rfl ?_
            refine TL_gskip rfl rfl rfl rfl ?_
            refine TL_y rfl rfl (Y_pick_f rfl rfl) ?_
            refine TL_nil ?_
            refine T_cond_false rfl ?_
            refine T_skip ?_
            refine inB_normal ?_
            refine thenS_normal ?_
            refine T_region_last ?_
            refine TL_y rfl rfl (Y_move rfl) ?_
            refine TL_y rfl rfl (Y_add rfl rfl (by simp only [maxEl] at hb; omega)) ?_
            refine TL_name 10 (v' := .int .i64 ((i + 1 : Nat) : Int)) rfl (rfl) ?_
            refine TL_y rfl rfl (Y_assign rfl) ?_
            refine TL_nil ?_
            refine thenS_normal ?_
            exact ⟨i + 1, ⟨by omega, take_next hi.2 hu (by unfold nameByte; omega)⟩, by omega, holds_to (sub_cons rfl (sub_cons rfl (sub_nil))) GivesTo.g⟩
      · refine TL_gskip rfl rfl rfl rfl ?_
        refine TL_gskip rfl rfl rfl rfl ?_
        refine TL_gskip rfl rfl rfl rfl ?_
        refine TL_gskip_u rfl rfl rfl ?_
        refine TL_gskip_u rfl rfl rfl ?_
        refine TL_gskip rfl rfl rfl rfl ?_
        refine TL_y rfl rfl (Y_pick_f rfl rfl) ?_
        refine TL_y rfl rfl (Y_move rfl) ?_
        refine TL_gskip rfl rfl rfl rfl ?_
        refine TL_gskip rfl rfl rfl rfl ?_
        refine TL_y rfl rfl (Y_pick_f rfl rfl) ?_
        refine TL_nil ?_
        refine T_cond_false rfl ?_
        refine T_skip ?_
        refine inB_normal ?_
        refine thenS_normal ?_
        refine T_region_last ?_
        refine TL_y rfl rfl (Y_move rfl) ?_
        refine TL_y rfl rfl (Y_add rfl rfl (by simp only [maxEl] at hb; omega)) ?_
        refine TL_name 10 (v' := .int .i64 ((i + 1 : Nat) : Int)) rfl (rfl) ?_
        refine TL_y rfl rfl (Y_assign rfl) ?_
        refine TL_nil ?_
        refine thenS_normal ?_
        exact ⟨i + 1, ⟨by omega, take_next hi.2 hu (by unfold nameByte; omega)⟩, by omega, holds_to (sub_cons rfl (sub_cons rfl (sub_nil))) GivesTo.g⟩
  · refine T_exit ?_
    refine thenS_exit ?_
    refine thenS_exit ?_
    refine inB_hit ?_
    refine thenS_normal ?_
    refine T_region ?_
    refine TL_y rfl rfl (Y_move rfl) ?_
    refine TL_y rfl rfl (Y_len_str rfl) ?_
    refine TL_y rfl rfl (Y_ge rfl rfl) ?_
    refine TL_y rfl rfl (Y_move rfl) ?_
    refine TL_splitd 35 rfl (fun h35 => ?_) (fun h35 => ?_)
    · refine TL_grun rfl rfl ?_
      refine TL_y rfl rfl (Y_move rfl) ?_
      refine TL_grun rfl rfl ?_
      refine TL_y rfl rfl (Y_len_str rfl) ?_
      refine TL_grun rfl rfl ?_
      refine TL_y rfl rfl (Y_le rfl rfl) ?_
      refine TL_y rfl rfl (Y_pick_t rfl rfl) ?_
      refine TL_y rfl rfl (Y_assign rfl) ?_
      refine TL_nil ?_
      refine T_ret ?_
      have hall : ∀ c ∈ strBytes s, nameByte c := by have := hi.2; rwa [List.take_of_length_le (by omega)] at this
      exact RetG_1 (.inl rfl) rfl (ResV.tmp rfl) GivesTo.g (⟨by rw [decide_eq_decide.2 (show isName s ↔ (s.size : Int) ≤ 32 from ⟨fun h => by have := h.2.2; omega, fun h => ⟨hall, by omega, by omega⟩⟩)], rfl⟩)
    · refine TL_gskip rfl rfl rfl rfl ?_
      refine TL_gskip rfl rfl rfl rfl ?_
      refine TL_gskip rfl rfl rfl rfl ?_
      refine TL_y rfl rfl (Y_pick_f rfl rfl) ?_
      refine TL_y rfl rfl (Y_assign rfl) ?_
      refine TL_nil ?_
      refine T_ret ?_
      have hall : ∀ c ∈ strBytes s, nameByte c := by have := hi.2; rwa [List.take_of_length_le (by omega)] at this
      exact RetG_1 (.inl rfl) rfl (ResV.tmp rfl) GivesTo.g (⟨by rw [decide_eq_false (fun h => h.2.1 (by omega))], rfl⟩)

/-- What reading a text from bytes comes to. -/
def RdT (bs : List Int) (most : Int) (s : ByteArray) (n e : Nat) : Prop :=
  (e = 0 ∧ (s.size : Int) ≤ most ∧ bs.take n = txt s ∧ n = (txt s).length ∧ n ≤ bs.length) ∨ (e = 10 ∧ s = ⟨#[]⟩ ∧ n = 0 ∧ ∀ s' : ByteArray, (s'.size : Int) ≤ most → ¬ txt s' <+: bs)
end Go.SL
