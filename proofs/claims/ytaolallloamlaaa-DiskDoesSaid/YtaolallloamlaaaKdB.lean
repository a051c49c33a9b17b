/- What the laws of this claim need, together: the logic, data in memory, the walks of functions. -/
import Derived.Test.YtaolallloamlaaaKdA
import Derived.Laws.OwnMore
import Derived.Maps.RangeRun
import Derived.Maps.Keyed
import Derived.Sort.Walk0
import Derived.RangeFuncRecord
set_option linter.unusedVariables false
set_option linter.unusedSimpArgs false
set_option linter.unusedVariables false
set_option linter.unusedSimpArgs false
namespace Go.SL
open Go Go.Proofs

/-- The bytes of a text. -/
def txt (s : ByteArray) : List Int := grp s.size ++ strBytes s

/-- May it be a name? -/
def nameByte (c : Int) : Prop := (97 ≤ c ∧ c ≤ 122) ∨ (48 ≤ c ∧ c ≤ 57) ∨ c = 45
instance (c : Int) : Decidable (nameByte c) := by unfold nameByte; exact inferInstance
def isName (s : ByteArray) : Prop := (∀ c ∈ strBytes s, nameByte c) ∧ s.size ≠ 0 ∧ s.size ≤ 32
instance (s : ByteArray) : Decidable (isName s) := by unfold isName; exact inferInstance
theorem take_next {α : Type} {p : α → Prop} {xs : List α} {i : Nat} {u : α} (h : ∀ c ∈ xs.take i, p c) (hu : xs[i]? = some u) (hp : p u) : ∀ c ∈ xs.take (i + 1), p c := by
  intro c hc
  rw [List.take_add_one, hu] at hc
  rcases List.mem_append.1 hc with hc | hc
  · exact h c hc
  · simp at hc; subst hc; exact hp
theorem not_name {s : ByteArray} {u : Int} {i : Nat} (hu : (strBytes s)[i]? = some u) (h : ¬ nameByte u) : ¬ isName s := fun ⟨k, _⟩ => h (k u (List.mem_of_getElem? hu))
theorem empty_eq (s : ByteArray) : s = ⟨#[]⟩ ↔ s.size = 0 := by
  constructor
  · rintro rfl; rfl
  · intro h
    cases s with
    | mk d =>
      have : d.size = 0 := h
      rw [Array.size_eq_zero_iff] at this
      rw [this]
theorem name_spec (L : List HP) (s : ByteArray) (hb : s.size ≤ maxEl) : Fn Try.prog 34 #[.string s] L (fun v L' => v = .bool (decide (isName s)) ∧ L' = L) := by
  have hsl := strBytes_length s
  refine Fn_enter Try.func34 rfl rfl rfl rfl ?_
  refine T_region ?_
  refine TL_y rfl rfl (Y_assign rfl) ?_
  refine TL_nil ?_
  refine T_seq ?_
  refine T_region ?_
  refine TL_y rfl rfl (Y_move rfl) ?_
  refine TL_str_bytes rfl rfl (hb) ?_
  intro A6 c6
  refine TL_y rfl rfl (Y_len rfl) ?_
  refine TL_y rfl rfl (Y_move rfl) ?_
  refine TL_nil ?_
  refine T_block ?_
  refine T_loopK (σ := Nat) [0, 6, 7] (fun i => i ≤ (strBytes s).length ∧ ∀ c ∈ (strBytes s).take i, nameByte c) (fun i kv => (8, .int .i64 (i : Int)) :: kv) (fun i => sl (intR .u8) A6 c6 (strBytes s) :: L) (fun i => (strBytes s).length - i) (0) rfl (⟨Nat.zero_le _, by simp⟩) (GivesTo.g) (sub_cons rfl (sub_cons rfl (sub_cons rfl (sub_cons rfl (sub_nil))))) ?_
  intro i hi
  refine T_region ?_
  refine TL_y rfl rfl (Y_lt rfl rfl) ?_
  refine TL_nil ?_
  refine T_seq ?_
  refine T_if rfl (fun h9 => ?_) (fun h9 => ?_)
  · refine T_skip ?_
    refine thenS_normal ?_
    refine T_seq ?_
    refine T_block ?_
    refine T_region ?_
    obtain ⟨u, hu⟩ : ∃ u, (strBytes s)[i]? = some u := ⟨_, List.getElem?_eq_getElem (by omega)⟩
    refine TL_index_int rfl rfl rfl slk hu ?_
    intro hi10 bi10 oi10
    have hu8 := u8In hi10
    refine TL_y rfl rfl (Y_load_row rfl rfl) ?_
    refine TL_y rfl rfl (Y_assign rfl) ?_
    refine TL_nil ?_
    refine T_region ?_
    refine TL_y rfl rfl (Y_move rfl) ?_
    refine TL_y rfl rfl (Y_lt rfl rfl) ?_
    refine TL_y rfl rfl (Y_move rfl) ?_
    refine TL_splitd 14 rfl (fun h14 => ?_) (fun h14 => ?_)
    · refine TL_gskip rfl rfl rfl rfl ?_
      refine TL_gskip rfl rfl rfl rfl ?_
      refine TL_y rfl rfl (Y_pick_t rfl rfl) ?_
      refine TL_y rfl rfl (Y_move rfl) ?_
      refine TL_grun rfl rfl ?_
      refine TL_y rfl rfl (Y_move rfl) ?_
      refine TL_grun rfl rfl ?_
      refine TL_y rfl rfl (Y_lt rfl rfl) ?_
      refine TL_grun rfl rfl ?_
      refine TL_y rfl rfl (Y_move rfl) ?_
      refine TL_splitd 21 rfl (fun h21 => ?_) (fun h21 => ?_)
      · refine TL_gskip rfl rfl rfl rfl ?_
        refine TL_gskip rfl rfl rfl rfl ?_
        refine TL_grun rfl rfl ?_
        refine TL_y rfl rfl (Y_pick_t rfl rfl) ?_
        refine TL_y rfl rfl (Y_pick_t rfl rfl) ?_
        refine TL_y rfl rfl (Y_move rfl) ?_
        refine TL_grun rfl rfl ?_
        refine TL_y rfl rfl (Y_move rfl) ?_
        refine TL_grun rfl rfl ?_
        refine TL_y rfl rfl (Y_ne rfl rfl) ?_
        refine TL_y rfl rfl (Y_pick_t rfl rfl) ?_
        refine TL_nil ?_
        refine T_if rfl (fun h29 => ?_) (fun h29 => ?_)
        · refine T_region ?_
          refine TL_y rfl rfl (Y_assign rfl) ?_
          refine TL_nil ?_
          refine T_ret ?_
          refine inB_ret ?_
          refine thenS_ret ?_
          refine thenS_ret ?_
          refine inB_ret ?_
          refine thenS_ret ?_
          exact RetG_1 (.inl rfl) rfl (ResV.tmp rfl) GivesTo.g (⟨by rw [decide_eq_false (not_name hu (by unfold nameByte; omega))], rfl⟩)
        · refine T_skip ?_
          refine inB_normal ?_
          refine thenS_normal ?_
          refine T_region_last ?_
          refine TL_y rfl rfl (Y_add rfl rfl (by simp only [maxEl] at hb; omega)) ?_
          refine TL_name 30 (v' := .int .i64 ((i + 1 : Nat) : Int)) rfl (rfl) ?_
          refine TL_y rfl rfl (Y_move rfl) ?_
          refine TL_nil ?_
          refine thenS_normal ?_
          exact ⟨i + 1, ⟨by omega, take_next hi.2 hu (by unfold nameByte; omega)⟩, by omega, holds_to (sub_cons rfl (sub_cons rfl (sub_cons rfl (sub_cons rfl (sub_nil))))) GivesTo.g⟩
      · refine TL_grun rfl rfl ?_
        refine TL_y rfl rfl (Y_move rfl) ?_
        refine TL_grun rfl rfl ?_
        refine TL_y rfl rfl (Y_gt rfl rfl) ?_
        refine TL_grun rfl rfl ?_
        refine TL_y rfl rfl (Y_pick_f rfl rfl) ?_
        refine TL_y rfl rfl (Y_pick_t rfl rfl) ?_
        refine TL_y rfl rfl (Y_move rfl) ?_
        refine TL_splitd 26 rfl (fun h26 => ?_) (fun h26 => ?_)
        · refine TL_grun rfl rfl ?_
          refine TL_y rfl rfl (Y_move rfl) ?_
          refine TL_grun rfl rfl ?_
          refine TL_y rfl rfl (Y_ne rfl rfl) ?_
          refine TL_y rfl rfl (Y_pick_t rfl rfl) ?_
          refine TL_nil ?_
          refine T_if rfl (fun h29 => ?_) (fun h29 => ?_)
          · refine T_region ?_
            refine TL_y rfl rfl (Y_assign rfl) ?_
            refine TL_nil ?_
            refine T_ret ?_
            refine inB_ret ?_
            refine thenS_ret ?_
            refine thenS_ret ?_
            refine inB_ret ?_
            refine thenS_ret ?_
            exact RetG_1 (.inl rfl) rfl (ResV.tmp rfl) GivesTo.g (⟨by rw [decide_eq_false (not_name hu (by unfold nameByte; omega))], rfl⟩)
          · refine T_skip ?_
            refine inB_normal ?_
            refine thenS_normal ?_
            refine T_region_last ?_
            refine TL_y rfl rfl (Y_add rfl rfl (by simp only [maxEl] at hb; omega)) ?_
            refine TL_name 30 (v' := .int .i64 ((i + 1 : Nat) : Int)) rfl (rfl) ?_
            refine TL_y rfl rfl (Y_move rfl) ?_
            refine TL_nil ?_
            refine thenS_normal ?_
            exact ⟨i + 1, ⟨by omega, take_next hi.2 hu (by unfold nameByte; omega)⟩, by omega, holds_to (sub_cons rfl (sub_cons rfl (sub_cons rfl (sub_cons rfl (sub_nil))))) GivesTo.g⟩
        · refine TL_gskip rfl rfl rfl rfl ?_
          refine TL_gskip rfl rfl rfl rfl ?_
          refine TL_y rfl rfl (Y_pick_f rfl rfl) ?_
          refine TL_nil ?_
          refine T_cond_false rfl ?_
          refine T_skip ?_
          refine inB_normal ?_
          refine thenS_normal ?_
          refine T_region_last ?_
          refine TL_y rfl rfl (Y_add rfl rfl (by simp only [maxEl] at hb; omega)) ?_
          refine TL_name 30 (v' := .int .i64 ((i + 1 : Nat) : Int)) rfl (rfl) ?_
          refine TL_y rfl rfl (Y_move rfl) ?_
          refine TL_nil ?_
          refine thenS_normal ?_
          exact ⟨i + 1, ⟨by omega, take_next hi.2 hu (by unfold nameByte; omega)⟩, by omega, holds_to (sub_cons rfl (sub_cons rfl (sub_cons rfl (sub_cons rfl (sub_nil))))) GivesTo.g⟩
    · refine TL_grun rfl rfl ?_
      refine TL_y rfl rfl (Y_move rfl) ?_
      refine TL_grun rfl rfl ?_
      refine TL_y rfl rfl (Y_gt rfl rfl) ?_
      refine TL_y rfl rfl (Y_pick_f rfl rfl) ?_
      refine TL_y rfl rfl (Y_move rfl) ?_
      refine TL_splitd 18 rfl (fun h18 => ?_) (fun h18 => ?_)
      · refine TL_grun rfl rfl ?_
        refine TL_y rfl rfl (Y_move rfl) ?_
        refine TL_grun rfl rfl ?_
        refine TL_y rfl rfl (Y_lt rfl rfl) ?_
        refine TL_grun rfl rfl ?_
        refine TL_y rfl rfl (Y_move rfl) ?_
        refine TL_splitd 21 rfl (fun h21 => ?_) (fun h21 => ?_)
        · refine TL_gskip rfl rfl rfl rfl ?_
          refine TL_gskip rfl rfl rfl rfl ?_
          refine TL_grun rfl rfl ?_
          refine TL_y rfl rfl (Y_pick_t rfl rfl) ?_
          refine TL_y rfl rfl (Y_pick_t rfl rfl) ?_
          refine TL_y rfl rfl (Y_move rfl) ?_
          refine TL_grun rfl rfl ?_
          refine TL_y rfl rfl (Y_move rfl) ?_
          refine TL_grun rfl rfl ?_
          refine TL_y rfl rfl (Y_ne rfl rfl) ?_
          refine TL_y rfl rfl (Y_pick_t rfl rfl) ?_
          refine TL_nil ?_
          refine T_if rfl (fun h29 => ?_) (fun h29 => ?_)
          · refine T_region ?_
            refine TL_y rfl rfl (Y_assign rfl) ?_
            refine TL_nil ?_
            refine T_ret ?_
            refine inB_ret ?_
            refine thenS_ret ?_
            refine thenS_ret ?_
            refine inB_ret ?_
            refine thenS_ret ?_
            exact RetG_1 (.inl rfl) rfl (ResV.tmp rfl) GivesTo.g (⟨by rw [decide_eq_false (not_name hu (by unfold nameByte; omega))], rfl⟩)
          · refine T_skip ?_
            refine inB_normal ?_
            refine thenS_normal ?_
            refine T_region_last ?_
            refine TL_y rfl rfl (Y_add rfl rfl (by simp only [maxEl] at hb; omega)) ?_
            refine TL_name 30 (v' := .int .i64 ((i + 1 : Nat) : Int)) rfl (rfl) ?_
            refine TL_y rfl rfl (Y_move rfl) ?_
            refine TL_nil ?_
            refine thenS_normal ?_
            exact ⟨i + 1, ⟨by omega, take_next hi.2 hu (by unfold nameByte; omega)⟩, by omega, holds_to (sub_cons rfl (sub_cons rfl (sub_cons rfl (sub_cons rfl (sub_nil))))) GivesTo.g⟩
        · refine TL_grun rfl rfl ?_
          refine TL_y rfl rfl (Y_move rfl) ?_
          refine TL_grun rfl rfl ?_
          refine TL_y rfl rfl (Y_gt rfl rfl) ?_
          refine TL_grun rfl rfl ?_
          refine TL_y rfl rfl (Y_pick_f rfl rfl) ?_
          refine TL_y rfl rfl (Y_pick_t rfl rfl) ?_
          refine TL_y rfl rfl (Y_move rfl) ?_
          refine TL_splitd 26 rfl (fun h26 => ?_) (fun h26 => ?_)
          · refine TL_grun rfl rfl ?_
            refine TL_y rfl rfl (Y_move rfl) ?_
            refine TL_grun rfl rfl ?_
            refine TL_y rfl rfl (Y_ne rfl rfl) ?_
            refine TL_y rfl rfl (Y_pick_t rfl rfl) ?_
            refine TL_nil ?_
            refine T_if rfl (fun h29 => ?_) (fun h29 => ?_)
            · refine T_region ?_
              refine TL_y rfl rfl (Y_assign rfl) ?_
              refine TL_nil ?_
              refine T_ret ?_
              refine inB_ret ?_
              refine thenS_ret ?_
              refine thenS_ret ?_
              refine inB_ret ?_
              refine thenS_ret ?_
              exact RetG_1 (.inl rfl) rfl (ResV.tmp rfl) GivesTo.g (⟨by rw [decide_eq_false (not_name hu (by unfold nameByte; omega))], rfl⟩)
            · refine T_skip ?_
              refine inB_normal ?_
              refine thenS_normal ?_
              refine T_region_last ?_
              refine TL_y rfl rfl (Y_add rfl rfl (by simp only [maxEl] at hb; omega)) ?_
              refine TL_name 30 (v' := .int .i64 ((i + 1 : Nat) : Int)) rfl (rfl) ?_
              refine TL_y rfl rfl (Y_move rfl) ?_
              refine TL_nil ?_
              refine thenS_normal ?_
              exact ⟨i + 1, ⟨by omega, take_next hi.2 hu (by unfold nameByte; omega)⟩, by omega, holds_to (sub_cons rfl (sub_cons rfl (sub_cons rfl (sub_cons rfl (sub_nil))))) GivesTo.g⟩
          · refine TL_gskip rfl rfl rfl rfl ?_
            refine TL_gskip rfl rfl rfl rfl ?_
            refine TL_y rfl rfl (Y_pick_f rfl rfl) ?_
            refine TL_nil ?_
            refine T_cond_false rfl ?_
            refine T_skip ?_
            refine inB_normal ?_
            refine thenS_normal ?_
            refine T_region_last ?_
            refine TL_y rfl rfl (Y_add rfl rfl (by simp only [maxEl] at hb; omega)) ?_
            refine TL_name 30 (v' := .int .i64 ((i + 1 : Nat) : Int)) rfl (rfl) ?_
            refine TL_y rfl rfl (Y_move rfl) ?_
            refine TL_nil ?_
            refine thenS_normal ?_
            exact ⟨i + 1, ⟨by omega, take_next hi.2 hu (by unfold nameByte; omega)⟩, by omega, holds_to (sub_cons rfl (sub_cons rfl (sub_cons rfl (sub_cons rfl (sub_nil))))) GivesTo.g⟩
      · refine TL_gskip rfl rfl rfl rfl ?_
        refine TL_gskip rfl rfl rfl rfl ?_
        refine TL_gskip rfl rfl rfl rfl ?_
        refine TL_gskip_u rfl rfl rfl ?_
        refine TL_gskip_u rfl rfl rfl ?_
        refine TL_gskip rfl rfl rfl rfl ?_
        refine TL_y rfl rfl (Y_pick_f rfl rfl) ?_
        refine TL_y rfl rfl (Y_move rfl) ?_
        refine TL_gskip rfl rfl rfl rfl ?_
        refine TL_gskip rfl rfl rfl rfl ?_
        refine TL_y rfl rfl (Y_pick_f rfl rfl) ?_
        refine TL_nil ?_
        refine T_cond_false rfl ?_
        refine T_skip ?_
        refine inB_normal ?_
        refine thenS_normal ?_
        refine T_region_last ?_
        refine TL_y rfl rfl (Y_add rfl rfl (by simp only [maxEl] at hb; omega)) ?_
        refine TL_name 30 (v' := .int .i64 ((i + 1 : Nat) : Int)) rfl (rfl) ?_
        refine TL_y rfl rfl (Y_move rfl) ?_
        refine TL_nil ?_
        refine thenS_normal ?_
        exact ⟨i + 1, ⟨by omega, take_next hi.2 hu (by unfold nameByte; omega)⟩, by omega, holds_to (sub_cons rfl (sub_cons rfl (sub_cons rfl (sub_cons rfl (sub_nil))))) GivesTo.g⟩
  · refine T_exit ?_
    refine thenS_exit ?_
    refine thenS_exit ?_
    refine inB_hit ?_
    refine thenS_normal ?_
    refine T_region ?_
    refine TL_y rfl rfl (Y_move rfl) ?_
    refine TL_y rfl rfl (Y_str_ne rfl rfl) ?_
    refine TL_y rfl rfl (Y_move rfl) ?_
    refine TL_splitd 33 rfl (fun h33 => ?_) (fun h33 => ?_)
    · refine TL_grun rfl rfl ?_
      refine TL_y rfl rfl (Y_move rfl) ?_
      refine TL_grun rfl rfl ?_
      refine TL_y rfl rfl (Y_len_str rfl) ?_
      refine TL_grun rfl rfl ?_
      refine TL_y rfl rfl (Y_le rfl rfl) ?_
      refine TL_y rfl rfl (Y_pick_t rfl rfl) ?_
      refine TL_y rfl rfl (Y_assign rfl) ?_
      refine TL_nil ?_
      refine T_ret ?_
      have hall : ∀ c ∈ strBytes s, nameByte c := by have := hi.2; rwa [List.take_of_length_le (by omega)] at this
      exact RetG_1 (.inl rfl) rfl (ResV.tmp rfl) GivesTo.g (⟨by rw [decide_eq_decide.2 (show isName s ↔ (s.size : Int) ≤ 32 from ⟨fun h => by have := h.2.2; omega, fun h => ⟨hall, fun e => h33 ((empty_eq s).2 e), by omega⟩⟩)], rfl⟩)
    · refine TL_gskip rfl rfl rfl rfl ?_
      refine TL_gskip rfl rfl rfl rfl ?_
      refine TL_gskip rfl rfl rfl rfl ?_
      refine TL_y rfl rfl (Y_pick_f rfl rfl) ?_
      refine TL_y rfl rfl (Y_assign rfl) ?_
      refine TL_nil ?_
      refine T_ret ?_
      have hall : ∀ c ∈ strBytes s, nameByte c := by have := hi.2; rwa [List.take_of_length_le (by omega)] at this
      exact RetG_1 (.inl rfl) rfl (ResV.tmp rfl) GivesTo.g (⟨by rw [decide_eq_false (fun h => h.2.1 ((empty_eq s).1 (Classical.not_not.1 h33)))], rfl⟩)

theorem refName_spec (L : List HP) (s : ByteArray) (hb : s.size ≤ maxEl) : Fn Try.prog 42 #[.string s] L (fun v L' => v = .bool (decide (isName s)) ∧ L' = L) := by
  have hsl := strBytes_length s
  refine Fn_enter Try.func42 rfl rfl rfl rfl ?_
  refine T_region ?_
  refine TL_y rfl rfl (Y_assign rfl) ?_
  refine TL_nil ?_
  refine T_seq ?_
  refine T_region ?_
  refine TL_y rfl rfl (Y_assign rfl) ?_
  refine TL_nil ?_
  refine T_block ?_
  refine T_loopK (σ := Nat) [0] (fun i => i ≤ (strBytes s).length ∧ ∀ c ∈ (strBytes s).take i, nameByte c) (fun i kv => (3, .int .i64 (i : Int)) :: kv) (fun i => L) (fun i => (strBytes s).length - i) (0) rfl (⟨Nat.zero_le _, by simp⟩) (GivesTo.g) (sub_cons rfl (sub_cons rfl (sub_nil))) ?_
  intro i hi
  refine T_seq ?_
  refine T_region ?_
  refine TL_y rfl rfl (Y_move rfl) ?_
  refine TL_y rfl rfl (Y_move rfl) ?_
  refine TL_y rfl rfl (Y_len_str rfl) ?_
  refine TL_y rfl rfl (Y_lt rfl rfl) ?_
  refine TL_nil ?_
  refine T_if rfl (fun h8 => ?_) (fun h8 => ?_)
  · refine T_skip ?_
    refine thenS_normal ?_
    refine T_seq ?_
    refine T_block ?_
    refine T_region ?_
    refine TL_y rfl rfl (Y_move rfl) ?_
    refine TL_y rfl rfl (Y_move rfl) ?_
    obtain ⟨u, hu⟩ : ∃ u, (strBytes s)[i]? = some u := ⟨_, List.getElem?_eq_getElem (by omega)⟩
    refine TL_y rfl rfl (Y_index_s rfl rfl hu) ?_
    have hu8 := strBytes_in hu
    refine TL_y rfl rfl (Y_assign rfl) ?_
    refine TL_nil ?_
    refine T_region ?_
    refine TL_y rfl rfl (Y_move rfl) ?_
    refine TL_y rfl rfl (Y_lt rfl rfl) ?_
    refine TL_y rfl rfl (Y_move rfl) ?_
    refine TL_splitd 16 rfl (fun h16 => ?_) (fun h16 => ?_)
    · refine TL_gskip rfl rfl rfl rfl ?_
      refine TL_gskip rfl rfl rfl rfl ?_
      refine TL_y rfl rfl (Y_pick_t rfl rfl) ?_
      refine TL_y rfl rfl (Y_move rfl) ?_
      refine TL_grun rfl rfl ?_
      refine TL_y rfl rfl (Y_move rfl) ?_
      refine TL_grun rfl rfl ?_
      refine TL_y rfl rfl (Y_lt rfl rfl) ?_
      refine TL_grun rfl rfl ?_
      refine TL_y rfl rfl (Y_move rfl) ?_
      refine TL_splitd 23 rfl (fun h23 => ?_) (fun h23 => ?_)
      · refine TL_gskip rfl rfl rfl rfl ?_
        refine TL_gskip rfl rfl rfl rfl ?_
        refine TL_grun rfl rfl ?_
        refine TL_y rfl rfl (Y_pick_t rfl rfl) ?_
        refine TL_y rfl rfl (Y_pick_t rfl rfl) ?_
        refine TL_y rfl rfl (Y_move rfl) ?_
        refine TL_grun rfl rfl ?_
        refine TL_y rfl rfl (Y_move rfl) ?_
        refine TL_grun rfl rfl ?_
        refine TL_y rfl rfl (Y_ne rfl rfl) ?_
        refine TL_y rfl rfl (Y_pick_t rfl rfl) ?_
        refine TL_nil ?_
        refine T_if rfl (fun h31 => ?_) (fun h31 => ?_)
        · refine T_region ?_
          refine TL_y rfl rfl (Y_assign rfl) ?_
          refine TL_nil ?_
          refine T_ret ?_
          refine inB_ret ?_
          refine thenS_ret ?_
          refine thenS_ret ?_
          refine inB_ret ?_
          refine thenS_ret ?_
          exact RetG_1 (.inl rfl) rfl (ResV.tmp rfl) GivesTo.g (⟨by rw [decide_eq_false (not_name hu (by unfold nameByte; omega))], rfl⟩)
        · refine T_skip ?_
          refine inB_normal ?_
          refine thenS_normal ?_
          refine T_region_last ?_
          refine TL_y rfl rfl (Y_move rfl) ?_
          refine TL_y rfl rfl (Y_add rfl rfl (by simp only [maxEl] at hb; omega)) ?_
          refine TL_name 10 (v' := .int .i64 ((i + 1 : Nat) : Int)) rfl (rfl) ?_
          refine TL_y rfl rfl (Y_assign rfl) ?_
          refine TL_nil ?_
          refine thenS_normal ?_
          exact ⟨i + 1, ⟨by omega, take_next hi.2 hu (by unfold nameByte; omega)⟩, by omega, holds_to (sub_cons rfl (sub_cons rfl (sub_nil))) GivesTo.g⟩
      · refine TL_grun rfl rfl ?_
        refine TL_y rfl rfl (Y_move rfl) ?_
        refine TL_grun rfl rfl ?_
        refine TL_y rfl rfl (Y_gt rfl rfl) ?_
        refine TL_grun rfl rfl ?_
        refine TL_y rfl rfl (Y_pick_f rfl rfl) ?_
        refine TL_y rfl rfl (Y_pick_t rfl rfl) ?_
        refine TL_y rfl rfl (Y_move rfl) ?_
        refine TL_splitd 28 rfl (fun h28 => ?_) (fun h28 => ?_)
        · refine TL_grun rfl rfl ?_
          refine TL_y rfl rfl (Y_move rfl) ?_
          refine TL_grun rfl rfl ?_
          refine TL_y rfl rfl (Y_ne rfl rfl) ?_
          refine TL_y rfl rfl (Y_pick_t rfl rfl) ?_
          refine TL_nil ?_
          refine T_if rfl (fun h31 => ?_) (fun h31 => ?_)
          · refine T_region ?_
            refine TL_y rfl rfl (Y_assign rfl) ?_
            refine TL_nil ?_
            refine T_ret ?_
            refine inB_ret ?_
            refine thenS_ret ?_
            refine thenS_ret ?_
            refine inB_ret ?_
            refine thenS_ret ?_
            exact RetG_1 (.inl rfl) rfl (ResV.tmp rfl) GivesTo.g (⟨by rw [decide_eq_false (not_name hu (by unfold nameByte; omega))], rfl⟩)
          · refine T_skip ?_
            refine inB_normal ?_
            refine thenS_normal ?_
            refine T_region_last ?_
            refine TL_y rfl rfl (Y_move rfl) ?_
            refine TL_y rfl rfl (Y_add rfl rfl (by simp only [maxEl] at hb; omega)) ?_
            refine TL_name 10 (v' := .int .i64 ((i + 1 : Nat) : Int)) rfl (rfl) ?_
            refine TL_y rfl rfl (Y_assign rfl) ?_
            refine TL_nil ?_
            refine thenS_normal ?_
            exact ⟨i + 1, ⟨by omega, take_next hi.2 hu (by unfold nameByte; omega)⟩, by omega, holds_to (sub_cons rfl (sub_cons rfl (sub_nil))) GivesTo.g⟩
        · refine TL_gskip rfl rfl rfl rfl ?_
          refine TL_gskip rfl rfl rfl rfl ?_
          refine TL_y rfl rfl (Y_pick_f rfl rfl) ?_
          refine TL_nil ?_
          refine T_cond_false rfl ?_
          refine T_skip ?_
          refine inB_normal ?_
          refine thenS_normal ?_
          refine T_region_last ?_
          refine TL_y rfl rfl (Y_move rfl) ?_
          refine TL_y rfl rfl (Y_add rfl rfl (by simp only [maxEl] at hb; omega)) ?_
          refine TL_name 10 (v' := .int .i64 ((i + 1 : Nat) : Int)) rfl (rfl) ?_
          refine TL_y rfl rfl (Y_assign rfl) ?_
          refine TL_nil ?_
          refine thenS_normal ?_
          exact ⟨i + 1, ⟨by omega, take_next hi.2 hu (by unfold nameByte; omega)⟩, by omega, holds_to (sub_cons rfl (sub_cons rfl (sub_nil))) GivesTo.g⟩
    · refine TL_grun rfl rfl ?_
      refine TL_y rfl rfl (Y_move rfl) ?_
      refine TL_grun rfl rfl ?_
      refine TL_y rfl rfl (Y_gt rfl rfl) ?_
      refine TL_y rfl rfl (Y_pick_f rfl rfl) ?_
      refine TL_y rfl rfl (Y_move rfl) ?_
      refine TL_splitd 20 rfl (fun h20 => ?_) (fun h20 => ?_)
      · refine TL_grun rfl rfl ?_
        refine TL_y rfl rfl (Y_move rfl) ?_
        refine TL_grun rfl rfl ?_
        refine TL_y rfl rfl (Y_lt rfl rfl) ?_
        refine TL_grun rfl rfl ?_
        refine TL_y rfl rfl (Y_move rfl) ?_
        refine TL_splitd 23 rfl (fun h23 => ?_) (fun h23 => ?_)
        · refine TL_gskip rfl rfl rfl rfl ?_
          refine TL_gskip rfl rfl rfl rfl ?_
          refine TL_grun rfl rfl ?_
          refine TL_y rfl rfl (Y_pick_t rfl rfl) ?_
          refine TL_y rfl rfl (Y_pick_t rfl rfl) ?_
          refine TL_y rfl rfl (Y_move rfl) ?_
          refine TL_grun rfl rfl ?_
          refine TL_y rfl rfl (Y_move rfl) ?_
          refine TL_grun rfl rfl ?_
          refine TL_y rfl rfl (Y_ne rfl rfl) ?_
          refine TL_y rfl rfl (Y_pick_t rfl rfl) ?_
          refine TL_nil ?_
          refine T_if rfl (fun h31 => ?_) (fun h31 => ?_)
          · refine T_region ?_
            refine TL_y rfl rfl (Y_assign rfl) ?_
            refine TL_nil ?_
            refine T_ret ?_
            refine inB_ret ?_
            refine thenS_ret ?_
            refine thenS_ret ?_
            refine inB_ret ?_
            refine thenS_ret ?_
            exact RetG_1 (.inl rfl) rfl (ResV.tmp rfl) GivesTo.g (⟨by rw [decide_eq_false (not_name hu (by unfold nameByte; omega))], rfl⟩)
          · refine T_skip ?_
            refine inB_normal ?_
            refine thenS_normal ?_
            refine T_region_last ?_
            refine TL_y rfl rfl (Y_move rfl) ?_
            refine TL_y rfl rfl (Y_add rfl rfl (by simp only [maxEl] at hb; omega)) ?_
            refine TL_name 10 (v' := .int .i64 ((i + 1 : Nat) : Int)) rfl (rfl) ?_
            refine TL_y rfl rfl (Y_assign rfl) ?_
            refine TL_nil ?_
            refine thenS_normal ?_
            exact ⟨i + 1, ⟨by omega, take_next hi.2 hu (by unfold nameByte; omega)⟩, by omega, holds_to (sub_cons rfl (sub_cons rfl (sub_nil))) GivesTo.g⟩
        · refine TL_grun rfl rfl ?_
          refine TL_y rfl rfl (Y_move rfl) ?_
          refine TL_grun rfl rfl ?_
          refine TL_y rfl rfl (Y_gt rfl rfl) ?_
          refine TL_grun rfl rfl ?_
          refine TL_y rfl rfl (Y_pick_f rfl rfl) ?_
          refine TL_y rfl rfl (Y_pick_t rfl rfl) ?_
          refine TL_y rfl rfl (Y_move rfl) ?_
          refine TL_splitd 28 rfl (fun h28 => ?_) (fun h28 => ?_)
          · refine TL_grun rfl rfl ?_
            refine TL_y rfl rfl (Y_move rfl) ?_
            refine TL_grun rfl rfl ?_
            refine TL_y rfl rfl (Y_ne rfl rfl) ?_
            refine TL_y rfl rfl (Y_pick_t rfl rfl) ?_
            refine TL_nil ?_
            refine T_if rfl (fun h31 => ?_) (fun h31 => ?_)
            · refine T_region ?_
              refine TL_y rfl rfl (Y_assign rfl) ?_
              refine TL_nil ?_
              refine T_ret ?_
              refine inB_ret ?_
              refine thenS_ret ?_
              refine thenS_ret ?_
              refine inB_ret ?_
              refine thenS_ret ?_
              exact RetG_1 (.inl rfl) rfl (ResV.tmp rfl) GivesTo.g (⟨by rw [decide_eq_false (not_name hu (by unfold nameByte; omega))], rfl⟩)
            · refine T_skip ?_
              refine inB_normal ?_
              refine thenS_normal ?_
              refine T_region_last ?_
              refine TL_y rfl rfl (Y_move rfl) ?_
              refine TL_y rfl rfl (Y_add rfl rfl (by simp only [maxEl] at hb; omega)) ?_
              refine TL_name 10 (v' := .int .i64 ((i + 1 : Nat) : Int)) rfl (rfl) ?_
              refine TL_y rfl rfl (Y_assign rfl) ?_
              refine TL_nil ?_
              refine thenS_normal ?_
              exact ⟨i + 1, ⟨by omega, take_next hi.2 hu (by unfold nameByte; omega)⟩, by omega, holds_to (sub_cons rfl (sub_cons rfl (sub_nil))) GivesTo.g⟩
          · refine TL_gskip rfl rfl rfl rfl ?_
            refine TL_gskip rfl rfl rfl rfl ?_
            refine TL_y rfl rfl (Y_pick_f rfl rfl) ?_
            refine TL_nil ?_
            refine T_cond_false rfl ?_
            refine T_skip ?_
            refine inB_normal ?_
            refine thenS_normal ?_
            refine T_region_last ?_
            refine TL_y rfl rfl (Y_move rfl) ?_
            refine TL_y rfl rfl (Y_add rfl rfl (by simp only [maxEl] at hb; omega)) ?_
            refine TL_name 10 (v' := .int .i64 ((i + 1 : Nat) : Int)) rfl (rfl) ?_
            refine TL_y rfl rfl (Y_assign rfl) ?_
            refine TL_nil ?_
            refine thenS_normal ?_
            exact ⟨i + 1, ⟨by omega, take_next hi.2 hu (by unfold nameByte; omega)⟩, by omega, holds_to (sub_cons rfl (sub_cons rfl (sub_nil))) GivesTo.g⟩
      · refine TL_gskip rfl rfl rfl rfl ?_
        refine TL_gskip rfl rfl rfl rfl ?_
        refine TL_gskip rfl rfl rfl rfl ?_
        refine TL_gskip_u rfl rfl rfl ?_
        refine TL_gskip_u rfl rfl rfl ?_
        refine TL_gskip rfl rfl rfl rfl ?_
        refine TL_y rfl rfl (Y_pick_f rfl rfl) ?_
        refine TL_y rfl rfl (Y_move rfl) ?_
        refine TL_gskip rfl rfl rfl rfl ?_
        refine TL_gskip rfl rfl rfl rfl ?_
        refine TL_y rfl rfl (Y_pick_f rfl rfl) ?_
        refine TL_nil ?_
        refine T_cond_false rfl ?_
        refine T_skip ?_
        refine inB_normal ?_
        refine thenS_normal ?_
        refine T_region_last ?_
        refine TL_y rfl rfl (Y_move rfl) ?_
        refine TL_y rfl rfl (Y_add rfl rfl (by simp only [maxEl] at hb; omega)) ?_
        refine TL_name 10 (v' := .int .i64 ((i + 1 : Nat) : Int)) rfl (rfl) ?_
        refine TL_y rfl rfl (Y_assign rfl) ?_
        refine TL_nil ?_
        refine thenS_normal ?_
        exact ⟨i + 1, ⟨by omega, take_next hi.2 hu (by unfold nameByte; omega)⟩, by omega, holds_to (sub_cons rfl (sub_cons rfl (sub_nil))) GivesTo.g⟩
  · refine T_exit ?_
    refine thenS_exit ?_
    refine thenS_exit ?_
    refine inB_hit ?_
    refine thenS_normal ?_
    refine T_region ?_
    refine TL_y rfl rfl (Y_move rfl) ?_
    refine TL_y rfl rfl (Y_len_str rfl) ?_
    refine TL_y rfl rfl (Y_ge rfl rfl) ?_
    refine TL_y rfl rfl (Y_move rfl) ?_
    refine TL_splitd 35 rfl (fun h35 => ?_) (fun h35 => ?_)
    · refine TL_grun rfl rfl ?_
      refine TL_y rfl rfl (Y_move rfl) ?_
      refine TL_grun rfl rfl ?_
      refine TL_y rfl rfl (Y_len_str rfl) ?_
      refine TL_grun rfl rfl ?_
      refine TL_y rfl rfl (Y_le rfl rfl) ?_
      refine TL_y rfl rfl (Y_pick_t rfl rfl) ?_
      refine TL_y rfl rfl (Y_assign rfl) ?_
      refine TL_nil ?_
      refine T_ret ?_
      have hall : ∀ c ∈ strBytes s, nameByte c := by have := hi.2; rwa [List.take_of_length_le (by omega)] at this
      exact RetG_1 (.inl rfl) rfl (ResV.tmp rfl) GivesTo.g (⟨by rw [decide_eq_decide.2 (show isName s ↔ (s.size : Int) ≤ 32 from ⟨fun h => by have := h.2.2; omega, fun h => ⟨hall, by omega, by omega⟩⟩)], rfl⟩)
    · refine TL_gskip rfl rfl rfl rfl ?_
      refine TL_gskip rfl rfl rfl rfl ?_
      refine TL_gskip rfl rfl rfl rfl ?_
      refine TL_y rfl rfl (Y_pick_f rfl rfl) ?_
      refine TL_y rfl rfl (Y_assign rfl) ?_
      refine TL_nil ?_
      refine T_ret ?_
      have hall : ∀ c ∈ strBytes s, nameByte c := by have := hi.2; rwa [List.take_of_length_le (by omega)] at this
      exact RetG_1 (.inl rfl) rfl (ResV.tmp rfl) GivesTo.g (⟨by rw [decide_eq_false (fun h => h.2.1 (by omega))], rfl⟩)

/-- What reading a text from bytes comes to. -/
def RdT (bs : List Int) (most : Int) (s : ByteArray) (n e : Nat) : Prop :=
  (e = 0 ∧ (s.size : Int) ≤ most ∧ bs.take n = txt s ∧ n = (txt s).length ∧ n ≤ bs.length) ∨ (e = 10 ∧ s = ⟨#[]⟩ ∧ n = 0 ∧ ∀ s' : ByteArray, (s'.size : Int) ≤ most → ¬ txt s' <+: bs)
end Go.SL
set_option linter.unusedVariables false
set_option linter.unusedSimpArgs false
namespace Go.SL
open Go
section
variable {r : Option Nat} {n : Nat} {P : Program} {ops : Array Oper} {rest : List Oper} {K : St → Prop} {Q : Exit → St → Prop} {D : List Deferred} {E : Env} {L L' : List HP} {d : Nat} {ty : TypeId} {pos : String} {af : Array Edge}
end
end Go.SL
set_option linter.unusedVariables false
set_option linter.unusedSimpArgs false
namespace Go.SL
open Go
theorem sep_app {M : Mem} {B : List HP} : ∀ {A : List HP} {h : Mem}, Sep A M Mem.emp → Sep B M h → Sep (A ++ B) M h
  | [], h, _, hb => hb
  | p :: A, h, ⟨h1, h2, _, l1, l2, hp, hs⟩, hb => ⟨Mem.emp, h, Mem.emp_disj _, Mem.emp_le _, Mem.le_refl _, p.mono (Mem.le_refl _) l1 hp, sep_app (Sep.mono (Mem.le_refl _) l2 hs) hb⟩
/-- Data whose cells tell where the rest lies: f, with the assertions g. -/
def exR {α β : Type} (sz : Nat) (f : α → β → List Value) (g : α → β → List HP) (ok : α → Prop) (hlen : ∀ x p, (f x p).length = sz) (hone : ∀ x p, oneN (f x p) = true) : Rep α :=
  ⟨sz, fun M x cs => ∃ p, cs = f x p ∧ Sep (g x p) M Mem.emp ∧ ok x, fun hM ⟨p, e, hs, h⟩ => ⟨p, e, Sep.mono hM (Mem.le_refl _) hs, h⟩, fun ⟨p, e, _, _⟩ => by rw [e]; exact hlen _ _, fun ⟨p, e, _, _⟩ v hv => by rw [e] at hv; exact oneN_mem (hone _ _) v hv⟩
section
variable {r : Option Nat} {n : Nat} {P : Program} {ops : Array Oper} {rest : List Oper} {K : St → Prop} {Q : Exit → St → Prop} {D : List Deferred} {E : Env} {L L' : List HP}
variable {α β : Type} {sz : Nat} {f : α → β → List Value} {g : α → β → List HP} {ok : α → Prop} {hlen : ∀ x p, (f x p).length = sz} {hone : ∀ x p, oneN (f x p) = true}
end
end Go.SL
set_option linter.unusedVariables false
set_option linter.unusedSimpArgs false
namespace Go.SL
open Go
/-- In all states of L the cells from place o of block b on are l. -/
def AtL (L : List HP) (b o : Nat) (l : List Value) : Prop := ∀ W w, Sat W w L → ∀ j v, l[j]? = some v → w.cell? ⟨b, o + j, none⟩ = some v
/-- Whose cells are known by what they say. -/
class RepF {α : Type} (R : Rep α) (f : outParam (α → List Value)) : Prop where
  e : ∀ M x cs, R.rep M x cs → cs = f x
instance {k : IntKind} : RepF (intR k) (fun x => [.int k x]) := ⟨fun _ _ _ h => h.1⟩
instance : RepF boolR (fun x => [.bool x]) := ⟨fun _ _ _ h => h⟩
instance : RepF strR (fun x => [.string x]) := ⟨fun _ _ _ h => h.1⟩
section
variable {r : Option Nat} {n : Nat} {P : Program} {ops : Array Oper} {rest : List Oper} {K : St → Prop} {Q : Exit → St → Prop} {D : List Deferred} {E : Env} {L L' : List HP} {d : Nat} {ty : TypeId} {pos : String} {af : Array Edge}
theorem AtL.gives {b o : Nat} {l : List Value} (g : Gives L L') (h : AtL L' b o l) : AtL L b o l := fun W w hs => h W w (hs.gives g)
variable {α : Type} {R : Rep α} {A : Option Addr} {c : Nat} {xs : List α}
/-! ### One element laid open -/
def oslxAt (M h : Mem) (R : Rep α) (t : TypeId) (g c : Nat) (xs : List α) (i : Nat) (l : List Value) : Prop :=
  ∃ cur, h g = some (.cells cur t (0, 0)) ∧ cur.size = c * R.sz ∧ xs.length ≤ c ∧ c ≤ 9223372036854775807 ∧ xs.length ≤ maxEl ∧ i < xs.length ∧ l.length = R.sz ∧
    (∀ k x, k ≠ i → xs[k]? = some x → ∃ l, R.rep M x l ∧ ∀ j v, l[j]? = some v → cur[k * R.sz + j]? = some v) ∧ (∀ j v, l[j]? = some v → cur[i * R.sz + j]? = some v)
def oslx (R : Rep α) (t : TypeId) (g c : Nat) (xs : List α) (i : Nat) (l : List Value) : HP :=
  ⟨fun M h => oslxAt M h R t g c xs i l, fun hM hh ⟨cur, a1, a2, a3, a4, a5, a6, a7, a8, a9⟩ => ⟨cur, hh _ _ a1, a2, a3, a4, a5, a6, a7, fun k x hk hx => let ⟨l, hl, hc⟩ := a8 k x hk hx; ⟨l, R.mono hM hl, hc⟩, a9⟩⟩
class FindX (L : List HP) (g : Nat) (α : outParam Type) (R : outParam (Rep α)) (t : outParam TypeId) (c : outParam Nat) (xs : outParam (List α)) (i : outParam Nat) (l : outParam (List Value)) (L' : outParam (List HP)) : Prop where
  g : Gives L (oslx R t g c xs i l :: L')
instance findX_tail {p : HP} {L L' : List HP} {g : Nat} {α : Type} {R : Rep α} {t : TypeId} {c : Nat} {xs : List α} {i : Nat} {l : List Value} [h : FindX L g α R t c xs i l L'] : FindX (p :: L) g α R t c xs i l (p :: L') := ⟨(Gives.cons p h.g).trans (Gives.swap p _ _)⟩
instance findX_head {L : List HP} {g : Nat} {α : Type} {R : Rep α} {t : TypeId} {c : Nat} {xs : List α} {i : Nat} {l : List Value} : FindX (oslx R t g c xs i l :: L) g α R t c xs i l L := ⟨Gives.refl _⟩
theorem focus_osl {t : TypeId} {i : Nat} {x : α} (hx : xs[i]? = some x) {W w : World} (hs : Sat W w (osl R t A c xs :: L)) : ∃ g l, A = some ⟨g, 0, none⟩ ∧ l.length = R.sz ∧ Sat W w (oslx R t g c xs i l :: is R x l :: L) := by
  obtain ⟨M, k, hd, hM, hk, h1, h2, hd', l1, l2, hp, hsep⟩ := hs.ex
  rcases hp.2 with ⟨_, rfl⟩ | ⟨g, cur, rfl, hg, hsz, hle, hc, hall⟩
  · simp at hx
  · obtain ⟨l, hl, hcu⟩ := hall i x hx
    exact ⟨g, l, rfl, R.len hl, ⟨M, k, hd, hM, hk, h1, h2, hd', l1, l2, ⟨cur, hg, hsz, hle, hc, hp.1, (List.getElem?_eq_some_iff.1 hx).1, R.len hl, fun k x _ hx => hall k x hx, hcu⟩, Mem.emp, h2, Mem.emp_disj _, Mem.emp_le _, Mem.le_refl _, hl, hsep⟩, hs.os, hs.tape, hs.output, hs.size⟩
theorem T_focus {te : TypeId} {L0 : List HP} [ho : FindO L A c α R te xs L0] {i : Nat} {x : α} {c' : Code} (hx : xs[i]? = some x) (h : ∀ g l, A = some ⟨g, 0, none⟩ → l.length = R.sz → T r n P c' ⟨D, E, oslx R te g c xs i l :: is R x l :: L0⟩ Q) : T r n P c' ⟨D, E, L⟩ Q := fun W a w hh => by
  obtain ⟨g, l, hA, hl, hs⟩ := focus_osl hx (hh.2.gives ho.g)
  exact h g l hA hl W a w ⟨hh.1, hs⟩
theorem x_cells {t : TypeId} {g i : Nat} {l : List Value} {o w : World} (h : Sat o w (oslx R t g c xs i l :: L)) : ∀ j v, l[j]? = some v → w.cell? ⟨g, i * R.sz + j, none⟩ = some v := fun j v hj => by
  obtain ⟨M, k, hd, hM, hk, h1, h2, hd', l1, l2, ⟨cur, hg, _, _, _, _, _, _, _, hc⟩, hs⟩ := h.ex
  rw [cell_of (hk _ _ (l1 _ _ hg))]
  exact hc j v hj
theorem Y_load_x {x : Operand} {t te : TypeId} {g i j : Nat} {l : List Value} {v : Value} {L0 : List HP} [ht : TyAgg P t false] [hc : FindX L g α R te c xs i l L0] (hx : ev E x = some (.pointer (some ⟨g, i * R.sz + j, none⟩))) (hv : cellN l j = some v) : Yl P E L (.load t x) ty v := fun n D W a w dst pos af gd ha hs => by
  simp only [execOp, ha.ev hx, Instr.loadAt, Instr.sureAddr, Sem.run_bind, Sem.run_pure, Result.andThen_ok, run_loadVar_one (x_cells (hs.gives hc.g) j v (cellN_eq hv))]
theorem TL_store_x {x y : Operand} {t te : TypeId} {g i j m : Nat} {l l' vs : List Value} {v : Value} {L0 : List HP} [hz : TySize P t m] [hc : FindX L g α R te c xs i l L0] (hx : ev E x = some (.pointer (some ⟨g, i * R.sz + j, none⟩))) (hy : ev E y = some v) (hp : partsOf v = some vs)
    (hm : Nat.beq vs.length m = true) (h1 : oneN vs = true) (hl : setN j l vs = some l') (h : TL r n P ops rest ⟨D, E, oslx R te g c xs i l' :: L0⟩ K) : TL r n P ops (⟨none, .store t x y, ty, pos, af, none⟩ :: rest) ⟨D, E, L⟩ K :=
  TL_skip rfl rfl (fun _ e => by cases e) fun W a w hh => by
    have hsat := hh.2.gives hc.g
    obtain ⟨M, k, hd, hM, hk, q1, q2, hd', l1, l2, ⟨cur, hg, a2, a3, a4, a5, a6, a7, a8, a9⟩, hs⟩ := hsat.ex
    have hm' : vs.length = m := Nat.eq_of_beq_eq_true hm
    obtain ⟨e, hle⟩ := setN_eq hl
    have hll : l'.length = l.length := by rw [e]; simp; omega
    have hw : w.heap[g]? = some (.cells cur te (0, 0)) := hk _ _ (l1 _ _ hg)
    have hin : i * R.sz + j + vs.length ≤ cur.toList.length := by
      have : (i + 1) * R.sz ≤ c * R.sz := Nat.mul_le_mul_right _ (by omega)
      rw [Nat.add_mul] at this
      simp only [Array.length_toList, a2]; omega
    have hst := run_storeCells_at P g (i * R.sz + j) te vs 0 cur w hw (by simpa using hin) (oneN_mem h1)
    simp only [Nat.add_zero] at hst
    let cur' : Array Value := (cur.toList.take (i * R.sz + j) ++ vs ++ cur.toList.drop (i * R.sz + j + vs.length)).toArray
    have hsat1 : Sat W w (own g (.cells cur te (0, 0)) :: pers (fun M => (∀ k x, k ≠ i → xs[k]? = some x → ∃ l, R.rep M x l ∧ ∀ j v, l[j]? = some v → cur[k * R.sz + j]? = some v)) (fun hM h k x hk hx => let ⟨l, a, b⟩ := h k x hk hx; ⟨l, R.mono hM a, b⟩) :: L0) :=
      ⟨⟨M, k, hd, hM, hk, q1, q2, hd', l1, l2, hg, Mem.emp, q2, Mem.emp_disj _, Mem.emp_le _, Mem.le_refl _, a8, hs⟩, hsat.os, hsat.tape, hsat.output, hsat.size⟩
    have hset := Sat.set hsat1 (w' := w.setRow g cur') (y := .cells cur' te (0, 0))
      (by simp only [World.setRow, Array.getElem?_modify, if_true, hw, Option.map_some]) (fun i hi => by simp only [World.setRow, Array.getElem?_modify]; rw [if_neg (Ne.symm hi)]) rfl rfl rfl (by simp [World.setRow])
    refine ⟨.skip, w.setRow g cur', oslx R te g c xs i l' :: L0, ?_, .inl rfl, hset.gives fun N mm ⟨k1, k2, kd, m1, m2, ha, k3, k4, kd', m3, m4, hx', hs'⟩ => ?_, h⟩
    · have hrun : (storeVar t ⟨g, i * R.sz + j, none⟩ v).run P w = .ok () (w.setRow g cur') := by
        simp only [storeVar, partsOf_eq hp, Sem.run_bind, hz.run, Result.andThen_ok, List.size_toArray, hm', ne_eq, not_true_eq_false, if_false, Sem.run_pure]
        simpa [cur'] using hst
      simp only [execOp, hh.1.ev hx, hh.1.ev hy, Instr.storeAt, Instr.sureAddr, Sem.run_bind, Sem.run_pure, Result.andThen_ok, hrun]
    · have hcl : cur.toList.length = c * R.sz := by simp [a2]
      have htl : (cur.toList.take (i * R.sz + j)).length = i * R.sz + j := by rw [List.length_take]; omega
      have hjl : j + vs.length ≤ R.sz := by omega
      refine ⟨k1, k4, Mem.disj_le kd (Mem.le_refl _) m4, m1, Mem.le_trans m4 m2, ⟨cur', ha, ?_, a3, a4, a5, a6, by rw [hll]; exact a7, fun q x hq hqx => ?_, fun q v hq => ?_⟩, hs'⟩
      · simp only [cur', List.size_toArray, List.length_append, List.length_take, List.length_drop, hcl]; omega
      · obtain ⟨lq, b1, b2⟩ := hx' q x hq hqx
        refine ⟨lq, b1, fun p v hp => ?_⟩
        have hb := b2 p v hp
        have hpl : p < R.sz := by rw [← R.len b1]; exact (List.getElem?_eq_some_iff.1 hp).1
        have hqk : q < xs.length := (List.getElem?_eq_some_iff.1 hqx).1
        simp only [cur', List.getElem?_toArray]
        rcases Nat.lt_or_gt_of_ne hq with hlt | hgt
        · have : (q + 1) * R.sz ≤ i * R.sz := Nat.mul_le_mul_right _ hlt
          rw [Nat.add_mul] at this
          rw [List.append_assoc, List.getElem?_append_left (by omega), List.getElem?_take, if_pos (by omega)]
          simpa using hb
        · have : (i + 1) * R.sz ≤ q * R.sz := Nat.mul_le_mul_right _ hgt
          rw [Nat.add_mul] at this
          rw [List.getElem?_append_right (by simp only [List.length_append, htl]; omega), List.getElem?_drop]
          simp only [List.length_append, htl]
          rw [show i * R.sz + j + vs.length + (q * R.sz + p - (i * R.sz + j + vs.length)) = q * R.sz + p by omega]
          simpa using hb
      · simp only [cur', List.getElem?_toArray]
        rw [e] at hq
        by_cases h0 : q < j
        · have hq2 : l[q]? = some v := by
            rw [List.append_assoc, List.getElem?_append_left (by rw [List.length_take]; omega), List.getElem?_take, if_pos h0] at hq
            exact hq
          rw [List.append_assoc, List.getElem?_append_left (by omega), List.getElem?_take, if_pos (by omega)]
          simpa using a9 q v hq2
        · have hlt : (l.take j).length = j := by rw [List.length_take]; omega
          by_cases h1' : q < j + vs.length
          · rw [List.append_assoc, List.getElem?_append_right (by omega), hlt, List.getElem?_append_left (by omega)] at hq
            rw [List.append_assoc, List.getElem?_append_right (by omega), htl, show i * R.sz + q - (i * R.sz + j) = q - j by omega, List.getElem?_append_left (by omega)]
            exact hq
          · have hq2 : l[q]? = some v := by
              rw [List.getElem?_append_right (by simp only [List.length_append, hlt]; omega), List.getElem?_drop] at hq
              simp only [List.length_append, hlt] at hq
              rwa [show j + vs.length + (q - (j + vs.length)) = q by omega] at hq
            rw [List.getElem?_append_right (by simp only [List.length_append, htl]; omega), List.getElem?_drop]
            simp only [List.length_append, htl]
            rw [show i * R.sz + j + vs.length + (i * R.sz + q - (i * R.sz + j + vs.length)) = i * R.sz + q by omega]
            simpa using a9 q v hq2
theorem unfocus {t : TypeId} {g i : Nat} {l : List Value} (x : α) (hk : Knows L (fun M => R.rep M x l)) : Gives (oslx R t g c xs i l :: L) (osl R t (some ⟨g, 0, none⟩) c (xs.set i x) :: L) := fun M k ⟨h1, h2, hd, l1, l2, ⟨cur, a1, a2, a3, a4, a5, a6, a7, a8, a9⟩, hs⟩ => by
  have hrep := hk M h2 hs
  refine ⟨h1, h2, hd, l1, l2, ⟨by simpa using a5, .inr ⟨g, cur, rfl, a1, a2, by simpa using a3, a4, fun q y hq => ?_⟩⟩, hs⟩
  rw [List.getElem?_set] at hq
  split at hq
  · rename_i e
    subst e
    first | (rw [if_pos a6] at hq; cases hq) | cases hq
    exact ⟨l, hrep, a9⟩
  · rename_i e
    exact a8 q y (fun h => e h.symm) hq
theorem T_unx {te : TypeId} (g : Nat) {i : Nat} {l : List Value} (x : α) {L0 : List HP} {c' : Code} [hf : FindX L g α R te c xs i l L0] (hk : Knows L0 (fun M => R.rep M x l)) (h : T r n P c' ⟨D, E, osl R te (some ⟨g, 0, none⟩) c (xs.set i x) :: L0⟩ Q) : T r n P c' ⟨D, E, L⟩ Q := T_gives (hf.g.trans (unfocus x hk)) h

/-! ### make -/
/-! ### A chain of truths, joined -/
theorem sub_ext {E E' : Env} {d : Nat} {v : Value} (hd : look E d = none) (hs : ∀ i u, look E i = some u → look E' i = some u) : ∀ i u, look E i = some u → look ((d, v) :: E') i = some u := fun i u h => by
  simp only [look]
  cases e : Nat.beq d i with
  | true =>
    have : d = i := Nat.eq_of_beq_eq_true e
    subst this
    rw [hd] at h; cases h
  | false => exact hs i u h
theorem sub_refl {E : Env} : ∀ i u, look E i = some u → look E i = some u := fun _ _ h => h
theorem TL_chain_end {E' : Env} {g : Nat} {v : Value} {p : Prop} [Decidable p] (hl : look E' g = some v) (e : v = .bool (decide p)) (hs : ∀ i u, look E i = some u → look E' i = some u) (hg : Gives L' L) :
    TL r n P ops [] ⟨D, E', L'⟩ (fun s' => ∀ W a w, Holds n W s' a w → Holds n W ⟨D, (g, .bool (decide p)) :: E, L⟩ a w) :=
  TL_nil (holds_to (sub_cons (by rw [hl, e]) hs) hg)
end
end Go.SL
set_option linter.unusedVariables false
set_option linter.unusedSimpArgs false
set_option linter.unusedSectionVars false
namespace Go.SL
open Go Go.MapKept Go.WideShapes
open Go.ChangeMaps (setBlock)

/-! ### Keys -/
structure KeyT (κ : Type) where
  enc : κ → Value
  ok : κ → Prop
  inj : ∀ a b, enc a = enc b → a = b
def intK : KeyT Int := ⟨fun x => .int .i64 x, intIn .i64, fun a b h => by injection h⟩
def strK : KeyT ByteArray := ⟨fun s => .string s, fun s => s.size ≤ maxEl, fun a b h => by injection h⟩
class KeyOk (P : Program) (t : TypeId) {κ : Type} (K : KeyT κ) : Prop where
  law : Maps.Keyed P t
  key : ∀ k, K.ok k → ∃ l, keyOf P t (K.enc k) = some l
theorem wf_of_in {k : IntKind} {n : Int} (h : intIn k n) : (Lit.int k n).wf = true := by
  simp only [Lit.wf, Bool.and_eq_true, decide_eq_true_eq]; exact h
instance {P : Program} {t : TypeId} [ht : TyDesc P t (.int .i64)] : KeyOk P t intK := ⟨Maps.int_keyed ht.under, fun k hk => ⟨_, Maps.keyOf_int_mk ht.under (wf_of_in hk)⟩⟩
instance {P : Program} {t : TypeId} [ht : TyDesc P t .string] : KeyOk P t strK := ⟨Maps.string_keyed ht.under, fun k hk => ⟨_, WideMaps.keyOf_string_mk ht.under (by have : k.size ≤ maxEl := hk; simp only [maxEl] at this; simp only [maxLen]; omega)⟩⟩
def wrapV : Bool → List Value → Value
  | true, cs => .agg cs.toArray
  | false, [v] => v
  | false, _ => undef
/-- Whose values are known by what they say. -/
class RepV {α : Type} (R : Rep α) (f : outParam (α → Value)) : Prop where
  e : ∀ M x cs, R.rep M x cs → wrapV false cs = f x
instance {k : IntKind} : RepV (intR k) (fun x => .int k x) := ⟨fun M x cs h => by rw [h.1]; rfl⟩
instance : RepV boolR (fun x => .bool x) := ⟨fun M x cs h => by rw [h]; rfl⟩
instance : RepV strR (fun x => .string x) := ⟨fun M x cs h => by rw [h.1]; rfl⟩
/-- A pointer to the front of a block. -/
def ptrR : Rep Nat := ⟨1, fun _ b cs => cs = [.pointer (some ⟨b, 0, none⟩)], fun _ h => h, fun h => by simp [h], fun h v hv => by rw [h] at hv; simp at hv; subst hv; rfl⟩
instance : RepV ptrR (fun b => .pointer (some ⟨b, 0, none⟩)) := ⟨fun M x cs h => by rw [h]; rfl⟩

/-! ### Lists of pairs -/
section pairs
variable {κ α : Type} [DecidableEq κ]
def getM (m : List (κ × α)) (k : κ) : Option α := (m.find? fun p => decide (p.1 = k)).map (·.2)
def delM (m : List (κ × α)) (k : κ) : List (κ × α) := m.filter fun p => !decide (p.1 = k)
def ND (m : List (κ × α)) : Prop := m.Pairwise fun p q => p.1 ≠ q.1
theorem getM_mem {m : List (κ × α)} {k : κ} {u : α} (h : getM m k = some u) : (k, u) ∈ m := by
  unfold getM at h
  cases e : m.find? fun p => decide (p.1 = k) with
  | none => rw [e] at h; cases h
  | some p =>
    rw [e] at h
    simp only [Option.map_some, Option.some.injEq] at h
    have h1 := List.mem_of_find?_eq_some e
    have h2 := List.find?_some e
    have h3 : p.1 = k := by simpa using h2
    obtain ⟨a, b⟩ := p
    simp only at h h3
    subst h; subst h3; exact h1
theorem getM_none {m : List (κ × α)} {k : κ} : getM m k = none ↔ ∀ p ∈ m, p.1 ≠ k := by
  unfold getM
  rw [Option.map_eq_none_iff, List.find?_eq_none]
  exact ⟨fun h p hp e => h p hp (by simpa using e), fun h p hp e => h p hp (by simpa using e)⟩
theorem nd_unique : ∀ {m : List (κ × α)} {k : κ} {u v : α}, ND m → (k, u) ∈ m → (k, v) ∈ m → u = v
  | [], _, _, _, _, h, _ => by cases h
  | p :: m, k, u, v, hn, h1, h2 => by
    obtain ⟨a, b⟩ := List.pairwise_cons.1 hn
    rcases List.mem_cons.1 h1 with h1 | h1 <;> rcases List.mem_cons.1 h2 with h2 | h2
    · rw [← h1] at h2; exact (congrArg Prod.snd h2).symm
    · exact absurd (by rw [← h1]) (a _ h2)
    · exact absurd (by rw [← h2]) (a _ h1)
    · exact nd_unique b h1 h2
theorem getM_of_mem {m : List (κ × α)} (hn : ND m) {k : κ} {u : α} (h : (k, u) ∈ m) : getM m k = some u := by
  cases e : getM m k with
  | none => exact absurd rfl (getM_none.1 e _ h)
  | some v => rw [nd_unique hn (getM_mem e) h]
theorem nd_perm {m m' : List (κ × α)} (h : m.Perm m') (hn : ND m) : ND m' := (h.pairwise_iff (fun {_ _} hne => Ne.symm hne)).1 hn
theorem getM_cons (p : κ × α) (m : List (κ × α)) (k : κ) : getM (p :: m) k = if p.1 = k then some p.2 else getM m k := by
  unfold getM
  rw [List.find?_cons]
  by_cases h : p.1 = k <;> simp [h]
theorem getM_append {m m' : List (κ × α)} (k : κ) : getM (m ++ m') k = (getM m k).or (getM m' k) := by
  unfold getM
  rw [List.find?_append]
  cases m.find? fun p => decide (p.1 = k) <;> simp
theorem del_none {m : List (κ × α)} {k : κ} (h : getM m k = none) : delM m k = m := List.filter_eq_self.2 fun p hp => by simpa using getM_none.1 h p hp
end pairs

/-! ### Entries -/
section
variable {κ α : Type} {K : KeyT κ} {R : Rep α} {ag : Bool}
def EntIs (K : KeyT κ) (R : Rep α) (ag : Bool) (M : Mem) (e : MapEntry) (p : κ × α) : Prop := e.key = K.enc p.1 ∧ K.ok p.1 ∧ ∃ cs, R.rep M p.2 cs ∧ e.val = wrapV ag cs
def Ents (K : KeyT κ) (R : Rep α) (ag : Bool) (M : Mem) (es : List MapEntry) (l : List (κ × α)) : Prop :=
  es.length = l.length ∧ ∀ (i : Nat) (e : MapEntry) (p : κ × α), es[i]? = some e → l[i]? = some p → EntIs K R ag M e p
theorem Ents.mono {M N : Mem} (hM : M.le N) {es : List MapEntry} {l : List (κ × α)} (h : Ents K R ag M es l) : Ents K R ag N es l :=
  ⟨h.1, fun i e p he hp => let ⟨a, b, cs, c, d⟩ := h.2 i e p he hp; ⟨a, b, cs, R.mono hM c, d⟩⟩
theorem Ents.at_ {M : Mem} {es : List MapEntry} {l : List (κ × α)} (h : Ents K R ag M es l) {i : Nat} {e : MapEntry} (he : es[i]? = some e) : ∃ p, l[i]? = some p ∧ EntIs K R ag M e p := by
  have hi := (List.getElem?_eq_some_iff.1 he).1
  obtain ⟨p, hp⟩ : ∃ p, l[i]? = some p := ⟨_, List.getElem?_eq_getElem (by rw [← h.1]; exact hi)⟩
  exact ⟨p, hp, h.2 i e p he hp⟩
theorem Ents.mem {M : Mem} {es : List MapEntry} {l : List (κ × α)} (h : Ents K R ag M es l) {e : MapEntry} (he : e ∈ es) : ∃ p ∈ l, EntIs K R ag M e p := by
  obtain ⟨i, hi⟩ := List.getElem?_of_mem he
  obtain ⟨p, hp, hr⟩ := h.at_ hi
  exact ⟨p, List.mem_of_getElem? hp, hr⟩
theorem Ents.mem' {M : Mem} {es : List MapEntry} {l : List (κ × α)} (h : Ents K R ag M es l) {p : κ × α} (hp : p ∈ l) : ∃ e ∈ es, EntIs K R ag M e p := by
  obtain ⟨i, hi⟩ := List.getElem?_of_mem hp
  have hil := (List.getElem?_eq_some_iff.1 hi).1
  obtain ⟨e, he⟩ : ∃ e, es[i]? = some e := ⟨_, List.getElem?_eq_getElem (by rw [h.1]; exact hil)⟩
  exact ⟨e, List.mem_of_getElem? he, h.2 i e p he hi⟩
theorem Ents.nd [DecidableEq κ] {M : Mem} {es : List MapEntry} {l : List (κ × α)} (h : Ents K R ag M es l) (hs : es.Pairwise fun x y => x.key ≠ y.key) : ND l := by
  rw [ND, List.pairwise_iff_getElem]
  intro i j hi hj hij e
  rw [List.pairwise_iff_getElem] at hs
  have hi' : i < es.length := by rw [h.1]; exact hi
  have hj' : j < es.length := by rw [h.1]; exact hj
  have h1 := h.2 i _ _ (List.getElem?_eq_getElem hi') (List.getElem?_eq_getElem hi)
  have h2 := h.2 j _ _ (List.getElem?_eq_getElem hj') (List.getElem?_eq_getElem hj)
  exact hs i j hi' hj' hij (by rw [h1.1, h2.1, e])
theorem Ents.push {M : Mem} {es : List MapEntry} {l : List (κ × α)} (h : Ents K R ag M es l) {e : MapEntry} {p : κ × α} (hp : EntIs K R ag M e p) : Ents K R ag M (es ++ [e]) (l ++ [p]) := by
  refine ⟨by simp [h.1], fun i e' p' he hp' => ?_⟩
  by_cases hi : i < es.length
  · rw [List.getElem?_append_left hi] at he
    rw [List.getElem?_append_left (by rw [← h.1]; exact hi)] at hp'
    exact h.2 i e' p' he hp'
  · rw [List.getElem?_append_right (by omega)] at he
    rw [List.getElem?_append_right (by have := h.1; omega)] at hp'
    have hz : i - es.length = 0 := by
      have := (List.getElem?_eq_some_iff.1 he).1
      simp at this; omega
    have hz2 : i - l.length = 0 := by have := h.1; omega
    rw [hz] at he; rw [hz2] at hp'
    simp at he hp'
    subst he; subst hp'; exact hp
theorem Ents.set {M : Mem} {es : List MapEntry} {l : List (κ × α)} (h : Ents K R ag M es l) {e : MapEntry} {p : κ × α} (j : Nat) (hp : EntIs K R ag M e p) : Ents K R ag M (es.set j e) (l.set j p) := by
  refine ⟨by simp [h.1], fun i e' p' he hp' => ?_⟩
  rw [List.getElem?_set] at he hp'
  by_cases hij : j = i
  · subst hij
    simp only [if_true] at he hp'
    split at he
    · cases he
      split at hp'
      · cases hp'; exact hp
      · cases hp'
    · cases he
  · rw [if_neg hij] at he hp'
    exact h.2 i e' p' he hp'
theorem Ents.erase {M : Mem} {es : List MapEntry} {l : List (κ × α)} (h : Ents K R ag M es l) (j : Nat) : Ents K R ag M (es.eraseIdx j) (l.eraseIdx j) := by
  refine ⟨by simp only [List.length_eraseIdx, h.1], fun i e' p' he hp' => ?_⟩
  rw [List.getElem?_eraseIdx] at he hp'
  by_cases hij : i < j
  · rw [if_pos hij] at he hp'; exact h.2 i e' p' he hp'
  · rw [if_neg hij] at he hp'; exact h.2 _ e' p' he hp'

/-! ### Maps of ours -/
def mapAt (K : KeyT κ) (R : Rep α) (ag : Bool) (M h : Mem) (b : Nat) (m : List (κ × α)) : Prop :=
  ∃ es clock l, h b = some (.map es clock) ∧ Stamped es clock ∧ l.Perm m ∧ Ents K R ag M es.toList l
def omap (K : KeyT κ) (R : Rep α) (ag : Bool) (b : Nat) (m : List (κ × α)) : HP :=
  ⟨fun M h => mapAt K R ag M h b m, fun hM hh ⟨es, c, l, h1, h2, h3, h4⟩ => ⟨es, c, l, hh _ _ h1, h2, h3, h4.mono hM⟩⟩
class FindM (L : List HP) (b : Nat) (κ : outParam Type) (α : outParam Type) (K : outParam (KeyT κ)) (R : outParam (Rep α)) (ag : outParam Bool) (m : outParam (List (κ × α))) (L' : outParam (List HP)) : Prop where
  g : Gives L (omap K R ag b m :: L')
instance findM_tail {p : HP} {L L' : List HP} {b : Nat} {κ α : Type} {K : KeyT κ} {R : Rep α} {ag : Bool} {m : List (κ × α)} [h : FindM L b κ α K R ag m L'] : FindM (p :: L) b κ α K R ag m (p :: L') := ⟨(Gives.cons p h.g).trans (Gives.swap p _ _)⟩
instance findM_head {L : List HP} {b : Nat} {κ α : Type} {K : KeyT κ} {R : Rep α} {ag : Bool} {m : List (κ × α)} : FindM (omap K R ag b m :: L) b κ α K R ag m L := ⟨Gives.refl _⟩
end
section
variable {r : Option Nat} {n : Nat} {P : Program} {ops : Array Oper} {rest : List Oper} {KK : St → Prop} {Q : Exit → St → Prop} {D : List Deferred} {E : Env} {L L' L0 : List HP} {d : Nat} {ty : TypeId} {pos : String} {af : Array Edge}
variable {κ α : Type} [DecidableEq κ] {K : KeyT κ} {R : Rep α} {ag : Bool} {b : Nat} {m : List (κ × α)}
/-- A new map. -/
theorem TL_makeMap {t kt et : TypeId} (K : KeyT κ) (R : Rep α) (ag : Bool) [ht : TyDesc P t (.map kt et)] (hd : Nat.blt d n = true) (h : ∀ b, TL r n P ops rest ⟨D, (d, .map (some b)) :: E, omap K R ag b [] :: L⟩ KK) :
    TL r n P ops (⟨some d, .makeMap t none, ty, pos, af, none⟩ :: rest) ⟨D, E, L⟩ KK :=
  TL_val rfl hd rfl (fun _ e => by cases e) fun W a w hh => ⟨_, w.alloc (.map #[] 0), omap K R ag w.heap.size [] :: L, by simp only [execOp, Instr.makeMap]; rfl,
    (hh.2.alloc _).gives fun M k ⟨h1, h2, hd, l1, l2, hp, hs⟩ => ⟨h1, h2, hd, l1, l2, ⟨#[], 0, [], hp, stamped_empty 0, List.Perm.refl _, ⟨rfl, fun i e p he => by simp at he⟩⟩, hs⟩, h _⟩
/-- What is found at a key. -/
theorem find_run {kt : TypeId} [hk : KeyOk P kt K] {k : κ} (hok : K.ok k) {M : Mem} {es : Array MapEntry} {clock : Nat} {l : List (κ × α)} (hst : Stamped es clock) (hp : l.Perm m) (he : Ents K R ag M es.toList l) (w : World) :
    (getM m k = none ∧ (Instr.findKey kt (K.enc k) es.toList).run P w = .ok none w ∧ ∀ e ∈ es.toList, e.key ≠ K.enc k) ∨
    ∃ j e u cs, getM m k = some u ∧ (Instr.findKey kt (K.enc k) es.toList).run P w = .ok (some (j, e.val)) w ∧ es.toList[j]? = some e ∧ e.key = K.enc k ∧ l[j]? = some (k, u) ∧ R.rep M u cs ∧ e.val = wrapV ag cs := by
  obtain ⟨lx, hlx⟩ := hk.key k hok
  have hnd := nd_perm hp (he.nd ((stamped_iff es clock).1 hst).2.2)
  rcases hk.law.find w hlx es.toList (fun e hem => by obtain ⟨p, _, h1, h2, _⟩ := he.mem hem; rw [h1]; exact hk.key _ h2) with ⟨h1, h2⟩ | ⟨j, e, h1, h2, h3⟩
  · refine .inl ⟨getM_none.2 fun p hpm e => ?_, h1, h2⟩
    obtain ⟨e', hem, q1, _⟩ := he.mem' (hp.mem_iff.2 hpm)
    exact h2 e' hem (by rw [q1, e])
  · obtain ⟨p, hpl, q1, q2, cs, q3, q4⟩ := he.at_ h2
    have hpk : p.1 = k := K.inj _ _ (by rw [← q1, h3])
    obtain ⟨pk, pu⟩ := p
    simp only at hpk; subst hpk
    exact .inr ⟨j, e, pu, cs, getM_of_mem hnd (hp.mem_iff.1 (List.mem_of_getElem? hpl)), h1, h2, h3, hpl, q3, q4⟩
theorem check_run {kt : TypeId} [hk : KeyOk P kt K] {k : κ} (hok : K.ok k) (em : Bool) (w : World) : (Instr.checkKey em 10000 kt (K.enc k)).run P w = .ok () w := by
  obtain ⟨lx, hlx⟩ := hk.key k hok
  exact hk.law.check w em hlx
theorem look_run {t kt et : TypeId} {z : Value} [ht : TyDesc P t (.map kt et)] [hk : KeyOk P kt K] [hz : TyZero P et z] {k : κ} (hok : K.ok k) (c : Bool) {W w : World} (hs : Sat W w (omap K R ag b m :: L)) :
    (getM m k = none ∧ (Instr.lookup t (.map (some b)) (K.enc k) c).run P w = .ok (if c then .tuple #[z, .bool false] else z) w) ∨
    ∃ u cs, getM m k = some u ∧ Sat W w (is R u cs :: omap K R ag b m :: L) ∧ (Instr.lookup t (.map (some b)) (K.enc k) c).run P w = .ok (if c then .tuple #[wrapV ag cs, .bool true] else wrapV ag cs) w := by
  obtain ⟨M, q, hd, hM, hq, h1, h2, hd', l1, l2, ⟨es, clock, l, hb, hst, hp, he⟩, hsep⟩ := hs.ex
  have hbw : w.heap[b]? = some (.map es clock) := hq _ _ (l1 _ _ hb)
  have hc := check_run (P := P) (kt := kt) hok es.isEmpty w
  rcases find_run (P := P) (kt := kt) hok hst hp he w with ⟨g1, g2, g3⟩ | ⟨j, e, u, cs, g1, g2, g3, g4, g5, g6, g7⟩
  · exact .inl ⟨g1, by cases c <;> simp [Instr.lookup, ht.run, MapKept.run_getObj_map hbw, hc, g2, hz.run, Result.andThen]⟩
  · refine .inr ⟨u, cs, g1, ⟨⟨M, q, hd, hM, hq, Mem.emp, q, Mem.emp_disj _, Mem.emp_le _, Mem.le_refl _, g6, h1, h2, hd', l1, l2, ⟨es, clock, l, hb, hst, hp, he⟩, hsep⟩, hs.os, hs.tape, hs.output, hs.size⟩, ?_⟩
    rw [← g7]
    cases c <;> simp [Instr.lookup, ht.run, MapKept.run_getObj_map hbw, hc, g2, hz.run, Result.andThen]
def lookV (f : α → Value) (z : Value) : Option α → Value
  | none => z
  | some u => f u
/-- Where a value's cells tell it: reading at a key only reckons. -/
theorem Y_lookup {x y : Operand} {t kt et : TypeId} {z : Value} {k : κ} {m : List (κ × α)} {R : Rep α} {f : α → Value} [hv : RepV R f] [ht : TyDesc P t (.map kt et)] [hf : FindM L b κ α K R false m L0] [hk : KeyOk P kt K] [hz : TyZero P et z] (hx : ev E x = some (.map (some b))) (hy : ev E y = some (K.enc k)) (hok : K.ok k) :
    Yl P E L (.lookup t x y false) ty (lookV f z (getM m k)) := fun n D W a w dst pos af g ha hs => by
  rcases look_run (P := P) (t := t) (kt := kt) (et := et) (z := z) hok false (hs.gives hf.g) with ⟨g1, g2⟩ | ⟨u, cs, g1, g2, g3⟩
  · rw [g1]; simp [execOp, ha.ev hx, ha.ev hy, lookV, g2]
  · obtain ⟨M, q, _, _, _, h1, h2, _, _, _, hi, _⟩ := g2.ex
    have e := hv.e _ _ _ hi
    rw [g1]; simp only [lookV, ← e]
    simp [execOp, ha.ev hx, ha.ev hy, g3]
theorem Y_lookup_ok {x y : Operand} {t kt et : TypeId} {z : Value} {k : κ} {m : List (κ × α)} {R : Rep α} {f : α → Value} [hv : RepV R f] [ht : TyDesc P t (.map kt et)] [hf : FindM L b κ α K R false m L0] [hk : KeyOk P kt K] [hz : TyZero P et z] (hx : ev E x = some (.map (some b))) (hy : ev E y = some (K.enc k)) (hok : K.ok k) :
    Yl P E L (.lookup t x y true) ty (.tuple #[lookV f z (getM m k), .bool (getM m k).isSome]) := fun n D W a w dst pos af g ha hs => by
  rcases look_run (P := P) (t := t) (kt := kt) (et := et) (z := z) hok true (hs.gives hf.g) with ⟨g1, g2⟩ | ⟨u, cs, g1, g2, g3⟩
  · rw [g1]; simp [execOp, ha.ev hx, ha.ev hy, lookV, g2]
  · obtain ⟨M, q, _, _, _, h1, h2, _, _, _, hi, _⟩ := g2.ex
    have e := hv.e _ _ _ hi
    rw [g1]; simp only [lookV, ← e]
    simp [execOp, ha.ev hx, ha.ev hy, g3]
abbrev entsP (K : KeyT κ) (R : Rep α) (ag : Bool) (es : List MapEntry) (l : List (κ × α)) : HP := pers (fun M => Ents K R ag M es l) (fun hM h => h.mono hM)
theorem omap_open {W w : World} (h : Sat W w (omap K R ag b m :: L)) : ∃ es clock l, Stamped es clock ∧ l.Perm m ∧ Sat W w (own b (.map es clock) :: entsP K R ag es.toList l :: L) := by
  obtain ⟨M, k, hd, hM, hk, h1, h2, hd', l1, l2, ⟨es, c, l, q1, q2, q3, q4⟩, hs⟩ := h.ex
  exact ⟨es, c, l, q2, q3, ⟨M, k, hd, hM, hk, h1, h2, hd', l1, l2, q1, Mem.emp, h2, Mem.emp_disj _, Mem.emp_le _, Mem.le_refl _, q4, hs⟩, h.os, h.tape, h.output, h.size⟩
theorem omap_close {es : Array MapEntry} {clock : Nat} {l : List (κ × α)} (h1 : Stamped es clock) (h2 : l.Perm m) : Gives (own b (.map es clock) :: entsP K R ag es.toList l :: L) (omap K R ag b m :: L) := fun M k ⟨g1, g2, gd, l1, l2, hp, g3, g4, gd', l3, l4, he, hs⟩ =>
  ⟨g1, g4, Mem.disj_le gd (Mem.le_refl _) l4, l1, Mem.le_trans l4 l2, ⟨es, clock, l, hp, h1, h2, he⟩, hs⟩
theorem sat_setBlock {W w : World} {x y : Obj} (h : Sat W w (own b x :: L)) : Sat W (setBlock w b y) (own b y :: L) := by
  have hb := h.own_at
  have hlt : b < w.heap.size := (Array.getElem?_eq_some_iff.1 hb).1
  exact Sat.set h (by simp [setBlock, hlt]) (fun i hi => by simp [setBlock, Array.getElem?_setIfInBounds_ne (Ne.symm hi)]) rfl rfl rfl (by simp [setBlock])
theorem delM_erase : ∀ {l : List (κ × α)} {j : Nat} {k : κ} {u : α}, ND l → l[j]? = some (k, u) → delM l k = l.eraseIdx j
  | [], j, k, u, _, h => by simp at h
  | p :: l, 0, k, u, hn, h => by
    simp at h; subst h
    obtain ⟨a, b⟩ := List.pairwise_cons.1 hn
    have : getM l k = none := getM_none.2 fun q hq e => a q hq e.symm
    have h2 := del_none this
    unfold delM at h2 ⊢
    rw [List.filter_cons_of_neg (by simp), h2]; simp
  | p :: l, j + 1, k, u, hn, h => by
    obtain ⟨a, b⟩ := List.pairwise_cons.1 hn
    have h' : l[j]? = some (k, u) := by simpa using h
    have hp : p.1 ≠ k := a _ (List.mem_of_getElem? h')
    have ih := delM_erase b h'
    unfold delM at ih ⊢
    rw [List.filter_cons_of_pos (by simp [hp]), ih]; simp
theorem set_perm : ∀ {l : List (κ × α)} {j : Nat} {p : κ × α}, j < l.length → (l.set j p).Perm (p :: l.eraseIdx j)
  | [], j, p, h => by simp at h
  | q :: l, 0, p, h => by simp
  | q :: l, j + 1, p, h => by
    simp only [List.set_cons_succ, List.eraseIdx_cons_succ]
    exact ((set_perm (by simpa using h)).cons q).trans (List.Perm.swap _ _ _)
theorem delM_perm {l m : List (κ × α)} (h : l.Perm m) (k : κ) : (delM l k).Perm (delM m k) := h.filter _
theorem upd_run {t kt et : TypeId} [ht : TyDesc P t (.map kt et)] [hk : KeyOk P kt K] {k : κ} (hok : K.ok k) {u : α} {cs : List Value} {m' : List (κ × α)} (hr : Knows L (fun M => R.rep M u cs)) (hm : ((k, u) :: delM m k).Perm m') {W w : World} (hs : Sat W w (omap K R ag b m :: L)) :
    ∃ w', (Instr.mapUpdate t (.map (some b)) (K.enc k) (wrapV ag cs)).run P w = .ok () w' ∧ Sat W w' (omap K R ag b m' :: L) := by
  obtain ⟨es, clock, l, hst, hp, hs1⟩ := omap_open hs
  have hbw : w.heap[b]? = some (.map es clock) := hs1.own_at
  obtain ⟨M, _, he⟩ := hs1.knows (φ := fun M => Ents K R ag M es.toList l) (Knows.tail Knows.head)
  have hnd : ND l := he.nd ((stamped_iff es clock).1 hst).2.2
  obtain ⟨lx, hlx⟩ := hk.key k hok
  have hc := check_run (P := P) (kt := kt) hok false w
  have hstay := hk.law.stays w hlx
  rcases find_run (P := P) (kt := kt) hok hst hp he w with ⟨g1, g2, g3⟩ | ⟨j, e, u0, cs0, g1, g2, g3, g4, g5, g6, g7⟩
  · refine ⟨setBlock w b (.map (es.push ⟨K.enc k, wrapV ag cs, clock⟩) (clock + 1)), ?_, (sat_setBlock hs1).gives (Gives.trans ?_ (omap_close (l := l ++ [(k, u)]) (stamped_push (val := wrapV ag cs) hst g3) ?_))⟩
    · simp [Instr.mapUpdate, ht.run, MapKept.run_getObj_map hbw, hc, g2, MapKept.run_setObj_map _ hbw, Result.andThen, setBlock]
    · intro N q ⟨a1, a2, ad, b1, b2, ho, a3, a4, ad', b3, b4, hen, hsep⟩
      refine ⟨a1, a2, ad, b1, b2, ho, a3, a4, ad', b3, b4, ?_, hsep⟩
      show Ents K R ag N (es.push ⟨K.enc k, wrapV ag cs, clock⟩).toList (l ++ [(k, u)])
      rw [Array.toList_push]
      exact Ents.push hen ⟨rfl, hok, cs, hr N a4 hsep, rfl⟩
    · refine List.Perm.trans ?_ hm
      rw [del_none g1]
      exact (List.perm_append_singleton _ _).trans (hp.cons _)
  · have hj : es[j]? = some e := by simpa using g3
    have hlist : (es.modify j (fun e' => { e' with key := K.enc k, val := wrapV ag cs })).toList = es.toList.set j { e with key := K.enc k, val := wrapV ag cs } := by rw [Array.toList_modify, ChangeMaps.modify_eq_set _ _ _ _ g3]
    refine ⟨setBlock w b (.map (es.modify j (fun e' => { e' with key := K.enc k, val := wrapV ag cs })) clock), ?_, (sat_setBlock hs1).gives (Gives.trans ?_ (omap_close (l := l.set j (k, u)) (stamped_modify hst j (fun e' => { e' with key := K.enc k, val := wrapV ag cs }) (fun _ _ => rfl) (fun e' _ he' => by rw [hj] at he'; cases he'; exact g4.symm)) ?_))⟩
    · simp [Instr.mapUpdate, ht.run, MapKept.run_getObj_map hbw, hc, g2, hj, g4, hstay, MapKept.run_setObj_map _ hbw, Result.andThen, setBlock]
    · intro N q ⟨a1, a2, ad, b1, b2, ho, a3, a4, ad', b3, b4, hen, hsep⟩
      refine ⟨a1, a2, ad, b1, b2, ho, a3, a4, ad', b3, b4, ?_, hsep⟩
      show Ents K R ag N (es.modify j _).toList (l.set j (k, u))
      rw [hlist]
      exact Ents.set hen j ⟨rfl, hok, cs, hr N a4 hsep, rfl⟩
    · refine List.Perm.trans ?_ hm
      refine (set_perm (List.getElem?_eq_some_iff.1 g5).1).trans (List.Perm.cons _ ?_)
      rw [← delM_erase hnd g5]
      exact delM_perm hp k
theorem TL_update {x y z : Operand} {t kt et : TypeId} {k : κ} {u : α} {cs : List Value} (m' : List (κ × α)) [ht : TyDesc P t (.map kt et)] [hf : FindM L b κ α K R ag m L0] [hk : KeyOk P kt K] (hx : ev E x = some (.map (some b))) (hy : ev E y = some (K.enc k)) (hz : ev E z = some (wrapV ag cs)) (hok : K.ok k) (hr : Knows L0 (fun M => R.rep M u cs)) (hm : ((k, u) :: delM m k).Perm m')
    (h : TL r n P ops rest ⟨D, E, omap K R ag b m' :: L0⟩ KK) : TL r n P ops (⟨none, .mapUpdate t x y z, ty, pos, af, none⟩ :: rest) ⟨D, E, L⟩ KK :=
  TL_skip rfl rfl (fun _ e => by cases e) fun W a w hh => by
    obtain ⟨w', hrun, hs⟩ := upd_run (P := P) (t := t) (kt := kt) (et := et) hok hr hm (hh.2.gives hf.g)
    exact ⟨.skip, w', _, by simp [execOp, hh.1.ev hx, hh.1.ev hy, hh.1.ev hz, hrun], .inl rfl, hs, h⟩
theorem del_run {t kt et ty0 : TypeId} [ht : TyDesc P t (.map kt et)] [hk : KeyOk P kt K] {k : κ} (hok : K.ok k) {W w : World} (hs : Sat W w (omap K R ag b m :: L)) (u : TypeId) :
    ∃ w', (Builtin.delete_ #[t, u] ty0 #[.map (some b), K.enc k]).run P w = .ok (.tuple #[]) w' ∧ Sat W w' (omap K R ag b (delM m k) :: L) := by
  obtain ⟨es, clock, l, hst, hp, hs1⟩ := omap_open hs
  have hbw : w.heap[b]? = some (.map es clock) := hs1.own_at
  obtain ⟨M, _, he⟩ := hs1.knows (φ := fun M => Ents K R ag M es.toList l) (Knows.tail Knows.head)
  have hnd : ND l := he.nd ((stamped_iff es clock).1 hst).2.2
  have hc := check_run (P := P) (kt := kt) hok es.isEmpty w
  rcases find_run (P := P) (kt := kt) hok hst hp he w with ⟨g1, g2, g3⟩ | ⟨j, e, u0, cs0, g1, g2, g3, g4, g5, g6, g7⟩
  · refine ⟨setBlock w b (.map es clock), ?_, (sat_setBlock hs1).gives (omap_close hst ?_)⟩
    · simp [Builtin.delete_, ht.run, MapKept.run_getObj_map hbw, hc, g2, MapKept.run_setObj_map _ hbw, Result.andThen, setBlock]
    · rw [del_none g1]; exact hp
  · have hjl : j < es.toList.length := (List.getElem?_eq_some_iff.1 g3).1
    have hjs : j < es.size := by simpa using hjl
    have hsub : (es.eraseIdxIfInBounds j).toList = es.toList.eraseIdx j := by
      unfold Array.eraseIdxIfInBounds
      rw [dif_pos hjs]
      simp
    refine ⟨setBlock w b (.map (es.eraseIdxIfInBounds j) clock), ?_, (sat_setBlock hs1).gives (Gives.trans ?_ (omap_close (l := l.eraseIdx j) (stamped_erase hst j) ?_))⟩
    · simp [Builtin.delete_, ht.run, MapKept.run_getObj_map hbw, hc, g2, MapKept.run_setObj_map _ hbw, Result.andThen, setBlock]
    · intro N q ⟨a1, a2, ad, b1, b2, ho, a3, a4, ad', b3, b4, hen, hsep⟩
      refine ⟨a1, a2, ad, b1, b2, ho, a3, a4, ad', b3, b4, ?_, hsep⟩
      show Ents K R ag N (es.eraseIdxIfInBounds j).toList (l.eraseIdx j)
      rw [hsub]
      exact Ents.erase hen j
    · rw [← delM_erase hnd g5]
      exact delM_perm hp k
theorem TL_delete0 {x y : Operand} {t kt et u : TypeId} {k : κ} [ht : TyDesc P t (.map kt et)] [hf : FindM L b κ α K R ag m L0] [hk : KeyOk P kt K] (hx : ev E x = some (.map (some b))) (hy : ev E y = some (K.enc k)) (hok : K.ok k)
    (h : TL r n P ops rest ⟨D, E, omap K R ag b (delM m k) :: L0⟩ KK) : TL r n P ops (⟨none, .call { callee := .builtin .delete, args := #[x, y], argTypes := #[t, u] }, ty, pos, af, none⟩ :: rest) ⟨D, E, L⟩ KK :=
  TL_skip rfl rfl (fun _ e => by cases e) fun W a w hh => by
    obtain ⟨w', hrun, hs⟩ := del_run (P := P) (t := t) (kt := kt) (et := et) (ty0 := ty) hok (hh.2.gives hf.g) u
    exact ⟨_, w', _, by simp [execOp, resolve, invoke, builtin, hh.1.ev hx, hh.1.ev hy, hrun]; rfl, .inr ⟨_, rfl⟩, hs, h⟩
theorem Y_len_map {x : Operand} {t kt et : TypeId} [ht : TyDesc P t (.map kt et)] [hf : FindM L b κ α K R ag m L0] (hx : ev E x = some (.map (some b))) : Yl P E L (.call { callee := .builtin .len, args := #[x], argTypes := #[t] }) ty (.int .i64 (m.length : Int)) := fun n D W a w dst pos af g ha hs => by
  obtain ⟨es, clock, l, hst, hp, hs1⟩ := omap_open (hs.gives hf.g)
  have hbw : w.heap[b]? = some (.map es clock) := hs1.own_at
  obtain ⟨M, _, he⟩ := hs1.knows (φ := fun M => Ents K R ag M es.toList l) (Knows.tail Knows.head)
  have : es.size = m.length := by have := he.1; rw [← hp.length_eq, ← this]; simp
  simp [execOp, resolve, invoke, builtin, Builtin.len_, ha.ev hx, ht.run, MapKept.run_getObj_map hbw, Result.andThen, goInt, this]
theorem EqIs.map_nil {t : TypeId} {kt et : TypeId} [ht : TyDesc P t (.map kt et)] {A : Option Nat} : EqIs P t (.map A) (.map none) (decide (A = none)) := fun d w => by
  cases A <;> simp [Op.equalIn, ht.run]

/-! ### Ranging over a map -/
theorem nodup_len : ∀ {n : Nat} {l : List Nat}, l.Nodup → (∀ x ∈ l, x < n) → l.length ≤ n
  | 0, l, _, h => by
    cases l with
    | nil => simp
    | cons x l => have := h x (by simp); omega
  | n + 1, l, hn, h => by
    by_cases hm : n ∈ l
    · have h1 : (l.erase n).length = l.length - 1 := List.length_erase_of_mem hm
      have h2 := nodup_len (n := n) (hn.erase n) (fun x hx => by
        have h3 := (hn.mem_erase_iff).1 hx
        have h4 := h x h3.2
        have h5 := h3.1
        omega)
      have h0 : 0 < l.length := List.length_pos_of_mem hm
      omega
    · have h2 := nodup_len (n := n) hn (fun x hx => by
        have h4 := h x hx
        have h5 : x ≠ n := fun e => hm (e ▸ hx)
        omega)
      omega
/-- The map b and an iterator over it; of m these came. -/
def mrangeAt (K : KeyT κ) (R : Rep α) (ag : Bool) (M h : Mem) (b it : Nat) (m done : List (κ × α)) : Prop :=
  ∃ (es : Array MapEntry) (clock : Nat) (l : List (κ × α)) (seen : Array Nat) (js : List Nat), h b = some (.map es clock) ∧ h it = some (.mapIter (some b) clock seen clock) ∧ it ≠ b ∧ Stamped es clock ∧ l.Perm m ∧ Ents K R ag M es.toList l ∧
    js.Nodup ∧ (∀ j ∈ js, j < l.length) ∧ seen.toList.map some = js.map (fun j => (es.toList[j]?).map (·.born)) ∧ done.map some = js.map (fun j => l[j]?)
def mrange (K : KeyT κ) (R : Rep α) (ag : Bool) (b it : Nat) (m done : List (κ × α)) : HP :=
  ⟨fun M h => mrangeAt K R ag M h b it m done, fun hM hh ⟨es, c, l, seen, js, h1, h2, h3, h4, h5, h6, h7⟩ => ⟨es, c, l, seen, js, hh _ _ h1, hh _ _ h2, h3, h4, h5, h6.mono hM, h7⟩⟩
class FindG (L : List HP) (it : Nat) (b : outParam Nat) (κ : outParam Type) (α : outParam Type) (K : outParam (KeyT κ)) (R : outParam (Rep α)) (ag : outParam Bool) (m : outParam (List (κ × α))) (done : outParam (List (κ × α))) (L' : outParam (List HP)) : Prop where
  g : Gives L (mrange K R ag b it m done :: L')
omit [DecidableEq κ] in
theorem findG_t {p : HP} {L L' : List HP} {b it : Nat} {κ α : Type} {K : KeyT κ} {R : Rep α} {ag : Bool} {m done : List (κ × α)} (h : FindG L it b κ α K R ag m done L') : FindG (p :: L) it b κ α K R ag m done (p :: L') := ⟨(Gives.cons p h.g).trans (Gives.swap p _ _)⟩
instance findG_tail {p : HP} {L L' : List HP} {b it : Nat} {κ α : Type} {K : KeyT κ} {R : Rep α} {ag : Bool} {m done : List (κ × α)} [h : FindG L it b κ α K R ag m done L'] : FindG (p :: L) it b κ α K R ag m done (p :: L') := findG_t h
instance findG_head {L : List HP} {b it : Nat} {κ α : Type} {K : KeyT κ} {R : Rep α} {ag : Bool} {m done : List (κ × α)} : FindG (mrange K R ag b it m done :: L) it b κ α K R ag m done L := ⟨Gives.refl _⟩
theorem TL_range {x : Operand} {t kt et : TypeId} [ht : TyDesc P t (.map kt et)] [hf : FindM L b κ α K R ag m L0] (hd : Nat.blt d n = true) (hx : ev E x = some (.map (some b))) (h : ∀ it, TL r n P ops rest ⟨D, (d, .pointer (some ⟨it, 0, none⟩)) :: E, mrange K R ag b it m [] :: L0⟩ KK) :
    TL r n P ops (⟨some d, .range t x, ty, pos, af, none⟩ :: rest) ⟨D, E, L⟩ KK :=
  TL_val rfl hd rfl (fun _ e => by cases e) fun W a w hh => by
    obtain ⟨es, clock, l, hst, hp, hs1⟩ := omap_open (hh.2.gives hf.g)
    have hbw : w.heap[b]? = some (.map es clock) := hs1.own_at
    have hrun := run_range_map (P := P) w t kt et b es clock ht.under hbw
    refine ⟨_, _, mrange K R ag b w.heap.size m [] :: L0, by simp [execOp, hh.1.ev hx, hrun], (hs1.alloc (.mapIter (some b) clock #[] clock)).gives fun M q ⟨a1, a2, ad, b1, b2, ho, a3, a4, ad', b3, b4, hb, a5, a6, ad2, b5, b6, he, hsep⟩ => ?_, h _⟩
    have hne : w.heap.size ≠ b := by have := (Array.getElem?_eq_some_iff.1 hbw).1; omega
    refine ⟨a1.join a3, a6, Mem.join_disj (Mem.disj_le ad (Mem.le_refl _) (Mem.le_trans b6 b4)) (Mem.disj_le ad' (Mem.le_refl _) b6), Mem.join_le b1 (Mem.le_trans b3 b2), Mem.le_trans b6 (Mem.le_trans b4 b2), ⟨es, clock, l, #[], [], ?_, ?_, hne, hst, hp, he, List.nodup_nil, fun j hj => by simp at hj, rfl, rfl⟩, hsep⟩
    · exact Mem.le_join_right (Mem.disj_le ad (Mem.le_refl _) b3) _ _ hb
    · exact Mem.le_join_left _ _ _ _ ho
/-- The step: all came; or another one comes. -/
theorem TL_next {x : Operand} {it : Nat} {done : List (κ × α)} [hf : FindG L it b κ α K R ag m done L0] (hd : Nat.blt d n = true) (hx : ev E x = some (.pointer (some ⟨it, 0, none⟩)))
    (h0 : done.Perm m → TL r n P ops rest ⟨D, (d, .tuple #[.bool false]) :: E, L⟩ KK)
    (h1 : ∀ p cs, p ∈ m → (∀ q ∈ done, q.1 ≠ p.1) → done.length < m.length → TL r n P ops rest ⟨D, (d, .tuple #[.bool true, K.enc p.1, wrapV ag cs]) :: E, mrange K R ag b it m (done ++ [p]) :: L0⟩ KK) :
    TL r n P ops (⟨some d, .next x false, ty, pos, af, none⟩ :: rest) ⟨D, E, L⟩ KK :=
  TL_val rfl hd rfl (fun _ e => by cases e) fun W a w hh => by
    obtain ⟨M, q, hd', hM, hq, a1, a2, ad, l1, l2, ⟨es, clock, l, seen, js, hb, hit, hne, hst, hp, he, hnj, hlj, hseen, hdone⟩, hsep⟩ := (hh.2.gives hf.g).ex
    have hbw : w.heap[b]? = some (.map es clock) := hq _ _ (l1 _ _ hb)
    have hiw : w.heap[it]? = some (.mapIter (some b) clock seen clock) := hq _ _ (l1 _ _ hit)
    have hst' := (stamped_iff es clock).1 hst
    have hnd : ND l := he.nd hst'.2.2
    -- an entry's number is among those that came just where its stamp is
    have hin : ∀ (j : Nat) (e : MapEntry), es.toList[j]? = some e → (seen.contains e.born = true ↔ j ∈ js) := fun j e hj => by
      rw [Array.contains_iff_mem, ← Array.mem_toList_iff]
      constructor
      · intro hmem
        have : some e.born ∈ seen.toList.map some := List.mem_map.2 ⟨_, hmem, rfl⟩
        rw [hseen] at this
        obtain ⟨j', hj', e2⟩ := List.mem_map.1 this
        have hj'l : j' < es.toList.length := by rw [he.1]; exact hlj j' hj'
        rw [List.getElem?_eq_getElem hj'l] at e2
        simp only [Option.map_some, Option.some.injEq] at e2
        have hnb := hst'.2.1
        rw [List.Nodup, List.pairwise_iff_getElem] at hnb
        have hjl := (List.getElem?_eq_some_iff.1 hj).1
        have hjj : j' = j := by
          refine Classical.byContradiction fun hne' => ?_
          rcases Nat.lt_or_gt_of_ne hne' with hlt | hlt
          · exact hnb j' j (by simpa using hj'l) (by simpa using hjl) hlt (by rw [List.getElem_map, List.getElem_map, e2, ← (List.getElem?_eq_some_iff.1 hj).2])
          · exact hnb j j' (by simpa using hjl) (by simpa using hj'l) hlt (by rw [List.getElem_map, List.getElem_map, e2, ← (List.getElem?_eq_some_iff.1 hj).2])
        rw [← hjj]; exact hj'
      · intro hj'
        have : (es.toList[j]?).map (·.born) ∈ js.map (fun j => (es.toList[j]?).map (·.born)) := List.mem_map.2 ⟨j, hj', rfl⟩
        rw [← hseen, hj] at this
        obtain ⟨x, hx, e2⟩ := List.mem_map.1 this
        simp only [Option.map_some, Option.some.injEq] at e2
        rw [← e2]; exact hx
    rcases run_next_at (P := P) w ty it b clock clock seen es clock hiw hbw hst.1 (Nat.le_refl _) with ⟨g0, grun⟩ | ⟨e, hel, w1, hal, grun⟩
    · refine ⟨.tuple #[.bool false], w, L, by simp [execOp, hh.1.ev hx, grun], hh.2, h0 ?_⟩
      have hall := all_seen es seen g0
      have hperm : js.Perm (List.range l.length) := (List.perm_ext_iff_of_nodup hnj List.nodup_range).2 fun j => ⟨fun hj => List.mem_range.2 (hlj j hj), fun hj => by
        have hjl : j < es.toList.length := by rw [he.1]; exact List.mem_range.1 hj
        exact (hin j _ (List.getElem?_eq_getElem hjl)).1 (hall _ (List.getElem_mem hjl))⟩
      have h2 := hperm.map (fun j => l[j]?)
      have h3 : (List.range l.length).map (fun j => l[j]?) = l.map some := by
        apply List.ext_getElem?
        intro i
        by_cases hi : i < l.length
        · simp [hi]
        · simp [hi]
      rw [h3, ← hdone] at h2
      have h4 := h2.filterMap id
      simp only [List.filterMap_map, Function.comp_def, id, List.filterMap_some] at h4
      exact h4.trans hp
    · obtain ⟨hem, hes⟩ := mem_left hel
      obtain ⟨j, hj⟩ := List.getElem?_of_mem hem
      obtain ⟨p, hpl, hrel⟩ := he.at_ hj
      have hjn : j ∉ js := fun h => by rw [(hin j e hj).2 h] at hes; cases hes
      obtain ⟨r1, r2, cs, r3, r4⟩ := hrel
      have hpd : ∀ q ∈ done, q.1 ≠ p.1 := fun q h => by
        have : some q ∈ done.map some := List.mem_map.2 ⟨_, h, rfl⟩
        rw [hdone] at this
        obtain ⟨j', hj', e2⟩ := List.mem_map.1 this
        have hjj : j' ≠ j := fun e => hjn (e ▸ hj')
        have hnd' := hnd
        rw [ND, List.pairwise_iff_getElem] at hnd'
        have u1 := List.getElem?_eq_some_iff.1 hpl
        have u2 := List.getElem?_eq_some_iff.1 e2
        rcases Nat.lt_or_gt_of_ne hjj with hlt | hlt
        · have := hnd' j' j u2.1 u1.1 hlt
          rw [u2.2, u1.2] at this; exact this
        · have := hnd' j j' u1.1 u2.1 hlt
          rw [u2.2, u1.2] at this; exact Ne.symm this
      refine ⟨.tuple #[.bool true, K.enc p.1, wrapV ag cs], setBlock w1 it (.mapIter (some b) clock (seen.push e.born) clock), mrange K R ag b it m (done ++ [p]) :: L0, by simp [execOp, hh.1.ev hx, grun, r1, r4], ?_, h1 p cs (hp.mem_iff.1 (List.mem_of_getElem? hpl)) hpd (by
        have e1 : done.length = js.length := by have := congrArg List.length hdone; simpa using this
        have := nodup_len (l := j :: js) (n := l.length) (List.nodup_cons.2 ⟨hjn, hnj⟩) (fun x hx => by rcases List.mem_cons.1 hx with rfl | hx; exact (List.getElem?_eq_some_iff.1 hpl).1; exact hlj x hx)
        rw [e1, ← hp.length_eq]; simp only [List.length_cons] at this; omega)⟩
      have hs1 : Sat W w (own it (.mapIter (some b) clock seen clock) :: own b (.map es clock) :: entsP K R ag es.toList l :: L0) := by
        refine ⟨⟨M, q, hd', hM, hq, Mem.one it (.mapIter (some b) clock seen clock), (Mem.one b (.map es clock)).join a2, ?_, Mem.one_le (l1 _ _ hit), Mem.join_le (Mem.one_le (l1 _ _ hb)) l2, Mem.one_self _ _, Mem.one b (.map es clock), a2, ?_, Mem.le_join_left _ _, Mem.le_join_right ?_, Mem.one_self _ _, Mem.emp, a2, Mem.emp_disj _, Mem.emp_le _, Mem.le_refl _, he, hsep⟩, hh.2.os, hh.2.tape, hh.2.output, hh.2.size⟩
        · intro i
          by_cases hi : i = it
          · right
            subst hi
            have : a2 i = none := by
              rcases ad i with h | h
              · rw [hit] at h; cases h
              · exact h
            simp [Mem.join, Mem.one, hne, this]
          · left; simp [Mem.one, hi]
        all_goals
          intro i
          by_cases hi : i = b
          · right
            subst hi
            rcases ad i with h | h
            · rw [hb] at h; cases h
            · exact h
          · left; simp [Mem.one, hi]
      have hs2 : Sat W w1 (own it (.mapIter (some b) clock seen clock) :: own b (.map es clock) :: entsP K R ag es.toList l :: L0) := by
        rcases hal with rfl | rfl
        · exact hs1
        · exact hs1.drew
      refine (sat_setBlock (y := .mapIter (some b) clock (seen.push e.born) clock) hs2).gives fun N k ⟨c1, c2, cd, m1, m2, hi1, c3, c4, cd', m3, m4, hb1, c5, c6, cd2, m5, m6, hen, hsp⟩ => ?_
      refine ⟨c1.join c3, c6, Mem.join_disj (Mem.disj_le cd (Mem.le_refl _) (Mem.le_trans m6 m4)) (Mem.disj_le cd' (Mem.le_refl _) m6), Mem.join_le m1 (Mem.le_trans m3 m2), Mem.le_trans m6 (Mem.le_trans m4 m2), ⟨es, clock, l, seen.push e.born, js ++ [j], Mem.le_join_right (Mem.disj_le cd (Mem.le_refl _) m3) _ _ hb1, Mem.le_join_left _ _ _ _ hi1, hne, hst, hp, hen, ?_, ?_, ?_, ?_⟩, hsp⟩
      · rw [List.nodup_append]
        exact ⟨hnj, by simp, fun x hx y hy => by simp at hy; subst hy; exact fun e => hjn (e ▸ hx)⟩
      · intro x hx
        rcases List.mem_append.1 hx with hx | hx
        · exact hlj x hx
        · simp at hx; subst hx; exact (List.getElem?_eq_some_iff.1 hpl).1
      · rw [Array.toList_push, List.map_append, List.map_append, hseen, List.map_singleton, List.map_singleton, hj]; rfl
      · rw [List.map_append, List.map_append, hdone]
        simp [hpl]
/-- What the step handed out, read again. -/
theorem TL_entry {x : Operand} {it : Nat} {done : List (κ × α)} {p : κ × α} [hf : FindG L it b κ α K R ag m (done ++ [p]) L0] (hd : Nat.blt d n = true) (hx : ev E x = some (.pointer (some ⟨it, 0, none⟩)))
    (h : ∀ cs, K.ok p.1 → TL r n P ops rest ⟨D, (d, .tuple #[K.enc p.1, wrapV ag cs]) :: E, is R p.2 cs :: mrange K R ag b it m (done ++ [p]) :: L0⟩ KK) :
    TL r n P ops (⟨some d, .entry x, ty, pos, af, none⟩ :: rest) ⟨D, E, L⟩ KK :=
  TL_val rfl hd rfl (fun _ e => by cases e) fun W a w hh => by
    have hs := hh.2.gives hf.g
    obtain ⟨M, q, hd', hM, hq, a1, a2, ad, l1, l2, hm, hsep⟩ := hs.ex
    have hm' := hm
    obtain ⟨es, clock, l, seen, js, hb, hit, hne, hst, hp, he, hnj, hlj, hseen, hdone⟩ := hm'
    have hbw : w.heap[b]? = some (.map es clock) := hq _ _ (l1 _ _ hb)
    have hiw : w.heap[it]? = some (.mapIter (some b) clock seen clock) := hq _ _ (l1 _ _ hit)
    have hst' := (stamped_iff es clock).1 hst
    rcases List.eq_nil_or_concat js with rfl | ⟨js', j, rfl⟩
    · simp at hdone
    · have hlen : done.length = js'.length := by have := congrArg List.length hdone; simp at this; exact this
      rw [List.concat_eq_append] at hseen hdone hlj
      have hpl : l[j]? = some p := by
        have h1 := congrArg List.getLast? hdone
        simpa using h1.symm
      obtain ⟨e, hje⟩ : ∃ e, es.toList[j]? = some e := ⟨_, List.getElem?_eq_getElem (by rw [he.1]; exact hlj j (by simp))⟩
      have hback : ∃ s0 : Array Nat, seen = s0.push e.born := by
        have h1 := congrArg List.getLast? hseen
        simp only [List.map_append, List.map_cons, List.map_nil, List.getLast?_append, List.getLast?_singleton, Option.some_or, hje, Option.map_some] at h1
        rcases List.eq_nil_or_concat seen.toList with h | ⟨t, y, h⟩
        · rw [h] at h1; simp at h1
        · rw [h] at h1
          simp at h1
          exact ⟨t.toArray, by rw [← Array.toArray_toList (xs := seen), h, ← h1]; simp⟩
      obtain ⟨s0, rfl⟩ := hback
      have hrun := run_entry_at (P := P) w it b clock s0 es clock e hiw hbw (List.mem_of_getElem? hje) hst'.2.1
      obtain ⟨r1, r2, cs, r3, r4⟩ := he.2 j e p hje hpl
      exact ⟨.tuple #[K.enc p.1, wrapV ag cs], w, is R p.2 cs :: mrange K R ag b it m (done ++ [p]) :: L0, by simp [execOp, hh.1.ev hx, hrun, r1, r4],
        ⟨⟨M, q, hd', hM, hq, Mem.emp, q, Mem.emp_disj _, Mem.emp_le _, Mem.le_refl _, r3, a1, a2, ad, l1, l2, hm, hsep⟩, hs.os, hs.tape, hs.output, hs.size⟩, h cs r2⟩
theorem TL_entry_v {x : Operand} {it : Nat} {R : Rep α} {m done : List (κ × α)} {p : κ × α} {f : α → Value} [hv : RepV R f] [hf : FindG L it b κ α K R false m (done ++ [p]) L0] (hd : Nat.blt d n = true) (hx : ev E x = some (.pointer (some ⟨it, 0, none⟩)))
    (h : K.ok p.1 → (∃ M cs, R.rep M p.2 cs) → TL r n P ops rest ⟨D, (d, .tuple #[K.enc p.1, f p.2]) :: E, mrange K R false b it m (done ++ [p]) :: L0⟩ KK) :
    TL r n P ops (⟨some d, .entry x, ty, pos, af, none⟩ :: rest) ⟨D, E, L⟩ KK := TL_entry hd hx fun cs hok W a w hh => by
  obtain ⟨M, k, _, _, _, h1, h2, _, _, _, hi, _⟩ := hh.2.ex
  have e := hv.e _ _ _ hi
  rw [e] at hh
  exact h hok ⟨M, cs, hi⟩ W a w ⟨hh.1, hh.2.gives (Gives.drop _ _)⟩
/-- The range is over: the map is as it was. -/
theorem mrange_end {it : Nat} {done : List (κ × α)} : Gives (mrange K R ag b it m done :: L) (omap K R ag b m :: L) := fun M k ⟨h1, h2, hd, l1, l2, ⟨es, clock, l, seen, js, hb, hit, hne, hst, hp, he, _⟩, hs⟩ => ⟨h1, h2, hd, l1, l2, ⟨es, clock, l, hb, hst, hp, he⟩, hs⟩
end
end Go.SL
set_option linter.unusedVariables false
namespace Go.SL
section
variable {α : Type} {p : α → Bool} {l : List α} {x : α}
/-- How many of the first items p holds of. -/
def posW (p : α → Bool) : List α → Nat
  | [] => 0
  | x :: r => if p x then posW p r + 1 else 0
def insW (p : α → Bool) (x : α) (l : List α) : List α := l.take (posW p l) ++ x :: l.drop (posW p l)
theorem posW_eq : ∀ {l : List α} {k : Nat}, k ≤ l.length → (∀ q ∈ l.take k, p q = true) → (∀ q, l[k]? = some q → p q = false) → posW p l = k
  | [], k, hk, _, _ => by simp at hk; simp [posW, hk]
  | x :: r, 0, _, _, h2 => by
    have := h2 x rfl
    simp [posW, this]
  | x :: r, k + 1, hk, h1, h2 => by
    have hx := h1 x (by simp)
    have := posW_eq (l := r) (k := k) (by simpa using hk) (fun q hq => h1 q (by simp [hq])) (fun q hq => h2 q (by simpa using hq))
    simp [posW, hx, this]
theorem posW_take : ∀ l : List α, ∀ q ∈ l.take (posW p l), p q = true
  | [], q, hq => by simp at hq
  | x :: r, q, hq => by
    cases hx : p x with
    | false => simp [posW, hx] at hq
    | true =>
      simp [posW, hx] at hq
      rcases hq with rfl | hq
      · exact hx
      · exact posW_take r q hq
theorem posW_drop {r : α → α → Prop} : ∀ {l : List α}, l.Pairwise r → (∀ a ∈ l, ∀ b ∈ l, r a b → p b = true → p a = true) → ∀ q ∈ l.drop (posW p l), p q = false
  | [], _, _, q, hq => by simp at hq
  | x :: t, hs, hm, q, hq => by
    cases hx : p x with
    | true =>
      simp [posW, hx] at hq
      exact posW_drop (List.pairwise_cons.1 hs).2 (fun a ha b hb => hm a (List.mem_cons_of_mem _ ha) b (List.mem_cons_of_mem _ hb)) q hq
    | false =>
      simp [posW, hx] at hq
      rcases hq with rfl | hq
      · exact hx
      · cases hpq : p q with
        | false => rfl
        | true => rw [hm x List.mem_cons_self q (List.mem_cons_of_mem _ hq) ((List.pairwise_cons.1 hs).1 q hq) hpq] at hx; cases hx
theorem insW_perm (p : α → Bool) (x : α) (l : List α) : (insW p x l).Perm (x :: l) := by
  unfold insW
  refine List.perm_middle.trans (List.Perm.cons _ ?_)
  rw [List.take_append_drop]
theorem mem_insW {q : α} : q ∈ insW p x l ↔ q = x ∨ q ∈ l := by rw [(insW_perm p x l).mem_iff]; simp
theorem insW_sorted {r : α → α → Prop} (hs : l.Pairwise r) (h1 : ∀ q ∈ l, p q = true → r q x) (h2 : ∀ q ∈ l, p q = false → r x q) (hm : ∀ a ∈ l, ∀ b ∈ l, r a b → p b = true → p a = true) : (insW p x l).Pairwise r := by
  unfold insW
  have e := List.take_append_drop (posW p l) l
  have hs' := hs
  rw [← e] at hs'
  obtain ⟨q1, q2, q3⟩ := List.pairwise_append.1 hs'
  refine List.pairwise_append.2 ⟨q1, List.pairwise_cons.2 ⟨fun q hq => h2 q (List.mem_of_mem_drop hq) (posW_drop hs hm q hq), q2⟩, fun a ha b hb => ?_⟩
  rcases List.mem_cons.1 hb with rfl | hb
  · exact h1 a (List.mem_of_mem_take ha) (posW_take l a ha)
  · exact q3 a ha b hb
end
theorem takeAt {α : Type} {l : List α} {i : Nat} {s : α} (h : l[i]? = some s) : l.take (i + 1) = l.take i ++ [s] := by rw [List.take_add_one, h]; rfl
end Go.SL
set_option linter.unusedVariables false
set_option linter.unusedSimpArgs false
namespace Go.SL
open Go
/-! ### Names stand in order -/
def ltN (a b : ByteArray) : Bool := Op.bytesLess a.toList b.toList
theorem ltN_iff {a b : ByteArray} : ltN a b = true ↔ a.data.toList < b.data.toList := by
  unfold ltN; rw [Go.Proofs.bytesLess_eq, ByteArray.toList_eq, ByteArray.toList_eq]; simp
theorem ltN_trans {a b c : ByteArray} (h1 : ltN a b = true) (h2 : ltN b c = true) : ltN a c = true := by
  rw [ltN_iff] at *; exact List.lt_trans h1 h2
theorem ltN_irr (a : ByteArray) : ¬ ltN a a = true := by
  rw [ltN_iff]; exact List.lt_irrefl _
theorem ltN_tot {a b : ByteArray} (h : a ≠ b) (h2 : ¬ ltN a b = true) : ltN b a = true := by
  rw [ltN_iff] at *
  refine Classical.byContradiction fun h3 => h ?_
  have h4 : a.data.toList = b.data.toList := List.le_antisymm (List.not_lt.1 h3) (List.not_lt.1 h2)
  cases a; cases b
  exact congrArg ByteArray.mk (Array.toList_inj.1 h4)
/-! ### Files -/
structure FileE where
  name : ByteArray
  blk : Nat
  bytes : List Int
  synced : Int
def findF (l : List FileE) (k : ByteArray) : Option FileE := l.find? fun e => decide (e.name = k)
def delF (l : List FileE) (k : ByteArray) : List FileE := l.filter fun e => !decide (e.name = k)
def putF (l : List FileE) (e : FileE) : List FileE := insW (fun q : FileE => ltN q.name e.name) e (delF l e.name)
def totF (l : List FileE) : Nat := (l.map fun e => e.bytes.length).sum
def IncF (l : List FileE) : Prop := l.Pairwise fun p q => ltN p.name q.name = true
structure DkS where
  size : Int
  calls : Int
  l : List FileE
structure KI (s : DkS) : Prop where
  size : 0 ≤ s.size ∧ s.size ≤ 268435456
  calls : -1 ≤ s.calls ∧ intIn .i64 s.calls
  inc : IncF s.l
  len : s.l.length ≤ 64
  tot : (totF s.l : Int) ≤ s.size
  ok : ∀ e ∈ s.l, e.name.size ≤ 32 ∧ 0 ≤ e.synced ∧ e.synced ≤ (e.bytes.length : Int) ∧ ∀ x ∈ e.bytes, 0 ≤ x ∧ x ≤ 255
def leftK (s : DkS) : Int := s.size - (totF s.l : Int)
def doneK (s : DkS) : DkS := ⟨s.size, if 0 < s.calls then s.calls - 1 else s.calls, s.l⟩
section
variable {l : List FileE} {s : DkS}
theorem findF_mem {k : ByteArray} {e : FileE} (h : findF l k = some e) : e ∈ l ∧ e.name = k := ⟨List.mem_of_find?_eq_some h, by simpa using List.find?_some h⟩
theorem findF_none {k : ByteArray} : findF l k = none ↔ ∀ e ∈ l, e.name ≠ k := by unfold findF; rw [List.find?_eq_none]; simp
theorem mem_delF {k : ByteArray} {e : FileE} : e ∈ delF l k ↔ e ∈ l ∧ e.name ≠ k := by unfold delF; rw [List.mem_filter]; simp
theorem IncF.del (h : IncF l) (k : ByteArray) : IncF (delF l k) := h.filter _
theorem mem_putF {e q : FileE} : q ∈ putF l e ↔ q = e ∨ (q ∈ l ∧ q.name ≠ e.name) := by unfold putF; rw [mem_insW, mem_delF]
theorem IncF.put (h : IncF l) (e : FileE) : IncF (putF l e) :=
  insW_sorted (h.del _) (fun q _ hq => hq) (fun q hq hlt => ltN_tot (fun e2 => (mem_delF.1 hq).2 e2) (by rw [hlt]; simp)) (fun a _ b _ hab hb => ltN_trans hab hb)
theorem IncF.inj (h : IncF l) {p q : FileE} (hp : p ∈ l) (hq : q ∈ l) (e : p.name = q.name) : p = q := by
  obtain ⟨i, hi, rfl⟩ := List.mem_iff_getElem.1 hp
  obtain ⟨j, hj, rfl⟩ := List.mem_iff_getElem.1 hq
  rcases Nat.lt_trichotomy i j with h1 | h1 | h1
  · have := (List.pairwise_iff_getElem.1 h) i j hi hj h1; rw [e] at this; exact absurd this (ltN_irr _)
  · subst h1; rfl
  · have := (List.pairwise_iff_getElem.1 h) j i hj hi h1; rw [e] at this; exact absurd this (ltN_irr _)
theorem IncF.find (h : IncF l) {e : FileE} (he : e ∈ l) : findF l e.name = some e := by
  cases hf : findF l e.name with
  | none => exact absurd rfl (findF_none.1 hf e he)
  | some q => obtain ⟨h1, h2⟩ := findF_mem hf; rw [h.inj h1 he h2]
theorem delF_perm (h : IncF l) {e : FileE} (he : e ∈ l) : (e :: delF l e.name).Perm l := by
  induction l with
  | nil => cases he
  | cons x r ih =>
    obtain ⟨h1, h2⟩ := List.pairwise_cons.1 h
    unfold delF
    rw [List.filter_cons]
    rcases List.mem_cons.1 he with rfl | he
    · have hr : r.filter (fun q => !decide (q.name = e.name)) = r := List.filter_eq_self.2 fun q hq => by have := h1 q hq; simp; rintro e2; rw [e2] at this; exact ltN_irr _ this
      rw [if_neg (by simp), hr]
    · have hx : x.name ≠ e.name := fun e2 => by have := h1 e he; rw [e2] at this; exact ltN_irr _ this
      rw [if_pos (by simpa using hx)]
      exact (List.Perm.swap _ _ _).trans ((ih h2 he).cons x)
theorem delF_none {k : ByteArray} (h : findF l k = none) : delF l k = l := List.filter_eq_self.2 fun q hq => by simpa using findF_none.1 h q hq
theorem totF_cons (e : FileE) (l : List FileE) : totF (e :: l) = e.bytes.length + totF l := by simp [totF]
theorem totF_perm {a b : List FileE} (h : a.Perm b) : totF a = totF b := (h.map _).sum_nat
theorem putF_perm (e : FileE) : (putF l e).Perm (e :: delF l e.name) := insW_perm _ _ _
theorem putF_tot (e : FileE) : totF (putF l e) = e.bytes.length + totF (delF l e.name) := by rw [totF_perm (putF_perm e), totF_cons]
theorem delF_tot (h : IncF l) {e : FileE} (he : e ∈ l) : totF (delF l e.name) + e.bytes.length = totF l := by rw [← totF_perm (delF_perm h he), totF_cons]; omega
theorem delF_len (h : IncF l) {e : FileE} (he : e ∈ l) : (delF l e.name).length + 1 = l.length := by rw [← (delF_perm h he).length_eq]; rfl
theorem putF_len (e : FileE) : (putF l e).length = (delF l e.name).length + 1 := by rw [(putF_perm e).length_eq]; rfl
theorem delF_le (k : ByteArray) : (delF l k).length ≤ l.length := List.length_filter_le _ _
theorem delF_tot_le (h : IncF l) (k : ByteArray) : totF (delF l k) ≤ totF l := by
  cases hf : findF l k with
  | none => rw [delF_none hf]; exact Nat.le_refl _
  | some e => obtain ⟨h1, rfl⟩ := findF_mem hf; have := delF_tot h h1; omega
end
/-! ### What the calls do -/
def offK (s : DkS) : Prop := s.calls = 0
instance (s : DkS) : Decidable (offK s) := by unfold offK; exact inferInstance
/-- Why a file can't be changed: 31 off, 4 none. -/
def readyK (s : DkS) (k : ByteArray) : Int := if offK s then 31 else if (findF s.l k).isSome then 0 else 4
def appendK (s : DkS) (k : ByteArray) (b : List Int) (blk : Nat) : DkS × Int :=
  if ¬ isName k then (s, 30) else if offK s then (s, 31) else if leftK s < (b.length : Int) ∨ (findF s.l k = none ∧ 64 ≤ s.l.length) then (s, 2)
  else (doneK ⟨s.size, s.calls, putF s.l (match findF s.l k with | some e => ⟨k, e.blk, e.bytes ++ b, e.synced⟩ | none => ⟨k, blk, b, 0⟩)⟩, 0)
def syncK (s : DkS) (k : ByteArray) : DkS × Int := match findF s.l k with
  | some e => if offK s then (s, 31) else (doneK ⟨s.size, s.calls, putF s.l ⟨k, e.blk, e.bytes, (e.bytes.length : Int)⟩⟩, 0)
  | none => (s, if offK s then 31 else 4)
def cutK (s : DkS) (k : ByteArray) (n : Int) : DkS × Int := match findF s.l k with
  | some e => if offK s then (s, 31) else if n < 0 ∨ (e.bytes.length : Int) < n then (s, 1) else (doneK ⟨s.size, s.calls, putF s.l ⟨k, e.blk, e.bytes.take n.toNat, n⟩⟩, 0)
  | none => (s, if offK s then 31 else 4)
def removeK (s : DkS) (k : ByteArray) : DkS × Int := match findF s.l k with
  | some e => if offK s then (s, 31) else (doneK ⟨s.size, s.calls, delF s.l k⟩, 0)
  | none => (s, if offK s then 31 else 4)
def renameK (s : DkS) (k to_ : ByteArray) : DkS × Int := if ¬ isName to_ then (s, 30) else match findF s.l k with
  | some e => if offK s then (s, 31) else (doneK ⟨s.size, s.calls, putF (delF s.l k) ⟨to_, e.blk, e.bytes, e.synced⟩⟩, 0)
  | none => (s, if offK s then 31 else 4)
def stopK (s : DkS) (n : Int) : DkS := if offK s then s else ⟨s.size, max n (-1), s.l⟩
theorem KI.done {s : DkS} (h : KI s) : KI (doneK s) := by
  refine ⟨h.size, ?_, h.inc, h.len, h.tot, h.ok⟩
  have h1 := h.calls.1
  have h2 := i64In h.calls.2
  unfold doneK; dsimp only
  split
  · exact ⟨by omega, i64In_mk (by omega)⟩
  · exact ⟨h1, i64In_mk (by omega)⟩
theorem KI.append {s : DkS} (h : KI s) (k : ByteArray) (b : List Int) (blk : Nat) (hb : ∀ x ∈ b, 0 ≤ x ∧ x ≤ 255) : KI (appendK s k b blk).1 := by
  unfold appendK
  split
  · exact h
  · rename_i hn
    have hn := Classical.not_not.1 hn
    split
    · exact h
    · split
      · exact h
      · rename_i hc
        refine KI.done ?_
        have hk32 : k.size ≤ 32 := hn.2.2
        have ht := h.tot
        cases hf : findF s.l k with
        | some e =>
          obtain ⟨he, rfl⟩ := findF_mem hf
          have h1 := delF_tot h.inc he
          have h2 := delF_len h.inc he
          have h3 := h.len
          have ho := h.ok e he
          refine ⟨h.size, h.calls, h.inc.put _, by dsimp only; rw [putF_len]; dsimp only; omega, ?_, fun q hq => ?_⟩
          · dsimp only
            rw [putF_tot]; dsimp only
            unfold leftK at hc
            rw [List.length_append]; omega
          · rcases mem_putF.1 hq with rfl | ⟨hq, _⟩
            · refine ⟨hk32, ho.2.1, by dsimp only; rw [List.length_append]; have := ho.2.2.1; omega, fun x hx => ?_⟩
              rcases List.mem_append.1 hx with hx | hx
              · exact ho.2.2.2 x hx
              · exact hb x hx
            · exact h.ok q hq
        | none =>
          have h1 := delF_none hf
          have h3 : s.l.length < 64 := Nat.lt_of_not_le fun e => hc (.inr ⟨hf, e⟩)
          refine ⟨h.size, h.calls, h.inc.put _, by dsimp only; rw [putF_len]; dsimp only; rw [h1]; omega, ?_, fun q hq => ?_⟩
          · dsimp only
            rw [putF_tot]; dsimp only
            rw [h1]
            unfold leftK at hc
            omega
          · rcases mem_putF.1 hq with rfl | ⟨hq, _⟩
            · exact ⟨hk32, Int.le_refl _, by dsimp only; omega, hb⟩
            · exact h.ok q hq
theorem KI.change {s : DkS} (h : KI s) {e : FileE} (he : e ∈ s.l) (bs : List Int) (n : Int) (h1 : bs.length ≤ e.bytes.length) (h2 : ∀ x ∈ bs, 0 ≤ x ∧ x ≤ 255) (h3 : 0 ≤ n ∧ n ≤ (bs.length : Int)) : KI ⟨s.size, s.calls, putF s.l ⟨e.name, e.blk, bs, n⟩⟩ := by
  have q1 := delF_tot h.inc he
  have q2 := delF_len h.inc he
  have q3 := h.len
  have q4 := h.tot
  refine ⟨h.size, h.calls, h.inc.put _, by dsimp only; rw [putF_len]; dsimp only; omega, ?_, fun q hq => ?_⟩
  · dsimp only; rw [putF_tot]; dsimp only; omega
  · rcases mem_putF.1 hq with rfl | ⟨hq, _⟩
    · exact ⟨(h.ok e he).1, h3.1, h3.2, h2⟩
    · exact h.ok q hq
theorem KI.cut {s : DkS} (h : KI s) (k : ByteArray) (n : Int) : KI (cutK s k n).1 := by
  unfold cutK
  cases hf : findF s.l k with
  | none => exact h
  | some e =>
    obtain ⟨he, rfl⟩ := findF_mem hf
    dsimp only
    split
    · exact h
    · split
      · exact h
      · exact (h.change he _ _ (by rw [List.length_take]; omega) (fun x hx => (h.ok e he).2.2.2 x (List.mem_of_mem_take hx)) ⟨by omega, by rw [List.length_take]; omega⟩).done
theorem KI.del {s : DkS} (h : KI s) (k : ByteArray) : KI ⟨s.size, s.calls, delF s.l k⟩ :=
  ⟨h.size, h.calls, h.inc.del k, Nat.le_trans (delF_le k) h.len, by have := delF_tot_le h.inc k; have := h.tot; dsimp only; omega, fun e he => h.ok e (mem_delF.1 he).1⟩
theorem KI.rename {s : DkS} (h : KI s) (k to_ : ByteArray) : KI (renameK s k to_).1 := by
  unfold renameK
  split
  · exact h
  · rename_i hn
    have hn := Classical.not_not.1 hn
    cases hf : findF s.l k with
    | none => exact h
    | some e =>
      obtain ⟨he, rfl⟩ := findF_mem hf
      dsimp only
      split
      · exact h
      · refine KI.done ?_
        have q1 := delF_tot h.inc he
        have q2 := delF_len h.inc he
        have q3 := h.len
        have q4 := h.tot
        have q5 := delF_le (l := delF s.l e.name) to_
        have q6 := delF_tot_le (h.inc.del e.name) to_
        refine ⟨h.size, h.calls, (h.inc.del _).put _, by dsimp only; rw [putF_len]; dsimp only; omega, ?_, fun q hq => ?_⟩
        · dsimp only; rw [putF_tot]; dsimp only; omega
        · rcases mem_putF.1 hq with rfl | ⟨hq, _⟩
          · exact ⟨hn.2.2, (h.ok e he).2⟩
          · exact h.ok q (mem_delF.1 hq).1
theorem KI.stop {s : DkS} (h : KI s) {n : Int} (hn : intIn .i64 n) : KI (stopK s n) := by
  unfold stopK
  split
  · exact h
  · have := i64In hn
    exact ⟨h.size, ⟨by dsimp only; omega, by dsimp only; exact i64In_mk (by omega)⟩, h.inc, h.len, h.tot, h.ok⟩
end Go.SL
set_option linter.unusedVariables false
set_option linter.unusedSimpArgs false
set_option linter.unusedSectionVars false
namespace Go.SL
open Go
/-- Assertions with a key: the one of key k is p; R: all else. -/
class FindK (L : List HP) (k : Nat) (p : outParam HP) (R : outParam (List HP)) : Prop where
  g : Gives L (p :: R)
instance findK_tail {q : HP} {L R : List HP} {k : Nat} {p : HP} [h : FindK L k p R] : FindK (q :: L) k p (q :: R) := ⟨(Gives.cons q h.g).trans (Gives.swap q _ R)⟩
theorem sep_append {M : Mem} {B : List HP} : ∀ {A : List HP} {h h1 h2 : Mem}, Sep A M h1 → Sep B M h2 → h1.disj h2 → h1.le h → h2.le h → Sep (A ++ B) M h
  | [], h, h1, h2, _, hb, _, _, l2 => Sep.mono (Mem.le_refl _) l2 hb
  | p :: A, h, h1, h2, ⟨a1, a2, ad, m1, m2, hp, hs⟩, hb, hd, l1, l2 => by
    refine ⟨a1, a2.join h2, ?_, Mem.le_trans m1 l1, Mem.join_le (Mem.le_trans m2 l1) l2, hp, sep_append (h := a2.join h2) hs hb (Mem.disj_le hd m2 (Mem.le_refl _)) (Mem.le_join_left _ _) (Mem.le_join_right (Mem.disj_le hd m2 (Mem.le_refl _)))⟩
    exact Mem.disj_symm (Mem.join_disj (Mem.disj_symm ad) (Mem.disj_symm (Mem.disj_le hd m1 (Mem.le_refl _))))
theorem sep_split {M : Mem} {B : List HP} : ∀ {A : List HP} {h : Mem}, Sep (A ++ B) M h → ∃ h1 h2, h1.disj h2 ∧ h1.le h ∧ h2.le h ∧ Sep A M h1 ∧ Sep B M h2
  | [], h, hs => ⟨Mem.emp, h, Mem.emp_disj _, Mem.emp_le _, Mem.le_refl _, trivial, hs⟩
  | p :: A, h, ⟨a1, a2, ad, m1, m2, hp, hs⟩ => by
    obtain ⟨b1, b2, bd, n1, n2, hA, hB⟩ := sep_split hs
    refine ⟨a1.join b1, b2, ?_, Mem.join_le m1 (Mem.le_trans n1 m2), Mem.le_trans n2 m2, ⟨a1, b1, Mem.disj_le ad (Mem.le_refl _) n1, Mem.le_join_left _ _, Mem.le_join_right (Mem.disj_le ad (Mem.le_refl _) n1), hp, hA⟩, hB⟩
    exact Mem.join_disj (Mem.disj_le ad (Mem.le_refl _) n2) bd
def exH {β : Type} (f : β → List HP) : HP := ⟨fun M h => ∃ x, Sep (f x) M h, fun hM hh ⟨x, h⟩ => ⟨x, Sep.mono hM hh h⟩⟩
theorem exH_close {β : Type} {f : β → List HP} {L : List HP} (x : β) : Gives (f x ++ L) (exH f :: L) := fun M h hs => by
  obtain ⟨h1, h2, hd, l1, l2, hA, hB⟩ := sep_split hs
  exact ⟨h1, h2, hd, l1, l2, ⟨x, hA⟩, hB⟩
theorem exH_open {β : Type} {f : β → List HP} {L : List HP} {W w : World} (h : Sat W w (exH f :: L)) : ∃ x, Sat W w (f x ++ L) := by
  obtain ⟨M, k, hd, hM, hk, h1, h2, hd', l1, l2, ⟨x, hx⟩, hs⟩ := h.ex
  exact ⟨x, ⟨M, k, hd, hM, hk, sep_append hx hs hd' l1 l2⟩, h.os, h.tape, h.output, h.size⟩
section
variable {r : Option Nat} {n : Nat} {P : Program} {ops : Array Oper} {rest : List Oper} {K : St → Prop} {Q : Exit → St → Prop} {D : List Deferred} {E : Env} {L L' : List HP} {d : Nat} {ty : TypeId} {pos : String} {af : Array Edge}
theorem TL_pullk (k : Nat) {p : HP} {R : List HP} [hf : FindK L k p R] (h : TL r n P ops rest ⟨D, E, p :: R⟩ K) : TL r n P ops rest ⟨D, E, L⟩ K := TL_gives hf.g h
theorem T_pullk (k : Nat) {p : HP} {R : List HP} {c : Code} [hf : FindK L k p R] (h : T r n P c ⟨D, E, p :: R⟩ Q) : T r n P c ⟨D, E, L⟩ Q := T_gives hf.g h
theorem T_exH {β : Type} {f : β → List HP} {c : Code} (h : ∀ x, T r n P c ⟨D, E, f x ++ L⟩ Q) : T r n P c ⟨D, E, exH f :: L⟩ Q := fun W a w hh => by
  obtain ⟨x, hx⟩ := exH_open hh.2
  exact h x W a w ⟨hh.1, hx⟩
end
end Go.SL
set_option linter.unusedVariables false
set_option linter.unusedSectionVars false
namespace Go.SL
open Go
/-- The record of a range over a function. -/
def lrec (l n : Nat) (E : Env) (ps : Array Tmp) (assign body : Code) (b0 : Nat) (st : LoopState) (j : Option Code) : HP :=
  ⟨fun _ h => ∃ (fn : FuncId) (tmps : Array Value), tmps.size = n ∧ (∀ i v, look E i = some v → tmps[i]? = some v) ∧ h l = some (.loop { state := st, pending := j, fn := fn, tmps := tmps, params := ps, assign := assign, body := body, defers := b0 }),
    fun _ hh ⟨fn, tmps, h1, h2, h3⟩ => ⟨fn, tmps, h1, h2, hh _ _ h3⟩⟩
def mark (b : Nat) : Deferred := { target := .collected b, args := #[] }
abbrev own0 (b : Nat) : HP := own b (.deferred (some []))
section
variable {l n : Nat} {E : Env} {ps : Array Tmp} {assign body : Code} {b0 : Nat} {st st' : LoopState} {j j' : Option Code} {L L' : List HP} {o w : World} {P : Program}
abbrev loopO (fn : FuncId) (tmps : Array Value) (ps : Array Tmp) (assign body : Code) (b0 : Nat) (st : LoopState) (j : Option Code) : Obj := .loop { state := st, pending := j, fn := fn, tmps := tmps, params := ps, assign := assign, body := body, defers := b0 }
theorem lrec_open (h : Sat o w (lrec l n E ps assign body b0 st j :: L)) : ∃ fn tmps, tmps.size = n ∧ (∀ i v, look E i = some v → tmps[i]? = some v) ∧ Sat o w (own l (loopO fn tmps ps assign body b0 st j) :: L) := by
  obtain ⟨M, k, hd, hM, hk, h1, h2, hd', l1, l2, ⟨fn, tmps, a, b, c⟩, hs⟩ := h.ex
  exact ⟨fn, tmps, a, b, ⟨M, k, hd, hM, hk, h1, h2, hd', l1, l2, c, hs⟩, h.os, h.tape, h.output, h.size⟩
theorem lrec_close {fn : FuncId} {tmps : Array Value} (h1 : tmps.size = n) (h2 : ∀ i v, look E i = some v → tmps[i]? = some v) : Gives (own l (loopO fn tmps ps assign body b0 st j) :: L) (lrec l n E ps assign body b0 st j :: L) :=
  fun M h ⟨a1, a2, ad, m1, m2, hp, hs⟩ => ⟨a1, a2, ad, m1, m2, ⟨fn, tmps, h1, h2, hp⟩, hs⟩
theorem Sat.put {b : Nat} {x y : Obj} (h : Sat o w (own b x :: L)) : Sat o (w.putObj b y) (own b y :: L) := by
  have hb := h.own_at
  exact h.set (World.putObj_heap_same (Array.getElem?_eq_some_iff.1 hb).1) (fun i hi => World.putObj_heap_other hi) rfl rfl rfl (by simp)
end
/-- Yield, called so, comes to what Φ tells. -/
def YieldC (P : Program) (l : Nat) (vs : List Value) (L : List HP) (Φ : Value → List HP → Prop) : Prop :=
  ∀ r o w, Sat o w L → ∃ f tmps assign body, (Instr.yield l vs.toArray).run P w = .ok (.round l f tmps assign body) w ∧ RoundIn (Fw r) 0 P l f tmps assign body w (fun e w' => ∃ v L', e = .returned v ∧ Φ v L' ∧ Sat o w' L')
section
variable {r : Option Nat} {n : Nat} {P : Program} {ops : Array Oper} {rest : List Oper} {K : St → Prop} {Q : Exit → St → Prop} {D : List Deferred} {E : Env} {L L' : List HP} {d : Nat} {ty : TypeId} {pos : String} {af : Array Edge}
theorem run_call_yield {l : Nat} {c : Operand} {xs : List Operand} {vs : List Value} {ts : Array TypeId} {a : Act} {w : World} {dst : Option Tmp} {nx : Next} (ha : View n D a E) (hf : ev E c = some (.func (.yield l) #[] #[])) (hx : evl E xs = some vs) (hy : (Instr.yield l vs.toArray).run P w = .ok nx w) :
    (execOp a.eval ⟨dst, .call { callee := .value c, args := xs.toArray, argTypes := ts }, ty, pos, af, none⟩).run P w = .ok nx w := by
  simp [execOp, resolve, invoke, ha.ev hf, Deferred.ofValue, ha.evl hx, hy]
theorem TL_yield {l : Nat} {c : Operand} {xs : List Operand} {vs : List Value} {ts : Array TypeId} {Φ : Value → List HP → Prop} (hd : Nat.blt d n = true) (hf : ev E c = some (.func (.yield l) #[] #[])) (hx : evl E xs = some vs) (spec : YieldC P l vs L Φ)
    (h : ∀ v L', Φ v L' → TL r n P ops rest ⟨D, (d, v) :: E, L'⟩ K) : TL r n P ops (⟨some d, .call { callee := .value c, args := xs.toArray, argTypes := ts }, ty, pos, af, none⟩ :: rest) ⟨D, E, L⟩ K := fun W a w hh => by
  refine wpListIn_plain rfl fun K' hK => ⟨fun _ _ => trivial, ?_⟩
  obtain ⟨f, tmps, assign, body, hy, hr⟩ := spec r W w hh.2
  rw [Oper.semAt_eq _ _ _ (fun _ e => by cases e), run_call_yield hh.1 hf hx hy]
  refine ⟨fun hx => by simp at hx, hr.mono ?_⟩
  rintro e w' ⟨v, L', rfl, hΦ, hs⟩
  exact hK _ _ (h v L' hΦ W _ _ ⟨hh.1.put (by simpa using hd) v, hs⟩)
/-! ### A round -/
def setE : List (Tmp × Value) → Env → Env
  | [], E => E
  | (t, v) :: r, E => setE r ((t, v) :: E)
theorem view_set : ∀ {ts : List (Tmp × Value)} {tm : Array Value} {E : Env}, tm.size = n → (∀ i v, look E i = some v → tm[i]? = some v) → (∀ p ∈ ts, p.1 < n) →
    (ts.foldl (fun tmps (p : Tmp × Value) => tmps.setIfInBounds p.1 p.2) tm).size = n ∧ ∀ i v, look (setE ts E) i = some v → (ts.foldl (fun tmps (p : Tmp × Value) => tmps.setIfInBounds p.1 p.2) tm)[i]? = some v
  | [], tm, E, hs, hv, _ => ⟨hs, hv⟩
  | (t, u) :: r, tm, E, hs, hv, hl => by
    have ht := hl (t, u) List.mem_cons_self
    refine view_set (ts := r) (tm := tm.setIfInBounds t u) (E := (t, u) :: E) (by simpa using hs) (fun i v hi => ?_) (fun p hp => hl p (List.mem_cons_of_mem _ hp))
    have hview : View n [] (({ tmps := tm, defers := [] } : Act).put (some t) u) ((t, u) :: E) := View.put (a := { tmps := tm, defers := [] }) (E := E) (D := []) ⟨hs, rfl, hv⟩ ht u
    exact hview.get i v hi
/-- What a round comes to, by the way its body ends. -/
def roundQ (l n : Nat) (E : Env) (ps : Array Tmp) (assign body : Code) (b0 : Nat) (j : Option Code) (Φ : Value → List HP → Prop) : Exit → St → Prop
  | .normal, s => ∃ L3, Gives s.L (lrec l n E ps assign body b0 .busy j :: L3) ∧ Φ (.bool true) (lrec l n E ps assign body b0 .ready none :: L3)
  | .ret, s => ∃ L3, Gives s.L (lrec l n E ps assign body b0 .busy j :: L3) ∧ Φ (.bool false) (lrec l n E ps assign body b0 .done (some .ret) :: L3)
  | .exit id, s => ∃ L3, Gives s.L (lrec l n E ps assign body b0 .busy j :: L3) ∧ Φ (.bool false) (lrec l n E ps assign body b0 .done (some (.exit id)) :: L3)
  | _, _ => False
theorem lrec_end {l : Nat} {ps : Array Tmp} {assign body : Code} {b0 : Nat} {j jump : Option Code} {o w : World} (h : Sat o w (lrec l n E ps assign body b0 .busy j :: L)) :
    ∃ w', (Instr.endRound l jump).run P w = .ok (.bool jump.isNone) w' ∧ Sat o w' (lrec l n E ps assign body b0 (if jump.isNone then .ready else .done) jump :: L) := by
  obtain ⟨fn, tmps, h1, h2, hs⟩ := lrec_open h
  exact ⟨_, run_endRound jump hs.own_at, (hs.put).gives (lrec_close h1 h2)⟩
theorem YieldC_of {l : Nat} {ps : Array Tmp} {assign body : Code} {b0 : Nat} {j : Option Code} {vs : List Value} {Φ : Value → List HP → Prop} (hsz : vs.length = ps.size) (hps : ∀ t ∈ ps, t < n)
    (h : T (some l) n P assign ⟨[], setE (ps.toList.zip vs) E, lrec l n E ps assign body b0 .ready j :: L⟩ (fun e s => e = .normal ∧ ∃ L2, Gives s.L (lrec l n E ps assign body b0 .ready j :: L2) ∧ T (some l) n P body ⟨s.D, s.E, lrec l n E ps assign body b0 .busy j :: L2⟩ (roundQ l n E ps assign body b0 j Φ))) :
    YieldC P l vs (lrec l n E ps assign body b0 .ready j :: L) Φ := fun r o w hs => by
  obtain ⟨fn, tmps, h1, h2, hs1⟩ := lrec_open hs
  have hy := run_yield (P := P) (args := vs.toArray) hs1.own_at (by simpa using hsz)
  refine ⟨_, _, _, _, hy, roundIn_of_wpIn trivial ?_⟩
  have hfold : (ps.zip vs.toArray).foldl (fun tmps (t, a) => tmps.setIfInBounds t a) tmps = (ps.toList.zip vs).foldl (fun tmps (p : Tmp × Value) => tmps.setIfInBounds p.1 p.2) tmps := by
    rw [← Array.foldl_toList, Array.toList_zip]
  have hset := view_set (n := n) (ts := ps.toList.zip vs) (tm := tmps) (E := E) h1 h2 (fun p hp => hps _ (by have := (List.of_mem_zip hp).1; simpa using this))
  have hview : View n [] { tmps := (ps.zip vs.toArray).foldl (fun tmps (t, a) => tmps.setIfInBounds t a) tmps, defers := [] } (setE (ps.toList.zip vs) E) := by
    rw [hfold]; exact ⟨hset.1, rfl, hset.2⟩
  refine wpIn_mono (h o _ w ⟨hview, hs⟩) ?_
  rintro e a' w' ⟨s', ⟨rfl, L2, hg, hb⟩, hk⟩
  obtain ⟨fn', tmps', k1, k2, k3⟩ := lrec_open (hk.2.gives hg)
  refine ⟨_, run_beginRound k3.own_at rfl, wpIn_mono (hb o a' _ ⟨hk.1, (k3.put).gives (lrec_close k1 k2)⟩) ?_⟩
  rintro e a2 w2 ⟨s2, hq, hk2⟩
  cases e with
  | normal =>
    obtain ⟨L3, g, hΦ⟩ := hq
    obtain ⟨w3, hr, hs3⟩ := lrec_end (P := P) (jump := none) (hk2.2.gives g)
    exact ⟨_, w3, hr, _, _, rfl, hΦ, hs3⟩
  | ret =>
    obtain ⟨L3, g, hΦ⟩ := hq
    obtain ⟨w3, hr, hs3⟩ := lrec_end (P := P) (jump := some .ret) (hk2.2.gives g)
    exact ⟨_, w3, hr, _, _, rfl, hΦ, hs3⟩
  | exit id =>
    obtain ⟨L3, g, hΦ⟩ := hq
    obtain ⟨w3, hr, hs3⟩ := lrec_end (P := P) (jump := some (.exit id)) (hk2.2.gives g)
    exact ⟨_, w3, hr, _, _, rfl, hΦ, hs3⟩
  | goto t => exact hq.elim
  | panic c => exact hq.elim
  | outgrown => exact hq.elim
/-! ### The statement -/
/-- What comes behind the function that was ranged over. -/
def behind (r : Option Nat) (n : Nat) (P : Program) (D : List Deferred) (E : Env) (L2 : List HP) (Q : Exit → St → Prop) : Option Code → Prop
  | none => Q .normal ⟨D, E, L2⟩
  | some c => T r n P c ⟨D, E, L2⟩ Q
theorem T_rangeFunc {g : Operand} {f : FuncId} [hc : IsCall P f] {fs cs : List Value} {ps : Array Tmp} {assign body : Code} {Φ' : Nat → Nat → Value → List HP → Prop} (hg : ev E g = some (.func (.func f) fs.toArray cs.toArray))
    (spec : ∀ l b0, Fn P f (fs ++ [Value.func (.yield l) #[] #[]] ++ cs).toArray (lrec l n E ps assign body b0 .ready none :: own0 b0 :: L) (Φ' l b0))
    (h : ∀ l b0 v L', Φ' l b0 v L' → ∃ st j L2, st ≠ .busy ∧ Gives L' (lrec l n E ps assign body b0 st j :: L2) ∧ behind none n P (mark b0 :: D) E L2 Q j) :
    T none n P (.rangeFunc g ps assign body) ⟨D, E, L⟩ Q := fun o a w hh => by
  refine wpIn_rangeFunc fun fn _ => ?_
  have henter := run_enterLoop_outer (P := P) (w := w) fn a.tmps ps assign body
  have hs1 := (hh.2.alloc (.deferred (some []))).alloc (.loop { state := .ready, pending := none, fn := fn, tmps := a.tmps, params := ps, assign := assign, body := body, defers := w.heap.size })
  have hsz : (w.alloc (.deferred (some []))).heap.size = w.heap.size + 1 := World.size_alloc _ _
  rw [hsz] at hs1
  have hs2 := hs1.gives (lrec_close (ps := ps) (assign := assign) (body := body) (b0 := w.heap.size) (st := .ready) (j := none) hh.1.size hh.1.get)
  refine ⟨_, _, _, { target := .fn (.func f) cs.toArray, args := (fs ++ [Value.func (.yield (w.heap.size + 1)) #[] #[]]).toArray }, (w.alloc (.deferred (some []))).alloc (loopO fn a.tmps ps assign body w.heap.size .ready none), f, (fs ++ [Value.func (.yield (w.heap.size + 1)) #[] #[]] ++ cs).toArray, _, henter, ?_, fun _ _ => trivial, ?_, fun hx => by simp at hx, ((spec _ _).into hs2).mono ?_⟩
  · have hc1 : a.eval (.const (Value.func (.yield (w.heap.size + 1)) #[] #[])) = Value.func (.yield (w.heap.size + 1)) #[] #[] := rfl
    simp [resolve, hh.1.ev hg, Deferred.ofValue, hc1]
  · simp [invoke, hc.run]
  · rintro e w' ⟨v, L', rfl, hΦ, hs⟩
    obtain ⟨st, j, L2, hst, hgv, hb⟩ := h _ _ v L' hΦ
    obtain ⟨fn', tmps', k1, k2, k3⟩ := lrec_open (hs.gives hgv)
    refine ⟨_, _, run_endLoop k3.own_at hst, ?_⟩
    have hk : Holds n o ⟨mark w.heap.size :: D, E, L2⟩ { a with defers := [{ target := .collected w.heap.size, args := #[] }] ++ a.defers } (w'.putObj (w.heap.size + 1) (.loop { state := .exhausted, pending := j, fn := fn', tmps := tmps', params := ps, assign := assign, body := body, defers := w.heap.size })) :=
      ⟨⟨hh.1.size, by simp [mark, hh.1.defers], hh.1.get⟩, (k3.put).gives (Gives.drop _ _)⟩
    cases j with
    | none => exact ⟨_, hb, hk⟩
    | some c => exact hb o _ _ hk
/-! ### Functions that hold such a statement -/
def RetQM (P : Program) (fn : Func) (Φ : Value → List HP → Prop) (e : Exit) (s : St) : Prop :=
  ∃ (bs : List Nat) (L2 : List HP), s.D = bs.map mark ∧ Gives s.L (bs.map own0 ++ L2) ∧ RetQ P fn Φ e ⟨[], s.E, L2⟩
theorem leaves_marks {fn : Func} {R : Ending → World → Prop} {o : World} {L2 : List HP} {tmps : Array Value} : ∀ (bs : List Nat) (w : World), Sat o w (bs.map own0 ++ L2) → (∀ w', Sat o w' L2 → ∃ v, (results fn tmps).run P w' = .ok v w' ∧ R (.returned v) w') → LeavesInM (Fw none) 0 P fn tmps R (bs.map mark) .returning w
  | [], w, hs, hr => hr w hs
  | b :: bs, w, hs, hr => by
    refine ⟨by simp, .inl ⟨b, _, rfl, run_takeDeferred (Sat.own_at hs), ?_⟩⟩
    exact leaves_marks bs _ ((Sat.put (y := .deferred none) hs).gives (Gives.drop _ _)) hr
theorem Fn_enterM {f : FuncId} {fn : Func} {c : Code} {args : List Value} {E0 : Env} {Φ : Value → List HP → Prop} (hf : P.funcs[f]? = some fn) (hb : fn.body = some c) (hn : fn.ntmps = n) (hE : envO 0 args = some E0) (hl : Nat.ble args.length n = true)
    (h : T none n P c ⟨[], E0, L⟩ (RetQM P fn Φ)) : Fn P f args.toArray L Φ := fun W w hs => by
  refine callsIn_wide.1 (callsIn_of_wp_marks (F := Fence.wide) (n := 0) hf hb trivial ?_)
  have hsz : args.length ≤ n := by simpa using hl
  have hview : View n [] { tmps := args.toArray ++ Array.replicate (fn.ntmps - args.toArray.size) undef, defers := [] } E0 := by
    refine ⟨by simp [hn]; omega, rfl, fun j v hv => ?_⟩
    obtain ⟨_, h2⟩ := envO_look hE j v hv
    simp only [Nat.sub_zero] at h2
    have hj : j < args.length := (List.getElem?_eq_some_iff.1 h2).1
    simp [Array.getElem?_append, hj]
    simpa [List.getElem?_eq_getElem hj] using h2
  refine wpIn_mono (h W _ w ⟨hview, hs⟩) ?_
  rintro e a' w' ⟨s', ⟨bs, L2, hD, hg, q⟩, hk⟩
  have key : (∃ v L', Φ v L' ∧ ∀ n W a w, Holds n W ⟨[], s'.E, L2⟩ a w → Sat W w L' ∧ (results fn a.tmps).run P w = .ok v w) → LeavesInM Fence.wide 0 P fn a'.tmps (fun e w' => ∃ v L', e = .returned v ∧ Φ v L' ∧ Sat W w' L') a'.defers .returning w' := by
    rintro ⟨v, L', hΦ, hr⟩
    rw [hk.1.defers, hD]
    refine leaves_marks (L2 := L2) (o := W) bs w' (hk.2.gives hg) (fun w2 h2 => ?_)
    obtain ⟨k1, k2⟩ := hr n W { tmps := a'.tmps, defers := [] } w2 ⟨⟨hk.1.size, rfl, hk.1.get⟩, h2⟩
    exact ⟨v, k2, v, L', rfl, hΦ, k1⟩
  cases e <;> simp only [RetQ] at q
  case normal => exact key q.2
  case ret => exact key q.2
end
end Go.SL
set_option linter.unusedVariables false
set_option linter.unusedSectionVars false
namespace Go.SL
open Go
/-- The consumer is handed the items, one by one, until it stops. -/
inductive Runs {τ α : Type} (step : τ → α → τ → Prop) (stop : τ → Bool) : τ → List α → τ → Prop
  | nil (s : τ) : Runs step stop s [] s
  | halt {s s' : τ} {x : α} {xs : List α} : step s x s' → stop s' = true → Runs step stop s (x :: xs) s'
  | go {s s' s2 : τ} {x : α} {xs : List α} : step s x s' → stop s' = false → Runs step stop s' xs s2 → Runs step stop s (x :: xs) s2
theorem Runs.snoc {τ α : Type} {step : τ → α → τ → Prop} {stop : τ → Bool} {s s1 s2 : τ} {xs : List α} {x : α} (h : Runs step stop s xs s1) (h0 : stop s = false) (h1 : stop s1 = false) (h2 : step s1 x s2) : Runs step stop s (xs ++ [x]) s2 := by
  induction h with
  | nil s =>
    cases e : stop s2 with
    | true => exact .halt h2 e
    | false => exact .go h2 e (.nil _)
  | halt a b => rw [b] at h1; cases h1
  | go a b c ih => exact .go a b (ih b h1 h2)
theorem Runs.more {τ α : Type} {step : τ → α → τ → Prop} {stop : τ → Bool} {s s1 : τ} {xs : List α} (h : Runs step stop s xs s1) (h1 : stop s1 = true) (h0 : stop s = false) (ys : List α) : Runs step stop s (xs ++ ys) s1 := by
  induction h with
  | nil s => rw [h1] at h0; cases h0
  | halt a b => exact .halt a b
  | go a b c ih => exact .go a b (ih h1 b)
/-- A consumer's resource, by its record's number. -/
def con (l : Nat) (p : HP) : HP := p
instance findK_con {L : List HP} {l : Nat} {p : HP} : FindK (con l p :: L) l (con l p) L := ⟨Gives.refl _⟩
def YieldsL (P : Program) (l : Nat) {τ α : Type} (C : τ → HP) (val : α → List Value) (ok : α → List HP → Prop) (step : τ → α → τ → Prop) (stop : τ → Bool) (cnt : τ → Nat) (N : Nat) : Prop :=
  ∀ s x Lx, stop s = false → ok x Lx → cnt s < N → YieldC P l (val x) (con l (C s) :: Lx) (fun v L' => ∃ s', step s x s' ∧ v = .bool (!stop s') ∧ L' = con l (C s') :: Lx)
abbrev YieldsC (P : Program) (l : Nat) {τ α : Type} (C : τ → HP) (val : α → List Value) (ok : α → Prop) (step : τ → α → τ → Prop) (stop : τ → Bool) (cnt : τ → Nat) (N : Nat) : Prop := YieldsL P l C val (fun x _ => ok x) step stop cnt N
/-- The function value hands some list of items, az seqs tells, to whatever consumer; what lies beside stays. -/
def IterL (P : Program) (c : Value) {α : Type} (val : α → List Value) (ok : α → List HP → Prop) (N : Nat) (Lf : List HP) (seqs : Bool → List α → Prop) : Prop :=
  ∃ f fs cs, c = .func (.func f) fs.toArray cs.toArray ∧ IsCall P f ∧ ∀ (τ : Type) (l : Nat) (C : τ → HP) (step : τ → α → τ → Prop) (stop : τ → Bool) (cnt : τ → Nat) (s0 : τ) (Lx : List HP), stop s0 = false → cnt s0 = 0 → (∀ s x s', step s x s' → cnt s' = cnt s + 1) → YieldsL P l C val ok step stop cnt N →
    Fn P f (fs ++ [Value.func (.yield l) #[] #[]] ++ cs).toArray (con l (C s0) :: (Lf ++ Lx)) (fun v L' => ∃ xs s', seqs (stop s') xs ∧ Runs step stop s0 xs s' ∧ L' = con l (C s') :: (Lf ++ Lx))
abbrev IterC (P : Program) (c : Value) {α : Type} (val : α → List Value) (ok : α → Prop) (N : Nat) (Lf : List HP) (seqs : Bool → List α → Prop) : Prop := IterL P c val (fun x _ => ok x) N Lf seqs
def unS (L : List HP) : HP := exH fun _ : Unit => L
theorem unS_close {L L' : List HP} : Gives (L ++ L') (unS L :: L') := exH_close (f := fun _ : Unit => L) ()
theorem unS_open {L L' : List HP} : Gives (unS L :: L') (L ++ L') := fun M h ⟨h1, h2, hd, l1, l2, ⟨_, hx⟩, hs⟩ => sep_append hx hs hd l1 l2
theorem Gives.perm {L L' : List HP} (h : L.Perm L') : Gives L L' := by
  induction h with
  | nil => exact Gives.refl _
  | cons x _ ih => exact Gives.cons x ih
  | swap x y l => exact Gives.swap _ _ _
  | trans _ _ h1 h2 => exact h1.trans h2
section
variable {n : Nat} {P : Program} {Q : Exit → St → Prop} {D : List Deferred} {E : Env} {L : List HP}
abbrev LS (σ : Type) := σ × Option Code
def lcon {σ : Type} (l n : Nat) (E : Env) (ps : Array Tmp) (assign body : Code) (b0 : Nat) (C : σ → List HP) (s : LS σ) : HP := unS (lrec l n E ps assign body b0 (if s.2.isNone then .ready else .done) s.2 :: C s.1)
theorem behind_none {r : Option Nat} {L2 : List HP} (h : Q .normal ⟨D, E, L2⟩) : behind r n P D E L2 Q none := h
/-- A range over an iterator: C tells the body's own resources by a state; the rest Lf stays az it is. -/
theorem T_range_iter {g : Operand} {c : Value} {α σ : Type} {val : α → List Value} {ok : α → List HP → Prop} {seqs : Bool → List α → Prop} {ps : Array Tmp} {assign body : Code} {N : Nat} {Lf Lr : List HP} (C : σ → List HP) (step : LS σ → α → LS σ → Prop) (cnt : σ → Nat) (s0 : σ)
    (hg : ev E g = some c) (hi : IterL P c val ok N Lf seqs) (hL : Gives L (C s0 ++ (Lf ++ Lr))) (hps : ∀ t ∈ ps, t < n) (hval : ∀ x, (val x).length = ps.size) (h0 : cnt s0 = 0) (hcnt : ∀ s x s', step s x s' → cnt s'.1 = cnt s.1 + 1)
    (hbody : ∀ l b0 s x Lx, ok x Lx → cnt s < N → T (some l) n P assign ⟨[], setE (ps.toList.zip (val x)) E, lrec l n E ps assign body b0 .ready none :: (C s ++ Lx)⟩ (fun e s1 => e = .normal ∧ ∃ L2, Gives s1.L (lrec l n E ps assign body b0 .ready none :: L2) ∧
      T (some l) n P body ⟨s1.D, s1.E, lrec l n E ps assign body b0 .busy none :: L2⟩ (fun e s2 => ∃ s' j, (match e with | .normal => j = none | .ret => j = some Code.ret | .exit id => j = some (Code.exit id) | _ => False) ∧ step (s, none) x (s', j) ∧ Gives s2.L (lrec l n E ps assign body b0 .busy none :: (C s' ++ Lx)))))
    (h : ∀ b0 xs (s : LS σ), seqs (!s.2.isNone) xs → Runs step (fun s => !s.2.isNone) (s0, none) xs s → behind none n P (mark b0 :: D) E (own0 b0 :: (C s.1 ++ (Lf ++ Lr))) Q s.2) :
    T none n P (.rangeFunc g ps assign body) ⟨D, E, L⟩ Q := by
  obtain ⟨f, fs, cs, rfl, hcall, hspec⟩ := hi
  have hy : ∀ l b0, YieldsL P l (fun s : LS σ => lcon l n E ps assign body b0 C s) val ok step (fun s => !s.2.isNone) (fun s => cnt s.1) N := by
    intro l b0 s x Lx hs hx hlt
    obtain ⟨s, j⟩ := s
    have hj : j = none := by cases j <;> simp at hs ⊢
    subst hj
    have key : YieldC P l (val x) (lrec l n E ps assign body b0 .ready none :: (C s ++ Lx)) (fun v L' => ∃ s' : LS σ, step (s, none) x s' ∧ v = .bool (!(!s'.2.isNone)) ∧ L' = lrec l n E ps assign body b0 (if s'.2.isNone then .ready else .done) s'.2 :: (C s'.1 ++ Lx)) := by
      refine YieldC_of (hval x) hps ((hbody l b0 s x Lx hx hlt).mono ?_)
      rintro e s1 ⟨rfl, L2, hg2, hb⟩
      refine ⟨rfl, L2, hg2, hb.mono ?_⟩
      rintro e s2 ⟨s', j, hj, hst, hg3⟩
      cases e with
      | normal => dsimp only at hj; subst hj; exact ⟨_, hg3, (s', none), hst, rfl, rfl⟩
      | ret => dsimp only at hj; subst hj; exact ⟨_, hg3, (s', some .ret), hst, rfl, rfl⟩
      | exit id => dsimp only at hj; subst hj; exact ⟨_, hg3, (s', some (.exit id)), hst, rfl, rfl⟩
      | goto t => exact hj.elim
      | panic c => exact hj.elim
      | outgrown => exact hj.elim
    intro r o w hw
    obtain ⟨f1, tm, az, bd, h1, h2⟩ := key r o w (hw.gives (unS_open (L := lrec l n E ps assign body b0 .ready none :: C s)))
    refine ⟨f1, tm, az, bd, h1, h2.mono ?_⟩
    rintro e w' ⟨v, L', rfl, ⟨s', k1, k2, rfl⟩, hw'⟩
    exact ⟨v, _, rfl, ⟨s', k1, k2, rfl⟩, hw'.gives (unS_close (L := lrec l n E ps assign body b0 (if s'.2.isNone then .ready else .done) s'.2 :: C s'.1))⟩
  refine T_rangeFunc (Φ' := fun l b0 v L' => ∃ xs s', seqs (!s'.2.isNone) xs ∧ Runs step (fun s => !s.2.isNone) (s0, none) xs s' ∧ L' = con l (lcon l n E ps assign body b0 C s') :: (Lf ++ own0 b0 :: Lr)) hg (fun l b0 => ?_) ?_
  · refine Fn_gives ?_ (hspec (LS σ) l (fun s => lcon l n E ps assign body b0 C s) step (fun s => !s.2.isNone) (fun s => cnt s.1) (s0, none) (own0 b0 :: Lr) rfl h0 hcnt (hy l b0))
    refine Gives.trans (Gives.cons _ (Gives.cons _ hL)) (Gives.trans (Gives.perm ?_) (unS_close (L := lrec l n E ps assign body b0 .ready none :: C s0) (L' := Lf ++ own0 b0 :: Lr)))
    show (lrec l n E ps assign body b0 .ready none :: own0 b0 :: (C s0 ++ (Lf ++ Lr))).Perm (lrec l n E ps assign body b0 .ready none :: (C s0 ++ (Lf ++ own0 b0 :: Lr)))
    refine List.Perm.cons _ ?_
    rw [← List.append_assoc, ← List.append_assoc]
    exact (List.perm_middle (l₁ := C s0 ++ Lf)).symm
  · rintro l b0 v L' ⟨xs, s', k1, k2, rfl⟩
    refine ⟨_, s'.2, own0 b0 :: (C s'.1 ++ (Lf ++ Lr)), ?_, (unS_open (L := lrec l n E ps assign body b0 (if s'.2.isNone then .ready else .done) s'.2 :: C s'.1)).trans (Gives.cons _ (Gives.perm ?_)), h b0 xs s' k1 k2⟩
    rotate_left
    · show (C s'.1 ++ (Lf ++ own0 b0 :: Lr)).Perm (own0 b0 :: (C s'.1 ++ (Lf ++ Lr)))
      rw [← List.append_assoc, ← List.append_assoc]; exact List.perm_middle
    split <;> simp
end
section
variable {P : Program} {fn : Func} {Φ : Value → List HP → Prop} {e : Exit} {E : Env} {L L2 : List HP} {b : Nat}
theorem retM1 [hf : FindHP L (own0 b) L2] (h : RetQ P fn Φ e ⟨[], E, L2⟩) : RetQM P fn Φ e ⟨[mark b], E, L⟩ := ⟨[b], L2, rfl, hf.g, h⟩
/-- The consumer that never stops. -/
theorem Runs.all {σ α : Type} {step : LS σ → α → LS σ → Prop} {s s' : LS σ} {xs : List α} (hn : ∀ s x s', step s x s' → s'.2 = none) (h : Runs step (fun s => !s.2.isNone) s xs s') (h0 : s.2 = none) : s'.2 = none := by
  induction h with
  | nil s => exact h0
  | halt a b => have := hn _ _ _ a; simp [this] at b
  | go a b c ih => exact ih (hn _ _ _ a)
end
/-! ### Ranges over functions in a loop: the marks gather -/
def owns (bs : List Nat) : HP := unS (bs.map own0)
section
variable {r : Option Nat} {n : Nat} {P : Program} {Q : Exit → St → Prop} {D : List Deferred} {E kv : Env} {L L1 L2 : List HP} {fn : Func} {Φ : Value → List HP → Prop} {e : Exit}
end
end Go.SL
set_option linter.unusedVariables false
set_option linter.unusedSimpArgs false
set_option linter.unusedSectionVars false
namespace Go.SL
open Go Go.Lib
/-- The elements' words are of M, their cells lie in N. -/
def sliceAt2 {α : Type} (M N : Mem) (R : Rep α) (A : Option Addr) (c : Nat) (xs : List α) : Prop :=
  xs.length ≤ c ∧ xs.length ≤ maxEl ∧ (xs = [] ∨ ∃ b o, A = some ⟨b, o, none⟩ ∧ ∃ cs t fr, N b = some (.cells cs t fr) ∧ ∀ i x, xs[i]? = some x → ∃ l, R.rep M x l ∧ ∀ j v, l[j]? = some v → cs[o + i * R.sz + j]? = some v)
def SlN {α : Type} (L : List HP) (R : Rep α) (A : Option Addr) (c : Nat) (xs : List α) : Prop := ∀ M h N, M.disj h → Sep L M h → M.le N → h.le N → sliceAt2 M N R A c xs
section
variable {α : Type} {R : Rep α} {A : Option Addr} {c : Nat} {xs : List α} {L L' : List HP}
theorem SlK.n (h : SlK L R A c xs) : SlN L R A c xs := fun M k N hd hs hM hk => by
  obtain ⟨a, b, e⟩ := h M k hs
  refine ⟨a, b, e.imp id ?_⟩
  rintro ⟨b, o, rfl, cs, t, fr, hb, hall⟩
  exact ⟨b, o, rfl, cs, t, fr, hM _ _ hb, hall⟩
theorem SlN.tail {p : HP} (h : SlN L R A c xs) : SlN (p :: L) R A c xs := fun M k N hd ⟨h1, h2, hd', l1, l2, hp, hs⟩ hM hk => h M h2 N (Mem.disj_le hd (Mem.le_refl _) l2) hs hM (Mem.le_trans l2 hk)
theorem SlN.of_gives (g : Gives L L') (h : SlN L' R A c xs) : SlN L R A c xs := fun M k N hd hs hM hk => h M k N hd (g M k hs) hM hk
theorem osl_n {t : TypeId} : SlN (osl R t A c xs :: L) R A c xs := fun M k N hd ⟨h1, h2, hd', l1, l2, hp, hs⟩ hM hk => by
  refine ⟨?_, hp.1, ?_⟩
  · rcases hp.2 with ⟨rfl, rfl⟩ | ⟨g, cur, _, _, _, hl, _⟩
    · simp
    · exact hl
  · rcases hp.2 with ⟨_, e⟩ | ⟨g, cur, e, hg, hsz, hl, hc, hx⟩
    · exact .inl e
    · exact .inr ⟨g, 0, e, cur, t, (0, 0), hk _ _ (l1 _ _ hg), fun i x hi => let ⟨l, a, b⟩ := hx i x hi; ⟨l, a, fun j v hj => by rw [Nat.zero_add]; exact b j v hj⟩⟩
theorem SlN.nil : SlN L R A c ([] : List α) := fun M k N _ _ _ _ => ⟨Nat.zero_le _, Nat.zero_le _, .inl rfl⟩
theorem SlN.len (h : SlN L R A c xs) {W w : World} (hs : Sat W w L) : xs.length ≤ c ∧ xs.length ≤ maxEl := by
  obtain ⟨M, k, hd, hM, hk, hsep⟩ := hs.ex
  have := h M k (heapOf w) hd hsep hM hk
  exact ⟨this.1, this.2.1⟩
end
class FindN (L : List HP) (A : Option Addr) (c : Nat) (α : outParam Type) (R : outParam (Rep α)) (xs : outParam (List α)) : Prop where
  k : SlN L R A c xs
instance findN_tail {p : HP} {L : List HP} {A : Option Addr} {c : Nat} {α : Type} {R : Rep α} {xs : List α} [h : FindN L A c α R xs] : FindN (p :: L) A c α R xs := ⟨h.k.tail⟩
instance findN_sl {L : List HP} {A : Option Addr} {c : Nat} {α : Type} {R : Rep α} {xs : List α} : FindN (sl R A c xs :: L) A c α R xs := ⟨SlK.n (Knows.head' fun _ _ h => h)⟩
instance findN_osl {L : List HP} {A : Option Addr} {c : Nat} {α : Type} {R : Rep α} {t : TypeId} {xs : List α} : FindN (osl R t A c xs :: L) A c α R xs := ⟨osl_n⟩
theorem sln {L : List HP} {A : Option Addr} {c : Nat} {α : Type} {R : Rep α} {xs : List α} [h : FindN L A c α R xs] : SlN L R A c xs := h.k
section
variable {r : Option Nat} {n : Nat} {P : Program} {ops : Array Oper} {rest : List Oper} {K : St → Prop} {Q : Exit → St → Prop} {D : List Deferred} {E : Env} {L L' : List HP} {d : Nat} {ty : TypeId} {pos : String} {af : Array Edge}
variable {α : Type} {R : Rep α} {A : Option Addr} {c : Nat} {xs ys : List α}
theorem SlN.lens {c' : Code} (hk : SlN L R A c xs) (h : xs.length ≤ c ∧ xs.length ≤ maxEl → T r n P c' ⟨D, E, L⟩ Q) : T r n P c' ⟨D, E, L⟩ Q := fun W a w hh => h (hk.len hh.2) W a w hh
theorem SlN.lensL (hk : SlN L R A c xs) (h : xs.length ≤ c ∧ xs.length ≤ maxEl → TL r n P ops rest ⟨D, E, L⟩ K) : TL r n P ops rest ⟨D, E, L⟩ K := fun W a w hh => h (hk.len hh.2) W a w hh
theorem SlN.none_nil {c' : Code} (hk : SlN L R none c xs) (h : xs = [] → T r n P c' ⟨D, E, L⟩ Q) : T r n P c' ⟨D, E, L⟩ Q := fun W a w hh => by
  obtain ⟨M, k, hd, hM, hk', hsep⟩ := hh.2.ex
  rcases (hk M k (heapOf w) hd hsep hM hk').2.2 with e | ⟨b, o, e, _⟩
  · exact h e W a w hh
  · cases e
theorem cells_of_slice2 {M N : Mem} {w : World} (hN : N.le (heapOf w)) (h : sliceAt2 M N R A c xs) : ∃ cs, CellsOf M R xs cs ∧ (xs.length = 0 ∨ ∃ a, A = some a ∧ ∀ j v, cs[j]? = some v → w.cell? (a.add j) = some v) := by
  rcases h.2.2 with rfl | ⟨b, o, rfl, cur, t, fr, hb, hall⟩
  · exact ⟨[], rfl, .inl rfl⟩
  · obtain ⟨cs, h1, h2⟩ := cells_of_array (R := R) (M := M) (cur := cur) (o := o) (xs := xs) (k := 0) (fun i x hi => by
      obtain ⟨l, a, b⟩ := hall i x hi
      exact ⟨l, a, fun j v hj => by rw [Nat.zero_add]; exact b j v hj⟩)
    refine ⟨cs, h1, .inr ⟨_, rfl, fun j v hj => ?_⟩⟩
    rw [Addr.add_plain, cell_of (hN _ _ hb)]
    simpa using h2 j v hj
/-- append to a slice that is ours of one that is read. -/
theorem TL_append_n {x y : Operand} {t u e : TypeId} {z : Value} {bytes c2 : Nat} {A2 : Option Addr} {L0 : List HP} [ht : TyDesc P t (.slice e)] [hu : TyDesc P u (.slice e)] (hd : Nat.blt d n = true) (hx : ev E x = some (.slice A xs.length c)) (hy : ev E y = some (.slice A2 ys.length c2)) [hf : FindO L A c α R e xs L0]
    [he : TyElem P e z R.sz bytes] (hz : z.cells.size = R.sz) (hb : Nat.blt 0 bytes = true) (hsrc : SlN L0 R A2 c2 ys) (hfit : (xs.length + ys.length) * bytes ≤ 140737488355328)
    (h : ∀ A' c', TL r n P ops rest ⟨D, (d, .slice A' (xs ++ ys).length c') :: E, osl R e A' c' (xs ++ ys) :: L0⟩ K) :
    TL r n P ops (⟨some d, .call { callee := .builtin .append, args := #[x, y], argTypes := #[t, u] }, ty, pos, af, none⟩ :: rest) ⟨D, E, L⟩ K :=
  TL_val rfl hd rfl (fun _ e => by cases e) fun W a w hh => by
    have hs := hh.2.gives hf.g
    obtain ⟨M', k', hd1', hM', hk', g1, g2, gd, m1, m2, hp, hsep'⟩ := hs.ex
    obtain ⟨cs, h1, h2⟩ := cells_of_slice2 (Mem.le_refl _) (hsrc M' g2 (heapOf w) (Mem.disj_le hd1' (Mem.le_refl _) m2) hsep' hM' (Mem.le_trans m2 hk'))
    have hsl : Src P u R.sz (.slice A2 ys.length c2) ys.length cs w := src_slice (u := u) (e := e) h2 h1.length h1.one
    have hsat : Sat W w (osl R e A c xs :: pers (fun M => CellsOf M R ys cs) (fun hM h => cellsOf_mono hM h) :: L0) :=
      ⟨⟨M', k', hd1', hM', hk', g1, g2, gd, m1, m2, hp, Mem.emp, g2, Mem.emp_disj _, Mem.emp_le _, Mem.le_refl _, h1, hsep'⟩, hs.os, hs.tape, hs.output, hs.size⟩
    obtain ⟨A', c', w', hr, hs'⟩ := append_own (P := P) (t := t) (u := u) (by simpa using hb) hz hsat hsl (fun N m hm _ => by obtain ⟨_, _, _, _, _, hp, _⟩ := hm; exact hp) hfit ty
    refine ⟨_, w', _, ?_, hs'.gives (Gives.cons _ (Gives.drop _ _)), h A' c'⟩
    simp [execOp, resolve, invoke, builtin, hh.1.ev hx, hh.1.ev hy, hr]
/-! ### Elements, wherever they lie -/
theorem TL_index_n {x i : Operand} {t e : TypeId} {ik : IntKind} {j k : Nat} {u : α} [ht : TyDesc P t (.slice e)] [hz : TySize P e R.sz] (hd : Nat.blt d n = true) (hx : ev E x = some (.slice A k c)) (hi : ev E i = some (.int ik (j : Int))) (hkl : k = xs.length) (hk : SlN L R A c xs) (hu : xs[j]? = some u)
    (h : ∀ b o, A = some ⟨b, o, none⟩ → SlN L R (some ⟨b, o, none⟩) c xs → TL r n P ops rest ⟨D, (d, .pointer (some ⟨b, o + j * R.sz + 0, none⟩)) :: E, L⟩ K) : TL r n P ops (⟨some d, .indexAddr t x i, ty, pos, af, none⟩ :: rest) ⟨D, E, L⟩ K := fun W a w hh => by
  subst hkl
  obtain ⟨M, q, hd', hM, hq, hsep⟩ := hh.2.ex
  rcases (hk M q (heapOf w) hd' hsep hM hq).2.2 with e | ⟨b, o, e, _⟩
  · rw [e] at hu; simp at hu
  · subst e
    have hlt : j < xs.length := (List.getElem?_eq_some_iff.1 hu).1
    exact TL_y hd rfl (Y_index_at hx hi hlt (b := b) (o := o + j * R.sz) ⟨o, rfl, rfl⟩) (h b o rfl hk) W a w hh
theorem Y_index_n {x i : Operand} {t e : TypeId} {ik : IntKind} {j k b o : Nat} {u : α} [ht : TyDesc P t (.slice e)] [hz : TySize P e R.sz] (hx : ev E x = some (.slice (some ⟨b, o, none⟩) k c)) (hi : ev E i = some (.int ik (j : Int))) (hkl : k = xs.length) (hu : xs[j]? = some u) :
    Yl P E L (.indexAddr t x i) ty (.pointer (some ⟨b, o + j * R.sz + 0, none⟩)) := by
  subst hkl
  have hlt : j < xs.length := (List.getElem?_eq_some_iff.1 hu).1
  exact Y_index_at hx hi hlt (b := b) (o := o + j * R.sz) ⟨o, rfl, rfl⟩
/-- Where a slice lies that is not empty. -/
theorem T_addr_n {c' : Code} {j : Nat} {u : α} (hk : SlN L R A c xs) (hu : xs[j]? = some u) (h : ∀ b o, A = some ⟨b, o, none⟩ → T r n P c' ⟨D, E, L⟩ Q) : T r n P c' ⟨D, E, L⟩ Q := fun W a w hh => by
  obtain ⟨M, q, hd', hM, hq, hsep⟩ := hh.2.ex
  rcases (hk M q (heapOf w) hd' hsep hM hq).2.2 with e | ⟨b, o, e, _⟩
  · rw [e] at hu; simp at hu
  · exact h b o e W a w hh
theorem elem_n {b o j : Nat} {u : α} (hk : SlN L R (some ⟨b, o, none⟩) c xs) (hu : xs[j]? = some u) {W w : World} (hs : Sat W w L) : ∃ l, l.length = R.sz ∧ Sat W w (is R u l :: L) ∧ ∀ q v, l[q]? = some v → w.cell? ⟨b, o + j * R.sz + q, none⟩ = some v := by
  obtain ⟨M, k, hd', hM, hq, hsep⟩ := hs.ex
  rcases (hk M k (heapOf w) hd' hsep hM hq).2.2 with e | ⟨b', o', e, cs, t, fr, hb, hall⟩
  · rw [e] at hu; simp at hu
  · cases e
    obtain ⟨l, hl, hc⟩ := hall j u hu
    refine ⟨l, R.len hl, ⟨⟨M, k, hd', hM, hq, Mem.emp, k, Mem.emp_disj _, Mem.emp_le _, Mem.le_refl _, hl, hsep⟩, hs.os, hs.tape, hs.output, hs.size⟩, fun q v hv => ?_⟩
    rw [cell_of hb]
    exact hc q v hv
theorem run_load_at {t : TypeId} {b o q m : Nat} {l vs : List Value} {w : World} [ht : TyAgg P t true] [hz : TySize P t m] (hc : ∀ q v, l[q]? = some v → w.cell? ⟨b, o + q, none⟩ = some v) (hv : cutN q m l = some vs) : (loadVar t ⟨b, o + q, none⟩).run P w = .ok (.agg vs.toArray) w := by
  obtain ⟨e, hl⟩ := cutN_eq hv
  refine run_loadVar_agg (hk := by rw [e]; simp; omega) (fun i v hi => ?_)
  rw [e, List.getElem?_take] at hi
  split at hi
  · rw [List.getElem?_drop] at hi
    have := hc _ _ hi
    rwa [Nat.add_assoc]
  · cases hi
section ex
variable {β : Type} {sz : Nat} {f : α → β → List Value} {g : α → β → List HP} {ok : α → Prop} {hlen : ∀ x p, (f x p).length = sz} {hone : ∀ x p, oneN (f x p) = true}
theorem sat_ex {u : α} {l : List Value} {W w : World} (h : Sat W w (is (exR sz f g ok hlen hone) u l :: L)) : ∃ p, l = f u p ∧ ok u ∧ Sat W w (g u p ++ L) := by
  obtain ⟨M, k, hd, hM, hk, h3, h4, hd2, l3, l4, ⟨p, e, hs, hok⟩, hL⟩ := h.ex
  exact ⟨p, e, hok, ⟨M, k, hd, hM, hk, sep_app hs (Sep.mono (Mem.le_refl _) l4 hL)⟩, h.os, h.tape, h.output, h.size⟩
/-- Of elements that hold slices: a part of several cells. -/
theorem TL_load_nx {x : Operand} {t : TypeId} {b o j q m : Nat} {u : α} {vs : β → List Value} [ht : TyAgg P t true] [hz : TySize P t m] (hd : Nat.blt d n = true) (hx : ev E x = some (.pointer (some ⟨b, o + j * sz + q, none⟩))) (hk : SlN L (exR sz f g ok hlen hone) (some ⟨b, o, none⟩) c xs) (hu : xs[j]? = some u) (hv : ∀ p, cutN q m (f u p) = some (vs p))
    (h : ∀ p, ok u → TL r n P ops rest ⟨D, (d, .agg (vs p).toArray) :: E, g u p ++ L⟩ K) : TL r n P ops (⟨some d, .load t x, ty, pos, af, none⟩ :: rest) ⟨D, E, L⟩ K :=
  TL_val rfl hd rfl (fun _ e => by cases e) fun W a w hh => by
    obtain ⟨l, hl, hs, hc⟩ := elem_n hk hu hh.2
    obtain ⟨p, rfl, hok, hs2⟩ := sat_ex hs
    have hc : ∀ (q : Nat) (v : Value), (f u p)[q]? = some v → w.cell? ⟨b, o + j * sz + q, none⟩ = some v := hc
    exact ⟨_, w, _, by simp only [execOp, hh.1.ev hx, Instr.loadAt, Instr.sureAddr, Sem.run_bind, Sem.run_pure, Result.andThen_ok, run_load_at hc (hv p)], hs2, h p hok⟩
/-- One cell that tells of no slice: it only reckons. -/
theorem Y_load_nx {x : Operand} {t : TypeId} {b o j q : Nat} {u : α} {v : Value} [ht : TyAgg P t false] (hx : ev E x = some (.pointer (some ⟨b, o + j * sz + q, none⟩))) (hk : SlN L (exR sz f g ok hlen hone) (some ⟨b, o, none⟩) c xs) (hu : xs[j]? = some u) (hv : ∀ p, cellN (f u p) q = some v) : Yl P E L (.load t x) ty v := fun n D W a w dst pos af gd ha hs => by
  obtain ⟨l, hl, hs1, hc⟩ := elem_n hk hu hs
  obtain ⟨p, rfl, hok, hs2⟩ := sat_ex hs1
  have hc : ∀ (q : Nat) (v : Value), (f u p)[q]? = some v → w.cell? ⟨b, o + j * sz + q, none⟩ = some v := hc
  simp only [execOp, ha.ev hx, Instr.loadAt, Instr.sureAddr, Sem.run_bind, Sem.run_pure, Result.andThen_ok, run_loadVar_one (hc q _ (cellN_eq (hv p)))]
end ex
/-- Of elements that their cells tell: one cell; several. -/
theorem Y_load_n {x : Operand} {t : TypeId} {b o j q : Nat} {u : α} {v : Value} {f : α → List Value} [hf : RepF R f] [ht : TyAgg P t false] (hx : ev E x = some (.pointer (some ⟨b, o + j * R.sz + q, none⟩))) (hk : SlN L R (some ⟨b, o, none⟩) c xs) (hu : xs[j]? = some u) (hv : cellN (f u) q = some v) : Yl P E L (.load t x) ty v := fun n D W a w dst pos af gd ha hs => by
  obtain ⟨l, hl, hs1, hc⟩ := elem_n hk hu hs
  obtain ⟨M, k, _, _, _, h1, h2, _, _, _, hi, _⟩ := hs1.ex
  rw [hf.e _ _ _ hi] at hc
  simp only [execOp, ha.ev hx, Instr.loadAt, Instr.sureAddr, Sem.run_bind, Sem.run_pure, Result.andThen_ok, run_loadVar_one (hc q _ (cellN_eq hv))]
theorem Y_load_naf {x : Operand} {t : TypeId} {b o j q m : Nat} {u : α} {vs : List Value} {f : α → List Value} [hf : RepF R f] [ht : TyAgg P t true] [hz : TySize P t m] (hx : ev E x = some (.pointer (some ⟨b, o + j * R.sz + q, none⟩))) (hk : SlN L R (some ⟨b, o, none⟩) c xs) (hu : xs[j]? = some u) (hv : cutN q m (f u) = some vs) : Yl P E L (.load t x) ty (.agg vs.toArray) := fun n D W a w dst pos af gd ha hs => by
  obtain ⟨l, hl, hs1, hc⟩ := elem_n hk hu hs
  obtain ⟨M, k, _, _, _, h1, h2, _, _, _, hi, _⟩ := hs1.ex
  rw [hf.e _ _ _ hi] at hc
  simp only [execOp, ha.ev hx, Instr.loadAt, Instr.sureAddr, Sem.run_bind, Sem.run_pure, Result.andThen_ok, run_load_at hc hv]
/-- What an element's word says plainly. -/
theorem T_elem_fact {p : Prop} {c' : Code} {j : Nat} {u : α} (hk : SlN L R A c xs) (hu : xs[j]? = some u) (hp : ∀ M l, R.rep M u l → p) (h : p → T r n P c' ⟨D, E, L⟩ Q) : T r n P c' ⟨D, E, L⟩ Q := fun W a w hh => by
  obtain ⟨M, q, hd', hM, hq, hsep⟩ := hh.2.ex
  rcases (hk M q (heapOf w) hd' hsep hM hq).2.2 with e | ⟨b, o, e, cs, t, fr, hb, hall⟩
  · rw [e] at hu; simp at hu
  · obtain ⟨l, hl, _⟩ := hall j u hu
    exact h (hp M l hl) W a w hh
theorem SlN.take (h : SlN L R A c xs) (j : Nat) : SlN L R A c (xs.take j) := fun M k N hd hs hM hk => by
  obtain ⟨a, b, e⟩ := h M k N hd hs hM hk
  refine ⟨by rw [List.length_take]; omega, by rw [List.length_take]; omega, ?_⟩
  rcases e with e | ⟨b, o, e, cs, t, fr, hb, hall⟩
  · left; simp [e]
  · right
    refine ⟨b, o, e, cs, t, fr, hb, fun i x hi => hall i x ?_⟩
    rw [List.getElem?_take] at hi
    split at hi
    · exact hi
    · cases hi
theorem SlN.cut (h : SlN L R A c xs) (i j cap : Nat) (hij : i ≤ j) (hj : j ≤ xs.length) (hcap : j ≤ cap) : SlN L R (cutA A i cap R.sz) (cap - i) ((xs.take j).drop i) := fun M k N hd hs hM hk => by
  obtain ⟨a, b, e⟩ := h M k N hd hs hM hk
  have hlen : ((xs.take j).drop i).length = j - i := by simp; omega
  refine ⟨by rw [hlen]; omega, by rw [hlen]; omega, ?_⟩
  by_cases hij' : i = j
  · left; apply List.eq_nil_of_length_eq_zero; omega
  · rcases e with e | ⟨b, o, rfl, cs, t, fr, hb, hall⟩
    · subst e; left; simp
    · right
      refine ⟨b, o + i * R.sz, ?_, cs, t, fr, hb, fun k x hk => ?_⟩
      · unfold cutA; rw [if_neg (by omega)]; simp [Addr.add_plain]
      · rw [List.getElem?_drop, List.getElem?_take] at hk
        split at hk
        · obtain ⟨l, hl, hc⟩ := hall _ _ hk
          refine ⟨l, hl, fun q v hq => ?_⟩
          have := hc q v hq
          rwa [Nat.add_mul, ← Nat.add_assoc] at this
        · cases hk
theorem SlN.drop (h : SlN L R A c xs) {i : Nat} (hi : i ≤ xs.length) {W w : World} (hs : Sat W w L) : SlN L R (cutA A i c R.sz) (c - i) (xs.drop i) := by
  have h1 := h.len hs
  have := h.cut i xs.length c hi (Nat.le_refl _) h1.1
  rwa [List.take_length] at this
end
end Go.SL
set_option linter.unusedVariables false
set_option linter.unusedSectionVars false
namespace Go.SL
open Go
section
variable {P : Program} {f : FuncId} {args : Array Value} {L : List HP}
theorem SlN.dropc {α : Type} {R : Rep α} {A : Option Addr} {c : Nat} {xs : List α} {L : List HP} (h : SlN L R A c xs) {i : Nat} (hi : i ≤ xs.length) (hc : xs.length ≤ c) : SlN L R (cutA A i c R.sz) (c - i) (xs.drop i) := by
  have := h.cut i xs.length c hi (Nat.le_refl _) hc
  rwa [List.take_length] at this
theorem cells_one' {α : Type} {R : Rep α} {x : α} {l : List Value} {L : List HP} (h : Knows L (fun M => R.rep M x l)) : Knows L (fun M => CellsOf M R [x] l) := h.mono fun M h => ⟨l, [], h, rfl, by simp⟩
end
/-- Data whose cells tell where the rest lies: under its own name. -/
class IsEx {α : Type} (R : Rep α) (β : outParam Type) (sz : outParam Nat) (f : outParam (α → β → List Value)) (g : outParam (α → β → List HP)) (ok : outParam (α → Prop)) : Prop where
  e : ∃ hlen hone, R = exR sz f g ok hlen hone
section
variable {r : Option Nat} {n : Nat} {P : Program} {ops : Array Oper} {rest : List Oper} {KK : St → Prop} {Q : Exit → St → Prop} {D : List Deferred} {E : Env} {L L0 : List HP} {d : Nat} {ty : TypeId} {pos : String} {af : Array Edge}
variable {α β κ : Type} [DecidableEq κ] {sz : Nat} {f : α → β → List Value} {g : α → β → List HP} {ok : α → Prop} {hlen : ∀ x p, (f x p).length = sz} {hone : ∀ x p, oneN (f x p) = true} {K : KeyT κ} {b : Nat} {m : List (κ × α)}
theorem Y_max {x y : Operand} {t t' : TypeId} {k : IntKind} {a b : Int} (hx : ev E x = some (.int k a)) (hy : ev E y = some (.int k b)) : Yl P E L (.call { callee := .builtin .max, args := #[x, y], argTypes := #[t, t'] }) ty (.int k (max a b)) := fun n D W ac w dst pos af g ha hs => by
  have e : (if a < b then b else a) = max a b := by omega
  simp [execOp, resolve, invoke, builtin, ha.ev hx, ha.ev hy, Builtin.max_, Builtin.max2, e]
/-- An element's address where the slice lies at its block's front. -/
theorem Y_index_x {R : Rep α} {x i : Operand} {t e : TypeId} {ik : IntKind} {j k g c : Nat} {xs : List α} {u : α} [ht : TyDesc P t (.slice e)] [hz : TySize P e R.sz] (hx : ev E x = some (.slice (some ⟨g, 0, none⟩) k c)) (hi : ev E i = some (.int ik (j : Int))) (hkl : k = xs.length) (hu : xs[j]? = some u) :
    Yl P E L (.indexAddr t x i) ty (.pointer (some ⟨g, j * R.sz + 0, none⟩)) := (Y_index_n (R := R) (xs := xs) hx hi hkl hu).val (by rw [Nat.zero_add])
end
end Go.SL
set_option linter.unusedVariables false
namespace Go.SL
open Go
def hole : HP := pure True
def allH (ps : List HP) : HP := unS ps
/-- A map, or none. -/
def mapOR : Rep (Option Nat) := ⟨1, fun _ b cs => cs = [.map b], fun _ h => h, fun h => by simp [h], fun h v hv => by rw [h] at hv; simp at hv; subst hv; rfl⟩
instance : RepF mapOR (fun b => [.map b]) := ⟨fun _ _ _ h => h⟩
/-! ### Iterators that share a resource with their consumer -/
def shr (Lsh : List HP) (p : HP) : HP := unS (p :: Lsh)
def IterS (P : Program) (c : Value) {α : Type} (val : α → List Value) (ok : α → List HP → Prop) (N : Nat) (Lsh Lf : List HP) (seqs : Bool → List α → Prop) : Prop :=
  ∃ f fs cs, c = .func (.func f) fs.toArray cs.toArray ∧ IsCall P f ∧ ∀ (τ : Type) (l : Nat) (C : τ → HP) (step : τ → α → τ → Prop) (stop : τ → Bool) (cnt : τ → Nat) (s0 : τ) (Lx : List HP), stop s0 = false → cnt s0 = 0 → (∀ s x s', step s x s' → cnt s' = cnt s + 1) → YieldsL P l (fun s => shr Lsh (C s)) val ok step stop cnt N →
    Fn P f (fs ++ [Value.func (.yield l) #[] #[]] ++ cs).toArray (con l (shr Lsh (C s0)) :: (Lf ++ Lx)) (fun v L' => ∃ xs s', seqs (stop s') xs ∧ Runs step stop s0 xs s' ∧ L' = con l (shr Lsh (C s')) :: (Lf ++ Lx))
section
variable {n : Nat} {P : Program} {Q : Exit → St → Prop} {D : List Deferred} {E : Env} {L : List HP}
end
section
variable {r : Option Nat} {n : Nat} {P : Program} {ops : Array Oper} {rest : List Oper} {K : St → Prop} {Q : Exit → St → Prop} {D : List Deferred} {E : Env} {L L1 L2 : List HP} {p q : HP} {l : Nat}
end
theorem SlN.cap {α : Type} {R : Rep α} {A : Option Addr} {c : Nat} {xs : List α} {L : List HP} (h : SlN L R A c xs) : SlN L R A xs.length xs := fun M k N hd hs hM hk => let ⟨_, b, e⟩ := h M k N hd hs hM hk; ⟨Nat.le_refl _, b, e⟩
end Go.SL
set_option linter.unusedVariables false
namespace Go.SL
open Go
variable {r : Option Nat} {n : Nat} {P : Program} {s : St} {Q : Exit → St → Prop}
theorem vs_adds {ops : Array Oper} {X : List (Nat × Nat)} : ∀ {l : List Nat} {p : Nat → Prop}, (∀ e ∈ X, ∀ s1 s2, l = s1 ++ e.2 :: s2 → e.1 ∈ s1 ∨ p e.1) → VS [] ops p l → VS X ops p l
  | [], _, _, _ => trivial
  | k :: r, p, h, ⟨h1, h2⟩ => by
    refine ⟨fun o ho e he => ?_, vs_adds (fun x hx s1 s2 e => ?_) h2⟩
    · rcases List.mem_append.1 he with he | he
      · exact h1 o ho e (by rw [depsX_nil]; exact he)
      · obtain ⟨x, hx, rfl⟩ := List.mem_map.1 he
        have hx := List.mem_filter.1 hx
        have hk : x.2 = k := Nat.eq_of_beq_eq_true hx.2
        rcases h x hx.1 [] r (by rw [hk]; rfl) with h | h
        · cases h
        · exact h
    · rcases h x hx (k :: s1) s2 (by rw [e]; rfl) with h | h
      · rcases List.mem_cons.1 h with h | h
        · exact .inr (.inl h)
        · exact .inl h
      · exact .inr (.inr h)
/-- The region, in whatever order that keeps the pairs of X. -/
def RD (r : Option Nat) (n : Nat) (P : Program) (l : List Oper) (X : List (Nat × Nat)) (s : St) (Q : Exit → St → Prop) : Prop :=
  ∀ W a w, Holds n W s a w → ∀ sched : List Nat, VS [] l.toArray (fun i => (Array.replicate l.length false).getD i false = true) sched → (∀ e ∈ X, ∀ s1 s2, sched = s1 ++ e.2 :: s2 → e.1 ∈ s1) → (∀ i, i < l.length → i ∈ sched) → sched.Nodup → (∀ i ∈ sched, i < l.length) → sched.length = l.length →
    wpOpsIn (Fw r) 0 P l.toArray (fun e a w => ∃ s', Q e s' ∧ Holds n W s' a w) sched a w
theorem RD_leaf {l : List Oper} {X : List (Nat × Nat)} (Fl : List HP) (B tl : List Nat) (π : List (Nat × Bool)) (hok : regionOk X l B tl π = true) (hFl : Gives s.L Fl) (h : TF r n P l.toArray tl Fl π s (fun s' => Q .normal s')) : RD r n P l X s Q := fun W a w hh sched k1 hX k2 k3 k4 k5 =>
  wpF_ops (fun a' w' s' hk hh' => ⟨s', hk, hh'⟩) _ _ _ (region_run Fl B tl π hok hFl h hh (vs_adds (fun e he s1 s2 h => .inl (hX e he s1 s2 h)) k1) k2 k3 k4 k5)
theorem RD_pair {l : List Oper} {X : List (Nat × Nat)} (i j : Nat) (hij : i ≠ j) (h1 : RD r n P l ((i, j) :: X) s Q) (h2 : RD r n P l ((j, i) :: X) s Q) : RD r n P l X s Q := fun W a w hh sched k1 hX k2 k3 k4 k5 => by
  rcases order_or hij sched with ho | ho
  · exact h1 W a w hh sched k1 (fun e he => by rcases List.mem_cons.1 he with rfl | he; exact ho; exact hX e he) k2 k3 k4 k5
  · exact h2 W a w hh sched k1 (fun e he => by rcases List.mem_cons.1 he with rfl | he; exact ho; exact hX e he) k2 k3 k4 k5
theorem T_rd_last {id : Nat} {l : List Oper} (B : List Nat) (hmix : P.follows .mixedOrders = true) (hm : masksOk [] B l 0 = true) (h : RD r n P l [] s Q) : T r n P (.region id l.toArray true) s Q := fun W a w hh => by
  refine wpIn_region_draw fun t => ?_
  simp only [Region.schedule, hmix, Bool.true_or, if_true]
  obtain ⟨k1, k2, k3, k4, k5⟩ := sched_ok hm l.length t (Array.replicate l.length false) (by simp) (unl_all l)
  have hlin : Region.linearise .any l.toArray t = Region.linearise.go .any l.toArray l.length t (Array.replicate l.length false) [] := by
    simp [Region.linearise]
  rw [hlin]
  exact h W a _ ⟨hh.1, hh.2.drew⟩ _ k1 (fun e he => by cases he) (fun i hi => k2 i hi (by simp [Array.getD_eq_getD_getElem?, hi])) k3 (fun i hi => (k4 i hi).1) k5
end Go.SL
set_option linter.unusedVariables false
set_option linter.unusedSimpArgs false
namespace Go.SL
open Go Go.Proofs
def fpR : Rep Nat := ⟨1, fun _ b cs => cs = [.pointer (some ⟨b, 0, none⟩)], fun _ h => h, fun h => by simp [h], fun h v hv => by rw [h] at hv; simp at hv; subst hv; rfl⟩
instance : RepF fpR (fun b => [.pointer (some ⟨b, 0, none⟩)]) := ⟨fun _ _ _ h => h⟩
instance : RepV fpR (fun b => .pointer (some ⟨b, 0, none⟩)) := ⟨fun M x cs h => by rw [h]; rfl⟩
theorem ptr_rep (b : Nat) : ∀ M, fpR.rep M b [.pointer (some ⟨b, 0, none⟩)] := fun _ => rfl
abbrev fmap (l : List FileE) : List (ByteArray × Nat) := l.map fun e => (e.name, e.blk)
def fcells (e : FileE) (A : Option Addr) (c : Nat) : List HP := [cells e.blk [.slice A e.bytes.length c, .int .i64 e.synced] 67, osl (intR .u8) 5 A c e.bytes]
def fH (e : FileE) : HP := exH fun p : Option Addr × Nat => fcells e p.1 p.2
theorem allH_perm {ps qs : List HP} {L : List HP} (h : ps.Perm qs) : Gives (allH ps :: L) (allH qs :: L) := (unS_open.trans (Gives.perm (h.append_right L))).trans unS_close
theorem allH_uncons {a : HP} {r L : List HP} : Gives (allH (a :: r) :: L) (a :: allH r :: L) := (unS_open (L := a :: r) (L' := L)).trans (Gives.cons a unS_close)
theorem allH_cons {a : HP} {r L : List HP} : Gives (a :: allH r :: L) (allH (a :: r) :: L) := (Gives.cons a (unS_open (L := r) (L' := L))).trans (unS_close (L := a :: r) (L' := L))
abbrev dkF (b bt : Nat) (s : DkS) : List HP := [cells b [.map (some bt), .int .i64 (leftK s), .int .i64 s.calls] 51, omap strK fpR false bt (fmap s.l), allH (s.l.map fH), pure (KI s)]
def dk (b bt : Nat) (s : DkS) : HP := unS (dkF b bt s)
instance findK_dk {L : List HP} {b bt : Nat} {s : DkS} : FindK (dk b bt s :: L) b (dk b bt s) L := ⟨Gives.refl _⟩
section
variable {r : Option Nat} {n : Nat} {P : Program} {ops : Array Oper} {rest : List Oper} {K : St → Prop} {Q : Exit → St → Prop} {D : List Deferred} {E : Env} {L L' : List HP} {b bt : Nat} {s : DkS}
theorem dk_open {W w : World} (h : Sat W w (dk b bt s :: L)) : KI s ∧ Sat W w (cells b [.map (some bt), .int .i64 (leftK s), .int .i64 s.calls] 51 :: omap strK fpR false bt (fmap s.l) :: allH (s.l.map fH) :: L) := by
  have hp := h.gives (unS_open (L := dkF b bt s) (L' := L))
  obtain ⟨M, k, hd, hM, hk, h1, h2, hd', l1, l2, hq, hs⟩ := (hp.gives (Gives.pull 3 (dkF b bt s ++ L))).ex
  exact ⟨hq, (hp.gives (Gives.pull 3 (dkF b bt s ++ L))).gives (Gives.drop _ _)⟩
theorem T_dk {c : Code} (h : KI s → T r n P c ⟨D, E, cells b [.map (some bt), .int .i64 (leftK s), .int .i64 s.calls] 51 :: omap strK fpR false bt (fmap s.l) :: allH (s.l.map fH) :: L⟩ Q) : T r n P c ⟨D, E, dk b bt s :: L⟩ Q := fun W a w hh => by
  obtain ⟨h1, hs⟩ := dk_open hh.2
  exact h h1 W a w ⟨hh.1, hs⟩
theorem TL_dk (h : KI s → TL r n P ops rest ⟨D, E, cells b [.map (some bt), .int .i64 (leftK s), .int .i64 s.calls] 51 :: omap strK fpR false bt (fmap s.l) :: allH (s.l.map fH) :: L⟩ K) : TL r n P ops rest ⟨D, E, dk b bt s :: L⟩ K := fun W a w hh => by
  obtain ⟨h1, hs⟩ := dk_open hh.2
  exact h h1 W a w ⟨hh.1, hs⟩
theorem dk_close {L1 L2 L3 : List HP} (b bt : Nat) (s : DkS) [h1 : FindC L b [.map (some bt), .int .i64 (leftK s), .int .i64 s.calls] 51 L1] [h2 : FindM L1 bt ByteArray Nat strK fpR false (fmap s.l) L2] [h3 : FindHP L2 (allH (s.l.map fH)) L3] (hi : KI s) : Gives L (dk b bt s :: L3) := by
  refine Gives.trans (h1.g.trans (Gives.cons _ (h2.g.trans (Gives.cons _ h3.g)))) ?_
  refine Gives.trans ?_ (unS_close (L := dkF b bt s) (L' := L3))
  exact Gives.cons _ (Gives.cons _ (Gives.cons _ (Gives.pure_intro hi)))
/-- One file taken out, and put back. -/
theorem T_fout {c : Code} {l : List FileE} {e : FileE} {L0 : List HP} [hf : FindHP L (allH (l.map fH)) L0] (hi : IncF l) (he : e ∈ l) (h : ∀ A c', T r n P c ⟨D, E, cells e.blk [.slice A e.bytes.length c', .int .i64 e.synced] 67 :: osl (intR .u8) 5 A c' e.bytes :: allH ((delF l e.name).map fH) :: L0⟩ Q) : T r n P c ⟨D, E, L⟩ Q :=
  T_gives (hf.g.trans ((allH_perm ((delF_perm hi he).symm.map fH)).trans allH_uncons)) (T_exH (f := fun p : Option Addr × Nat => fcells e p.1 p.2) fun p => h p.1 p.2)
theorem f_in {l : List FileE} {A : Option Addr} {c : Nat} {L1 L2 L3 : List HP} (e : FileE) [h1 : FindC L e.blk [.slice A e.bytes.length c, .int .i64 e.synced] 67 L1] [h2 : FindO L1 A c Int (intR .u8) 5 e.bytes L2] [h3 : FindHP L2 (allH ((delF l e.name).map fH)) L3] : Gives L (allH ((putF l e).map fH) :: L3) := by
  refine Gives.trans (h1.g.trans (Gives.cons _ (h2.g.trans (Gives.cons _ h3.g)))) ?_
  refine Gives.trans (exH_close (f := fun p : Option Addr × Nat => fcells e p.1 p.2) (L := allH ((delF l e.name).map fH) :: L3) (A, c)) ?_
  exact allH_cons.trans (allH_perm ((putF_perm e).symm.map fH))
theorem f_back {l : List FileE} {A : Option Addr} {c : Nat} {L1 L2 L3 : List HP} {e : FileE} [h1 : FindC L e.blk [.slice A e.bytes.length c, .int .i64 e.synced] 67 L1] [h2 : FindO L1 A c Int (intR .u8) 5 e.bytes L2] [h3 : FindHP L2 (allH ((delF l e.name).map fH)) L3] (hi : IncF l) (he : e ∈ l) : Gives L (allH (l.map fH) :: L3) := by
  refine Gives.trans (h1.g.trans (Gives.cons _ (h2.g.trans (Gives.cons _ h3.g)))) ?_
  refine Gives.trans (exH_close (f := fun p : Option Addr × Nat => fcells e p.1 p.2) (L := allH ((delF l e.name).map fH) :: L3) (A, c)) ?_
  exact allH_cons.trans (allH_perm ((delF_perm hi he).map fH))
end
theorem getM_fmap (l : List FileE) (k : ByteArray) : getM (fmap l) k = (findF l k).map (·.blk) := by
  unfold getM fmap findF
  rw [List.find?_map]
  show Option.map (·.2) (Option.map (fun e : FileE => (e.name, e.blk)) (l.find? fun e => decide (e.name = k))) = _
  cases l.find? fun e => decide (e.name = k) <;> rfl
theorem delM_fmap (l : List FileE) (k : ByteArray) : delM (fmap l) k = fmap (delF l k) := by
  unfold delM fmap delF; rw [List.filter_map]; rfl
theorem put_fmap (l : List FileE) (e : FileE) : ((e.name, e.blk) :: delM (fmap l) e.name).Perm (fmap (putF l e)) := by
  rw [delM_fmap]; exact ((putF_perm e).map fun e : FileE => (e.name, e.blk)).symm
def dkNew (size : Int) : DkS := ⟨size, -1, []⟩
theorem dkNew_I {n : Int} (h : 0 ≤ n ∧ n ≤ 268435456) : KI (dkNew n) := ⟨h, ⟨Int.le_refl _, show intIn .i64 (-1) from i64In_mk (by decide)⟩, List.Pairwise.nil, Nat.zero_le _, by show ((0 : Nat) : Int) ≤ n; omega, by simp [dkNew]⟩
theorem dk_new {n : Int} (h : 0 ≤ n ∧ n ≤ 268435456) {b bt : Nat} {L : List HP} : Gives (cells b [.map (some bt), .int .i64 n, .int .i64 (-1)] 51 :: omap strK fpR false bt ([] : List (ByteArray × Nat)) :: L) (dk b bt (dkNew n) :: L) := by
  have hl : leftK (dkNew n) = n := by unfold leftK dkNew totF; simp
  refine Gives.trans (B := cells b [.map (some bt), .int .i64 (leftK (dkNew n)), .int .i64 (dkNew n).calls] 51 :: omap strK fpR false bt (fmap (dkNew n).l) :: allH ((dkNew n).l.map fH) :: L) ?_ (dk_close b bt (dkNew n) (dkNew_I h))
  rw [hl]
  exact Gives.cons _ (Gives.cons _ (unS_close (L := [])))
theorem diskNew_ok (n : Int) (h : 0 ≤ n ∧ n ≤ 268435456) (L : List HP) : Fn Try.prog 5 #[.int .i64 n] L (fun v L' => ∃ b bt, v = .tuple #[.pointer (some ⟨b, 0, none⟩), .int .i64 0] ∧ L' = dk b bt (dkNew n) :: L) := by
  refine Fn_enter Try.func5 rfl rfl rfl rfl ?_
  refine T_region ?_
  refine TL_y rfl rfl (Y_assign rfl) ?_
  refine TL_y rfl rfl (Y_assign rfl) ?_
  refine TL_nil ?_
  refine T_seq ?_
  refine T_region ?_
  refine TL_y rfl rfl (Y_move rfl) ?_
  refine TL_y rfl rfl (Y_lt rfl rfl) ?_
  refine TL_y rfl rfl (Y_move rfl) ?_
  refine TL_name 6 (v' := .bool false) rfl (congrArg Value.bool (decide_eq_false (by omega))) ?_
  refine TL_grun rfl rfl ?_
  refine TL_y rfl rfl (Y_move rfl) ?_
  refine TL_grun rfl rfl ?_
  refine TL_y rfl rfl (Y_gt rfl rfl) ?_
  refine TL_name 8 (v' := .bool false) rfl (congrArg Value.bool (decide_eq_false (by omega))) ?_
  refine TL_y rfl rfl (Y_pick_f rfl rfl) ?_
  refine TL_nil ?_
  refine T_cond_false rfl ?_
  refine T_skip ?_
  refine thenS_normal ?_
  refine T_region ?_
  refine TL_makeMap strK fpR false rfl ?_
  intro bt
  refine TL_y rfl rfl (Y_move rfl) ?_
  refine TL_y rfl rfl (Y_build rfl rfl) ?_
  refine TL_box rfl rfl rfl ?_
  intro b13
  refine TL_y rfl rfl (Y_assign rfl) ?_
  refine TL_y rfl rfl (Y_assign rfl) ?_
  refine TL_nil ?_
  refine T_ret ?_
  refine RetQ.gives (show Gives _ (cells b13 [.map (some bt), .int .i64 n, .int .i64 (-1)] 51 :: omap strK fpR false bt ([] : List (ByteArray × Nat)) :: L) from GivesTo.g) ?_
  refine RetQ.gives (dk_new h) ?_
  exact RetG_2 (.inl rfl) rfl (ResV.tmp rfl) (ResV.tmp rfl) GivesTo.g (⟨b13, bt, rfl, rfl⟩)
theorem diskNew_bad (n : Int) (h : ¬ (0 ≤ n ∧ n ≤ 268435456)) (L : List HP) : Fn Try.prog 5 #[.int .i64 n] L (fun v L' => v = .tuple #[.pointer none, .int .i64 1] ∧ L' = L) := by
  refine Fn_enter Try.func5 rfl rfl rfl rfl ?_
  refine T_region ?_
  refine TL_y rfl rfl (Y_assign rfl) ?_
  refine TL_y rfl rfl (Y_assign rfl) ?_
  refine TL_nil ?_
  refine T_seq ?_
  refine T_region ?_
  refine TL_y rfl rfl (Y_move rfl) ?_
  refine TL_y rfl rfl (Y_lt rfl rfl) ?_
  refine TL_y rfl rfl (Y_move rfl) ?_
  refine TL_splitd 6 rfl (fun h6 => ?_) (fun h6 => ?_)
  · refine TL_gskip rfl rfl rfl rfl ?_
    refine TL_gskip rfl rfl rfl rfl ?_
    refine TL_y rfl rfl (Y_pick_t rfl rfl) ?_
    refine TL_nil ?_
    refine T_cond_true rfl ?_
    refine T_region ?_
    refine TL_y rfl rfl (Y_assign rfl) ?_
    refine TL_y rfl rfl (Y_assign rfl) ?_
    refine TL_nil ?_
    refine T_ret ?_
    refine thenS_ret ?_
    exact RetG_2 (.inl rfl) rfl (ResV.tmp rfl) (ResV.tmp rfl) GivesTo.g (⟨rfl, rfl⟩)
  · refine TL_grun rfl rfl ?_
    refine TL_y rfl rfl (Y_move rfl) ?_
    refine TL_grun rfl rfl ?_
    refine TL_y rfl rfl (Y_gt rfl rfl) ?_
    refine TL_y rfl rfl (Y_pick_f rfl rfl) ?_
    refine TL_nil ?_
    refine T_if_pos rfl (by omega) ?_
    refine T_region ?_
    refine TL_y rfl rfl (Y_assign rfl) ?_
    refine TL_y rfl rfl (Y_assign rfl) ?_
    refine TL_nil ?_
    refine T_ret ?_
    refine thenS_ret ?_
    exact RetG_2 (.inl rfl) rfl (ResV.tmp rfl) (ResV.tmp rfl) GivesTo.g (⟨rfl, rfl⟩)
theorem diskMade_spec {L : List HP} {b bt : Nat} {s : DkS} : Fn Try.prog 29 #[.pointer (some ⟨b, 0, none⟩)] (dk b bt s :: L) (fun v L' => v = .bool true ∧ L' = dk b bt s :: L) := by
  refine Fn_enter Try.func29 rfl rfl rfl rfl ?_
  refine T_dk fun hi => ?_
  refine T_region ?_
  refine TL_y rfl rfl (Y_assign rfl) ?_
  refine TL_nil ?_
  refine T_region ?_
  refine TL_y rfl rfl (Y_move rfl) ?_
  refine TL_y rfl rfl (Y_unequal rfl rfl (EqIs.ptr_nil)) ?_
  refine TL_name 4 (v' := .bool true) rfl (by simp) ?_
  refine TL_y rfl rfl (Y_move rfl) ?_
  refine TL_grun rfl rfl ?_
  refine TL_y rfl rfl (Y_move rfl) ?_
  refine TL_grun rfl rfl ?_
  refine TL_y rfl rfl (Y_nil_check rfl) ?_
  refine TL_grun rfl rfl ?_
  refine TL_y rfl rfl (Y_field_addr rfl) ?_
  refine TL_grun rfl rfl ?_
  refine TL_y rfl rfl (Y_load rfl rfl) ?_
  refine TL_grun rfl rfl ?_
  refine TL_y rfl rfl (Y_unequal rfl rfl (EqIs.map_nil)) ?_
  refine TL_name 10 (v' := .bool true) rfl (by simp) ?_
  refine TL_y rfl rfl (Y_pick_t rfl rfl) ?_
  refine TL_y rfl rfl (Y_assign rfl) ?_
  refine TL_nil ?_
  refine T_ret ?_
  refine RetQ.gives (dk_close b bt s hi) ?_
  exact RetG_1 (.inl rfl) rfl (ResV.tmp rfl) GivesTo.g (⟨rfl, rfl⟩)
theorem diskOff_spec {L : List HP} {b bt : Nat} {s : DkS} : Fn Try.prog 35 #[.pointer (some ⟨b, 0, none⟩)] (dk b bt s :: L) (fun v L' => v = .bool (decide (offK s)) ∧ L' = dk b bt s :: L) := by
  refine Fn_enter Try.func35 rfl rfl rfl rfl ?_
  refine T_region ?_
  refine TL_y rfl rfl (Y_assign rfl) ?_
  refine TL_nil ?_
  refine T_region ?_
  refine TL_y rfl rfl (Y_move rfl) ?_
  refine TL_call rfl rfl (diskMade_spec) ?_
  rintro _ _ ⟨rfl, rfl⟩
  refine TL_name 4 (v' := .bool true) rfl (rfl) ?_
  refine TL_y rfl rfl (Y_move rfl) ?_
  refine TL_grun rfl rfl ?_
  refine TL_dk fun hi => ?_
  refine TL_y rfl rfl (Y_move rfl) ?_
  refine TL_grun rfl rfl ?_
  refine TL_y rfl rfl (Y_nil_check rfl) ?_
  refine TL_grun rfl rfl ?_
  refine TL_y rfl rfl (Y_field_addr rfl) ?_
  refine TL_grun rfl rfl ?_
  refine TL_y rfl rfl (Y_load rfl rfl) ?_
  refine TL_grun rfl rfl ?_
  refine TL_y rfl rfl (Y_eq rfl rfl) ?_
  refine TL_y rfl rfl (Y_pick_t rfl rfl) ?_
  refine TL_y rfl rfl (Y_assign rfl) ?_
  refine TL_nil ?_
  refine T_ret ?_
  refine RetQ.gives (dk_close b bt s hi) ?_
  exact RetG_1 (.inl rfl) rfl (ResV.tmp rfl) GivesTo.g (⟨rfl, rfl⟩)
theorem diskDone_spec {L : List HP} {b bt : Nat} {s : DkS} : Fn Try.prog 36 #[.pointer (some ⟨b, 0, none⟩)] (dk b bt s :: L) (fun v L' => v = .int .i64 0 ∧ L' = dk b bt (doneK s) :: L) := by
  refine Fn_enter Try.func36 rfl rfl rfl rfl ?_
  refine T_dk fun hi => ?_
  have hc := hi.calls.1
  have hc2 := i64In hi.calls.2
  refine T_region ?_
  refine TL_y rfl rfl (Y_assign rfl) ?_
  refine TL_nil ?_
  refine T_seq ?_
  refine T_region ?_
  refine TL_y rfl rfl (Y_move rfl) ?_
  refine TL_y rfl rfl (Y_nil_check rfl) ?_
  refine TL_y rfl rfl (Y_field_addr rfl) ?_
  refine TL_y rfl rfl (Y_load rfl rfl) ?_
  refine TL_y rfl rfl (Y_gt rfl rfl) ?_
  refine TL_nil ?_
  refine T_if rfl (fun h7 => ?_) (fun h7 => ?_)
  · refine T_region_last ?_
    refine TL_y rfl rfl (Y_move rfl) ?_
    refine TL_y rfl rfl (Y_nil_check rfl) ?_
    refine TL_y rfl rfl (Y_field_addr rfl) ?_
    refine TL_y rfl rfl (Y_load rfl rfl) ?_
    refine TL_y rfl rfl (Y_sub rfl rfl (by omega)) ?_
    refine TL_y rfl rfl (Y_nil_check rfl) ?_
    refine TL_y rfl rfl (Y_field_addr rfl) ?_
    refine TL_store rfl rfl rfl rfl rfl rfl ?_
    refine TL_nil ?_
    refine thenS_normal ?_
    refine T_region ?_
    refine TL_y rfl rfl (Y_assign rfl) ?_
    refine TL_nil ?_
    refine T_ret ?_
    have e : doneK s = ⟨s.size, s.calls - 1, s.l⟩ := by unfold doneK; rw [if_pos h7]
    refine RetQ.gives (dk_close b bt ⟨s.size, s.calls - 1, s.l⟩ (by have := hi.done; rwa [e] at this)) ?_
    exact RetG_1 (.inl rfl) rfl (ResV.tmp rfl) GivesTo.g (⟨rfl, by rw [e]⟩)
  · refine T_skip ?_
    refine thenS_normal ?_
    refine T_region ?_
    refine TL_y rfl rfl (Y_assign rfl) ?_
    refine TL_nil ?_
    refine T_ret ?_
    have e : doneK s = s := by unfold doneK; rw [if_neg h7]
    refine RetQ.gives (dk_close b bt s hi) ?_
    exact RetG_1 (.inl rfl) rfl (ResV.tmp rfl) GivesTo.g (⟨rfl, by rw [e]⟩)
/-- A file's pointer. -/
abbrev fptr (l : List FileE) (k : ByteArray) : Value := .pointer ((findF l k).map fun e => ⟨e.blk, 0, none⟩)
theorem look_ptr (l : List FileE) (k : ByteArray) : lookV (fun b => .pointer (some ⟨b, 0, none⟩)) (.pointer none) (getM (fmap l) k) = fptr l k := by
  rw [getM_fmap]; unfold fptr; cases findF l k <;> rfl
theorem diskFind_spec {L : List HP} {b bt : Nat} {s : DkS} (k : ByteArray) (hk : k.size ≤ maxEl) : Fn Try.prog 41 #[.pointer (some ⟨b, 0, none⟩), .string k] (dk b bt s :: L) (fun v L' => v = .tuple #[fptr s.l k, .int .i64 (if (findF s.l k).isSome then 0 else 4)] ∧ L' = dk b bt s :: L) := by
  refine Fn_enter Try.func41 rfl rfl rfl rfl ?_
  refine T_region ?_
  refine TL_y rfl rfl (Y_assign rfl) ?_
  refine TL_y rfl rfl (Y_assign rfl) ?_
  refine TL_nil ?_
  refine T_seq ?_
  refine T_region ?_
  refine TL_y rfl rfl (Y_move rfl) ?_
  refine TL_call rfl rfl (diskMade_spec) ?_
  rintro _ _ ⟨rfl, rfl⟩
  refine TL_name 8 (v' := .bool true) rfl (rfl) ?_
  refine TL_y rfl rfl (Y_not_t rfl) ?_
  refine TL_nil ?_
  refine T_cond_false rfl ?_
  refine T_skip ?_
  refine thenS_normal ?_
  refine T_dk fun hi => ?_
  refine T_region ?_
  refine TL_y rfl rfl (Y_move rfl) ?_
  refine TL_y rfl rfl (Y_nil_check rfl) ?_
  refine TL_y rfl rfl (Y_field_addr rfl) ?_
  refine TL_y rfl rfl (Y_load rfl rfl) ?_
  refine TL_y rfl rfl (Y_move rfl) ?_
  refine TL_y rfl rfl (Y_lookup (k := k) rfl rfl hk) ?_
  refine TL_name 15 (v' := fptr s.l k) rfl (look_ptr s.l k) ?_
  refine TL_y rfl rfl (Y_assign rfl) ?_
  refine TL_nil ?_
  refine T_seq ?_
  rcases hf : findF s.l k with _ | e
  · rw [show fptr s.l k = .pointer none by unfold fptr; rw [hf]; rfl]
    refine T_region ?_
    refine TL_y rfl rfl (Y_move rfl) ?_
    refine TL_y rfl rfl (Y_equal rfl rfl (EqIs.ptr_nil)) ?_
    refine TL_name 17 (v' := .bool true) rfl (by simp) ?_
    refine TL_nil ?_
    refine T_cond_true rfl ?_
    refine T_region ?_
    refine TL_y rfl rfl (Y_assign rfl) ?_
    refine TL_y rfl rfl (Y_assign rfl) ?_
    refine TL_nil ?_
    refine T_ret ?_
    refine thenS_ret ?_
    refine RetQ.gives (dk_close b bt s hi) ?_
    exact RetG_2 (.inl rfl) rfl (ResV.tmp rfl) (ResV.tmp rfl) GivesTo.g (⟨rfl, rfl⟩)
  · rw [show fptr s.l k = .pointer (some ⟨e.blk, 0, none⟩) by unfold fptr; rw [hf]; rfl]
    refine T_region ?_
    refine TL_y rfl rfl (Y_move rfl) ?_
    refine TL_y rfl rfl (Y_equal rfl rfl (EqIs.ptr_nil)) ?_
    refine TL_name 17 (v' := .bool false) rfl (by simp) ?_
    refine TL_nil ?_
    refine T_cond_false rfl ?_
    refine T_skip ?_
    refine thenS_normal ?_
    refine T_region ?_
    refine TL_y rfl rfl (Y_move rfl) ?_
    refine TL_y rfl rfl (Y_assign rfl) ?_
    refine TL_y rfl rfl (Y_assign rfl) ?_
    refine TL_nil ?_
    refine T_ret ?_
    refine RetQ.gives (dk_close b bt s hi) ?_
    exact RetG_2 (.inl rfl) rfl (ResV.tmp rfl) (ResV.tmp rfl) GivesTo.g (⟨rfl, rfl⟩)
end Go.SL
set_option linter.unusedVariables false
set_option linter.unusedSimpArgs false
namespace Go.SL
open Go Go.Proofs
end Go.SL
set_option linter.unusedVariables false
set_option linter.unusedSimpArgs false
namespace Go.SL
open Go Go.Proofs
theorem fmap_same {l : List FileE} (h : IncF l) {e e' : FileE} (he : e ∈ l) (hn : e'.name = e.name) (hb : e'.blk = e.blk) : fmap (putF l e') = fmap l := by
  have p1 : (fmap (putF l e')).Perm (fmap l) := by
    refine ((putF_perm e').map fun q : FileE => (q.name, q.blk)).trans ?_
    rw [hn, List.map_cons, hn, hb]
    exact (delF_perm h he).map fun q : FileE => (q.name, q.blk)
  refine p1.eq_of_pairwise (le := fun p q : ByteArray × Nat => ltN p.1 q.1 = true) (fun a b _ _ h1 h2 => absurd (ltN_trans h1 h2) (ltN_irr _)) ?_ ?_
  · exact List.pairwise_map.2 (h.put e')
  · exact List.pairwise_map.2 h
theorem dk_close2 {L L1 L2 L3 : List HP} (b bt : Nat) (s : DkS) {n : Int} {m : List (ByteArray × Nat)} (hl : leftK s = n) (hm : fmap s.l = m) [h1 : FindC L b [.map (some bt), .int .i64 n, .int .i64 s.calls] 51 L1] [h2 : FindM L1 bt ByteArray Nat strK fpR false m L2] [h3 : FindHP L2 (allH (s.l.map fH)) L3] (hi : KI s) : Gives L (dk b bt s :: L3) := by
  subst hl; subst hm; exact dk_close b bt s hi
theorem putF_totE {l : List FileE} (h : IncF l) {e e' : FileE} (he : e ∈ l) (hn : e'.name = e.name) : totF (putF l e') + e.bytes.length = totF l + e'.bytes.length := by
  have := delF_tot h he
  rw [putF_tot, hn]; omega
theorem ready_bad {L : List HP} {b bt : Nat} {s : DkS} (k : ByteArray) (hk : k.size ≤ maxEl) (hb : offK s ∨ findF s.l k = none) : Fn Try.prog 37 #[.pointer (some ⟨b, 0, none⟩), .string k] (dk b bt s :: L) (fun v L' => v = .tuple #[.pointer none, .int .i64 (readyK s k)] ∧ L' = dk b bt s :: L) := by
  refine Fn_enter Try.func37 rfl rfl rfl rfl ?_
  refine T_region ?_
  refine TL_y rfl rfl (Y_assign rfl) ?_
  refine TL_y rfl rfl (Y_assign rfl) ?_
  refine TL_nil ?_
  refine T_seq ?_
  refine T_region ?_
  refine TL_y rfl rfl (Y_move rfl) ?_
  refine TL_call rfl rfl (diskOff_spec) ?_
  rintro _ _ ⟨rfl, rfl⟩
  refine TL_nil ?_
  refine T_if rfl (fun h7 => ?_) (fun h7 => ?_)
  · refine T_region ?_
    refine TL_y rfl rfl (Y_assign rfl) ?_
    refine TL_y rfl rfl (Y_assign rfl) ?_
    refine TL_nil ?_
    refine T_ret ?_
    refine thenS_ret ?_
    rw [show readyK s k = 31 by unfold readyK; rw [if_pos h7]]
    exact RetG_2 (.inl rfl) rfl (ResV.tmp rfl) (ResV.tmp rfl) GivesTo.g (⟨rfl, rfl⟩)
  · refine T_skip ?_
    refine thenS_normal ?_
    refine T_region ?_
    refine TL_y rfl rfl (Y_move rfl) ?_
    refine TL_y rfl rfl (Y_move rfl) ?_
    refine TL_call rfl rfl (diskFind_spec k hk) ?_
    rintro _ _ ⟨rfl, rfl⟩
    refine TL_y rfl rfl (Y_extract rfl rfl) ?_
    refine TL_y rfl rfl (Y_extract rfl rfl) ?_
    refine TL_y rfl rfl (Y_assign rfl) ?_
    refine TL_y rfl rfl (Y_assign rfl) ?_
    refine TL_nil ?_
    refine T_ret ?_
    have hn : findF s.l k = none := hb.resolve_left h7
    rw [show fptr s.l k = .pointer none by unfold fptr; rw [hn]; rfl, show readyK s k = 4 by unfold readyK; rw [if_neg h7, hn]; rfl, hn]
    exact RetG_2 (.inl rfl) rfl (ResV.tmp rfl) (ResV.tmp rfl) GivesTo.g (⟨rfl, rfl⟩)
theorem ready_ok {L : List HP} {b bt : Nat} {s : DkS} {e : FileE} (k : ByteArray) (hk : k.size ≤ maxEl) (ho : ¬ offK s) (hf : findF s.l k = some e) : Fn Try.prog 37 #[.pointer (some ⟨b, 0, none⟩), .string k] (dk b bt s :: L) (fun v L' => v = .tuple #[.pointer (some ⟨e.blk, 0, none⟩), .int .i64 0] ∧ L' = dk b bt s :: L) := by
  refine Fn_enter Try.func37 rfl rfl rfl rfl ?_
  refine T_region ?_
  refine TL_y rfl rfl (Y_assign rfl) ?_
  refine TL_y rfl rfl (Y_assign rfl) ?_
  refine TL_nil ?_
  refine T_seq ?_
  refine T_region ?_
  refine TL_y rfl rfl (Y_move rfl) ?_
  refine TL_call rfl rfl (diskOff_spec) ?_
  rintro _ _ ⟨rfl, rfl⟩
  refine TL_name 7 (v' := .bool false) rfl (congrArg Value.bool (decide_eq_false ho)) ?_
  refine TL_nil ?_
  refine T_cond_false rfl ?_
  refine T_skip ?_
  refine thenS_normal ?_
  refine T_region ?_
  refine TL_y rfl rfl (Y_move rfl) ?_
  refine TL_y rfl rfl (Y_move rfl) ?_
  refine TL_call rfl rfl (diskFind_spec k hk) ?_
  rintro _ _ ⟨rfl, rfl⟩
  refine TL_y rfl rfl (Y_extract rfl rfl) ?_
  refine TL_y rfl rfl (Y_extract rfl rfl) ?_
  refine TL_y rfl rfl (Y_assign rfl) ?_
  refine TL_y rfl rfl (Y_assign rfl) ?_
  refine TL_nil ?_
  refine T_ret ?_
  rw [show fptr s.l k = .pointer (some ⟨e.blk, 0, none⟩) by unfold fptr; rw [hf]; rfl, hf]
  exact RetG_2 (.inl rfl) rfl (ResV.tmp rfl) (ResV.tmp rfl) GivesTo.g (⟨rfl, rfl⟩)
theorem ready_ne {s : DkS} {k : ByteArray} (hb : offK s ∨ findF s.l k = none) : readyK s k ≠ 0 := by
  unfold readyK
  by_cases h : offK s
  · rw [if_pos h]; decide
  · rw [if_neg h, hb.resolve_left h]; decide
theorem ready_cases (s : DkS) (k : ByteArray) : (offK s ∨ findF s.l k = none) ∨ (¬ offK s ∧ ∃ e, findF s.l k = some e) := by
  by_cases h : offK s
  · exact .inl (.inl h)
  · cases hf : findF s.l k with
    | none => exact .inl (.inr rfl)
    | some e => exact .inr ⟨h, e, rfl⟩
theorem sync_bad {s : DkS} {k : ByteArray} (hb : offK s ∨ findF s.l k = none) : syncK s k = (s, readyK s k) := by
  unfold syncK readyK
  by_cases h : offK s
  · cases findF s.l k <;> simp [h]
  · rw [hb.resolve_left h]; simp [h]
theorem cut_bad {s : DkS} {k : ByteArray} {n : Int} (hb : offK s ∨ findF s.l k = none) : cutK s k n = (s, readyK s k) := by
  unfold cutK readyK
  by_cases h : offK s
  · cases findF s.l k <;> simp [h]
  · rw [hb.resolve_left h]; simp [h]
theorem remove_bad {s : DkS} {k : ByteArray} (hb : offK s ∨ findF s.l k = none) : removeK s k = (s, readyK s k) := by
  unfold removeK readyK
  by_cases h : offK s
  · cases findF s.l k <;> simp [h]
  · rw [hb.resolve_left h]; simp [h]
theorem rename_bad {s : DkS} {k k2 : ByteArray} (hn : isName k2) (hb : offK s ∨ findF s.l k = none) : renameK s k k2 = (s, readyK s k) := by
  unfold renameK readyK
  rw [if_neg (Classical.not_not.2 hn)]
  by_cases h : offK s
  · cases findF s.l k <;> simp [h]
  · rw [hb.resolve_left h]; simp [h]
theorem diskSync_bad {L : List HP} {b bt : Nat} {s : DkS} (k : ByteArray) (hk : k.size ≤ maxEl) (hb : offK s ∨ findF s.l k = none) : Fn Try.prog 15 #[.pointer (some ⟨b, 0, none⟩), .string k] (dk b bt s :: L) (fun v L' => v = .int .i64 (syncK s k).2 ∧ L' = dk b bt (syncK s k).1 :: L) := by
  have hne := ready_ne hb
  rw [sync_bad hb]
  refine Fn_enter Try.func15 rfl rfl rfl rfl ?_
  refine T_region ?_
  refine TL_y rfl rfl (Y_assign rfl) ?_
  refine TL_nil ?_
  refine T_region ?_
  refine TL_y rfl rfl (Y_move rfl) ?_
  refine TL_y rfl rfl (Y_move rfl) ?_
  refine TL_call rfl rfl (ready_bad k hk hb) ?_
  rintro _ _ ⟨rfl, rfl⟩
  refine TL_y rfl rfl (Y_move rfl) ?_
  refine TL_y rfl rfl (Y_extract rfl rfl) ?_
  refine TL_y rfl rfl (Y_extract rfl rfl) ?_
  refine TL_y rfl rfl (Y_assign rfl) ?_
  refine TL_y rfl rfl (Y_assign rfl) ?_
  refine TL_nil ?_
  refine T_seq ?_
  refine T_region ?_
  refine TL_y rfl rfl (Y_move rfl) ?_
  refine TL_y rfl rfl (Y_ne rfl rfl) ?_
  refine TL_name 14 (v' := .bool true) rfl (congrArg Value.bool (decide_eq_true hne)) ?_
  refine TL_nil ?_
  refine T_cond_true rfl ?_
  refine T_region ?_
  refine TL_y rfl rfl (Y_move rfl) ?_
  refine TL_y rfl rfl (Y_assign rfl) ?_
  refine TL_nil ?_
  refine T_ret ?_
  refine thenS_ret ?_
  exact RetG_1 (.inl rfl) rfl (ResV.tmp rfl) GivesTo.g (⟨rfl, rfl⟩)
theorem diskSync_ok {L : List HP} {b bt : Nat} {s : DkS} {e : FileE} (k : ByteArray) (hk : k.size ≤ maxEl) (ho : ¬ offK s) (hf : findF s.l k = some e) : Fn Try.prog 15 #[.pointer (some ⟨b, 0, none⟩), .string k] (dk b bt s :: L) (fun v L' => v = .int .i64 (syncK s k).2 ∧ L' = dk b bt (syncK s k).1 :: L) := by
  obtain ⟨he, hen⟩ := findF_mem hf
  refine Fn_enter Try.func15 rfl rfl rfl rfl ?_
  refine T_region ?_
  refine TL_y rfl rfl (Y_assign rfl) ?_
  refine TL_nil ?_
  refine T_region ?_
  refine TL_y rfl rfl (Y_move rfl) ?_
  refine TL_y rfl rfl (Y_move rfl) ?_
  refine TL_call rfl rfl (ready_ok k hk ho hf) ?_
  rintro _ _ ⟨rfl, rfl⟩
  refine TL_y rfl rfl (Y_move rfl) ?_
  refine TL_y rfl rfl (Y_extract rfl rfl) ?_
  refine TL_y rfl rfl (Y_extract rfl rfl) ?_
  refine TL_y rfl rfl (Y_assign rfl) ?_
  refine TL_y rfl rfl (Y_assign rfl) ?_
  refine TL_nil ?_
  refine T_seq ?_
  refine T_region ?_
  refine TL_y rfl rfl (Y_move rfl) ?_
  refine TL_y rfl rfl (Y_ne rfl rfl) ?_
  refine TL_name 14 (v' := .bool false) rfl (congrArg Value.bool (by decide)) ?_
  refine TL_nil ?_
  refine T_cond_false rfl ?_
  refine T_skip ?_
  refine thenS_normal ?_
  refine T_dk fun hi => ?_
  refine T_fout hi.inc he fun A c => ?_
  have hs : syncK s k = (doneK ⟨s.size, s.calls, putF s.l ⟨k, e.blk, e.bytes, (e.bytes.length : Int)⟩⟩, 0) := by unfold syncK; rw [hf]; simp only; rw [if_neg ho]
  subst hen
  have htt := putF_totE (e' := ⟨e.name, e.blk, e.bytes, (e.bytes.length : Int)⟩) hi.inc he rfl
  have hfm := fmap_same (e' := ⟨e.name, e.blk, e.bytes, (e.bytes.length : Int)⟩) hi.inc he rfl rfl
  have hki := hi.change he e.bytes (e.bytes.length : Int) (Nat.le_refl _) (hi.ok e he).2.2.2 ⟨by omega, Int.le_refl _⟩
  refine T_region ?_
  refine TL_y rfl rfl (Y_move rfl) ?_
  refine TL_y rfl rfl (Y_move rfl) ?_
  refine TL_y rfl rfl (Y_nil_check rfl) ?_
  refine TL_y rfl rfl (Y_field_addr rfl) ?_
  refine TL_y rfl rfl (Y_load rfl rfl) ?_
  refine TL_y rfl rfl (Y_len rfl) ?_
  refine TL_y rfl rfl (Y_nil_check rfl) ?_
  refine TL_y rfl rfl (Y_field_addr rfl) ?_
  refine TL_store rfl rfl rfl rfl rfl rfl ?_
  refine TL_nil ?_
  refine T_gives (f_in (A := A) (c := c) (l := s.l) ⟨e.name, e.blk, e.bytes, (e.bytes.length : Int)⟩) ?_
  refine T_gives (dk_close2 b bt ⟨s.size, s.calls, putF s.l ⟨e.name, e.blk, e.bytes, (e.bytes.length : Int)⟩⟩ (n := leftK s) (m := fmap s.l) (by unfold leftK; dsimp only at htt ⊢; omega) hfm hki) ?_
  refine T_region ?_
  refine TL_y rfl rfl (Y_move rfl) ?_
  refine TL_call rfl rfl (diskDone_spec) ?_
  rintro _ _ ⟨rfl, rfl⟩
  refine TL_y rfl rfl (Y_assign rfl) ?_
  refine TL_nil ?_
  refine T_ret ?_
  rw [hs]
  exact RetG_1 (.inl rfl) rfl (ResV.tmp rfl) GivesTo.g (⟨rfl, rfl⟩)
theorem diskSync_spec {L : List HP} {b bt : Nat} {s : DkS} (k : ByteArray) (hk : k.size ≤ maxEl) : Fn Try.prog 15 #[.pointer (some ⟨b, 0, none⟩), .string k] (dk b bt s :: L) (fun v L' => v = .int .i64 (syncK s k).2 ∧ L' = dk b bt (syncK s k).1 :: L) := by
  rcases ready_cases s k with hb | ⟨ho, e, hf⟩
  · exact diskSync_bad k hk hb
  · exact diskSync_ok k hk ho hf
/-! ### Cut -/
theorem cloneB_spec {L : List HP} {A : Option Addr} {c : Nat} {xs : List Int} (hk : SlN L (intR .u8) A c xs) (hb : xs.length ≤ 140737488355328) : Fn Try.prog 33 #[.slice A xs.length c] L (fun v L' => ∃ A' c', v = .slice A' xs.length c' ∧ L' = osl (intR .u8) 5 A' c' xs :: L) := by
  refine Fn_enter Try.func33 rfl rfl rfl rfl ?_
  refine T_region ?_
  refine TL_y rfl rfl (Y_assign rfl) ?_
  refine TL_nil ?_
  refine T_seq ?_
  refine T_region ?_
  refine TL_y rfl rfl (Y_move rfl) ?_
  refine TL_y rfl rfl (Y_equal rfl rfl (EqIs.slice_nil)) ?_
  refine TL_nil ?_
  refine T_if rfl (fun h4 => ?_) (fun h4 => ?_)
  · subst h4
    refine hk.none_nil fun e => ?_
    subst e
    refine T_onil (A := none) (intR .u8) 5 ?_
    refine T_region ?_
    refine TL_y rfl rfl (Y_assign rfl) ?_
    refine TL_nil ?_
    refine T_ret ?_
    refine thenS_ret ?_
    exact RetG_1 (.inl rfl) rfl (ResV.tmp rfl) GivesTo.g (⟨none, 0, rfl, rfl⟩)
  · refine T_skip ?_
    refine thenS_normal ?_
    refine T_region ?_
    refine TL_build_slice rfl rfl rfl rfl rfl rfl ?_
    intro b5
    refine TL_osl (k := 0) (intR .u8) [] (Knows.const fun M => rfl) rfl (by simp) ?_
    refine TL_name 5 (v' := .slice (some ⟨b5, 0, none⟩) ([] : List Int).length 0) rfl rfl ?_
    refine TL_y rfl rfl (Y_move rfl) ?_
    refine TL_append_n rfl rfl rfl rfl rfl hk (by simp; omega) ?_
    intro A7 c7
    refine TL_y rfl rfl (Y_assign rfl) ?_
    refine TL_nil ?_
    refine T_ret ?_
    simp only [List.nil_append]
    exact RetG_1 (.inl rfl) rfl (ResV.tmp rfl) GivesTo.g (⟨A7, c7, rfl, rfl⟩)
theorem diskCut0_spec {L : List HP} {b bt : Nat} {s : DkS} {e : FileE} {n : Int} (he : e ∈ s.l) (hn : 0 ≤ n ∧ n ≤ (e.bytes.length : Int)) : Fn Try.prog 32 #[.pointer (some ⟨b, 0, none⟩), .pointer (some ⟨e.blk, 0, none⟩), .int .i64 n] (dk b bt s :: L) (fun v L' => v = .tuple #[] ∧ L' = dk b bt ⟨s.size, s.calls, putF s.l ⟨e.name, e.blk, e.bytes.take n.toNat, n⟩⟩ :: L) := by
  have htl : (e.bytes.take n.toNat).length = n.toNat := by rw [List.length_take]; omega
  refine Fn_enter Try.func32 rfl rfl rfl rfl ?_
  refine T_dk fun hi => ?_
  refine T_fout hi.inc he fun A c => ?_
  refine SlN.lens (sln (R := intR .u8) (A := A) (c := c) (xs := e.bytes)) fun hlc => ?_
  have htt := putF_totE (e' := ⟨e.name, e.blk, e.bytes.take n.toNat, n⟩) hi.inc he rfl
  have hfm := fmap_same (e' := ⟨e.name, e.blk, e.bytes.take n.toNat, n⟩) hi.inc he rfl rfl
  have hki := hi.change he (e.bytes.take n.toNat) n (by omega) (fun x hx => (hi.ok e he).2.2.2 x (List.mem_of_mem_take hx)) (by omega)
  have ht := hi.tot
  have hz := hi.size
  have hdt := delF_tot hi.inc he
  have hll : leftK s = s.size - (totF s.l : Int) := rfl
  refine T_region_draw (cells b [.map (some bt), .int .i64 (leftK s), .int .i64 s.calls] 51 :: cells e.blk [.slice A e.bytes.length c, .int .i64 e.synced] 67 :: []) [0, 1, 3, 7, 0, 16, 48, 112, 240, 0, 1008, 2047, 4095, 8191, 16383] [14] [(0, true), (1, true), (2, true), (3, true), (4, true), (5, true), (6, true), (7, true), (8, true), (9, true), (10, true), (11, true), (12, true), (13, true), (14, false)] (by kernel_rfl) (by decide +kernel) GivesTo.g ?_
  refine TF_y rfl rfl (Y_move rfl) ?_
  refine TF_y rfl rfl (Y_nil_check rfl) ?_
  refine TF_y rfl rfl (Y_field_addr rfl) ?_
  refine TF_y rfl rfl (Y_load rfl rfl) ?_
  refine TF_y rfl rfl (Y_move rfl) ?_
  refine TF_y rfl rfl (Y_nil_check rfl) ?_
  refine TF_y rfl rfl (Y_field_addr rfl) ?_
  refine TF_y rfl rfl (Y_load rfl rfl) ?_
  refine TF_y rfl rfl (Y_len rfl) ?_
  refine TF_y rfl rfl (Y_move rfl) ?_
  refine TF_y rfl rfl (Y_sub rfl rfl (by omega)) ?_
  refine TF_y rfl rfl (Y_add rfl rfl (by omega)) ?_
  refine TF_y rfl rfl (Y_nil_check rfl) ?_
  refine TF_y rfl rfl (Y_field_addr rfl) ?_
  refine TF_anchor rfl ?_
  refine TL_store rfl rfl rfl rfl rfl rfl ?_
  refine TF_end_tail rfl ?_
  refine TF_nil ?_
  refine T_region_last ?_
  refine TL_y rfl rfl (Y_move rfl) ?_
  refine TL_y rfl rfl (Y_move rfl) ?_
  refine TL_y rfl rfl (Y_move rfl) ?_
  refine TL_y rfl rfl (Y_nil_check rfl) ?_
  refine TL_y rfl rfl (Y_field_addr rfl) ?_
  refine TL_y rfl rfl (Y_load rfl rfl) ?_
  refine TL_y rfl rfl (Y_move rfl) ?_
  refine TL_y rfl rfl (Y_cut_h rfl rfl (by omega)) ?_
  refine TL_name 27 (v' := .slice A (e.bytes.take n.toNat).length c) rfl (by congr 1; omega) ?_
  refine TL_call rfl rfl (cloneB_spec ((sln (R := intR .u8) (A := A) (c := c) (xs := e.bytes)).take n.toNat) (by have := hlc.2; simp only [maxEl] at this; omega)) ?_
  rintro _ _ ⟨A28, c28, rfl, rfl⟩
  refine TL_y rfl rfl (Y_move rfl) ?_
  refine TL_y rfl rfl (Y_nil_check rfl) ?_
  refine TL_y rfl rfl (Y_field_addr rfl) ?_
  refine TL_store rfl rfl rfl rfl rfl rfl ?_
  refine TL_y rfl rfl (Y_nil_check rfl) ?_
  refine TL_y rfl rfl (Y_field_addr rfl) ?_
  refine TL_store rfl rfl rfl rfl rfl rfl ?_
  refine TL_nil ?_
  refine RetQ.gives (f_in (A := A28) (c := c28) (l := s.l) ⟨e.name, e.blk, e.bytes.take n.toNat, n⟩) ?_
  refine RetQ.gives (dk_close2 b bt ⟨s.size, s.calls, putF s.l ⟨e.name, e.blk, e.bytes.take n.toNat, n⟩⟩ (n := leftK s + ((e.bytes.length : Int) - n)) (m := fmap s.l) (by unfold leftK; dsimp only at htt ⊢; omega) hfm hki) ?_
  exact RetG_0 (.inr rfl) rfl GivesTo.g (⟨rfl, rfl⟩)
end Go.SL
set_option linter.unusedVariables false
set_option linter.unusedSimpArgs false
namespace Go.SL
open Go Go.Lib
section
variable {P : Program} {E : Env} {L : List HP} {ty : TypeId} {A : Option Addr} {c : Nat}
theorem Y_bytes_strN {x : Operand} {src dst0 e : TypeId} {xs : List Int} [h1 : TyDesc P src (.slice e)] [h2 : TyDesc P e (.int .u8)] [h3 : TyDesc P dst0 .string] (hx : ev E x = some (.slice A xs.length c)) (hk : SlN L (intR .u8) A c xs) : Yl P E L (.convert src dst0 x) ty (.string (strOfNums xs)) := fun n D W a w dst pos af g ha hs => by
  obtain ⟨M, k, hd, hM, hk', hsep⟩ := hs.ex
  have hsl := hk M k (heapOf w) hd hsep hM hk'
  have hconv : (convert src dst0 (.slice A xs.length c)).run P w = .ok (.string (strOfNums xs)) w := by
    rcases hsl.2.2 with rfl | ⟨b, o, rfl, cur, t, fr, hb, hall⟩
    · cases A with
      | none => exact run_convert_bytes_nil w src e h1.under h2.under _ _ dst0 h3.under
      | some ad =>
        simp [convert, h1.run, h2.run, h3.run, Conv.bytesToString, loadCells, loadCellsFrom, strOfNums]
        rfl
    · refine run_convert_bytes_arg w src e h1.under h2.under b o xs.length c xs rfl (fun i hi => ?_) dst0 h3.under
      obtain ⟨l, hl, hc⟩ := hall i _ (List.getElem?_eq_getElem hi)
      have := hc 0 _ (by rw [hl.1]; rfl)
      rw [cell_of hb]
      have e1 : (intR .u8).sz = 1 := rfl
      rw [e1, Nat.mul_one, Nat.add_zero] at this
      rw [this]
      simp [List.getD, List.getElem?_eq_getElem hi]
  simp [execOp, ha.ev hx, hconv]
end
section
variable {r : Option Nat} {n : Nat} {P : Program} {ops : Array Oper} {rest : List Oper} {K : St → Prop} {D : List Deferred} {E : Env} {L L0 : List HP} {d : Nat} {ty : TypeId} {pos : String} {af : Array Edge}
/-- Bytes of a literal: nobody writes them from now on. -/
theorem TL_conv_mark {x : Operand} {src e te : TypeId} {vs : List Value} {xs : List Int} {b c : Nat} [h1 : TyDesc P src (.slice e)] [h3 : TyDesc P e (.int .u8)] (hd : Nat.blt d n = true) (hx : ev E x = some (.slice (some ⟨b, 0, none⟩) xs.length c)) [hc : FindC L b vs te L0] (hcells : ∀ M, CellsOf M (intR .u8) xs vs) (hl : xs.length ≤ maxEl) (hle : xs.length ≤ c)
    (h : TL r n P ops rest ⟨D, (d, .slice (some ⟨b, 0, none⟩) xs.length c) :: E, sl (intR .u8) (some ⟨b, 0, none⟩) c xs :: L0⟩ K) : TL r n P ops (⟨some d, .convert src src x, ty, pos, af, none⟩ :: rest) ⟨D, E, L⟩ K :=
  TL_val rfl hd rfl (fun _ e => by cases e) fun W a w hh => by
    have hs : Sat W w (own b (.cells vs.toArray te (0, 0)) :: L0) := hh.2.gives hc.g
    have hbw := hs.own_at
    have hsh : w.shape? b = some (te, vs.toArray.size) := by simp [World.shape?, hbw]
    have hset : Sat W (w.freeze ⟨b, vs.toArray.size, none⟩ 1) (own b (.cells vs.toArray te (vs.toArray.size, vs.toArray.size + 1)) :: L0) := by
      unfold World.freeze
      rw [if_neg (by decide)]
      refine hs.set ?_ ?_ rfl rfl rfl ?_
      · show (w.heap.modify b _)[b]? = _
        rw [Array.getElem?_modify, if_pos rfl, hbw]; rfl
      · intro i hi
        show (w.heap.modify b _)[i]? = _
        rw [Array.getElem?_modify, if_neg (Ne.symm hi)]
      · show _ ≤ (w.heap.modify b _).size
        simp
    refine ⟨_, _, sl (intR .u8) (some ⟨b, 0, none⟩) c xs :: L0, ?_, (Sat.freeze hset).gives fun M k ⟨k1, k2, kd, m1, m2, hi, hs'⟩ => ?_, h⟩
    · simp [execOp, hh.1.ev hx, convert, h1.run, h3.run, markStringish, hsh]
    · refine ⟨k1, k2, kd, m1, m2, ⟨hle, hl, .inr ⟨_, 0, rfl, _, _, _, hi, fun i x hix => ?_⟩⟩, hs'⟩
      obtain ⟨l, hl2, hc2⟩ := (hcells M).at_ i x hix
      refine ⟨l, hl2, fun j v hj => ?_⟩
      have := hc2 j v hj
      rw [Nat.zero_add]
      simpa using this
end
end Go.SL
set_option linter.unusedVariables false
set_option linter.unusedSimpArgs false
namespace Go.SL
open Go Go.Proofs
theorem diskCut_bad {L : List HP} {b bt : Nat} {s : DkS} (k : ByteArray) (n : Int) (hk : k.size ≤ maxEl) (hb : offK s ∨ findF s.l k = none) : Fn Try.prog 20 #[.pointer (some ⟨b, 0, none⟩), .string k, .int .i64 n] (dk b bt s :: L) (fun v L' => v = .int .i64 (cutK s k n).2 ∧ L' = dk b bt (cutK s k n).1 :: L) := by
  have hne := ready_ne hb
  rw [cut_bad hb]
  refine Fn_enter Try.func20 rfl rfl rfl rfl ?_
  refine T_region ?_
  refine TL_y rfl rfl (Y_assign rfl) ?_
  refine TL_nil ?_
  refine T_region ?_
  refine TL_y rfl rfl (Y_move rfl) ?_
  refine TL_y rfl rfl (Y_move rfl) ?_
  refine TL_call rfl rfl (ready_bad k hk hb) ?_
  rintro _ _ ⟨rfl, rfl⟩
  refine TL_y rfl rfl (Y_move rfl) ?_
  refine TL_y rfl rfl (Y_extract rfl rfl) ?_
  refine TL_y rfl rfl (Y_extract rfl rfl) ?_
  refine TL_y rfl rfl (Y_assign rfl) ?_
  refine TL_y rfl rfl (Y_assign rfl) ?_
  refine TL_nil ?_
  refine T_seq ?_
  refine T_block ?_
  refine T_region ?_
  refine TL_y rfl rfl (Y_move rfl) ?_
  refine TL_y rfl rfl (Y_ne rfl rfl) ?_
  refine TL_name 17 (v' := .bool true) rfl (congrArg Value.bool (decide_eq_true hne)) ?_
  refine TL_y rfl rfl (Y_assign rfl) ?_
  refine TL_nil ?_
  refine T_cond_true rfl ?_
  refine T_region ?_
  refine TL_y rfl rfl (Y_move rfl) ?_
  refine TL_y rfl rfl (Y_assign rfl) ?_
  refine TL_nil ?_
  refine T_ret ?_
  refine inB_ret ?_
  refine thenS_ret ?_
  exact RetG_1 (.inl rfl) rfl (ResV.tmp rfl) GivesTo.g (⟨rfl, rfl⟩)
theorem diskCut_ok {L : List HP} {b bt : Nat} {s : DkS} {e : FileE} (k : ByteArray) (n : Int) (hk : k.size ≤ maxEl) (ho : ¬ offK s) (hf : findF s.l k = some e) : Fn Try.prog 20 #[.pointer (some ⟨b, 0, none⟩), .string k, .int .i64 n] (dk b bt s :: L) (fun v L' => v = .int .i64 (cutK s k n).2 ∧ L' = dk b bt (cutK s k n).1 :: L) := by
  obtain ⟨he, hen⟩ := findF_mem hf
  refine Fn_enter Try.func20 rfl rfl rfl rfl ?_
  refine T_region ?_
  refine TL_y rfl rfl (Y_assign rfl) ?_
  refine TL_nil ?_
  refine T_region ?_
  refine TL_y rfl rfl (Y_move rfl) ?_
  refine TL_y rfl rfl (Y_move rfl) ?_
  refine TL_call rfl rfl (ready_ok k hk ho hf) ?_
  rintro _ _ ⟨rfl, rfl⟩
  refine TL_y rfl rfl (Y_move rfl) ?_
  refine TL_y rfl rfl (Y_extract rfl rfl) ?_
  refine TL_y rfl rfl (Y_extract rfl rfl) ?_
  refine TL_y rfl rfl (Y_assign rfl) ?_
  refine TL_y rfl rfl (Y_assign rfl) ?_
  refine TL_nil ?_
  refine T_seq ?_
  refine T_block ?_
  refine T_region ?_
  refine TL_y rfl rfl (Y_move rfl) ?_
  refine TL_y rfl rfl (Y_ne rfl rfl) ?_
  refine TL_name 17 (v' := .bool false) rfl (congrArg Value.bool (by decide)) ?_
  refine TL_y rfl rfl (Y_assign rfl) ?_
  refine TL_nil ?_
  refine T_cond_false rfl ?_
  refine T_dk fun hi => ?_
  refine T_fout hi.inc he fun A c => ?_
  refine T_region ?_
  refine TL_y rfl rfl (Y_move rfl) ?_
  refine TL_both 10 30 (n < 0 ∨ (e.bytes.length : Int) < n) ?_ ?_
  · refine TL_y rfl rfl (Y_lt rfl rfl) ?_
    refine TL_y rfl rfl (Y_move rfl) ?_
    refine TL_splitd 22 rfl (fun h22 => ?_) (fun h22 => ?_)
    · refine TL_gskip rfl rfl rfl rfl ?_
      refine TL_gskip rfl rfl rfl rfl ?_
      refine TL_gskip rfl rfl rfl rfl ?_
      refine TL_gskip rfl rfl rfl rfl ?_
      refine TL_gskip rfl rfl rfl rfl ?_
      refine TL_gskip rfl rfl rfl rfl ?_
      refine TL_gskip rfl rfl rfl rfl ?_
      refine TL_y rfl rfl (Y_pick_t rfl rfl) ?_
      refine TL_chain_end rfl ?_ (by repeat (first | exact sub_refl | refine sub_ext rfl ?_)) GivesTo.g
      exact congrArg Value.bool (decide_eq_true (by omega)).symm
    · refine TL_grun rfl rfl ?_
      refine TL_y rfl rfl (Y_move rfl) ?_
      refine TL_grun rfl rfl ?_
      refine TL_y rfl rfl (Y_move rfl) ?_
      refine TL_grun rfl rfl ?_
      refine TL_y rfl rfl (Y_nil_check rfl) ?_
      refine TL_grun rfl rfl ?_
      refine TL_y rfl rfl (Y_field_addr rfl) ?_
      refine TL_grun rfl rfl ?_
      refine TL_y rfl rfl (Y_load rfl rfl) ?_
      refine TL_grun rfl rfl ?_
      refine TL_y rfl rfl (Y_len rfl) ?_
      refine TL_grun rfl rfl ?_
      refine TL_y rfl rfl (Y_gt rfl rfl) ?_
      refine TL_y rfl rfl (Y_pick_f rfl rfl) ?_
      refine TL_chain_end rfl ?_ (by repeat (first | exact sub_refl | refine sub_ext rfl ?_)) GivesTo.g
      exact congrArg Value.bool (decide_eq_decide.2 (by omega))
  refine TL_y rfl rfl (Y_assign rfl) ?_
  refine TL_nil ?_
  refine T_if rfl (fun h19 => ?_) (fun h19 => ?_)
  · have hs : cutK s k n = (s, 1) := by unfold cutK; rw [hf]; simp only; rw [if_neg ho, if_pos h19]
    refine T_gives (f_back (A := A) (c := c) hi.inc he) ?_
    refine T_gives (dk_close b bt s hi) ?_
    refine T_region ?_
    refine TL_y rfl rfl (Y_assign rfl) ?_
    refine TL_nil ?_
    refine T_ret ?_
    refine inB_ret ?_
    refine thenS_ret ?_
    rw [hs]
    exact RetG_1 (.inl rfl) rfl (ResV.tmp rfl) GivesTo.g (⟨rfl, rfl⟩)
  · have hs : cutK s k n = (doneK ⟨s.size, s.calls, putF s.l ⟨k, e.blk, e.bytes.take n.toNat, n⟩⟩, 0) := by unfold cutK; rw [hf]; simp only; rw [if_neg ho, if_neg h19]
    refine T_skip ?_
    refine inB_normal ?_
    refine thenS_normal ?_
    refine T_gives (f_back (A := A) (c := c) hi.inc he) ?_
    refine T_gives (dk_close b bt s hi) ?_
    refine T_region ?_
    refine TL_y rfl rfl (Y_move rfl) ?_
    refine TL_y rfl rfl (Y_move rfl) ?_
    refine TL_y rfl rfl (Y_move rfl) ?_
    refine TL_call rfl rfl (diskCut0_spec he (by omega)) ?_
    rintro _ _ ⟨rfl, rfl⟩
    refine TL_nil ?_
    refine T_region ?_
    refine TL_y rfl rfl (Y_move rfl) ?_
    refine TL_call rfl rfl (diskDone_spec) ?_
    rintro _ _ ⟨rfl, rfl⟩
    refine TL_y rfl rfl (Y_assign rfl) ?_
    refine TL_nil ?_
    refine T_ret ?_
    rw [hs, hen]
    exact RetG_1 (.inl rfl) rfl (ResV.tmp rfl) GivesTo.g (⟨rfl, rfl⟩)
theorem diskCut_spec {L : List HP} {b bt : Nat} {s : DkS} (k : ByteArray) (n : Int) (hk : k.size ≤ maxEl) : Fn Try.prog 20 #[.pointer (some ⟨b, 0, none⟩), .string k, .int .i64 n] (dk b bt s :: L) (fun v L' => v = .int .i64 (cutK s k n).2 ∧ L' = dk b bt (cutK s k n).1 :: L) := by
  rcases ready_cases s k with hb | ⟨ho, e, hf⟩
  · exact diskCut_bad k n hk hb
  · exact diskCut_ok k n hk ho hf
theorem diskDrop_spec {L : List HP} {b bt : Nat} {s : DkS} {e : FileE} (he : e ∈ s.l) (hk : e.name.size ≤ maxEl) : Fn Try.prog 38 #[.pointer (some ⟨b, 0, none⟩), .string e.name, .pointer (some ⟨e.blk, 0, none⟩)] (dk b bt s :: L) (fun v L' => v = .tuple #[] ∧ ∃ A c, L' = dk b bt ⟨s.size, s.calls, delF s.l e.name⟩ :: cells e.blk [.slice A e.bytes.length c, .int .i64 e.synced] 67 :: osl (intR .u8) 5 A c e.bytes :: L) := by
  refine Fn_enter Try.func38 rfl rfl rfl rfl ?_
  refine T_dk fun hi => ?_
  refine T_fout hi.inc he fun A c => ?_
  have ht := hi.tot
  have hz := hi.size
  have hdt := delF_tot hi.inc he
  have hll : leftK s = s.size - (totF s.l : Int) := rfl
  refine T_region_draw (cells b [.map (some bt), .int .i64 (leftK s), .int .i64 s.calls] 51 :: cells e.blk [.slice A e.bytes.length c, .int .i64 e.synced] 67 :: []) [0, 1, 3, 7, 0, 16, 48, 112, 240, 511, 1023, 2047, 4095] [12] [(0, true), (1, true), (2, true), (3, true), (4, true), (5, true), (6, true), (7, true), (8, true), (9, true), (10, true), (11, true), (12, false)] (by kernel_rfl) (by decide +kernel) GivesTo.g ?_
  refine TF_y rfl rfl (Y_move rfl) ?_
  refine TF_y rfl rfl (Y_nil_check rfl) ?_
  refine TF_y rfl rfl (Y_field_addr rfl) ?_
  refine TF_y rfl rfl (Y_load rfl rfl) ?_
  refine TF_y rfl rfl (Y_move rfl) ?_
  refine TF_y rfl rfl (Y_nil_check rfl) ?_
  refine TF_y rfl rfl (Y_field_addr rfl) ?_
  refine TF_y rfl rfl (Y_load rfl rfl) ?_
  refine TF_y rfl rfl (Y_len rfl) ?_
  refine TF_y rfl rfl (Y_add rfl rfl (by omega)) ?_
  refine TF_y rfl rfl (Y_nil_check rfl) ?_
  refine TF_y rfl rfl (Y_field_addr rfl) ?_
  refine TF_anchor rfl ?_
  refine TL_store rfl rfl rfl rfl rfl rfl ?_
  refine TF_end_tail rfl ?_
  refine TF_nil ?_
  refine T_region_last ?_
  refine TL_y rfl rfl (Y_move rfl) ?_
  refine TL_y rfl rfl (Y_nil_check rfl) ?_
  refine TL_y rfl rfl (Y_field_addr rfl) ?_
  refine TL_y rfl rfl (Y_load rfl rfl) ?_
  refine TL_y rfl rfl (Y_move rfl) ?_
  refine TL_delete0 (k := e.name) rfl rfl hk ?_
  rw [delM_fmap]
  refine TL_nil ?_
  refine RetQ.gives (dk_close2 b bt ⟨s.size, s.calls, delF s.l e.name⟩ (n := leftK s + (e.bytes.length : Int)) (m := fmap (delF s.l e.name)) (by unfold leftK; dsimp only; omega) rfl (hi.del e.name)) ?_
  exact RetG_0 (.inr rfl) rfl GivesTo.g (⟨rfl, A, c, rfl⟩)
theorem diskRemove_bad {L : List HP} {b bt : Nat} {s : DkS} (k : ByteArray) (hk : k.size ≤ maxEl) (hb : offK s ∨ findF s.l k = none) : Fn Try.prog 13 #[.pointer (some ⟨b, 0, none⟩), .string k] (dk b bt s :: L) (fun v L' => v = .int .i64 (removeK s k).2 ∧ L' = dk b bt (removeK s k).1 :: L) := by
  have hne := ready_ne hb
  rw [remove_bad hb]
  refine Fn_enter Try.func13 rfl rfl rfl rfl ?_
  refine T_region ?_
  refine TL_y rfl rfl (Y_assign rfl) ?_
  refine TL_nil ?_
  refine T_region ?_
  refine TL_y rfl rfl (Y_move rfl) ?_
  refine TL_y rfl rfl (Y_move rfl) ?_
  refine TL_call rfl rfl (ready_bad k hk hb) ?_
  rintro _ _ ⟨rfl, rfl⟩
  refine TL_y rfl rfl (Y_move rfl) ?_
  refine TL_y rfl rfl (Y_extract rfl rfl) ?_
  refine TL_y rfl rfl (Y_extract rfl rfl) ?_
  refine TL_y rfl rfl (Y_assign rfl) ?_
  refine TL_y rfl rfl (Y_assign rfl) ?_
  refine TL_nil ?_
  refine T_seq ?_
  refine T_region ?_
  refine TL_y rfl rfl (Y_move rfl) ?_
  refine TL_y rfl rfl (Y_ne rfl rfl) ?_
  refine TL_name 14 (v' := .bool true) rfl (congrArg Value.bool (decide_eq_true hne)) ?_
  refine TL_nil ?_
  refine T_cond_true rfl ?_
  refine T_region ?_
  refine TL_y rfl rfl (Y_move rfl) ?_
  refine TL_y rfl rfl (Y_assign rfl) ?_
  refine TL_nil ?_
  refine T_ret ?_
  refine thenS_ret ?_
  exact RetG_1 (.inl rfl) rfl (ResV.tmp rfl) GivesTo.g (⟨rfl, rfl⟩)
theorem diskRemove_ok {L : List HP} {b bt : Nat} {s : DkS} {e : FileE} (k : ByteArray) (hk : k.size ≤ maxEl) (ho : ¬ offK s) (hf : findF s.l k = some e) : Fn Try.prog 13 #[.pointer (some ⟨b, 0, none⟩), .string k] (dk b bt s :: L) (fun v L' => v = .int .i64 (removeK s k).2 ∧ L' = dk b bt (removeK s k).1 :: L) := by
  obtain ⟨he, hen⟩ := findF_mem hf
  have hs : removeK s k = (doneK ⟨s.size, s.calls, delF s.l k⟩, 0) := by unfold removeK; rw [hf]; simp only; rw [if_neg ho]
  rw [hs]
  subst hen
  refine Fn_enter Try.func13 rfl rfl rfl rfl ?_
  refine T_region ?_
  refine TL_y rfl rfl (Y_assign rfl) ?_
  refine TL_nil ?_
  refine T_region ?_
  refine TL_y rfl rfl (Y_move rfl) ?_
  refine TL_y rfl rfl (Y_move rfl) ?_
  refine TL_call rfl rfl (ready_ok e.name hk ho hf) ?_
  rintro _ _ ⟨rfl, rfl⟩
  refine TL_y rfl rfl (Y_move rfl) ?_
  refine TL_y rfl rfl (Y_extract rfl rfl) ?_
  refine TL_y rfl rfl (Y_extract rfl rfl) ?_
  refine TL_y rfl rfl (Y_assign rfl) ?_
  refine TL_y rfl rfl (Y_assign rfl) ?_
  refine TL_nil ?_
  refine T_seq ?_
  refine T_region ?_
  refine TL_y rfl rfl (Y_move rfl) ?_
  refine TL_y rfl rfl (Y_ne rfl rfl) ?_
  refine TL_name 14 (v' := .bool false) rfl (congrArg Value.bool (by decide)) ?_
  refine TL_nil ?_
  refine T_cond_false rfl ?_
  refine T_skip ?_
  refine thenS_normal ?_
  refine T_region ?_
  refine TL_y rfl rfl (Y_move rfl) ?_
  refine TL_y rfl rfl (Y_move rfl) ?_
  refine TL_y rfl rfl (Y_move rfl) ?_
  refine TL_call rfl rfl (diskDrop_spec he hk) ?_
  rintro _ _ ⟨rfl, A19, c19, rfl⟩
  refine TL_nil ?_
  refine T_region ?_
  refine TL_y rfl rfl (Y_move rfl) ?_
  refine TL_call rfl rfl (diskDone_spec) ?_
  rintro _ _ ⟨rfl, rfl⟩
  refine TL_y rfl rfl (Y_assign rfl) ?_
  refine TL_nil ?_
  refine T_ret ?_
  exact RetG_1 (.inl rfl) rfl (ResV.tmp rfl) GivesTo.g (⟨rfl, rfl⟩)
theorem diskRemove_spec {L : List HP} {b bt : Nat} {s : DkS} (k : ByteArray) (hk : k.size ≤ maxEl) : Fn Try.prog 13 #[.pointer (some ⟨b, 0, none⟩), .string k] (dk b bt s :: L) (fun v L' => v = .int .i64 (removeK s k).2 ∧ L' = dk b bt (removeK s k).1 :: L) := by
  rcases ready_cases s k with hb | ⟨ho, e, hf⟩
  · exact diskRemove_bad k hk hb
  · exact diskRemove_ok k hk ho hf
theorem diskLeft_spec {L : List HP} {b bt : Nat} {s : DkS} : Fn Try.prog 17 #[.pointer (some ⟨b, 0, none⟩)] (dk b bt s :: L) (fun v L' => v = .int .i64 (leftK s) ∧ L' = dk b bt s :: L) := by
  refine Fn_enter Try.func17 rfl rfl rfl rfl ?_
  refine T_region ?_
  refine TL_y rfl rfl (Y_assign rfl) ?_
  refine TL_nil ?_
  refine T_seq ?_
  refine T_region ?_
  refine TL_y rfl rfl (Y_move rfl) ?_
  refine TL_call rfl rfl (diskMade_spec) ?_
  rintro _ _ ⟨rfl, rfl⟩
  refine TL_name 4 (v' := .bool true) rfl (rfl) ?_
  refine TL_y rfl rfl (Y_not_t rfl) ?_
  refine TL_nil ?_
  refine T_cond_false rfl ?_
  refine T_skip ?_
  refine thenS_normal ?_
  refine T_dk fun hi => ?_
  refine T_region ?_
  refine TL_y rfl rfl (Y_move rfl) ?_
  refine TL_y rfl rfl (Y_nil_check rfl) ?_
  refine TL_y rfl rfl (Y_field_addr rfl) ?_
  refine TL_y rfl rfl (Y_load rfl rfl) ?_
  refine TL_y rfl rfl (Y_assign rfl) ?_
  refine TL_nil ?_
  refine T_ret ?_
  refine RetQ.gives (dk_close b bt s hi) ?_
  exact RetG_1 (.inl rfl) rfl (ResV.tmp rfl) GivesTo.g (⟨rfl, rfl⟩)
theorem diskStop_spec {L : List HP} {b bt : Nat} {s : DkS} (n : Int) (hn : intIn .i64 n) : Fn Try.prog 26 #[.pointer (some ⟨b, 0, none⟩), .int .i64 n] (dk b bt s :: L) (fun v L' => v = .tuple #[] ∧ L' = dk b bt (stopK s n) :: L) := by
  refine Fn_enter Try.func26 rfl rfl rfl rfl ?_
  refine T_region ?_
  refine TL_y rfl rfl (Y_move rfl) ?_
  refine TL_call rfl rfl (diskMade_spec) ?_
  rintro _ _ ⟨rfl, rfl⟩
  refine TL_name 5 (v' := .bool true) rfl (rfl) ?_
  refine TL_y rfl rfl (Y_move rfl) ?_
  refine TL_grun rfl rfl ?_
  refine TL_y rfl rfl (Y_move rfl) ?_
  refine TL_grun rfl rfl ?_
  refine TL_call rfl rfl (diskOff_spec) ?_
  rintro _ _ ⟨rfl, rfl⟩
  refine TL_grun rfl rfl ?_
  refine TL_y rfl rfl (Y_not_d rfl) ?_
  refine TL_y rfl rfl (Y_pick_t rfl rfl) ?_
  refine TL_nil ?_
  refine T_if rfl (fun h10 => ?_) (fun h10 => ?_)
  · refine T_dk fun hi => ?_
    refine T_region_last ?_
    refine TL_y rfl rfl (Y_move rfl) ?_
    refine TL_y rfl rfl (Y_move rfl) ?_
    refine TL_y rfl rfl (Y_max rfl rfl) ?_
    refine TL_y rfl rfl (Y_nil_check rfl) ?_
    refine TL_y rfl rfl (Y_field_addr rfl) ?_
    refine TL_store rfl rfl rfl rfl rfl rfl ?_
    refine TL_nil ?_
    have e : stopK s n = ⟨s.size, max n (-1), s.l⟩ := by unfold stopK; rw [if_neg h10]
    rw [e]
    refine RetQ.gives (dk_close b bt ⟨s.size, max n (-1), s.l⟩ (by have := hi.stop hn; rwa [e] at this)) ?_
    exact RetG_0 (.inr rfl) rfl GivesTo.g (⟨rfl, rfl⟩)
  · refine T_skip ?_
    have e : stopK s n = s := by unfold stopK; rw [if_pos (Classical.not_not.1 h10)]
    rw [e]
    exact RetG_0 (.inr rfl) rfl GivesTo.g (⟨rfl, rfl⟩)
theorem diskRead_none {L : List HP} {b bt : Nat} {s : DkS} (k : ByteArray) (hk : k.size ≤ maxEl) (hf : findF s.l k = none) : Fn Try.prog 16 #[.pointer (some ⟨b, 0, none⟩), .string k] (dk b bt s :: L) (fun v L' => v = .tuple #[.string ⟨#[]⟩, .int .i64 4] ∧ L' = dk b bt s :: L) := by
  refine Fn_enter Try.func16 rfl rfl rfl rfl ?_
  refine T_region ?_
  refine TL_y rfl rfl (Y_assign rfl) ?_
  refine TL_y rfl rfl (Y_assign rfl) ?_
  refine TL_nil ?_
  refine T_region ?_
  refine TL_y rfl rfl (Y_move rfl) ?_
  refine TL_y rfl rfl (Y_move rfl) ?_
  refine TL_call rfl rfl (diskFind_spec k hk) ?_
  rintro _ _ ⟨rfl, rfl⟩
  rw [hf, show fptr s.l k = .pointer none by unfold fptr; rw [hf]; rfl]
  refine TL_y rfl rfl (Y_move rfl) ?_
  refine TL_y rfl rfl (Y_extract rfl rfl) ?_
  refine TL_y rfl rfl (Y_extract rfl rfl) ?_
  refine TL_y rfl rfl (Y_assign rfl) ?_
  refine TL_y rfl rfl (Y_assign rfl) ?_
  refine TL_nil ?_
  refine T_seq ?_
  refine T_region ?_
  refine TL_y rfl rfl (Y_move rfl) ?_
  refine TL_y rfl rfl (Y_ne rfl rfl) ?_
  refine TL_name 15 (v' := .bool true) rfl (congrArg Value.bool (by decide)) ?_
  refine TL_nil ?_
  refine T_cond_true rfl ?_
  refine T_region ?_
  refine TL_y rfl rfl (Y_move rfl) ?_
  refine TL_y rfl rfl (Y_assign rfl) ?_
  refine TL_y rfl rfl (Y_assign rfl) ?_
  refine TL_nil ?_
  refine T_ret ?_
  refine thenS_ret ?_
  exact RetG_2 (.inl rfl) rfl (ResV.tmp rfl) (ResV.tmp rfl) GivesTo.g (⟨rfl, rfl⟩)
theorem diskRead_some {L : List HP} {b bt : Nat} {s : DkS} {e : FileE} (k : ByteArray) (hk : k.size ≤ maxEl) (hf : findF s.l k = some e) : Fn Try.prog 16 #[.pointer (some ⟨b, 0, none⟩), .string k] (dk b bt s :: L) (fun v L' => v = .tuple #[.string (strOfNums e.bytes), .int .i64 0] ∧ L' = dk b bt s :: L) := by
  obtain ⟨he, hen⟩ := findF_mem hf
  refine Fn_enter Try.func16 rfl rfl rfl rfl ?_
  refine T_region ?_
  refine TL_y rfl rfl (Y_assign rfl) ?_
  refine TL_y rfl rfl (Y_assign rfl) ?_
  refine TL_nil ?_
  refine T_region ?_
  refine TL_y rfl rfl (Y_move rfl) ?_
  refine TL_y rfl rfl (Y_move rfl) ?_
  refine TL_call rfl rfl (diskFind_spec k hk) ?_
  rintro _ _ ⟨rfl, rfl⟩
  rw [hf, show fptr s.l k = .pointer (some ⟨e.blk, 0, none⟩) by unfold fptr; rw [hf]; rfl]
  refine TL_y rfl rfl (Y_move rfl) ?_
  refine TL_y rfl rfl (Y_extract rfl rfl) ?_
  refine TL_y rfl rfl (Y_extract rfl rfl) ?_
  refine TL_y rfl rfl (Y_assign rfl) ?_
  refine TL_y rfl rfl (Y_assign rfl) ?_
  refine TL_nil ?_
  refine T_seq ?_
  refine T_region ?_
  refine TL_y rfl rfl (Y_move rfl) ?_
  refine TL_y rfl rfl (Y_ne rfl rfl) ?_
  refine TL_name 15 (v' := .bool false) rfl (congrArg Value.bool (by simp)) ?_
  refine TL_nil ?_
  refine T_cond_false rfl ?_
  refine T_skip ?_
  refine thenS_normal ?_
  refine T_dk fun hi => ?_
  refine T_fout hi.inc he fun A c => ?_
  refine T_region ?_
  refine TL_y rfl rfl (Y_move rfl) ?_
  refine TL_y rfl rfl (Y_nil_check rfl) ?_
  refine TL_y rfl rfl (Y_field_addr rfl) ?_
  refine TL_y rfl rfl (Y_load rfl rfl) ?_
  refine TL_y rfl rfl (Y_bytes_strN rfl sln) ?_
  refine TL_y rfl rfl (Y_assign rfl) ?_
  refine TL_y rfl rfl (Y_assign rfl) ?_
  refine TL_nil ?_
  refine T_ret ?_
  refine RetQ.gives (f_back (A := A) (c := c) hi.inc he) ?_
  refine RetQ.gives (dk_close b bt s hi) ?_
  exact RetG_2 (.inl rfl) rfl (ResV.tmp rfl) (ResV.tmp rfl) GivesTo.g (⟨rfl, rfl⟩)
theorem diskRead_spec {L : List HP} {b bt : Nat} {s : DkS} (k : ByteArray) (hk : k.size ≤ maxEl) : Fn Try.prog 16 #[.pointer (some ⟨b, 0, none⟩), .string k] (dk b bt s :: L) (fun v L' => v = .tuple #[.string (match findF s.l k with | some e => strOfNums e.bytes | none => ⟨#[]⟩), .int .i64 (if (findF s.l k).isSome then 0 else 4)] ∧ L' = dk b bt s :: L) := by
  rcases hf : findF s.l k with _ | e
  · exact diskRead_none k hk hf
  · exact diskRead_some k hk hf
end Go.SL
set_option linter.unusedVariables false
set_option linter.unusedSimpArgs false
namespace Go.SL
open Go Go.Proofs
theorem fout_gives {l : List FileE} {e : FileE} {L0 L : List HP} [hf : FindHP L (allH (l.map fH)) L0] (hi : IncF l) (he : e ∈ l) : Gives L (fH e :: allH ((delF l e.name).map fH) :: L0) := hf.g.trans ((allH_perm ((delF_perm hi he).symm.map fH)).trans allH_uncons)
/-- A file that is there gets more bytes. -/
theorem diskAppend_some {L : List HP} {b bt : Nat} {s : DkS} {e : FileE} {A0 : Option Addr} {c0 : Nat} {xs : List Int} (k : ByteArray) (hk : k.size ≤ maxEl) (blk : Nat) (hx : SlN L (intR .u8) A0 c0 xs) (hxb : ∀ x ∈ xs, 0 ≤ x ∧ x ≤ 255) (hxl : xs.length ≤ maxEl) (hf : findF s.l k = some e) : Fn Try.prog 12 #[.pointer (some ⟨b, 0, none⟩), .string k, .slice A0 xs.length c0] (dk b bt s :: L) (fun v L' => v = .int .i64 (appendK s k xs blk).2 ∧ L' = dk b bt (appendK s k xs blk).1 :: L) := by
  obtain ⟨he, hen⟩ := findF_mem hf
  have hxl2 := hxl
  simp only [maxEl] at hxl2
  refine Fn_enter Try.func12 rfl rfl rfl rfl ?_
  refine T_region ?_
  refine TL_y rfl rfl (Y_assign rfl) ?_
  refine TL_nil ?_
  refine T_seq ?_
  refine T_block ?_
  refine T_region ?_
  refine TL_y rfl rfl (Y_move rfl) ?_
  refine TL_call rfl rfl (diskMade_spec) ?_
  rintro _ _ ⟨rfl, rfl⟩
  refine TL_name 10 (v' := .bool true) rfl (rfl) ?_
  refine TL_y rfl rfl (Y_not_t rfl) ?_
  refine TL_y rfl rfl (Y_assign rfl) ?_
  refine TL_nil ?_
  refine T_cond_false rfl ?_
  refine T_region ?_
  refine TL_y rfl rfl (Y_move rfl) ?_
  refine TL_call rfl rfl (name_spec _ k hk) ?_
  rintro _ _ ⟨rfl, rfl⟩
  refine TL_y rfl rfl (Y_not_d rfl) ?_
  refine TL_y rfl rfl (Y_assign rfl) ?_
  refine TL_nil ?_
  refine T_if rfl (fun h12 => ?_) (fun h12 => ?_)
  · refine T_region ?_
    refine TL_y rfl rfl (Y_assign rfl) ?_
    refine TL_nil ?_
    refine T_ret ?_
    refine inB_ret ?_
    refine thenS_ret ?_
    rw [show appendK s k xs blk = (s, 30) by unfold appendK; rw [if_pos h12]]
    exact RetG_1 (.inl rfl) rfl (ResV.tmp rfl) GivesTo.g (⟨rfl, rfl⟩)
  · refine T_skip ?_
    refine inB_normal ?_
    refine thenS_normal ?_
    refine T_seq ?_
    refine T_region ?_
    refine TL_y rfl rfl (Y_move rfl) ?_
    refine TL_call rfl rfl (diskOff_spec) ?_
    rintro _ _ ⟨rfl, rfl⟩
    refine TL_nil ?_
    refine T_if rfl (fun h17 => ?_) (fun h17 => ?_)
    · refine T_region ?_
      refine TL_y rfl rfl (Y_assign rfl) ?_
      refine TL_nil ?_
      refine T_ret ?_
      refine thenS_ret ?_
      rw [show appendK s k xs blk = (s, 31) by unfold appendK; rw [if_neg h12, if_pos h17]]
      exact RetG_1 (.inl rfl) rfl (ResV.tmp rfl) GivesTo.g (⟨rfl, rfl⟩)
    · refine T_skip ?_
      refine thenS_normal ?_
      refine T_dk fun hi => ?_
      have hz := hi.size
      have ht := hi.tot
      have hll : leftK s = s.size - (totF s.l : Int) := rfl
      refine T_region ?_
      refine TL_y rfl rfl (Y_move rfl) ?_
      refine TL_y rfl rfl (Y_nil_check rfl) ?_
      refine TL_y rfl rfl (Y_field_addr rfl) ?_
      refine TL_y rfl rfl (Y_load rfl rfl) ?_
      refine TL_y rfl rfl (Y_move rfl) ?_
      refine TL_y rfl rfl (Y_lookup (k := k) rfl rfl hk) ?_
      refine TL_name 23 (v' := .pointer (some ⟨e.blk, 0, none⟩)) rfl (by rw [look_ptr]; unfold fptr; rw [hf]; rfl) ?_
      refine TL_y rfl rfl (Y_assign rfl) ?_
      refine TL_nil ?_
      refine T_seq ?_
      refine T_region ?_
      refine TL_y rfl rfl (Y_move rfl) ?_
      refine TL_y rfl rfl (Y_len rfl) ?_
      refine TL_y rfl rfl (Y_move rfl) ?_
      refine TL_y rfl rfl (Y_nil_check rfl) ?_
      refine TL_y rfl rfl (Y_field_addr rfl) ?_
      refine TL_y rfl rfl (Y_load rfl rfl) ?_
      refine TL_y rfl rfl (Y_gt rfl rfl) ?_
      refine TL_y rfl rfl (Y_move rfl) ?_
      refine TL_splitd 31 rfl (fun h31 => ?_) (fun h31 => ?_)
      · refine TL_gskip rfl rfl rfl rfl ?_
        refine TL_gskip rfl rfl rfl rfl ?_
        refine TL_gskip rfl rfl rfl rfl ?_
        refine TL_gskip_u rfl rfl rfl ?_
        refine TL_gskip_u rfl rfl rfl ?_
        refine TL_gskip_u rfl rfl rfl ?_
        refine TL_gskip_u rfl rfl rfl ?_
        refine TL_gskip_u rfl rfl rfl ?_
        refine TL_gskip_u rfl rfl rfl ?_
        refine TL_gskip rfl rfl rfl rfl ?_
        refine TL_y rfl rfl (Y_pick_t rfl rfl) ?_
        refine TL_nil ?_
        refine T_cond_true rfl ?_
        refine T_region ?_
        refine TL_y rfl rfl (Y_assign rfl) ?_
        refine TL_nil ?_
        refine T_ret ?_
        refine thenS_ret ?_
        rw [show appendK s k xs blk = (s, 2) by unfold appendK; rw [if_neg h12, if_neg h17, if_pos (.inl (by omega))]]
        refine RetQ.gives (dk_close b bt s hi) ?_
        exact RetG_1 (.inl rfl) rfl (ResV.tmp rfl) GivesTo.g (⟨rfl, rfl⟩)
      · refine TL_grun rfl rfl ?_
        refine TL_y rfl rfl (Y_move rfl) ?_
        refine TL_grun rfl rfl ?_
        refine TL_y rfl rfl (Y_equal rfl rfl (EqIs.ptr_nil)) ?_
        refine TL_name 33 (v' := .bool false) rfl (by simp) ?_
        refine TL_grun rfl rfl ?_
        refine TL_y rfl rfl (Y_move rfl) ?_
        refine TL_gskip rfl rfl rfl rfl ?_
        refine TL_gskip rfl rfl rfl rfl ?_
        refine TL_gskip rfl rfl rfl rfl ?_
        refine TL_gskip rfl rfl rfl rfl ?_
        refine TL_gskip rfl rfl rfl rfl ?_
        refine TL_gskip rfl rfl rfl rfl ?_
        refine TL_grun rfl rfl ?_
        refine TL_y rfl rfl (Y_pick_f rfl rfl) ?_
        refine TL_y rfl rfl (Y_pick_f rfl rfl) ?_
        refine TL_nil ?_
        refine T_cond_false rfl ?_
        refine T_skip ?_
        refine thenS_normal ?_
        refine T_seq ?_
        refine T_region ?_
        refine TL_y rfl rfl (Y_move rfl) ?_
        refine TL_y rfl rfl (Y_equal rfl rfl (EqIs.ptr_nil)) ?_
        refine TL_name 44 (v' := .bool false) rfl (by simp) ?_
        refine TL_nil ?_
        refine T_cond_false rfl ?_
        refine T_skip ?_
        refine thenS_normal ?_
        have hs : appendK s k xs blk = (doneK ⟨s.size, s.calls, putF s.l ⟨k, e.blk, e.bytes ++ xs, e.synced⟩⟩, 0) := by unfold appendK; rw [if_neg h12, if_neg h17, if_neg (by rw [hf]; simp; omega), hf]
        subst hen
        have hki : KI ⟨s.size, s.calls, putF s.l ⟨e.name, e.blk, e.bytes ++ xs, e.synced⟩⟩ := by have h8 := hi.append e.name xs blk hxb; unfold appendK at h8; rw [if_neg h12, if_neg h17, if_neg (by rw [hf]; simp; omega), hf] at h8; exact ⟨hi.size, hi.calls, h8.inc, h8.len, h8.tot, h8.ok⟩
        have hdt := delF_tot hi.inc he
        have hpt := putF_totE (e' := ⟨e.name, e.blk, e.bytes ++ xs, e.synced⟩) hi.inc he rfl
        have hfm := fmap_same (e' := ⟨e.name, e.blk, e.bytes ++ xs, e.synced⟩) hi.inc he rfl rfl
        refine T_fout hi.inc he fun A c => ?_
        refine T_region ?_
        refine TL_y rfl rfl (Y_move rfl) ?_
        refine TL_y rfl rfl (Y_move rfl) ?_
        refine TL_y rfl rfl (Y_nil_check rfl) ?_
        refine TL_y rfl rfl (Y_field_addr rfl) ?_
        refine TL_y rfl rfl (Y_load rfl rfl) ?_
        refine TL_y rfl rfl (Y_move rfl) ?_
        refine TL_append_n (R := intR .u8) rfl rfl rfl rfl rfl (SlN.of_gives GivesTo.g hx) (by omega) ?_
        intro A59 c59
        refine TL_y rfl rfl (Y_nil_check rfl) ?_
        refine TL_y rfl rfl (Y_field_addr rfl) ?_
        refine TL_store rfl rfl rfl rfl rfl rfl ?_
        refine TL_nil ?_
        refine T_region ?_
        refine TL_y rfl rfl (Y_move rfl) ?_
        refine TL_y rfl rfl (Y_nil_check rfl) ?_
        refine TL_y rfl rfl (Y_field_addr rfl) ?_
        refine TL_y rfl rfl (Y_load rfl rfl) ?_
        refine TL_y rfl rfl (Y_move rfl) ?_
        refine TL_y rfl rfl (Y_len rfl) ?_
        refine TL_y rfl rfl (Y_sub rfl rfl (by omega)) ?_
        refine TL_y rfl rfl (Y_nil_check rfl) ?_
        refine TL_y rfl rfl (Y_field_addr rfl) ?_
        refine TL_store rfl rfl rfl rfl rfl rfl ?_
        refine TL_nil ?_
        refine T_gives (f_in (A := A59) (c := c59) (l := s.l) ⟨e.name, e.blk, e.bytes ++ xs, e.synced⟩) ?_
        refine T_gives (dk_close2 b bt ⟨s.size, s.calls, putF s.l ⟨e.name, e.blk, e.bytes ++ xs, e.synced⟩⟩ (n := leftK s - (xs.length : Int)) (m := fmap s.l) (by unfold leftK; dsimp only at hpt ⊢; rw [List.length_append] at hpt; omega) hfm hki) ?_
        refine T_region ?_
        refine TL_y rfl rfl (Y_move rfl) ?_
        refine TL_call rfl rfl (diskDone_spec) ?_
        rintro _ _ ⟨rfl, rfl⟩
        refine TL_y rfl rfl (Y_assign rfl) ?_
        refine TL_nil ?_
        refine T_ret ?_
        rw [hs]
        exact RetG_1 (.inl rfl) rfl (ResV.tmp rfl) GivesTo.g (⟨rfl, rfl⟩)
theorem fmap_put2 {l : List FileE} {e1 e2 : FileE} (hn : e1.name = e2.name) (hb : e1.blk = e2.blk) : fmap (putF l e1) = fmap (putF l e2) := by
  unfold putF insW; rw [hn]; simp [fmap, hn, hb]
/-- A new file. -/
theorem diskAppend_none {L : List HP} {b bt : Nat} {s : DkS} {A0 : Option Addr} {c0 : Nat} {xs : List Int} (k : ByteArray) (hk : k.size ≤ maxEl) (hx : SlN L (intR .u8) A0 c0 xs) (hxb : ∀ x ∈ xs, 0 ≤ x ∧ x ≤ 255) (hxl : xs.length ≤ maxEl) (hf : findF s.l k = none) : Fn Try.prog 12 #[.pointer (some ⟨b, 0, none⟩), .string k, .slice A0 xs.length c0] (dk b bt s :: L) (fun v L' => ∃ blk, v = .int .i64 (appendK s k xs blk).2 ∧ L' = dk b bt (appendK s k xs blk).1 :: L) := by
  have hxl2 := hxl
  simp only [maxEl] at hxl2
  have hdn := delF_none hf
  refine Fn_enter Try.func12 rfl rfl rfl rfl ?_
  refine T_region ?_
  refine TL_y rfl rfl (Y_assign rfl) ?_
  refine TL_nil ?_
  refine T_seq ?_
  refine T_block ?_
  refine T_region ?_
  refine TL_y rfl rfl (Y_move rfl) ?_
  refine TL_call rfl rfl (diskMade_spec) ?_
  rintro _ _ ⟨rfl, rfl⟩
  refine TL_name 10 (v' := .bool true) rfl (rfl) ?_
  refine TL_y rfl rfl (Y_not_t rfl) ?_
  refine TL_y rfl rfl (Y_assign rfl) ?_
  refine TL_nil ?_
  refine T_cond_false rfl ?_
  refine T_region ?_
  refine TL_y rfl rfl (Y_move rfl) ?_
  refine TL_call rfl rfl (name_spec _ k hk) ?_
  rintro _ _ ⟨rfl, rfl⟩
  refine TL_y rfl rfl (Y_not_d rfl) ?_
  refine TL_y rfl rfl (Y_assign rfl) ?_
  refine TL_nil ?_
  refine T_if rfl (fun h12 => ?_) (fun h12 => ?_)
  · refine T_region ?_
    refine TL_y rfl rfl (Y_assign rfl) ?_
    refine TL_nil ?_
    refine T_ret ?_
    refine inB_ret ?_
    refine thenS_ret ?_
    exact RetG_1 (.inl rfl) rfl (ResV.tmp rfl) GivesTo.g (⟨0, by unfold appendK; rw [if_pos h12], by unfold appendK; rw [if_pos h12]⟩)
  · refine T_skip ?_
    refine inB_normal ?_
    refine thenS_normal ?_
    refine T_seq ?_
    refine T_region ?_
    refine TL_y rfl rfl (Y_move rfl) ?_
    refine TL_call rfl rfl (diskOff_spec) ?_
    rintro _ _ ⟨rfl, rfl⟩
    refine TL_nil ?_
    refine T_if rfl (fun h17 => ?_) (fun h17 => ?_)
    · refine T_region ?_
      refine TL_y rfl rfl (Y_assign rfl) ?_
      refine TL_nil ?_
      refine T_ret ?_
      refine thenS_ret ?_
      exact RetG_1 (.inl rfl) rfl (ResV.tmp rfl) GivesTo.g (⟨0, by unfold appendK; rw [if_neg h12, if_pos h17], by unfold appendK; rw [if_neg h12, if_pos h17]⟩)
    · refine T_skip ?_
      refine thenS_normal ?_
      refine T_dk fun hi => ?_
      have hz := hi.size
      have ht := hi.tot
      have hll : leftK s = s.size - (totF s.l : Int) := rfl
      refine T_region ?_
      refine TL_y rfl rfl (Y_move rfl) ?_
      refine TL_y rfl rfl (Y_nil_check rfl) ?_
      refine TL_y rfl rfl (Y_field_addr rfl) ?_
      refine TL_y rfl rfl (Y_load rfl rfl) ?_
      refine TL_y rfl rfl (Y_move rfl) ?_
      refine TL_y rfl rfl (Y_lookup (k := k) rfl rfl hk) ?_
      refine TL_name 23 (v' := .pointer none) rfl (by rw [look_ptr]; unfold fptr; rw [hf]; rfl) ?_
      refine TL_y rfl rfl (Y_assign rfl) ?_
      refine TL_nil ?_
      refine T_seq ?_
      refine T_region ?_
      refine TL_y rfl rfl (Y_move rfl) ?_
      refine TL_y rfl rfl (Y_len rfl) ?_
      refine TL_y rfl rfl (Y_move rfl) ?_
      refine TL_y rfl rfl (Y_nil_check rfl) ?_
      refine TL_y rfl rfl (Y_field_addr rfl) ?_
      refine TL_y rfl rfl (Y_load rfl rfl) ?_
      refine TL_both 13 42 (leftK s < (xs.length : Int) ∨ (findF s.l k = none ∧ 64 ≤ s.l.length)) ?_ ?_
      · refine TL_y rfl rfl (Y_gt rfl rfl) ?_
        refine TL_y rfl rfl (Y_move rfl) ?_
        refine TL_splitd 31 rfl (fun h31 => ?_) (fun h31 => ?_)
        · refine TL_gskip rfl rfl rfl rfl ?_
          refine TL_gskip rfl rfl rfl rfl ?_
          refine TL_gskip rfl rfl rfl rfl ?_
          refine TL_gskip_u rfl rfl rfl ?_
          refine TL_gskip_u rfl rfl rfl ?_
          refine TL_gskip_u rfl rfl rfl ?_
          refine TL_gskip_u rfl rfl rfl ?_
          refine TL_gskip_u rfl rfl rfl ?_
          refine TL_gskip_u rfl rfl rfl ?_
          refine TL_gskip rfl rfl rfl rfl ?_
          refine TL_y rfl rfl (Y_pick_t rfl rfl) ?_
          refine TL_chain_end rfl ?_ (by repeat (first | exact sub_refl | refine sub_ext rfl ?_)) GivesTo.g
          exact congrArg Value.bool (decide_eq_true (by rw [hf]; simp; omega)).symm
        · refine TL_grun rfl rfl ?_
          refine TL_y rfl rfl (Y_move rfl) ?_
          refine TL_grun rfl rfl ?_
          refine TL_y rfl rfl (Y_equal rfl rfl (EqIs.ptr_nil)) ?_
          refine TL_name 33 (v' := .bool true) rfl (by simp) ?_
          refine TL_grun rfl rfl ?_
          refine TL_y rfl rfl (Y_move rfl) ?_
          refine TL_grun rfl rfl ?_
          refine TL_y rfl rfl (Y_move rfl) ?_
          refine TL_grun rfl rfl ?_
          refine TL_y rfl rfl (Y_nil_check rfl) ?_
          refine TL_grun rfl rfl ?_
          refine TL_y rfl rfl (Y_field_addr rfl) ?_
          refine TL_grun rfl rfl ?_
          refine TL_y rfl rfl (Y_load rfl rfl) ?_
          refine TL_grun rfl rfl ?_
          refine TL_y rfl rfl (Y_len_map rfl ) ?_
          refine TL_name 39 (v' := .int .i64 (s.l.length : Int)) rfl (by simp) ?_
          refine TL_grun rfl rfl ?_
          refine TL_y rfl rfl (Y_ge rfl rfl) ?_
          refine TL_grun rfl rfl ?_
          refine TL_y rfl rfl (Y_pick_t rfl rfl) ?_
          refine TL_y rfl rfl (Y_pick_f rfl rfl) ?_
          refine TL_chain_end rfl ?_ (by repeat (first | exact sub_refl | refine sub_ext rfl ?_)) GivesTo.g
          exact congrArg Value.bool (decide_eq_decide.2 (by rw [hf]; simp; omega))
      refine TL_nil ?_
      refine T_if rfl (fun h42 => ?_) (fun h42 => ?_)
      · refine T_region ?_
        refine TL_y rfl rfl (Y_assign rfl) ?_
        refine TL_nil ?_
        refine T_ret ?_
        refine thenS_ret ?_
        refine RetQ.gives (dk_close b bt s hi) ?_
        exact RetG_1 (.inl rfl) rfl (ResV.tmp rfl) GivesTo.g (⟨0, by unfold appendK; rw [if_neg h12, if_neg h17, if_pos h42], by unfold appendK; rw [if_neg h12, if_neg h17, if_pos h42]⟩)
      · refine T_skip ?_
        refine thenS_normal ?_
        refine T_seq ?_
        refine T_region ?_
        refine TL_y rfl rfl (Y_move rfl) ?_
        refine TL_y rfl rfl (Y_equal rfl rfl (EqIs.ptr_nil)) ?_
        refine TL_name 44 (v' := .bool true) rfl (by simp) ?_
        refine TL_nil ?_
        refine T_cond_true rfl ?_
        refine T_region ?_
        refine TL_y rfl rfl (Y_build rfl rfl) ?_
        refine TL_box rfl rfl rfl ?_
        intro b46
        refine TL_y rfl rfl (Y_assign rfl) ?_
        refine TL_nil ?_
        refine T_region_last ?_
        refine TL_y rfl rfl (Y_move rfl) ?_
        refine TL_y rfl rfl (Y_nil_check rfl) ?_
        refine TL_y rfl rfl (Y_field_addr rfl) ?_
        refine TL_y rfl rfl (Y_load rfl rfl) ?_
        refine TL_y rfl rfl (Y_move rfl) ?_
        refine TL_y rfl rfl (Y_move rfl) ?_
        refine TL_update (R := fpR) (k := k) (u := b46) (cs := [.pointer (some ⟨b46, 0, none⟩)]) (fmap (putF s.l ⟨k, b46, [], 0⟩)) rfl rfl rfl hk (Knows.const (ptr_rep b46)) (put_fmap s.l ⟨k, b46, [], 0⟩) ?_
        refine TL_nil ?_
        refine thenS_normal ?_
        have hs : appendK s k xs b46 = (doneK ⟨s.size, s.calls, putF s.l ⟨k, b46, xs, 0⟩⟩, 0) := by unfold appendK; rw [if_neg h12, if_neg h17, if_neg h42, hf]
        have hki : KI ⟨s.size, s.calls, putF s.l ⟨k, b46, xs, 0⟩⟩ := by have h8 := hi.append k xs b46 hxb; rw [hs] at h8; exact ⟨hi.size, hi.calls, h8.inc, h8.len, h8.tot, h8.ok⟩
        have hpt := putF_tot (l := s.l) ⟨k, b46, xs, 0⟩
        have hfm := fmap_put2 (l := s.l) (e1 := ⟨k, b46, xs, 0⟩) (e2 := ⟨k, b46, [], 0⟩) rfl rfl
        refine T_gives (osl_nil (intR .u8) 5 none _) ?_
        refine T_region ?_
        refine TL_y rfl rfl (Y_move rfl) ?_
        refine TL_y rfl rfl (Y_move rfl) ?_
        refine TL_y rfl rfl (Y_nil_check rfl) ?_
        refine TL_y rfl rfl (Y_field_addr rfl) ?_
        refine TL_y rfl rfl (Y_load rfl rfl) ?_
        refine TL_y rfl rfl (Y_move rfl) ?_
        refine TL_append_n (R := intR .u8) (xs := []) rfl rfl rfl rfl rfl (SlN.of_gives GivesTo.g hx) (by simp; omega) ?_
        intro A59 c59
        rw [List.nil_append]
        refine TL_y rfl rfl (Y_nil_check rfl) ?_
        refine TL_y rfl rfl (Y_field_addr rfl) ?_
        refine TL_store rfl rfl rfl rfl rfl rfl ?_
        refine TL_nil ?_
        refine T_region ?_
        refine TL_y rfl rfl (Y_move rfl) ?_
        refine TL_y rfl rfl (Y_nil_check rfl) ?_
        refine TL_y rfl rfl (Y_field_addr rfl) ?_
        refine TL_y rfl rfl (Y_load rfl rfl) ?_
        refine TL_y rfl rfl (Y_move rfl) ?_
        refine TL_y rfl rfl (Y_len rfl) ?_
        refine TL_y rfl rfl (Y_sub rfl rfl (by omega)) ?_
        refine TL_y rfl rfl (Y_nil_check rfl) ?_
        refine TL_y rfl rfl (Y_field_addr rfl) ?_
        refine TL_store rfl rfl rfl rfl rfl rfl ?_
        refine TL_nil ?_
        rw [show s.l.map fH = (delF s.l k).map fH by rw [hdn]]
        refine T_gives (f_in (A := A59) (c := c59) (l := s.l) ⟨k, b46, xs, 0⟩) ?_
        refine T_gives (dk_close2 b bt ⟨s.size, s.calls, putF s.l ⟨k, b46, xs, 0⟩⟩ (n := leftK s - (xs.length : Int)) (m := fmap (putF s.l ⟨k, b46, [], 0⟩)) (by unfold leftK; dsimp only at hpt ⊢; rw [hdn] at hpt; omega) hfm hki) ?_
        refine T_region ?_
        refine TL_y rfl rfl (Y_move rfl) ?_
        refine TL_call rfl rfl (diskDone_spec) ?_
        rintro _ _ ⟨rfl, rfl⟩
        refine TL_y rfl rfl (Y_assign rfl) ?_
        refine TL_nil ?_
        refine T_ret ?_
        exact RetG_1 (.inl rfl) rfl (ResV.tmp rfl) GivesTo.g (⟨b46, by rw [hs], by rw [hs]⟩)
theorem diskAppend_spec {L : List HP} {b bt : Nat} {s : DkS} {A0 : Option Addr} {c0 : Nat} {xs : List Int} (k : ByteArray) (hk : k.size ≤ maxEl) (hx : SlN L (intR .u8) A0 c0 xs) (hxb : ∀ x ∈ xs, 0 ≤ x ∧ x ≤ 255) (hxl : xs.length ≤ maxEl) : Fn Try.prog 12 #[.pointer (some ⟨b, 0, none⟩), .string k, .slice A0 xs.length c0] (dk b bt s :: L) (fun v L' => ∃ blk, v = .int .i64 (appendK s k xs blk).2 ∧ L' = dk b bt (appendK s k xs blk).1 :: L) := by
  cases hf : findF s.l k with
  | none => exact diskAppend_none k hk hx hxb hxl hf
  | some e => exact (diskAppend_some k hk 0 hx hxb hxl hf).cases_ fun v L' h => ⟨0, h⟩
end Go.SL
