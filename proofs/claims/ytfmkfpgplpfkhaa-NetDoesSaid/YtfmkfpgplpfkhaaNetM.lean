/- Net: the document's net, its walks. -/
import Derived.Test.YtfmkfpgplpfkhaaNetL
set_option linter.unusedVariables false
set_option linter.unusedSimpArgs false
namespace Go.SL
open Go Go.Proofs
def idxN (l : List PackD) (k : Int) : Int := match l.findIdx? fun p => decide (p.id = k) with | some i => (i : Int) | none => -1
theorem idx_none {l : List PackD} {k : Int} (h : ∀ p ∈ l, p.id ≠ k) : idxN l k = -1 ∧ findN l k = none := by
  refine ⟨?_, List.find?_eq_none.2 fun p hp => by simpa using h p hp⟩
  unfold idxN
  rw [List.findIdx?_eq_none_iff.2 fun p hp => by simpa using h p hp]
theorem idx_some {l : List PackD} {k : Int} {i : Nat} {p : PackD} (hp : l[i]? = some p) (hk : p.id = k) (h : ∀ q ∈ l.take i, q.id ≠ k) : idxN l k = (i : Int) ∧ findN l k = some p := by
  have hlt := (List.getElem?_eq_some_iff.1 hp).1
  have he := (List.getElem?_eq_some_iff.1 hp).2
  have hbefore : ∀ (j : Nat) (hj : j < i), (l[j]'(by omega)).id ≠ k := fun j hj => h _ (by rw [List.mem_take_iff_getElem]; exact ⟨j, by omega, rfl⟩)
  refine ⟨?_, List.find?_eq_some_iff_getElem.2 ⟨by simpa using hk, i, hlt, he, fun j hj => by simpa using hbefore j hj⟩⟩
  unfold idxN
  rw [List.findIdx?_eq_some_iff_getElem.2 ⟨hlt, by rw [he]; simpa using hk, fun j hj => by simpa using hbefore j hj⟩]
theorem refFindN_spec {L : List HP} {b : Nat} {s : NS} (k : Int) : Fn Try.prog 42 #[.pointer (some ⟨b, 0, none⟩), .int .i64 k] (rn b s :: L) (fun v L' => v = .int .i64 (idxN s.L k) ∧ L' = rn b s :: L) := by
  refine Fn_enter Try.func42 rfl rfl rfl rfl ?_
  refine T_rn fun A c => ?_
  refine T_fact (Knows.tail osl_len) (fun _ h => h) fun hl => ?_
  simp only [maxEl] at hl
  refine T_region ?_
  refine TL_y rfl rfl (Y_assign rfl) ?_
  refine TL_nil ?_
  refine T_seq ?_
  refine T_region ?_
  refine TL_y rfl rfl (Y_assign rfl) ?_
  refine TL_nil ?_
  refine T_block ?_
  refine T_loopK (σ := Nat) [0, 1] (fun i => i ≤ s.L.length ∧ ∀ q ∈ s.L.take i, q.id ≠ k) (fun i kv => (5, .int .i64 (i : Int)) :: kv) (fun i => cells b [.int .i64 s.nodes, .slice A s.L.length c, .int .i64 s.last] 81 :: osl packR 36 A c s.L :: L) (fun i => s.L.length - i) (0) rfl (⟨Nat.zero_le _, by simp⟩) (GivesTo.g) (sub_cons rfl (sub_cons rfl (sub_cons rfl (sub_nil)))) ?_
  intro i hi
  refine T_seq ?_
  refine T_region ?_
  refine TL_y rfl rfl (Y_move rfl) ?_
  refine TL_y rfl rfl (Y_move rfl) ?_
  refine TL_y rfl rfl (Y_nil_check rfl) ?_
  refine TL_y rfl rfl (Y_field_addr rfl) ?_
  refine TL_y rfl rfl (Y_load rfl rfl) ?_
  refine TL_y rfl rfl (Y_len rfl) ?_
  refine TL_y rfl rfl (Y_lt rfl rfl) ?_
  refine TL_nil ?_
  refine T_if rfl (fun h12 => ?_) (fun h12 => ?_)
  · refine T_skip ?_
    refine thenS_normal ?_
    refine T_seq ?_
    refine T_block ?_
    obtain ⟨p, hp⟩ : ∃ p, s.L[i]? = some p := ⟨_, List.getElem?_eq_getElem (by omega)⟩
    have hix := fun hk => idx_some hp hk hi.2
    refine T_addr_n (sln (A := A) (c := c)) hp fun bq oq eq => ?_
    subst eq
    refine T_region ?_
    refine TL_y rfl rfl (Y_move rfl) ?_
    refine TL_y rfl rfl (Y_nil_check rfl) ?_
    refine TL_y rfl rfl (Y_field_addr rfl) ?_
    refine TL_y rfl rfl (Y_load rfl rfl) ?_
    refine TL_y rfl rfl (Y_move rfl) ?_
    refine TL_y rfl rfl (Y_index_n (R := packR) (xs := s.L) rfl rfl rfl hp) ?_
    refine TL_y rfl rfl (Y_field_addr2 rfl) ?_
    refine TL_y rfl rfl (Y_load_n (R := packR) (c := c) (xs := s.L) (q := 0) rfl sln hp rfl) ?_
    refine TL_y rfl rfl (Y_move rfl) ?_
    refine TL_y rfl rfl (Y_eq rfl rfl) ?_
    refine TL_nil ?_
    refine T_if rfl (fun h24 => ?_) (fun h24 => ?_)
    · refine T_region ?_
      refine TL_y rfl rfl (Y_move rfl) ?_
      refine TL_y rfl rfl (Y_assign rfl) ?_
      refine TL_nil ?_
      refine T_ret ?_
      refine inB_ret ?_
      refine thenS_ret ?_
      refine thenS_ret ?_
      refine inB_ret ?_
      refine thenS_ret ?_
      rw [(hix h24).1]
      refine RetQ.gives (rn_close (A := some ⟨bq, oq, none⟩) (c := c) b s) ?_
      exact RetG_1 (.inl rfl) rfl (ResV.tmp rfl) GivesTo.g (⟨rfl, rfl⟩)
    · refine T_skip ?_
      refine inB_normal ?_
      refine thenS_normal ?_
      refine T_region_last ?_
      refine TL_y rfl rfl (Y_move rfl) ?_
      refine TL_y rfl rfl (Y_add rfl rfl (by omega)) ?_
      refine TL_name 14 (v' := .int .i64 ((i + 1 : Nat) : Int)) rfl (rfl) ?_
      refine TL_y rfl rfl (Y_assign rfl) ?_
      refine TL_nil ?_
      refine thenS_normal ?_
      exact ⟨i + 1, ⟨by omega, by rw [takeN_at hp]; intro q hq; rcases List.mem_append.1 hq with h | h; exact hi.2 q h; (simp at h; subst h; exact h24)⟩, by omega, holds_to (sub_cons rfl (sub_cons rfl (sub_cons rfl (sub_nil)))) GivesTo.g⟩
  · refine T_exit ?_
    refine thenS_exit ?_
    refine thenS_exit ?_
    refine inB_hit ?_
    refine thenS_normal ?_
    refine T_region ?_
    refine TL_y rfl rfl (Y_assign rfl) ?_
    refine TL_nil ?_
    refine T_ret ?_
    have hn := (idx_none (l := s.L) (k := k) (by have := hi.2; rwa [List.take_of_length_le (by omega)] at this)).1
    rw [hn]
    refine RetQ.gives (rn_close (A := A) (c := c) b s) ?_
    exact RetG_1 (.inl rfl) rfl (ResV.tmp rfl) GivesTo.g (⟨rfl, rfl⟩)
end Go.SL
