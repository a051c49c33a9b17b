/- Net: the document's net, more walks. -/
import Derived.Test.YtfmkfpgplpfkhaaNetM
set_option linter.unusedVariables false
set_option linter.unusedSimpArgs false
namespace Go.SL
open Go Go.Proofs
theorem idx_case {s : NS} (h : NI s) (k : Int) : (idxN s.L k = -1 ∧ findN s.L k = none) ∨ ∃ (i : Nat) (p : PackD), s.L[i]? = some p ∧ p.id = k ∧ idxN s.L k = (i : Int) ∧ findN s.L k = some p := by
  by_cases hk : ∃ p ∈ s.L, p.id = k
  · obtain ⟨p, hp, hpk⟩ := hk
    obtain ⟨i, hi⟩ := List.getElem?_of_mem hp
    have hlt := (List.getElem?_eq_some_iff.1 hi).1
    have he := (List.getElem?_eq_some_iff.1 hi).2
    refine .inr ⟨i, p, hi, hpk, idx_some hi hpk fun q hq => ?_⟩
    obtain ⟨j, hj, rfl⟩ := List.mem_take_iff_getElem.1 hq
    have := (List.pairwise_iff_getElem.1 h.inc) j i (by omega) hlt (by omega)
    rw [he] at this
    omega
  · exact .inl (idx_none fun p hp e => hk ⟨p, hp, e⟩)
theorem out_split {s : NS} (h : NI s) {i : Nat} {p : PackD} (hp : s.L[i]? = some p) : outN s.L p.id = s.L.take i ++ s.L.drop (i + 1) := by
  have hlt := (List.getElem?_eq_some_iff.1 hp).1
  have he := (List.getElem?_eq_some_iff.1 hp).2
  have e : s.L = s.L.take i ++ p :: s.L.drop (i + 1) := by
    conv => lhs; rw [← List.take_append_drop i s.L, List.drop_eq_getElem_cons hlt, he]
  have hpw := h.inc
  rw [e] at hpw
  obtain ⟨q1, q2, q3⟩ := List.pairwise_append.1 hpw
  conv => lhs; rw [e]
  unfold outN
  rw [List.filter_append, List.filter_cons]
  simp only [decide_true, Bool.not_true, Bool.false_eq_true, if_false]
  rw [List.filter_eq_self.2 (fun q hq => by have := q3 q hq p List.mem_cons_self; simp; omega), List.filter_eq_self.2 (fun q hq => by have := (List.pairwise_cons.1 q2).1 q hq; simp; omega)]
theorem refTwiceN_none {L : List HP} {b : Nat} {s : NS} (k : Int) (hi : idxN s.L k = -1) (hf : findN s.L k = none) : Fn Try.prog 17 #[.pointer (some ⟨b, 0, none⟩), .int .i64 k] (rn b s :: L) (fun v L' => v = .tuple #[.int .i64 (twiceS s k).2.1, .int .i64 (twiceS s k).2.2] ∧ L' = rn b (twiceS s k).1 :: L) := by
  refine Fn_enter Try.func17 rfl rfl rfl rfl ?_
  refine T_region ?_
  refine TL_y rfl rfl (Y_assign rfl) ?_
  refine TL_y rfl rfl (Y_assign rfl) ?_
  refine TL_nil ?_
  refine T_region ?_
  refine TL_y rfl rfl (Y_move rfl) ?_
  refine TL_y rfl rfl (Y_move rfl) ?_
  refine TL_call rfl rfl (refFindN_spec k) ?_
  rintro _ _ ⟨rfl, rfl⟩
  refine TL_y rfl rfl (Y_assign rfl) ?_
  refine TL_nil ?_
  refine T_seq ?_
  refine T_region ?_
  refine TL_y rfl rfl (Y_move rfl) ?_
  refine TL_y rfl rfl (Y_lt rfl rfl) ?_
  refine TL_name 11 (v' := .bool true) rfl (congrArg Value.bool (decide_eq_true (by rw [hi]; decide))) ?_
  refine TL_nil ?_
  refine T_cond_true rfl ?_
  refine T_region ?_
  refine TL_y rfl rfl (Y_assign rfl) ?_
  refine TL_y rfl rfl (Y_assign rfl) ?_
  refine TL_nil ?_
  refine T_ret ?_
  refine thenS_ret ?_
  have hs : twiceS s k = (s, 0, 4) := by unfold twiceS; rw [hf]
  rw [hs]
  exact RetG_2 (.inl rfl) rfl (ResV.tmp rfl) (ResV.tmp rfl) GivesTo.g (⟨rfl, rfl⟩)
end Go.SL
