/- The rules of the logic: a map is cloned. Nothing in this text is about one program. -/
import Derived.RowsInLaws
import Derived.Test.YtooadkecmchpaaaSlM
set_option linter.unusedVariables false
namespace Go.SL
open Go
class IsRow (P : Program) (f : FuncId) (row : outParam String) : Prop where
  run : ∀ args w, (callFunc f args).run P w = .ok (.row row args) w
theorem omap_twin {κ α : Type} [DecidableEq κ] {K : KeyT κ} {R : Rep α} {ag : Bool} {b : Nat} {m : List (κ × α)} {L : List HP} {o w : World} (h : Sat o w (omap K R ag b m :: L)) : ∃ es clock, w.heap[b]? = some (.map es clock) ∧ Sat o (w.alloc (.map es clock)) (omap K R ag w.heap.size m :: omap K R ag b m :: L) := by
  obtain ⟨M, k, hd, hM, hk, h1, h2, hd', l1, l2, ⟨es, c, l, q1, q2, q3, q4⟩, hs⟩ := h.ex
  refine ⟨es, c, hk _ _ (l1 _ _ q1), ?_⟩
  have hp : Sat o w (pers (fun M => Ents K R ag M es.toList l) (fun hM h => h.mono hM) :: omap K R ag b m :: L) := ⟨⟨M, k, hd, hM, hk, Mem.emp, k, Mem.emp_disj _, Mem.emp_le _, Mem.le_refl _, q4, h1, h2, hd', l1, l2, ⟨es, c, l, q1, q2, q3, q4⟩, hs⟩, h.os, h.tape, h.output, h.size⟩
  refine (hp.alloc (.map es c)).gives fun N m2 ⟨a1, a2, ad, m1, m3, ha, a3, a4, ad2, m4, m5, he, hs2⟩ => ?_
  exact ⟨a1, a4, Mem.disj_le ad (Mem.le_refl _) m5, m1, Mem.le_trans m5 m3, ⟨es, c, l, ha, q2, q3, he⟩, hs2⟩
end Go.SL
