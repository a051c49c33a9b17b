/- How the second form's bound counts. -/
import Derived.Test.YtfmkfpgplpfkhaaBri
import Derived.Test.YtfmkfpgplpfkhaaRows
import Derived.WalkKit
import Derived.JoinedCond
import Derived.Deep.CondSized
set_option linter.unusedVariables false
namespace Go.Proofs.Ytfmkfpgplpfkhaa
open Go.SL
theorem up_one {H : Type} (d : DataW H) : 1 ≤ Rows.uptoBulk d := by
  cases d with
  | lit l => cases l <;> simp [Rows.uptoBulk]
  | nil => simp [Rows.uptoBulk]
  | ptr d => simp [Rows.uptoBulk]
  | slice elems spare => simp [Rows.uptoBulk]
  | agg parts => simp [Rows.uptoBulk]
  | iface t d => simp [Rows.uptoBulk]
  | map entries => simp [Rows.uptoBulk]
  | held h => simp [Rows.uptoBulk]
theorem up_all {H : Type} : ∀ l : List (DataW H), Rows.uptoBulkAll l = (l.map Rows.uptoBulk).sum
  | [] => by simp [Rows.uptoBulkAll]
  | d :: l => by simp [Rows.uptoBulkAll, up_all l]
def upB {H : Type} : Bulk H := ⟨Rows.uptoBulk, up_one, fun b => by simp [Rows.uptoBulk], fun e s => by simp only [Rows.uptoBulk, up_all]; omega, fun ps => by simp only [Rows.uptoBulk, up_all]; omega, fun d => by simp only [Rows.uptoBulk]; omega⟩
theorem up_bound {H : Type} {l : List (DataW H)} (hk : Rows.uptoSmall H l = true) : (l.map upB.f).sum ≤ 1048576 := by
  have := of_decide_eq_true hk
  rwa [up_all] at this
end Go.Proofs.Ytfmkfpgplpfkhaa
