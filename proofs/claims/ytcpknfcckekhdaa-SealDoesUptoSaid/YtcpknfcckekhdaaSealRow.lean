/- Seal: what the rows of the laws have alike. -/
import Derived.Test.YtcpknfcckekhdaaSealF
import Derived.Test.YtcpknfcckekhdaaReadA
set_option linter.unusedVariables false
namespace Go.SL
open Go Go.Proofs
theorem sum_mem {α : Type} {μ : α → Nat} : ∀ {l : List α} {x : α}, x ∈ l → μ x ≤ (l.map μ).sum
  | y :: l, x, h => by
    rw [List.map_cons, List.sum_cons]
    rcases List.mem_cons.1 h with rfl | h
    · omega
    · have := sum_mem (μ := μ) h; omega
theorem cSeal_small {e : EntryD} {n : Nat} (h : μEntry e ≤ n) (hn : n ≤ 1048576) : cSeal e.order ≤ 140737488355000 := by
  unfold μEntry μSeal at h; unfold cSeal; omega
theorem seal_limits {l : List EntryD} (h : (l.map μEntry).sum ≤ 1048576) : SLimits l := by
  refine ⟨?_, fun e he => ?_⟩
  · have := sum_ge (μ := μEntry) (fun x => by unfold μEntry; omega) l; omega
  · have := sum_mem (μ := μEntry) he; exact cSeal_small this h
end Go.SL
