/- Codec: what the rows on messages have alike. -/
import Derived.Test.YtiiejjdkhekhmaaLawCodD
set_option linter.unusedVariables false
namespace Go.SL
open Go Go.Proofs
theorem cSeal_μ (x : OrderD) : cSeal x ≤ 60 * μSeal x := by unfold cSeal μSeal; omega
theorem cVoteds_μ : ∀ l : List VotedD, cVoteds l ≤ 120 * (l.map μVoted).sum
  | [] => by simp [cVoteds]
  | v :: l => by
    have h1 := cVoteds_μ l
    have h2 := cSeal_μ v.en.order
    simp only [cVoteds, List.map_cons, List.sum_cons, cVoted, μVoted, μEntry] at h1 ⊢; omega
theorem cEvents_μ : ∀ l : List EventD, cEvents l ≤ 120 * (l.map μEvent).sum
  | [] => by simp [cEvents]
  | v :: l => by
    have h1 := cEvents_μ l
    simp only [cEvents, List.map_cons, List.sum_cons, cEvent, μEvent] at h1 ⊢; omega
theorem cMsg_small {m : MsgD} {n : Nat} (h : μMsg m ≤ n) (hn : n ≤ 1048576) : cMsg m ≤ 140737488355328 := by
  have h1 := cVoteds_μ m.voted
  have h2 := cEvents_μ m.events
  have h3 := cSeal_μ m.en.order
  unfold μMsg μEntry at h; unfold cMsg; omega
theorem cEvent_small {x : EventD} {n : Nat} (h : μEvent x ≤ n) (hn : n ≤ 1048576) : cEvent x ≤ 140737488355328 := by
  unfold μEvent at h; unfold cEvent; omega
end Go.SL
