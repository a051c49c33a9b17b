/-
  No cell of these rows narrows 'for every input' (looked for: loops, veiled, ifaces, maps, wideKeys, modest, calm, conditions, laid).
  DERIVED. THE GIVEN ROWS OF THIS SEAT. 14 by the template 'for every input the law returns true; each argument reads behind the call as it read before'; 0 by the template 'total and deterministic' (their statements: YtcpknfcckekhdaaTotals.lean).
  GIVEN WITH THE SEED: the statements are not yours to turn. If you find one false, say at which input.
  Laid BY PROGRAM, IN A SANDBOX (cutbox-rows.mjs): the forced cells as the released guide's own fill.sh prints them over the translation 5140bc9c67e1e3af… (all of the seat's roots in one cut). By AI agents, Wed Nov 11 2026. No macro, syntax, notation, axiom, sorry.
-/
import Derived.Test.YtcpknfcckekhdaaChecked
import GoSem.Claim
import GoSem.ClaimJoined
import GoSem.ClaimMapViews
import Derived.JoinedTies
import Derived.KernelRfl
namespace Go.Proofs.Ytcpknfcckekhdaa
/- THE CELL 'sum', in the pinned program and in every row, IS THE sha256 OF THE DUMP (.gsa) THAT YtcpknfcckekhdaaProg.lean LOADS. Nothing in Lean hashes anything: it is a label: what it is worth is what the hold of that sum in a sandbox is worth. -/
noncomputable def Try.pinned : Pinned := { name := "ytcpknfcckekhdaa", sum := "5140bc9c67e1e3af06eb00468714aa207829441ea7eba2b02070412464fe174a", checked := Try.checked }
namespace Rows
def none {H : Type} : Left H := { results := [], args := [] }

/-- 'pannierlaw19.SealAgain': WHATEVER THE INPUT: true; the input reads as it did. -/
def sealAgainSpec : ChangeSpec := { name := "sealAgain", fn := fun _ => fun
  | [d] => { results := [.lit (.bool true)], args := [d] }
  | _ => none }
def sealAgainRow : OpenClaim := { program := "ytcpknfcckekhdaa", sum := "5140bc9c67e1e3af06eb00468714aa207829441ea7eba2b02070412464fe174a", func := "pannier/pannierlaw19.SealAgain", spec := "sealAgain", unfollowed := true, recurses := true, apart := false }
def SealAgainSaid : Prop := sealAgainRow.holds Try.pinned (OpenSpec.ofChange sealAgainSpec)

/-- ITS FALSE NEIGHBOUR: 'it returns false'. Refute it at one input. -/
def sealAgainWrong : ChangeSpec := { name := "sealAgain", fn := fun _ => fun
  | [d] => { results := [.lit (.bool false)], args := [d] }
  | _ => none }
def SealAgainWrongFalsely : Prop := sealAgainRow.holds Try.pinned (OpenSpec.ofChange sealAgainWrong)

/-- 'pannierlaw19.SealCounts': WHATEVER THE INPUT: true; the input reads as it did. -/
def sealCountsSpec : ChangeSpec := { name := "sealCounts", fn := fun _ => fun
  | [d1, d2] => { results := [.lit (.bool true)], args := [d1, d2] }
  | _ => none }
def sealCountsRow : OpenClaim := { program := "ytcpknfcckekhdaa", sum := "5140bc9c67e1e3af06eb00468714aa207829441ea7eba2b02070412464fe174a", func := "pannier/pannierlaw19.SealCounts", spec := "sealCounts", unfollowed := true, recurses := true, apart := false }
def SealCountsSaid : Prop := sealCountsRow.holds Try.pinned (OpenSpec.ofChange sealCountsSpec)

/-- ITS FALSE NEIGHBOUR: 'it returns false'. Refute it at one input. -/
def sealCountsWrong : ChangeSpec := { name := "sealCounts", fn := fun _ => fun
  | [d1, d2] => { results := [.lit (.bool false)], args := [d1, d2] }
  | _ => none }
def SealCountsWrongFalsely : Prop := sealCountsRow.holds Try.pinned (OpenSpec.ofChange sealCountsWrong)

/-- 'pannierlaw19.SealFollows': WHATEVER THE INPUT: true; the input reads as it did. -/
def sealFollowsSpec : ChangeSpec := { name := "sealFollows", fn := fun _ => fun
  | [d] => { results := [.lit (.bool true)], args := [d] }
  | _ => none }
def sealFollowsRow : OpenClaim := { program := "ytcpknfcckekhdaa", sum := "5140bc9c67e1e3af06eb00468714aa207829441ea7eba2b02070412464fe174a", func := "pannier/pannierlaw19.SealFollows", spec := "sealFollows", unfollowed := true, recurses := true, apart := false }
def SealFollowsSaid : Prop := sealFollowsRow.holds Try.pinned (OpenSpec.ofChange sealFollowsSpec)

/-- ITS FALSE NEIGHBOUR: 'it returns false'. Refute it at one input. -/
def sealFollowsWrong : ChangeSpec := { name := "sealFollows", fn := fun _ => fun
  | [d] => { results := [.lit (.bool false)], args := [d] }
  | _ => none }
def SealFollowsWrongFalsely : Prop := sealFollowsRow.holds Try.pinned (OpenSpec.ofChange sealFollowsWrong)

/-- 'pannierlaw19.SealDoes': WHATEVER THE INPUT: true; the input reads as it did. -/
def sealDoesSpec : ChangeSpec := { name := "sealDoes", fn := fun _ => fun
  | [d1, d2, d3, d4] => { results := [.lit (.bool true)], args := [d1, d2, d3, d4] }
  | _ => none }
def sealDoesRow : OpenClaim := { program := "ytcpknfcckekhdaa", sum := "5140bc9c67e1e3af06eb00468714aa207829441ea7eba2b02070412464fe174a", func := "pannier/pannierlaw19.SealDoes", spec := "sealDoes", unfollowed := true, recurses := true, apart := false }
def SealDoesSaid : Prop := sealDoesRow.holds Try.pinned (OpenSpec.ofChange sealDoesSpec)

/-- ITS FALSE NEIGHBOUR: 'it returns false'. Refute it at one input. -/
def sealDoesWrong : ChangeSpec := { name := "sealDoes", fn := fun _ => fun
  | [d1, d2, d3, d4] => { results := [.lit (.bool false)], args := [d1, d2, d3, d4] }
  | _ => none }
def SealDoesWrongFalsely : Prop := sealDoesRow.holds Try.pinned (OpenSpec.ofChange sealDoesWrong)

/-- 'pannierlaw19.SealNobody': WHATEVER THE INPUT: true; the input reads as it did. -/
def sealNobodySpec : ChangeSpec := { name := "sealNobody", fn := fun _ => fun
  | [d1, d2] => { results := [.lit (.bool true)], args := [d1, d2] }
  | _ => none }
def sealNobodyRow : OpenClaim := { program := "ytcpknfcckekhdaa", sum := "5140bc9c67e1e3af06eb00468714aa207829441ea7eba2b02070412464fe174a", func := "pannier/pannierlaw19.SealNobody", spec := "sealNobody", unfollowed := true, recurses := true, apart := false }
def SealNobodySaid : Prop := sealNobodyRow.holds Try.pinned (OpenSpec.ofChange sealNobodySpec)

/-- ITS FALSE NEIGHBOUR: 'it returns false'. Refute it at one input. -/
def sealNobodyWrong : ChangeSpec := { name := "sealNobody", fn := fun _ => fun
  | [d1, d2] => { results := [.lit (.bool false)], args := [d1, d2] }
  | _ => none }
def SealNobodyWrongFalsely : Prop := sealNobodyRow.holds Try.pinned (OpenSpec.ofChange sealNobodyWrong)

/-- 'pannierlaw04.NetIds': WHATEVER THE INPUT: true; the input reads as it did. -/
def netIdsSpec : ChangeSpec := { name := "netIds", fn := fun _ => fun
  | [d] => { results := [.lit (.bool true)], args := [d] }
  | _ => none }
def netIdsRow : OpenClaim := { program := "ytcpknfcckekhdaa", sum := "5140bc9c67e1e3af06eb00468714aa207829441ea7eba2b02070412464fe174a", func := "pannier/pannierlaw04.NetIds", spec := "netIds", unfollowed := true, recurses := true, apart := false }
def NetIdsSaid : Prop := netIdsRow.holds Try.pinned (OpenSpec.ofChange netIdsSpec)

/-- ITS FALSE NEIGHBOUR: 'it returns false'. Refute it at one input. -/
def netIdsWrong : ChangeSpec := { name := "netIds", fn := fun _ => fun
  | [d] => { results := [.lit (.bool false)], args := [d] }
  | _ => none }
def NetIdsWrongFalsely : Prop := netIdsRow.holds Try.pinned (OpenSpec.ofChange netIdsWrong)

/-- 'pannierlaw04.NetBag': WHATEVER THE INPUT: true; the input reads as it did. -/
def netBagSpec : ChangeSpec := { name := "netBag", fn := fun _ => fun
  | [d1, d2] => { results := [.lit (.bool true)], args := [d1, d2] }
  | _ => none }
def netBagRow : OpenClaim := { program := "ytcpknfcckekhdaa", sum := "5140bc9c67e1e3af06eb00468714aa207829441ea7eba2b02070412464fe174a", func := "pannier/pannierlaw04.NetBag", spec := "netBag", unfollowed := true, recurses := true, apart := false }
def NetBagSaid : Prop := netBagRow.holds Try.pinned (OpenSpec.ofChange netBagSpec)

/-- ITS FALSE NEIGHBOUR: 'it returns false'. Refute it at one input. -/
def netBagWrong : ChangeSpec := { name := "netBag", fn := fun _ => fun
  | [d1, d2] => { results := [.lit (.bool false)], args := [d1, d2] }
  | _ => none }
def NetBagWrongFalsely : Prop := netBagRow.holds Try.pinned (OpenSpec.ofChange netBagWrong)

/-- 'pannierlaw04.NetDoes': WHATEVER THE INPUT: true; the input reads as it did. -/
def netDoesSpec : ChangeSpec := { name := "netDoes", fn := fun _ => fun
  | [d1, d2] => { results := [.lit (.bool true)], args := [d1, d2] }
  | _ => none }
def netDoesRow : OpenClaim := { program := "ytcpknfcckekhdaa", sum := "5140bc9c67e1e3af06eb00468714aa207829441ea7eba2b02070412464fe174a", func := "pannier/pannierlaw04.NetDoes", spec := "netDoes", inPlace := ["maps.clone"], unfollowed := true, recurses := true, apart := false }
def NetDoesSaid : Prop := netDoesRow.holds Try.pinned (OpenSpec.ofChange netDoesSpec)

/-- ITS FALSE NEIGHBOUR: 'it returns false'. Refute it at one input. -/
def netDoesWrong : ChangeSpec := { name := "netDoes", fn := fun _ => fun
  | [d1, d2] => { results := [.lit (.bool false)], args := [d1, d2] }
  | _ => none }
def NetDoesWrongFalsely : Prop := netDoesRow.holds Try.pinned (OpenSpec.ofChange netDoesWrong)

/-- 'pannierlaw04.NetNobody': WHATEVER THE INPUT: true; the input reads as it did. -/
def netNobodySpec : ChangeSpec := { name := "netNobody", fn := fun _ => fun
  | [d] => { results := [.lit (.bool true)], args := [d] }
  | _ => none }
def netNobodyRow : OpenClaim := { program := "ytcpknfcckekhdaa", sum := "5140bc9c67e1e3af06eb00468714aa207829441ea7eba2b02070412464fe174a", func := "pannier/pannierlaw04.NetNobody", spec := "netNobody", inPlace := ["maps.clone"], unfollowed := true, recurses := true, apart := false }
def NetNobodySaid : Prop := netNobodyRow.holds Try.pinned (OpenSpec.ofChange netNobodySpec)

/-- ITS FALSE NEIGHBOUR: 'it returns false'. Refute it at one input. -/
def netNobodyWrong : ChangeSpec := { name := "netNobody", fn := fun _ => fun
  | [d] => { results := [.lit (.bool false)], args := [d] }
  | _ => none }
def NetNobodyWrongFalsely : Prop := netNobodyRow.holds Try.pinned (OpenSpec.ofChange netNobodyWrong)

/-- 'pannierlaw18.LearnerGrows': WHATEVER THE INPUT: true; the input reads as it did. -/
def learnerGrowsSpec : ChangeSpec := { name := "learnerGrows", fn := fun _ => fun
  | [d] => { results := [.lit (.bool true)], args := [d] }
  | _ => none }
def learnerGrowsRow : OpenClaim := { program := "ytcpknfcckekhdaa", sum := "5140bc9c67e1e3af06eb00468714aa207829441ea7eba2b02070412464fe174a", func := "pannier/pannierlaw18.LearnerGrows", spec := "learnerGrows", unfollowed := true, recurses := true, apart := false }
def LearnerGrowsSaid : Prop := learnerGrowsRow.holds Try.pinned (OpenSpec.ofChange learnerGrowsSpec)

/-- ITS FALSE NEIGHBOUR: 'it returns false'. Refute it at one input. -/
def learnerGrowsWrong : ChangeSpec := { name := "learnerGrows", fn := fun _ => fun
  | [d] => { results := [.lit (.bool false)], args := [d] }
  | _ => none }
def LearnerGrowsWrongFalsely : Prop := learnerGrowsRow.holds Try.pinned (OpenSpec.ofChange learnerGrowsWrong)

/-- 'pannierlaw18.LearnerOrder': WHATEVER THE INPUT: true; the input reads as it did. -/
def learnerOrderSpec : ChangeSpec := { name := "learnerOrder", fn := fun _ => fun
  | [d1, d2] => { results := [.lit (.bool true)], args := [d1, d2] }
  | _ => none }
def learnerOrderRow : OpenClaim := { program := "ytcpknfcckekhdaa", sum := "5140bc9c67e1e3af06eb00468714aa207829441ea7eba2b02070412464fe174a", func := "pannier/pannierlaw18.LearnerOrder", spec := "learnerOrder", unfollowed := true, recurses := true, apart := false }
def LearnerOrderSaid : Prop := learnerOrderRow.holds Try.pinned (OpenSpec.ofChange learnerOrderSpec)

/-- ITS FALSE NEIGHBOUR: 'it returns false'. Refute it at one input. -/
def learnerOrderWrong : ChangeSpec := { name := "learnerOrder", fn := fun _ => fun
  | [d1, d2] => { results := [.lit (.bool false)], args := [d1, d2] }
  | _ => none }
def LearnerOrderWrongFalsely : Prop := learnerOrderRow.holds Try.pinned (OpenSpec.ofChange learnerOrderWrong)

/-- 'pannierlaw18.LearnerGaps': WHATEVER THE INPUT: true; the input reads as it did. -/
def learnerGapsSpec : ChangeSpec := { name := "learnerGaps", fn := fun _ => fun
  | [d] => { results := [.lit (.bool true)], args := [d] }
  | _ => none }
def learnerGapsRow : OpenClaim := { program := "ytcpknfcckekhdaa", sum := "5140bc9c67e1e3af06eb00468714aa207829441ea7eba2b02070412464fe174a", func := "pannier/pannierlaw18.LearnerGaps", spec := "learnerGaps", unfollowed := true, recurses := true, apart := false }
def LearnerGapsSaid : Prop := learnerGapsRow.holds Try.pinned (OpenSpec.ofChange learnerGapsSpec)

/-- ITS FALSE NEIGHBOUR: 'it returns false'. Refute it at one input. -/
def learnerGapsWrong : ChangeSpec := { name := "learnerGaps", fn := fun _ => fun
  | [d] => { results := [.lit (.bool false)], args := [d] }
  | _ => none }
def LearnerGapsWrongFalsely : Prop := learnerGapsRow.holds Try.pinned (OpenSpec.ofChange learnerGapsWrong)

/-- 'pannierlaw18.LearnerDoes': WHATEVER THE INPUT: true; the input reads as it did. -/
def learnerDoesSpec : ChangeSpec := { name := "learnerDoes", fn := fun _ => fun
  | [d1, d2, d3] => { results := [.lit (.bool true)], args := [d1, d2, d3] }
  | _ => none }
def learnerDoesRow : OpenClaim := { program := "ytcpknfcckekhdaa", sum := "5140bc9c67e1e3af06eb00468714aa207829441ea7eba2b02070412464fe174a", func := "pannier/pannierlaw18.LearnerDoes", spec := "learnerDoes", inPlace := ["maps.clone"], unfollowed := true, recurses := true, apart := false }
def LearnerDoesSaid : Prop := learnerDoesRow.holds Try.pinned (OpenSpec.ofChange learnerDoesSpec)

/-- ITS FALSE NEIGHBOUR: 'it returns false'. Refute it at one input. -/
def learnerDoesWrong : ChangeSpec := { name := "learnerDoes", fn := fun _ => fun
  | [d1, d2, d3] => { results := [.lit (.bool false)], args := [d1, d2, d3] }
  | _ => none }
def LearnerDoesWrongFalsely : Prop := learnerDoesRow.holds Try.pinned (OpenSpec.ofChange learnerDoesWrong)

/-- 'pannierlaw18.LearnerNobody': WHATEVER THE INPUT: true; the input reads as it did. -/
def learnerNobodySpec : ChangeSpec := { name := "learnerNobody", fn := fun _ => fun
  | [d1, d2] => { results := [.lit (.bool true)], args := [d1, d2] }
  | _ => none }
def learnerNobodyRow : OpenClaim := { program := "ytcpknfcckekhdaa", sum := "5140bc9c67e1e3af06eb00468714aa207829441ea7eba2b02070412464fe174a", func := "pannier/pannierlaw18.LearnerNobody", spec := "learnerNobody", inPlace := ["maps.clone"], unfollowed := true, recurses := true, apart := false }
def LearnerNobodySaid : Prop := learnerNobodyRow.holds Try.pinned (OpenSpec.ofChange learnerNobodySpec)

/-- ITS FALSE NEIGHBOUR: 'it returns false'. Refute it at one input. -/
def learnerNobodyWrong : ChangeSpec := { name := "learnerNobody", fn := fun _ => fun
  | [d1, d2] => { results := [.lit (.bool false)], args := [d1, d2] }
  | _ => none }
def LearnerNobodyWrongFalsely : Prop := learnerNobodyRow.holds Try.pinned (OpenSpec.ofChange learnerNobodyWrong)

/- THE SECOND FORM. 'bulk': how many values and letters a reading holds, each counted each time it is reached (what is shared counts as often as it is met; a slice's spare places count too). A statement '..UptoSaid' is the law's where the arguments, and the package variables that the reading takes, are together of bulk at most 1048576: NARROWER than '..Said'. Prove '..Said' where nothing that the law and all that it calls make is longer than what came in: it says more and counts as full. Else prove '..UptoSaid'. A law counts once. -/
mutual
def uptoBulk {H : Type} : DataW H → Nat
  | .lit (.string bytes) => bytes.length + 1
  | .lit _ => 1
  | .nil => 1
  | .ptr d => uptoBulk d + 1
  | .slice elems spare => uptoBulkAll elems + uptoBulkAll spare + 1
  | .agg parts => uptoBulkAll parts + 1
  | .iface _ d => uptoBulk d + 1
  | .map entries => uptoBulkEntries entries + 1
  | .held _ => 1
def uptoBulkAll {H : Type} : List (DataW H) → Nat
  | [] => 0
  | d :: r => uptoBulk d + uptoBulkAll r
def uptoBulkEntries {H : Type} : List (Lit × DataW H) → Nat
  | [] => 0
  | x :: r => uptoBulkEntry x + uptoBulkEntries r
def uptoBulkEntry {H : Type} : Lit × DataW H → Nat
  | (.string bytes, d) => bytes.length + uptoBulk d + 1
  | (_, d) => uptoBulk d + 1
 end
def uptoSmall : (H : Type) → List (DataW H) → Bool := fun _ ds => decide (uptoBulkAll ds ≤ 1048576)
def OpenSpec.upto (s : _root_.Go.ChangeSpec) : _root_.Go.OpenSpec := { _root_.Go.OpenSpec.ofChange s with cond := some uptoSmall }

/-- 'pannierlaw19.SealAgain', WHERE WHAT IT READS IS OF BULK AT MOST 1048576: true; the input reads as it did. -/
def sealAgainUptoRow : OpenClaim := { program := "ytcpknfcckekhdaa", sum := "5140bc9c67e1e3af06eb00468714aa207829441ea7eba2b02070412464fe174a", func := "pannier/pannierlaw19.SealAgain", spec := "sealAgain", unfollowed := true, recurses := true, apart := false, narrowed := true }
def SealAgainUptoSaid : Prop := sealAgainUptoRow.holds Try.pinned (OpenSpec.upto sealAgainSpec)

/-- 'pannierlaw19.SealCounts', WHERE WHAT IT READS IS OF BULK AT MOST 1048576: true; the input reads as it did. -/
def sealCountsUptoRow : OpenClaim := { program := "ytcpknfcckekhdaa", sum := "5140bc9c67e1e3af06eb00468714aa207829441ea7eba2b02070412464fe174a", func := "pannier/pannierlaw19.SealCounts", spec := "sealCounts", unfollowed := true, recurses := true, apart := false, narrowed := true }
def SealCountsUptoSaid : Prop := sealCountsUptoRow.holds Try.pinned (OpenSpec.upto sealCountsSpec)

/-- 'pannierlaw19.SealFollows', WHERE WHAT IT READS IS OF BULK AT MOST 1048576: true; the input reads as it did. -/
def sealFollowsUptoRow : OpenClaim := { program := "ytcpknfcckekhdaa", sum := "5140bc9c67e1e3af06eb00468714aa207829441ea7eba2b02070412464fe174a", func := "pannier/pannierlaw19.SealFollows", spec := "sealFollows", unfollowed := true, recurses := true, apart := false, narrowed := true }
def SealFollowsUptoSaid : Prop := sealFollowsUptoRow.holds Try.pinned (OpenSpec.upto sealFollowsSpec)

/-- 'pannierlaw19.SealDoes', WHERE WHAT IT READS IS OF BULK AT MOST 1048576: true; the input reads as it did. -/
def sealDoesUptoRow : OpenClaim := { program := "ytcpknfcckekhdaa", sum := "5140bc9c67e1e3af06eb00468714aa207829441ea7eba2b02070412464fe174a", func := "pannier/pannierlaw19.SealDoes", spec := "sealDoes", unfollowed := true, recurses := true, apart := false, narrowed := true }
def SealDoesUptoSaid : Prop := sealDoesUptoRow.holds Try.pinned (OpenSpec.upto sealDoesSpec)

/-- 'pannierlaw19.SealNobody', WHERE WHAT IT READS IS OF BULK AT MOST 1048576: true; the input reads as it did. -/
def sealNobodyUptoRow : OpenClaim := { program := "ytcpknfcckekhdaa", sum := "5140bc9c67e1e3af06eb00468714aa207829441ea7eba2b02070412464fe174a", func := "pannier/pannierlaw19.SealNobody", spec := "sealNobody", unfollowed := true, recurses := true, apart := false, narrowed := true }
def SealNobodyUptoSaid : Prop := sealNobodyUptoRow.holds Try.pinned (OpenSpec.upto sealNobodySpec)

/-- 'pannierlaw04.NetIds', WHERE WHAT IT READS IS OF BULK AT MOST 1048576: true; the input reads as it did. -/
def netIdsUptoRow : OpenClaim := { program := "ytcpknfcckekhdaa", sum := "5140bc9c67e1e3af06eb00468714aa207829441ea7eba2b02070412464fe174a", func := "pannier/pannierlaw04.NetIds", spec := "netIds", unfollowed := true, recurses := true, apart := false, narrowed := true }
def NetIdsUptoSaid : Prop := netIdsUptoRow.holds Try.pinned (OpenSpec.upto netIdsSpec)

/-- 'pannierlaw04.NetBag', WHERE WHAT IT READS IS OF BULK AT MOST 1048576: true; the input reads as it did. -/
def netBagUptoRow : OpenClaim := { program := "ytcpknfcckekhdaa", sum := "5140bc9c67e1e3af06eb00468714aa207829441ea7eba2b02070412464fe174a", func := "pannier/pannierlaw04.NetBag", spec := "netBag", unfollowed := true, recurses := true, apart := false, narrowed := true }
def NetBagUptoSaid : Prop := netBagUptoRow.holds Try.pinned (OpenSpec.upto netBagSpec)

/-- 'pannierlaw04.NetDoes', WHERE WHAT IT READS IS OF BULK AT MOST 1048576: true; the input reads as it did. -/
def netDoesUptoRow : OpenClaim := { program := "ytcpknfcckekhdaa", sum := "5140bc9c67e1e3af06eb00468714aa207829441ea7eba2b02070412464fe174a", func := "pannier/pannierlaw04.NetDoes", spec := "netDoes", inPlace := ["maps.clone"], unfollowed := true, recurses := true, apart := false, narrowed := true }
def NetDoesUptoSaid : Prop := netDoesUptoRow.holds Try.pinned (OpenSpec.upto netDoesSpec)

/-- 'pannierlaw04.NetNobody', WHERE WHAT IT READS IS OF BULK AT MOST 1048576: true; the input reads as it did. -/
def netNobodyUptoRow : OpenClaim := { program := "ytcpknfcckekhdaa", sum := "5140bc9c67e1e3af06eb00468714aa207829441ea7eba2b02070412464fe174a", func := "pannier/pannierlaw04.NetNobody", spec := "netNobody", inPlace := ["maps.clone"], unfollowed := true, recurses := true, apart := false, narrowed := true }
def NetNobodyUptoSaid : Prop := netNobodyUptoRow.holds Try.pinned (OpenSpec.upto netNobodySpec)

/-- 'pannierlaw18.LearnerGrows', WHERE WHAT IT READS IS OF BULK AT MOST 1048576: true; the input reads as it did. -/
def learnerGrowsUptoRow : OpenClaim := { program := "ytcpknfcckekhdaa", sum := "5140bc9c67e1e3af06eb00468714aa207829441ea7eba2b02070412464fe174a", func := "pannier/pannierlaw18.LearnerGrows", spec := "learnerGrows", unfollowed := true, recurses := true, apart := false, narrowed := true }
def LearnerGrowsUptoSaid : Prop := learnerGrowsUptoRow.holds Try.pinned (OpenSpec.upto learnerGrowsSpec)

/-- 'pannierlaw18.LearnerOrder', WHERE WHAT IT READS IS OF BULK AT MOST 1048576: true; the input reads as it did. -/
def learnerOrderUptoRow : OpenClaim := { program := "ytcpknfcckekhdaa", sum := "5140bc9c67e1e3af06eb00468714aa207829441ea7eba2b02070412464fe174a", func := "pannier/pannierlaw18.LearnerOrder", spec := "learnerOrder", unfollowed := true, recurses := true, apart := false, narrowed := true }
def LearnerOrderUptoSaid : Prop := learnerOrderUptoRow.holds Try.pinned (OpenSpec.upto learnerOrderSpec)

/-- 'pannierlaw18.LearnerGaps', WHERE WHAT IT READS IS OF BULK AT MOST 1048576: true; the input reads as it did. -/
def learnerGapsUptoRow : OpenClaim := { program := "ytcpknfcckekhdaa", sum := "5140bc9c67e1e3af06eb00468714aa207829441ea7eba2b02070412464fe174a", func := "pannier/pannierlaw18.LearnerGaps", spec := "learnerGaps", unfollowed := true, recurses := true, apart := false, narrowed := true }
def LearnerGapsUptoSaid : Prop := learnerGapsUptoRow.holds Try.pinned (OpenSpec.upto learnerGapsSpec)

/-- 'pannierlaw18.LearnerDoes', WHERE WHAT IT READS IS OF BULK AT MOST 1048576: true; the input reads as it did. -/
def learnerDoesUptoRow : OpenClaim := { program := "ytcpknfcckekhdaa", sum := "5140bc9c67e1e3af06eb00468714aa207829441ea7eba2b02070412464fe174a", func := "pannier/pannierlaw18.LearnerDoes", spec := "learnerDoes", inPlace := ["maps.clone"], unfollowed := true, recurses := true, apart := false, narrowed := true }
def LearnerDoesUptoSaid : Prop := learnerDoesUptoRow.holds Try.pinned (OpenSpec.upto learnerDoesSpec)

/-- 'pannierlaw18.LearnerNobody', WHERE WHAT IT READS IS OF BULK AT MOST 1048576: true; the input reads as it did. -/
def learnerNobodyUptoRow : OpenClaim := { program := "ytcpknfcckekhdaa", sum := "5140bc9c67e1e3af06eb00468714aa207829441ea7eba2b02070412464fe174a", func := "pannier/pannierlaw18.LearnerNobody", spec := "learnerNobody", inPlace := ["maps.clone"], unfollowed := true, recurses := true, apart := false, narrowed := true }
def LearnerNobodyUptoSaid : Prop := learnerNobodyUptoRow.holds Try.pinned (OpenSpec.upto learnerNobodySpec)

end Rows
end Go.Proofs.Ytcpknfcckekhdaa
