/-
  No cell of these rows narrows 'for every input' (looked for: loops, veiled, ifaces, maps, wideKeys, modest, calm, conditions, laid).
  DERIVED. THE GIVEN ROWS OF THIS SEAT. 6 by the template 'for every input the law returns true; each argument reads behind the call as it read before'; 0 by the template 'total and deterministic' (their statements: YtfmkfpgplpfkhaaTotals.lean).
  GIVEN WITH THE SEED: the statements are not yours to turn. If you find one false, say at which input.
  Laid BY PROGRAM, IN A SANDBOX (cutbox-rows.mjs): the forced cells as the released guide's own fill.sh prints them over the translation 5d8f87829c6720da… (all of the seat's roots in one cut). By AI agents, Wed Nov 11 2026. No macro, syntax, notation, axiom, sorry.
-/
import Derived.Test.YtfmkfpgplpfkhaaChecked
import GoSem.Claim
import GoSem.ClaimJoined
import GoSem.ClaimMapViews
import Derived.JoinedTies
import Derived.KernelRfl
namespace Go.Proofs.Ytfmkfpgplpfkhaa
/- THE CELL 'sum', in the pinned program and in every row, IS THE sha256 OF THE DUMP (.gsa) THAT YtfmkfpgplpfkhaaProg.lean LOADS. Nothing in Lean hashes anything: it is a label: what it is worth is what the hold of that sum in a sandbox is worth. -/
noncomputable def Try.pinned : Pinned := { name := "ytfmkfpgplpfkhaa", sum := "5d8f87829c6720da00b57632a713fee4c2b5fbbf88de32d07dfa4193c3943dca", checked := Try.checked }
namespace Rows
def none {H : Type} : Left H := { results := [], args := [] }

/-- 'pannierlaw04.NetDoes': WHATEVER THE INPUT: true; the input reads as it did. -/
def netDoesSpec : ChangeSpec := { name := "netDoes", fn := fun _ => fun
  | [d1, d2] => { results := [.lit (.bool true)], args := [d1, d2] }
  | _ => none }
def netDoesRow : OpenClaim := { program := "ytfmkfpgplpfkhaa", sum := "5d8f87829c6720da00b57632a713fee4c2b5fbbf88de32d07dfa4193c3943dca", func := "pannier/pannierlaw04.NetDoes", spec := "netDoes", inPlace := ["maps.clone"], unfollowed := true, recurses := true, apart := false }
def NetDoesSaid : Prop := netDoesRow.holds Try.pinned (OpenSpec.ofChange netDoesSpec)

/-- ITS FALSE NEIGHBOUR: 'it returns false'. Refute it at one input. -/
def netDoesWrong : ChangeSpec := { name := "netDoes", fn := fun _ => fun
  | [d1, d2] => { results := [.lit (.bool false)], args := [d1, d2] }
  | _ => none }
def NetDoesWrongFalsely : Prop := netDoesRow.holds Try.pinned (OpenSpec.ofChange netDoesWrong)

/-- 'pannierlaw18.LearnerGrows': WHATEVER THE INPUT: true; the input reads as it did. -/
def learnerGrowsSpec : ChangeSpec := { name := "learnerGrows", fn := fun _ => fun
  | [d] => { results := [.lit (.bool true)], args := [d] }
  | _ => none }
def learnerGrowsRow : OpenClaim := { program := "ytfmkfpgplpfkhaa", sum := "5d8f87829c6720da00b57632a713fee4c2b5fbbf88de32d07dfa4193c3943dca", func := "pannier/pannierlaw18.LearnerGrows", spec := "learnerGrows", unfollowed := true, recurses := true, apart := false }
def LearnerGrowsSaid : Prop := learnerGrowsRow.holds Try.pinned (OpenSpec.ofChange learnerGrowsSpec)

/-- ITS FALSE NEIGHBOUR: 'it returns false'. Refute it at one input. -/
def learnerGrowsWrong : ChangeSpec := { name := "learnerGrows", fn := fun _ => fun
  | [d] => { results := [.lit (.bool false)], args := [d] }
  | _ => none }
def LearnerGrowsWrongFalsely : Prop := learnerGrowsRow.holds Try.pinned (OpenSpec.ofChange learnerGrowsWrong)

/-- 'pannierlaw18.LearnerOrder': WHATEVER THE INPUT: true; the input reads as it did. -/
def learnerOrderSpec : ChangeSpec := { name := "learnerOrder", fn := fun _ => fun
  | [d1, d2] => { results := [.lit (.bool true)], args := [d1, d2] }
  | _ => none }
def learnerOrderRow : OpenClaim := { program := "ytfmkfpgplpfkhaa", sum := "5d8f87829c6720da00b57632a713fee4c2b5fbbf88de32d07dfa4193c3943dca", func := "pannier/pannierlaw18.LearnerOrder", spec := "learnerOrder", unfollowed := true, recurses := true, apart := false }
def LearnerOrderSaid : Prop := learnerOrderRow.holds Try.pinned (OpenSpec.ofChange learnerOrderSpec)

/-- ITS FALSE NEIGHBOUR: 'it returns false'. Refute it at one input. -/
def learnerOrderWrong : ChangeSpec := { name := "learnerOrder", fn := fun _ => fun
  | [d1, d2] => { results := [.lit (.bool false)], args := [d1, d2] }
  | _ => none }
def LearnerOrderWrongFalsely : Prop := learnerOrderRow.holds Try.pinned (OpenSpec.ofChange learnerOrderWrong)

/-- 'pannierlaw18.LearnerGaps': WHATEVER THE INPUT: true; the input reads as it did. -/
def learnerGapsSpec : ChangeSpec := { name := "learnerGaps", fn := fun _ => fun
  | [d] => { results := [.lit (.bool true)], args := [d] }
  | _ => none }
def learnerGapsRow : OpenClaim := { program := "ytfmkfpgplpfkhaa", sum := "5d8f87829c6720da00b57632a713fee4c2b5fbbf88de32d07dfa4193c3943dca", func := "pannier/pannierlaw18.LearnerGaps", spec := "learnerGaps", unfollowed := true, recurses := true, apart := false }
def LearnerGapsSaid : Prop := learnerGapsRow.holds Try.pinned (OpenSpec.ofChange learnerGapsSpec)

/-- ITS FALSE NEIGHBOUR: 'it returns false'. Refute it at one input. -/
def learnerGapsWrong : ChangeSpec := { name := "learnerGaps", fn := fun _ => fun
  | [d] => { results := [.lit (.bool false)], args := [d] }
  | _ => none }
def LearnerGapsWrongFalsely : Prop := learnerGapsRow.holds Try.pinned (OpenSpec.ofChange learnerGapsWrong)

/-- 'pannierlaw18.LearnerDoes': WHATEVER THE INPUT: true; the input reads as it did. -/
def learnerDoesSpec : ChangeSpec := { name := "learnerDoes", fn := fun _ => fun
  | [d1, d2, d3] => { results := [.lit (.bool true)], args := [d1, d2, d3] }
  | _ => none }
def learnerDoesRow : OpenClaim := { program := "ytfmkfpgplpfkhaa", sum := "5d8f87829c6720da00b57632a713fee4c2b5fbbf88de32d07dfa4193c3943dca", func := "pannier/pannierlaw18.LearnerDoes", spec := "learnerDoes", inPlace := ["maps.clone"], unfollowed := true, recurses := true, apart := false }
def LearnerDoesSaid : Prop := learnerDoesRow.holds Try.pinned (OpenSpec.ofChange learnerDoesSpec)

/-- ITS FALSE NEIGHBOUR: 'it returns false'. Refute it at one input. -/
def learnerDoesWrong : ChangeSpec := { name := "learnerDoes", fn := fun _ => fun
  | [d1, d2, d3] => { results := [.lit (.bool false)], args := [d1, d2, d3] }
  | _ => none }
def LearnerDoesWrongFalsely : Prop := learnerDoesRow.holds Try.pinned (OpenSpec.ofChange learnerDoesWrong)

/-- 'pannierlaw18.LearnerNobody': WHATEVER THE INPUT: true; the input reads as it did. -/
def learnerNobodySpec : ChangeSpec := { name := "learnerNobody", fn := fun _ => fun
  | [d1, d2] => { results := [.lit (.bool true)], args := [d1, d2] }
  | _ => none }
def learnerNobodyRow : OpenClaim := { program := "ytfmkfpgplpfkhaa", sum := "5d8f87829c6720da00b57632a713fee4c2b5fbbf88de32d07dfa4193c3943dca", func := "pannier/pannierlaw18.LearnerNobody", spec := "learnerNobody", inPlace := ["maps.clone"], unfollowed := true, recurses := true, apart := false }
def LearnerNobodySaid : Prop := learnerNobodyRow.holds Try.pinned (OpenSpec.ofChange learnerNobodySpec)

/-- ITS FALSE NEIGHBOUR: 'it returns false'. Refute it at one input. -/
def learnerNobodyWrong : ChangeSpec := { name := "learnerNobody", fn := fun _ => fun
  | [d1, d2] => { results := [.lit (.bool false)], args := [d1, d2] }
  | _ => none }
def LearnerNobodyWrongFalsely : Prop := learnerNobodyRow.holds Try.pinned (OpenSpec.ofChange learnerNobodyWrong)

/- THE SECOND FORM. 'bulk': how many values and letters a reading holds, each counted each time it is reached (what is shared counts as often as it is met; a slice's spare places count too). A statement '..UptoSaid' is the law's where the arguments, and the package variables that the reading takes, are together of bulk at most 1048576: NARROWER than '..Said'. Prove '..Said' where nothing that the law and all that it calls make is longer than what came in: it says more and counts as full. Else prove '..UptoSaid'. A law counts once. -/
mutual
def uptoBulk {H : Type} : DataW H → Nat
  | .lit (.string bytes) => bytes.length + 1
  | .lit _ => 1
  | .nil => 1
  | .ptr d => uptoBulk d + 1
  | .slice elems spare => uptoBulkAll elems + uptoBulkAll spare + 1
  | .agg parts => uptoBulkAll parts + 1
  | .iface _ d => uptoBulk d + 1
  | .map entries => uptoBulkEntries entries + 1
  | .held _ => 1
def uptoBulkAll {H : Type} : List (DataW H) → Nat
  | [] => 0
  | d :: r => uptoBulk d + uptoBulkAll r
def uptoBulkEntries {H : Type} : List (Lit × DataW H) → Nat
  | [] => 0
  | x :: r => uptoBulkEntry x + uptoBulkEntries r
def uptoBulkEntry {H : Type} : Lit × DataW H → Nat
  | (.string bytes, d) => bytes.length + uptoBulk d + 1
  | (_, d) => uptoBulk d + 1
 end
def uptoSmall : (H : Type) → List (DataW H) → Bool := fun _ ds => decide (uptoBulkAll ds ≤ 1048576)
def OpenSpec.upto (s : _root_.Go.ChangeSpec) : _root_.Go.OpenSpec := { _root_.Go.OpenSpec.ofChange s with cond := some uptoSmall }

/-- 'pannierlaw04.NetDoes', WHERE WHAT IT READS IS OF BULK AT MOST 1048576: true; the input reads as it did. -/
def netDoesUptoRow : OpenClaim := { program := "ytfmkfpgplpfkhaa", sum := "5d8f87829c6720da00b57632a713fee4c2b5fbbf88de32d07dfa4193c3943dca", func := "pannier/pannierlaw04.NetDoes", spec := "netDoes", inPlace := ["maps.clone"], unfollowed := true, recurses := true, apart := false, narrowed := true }
def NetDoesUptoSaid : Prop := netDoesUptoRow.holds Try.pinned (OpenSpec.upto netDoesSpec)

/-- 'pannierlaw18.LearnerGrows', WHERE WHAT IT READS IS OF BULK AT MOST 1048576: true; the input reads as it did. -/
def learnerGrowsUptoRow : OpenClaim := { program := "ytfmkfpgplpfkhaa", sum := "5d8f87829c6720da00b57632a713fee4c2b5fbbf88de32d07dfa4193c3943dca", func := "pannier/pannierlaw18.LearnerGrows", spec := "learnerGrows", unfollowed := true, recurses := true, apart := false, narrowed := true }
def LearnerGrowsUptoSaid : Prop := learnerGrowsUptoRow.holds Try.pinned (OpenSpec.upto learnerGrowsSpec)

/-- 'pannierlaw18.LearnerOrder', WHERE WHAT IT READS IS OF BULK AT MOST 1048576: true; the input reads as it did. -/
def learnerOrderUptoRow : OpenClaim := { program := "ytfmkfpgplpfkhaa", sum := "5d8f87829c6720da00b57632a713fee4c2b5fbbf88de32d07dfa4193c3943dca", func := "pannier/pannierlaw18.LearnerOrder", spec := "learnerOrder", unfollowed := true, recurses := true, apart := false, narrowed := true }
def LearnerOrderUptoSaid : Prop := learnerOrderUptoRow.holds Try.pinned (OpenSpec.upto learnerOrderSpec)

/-- 'pannierlaw18.LearnerGaps', WHERE WHAT IT READS IS OF BULK AT MOST 1048576: true; the input reads as it did. -/
def learnerGapsUptoRow : OpenClaim := { program := "ytfmkfpgplpfkhaa", sum := "5d8f87829c6720da00b57632a713fee4c2b5fbbf88de32d07dfa4193c3943dca", func := "pannier/pannierlaw18.LearnerGaps", spec := "learnerGaps", unfollowed := true, recurses := true, apart := false, narrowed := true }
def LearnerGapsUptoSaid : Prop := learnerGapsUptoRow.holds Try.pinned (OpenSpec.upto learnerGapsSpec)

/-- 'pannierlaw18.LearnerDoes', WHERE WHAT IT READS IS OF BULK AT MOST 1048576: true; the input reads as it did. -/
def learnerDoesUptoRow : OpenClaim := { program := "ytfmkfpgplpfkhaa", sum := "5d8f87829c6720da00b57632a713fee4c2b5fbbf88de32d07dfa4193c3943dca", func := "pannier/pannierlaw18.LearnerDoes", spec := "learnerDoes", inPlace := ["maps.clone"], unfollowed := true, recurses := true, apart := false, narrowed := true }
def LearnerDoesUptoSaid : Prop := learnerDoesUptoRow.holds Try.pinned (OpenSpec.upto learnerDoesSpec)

/-- 'pannierlaw18.LearnerNobody', WHERE WHAT IT READS IS OF BULK AT MOST 1048576: true; the input reads as it did. -/
def learnerNobodyUptoRow : OpenClaim := { program := "ytfmkfpgplpfkhaa", sum := "5d8f87829c6720da00b57632a713fee4c2b5fbbf88de32d07dfa4193c3943dca", func := "pannier/pannierlaw18.LearnerNobody", spec := "learnerNobody", inPlace := ["maps.clone"], unfollowed := true, recurses := true, apart := false, narrowed := true }
def LearnerNobodyUptoSaid : Prop := learnerNobodyUptoRow.holds Try.pinned (OpenSpec.upto learnerNobodySpec)

end Rows
end Go.Proofs.Ytfmkfpgplpfkhaa
