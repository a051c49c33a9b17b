/-
  No cell of these rows narrows 'for every input' (looked for: loops, veiled, ifaces, maps, wideKeys, modest, calm, conditions, laid).
  DERIVED. THE GIVEN ROWS OF THIS SEAT. 9 by the template 'for every input the law returns true; each argument reads behind the call as it read before'; 0 by the template 'total and deterministic' (their statements: YtooadkecmchpaaaTotals.lean).
  GIVEN WITH THE SEED: the statements are not yours to turn. If you find one false, say at which input.
  Laid BY PROGRAM, IN A SANDBOX (cutbox-rows.mjs): the forced cells as the released guide's own fill.sh prints them over the translation d291083dcbb55a80… (all of the seat's roots in one cut). By AI agents, Wed Nov 11 2026. No macro, syntax, notation, axiom, sorry.
-/
import Derived.Test.YtooadkecmchpaaaChecked
import GoSem.Claim
import GoSem.ClaimJoined
import GoSem.ClaimMapViews
import Derived.JoinedTies
import Derived.KernelRfl
namespace Go.Proofs.Ytooadkecmchpaaa
/- THE CELL 'sum', in the pinned program and in every row, IS THE sha256 OF THE DUMP (.gsa) THAT YtooadkecmchpaaaProg.lean LOADS. Nothing in Lean hashes anything: it is a label: what it is worth is what the hold of that sum in a sandbox is worth. -/
noncomputable def Try.pinned : Pinned := { name := "ytooadkecmchpaaa", sum := "d291083dcbb55a8002c8f01d3f7a457261998605b1afadb1b0280c0c36610e28", checked := Try.checked }
namespace Rows
def none {H : Type} : Left H := { results := [], args := [] }

/-- 'pannierlaw09.DotsOrder': WHATEVER THE INPUT: true; the input reads as it did. -/
def dotsOrderSpec : ChangeSpec := { name := "dotsOrder", fn := fun _ => fun
  | [d1, d2] => { results := [.lit (.bool true)], args := [d1, d2] }
  | _ => none }
def dotsOrderRow : OpenClaim := { program := "ytooadkecmchpaaa", sum := "d291083dcbb55a8002c8f01d3f7a457261998605b1afadb1b0280c0c36610e28", func := "pannier/pannierlaw09.DotsOrder", spec := "dotsOrder", unfollowed := true, recurses := true, apart := false }
def DotsOrderSaid : Prop := dotsOrderRow.holds Try.pinned (OpenSpec.ofChange dotsOrderSpec)

/-- ITS FALSE NEIGHBOUR: 'it returns false'. Refute it at one input. -/
def dotsOrderWrong : ChangeSpec := { name := "dotsOrder", fn := fun _ => fun
  | [d1, d2] => { results := [.lit (.bool false)], args := [d1, d2] }
  | _ => none }
def DotsOrderWrongFalsely : Prop := dotsOrderRow.holds Try.pinned (OpenSpec.ofChange dotsOrderWrong)

/-- 'pannierlaw09.DotsFill': WHATEVER THE INPUT: true; the input reads as it did. -/
def dotsFillSpec : ChangeSpec := { name := "dotsFill", fn := fun _ => fun
  | [d1, d2] => { results := [.lit (.bool true)], args := [d1, d2] }
  | _ => none }
def dotsFillRow : OpenClaim := { program := "ytooadkecmchpaaa", sum := "d291083dcbb55a8002c8f01d3f7a457261998605b1afadb1b0280c0c36610e28", func := "pannier/pannierlaw09.DotsFill", spec := "dotsFill", unfollowed := true, recurses := true, apart := false }
def DotsFillSaid : Prop := dotsFillRow.holds Try.pinned (OpenSpec.ofChange dotsFillSpec)

/-- ITS FALSE NEIGHBOUR: 'it returns false'. Refute it at one input. -/
def dotsFillWrong : ChangeSpec := { name := "dotsFill", fn := fun _ => fun
  | [d1, d2] => { results := [.lit (.bool false)], args := [d1, d2] }
  | _ => none }
def DotsFillWrongFalsely : Prop := dotsFillRow.holds Try.pinned (OpenSpec.ofChange dotsFillWrong)

/-- 'pannierlaw09.DotsDoes': WHATEVER THE INPUT: true; the input reads as it did. -/
def dotsDoesSpec : ChangeSpec := { name := "dotsDoes", fn := fun _ => fun
  | [d1, d2, d3] => { results := [.lit (.bool true)], args := [d1, d2, d3] }
  | _ => none }
def dotsDoesRow : OpenClaim := { program := "ytooadkecmchpaaa", sum := "d291083dcbb55a8002c8f01d3f7a457261998605b1afadb1b0280c0c36610e28", func := "pannier/pannierlaw09.DotsDoes", spec := "dotsDoes", inPlace := ["maps.clone"], unfollowed := true, recurses := true, apart := false }
def DotsDoesSaid : Prop := dotsDoesRow.holds Try.pinned (OpenSpec.ofChange dotsDoesSpec)

/-- ITS FALSE NEIGHBOUR: 'it returns false'. Refute it at one input. -/
def dotsDoesWrong : ChangeSpec := { name := "dotsDoes", fn := fun _ => fun
  | [d1, d2, d3] => { results := [.lit (.bool false)], args := [d1, d2, d3] }
  | _ => none }
def DotsDoesWrongFalsely : Prop := dotsDoesRow.holds Try.pinned (OpenSpec.ofChange dotsDoesWrong)

/-- 'pannierlaw09.DotsNobody': WHATEVER THE INPUT: true; the input reads as it did. -/
def dotsNobodySpec : ChangeSpec := { name := "dotsNobody", fn := fun _ => fun
  | [d1, d2] => { results := [.lit (.bool true)], args := [d1, d2] }
  | _ => none }
def dotsNobodyRow : OpenClaim := { program := "ytooadkecmchpaaa", sum := "d291083dcbb55a8002c8f01d3f7a457261998605b1afadb1b0280c0c36610e28", func := "pannier/pannierlaw09.DotsNobody", spec := "dotsNobody", inPlace := ["maps.clone"], unfollowed := true, recurses := true, apart := false }
def DotsNobodySaid : Prop := dotsNobodyRow.holds Try.pinned (OpenSpec.ofChange dotsNobodySpec)

/-- ITS FALSE NEIGHBOUR: 'it returns false'. Refute it at one input. -/
def dotsNobodyWrong : ChangeSpec := { name := "dotsNobody", fn := fun _ => fun
  | [d1, d2] => { results := [.lit (.bool false)], args := [d1, d2] }
  | _ => none }
def DotsNobodyWrongFalsely : Prop := dotsNobodyRow.holds Try.pinned (OpenSpec.ofChange dotsNobodyWrong)

/-- 'pannierlaw09.DotsSplit': WHATEVER THE INPUT: true; the input reads as it did. -/
def dotsSplitSpec : ChangeSpec := { name := "dotsSplit", fn := fun _ => fun
  | [d1, d2] => { results := [.lit (.bool true)], args := [d1, d2] }
  | _ => none }
def dotsSplitRow : OpenClaim := { program := "ytooadkecmchpaaa", sum := "d291083dcbb55a8002c8f01d3f7a457261998605b1afadb1b0280c0c36610e28", func := "pannier/pannierlaw09.DotsSplit", spec := "dotsSplit", unfollowed := true, recurses := true, apart := false }
def DotsSplitSaid : Prop := dotsSplitRow.holds Try.pinned (OpenSpec.ofChange dotsSplitSpec)

/-- ITS FALSE NEIGHBOUR: 'it returns false'. Refute it at one input. -/
def dotsSplitWrong : ChangeSpec := { name := "dotsSplit", fn := fun _ => fun
  | [d1, d2] => { results := [.lit (.bool false)], args := [d1, d2] }
  | _ => none }
def DotsSplitWrongFalsely : Prop := dotsSplitRow.holds Try.pinned (OpenSpec.ofChange dotsSplitWrong)

/-- 'pannierlaw03.DiskRoom': WHATEVER THE INPUT: true; the input reads as it did. -/
def diskRoomSpec : ChangeSpec := { name := "diskRoom", fn := fun _ => fun
  | [d1, d2] => { results := [.lit (.bool true)], args := [d1, d2] }
  | _ => none }
def diskRoomRow : OpenClaim := { program := "ytooadkecmchpaaa", sum := "d291083dcbb55a8002c8f01d3f7a457261998605b1afadb1b0280c0c36610e28", func := "pannier/pannierlaw03.DiskRoom", spec := "diskRoom", unfollowed := true, recurses := true, apart := false }
def DiskRoomSaid : Prop := diskRoomRow.holds Try.pinned (OpenSpec.ofChange diskRoomSpec)

/-- ITS FALSE NEIGHBOUR: 'it returns false'. Refute it at one input. -/
def diskRoomWrong : ChangeSpec := { name := "diskRoom", fn := fun _ => fun
  | [d1, d2] => { results := [.lit (.bool false)], args := [d1, d2] }
  | _ => none }
def DiskRoomWrongFalsely : Prop := diskRoomRow.holds Try.pinned (OpenSpec.ofChange diskRoomWrong)

/-- 'pannierlaw03.DiskFalls': WHATEVER THE INPUT: true; the input reads as it did. -/
def diskFallsSpec : ChangeSpec := { name := "diskFalls", fn := fun _ => fun
  | [d1, d2] => { results := [.lit (.bool true)], args := [d1, d2] }
  | _ => none }
def diskFallsRow : OpenClaim := { program := "ytooadkecmchpaaa", sum := "d291083dcbb55a8002c8f01d3f7a457261998605b1afadb1b0280c0c36610e28", func := "pannier/pannierlaw03.DiskFalls", spec := "diskFalls", unfollowed := true, recurses := true, apart := false }
def DiskFallsSaid : Prop := diskFallsRow.holds Try.pinned (OpenSpec.ofChange diskFallsSpec)

/-- ITS FALSE NEIGHBOUR: 'it returns false'. Refute it at one input. -/
def diskFallsWrong : ChangeSpec := { name := "diskFalls", fn := fun _ => fun
  | [d1, d2] => { results := [.lit (.bool false)], args := [d1, d2] }
  | _ => none }
def DiskFallsWrongFalsely : Prop := diskFallsRow.holds Try.pinned (OpenSpec.ofChange diskFallsWrong)

/-- 'pannierlaw03.DiskDoes': WHATEVER THE INPUT: true; the input reads as it did. -/
def diskDoesSpec : ChangeSpec := { name := "diskDoes", fn := fun _ => fun
  | [d1, d2] => { results := [.lit (.bool true)], args := [d1, d2] }
  | _ => none }
def diskDoesRow : OpenClaim := { program := "ytooadkecmchpaaa", sum := "d291083dcbb55a8002c8f01d3f7a457261998605b1afadb1b0280c0c36610e28", func := "pannier/pannierlaw03.DiskDoes", spec := "diskDoes", unfollowed := true, recurses := true, apart := false }
def DiskDoesSaid : Prop := diskDoesRow.holds Try.pinned (OpenSpec.ofChange diskDoesSpec)

/-- ITS FALSE NEIGHBOUR: 'it returns false'. Refute it at one input. -/
def diskDoesWrong : ChangeSpec := { name := "diskDoes", fn := fun _ => fun
  | [d1, d2] => { results := [.lit (.bool false)], args := [d1, d2] }
  | _ => none }
def DiskDoesWrongFalsely : Prop := diskDoesRow.holds Try.pinned (OpenSpec.ofChange diskDoesWrong)

/-- 'pannierlaw03.DiskNobody': WHATEVER THE INPUT: true; the input reads as it did. -/
def diskNobodySpec : ChangeSpec := { name := "diskNobody", fn := fun _ => fun
  | [d] => { results := [.lit (.bool true)], args := [d] }
  | _ => none }
def diskNobodyRow : OpenClaim := { program := "ytooadkecmchpaaa", sum := "d291083dcbb55a8002c8f01d3f7a457261998605b1afadb1b0280c0c36610e28", func := "pannier/pannierlaw03.DiskNobody", spec := "diskNobody", unfollowed := true, recurses := true, apart := false }
def DiskNobodySaid : Prop := diskNobodyRow.holds Try.pinned (OpenSpec.ofChange diskNobodySpec)

/-- ITS FALSE NEIGHBOUR: 'it returns false'. Refute it at one input. -/
def diskNobodyWrong : ChangeSpec := { name := "diskNobody", fn := fun _ => fun
  | [d] => { results := [.lit (.bool false)], args := [d] }
  | _ => none }
def DiskNobodyWrongFalsely : Prop := diskNobodyRow.holds Try.pinned (OpenSpec.ofChange diskNobodyWrong)

/- THE SECOND FORM. 'bulk': how many values and letters a reading holds, each counted each time it is reached (what is shared counts as often as it is met; a slice's spare places count too). A statement '..UptoSaid' is the law's where the arguments, and the package variables that the reading takes, are together of bulk at most 1048576: NARROWER than '..Said'. Prove '..Said' where nothing that the law and all that it calls make is longer than what came in: it says more and counts as full. Else prove '..UptoSaid'. A law counts once. -/
mutual
def uptoBulk {H : Type} : DataW H → Nat
  | .lit (.string bytes) => bytes.length + 1
  | .lit _ => 1
  | .nil => 1
  | .ptr d => uptoBulk d + 1
  | .slice elems spare => uptoBulkAll elems + uptoBulkAll spare + 1
  | .agg parts => uptoBulkAll parts + 1
  | .iface _ d => uptoBulk d + 1
  | .map entries => uptoBulkEntries entries + 1
  | .held _ => 1
def uptoBulkAll {H : Type} : List (DataW H) → Nat
  | [] => 0
  | d :: r => uptoBulk d + uptoBulkAll r
def uptoBulkEntries {H : Type} : List (Lit × DataW H) → Nat
  | [] => 0
  | x :: r => uptoBulkEntry x + uptoBulkEntries r
def uptoBulkEntry {H : Type} : Lit × DataW H → Nat
  | (.string bytes, d) => bytes.length + uptoBulk d + 1
  | (_, d) => uptoBulk d + 1
 end
def uptoSmall : (H : Type) → List (DataW H) → Bool := fun _ ds => decide (uptoBulkAll ds ≤ 1048576)
def OpenSpec.upto (s : _root_.Go.ChangeSpec) : _root_.Go.OpenSpec := { _root_.Go.OpenSpec.ofChange s with cond := some uptoSmall }

/-- 'pannierlaw09.DotsOrder', WHERE WHAT IT READS IS OF BULK AT MOST 1048576: true; the input reads as it did. -/
def dotsOrderUptoRow : OpenClaim := { program := "ytooadkecmchpaaa", sum := "d291083dcbb55a8002c8f01d3f7a457261998605b1afadb1b0280c0c36610e28", func := "pannier/pannierlaw09.DotsOrder", spec := "dotsOrder", unfollowed := true, recurses := true, apart := false, narrowed := true }
def DotsOrderUptoSaid : Prop := dotsOrderUptoRow.holds Try.pinned (OpenSpec.upto dotsOrderSpec)

/-- 'pannierlaw09.DotsFill', WHERE WHAT IT READS IS OF BULK AT MOST 1048576: true; the input reads as it did. -/
def dotsFillUptoRow : OpenClaim := { program := "ytooadkecmchpaaa", sum := "d291083dcbb55a8002c8f01d3f7a457261998605b1afadb1b0280c0c36610e28", func := "pannier/pannierlaw09.DotsFill", spec := "dotsFill", unfollowed := true, recurses := true, apart := false, narrowed := true }
def DotsFillUptoSaid : Prop := dotsFillUptoRow.holds Try.pinned (OpenSpec.upto dotsFillSpec)

/-- 'pannierlaw09.DotsDoes', WHERE WHAT IT READS IS OF BULK AT MOST 1048576: true; the input reads as it did. -/
def dotsDoesUptoRow : OpenClaim := { program := "ytooadkecmchpaaa", sum := "d291083dcbb55a8002c8f01d3f7a457261998605b1afadb1b0280c0c36610e28", func := "pannier/pannierlaw09.DotsDoes", spec := "dotsDoes", inPlace := ["maps.clone"], unfollowed := true, recurses := true, apart := false, narrowed := true }
def DotsDoesUptoSaid : Prop := dotsDoesUptoRow.holds Try.pinned (OpenSpec.upto dotsDoesSpec)

/-- 'pannierlaw09.DotsNobody', WHERE WHAT IT READS IS OF BULK AT MOST 1048576: true; the input reads as it did. -/
def dotsNobodyUptoRow : OpenClaim := { program := "ytooadkecmchpaaa", sum := "d291083dcbb55a8002c8f01d3f7a457261998605b1afadb1b0280c0c36610e28", func := "pannier/pannierlaw09.DotsNobody", spec := "dotsNobody", inPlace := ["maps.clone"], unfollowed := true, recurses := true, apart := false, narrowed := true }
def DotsNobodyUptoSaid : Prop := dotsNobodyUptoRow.holds Try.pinned (OpenSpec.upto dotsNobodySpec)

/-- 'pannierlaw09.DotsSplit', WHERE WHAT IT READS IS OF BULK AT MOST 1048576: true; the input reads as it did. -/
def dotsSplitUptoRow : OpenClaim := { program := "ytooadkecmchpaaa", sum := "d291083dcbb55a8002c8f01d3f7a457261998605b1afadb1b0280c0c36610e28", func := "pannier/pannierlaw09.DotsSplit", spec := "dotsSplit", unfollowed := true, recurses := true, apart := false, narrowed := true }
def DotsSplitUptoSaid : Prop := dotsSplitUptoRow.holds Try.pinned (OpenSpec.upto dotsSplitSpec)

/-- 'pannierlaw03.DiskRoom', WHERE WHAT IT READS IS OF BULK AT MOST 1048576: true; the input reads as it did. -/
def diskRoomUptoRow : OpenClaim := { program := "ytooadkecmchpaaa", sum := "d291083dcbb55a8002c8f01d3f7a457261998605b1afadb1b0280c0c36610e28", func := "pannier/pannierlaw03.DiskRoom", spec := "diskRoom", unfollowed := true, recurses := true, apart := false, narrowed := true }
def DiskRoomUptoSaid : Prop := diskRoomUptoRow.holds Try.pinned (OpenSpec.upto diskRoomSpec)

/-- 'pannierlaw03.DiskFalls', WHERE WHAT IT READS IS OF BULK AT MOST 1048576: true; the input reads as it did. -/
def diskFallsUptoRow : OpenClaim := { program := "ytooadkecmchpaaa", sum := "d291083dcbb55a8002c8f01d3f7a457261998605b1afadb1b0280c0c36610e28", func := "pannier/pannierlaw03.DiskFalls", spec := "diskFalls", unfollowed := true, recurses := true, apart := false, narrowed := true }
def DiskFallsUptoSaid : Prop := diskFallsUptoRow.holds Try.pinned (OpenSpec.upto diskFallsSpec)

/-- 'pannierlaw03.DiskDoes', WHERE WHAT IT READS IS OF BULK AT MOST 1048576: true; the input reads as it did. -/
def diskDoesUptoRow : OpenClaim := { program := "ytooadkecmchpaaa", sum := "d291083dcbb55a8002c8f01d3f7a457261998605b1afadb1b0280c0c36610e28", func := "pannier/pannierlaw03.DiskDoes", spec := "diskDoes", unfollowed := true, recurses := true, apart := false, narrowed := true }
def DiskDoesUptoSaid : Prop := diskDoesUptoRow.holds Try.pinned (OpenSpec.upto diskDoesSpec)

/-- 'pannierlaw03.DiskNobody', WHERE WHAT IT READS IS OF BULK AT MOST 1048576: true; the input reads as it did. -/
def diskNobodyUptoRow : OpenClaim := { program := "ytooadkecmchpaaa", sum := "d291083dcbb55a8002c8f01d3f7a457261998605b1afadb1b0280c0c36610e28", func := "pannier/pannierlaw03.DiskNobody", spec := "diskNobody", unfollowed := true, recurses := true, apart := false, narrowed := true }
def DiskNobodyUptoSaid : Prop := diskNobodyUptoRow.holds Try.pinned (OpenSpec.upto diskNobodySpec)

end Rows
end Go.Proofs.Ytooadkecmchpaaa
