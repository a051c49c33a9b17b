/-
  No cell of these rows narrows 'for every input' (looked for: loops, veiled, ifaces, maps, wideKeys, modest, calm, conditions, laid).
  DERIVED. THE GIVEN ROWS OF THIS SEAT. 13 by the template 'for every input the law returns true; each argument reads behind the call as it read before'; 0 by the template 'total and deterministic' (their statements: YtiiejjdkhekhmaaTotals.lean).
  GIVEN WITH THE SEED: the statements are not yours to turn. If you find one false, say at which input.
  Laid BY PROGRAM, IN A SANDBOX (cutbox-rows.mjs): the forced cells as the released guide's own fill.sh prints them over the translation 7cdc2595d07580a5… (all of the seat's roots in one cut). By AI agents, Wed Nov 11 2026. No macro, syntax, notation, axiom, sorry.
-/
import Derived.Test.YtiiejjdkhekhmaaChecked
import GoSem.Claim
import GoSem.ClaimJoined
import GoSem.ClaimMapViews
import Derived.JoinedTies
import Derived.KernelRfl
namespace Go.Proofs.Ytiiejjdkhekhmaa
/- THE CELL 'sum', in the pinned program and in every row, IS THE sha256 OF THE DUMP (.gsa) THAT YtiiejjdkhekhmaaProg.lean LOADS. Nothing in Lean hashes anything: it is a label: what it is worth is what the hold of that sum in a sandbox is worth. -/
noncomputable def Try.pinned : Pinned := { name := "ytiiejjdkhekhmaa", sum := "7cdc2595d07580a5da937a88178fd580c6dca2b7c736231f39cf316f52720ed1", checked := Try.checked }
namespace Rows
def none {H : Type} : Left H := { results := [], args := [] }

/-- 'pannierlaw01.CodecNumbers': WHATEVER THE INPUT: true; the input reads as it did. -/
def codecNumbersSpec : ChangeSpec := { name := "codecNumbers", fn := fun _ => fun
  | [d1, d2, d3] => { results := [.lit (.bool true)], args := [d1, d2, d3] }
  | _ => none }
def codecNumbersRow : OpenClaim := { program := "ytiiejjdkhekhmaa", sum := "7cdc2595d07580a5da937a88178fd580c6dca2b7c736231f39cf316f52720ed1", func := "pannier/pannierlaw01.CodecNumbers", spec := "codecNumbers", apart := false }
def CodecNumbersSaid : Prop := codecNumbersRow.holds Try.pinned (OpenSpec.ofChange codecNumbersSpec)

/-- ITS FALSE NEIGHBOUR: 'it returns false'. Refute it at one input. -/
def codecNumbersWrong : ChangeSpec := { name := "codecNumbers", fn := fun _ => fun
  | [d1, d2, d3] => { results := [.lit (.bool false)], args := [d1, d2, d3] }
  | _ => none }
def CodecNumbersWrongFalsely : Prop := codecNumbersRow.holds Try.pinned (OpenSpec.ofChange codecNumbersWrong)

/-- 'pannierlaw01.CodecReads': WHATEVER THE INPUT: true; the input reads as it did. -/
def codecReadsSpec : ChangeSpec := { name := "codecReads", fn := fun _ => fun
  | [d1, d2] => { results := [.lit (.bool true)], args := [d1, d2] }
  | _ => none }
def codecReadsRow : OpenClaim := { program := "ytiiejjdkhekhmaa", sum := "7cdc2595d07580a5da937a88178fd580c6dca2b7c736231f39cf316f52720ed1", func := "pannier/pannierlaw01.CodecReads", spec := "codecReads", apart := false }
def CodecReadsSaid : Prop := codecReadsRow.holds Try.pinned (OpenSpec.ofChange codecReadsSpec)

/-- ITS FALSE NEIGHBOUR: 'it returns false'. Refute it at one input. -/
def codecReadsWrong : ChangeSpec := { name := "codecReads", fn := fun _ => fun
  | [d1, d2] => { results := [.lit (.bool false)], args := [d1, d2] }
  | _ => none }
def CodecReadsWrongFalsely : Prop := codecReadsRow.holds Try.pinned (OpenSpec.ofChange codecReadsWrong)

/-- 'pannierlaw01.CodecTexts': WHATEVER THE INPUT: true; the input reads as it did. -/
def codecTextsSpec : ChangeSpec := { name := "codecTexts", fn := fun _ => fun
  | [d1, d2, d3] => { results := [.lit (.bool true)], args := [d1, d2, d3] }
  | _ => none }
def codecTextsRow : OpenClaim := { program := "ytiiejjdkhekhmaa", sum := "7cdc2595d07580a5da937a88178fd580c6dca2b7c736231f39cf316f52720ed1", func := "pannier/pannierlaw01.CodecTexts", spec := "codecTexts", apart := false }
def CodecTextsSaid : Prop := codecTextsRow.holds Try.pinned (OpenSpec.ofChange codecTextsSpec)

/-- ITS FALSE NEIGHBOUR: 'it returns false'. Refute it at one input. -/
def codecTextsWrong : ChangeSpec := { name := "codecTexts", fn := fun _ => fun
  | [d1, d2, d3] => { results := [.lit (.bool false)], args := [d1, d2, d3] }
  | _ => none }
def CodecTextsWrongFalsely : Prop := codecTextsRow.holds Try.pinned (OpenSpec.ofChange codecTextsWrong)

/-- 'pannierlaw01.CodecLists': WHATEVER THE INPUT: true; the input reads as it did. -/
def codecListsSpec : ChangeSpec := { name := "codecLists", fn := fun _ => fun
  | [d1, d2, d3] => { results := [.lit (.bool true)], args := [d1, d2, d3] }
  | _ => none }
def codecListsRow : OpenClaim := { program := "ytiiejjdkhekhmaa", sum := "7cdc2595d07580a5da937a88178fd580c6dca2b7c736231f39cf316f52720ed1", func := "pannier/pannierlaw01.CodecLists", spec := "codecLists", unfollowed := true, recurses := true, apart := false }
def CodecListsSaid : Prop := codecListsRow.holds Try.pinned (OpenSpec.ofChange codecListsSpec)

/-- ITS FALSE NEIGHBOUR: 'it returns false'. Refute it at one input. -/
def codecListsWrong : ChangeSpec := { name := "codecLists", fn := fun _ => fun
  | [d1, d2, d3] => { results := [.lit (.bool false)], args := [d1, d2, d3] }
  | _ => none }
def CodecListsWrongFalsely : Prop := codecListsRow.holds Try.pinned (OpenSpec.ofChange codecListsWrong)

/-- 'pannierlaw15.BallotMeets': WHATEVER THE INPUT: true; the input reads as it did. -/
def ballotMeetsSpec : ChangeSpec := { name := "ballotMeets", fn := fun _ => fun
  | [d1, d2, d3] => { results := [.lit (.bool true)], args := [d1, d2, d3] }
  | _ => none }
def ballotMeetsRow : OpenClaim := { program := "ytiiejjdkhekhmaa", sum := "7cdc2595d07580a5da937a88178fd580c6dca2b7c736231f39cf316f52720ed1", func := "pannier/pannierlaw15.BallotMeets", spec := "ballotMeets", apart := false }
def BallotMeetsSaid : Prop := ballotMeetsRow.holds Try.pinned (OpenSpec.ofChange ballotMeetsSpec)

/-- ITS FALSE NEIGHBOUR: 'it returns false'. Refute it at one input. -/
def ballotMeetsWrong : ChangeSpec := { name := "ballotMeets", fn := fun _ => fun
  | [d1, d2, d3] => { results := [.lit (.bool false)], args := [d1, d2, d3] }
  | _ => none }
def BallotMeetsWrongFalsely : Prop := ballotMeetsRow.holds Try.pinned (OpenSpec.ofChange ballotMeetsWrong)

/-- 'pannierlaw15.BallotVotes': WHATEVER THE INPUT: true; the input reads as it did. -/
def ballotVotesSpec : ChangeSpec := { name := "ballotVotes", fn := fun _ => fun
  | [d1, d2, d3] => { results := [.lit (.bool true)], args := [d1, d2, d3] }
  | _ => none }
def ballotVotesRow : OpenClaim := { program := "ytiiejjdkhekhmaa", sum := "7cdc2595d07580a5da937a88178fd580c6dca2b7c736231f39cf316f52720ed1", func := "pannier/pannierlaw15.BallotVotes", spec := "ballotVotes", apart := false }
def BallotVotesSaid : Prop := ballotVotesRow.holds Try.pinned (OpenSpec.ofChange ballotVotesSpec)

/-- ITS FALSE NEIGHBOUR: 'it returns false'. Refute it at one input. -/
def ballotVotesWrong : ChangeSpec := { name := "ballotVotes", fn := fun _ => fun
  | [d1, d2, d3] => { results := [.lit (.bool false)], args := [d1, d2, d3] }
  | _ => none }
def BallotVotesWrongFalsely : Prop := ballotVotesRow.holds Try.pinned (OpenSpec.ofChange ballotVotesWrong)

/-- 'pannierlaw15.BallotNobody': WHATEVER THE INPUT: true; the input reads as it did. -/
def ballotNobodySpec : ChangeSpec := { name := "ballotNobody", fn := fun _ => fun
  | [d] => { results := [.lit (.bool true)], args := [d] }
  | _ => none }
def ballotNobodyRow : OpenClaim := { program := "ytiiejjdkhekhmaa", sum := "7cdc2595d07580a5da937a88178fd580c6dca2b7c736231f39cf316f52720ed1", func := "pannier/pannierlaw15.BallotNobody", spec := "ballotNobody", apart := false }
def BallotNobodySaid : Prop := ballotNobodyRow.holds Try.pinned (OpenSpec.ofChange ballotNobodySpec)

/-- ITS FALSE NEIGHBOUR: 'it returns false'. Refute it at one input. -/
def ballotNobodyWrong : ChangeSpec := { name := "ballotNobody", fn := fun _ => fun
  | [d] => { results := [.lit (.bool false)], args := [d] }
  | _ => none }
def BallotNobodyWrongFalsely : Prop := ballotNobodyRow.holds Try.pinned (OpenSpec.ofChange ballotNobodyWrong)

/-- 'pannierlaw15.BallotOrder': WHATEVER THE INPUT: true; the input reads as it did. -/
def ballotOrderSpec : ChangeSpec := { name := "ballotOrder", fn := fun _ => fun
  | [d1, d2, d3, d4] => { results := [.lit (.bool true)], args := [d1, d2, d3, d4] }
  | _ => none }
def ballotOrderRow : OpenClaim := { program := "ytiiejjdkhekhmaa", sum := "7cdc2595d07580a5da937a88178fd580c6dca2b7c736231f39cf316f52720ed1", func := "pannier/pannierlaw15.BallotOrder", spec := "ballotOrder", apart := false }
def BallotOrderSaid : Prop := ballotOrderRow.holds Try.pinned (OpenSpec.ofChange ballotOrderSpec)

/-- ITS FALSE NEIGHBOUR: 'it returns false'. Refute it at one input. -/
def ballotOrderWrong : ChangeSpec := { name := "ballotOrder", fn := fun _ => fun
  | [d1, d2, d3, d4] => { results := [.lit (.bool false)], args := [d1, d2, d3, d4] }
  | _ => none }
def BallotOrderWrongFalsely : Prop := ballotOrderRow.holds Try.pinned (OpenSpec.ofChange ballotOrderWrong)

/-- 'pannierlaw15.BallotChain': WHATEVER THE INPUT: true; the input reads as it did. -/
def ballotChainSpec : ChangeSpec := { name := "ballotChain", fn := fun _ => fun
  | [d1, d2] => { results := [.lit (.bool true)], args := [d1, d2] }
  | _ => none }
def ballotChainRow : OpenClaim := { program := "ytiiejjdkhekhmaa", sum := "7cdc2595d07580a5da937a88178fd580c6dca2b7c736231f39cf316f52720ed1", func := "pannier/pannierlaw15.BallotChain", spec := "ballotChain", apart := false }
def BallotChainSaid : Prop := ballotChainRow.holds Try.pinned (OpenSpec.ofChange ballotChainSpec)

/-- ITS FALSE NEIGHBOUR: 'it returns false'. Refute it at one input. -/
def ballotChainWrong : ChangeSpec := { name := "ballotChain", fn := fun _ => fun
  | [d1, d2] => { results := [.lit (.bool false)], args := [d1, d2] }
  | _ => none }
def BallotChainWrongFalsely : Prop := ballotChainRow.holds Try.pinned (OpenSpec.ofChange ballotChainWrong)

/-- 'pannierlaw01.CodecApart': WHATEVER THE INPUT: true; the input reads as it did. -/
def codecApartSpec : ChangeSpec := { name := "codecApart", fn := fun _ => fun
  | [d1, d2, d3, d4] => { results := [.lit (.bool true)], args := [d1, d2, d3, d4] }
  | _ => none }
def codecApartRow : OpenClaim := { program := "ytiiejjdkhekhmaa", sum := "7cdc2595d07580a5da937a88178fd580c6dca2b7c736231f39cf316f52720ed1", func := "pannier/pannierlaw01.CodecApart", spec := "codecApart", unfollowed := true, recurses := true, apart := false }
def CodecApartSaid : Prop := codecApartRow.holds Try.pinned (OpenSpec.ofChange codecApartSpec)

/-- ITS FALSE NEIGHBOUR: 'it returns false'. Refute it at one input. -/
def codecApartWrong : ChangeSpec := { name := "codecApart", fn := fun _ => fun
  | [d1, d2, d3, d4] => { results := [.lit (.bool false)], args := [d1, d2, d3, d4] }
  | _ => none }
def CodecApartWrongFalsely : Prop := codecApartRow.holds Try.pinned (OpenSpec.ofChange codecApartWrong)

/-- 'pannierlaw01.CodecMsgs': WHATEVER THE INPUT: true; the input reads as it did. -/
def codecMsgsSpec : ChangeSpec := { name := "codecMsgs", fn := fun _ => fun
  | [d] => { results := [.lit (.bool true)], args := [d] }
  | _ => none }
def codecMsgsRow : OpenClaim := { program := "ytiiejjdkhekhmaa", sum := "7cdc2595d07580a5da937a88178fd580c6dca2b7c736231f39cf316f52720ed1", func := "pannier/pannierlaw01.CodecMsgs", spec := "codecMsgs", unfollowed := true, recurses := true, apart := false }
def CodecMsgsSaid : Prop := codecMsgsRow.holds Try.pinned (OpenSpec.ofChange codecMsgsSpec)

/-- ITS FALSE NEIGHBOUR: 'it returns false'. Refute it at one input. -/
def codecMsgsWrong : ChangeSpec := { name := "codecMsgs", fn := fun _ => fun
  | [d] => { results := [.lit (.bool false)], args := [d] }
  | _ => none }
def CodecMsgsWrongFalsely : Prop := codecMsgsRow.holds Try.pinned (OpenSpec.ofChange codecMsgsWrong)

/-- 'pannierlaw01.CodecCuts': WHATEVER THE INPUT: true; the input reads as it did. -/
def codecCutsSpec : ChangeSpec := { name := "codecCuts", fn := fun _ => fun
  | [d1, d2, d3, d4] => { results := [.lit (.bool true)], args := [d1, d2, d3, d4] }
  | _ => none }
def codecCutsRow : OpenClaim := { program := "ytiiejjdkhekhmaa", sum := "7cdc2595d07580a5da937a88178fd580c6dca2b7c736231f39cf316f52720ed1", func := "pannier/pannierlaw01.CodecCuts", spec := "codecCuts", unfollowed := true, recurses := true, apart := false }
def CodecCutsSaid : Prop := codecCutsRow.holds Try.pinned (OpenSpec.ofChange codecCutsSpec)

/-- ITS FALSE NEIGHBOUR: 'it returns false'. Refute it at one input. -/
def codecCutsWrong : ChangeSpec := { name := "codecCuts", fn := fun _ => fun
  | [d1, d2, d3, d4] => { results := [.lit (.bool false)], args := [d1, d2, d3, d4] }
  | _ => none }
def CodecCutsWrongFalsely : Prop := codecCutsRow.holds Try.pinned (OpenSpec.ofChange codecCutsWrong)

/-- 'pannierlaw15.BallotPicks': WHATEVER THE INPUT: true; the input reads as it did. -/
def ballotPicksSpec : ChangeSpec := { name := "ballotPicks", fn := fun _ => fun
  | [d1, d2] => { results := [.lit (.bool true)], args := [d1, d2] }
  | _ => none }
def ballotPicksRow : OpenClaim := { program := "ytiiejjdkhekhmaa", sum := "7cdc2595d07580a5da937a88178fd580c6dca2b7c736231f39cf316f52720ed1", func := "pannier/pannierlaw15.BallotPicks", spec := "ballotPicks", recurses := true, apart := false }
def BallotPicksSaid : Prop := ballotPicksRow.holds Try.pinned (OpenSpec.ofChange ballotPicksSpec)

/-- ITS FALSE NEIGHBOUR: 'it returns false'. Refute it at one input. -/
def ballotPicksWrong : ChangeSpec := { name := "ballotPicks", fn := fun _ => fun
  | [d1, d2] => { results := [.lit (.bool false)], args := [d1, d2] }
  | _ => none }
def BallotPicksWrongFalsely : Prop := ballotPicksRow.holds Try.pinned (OpenSpec.ofChange ballotPicksWrong)

/- THE SECOND FORM. 'bulk': how many values and letters a reading holds, each counted each time it is reached (what is shared counts as often as it is met; a slice's spare places count too). A statement '..UptoSaid' is the law's where the arguments, and the package variables that the reading takes, are together of bulk at most 1048576: NARROWER than '..Said'. Prove '..Said' where nothing that the law and all that it calls make is longer than what came in: it says more and counts as full. Else prove '..UptoSaid'. A law counts once. -/
mutual
def uptoBulk {H : Type} : DataW H → Nat
  | .lit (.string bytes) => bytes.length + 1
  | .lit _ => 1
  | .nil => 1
  | .ptr d => uptoBulk d + 1
  | .slice elems spare => uptoBulkAll elems + uptoBulkAll spare + 1
  | .agg parts => uptoBulkAll parts + 1
  | .iface _ d => uptoBulk d + 1
  | .map entries => uptoBulkEntries entries + 1
  | .held _ => 1
def uptoBulkAll {H : Type} : List (DataW H) → Nat
  | [] => 0
  | d :: r => uptoBulk d + uptoBulkAll r
def uptoBulkEntries {H : Type} : List (Lit × DataW H) → Nat
  | [] => 0
  | x :: r => uptoBulkEntry x + uptoBulkEntries r
def uptoBulkEntry {H : Type} : Lit × DataW H → Nat
  | (.string bytes, d) => bytes.length + uptoBulk d + 1
  | (_, d) => uptoBulk d + 1
 end
def uptoSmall : (H : Type) → List (DataW H) → Bool := fun _ ds => decide (uptoBulkAll ds ≤ 1048576)
def OpenSpec.upto (s : _root_.Go.ChangeSpec) : _root_.Go.OpenSpec := { _root_.Go.OpenSpec.ofChange s with cond := some uptoSmall }

/-- 'pannierlaw01.CodecNumbers', WHERE WHAT IT READS IS OF BULK AT MOST 1048576: true; the input reads as it did. -/
def codecNumbersUptoRow : OpenClaim := { program := "ytiiejjdkhekhmaa", sum := "7cdc2595d07580a5da937a88178fd580c6dca2b7c736231f39cf316f52720ed1", func := "pannier/pannierlaw01.CodecNumbers", spec := "codecNumbers", apart := false, narrowed := true }
def CodecNumbersUptoSaid : Prop := codecNumbersUptoRow.holds Try.pinned (OpenSpec.upto codecNumbersSpec)

/-- 'pannierlaw01.CodecReads', WHERE WHAT IT READS IS OF BULK AT MOST 1048576: true; the input reads as it did. -/
def codecReadsUptoRow : OpenClaim := { program := "ytiiejjdkhekhmaa", sum := "7cdc2595d07580a5da937a88178fd580c6dca2b7c736231f39cf316f52720ed1", func := "pannier/pannierlaw01.CodecReads", spec := "codecReads", apart := false, narrowed := true }
def CodecReadsUptoSaid : Prop := codecReadsUptoRow.holds Try.pinned (OpenSpec.upto codecReadsSpec)

/-- 'pannierlaw01.CodecTexts', WHERE WHAT IT READS IS OF BULK AT MOST 1048576: true; the input reads as it did. -/
def codecTextsUptoRow : OpenClaim := { program := "ytiiejjdkhekhmaa", sum := "7cdc2595d07580a5da937a88178fd580c6dca2b7c736231f39cf316f52720ed1", func := "pannier/pannierlaw01.CodecTexts", spec := "codecTexts", apart := false, narrowed := true }
def CodecTextsUptoSaid : Prop := codecTextsUptoRow.holds Try.pinned (OpenSpec.upto codecTextsSpec)

/-- 'pannierlaw01.CodecLists', WHERE WHAT IT READS IS OF BULK AT MOST 1048576: true; the input reads as it did. -/
def codecListsUptoRow : OpenClaim := { program := "ytiiejjdkhekhmaa", sum := "7cdc2595d07580a5da937a88178fd580c6dca2b7c736231f39cf316f52720ed1", func := "pannier/pannierlaw01.CodecLists", spec := "codecLists", unfollowed := true, recurses := true, apart := false, narrowed := true }
def CodecListsUptoSaid : Prop := codecListsUptoRow.holds Try.pinned (OpenSpec.upto codecListsSpec)

/-- 'pannierlaw15.BallotMeets', WHERE WHAT IT READS IS OF BULK AT MOST 1048576: true; the input reads as it did. -/
def ballotMeetsUptoRow : OpenClaim := { program := "ytiiejjdkhekhmaa", sum := "7cdc2595d07580a5da937a88178fd580c6dca2b7c736231f39cf316f52720ed1", func := "pannier/pannierlaw15.BallotMeets", spec := "ballotMeets", apart := false, narrowed := true }
def BallotMeetsUptoSaid : Prop := ballotMeetsUptoRow.holds Try.pinned (OpenSpec.upto ballotMeetsSpec)

/-- 'pannierlaw15.BallotVotes', WHERE WHAT IT READS IS OF BULK AT MOST 1048576: true; the input reads as it did. -/
def ballotVotesUptoRow : OpenClaim := { program := "ytiiejjdkhekhmaa", sum := "7cdc2595d07580a5da937a88178fd580c6dca2b7c736231f39cf316f52720ed1", func := "pannier/pannierlaw15.BallotVotes", spec := "ballotVotes", apart := false, narrowed := true }
def BallotVotesUptoSaid : Prop := ballotVotesUptoRow.holds Try.pinned (OpenSpec.upto ballotVotesSpec)

/-- 'pannierlaw15.BallotNobody', WHERE WHAT IT READS IS OF BULK AT MOST 1048576: true; the input reads as it did. -/
def ballotNobodyUptoRow : OpenClaim := { program := "ytiiejjdkhekhmaa", sum := "7cdc2595d07580a5da937a88178fd580c6dca2b7c736231f39cf316f52720ed1", func := "pannier/pannierlaw15.BallotNobody", spec := "ballotNobody", apart := false, narrowed := true }
def BallotNobodyUptoSaid : Prop := ballotNobodyUptoRow.holds Try.pinned (OpenSpec.upto ballotNobodySpec)

/-- 'pannierlaw15.BallotOrder', WHERE WHAT IT READS IS OF BULK AT MOST 1048576: true; the input reads as it did. -/
def ballotOrderUptoRow : OpenClaim := { program := "ytiiejjdkhekhmaa", sum := "7cdc2595d07580a5da937a88178fd580c6dca2b7c736231f39cf316f52720ed1", func := "pannier/pannierlaw15.BallotOrder", spec := "ballotOrder", apart := false, narrowed := true }
def BallotOrderUptoSaid : Prop := ballotOrderUptoRow.holds Try.pinned (OpenSpec.upto ballotOrderSpec)

/-- 'pannierlaw15.BallotChain', WHERE WHAT IT READS IS OF BULK AT MOST 1048576: true; the input reads as it did. -/
def ballotChainUptoRow : OpenClaim := { program := "ytiiejjdkhekhmaa", sum := "7cdc2595d07580a5da937a88178fd580c6dca2b7c736231f39cf316f52720ed1", func := "pannier/pannierlaw15.BallotChain", spec := "ballotChain", apart := false, narrowed := true }
def BallotChainUptoSaid : Prop := ballotChainUptoRow.holds Try.pinned (OpenSpec.upto ballotChainSpec)

/-- 'pannierlaw01.CodecApart', WHERE WHAT IT READS IS OF BULK AT MOST 1048576: true; the input reads as it did. -/
def codecApartUptoRow : OpenClaim := { program := "ytiiejjdkhekhmaa", sum := "7cdc2595d07580a5da937a88178fd580c6dca2b7c736231f39cf316f52720ed1", func := "pannier/pannierlaw01.CodecApart", spec := "codecApart", unfollowed := true, recurses := true, apart := false, narrowed := true }
def CodecApartUptoSaid : Prop := codecApartUptoRow.holds Try.pinned (OpenSpec.upto codecApartSpec)

/-- 'pannierlaw01.CodecMsgs', WHERE WHAT IT READS IS OF BULK AT MOST 1048576: true; the input reads as it did. -/
def codecMsgsUptoRow : OpenClaim := { program := "ytiiejjdkhekhmaa", sum := "7cdc2595d07580a5da937a88178fd580c6dca2b7c736231f39cf316f52720ed1", func := "pannier/pannierlaw01.CodecMsgs", spec := "codecMsgs", unfollowed := true, recurses := true, apart := false, narrowed := true }
def CodecMsgsUptoSaid : Prop := codecMsgsUptoRow.holds Try.pinned (OpenSpec.upto codecMsgsSpec)

/-- 'pannierlaw01.CodecCuts', WHERE WHAT IT READS IS OF BULK AT MOST 1048576: true; the input reads as it did. -/
def codecCutsUptoRow : OpenClaim := { program := "ytiiejjdkhekhmaa", sum := "7cdc2595d07580a5da937a88178fd580c6dca2b7c736231f39cf316f52720ed1", func := "pannier/pannierlaw01.CodecCuts", spec := "codecCuts", unfollowed := true, recurses := true, apart := false, narrowed := true }
def CodecCutsUptoSaid : Prop := codecCutsUptoRow.holds Try.pinned (OpenSpec.upto codecCutsSpec)

/-- 'pannierlaw15.BallotPicks', WHERE WHAT IT READS IS OF BULK AT MOST 1048576: true; the input reads as it did. -/
def ballotPicksUptoRow : OpenClaim := { program := "ytiiejjdkhekhmaa", sum := "7cdc2595d07580a5da937a88178fd580c6dca2b7c736231f39cf316f52720ed1", func := "pannier/pannierlaw15.BallotPicks", spec := "ballotPicks", recurses := true, apart := false, narrowed := true }
def BallotPicksUptoSaid : Prop := ballotPicksUptoRow.holds Try.pinned (OpenSpec.upto ballotPicksSpec)

end Rows
end Go.Proofs.Ytiiejjdkhekhmaa
