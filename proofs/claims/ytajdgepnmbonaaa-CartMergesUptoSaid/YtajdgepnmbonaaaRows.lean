/-
  No cell of these rows narrows 'for every input' (looked for: loops, veiled, ifaces, maps, wideKeys, modest, calm, conditions, laid).
  DERIVED. THE GIVEN ROWS OF THIS SEAT. 9 by the template 'for every input the law returns true; each argument reads behind the call as it read before'; 0 by the template 'total and deterministic' (their statements: YtajdgepnmbonaaaTotals.lean).
  GIVEN WITH THE SEED: the statements are not yours to turn. If you find one false, say at which input.
  Laid BY PROGRAM, IN A SANDBOX (cutbox-rows.mjs): the forced cells as the released guide's own fill.sh prints them over the translation 00b1e05a180faa80… (all of the seat's roots in one cut). By AI agents, Wed Nov 11 2026. No macro, syntax, notation, axiom, sorry.
-/
import Derived.Test.YtajdgepnmbonaaaChecked
import GoSem.Claim
import GoSem.ClaimJoined
import GoSem.ClaimMapViews
import Derived.JoinedTies
import Derived.KernelRfl
namespace Go.Proofs.Ytajdgepnmbonaaa
/- THE CELL 'sum', in the pinned program and in every row, IS THE sha256 OF THE DUMP (.gsa) THAT YtajdgepnmbonaaaProg.lean LOADS. Nothing in Lean hashes anything: it is a label: what it is worth is what the hold of that sum in a sandbox is worth. -/
noncomputable def Try.pinned : Pinned := { name := "ytajdgepnmbonaaa", sum := "00b1e05a180faa803f667e435ad1fa2f9b17383f3d56e7301ca2ca28cd2ffc18", checked := Try.checked }
namespace Rows
def none {H : Type} : Left H := { results := [], args := [] }

/-- 'pannierlaw11.CartApart': WHATEVER THE INPUT: true; the input reads as it did. -/
def cartApartSpec : ChangeSpec := { name := "cartApart", fn := fun _ => fun
  | [d1, d2, d3, d4] => { results := [.lit (.bool true)], args := [d1, d2, d3, d4] }
  | _ => none }
def cartApartRow : OpenClaim := { program := "ytajdgepnmbonaaa", sum := "00b1e05a180faa803f667e435ad1fa2f9b17383f3d56e7301ca2ca28cd2ffc18", func := "pannier/pannierlaw11.CartApart", spec := "cartApart", unfollowed := true, recurses := true, plainKeys := false, apart := false }
def CartApartSaid : Prop := cartApartRow.holds Try.pinned (OpenSpec.ofChange cartApartSpec)

/-- ITS FALSE NEIGHBOUR: 'it returns false'. Refute it at one input. -/
def cartApartWrong : ChangeSpec := { name := "cartApart", fn := fun _ => fun
  | [d1, d2, d3, d4] => { results := [.lit (.bool false)], args := [d1, d2, d3, d4] }
  | _ => none }
def CartApartWrongFalsely : Prop := cartApartRow.holds Try.pinned (OpenSpec.ofChange cartApartWrong)

/-- 'pannierlaw11.CartKnown': WHATEVER THE INPUT: true; the input reads as it did. -/
def cartKnownSpec : ChangeSpec := { name := "cartKnown", fn := fun _ => fun
  | [d1, d2, d3, d4, d5] => { results := [.lit (.bool true)], args := [d1, d2, d3, d4, d5] }
  | _ => none }
def cartKnownRow : OpenClaim := { program := "ytajdgepnmbonaaa", sum := "00b1e05a180faa803f667e435ad1fa2f9b17383f3d56e7301ca2ca28cd2ffc18", func := "pannier/pannierlaw11.CartKnown", spec := "cartKnown", unfollowed := true, recurses := true, plainKeys := false, apart := false }
def CartKnownSaid : Prop := cartKnownRow.holds Try.pinned (OpenSpec.ofChange cartKnownSpec)

/-- ITS FALSE NEIGHBOUR: 'it returns false'. Refute it at one input. -/
def cartKnownWrong : ChangeSpec := { name := "cartKnown", fn := fun _ => fun
  | [d1, d2, d3, d4, d5] => { results := [.lit (.bool false)], args := [d1, d2, d3, d4, d5] }
  | _ => none }
def CartKnownWrongFalsely : Prop := cartKnownRow.holds Try.pinned (OpenSpec.ofChange cartKnownWrong)

/-- 'pannierlaw11.CartPieces': WHATEVER THE INPUT: true; the input reads as it did. -/
def cartPiecesSpec : ChangeSpec := { name := "cartPieces", fn := fun _ => fun
  | [d1, d2, d3, d4] => { results := [.lit (.bool true)], args := [d1, d2, d3, d4] }
  | _ => none }
def cartPiecesRow : OpenClaim := { program := "ytajdgepnmbonaaa", sum := "00b1e05a180faa803f667e435ad1fa2f9b17383f3d56e7301ca2ca28cd2ffc18", func := "pannier/pannierlaw11.CartPieces", spec := "cartPieces", unfollowed := true, recurses := true, plainKeys := false, apart := false }
def CartPiecesSaid : Prop := cartPiecesRow.holds Try.pinned (OpenSpec.ofChange cartPiecesSpec)

/-- ITS FALSE NEIGHBOUR: 'it returns false'. Refute it at one input. -/
def cartPiecesWrong : ChangeSpec := { name := "cartPieces", fn := fun _ => fun
  | [d1, d2, d3, d4] => { results := [.lit (.bool false)], args := [d1, d2, d3, d4] }
  | _ => none }
def CartPiecesWrongFalsely : Prop := cartPiecesRow.holds Try.pinned (OpenSpec.ofChange cartPiecesWrong)

/-- 'pannierlaw11.CartAdds': WHATEVER THE INPUT: true; the input reads as it did. -/
def cartAddsSpec : ChangeSpec := { name := "cartAdds", fn := fun _ => fun
  | [d1, d2, d3, d4] => { results := [.lit (.bool true)], args := [d1, d2, d3, d4] }
  | _ => none }
def cartAddsRow : OpenClaim := { program := "ytajdgepnmbonaaa", sum := "00b1e05a180faa803f667e435ad1fa2f9b17383f3d56e7301ca2ca28cd2ffc18", func := "pannier/pannierlaw11.CartAdds", spec := "cartAdds", unfollowed := true, recurses := true, plainKeys := false, apart := false }
def CartAddsSaid : Prop := cartAddsRow.holds Try.pinned (OpenSpec.ofChange cartAddsSpec)

/-- ITS FALSE NEIGHBOUR: 'it returns false'. Refute it at one input. -/
def cartAddsWrong : ChangeSpec := { name := "cartAdds", fn := fun _ => fun
  | [d1, d2, d3, d4] => { results := [.lit (.bool false)], args := [d1, d2, d3, d4] }
  | _ => none }
def CartAddsWrongFalsely : Prop := cartAddsRow.holds Try.pinned (OpenSpec.ofChange cartAddsWrong)

/-- 'pannierlaw12.CutOnce': WHATEVER THE INPUT: true; the input reads as it did. -/
def cutOnceSpec : ChangeSpec := { name := "cutOnce", fn := fun _ => fun
  | [d1, d2, d3] => { results := [.lit (.bool true)], args := [d1, d2, d3] }
  | _ => none }
def cutOnceRow : OpenClaim := { program := "ytajdgepnmbonaaa", sum := "00b1e05a180faa803f667e435ad1fa2f9b17383f3d56e7301ca2ca28cd2ffc18", func := "pannier/pannierlaw12.CutOnce", spec := "cutOnce", unfollowed := true, recurses := true, plainKeys := false, apart := false }
def CutOnceSaid : Prop := cutOnceRow.holds Try.pinned (OpenSpec.ofChange cutOnceSpec)

/-- ITS FALSE NEIGHBOUR: 'it returns false'. Refute it at one input. -/
def cutOnceWrong : ChangeSpec := { name := "cutOnce", fn := fun _ => fun
  | [d1, d2, d3] => { results := [.lit (.bool false)], args := [d1, d2, d3] }
  | _ => none }
def CutOnceWrongFalsely : Prop := cutOnceRow.holds Try.pinned (OpenSpec.ofChange cutOnceWrong)

/-- 'pannierlaw12.CutLate': WHATEVER THE INPUT: true; the input reads as it did. -/
def cutLateSpec : ChangeSpec := { name := "cutLate", fn := fun _ => fun
  | [d1, d2, d3, d4, d5] => { results := [.lit (.bool true)], args := [d1, d2, d3, d4, d5] }
  | _ => none }
def cutLateRow : OpenClaim := { program := "ytajdgepnmbonaaa", sum := "00b1e05a180faa803f667e435ad1fa2f9b17383f3d56e7301ca2ca28cd2ffc18", func := "pannier/pannierlaw12.CutLate", spec := "cutLate", unfollowed := true, recurses := true, plainKeys := false, apart := false }
def CutLateSaid : Prop := cutLateRow.holds Try.pinned (OpenSpec.ofChange cutLateSpec)

/-- ITS FALSE NEIGHBOUR: 'it returns false'. Refute it at one input. -/
def cutLateWrong : ChangeSpec := { name := "cutLate", fn := fun _ => fun
  | [d1, d2, d3, d4, d5] => { results := [.lit (.bool false)], args := [d1, d2, d3, d4, d5] }
  | _ => none }
def CutLateWrongFalsely : Prop := cutLateRow.holds Try.pinned (OpenSpec.ofChange cutLateWrong)

/-- 'pannierlaw12.CutNone': WHATEVER THE INPUT: true; the input reads as it did. -/
def cutNoneSpec : ChangeSpec := { name := "cutNone", fn := fun _ => fun
  | [d1, d2, d3] => { results := [.lit (.bool true)], args := [d1, d2, d3] }
  | _ => none }
def cutNoneRow : OpenClaim := { program := "ytajdgepnmbonaaa", sum := "00b1e05a180faa803f667e435ad1fa2f9b17383f3d56e7301ca2ca28cd2ffc18", func := "pannier/pannierlaw12.CutNone", spec := "cutNone", unfollowed := true, recurses := true, plainKeys := false, apart := false }
def CutNoneSaid : Prop := cutNoneRow.holds Try.pinned (OpenSpec.ofChange cutNoneSpec)

/-- ITS FALSE NEIGHBOUR: 'it returns false'. Refute it at one input. -/
def cutNoneWrong : ChangeSpec := { name := "cutNone", fn := fun _ => fun
  | [d1, d2, d3] => { results := [.lit (.bool false)], args := [d1, d2, d3] }
  | _ => none }
def CutNoneWrongFalsely : Prop := cutNoneRow.holds Try.pinned (OpenSpec.ofChange cutNoneWrong)

/-- 'pannierlaw12.CutWhole': WHATEVER THE INPUT: true; the input reads as it did. -/
def cutWholeSpec : ChangeSpec := { name := "cutWhole", fn := fun _ => fun
  | [d1, d2, d3, d4, d5] => { results := [.lit (.bool true)], args := [d1, d2, d3, d4, d5] }
  | _ => none }
def cutWholeRow : OpenClaim := { program := "ytajdgepnmbonaaa", sum := "00b1e05a180faa803f667e435ad1fa2f9b17383f3d56e7301ca2ca28cd2ffc18", func := "pannier/pannierlaw12.CutWhole", spec := "cutWhole", unfollowed := true, recurses := true, plainKeys := false, apart := false }
def CutWholeSaid : Prop := cutWholeRow.holds Try.pinned (OpenSpec.ofChange cutWholeSpec)

/-- ITS FALSE NEIGHBOUR: 'it returns false'. Refute it at one input. -/
def cutWholeWrong : ChangeSpec := { name := "cutWhole", fn := fun _ => fun
  | [d1, d2, d3, d4, d5] => { results := [.lit (.bool false)], args := [d1, d2, d3, d4, d5] }
  | _ => none }
def CutWholeWrongFalsely : Prop := cutWholeRow.holds Try.pinned (OpenSpec.ofChange cutWholeWrong)

/-- 'pannierlaw11.CartMerges': WHATEVER THE INPUT: true; the input reads as it did. -/
def cartMergesSpec : ChangeSpec := { name := "cartMerges", fn := fun _ => fun
  | [d1, d2, d3, d4] => { results := [.lit (.bool true)], args := [d1, d2, d3, d4] }
  | _ => none }
def cartMergesRow : OpenClaim := { program := "ytajdgepnmbonaaa", sum := "00b1e05a180faa803f667e435ad1fa2f9b17383f3d56e7301ca2ca28cd2ffc18", func := "pannier/pannierlaw11.CartMerges", spec := "cartMerges", unfollowed := true, recurses := true, plainKeys := false, apart := false }
def CartMergesSaid : Prop := cartMergesRow.holds Try.pinned (OpenSpec.ofChange cartMergesSpec)

/-- ITS FALSE NEIGHBOUR: 'it returns false'. Refute it at one input. -/
def cartMergesWrong : ChangeSpec := { name := "cartMerges", fn := fun _ => fun
  | [d1, d2, d3, d4] => { results := [.lit (.bool false)], args := [d1, d2, d3, d4] }
  | _ => none }
def CartMergesWrongFalsely : Prop := cartMergesRow.holds Try.pinned (OpenSpec.ofChange cartMergesWrong)

/- THE SECOND FORM. 'bulk': how many values and letters a reading holds, each counted each time it is reached (what is shared counts as often as it is met; a slice's spare places count too). A statement '..UptoSaid' is the law's where the arguments, and the package variables that the reading takes, are together of bulk at most 1048576: NARROWER than '..Said'. Prove '..Said' where nothing that the law and all that it calls make is longer than what came in: it says more and counts as full. Else prove '..UptoSaid'. A law counts once. -/
mutual
def uptoBulk {H : Type} : DataW H → Nat
  | .lit (.string bytes) => bytes.length + 1
  | .lit _ => 1
  | .nil => 1
  | .ptr d => uptoBulk d + 1
  | .slice elems spare => uptoBulkAll elems + uptoBulkAll spare + 1
  | .agg parts => uptoBulkAll parts + 1
  | .iface _ d => uptoBulk d + 1
  | .map entries => uptoBulkEntries entries + 1
  | .held _ => 1
def uptoBulkAll {H : Type} : List (DataW H) → Nat
  | [] => 0
  | d :: r => uptoBulk d + uptoBulkAll r
def uptoBulkEntries {H : Type} : List (Lit × DataW H) → Nat
  | [] => 0
  | x :: r => uptoBulkEntry x + uptoBulkEntries r
def uptoBulkEntry {H : Type} : Lit × DataW H → Nat
  | (.string bytes, d) => bytes.length + uptoBulk d + 1
  | (_, d) => uptoBulk d + 1
 end
def uptoSmall : (H : Type) → List (DataW H) → Bool := fun _ ds => decide (uptoBulkAll ds ≤ 1048576)
def OpenSpec.upto (s : _root_.Go.ChangeSpec) : _root_.Go.OpenSpec := { _root_.Go.OpenSpec.ofChange s with cond := some uptoSmall }

/-- 'pannierlaw11.CartApart', WHERE WHAT IT READS IS OF BULK AT MOST 1048576: true; the input reads as it did. -/
def cartApartUptoRow : OpenClaim := { program := "ytajdgepnmbonaaa", sum := "00b1e05a180faa803f667e435ad1fa2f9b17383f3d56e7301ca2ca28cd2ffc18", func := "pannier/pannierlaw11.CartApart", spec := "cartApart", unfollowed := true, recurses := true, plainKeys := false, apart := false, narrowed := true }
def CartApartUptoSaid : Prop := cartApartUptoRow.holds Try.pinned (OpenSpec.upto cartApartSpec)

/-- 'pannierlaw11.CartKnown', WHERE WHAT IT READS IS OF BULK AT MOST 1048576: true; the input reads as it did. -/
def cartKnownUptoRow : OpenClaim := { program := "ytajdgepnmbonaaa", sum := "00b1e05a180faa803f667e435ad1fa2f9b17383f3d56e7301ca2ca28cd2ffc18", func := "pannier/pannierlaw11.CartKnown", spec := "cartKnown", unfollowed := true, recurses := true, plainKeys := false, apart := false, narrowed := true }
def CartKnownUptoSaid : Prop := cartKnownUptoRow.holds Try.pinned (OpenSpec.upto cartKnownSpec)

/-- 'pannierlaw11.CartPieces', WHERE WHAT IT READS IS OF BULK AT MOST 1048576: true; the input reads as it did. -/
def cartPiecesUptoRow : OpenClaim := { program := "ytajdgepnmbonaaa", sum := "00b1e05a180faa803f667e435ad1fa2f9b17383f3d56e7301ca2ca28cd2ffc18", func := "pannier/pannierlaw11.CartPieces", spec := "cartPieces", unfollowed := true, recurses := true, plainKeys := false, apart := false, narrowed := true }
def CartPiecesUptoSaid : Prop := cartPiecesUptoRow.holds Try.pinned (OpenSpec.upto cartPiecesSpec)

/-- 'pannierlaw11.CartAdds', WHERE WHAT IT READS IS OF BULK AT MOST 1048576: true; the input reads as it did. -/
def cartAddsUptoRow : OpenClaim := { program := "ytajdgepnmbonaaa", sum := "00b1e05a180faa803f667e435ad1fa2f9b17383f3d56e7301ca2ca28cd2ffc18", func := "pannier/pannierlaw11.CartAdds", spec := "cartAdds", unfollowed := true, recurses := true, plainKeys := false, apart := false, narrowed := true }
def CartAddsUptoSaid : Prop := cartAddsUptoRow.holds Try.pinned (OpenSpec.upto cartAddsSpec)

/-- 'pannierlaw12.CutOnce', WHERE WHAT IT READS IS OF BULK AT MOST 1048576: true; the input reads as it did. -/
def cutOnceUptoRow : OpenClaim := { program := "ytajdgepnmbonaaa", sum := "00b1e05a180faa803f667e435ad1fa2f9b17383f3d56e7301ca2ca28cd2ffc18", func := "pannier/pannierlaw12.CutOnce", spec := "cutOnce", unfollowed := true, recurses := true, plainKeys := false, apart := false, narrowed := true }
def CutOnceUptoSaid : Prop := cutOnceUptoRow.holds Try.pinned (OpenSpec.upto cutOnceSpec)

/-- 'pannierlaw12.CutLate', WHERE WHAT IT READS IS OF BULK AT MOST 1048576: true; the input reads as it did. -/
def cutLateUptoRow : OpenClaim := { program := "ytajdgepnmbonaaa", sum := "00b1e05a180faa803f667e435ad1fa2f9b17383f3d56e7301ca2ca28cd2ffc18", func := "pannier/pannierlaw12.CutLate", spec := "cutLate", unfollowed := true, recurses := true, plainKeys := false, apart := false, narrowed := true }
def CutLateUptoSaid : Prop := cutLateUptoRow.holds Try.pinned (OpenSpec.upto cutLateSpec)

/-- 'pannierlaw12.CutNone', WHERE WHAT IT READS IS OF BULK AT MOST 1048576: true; the input reads as it did. -/
def cutNoneUptoRow : OpenClaim := { program := "ytajdgepnmbonaaa", sum := "00b1e05a180faa803f667e435ad1fa2f9b17383f3d56e7301ca2ca28cd2ffc18", func := "pannier/pannierlaw12.CutNone", spec := "cutNone", unfollowed := true, recurses := true, plainKeys := false, apart := false, narrowed := true }
def CutNoneUptoSaid : Prop := cutNoneUptoRow.holds Try.pinned (OpenSpec.upto cutNoneSpec)

/-- 'pannierlaw12.CutWhole', WHERE WHAT IT READS IS OF BULK AT MOST 1048576: true; the input reads as it did. -/
def cutWholeUptoRow : OpenClaim := { program := "ytajdgepnmbonaaa", sum := "00b1e05a180faa803f667e435ad1fa2f9b17383f3d56e7301ca2ca28cd2ffc18", func := "pannier/pannierlaw12.CutWhole", spec := "cutWhole", unfollowed := true, recurses := true, plainKeys := false, apart := false, narrowed := true }
def CutWholeUptoSaid : Prop := cutWholeUptoRow.holds Try.pinned (OpenSpec.upto cutWholeSpec)

/-- 'pannierlaw11.CartMerges', WHERE WHAT IT READS IS OF BULK AT MOST 1048576: true; the input reads as it did. -/
def cartMergesUptoRow : OpenClaim := { program := "ytajdgepnmbonaaa", sum := "00b1e05a180faa803f667e435ad1fa2f9b17383f3d56e7301ca2ca28cd2ffc18", func := "pannier/pannierlaw11.CartMerges", spec := "cartMerges", unfollowed := true, recurses := true, plainKeys := false, apart := false, narrowed := true }
def CartMergesUptoSaid : Prop := cartMergesUptoRow.holds Try.pinned (OpenSpec.upto cartMergesSpec)

end Rows
end Go.Proofs.Ytajdgepnmbonaaa
