/-
  No cell of these rows narrows 'for every input' (looked for: loops, veiled, ifaces, maps, wideKeys, modest, calm, conditions, laid).
  DERIVED. THE GIVEN ROWS OF THIS SEAT. 11 by the template 'for every input the law returns true; each argument reads behind the call as it read before'; 0 by the template 'total and deterministic' (their statements: YtibejpgjgkeheaaTotals.lean).
  GIVEN WITH THE SEED: the statements are not yours to turn. If you find one false, say at which input.
  Laid BY PROGRAM, IN A SANDBOX (cutbox-rows.mjs): the forced cells as the released guide's own fill.sh prints them over the translation 418bfd10e9cadf1e… (all of the seat's roots in one cut). By AI agents, Wed Nov 11 2026. No macro, syntax, notation, axiom, sorry.
-/
import Derived.Test.YtibejpgjgkeheaaChecked
import GoSem.Claim
import GoSem.ClaimJoined
import GoSem.ClaimMapViews
import Derived.JoinedTies
import Derived.KernelRfl
namespace Go.Proofs.Ytibejpgjgkeheaa
/- THE CELL 'sum', in the pinned program and in every row, IS THE sha256 OF THE DUMP (.gsa) THAT YtibejpgjgkeheaaProg.lean LOADS. Nothing in Lean hashes anything: it is a label: what it is worth is what the hold of that sum in a sandbox is worth. -/
noncomputable def Try.pinned : Pinned := { name := "ytibejpgjgkeheaa", sum := "418bfd10e9cadf1ec938a57cf5b5506184e6a329f0808d6dbdd177004e8d0d50", checked := Try.checked }
namespace Rows
def none {H : Type} : Left H := { results := [], args := [] }

/-- 'pannierlaw15.BallotPicks': WHATEVER THE INPUT: true; the input reads as it did. -/
def ballotPicksSpec : ChangeSpec := { name := "ballotPicks", fn := fun _ => fun
  | [d1, d2] => { results := [.lit (.bool true)], args := [d1, d2] }
  | _ => none }
def ballotPicksRow : OpenClaim := { program := "ytibejpgjgkeheaa", sum := "418bfd10e9cadf1ec938a57cf5b5506184e6a329f0808d6dbdd177004e8d0d50", func := "pannier/pannierlaw15.BallotPicks", spec := "ballotPicks", recurses := true, apart := false }
def BallotPicksSaid : Prop := ballotPicksRow.holds Try.pinned (OpenSpec.ofChange ballotPicksSpec)

/-- ITS FALSE NEIGHBOUR: 'it returns false'. Refute it at one input. -/
def ballotPicksWrong : ChangeSpec := { name := "ballotPicks", fn := fun _ => fun
  | [d1, d2] => { results := [.lit (.bool false)], args := [d1, d2] }
  | _ => none }
def BallotPicksWrongFalsely : Prop := ballotPicksRow.holds Try.pinned (OpenSpec.ofChange ballotPicksWrong)

/-- 'pannierlaw16.AcceptorKeeps': WHATEVER THE INPUT: true; the input reads as it did. -/
def acceptorKeepsSpec : ChangeSpec := { name := "acceptorKeeps", fn := fun _ => fun
  | [d1, d2] => { results := [.lit (.bool true)], args := [d1, d2] }
  | _ => none }
def acceptorKeepsRow : OpenClaim := { program := "ytibejpgjgkeheaa", sum := "418bfd10e9cadf1ec938a57cf5b5506184e6a329f0808d6dbdd177004e8d0d50", func := "pannier/pannierlaw16.AcceptorKeeps", spec := "acceptorKeeps", unfollowed := true, recurses := true, apart := false }
def AcceptorKeepsSaid : Prop := acceptorKeepsRow.holds Try.pinned (OpenSpec.ofChange acceptorKeepsSpec)

/-- ITS FALSE NEIGHBOUR: 'it returns false'. Refute it at one input. -/
def acceptorKeepsWrong : ChangeSpec := { name := "acceptorKeeps", fn := fun _ => fun
  | [d1, d2] => { results := [.lit (.bool false)], args := [d1, d2] }
  | _ => none }
def AcceptorKeepsWrongFalsely : Prop := acceptorKeepsRow.holds Try.pinned (OpenSpec.ofChange acceptorKeepsWrong)

/-- 'pannierlaw16.AcceptorFinal': WHATEVER THE INPUT: true; the input reads as it did. -/
def acceptorFinalSpec : ChangeSpec := { name := "acceptorFinal", fn := fun _ => fun
  | [d1, d2, d3] => { results := [.lit (.bool true)], args := [d1, d2, d3] }
  | _ => none }
def acceptorFinalRow : OpenClaim := { program := "ytibejpgjgkeheaa", sum := "418bfd10e9cadf1ec938a57cf5b5506184e6a329f0808d6dbdd177004e8d0d50", func := "pannier/pannierlaw16.AcceptorFinal", spec := "acceptorFinal", unfollowed := true, recurses := true, apart := false }
def AcceptorFinalSaid : Prop := acceptorFinalRow.holds Try.pinned (OpenSpec.ofChange acceptorFinalSpec)

/-- ITS FALSE NEIGHBOUR: 'it returns false'. Refute it at one input. -/
def acceptorFinalWrong : ChangeSpec := { name := "acceptorFinal", fn := fun _ => fun
  | [d1, d2, d3] => { results := [.lit (.bool false)], args := [d1, d2, d3] }
  | _ => none }
def AcceptorFinalWrongFalsely : Prop := acceptorFinalRow.holds Try.pinned (OpenSpec.ofChange acceptorFinalWrong)

/-- 'pannierlaw16.AcceptorDoes': WHATEVER THE INPUT: true; the input reads as it did. -/
def acceptorDoesSpec : ChangeSpec := { name := "acceptorDoes", fn := fun _ => fun
  | [d1, d2, d3] => { results := [.lit (.bool true)], args := [d1, d2, d3] }
  | _ => none }
def acceptorDoesRow : OpenClaim := { program := "ytibejpgjgkeheaa", sum := "418bfd10e9cadf1ec938a57cf5b5506184e6a329f0808d6dbdd177004e8d0d50", func := "pannier/pannierlaw16.AcceptorDoes", spec := "acceptorDoes", inPlace := ["maps.clone"], unfollowed := true, recurses := true, apart := false }
def AcceptorDoesSaid : Prop := acceptorDoesRow.holds Try.pinned (OpenSpec.ofChange acceptorDoesSpec)

/-- ITS FALSE NEIGHBOUR: 'it returns false'. Refute it at one input. -/
def acceptorDoesWrong : ChangeSpec := { name := "acceptorDoes", fn := fun _ => fun
  | [d1, d2, d3] => { results := [.lit (.bool false)], args := [d1, d2, d3] }
  | _ => none }
def AcceptorDoesWrongFalsely : Prop := acceptorDoesRow.holds Try.pinned (OpenSpec.ofChange acceptorDoesWrong)

/-- 'pannierlaw16.AcceptorLasts': WHATEVER THE INPUT: true; the input reads as it did. -/
def acceptorLastsSpec : ChangeSpec := { name := "acceptorLasts", fn := fun _ => fun
  | [d1, d2, d3] => { results := [.lit (.bool true)], args := [d1, d2, d3] }
  | _ => none }
def acceptorLastsRow : OpenClaim := { program := "ytibejpgjgkeheaa", sum := "418bfd10e9cadf1ec938a57cf5b5506184e6a329f0808d6dbdd177004e8d0d50", func := "pannier/pannierlaw16.AcceptorLasts", spec := "acceptorLasts", unfollowed := true, recurses := true, apart := false }
def AcceptorLastsSaid : Prop := acceptorLastsRow.holds Try.pinned (OpenSpec.ofChange acceptorLastsSpec)

/-- ITS FALSE NEIGHBOUR: 'it returns false'. Refute it at one input. -/
def acceptorLastsWrong : ChangeSpec := { name := "acceptorLasts", fn := fun _ => fun
  | [d1, d2, d3] => { results := [.lit (.bool false)], args := [d1, d2, d3] }
  | _ => none }
def AcceptorLastsWrongFalsely : Prop := acceptorLastsRow.holds Try.pinned (OpenSpec.ofChange acceptorLastsWrong)

/-- 'pannierlaw16.AcceptorNobody': WHATEVER THE INPUT: true; the input reads as it did. -/
def acceptorNobodySpec : ChangeSpec := { name := "acceptorNobody", fn := fun _ => fun
  | [d1, d2] => { results := [.lit (.bool true)], args := [d1, d2] }
  | _ => none }
def acceptorNobodyRow : OpenClaim := { program := "ytibejpgjgkeheaa", sum := "418bfd10e9cadf1ec938a57cf5b5506184e6a329f0808d6dbdd177004e8d0d50", func := "pannier/pannierlaw16.AcceptorNobody", spec := "acceptorNobody", inPlace := ["maps.clone"], unfollowed := true, recurses := true, apart := false }
def AcceptorNobodySaid : Prop := acceptorNobodyRow.holds Try.pinned (OpenSpec.ofChange acceptorNobodySpec)

/-- ITS FALSE NEIGHBOUR: 'it returns false'. Refute it at one input. -/
def acceptorNobodyWrong : ChangeSpec := { name := "acceptorNobody", fn := fun _ => fun
  | [d1, d2] => { results := [.lit (.bool false)], args := [d1, d2] }
  | _ => none }
def AcceptorNobodyWrongFalsely : Prop := acceptorNobodyRow.holds Try.pinned (OpenSpec.ofChange acceptorNobodyWrong)

/-- 'pannierlaw17.ProposerKeeps': WHATEVER THE INPUT: true; the input reads as it did. -/
def proposerKeepsSpec : ChangeSpec := { name := "proposerKeeps", fn := fun _ => fun
  | [d1, d2, d3] => { results := [.lit (.bool true)], args := [d1, d2, d3] }
  | _ => none }
def proposerKeepsRow : OpenClaim := { program := "ytibejpgjgkeheaa", sum := "418bfd10e9cadf1ec938a57cf5b5506184e6a329f0808d6dbdd177004e8d0d50", func := "pannier/pannierlaw17.ProposerKeeps", spec := "proposerKeeps", unfollowed := true, recurses := true, apart := false }
def ProposerKeepsSaid : Prop := proposerKeepsRow.holds Try.pinned (OpenSpec.ofChange proposerKeepsSpec)

/-- ITS FALSE NEIGHBOUR: 'it returns false'. Refute it at one input. -/
def proposerKeepsWrong : ChangeSpec := { name := "proposerKeeps", fn := fun _ => fun
  | [d1, d2, d3] => { results := [.lit (.bool false)], args := [d1, d2, d3] }
  | _ => none }
def ProposerKeepsWrongFalsely : Prop := proposerKeepsRow.holds Try.pinned (OpenSpec.ofChange proposerKeepsWrong)

/-- 'pannierlaw17.ProposerAlone': WHATEVER THE INPUT: true; the input reads as it did. -/
def proposerAloneSpec : ChangeSpec := { name := "proposerAlone", fn := fun _ => fun
  | [d1, d2] => { results := [.lit (.bool true)], args := [d1, d2] }
  | _ => none }
def proposerAloneRow : OpenClaim := { program := "ytibejpgjgkeheaa", sum := "418bfd10e9cadf1ec938a57cf5b5506184e6a329f0808d6dbdd177004e8d0d50", func := "pannier/pannierlaw17.ProposerAlone", spec := "proposerAlone", unfollowed := true, recurses := true, apart := false }
def ProposerAloneSaid : Prop := proposerAloneRow.holds Try.pinned (OpenSpec.ofChange proposerAloneSpec)

/-- ITS FALSE NEIGHBOUR: 'it returns false'. Refute it at one input. -/
def proposerAloneWrong : ChangeSpec := { name := "proposerAlone", fn := fun _ => fun
  | [d1, d2] => { results := [.lit (.bool false)], args := [d1, d2] }
  | _ => none }
def ProposerAloneWrongFalsely : Prop := proposerAloneRow.holds Try.pinned (OpenSpec.ofChange proposerAloneWrong)

/-- 'pannierlaw17.ProposerOnce': WHATEVER THE INPUT: true; the input reads as it did. -/
def proposerOnceSpec : ChangeSpec := { name := "proposerOnce", fn := fun _ => fun
  | [d1, d2, d3] => { results := [.lit (.bool true)], args := [d1, d2, d3] }
  | _ => none }
def proposerOnceRow : OpenClaim := { program := "ytibejpgjgkeheaa", sum := "418bfd10e9cadf1ec938a57cf5b5506184e6a329f0808d6dbdd177004e8d0d50", func := "pannier/pannierlaw17.ProposerOnce", spec := "proposerOnce", unfollowed := true, recurses := true, apart := false }
def ProposerOnceSaid : Prop := proposerOnceRow.holds Try.pinned (OpenSpec.ofChange proposerOnceSpec)

/-- ITS FALSE NEIGHBOUR: 'it returns false'. Refute it at one input. -/
def proposerOnceWrong : ChangeSpec := { name := "proposerOnce", fn := fun _ => fun
  | [d1, d2, d3] => { results := [.lit (.bool false)], args := [d1, d2, d3] }
  | _ => none }
def ProposerOnceWrongFalsely : Prop := proposerOnceRow.holds Try.pinned (OpenSpec.ofChange proposerOnceWrong)

/-- 'pannierlaw17.ProposerNobody': WHATEVER THE INPUT: true; the input reads as it did. -/
def proposerNobodySpec : ChangeSpec := { name := "proposerNobody", fn := fun _ => fun
  | [d] => { results := [.lit (.bool true)], args := [d] }
  | _ => none }
def proposerNobodyRow : OpenClaim := { program := "ytibejpgjgkeheaa", sum := "418bfd10e9cadf1ec938a57cf5b5506184e6a329f0808d6dbdd177004e8d0d50", func := "pannier/pannierlaw17.ProposerNobody", spec := "proposerNobody", unfollowed := true, recurses := true, apart := false }
def ProposerNobodySaid : Prop := proposerNobodyRow.holds Try.pinned (OpenSpec.ofChange proposerNobodySpec)

/-- ITS FALSE NEIGHBOUR: 'it returns false'. Refute it at one input. -/
def proposerNobodyWrong : ChangeSpec := { name := "proposerNobody", fn := fun _ => fun
  | [d] => { results := [.lit (.bool false)], args := [d] }
  | _ => none }
def ProposerNobodyWrongFalsely : Prop := proposerNobodyRow.holds Try.pinned (OpenSpec.ofChange proposerNobodyWrong)

/-- 'pannierlaw17.ProposerAgrees': WHATEVER THE INPUT: true; the input reads as it did. -/
def proposerAgreesSpec : ChangeSpec := { name := "proposerAgrees", fn := fun _ => fun
  | [d1, d2] => { results := [.lit (.bool true)], args := [d1, d2] }
  | _ => none }
def proposerAgreesRow : OpenClaim := { program := "ytibejpgjgkeheaa", sum := "418bfd10e9cadf1ec938a57cf5b5506184e6a329f0808d6dbdd177004e8d0d50", func := "pannier/pannierlaw17.ProposerAgrees", spec := "proposerAgrees", unfollowed := true, recurses := true, apart := false }
def ProposerAgreesSaid : Prop := proposerAgreesRow.holds Try.pinned (OpenSpec.ofChange proposerAgreesSpec)

/-- ITS FALSE NEIGHBOUR: 'it returns false'. Refute it at one input. -/
def proposerAgreesWrong : ChangeSpec := { name := "proposerAgrees", fn := fun _ => fun
  | [d1, d2] => { results := [.lit (.bool false)], args := [d1, d2] }
  | _ => none }
def ProposerAgreesWrongFalsely : Prop := proposerAgreesRow.holds Try.pinned (OpenSpec.ofChange proposerAgreesWrong)

/- THE SECOND FORM. 'bulk': how many values and letters a reading holds, each counted each time it is reached (what is shared counts as often as it is met; a slice's spare places count too). A statement '..UptoSaid' is the law's where the arguments, and the package variables that the reading takes, are together of bulk at most 1048576: NARROWER than '..Said'. Prove '..Said' where nothing that the law and all that it calls make is longer than what came in: it says more and counts as full. Else prove '..UptoSaid'. A law counts once. -/
mutual
def uptoBulk {H : Type} : DataW H → Nat
  | .lit (.string bytes) => bytes.length + 1
  | .lit _ => 1
  | .nil => 1
  | .ptr d => uptoBulk d + 1
  | .slice elems spare => uptoBulkAll elems + uptoBulkAll spare + 1
  | .agg parts => uptoBulkAll parts + 1
  | .iface _ d => uptoBulk d + 1
  | .map entries => uptoBulkEntries entries + 1
  | .held _ => 1
def uptoBulkAll {H : Type} : List (DataW H) → Nat
  | [] => 0
  | d :: r => uptoBulk d + uptoBulkAll r
def uptoBulkEntries {H : Type} : List (Lit × DataW H) → Nat
  | [] => 0
  | x :: r => uptoBulkEntry x + uptoBulkEntries r
def uptoBulkEntry {H : Type} : Lit × DataW H → Nat
  | (.string bytes, d) => bytes.length + uptoBulk d + 1
  | (_, d) => uptoBulk d + 1
 end
def uptoSmall : (H : Type) → List (DataW H) → Bool := fun _ ds => decide (uptoBulkAll ds ≤ 1048576)
def OpenSpec.upto (s : _root_.Go.ChangeSpec) : _root_.Go.OpenSpec := { _root_.Go.OpenSpec.ofChange s with cond := some uptoSmall }

/-- 'pannierlaw15.BallotPicks', WHERE WHAT IT READS IS OF BULK AT MOST 1048576: true; the input reads as it did. -/
def ballotPicksUptoRow : OpenClaim := { program := "ytibejpgjgkeheaa", sum := "418bfd10e9cadf1ec938a57cf5b5506184e6a329f0808d6dbdd177004e8d0d50", func := "pannier/pannierlaw15.BallotPicks", spec := "ballotPicks", recurses := true, apart := false, narrowed := true }
def BallotPicksUptoSaid : Prop := ballotPicksUptoRow.holds Try.pinned (OpenSpec.upto ballotPicksSpec)

/-- 'pannierlaw16.AcceptorKeeps', WHERE WHAT IT READS IS OF BULK AT MOST 1048576: true; the input reads as it did. -/
def acceptorKeepsUptoRow : OpenClaim := { program := "ytibejpgjgkeheaa", sum := "418bfd10e9cadf1ec938a57cf5b5506184e6a329f0808d6dbdd177004e8d0d50", func := "pannier/pannierlaw16.AcceptorKeeps", spec := "acceptorKeeps", unfollowed := true, recurses := true, apart := false, narrowed := true }
def AcceptorKeepsUptoSaid : Prop := acceptorKeepsUptoRow.holds Try.pinned (OpenSpec.upto acceptorKeepsSpec)

/-- 'pannierlaw16.AcceptorFinal', WHERE WHAT IT READS IS OF BULK AT MOST 1048576: true; the input reads as it did. -/
def acceptorFinalUptoRow : OpenClaim := { program := "ytibejpgjgkeheaa", sum := "418bfd10e9cadf1ec938a57cf5b5506184e6a329f0808d6dbdd177004e8d0d50", func := "pannier/pannierlaw16.AcceptorFinal", spec := "acceptorFinal", unfollowed := true, recurses := true, apart := false, narrowed := true }
def AcceptorFinalUptoSaid : Prop := acceptorFinalUptoRow.holds Try.pinned (OpenSpec.upto acceptorFinalSpec)

/-- 'pannierlaw16.AcceptorDoes', WHERE WHAT IT READS IS OF BULK AT MOST 1048576: true; the input reads as it did. -/
def acceptorDoesUptoRow : OpenClaim := { program := "ytibejpgjgkeheaa", sum := "418bfd10e9cadf1ec938a57cf5b5506184e6a329f0808d6dbdd177004e8d0d50", func := "pannier/pannierlaw16.AcceptorDoes", spec := "acceptorDoes", inPlace := ["maps.clone"], unfollowed := true, recurses := true, apart := false, narrowed := true }
def AcceptorDoesUptoSaid : Prop := acceptorDoesUptoRow.holds Try.pinned (OpenSpec.upto acceptorDoesSpec)

/-- 'pannierlaw16.AcceptorLasts', WHERE WHAT IT READS IS OF BULK AT MOST 1048576: true; the input reads as it did. -/
def acceptorLastsUptoRow : OpenClaim := { program := "ytibejpgjgkeheaa", sum := "418bfd10e9cadf1ec938a57cf5b5506184e6a329f0808d6dbdd177004e8d0d50", func := "pannier/pannierlaw16.AcceptorLasts", spec := "acceptorLasts", unfollowed := true, recurses := true, apart := false, narrowed := true }
def AcceptorLastsUptoSaid : Prop := acceptorLastsUptoRow.holds Try.pinned (OpenSpec.upto acceptorLastsSpec)

/-- 'pannierlaw16.AcceptorNobody', WHERE WHAT IT READS IS OF BULK AT MOST 1048576: true; the input reads as it did. -/
def acceptorNobodyUptoRow : OpenClaim := { program := "ytibejpgjgkeheaa", sum := "418bfd10e9cadf1ec938a57cf5b5506184e6a329f0808d6dbdd177004e8d0d50", func := "pannier/pannierlaw16.AcceptorNobody", spec := "acceptorNobody", inPlace := ["maps.clone"], unfollowed := true, recurses := true, apart := false, narrowed := true }
def AcceptorNobodyUptoSaid : Prop := acceptorNobodyUptoRow.holds Try.pinned (OpenSpec.upto acceptorNobodySpec)

/-- 'pannierlaw17.ProposerKeeps', WHERE WHAT IT READS IS OF BULK AT MOST 1048576: true; the input reads as it did. -/
def proposerKeepsUptoRow : OpenClaim := { program := "ytibejpgjgkeheaa", sum := "418bfd10e9cadf1ec938a57cf5b5506184e6a329f0808d6dbdd177004e8d0d50", func := "pannier/pannierlaw17.ProposerKeeps", spec := "proposerKeeps", unfollowed := true, recurses := true, apart := false, narrowed := true }
def ProposerKeepsUptoSaid : Prop := proposerKeepsUptoRow.holds Try.pinned (OpenSpec.upto proposerKeepsSpec)

/-- 'pannierlaw17.ProposerAlone', WHERE WHAT IT READS IS OF BULK AT MOST 1048576: true; the input reads as it did. -/
def proposerAloneUptoRow : OpenClaim := { program := "ytibejpgjgkeheaa", sum := "418bfd10e9cadf1ec938a57cf5b5506184e6a329f0808d6dbdd177004e8d0d50", func := "pannier/pannierlaw17.ProposerAlone", spec := "proposerAlone", unfollowed := true, recurses := true, apart := false, narrowed := true }
def ProposerAloneUptoSaid : Prop := proposerAloneUptoRow.holds Try.pinned (OpenSpec.upto proposerAloneSpec)

/-- 'pannierlaw17.ProposerOnce', WHERE WHAT IT READS IS OF BULK AT MOST 1048576: true; the input reads as it did. -/
def proposerOnceUptoRow : OpenClaim := { program := "ytibejpgjgkeheaa", sum := "418bfd10e9cadf1ec938a57cf5b5506184e6a329f0808d6dbdd177004e8d0d50", func := "pannier/pannierlaw17.ProposerOnce", spec := "proposerOnce", unfollowed := true, recurses := true, apart := false, narrowed := true }
def ProposerOnceUptoSaid : Prop := proposerOnceUptoRow.holds Try.pinned (OpenSpec.upto proposerOnceSpec)

/-- 'pannierlaw17.ProposerNobody', WHERE WHAT IT READS IS OF BULK AT MOST 1048576: true; the input reads as it did. -/
def proposerNobodyUptoRow : OpenClaim := { program := "ytibejpgjgkeheaa", sum := "418bfd10e9cadf1ec938a57cf5b5506184e6a329f0808d6dbdd177004e8d0d50", func := "pannier/pannierlaw17.ProposerNobody", spec := "proposerNobody", unfollowed := true, recurses := true, apart := false, narrowed := true }
def ProposerNobodyUptoSaid : Prop := proposerNobodyUptoRow.holds Try.pinned (OpenSpec.upto proposerNobodySpec)

/-- 'pannierlaw17.ProposerAgrees', WHERE WHAT IT READS IS OF BULK AT MOST 1048576: true; the input reads as it did. -/
def proposerAgreesUptoRow : OpenClaim := { program := "ytibejpgjgkeheaa", sum := "418bfd10e9cadf1ec938a57cf5b5506184e6a329f0808d6dbdd177004e8d0d50", func := "pannier/pannierlaw17.ProposerAgrees", spec := "proposerAgrees", unfollowed := true, recurses := true, apart := false, narrowed := true }
def ProposerAgreesUptoSaid : Prop := proposerAgreesUptoRow.holds Try.pinned (OpenSpec.upto proposerAgreesSpec)

end Rows
end Go.Proofs.Ytibejpgjgkeheaa
