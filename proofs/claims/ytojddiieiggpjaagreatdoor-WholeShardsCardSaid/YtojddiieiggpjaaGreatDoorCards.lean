/-
  DERIVED. GIVEN WITH THE SEED: THE CARDS: each row of YtojddiieiggpjaaGreatDoorRows.lean that lists a variable, with what it lists TIED to the program's text (the seventh form; the later family's looks); each row that meets fmt, with fmt's text TOLD by the authors' own Lean function (tested against real Go, not proved from fmt's source: count such statements apart). THE CARD IS WHAT COUNTS. Prove the row's statement (the work); the ties are given (YtojddiieiggpjaaGreatDoorTie.lean); close each card by the builder's one call (the guide's Derived/Test/ToyasCard.lean, 'card_holds'). Laid BY PROGRAM, IN A SANDBOX (cutbox-door.mjs). By AI agents, Wed Nov 11 2026. No macro, syntax, notation, axiom, sorry.
-/
import Derived.Test.YtojddiieiggpjaaGreatDoorRows
import GoSem.ClaimSeven
namespace Go.Proofs.YtojddiieiggpjaaGreatDoor
namespace Rows

/-- THE TIED CARD OF 'panniertop.WholeShards'. -/
def wholeShardsCard : Claim7 := { stood := { row := wholeShardsRow, standIns := [], harness := (true, "f173fcb2756624a6df16681dd3d4bf9efa79a810000ddec835276d0f79f97ab3"), looks := true }, kinds := [], alts := [], laidByText := true, laidKinds := [.sentinel, .sentinel, .data, .data, .data, .pinned, .data], laidTests := true, laidLooks := .later }
def WholeShardsCardSaid : Prop := Claim7.holds Tryz.pinned (.plain (OpenSpec.ofChange wholeShardsSpec)) wholeShardsCard

/-- THE SECOND FORM's CARD OF 'panniertop.WholeShards'. -/
def wholeShardsUptoCard : Claim7 := { stood := { row := wholeShardsUptoRow, standIns := [], harness := (true, "f173fcb2756624a6df16681dd3d4bf9efa79a810000ddec835276d0f79f97ab3"), looks := true }, kinds := [], alts := [], laidByText := true, laidKinds := [.sentinel, .sentinel, .data, .data, .data, .pinned, .data], laidTests := true, laidLooks := .later }
def WholeShardsUptoCardSaid : Prop := Claim7.holds Tryz.pinned (.plain (OpenSpec.upto wholeShardsSpec)) wholeShardsUptoCard
end Rows
end Go.Proofs.YtojddiieiggpjaaGreatDoor
