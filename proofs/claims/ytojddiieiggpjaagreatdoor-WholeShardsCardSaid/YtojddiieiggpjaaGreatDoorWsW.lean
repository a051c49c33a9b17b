import Derived.Test.YtojddiieiggpjaaGreatDoorCards
import Derived.ChangeSame
import Derived.ChangeVars
import Derived.JoinedOf
import Derived.RowKit
import Derived.RowKitTokens
import Derived.LaidLaws
import Derived.LaidHandle
import Derived.Lay
import Derived.Stop.Joined
import Derived.SevenTiedAt
namespace Go.Proofs.YtojddiieiggpjaaGreatDoor.wholeShards
open Go
theorem goes_of {P : Program} (h : P.funcs.any Func.goes = false) (n : String) : P.goesAt .entering n = false := by
  have hf : ∀ f, P.goes f = false := fun f => by
    unfold Program.goes
    rw [h, Bool.and_false, Bool.or_false]
    have hk : ∀ g : Nat, (P.funcs[g]?).any Func.goes = false := fun g => by
      cases hg : P.funcs[g]? with
      | none => rfl
      | some fn =>
        obtain ⟨hi, rfl⟩ := Array.getElem?_eq_some_iff.1 hg
        simpa using Array.any_eq_false.1 h g hi
    simp [hk]
  unfold Program.goesAt Program.goesFrom
  cases P.funcNamed n <;> simp [hf]
theorem noGoes : Tryz.pinned.checked.prog.funcs.any Func.goes = false := by kernel_rfl
theorem s6 : false = Rows.wholeShardsRow.goesBy Tryz.pinned.checked.prog := (goes_of noGoes _).symm
end Go.Proofs.YtojddiieiggpjaaGreatDoor.wholeShards
