import Derived.Test.YtojddiieiggpjaaGreatDoorWsR
import Derived.Test.YtojddiieiggpjaaGreatDoorWsT
import Derived.Test.YtojddiieiggpjaaGreatDoorWsW
import Derived.Test.YtojddiieiggpjaaGreatDoorTieD
import Derived.Test.YtojddiieiggpjaaGreatDoorCards
import Derived.ChangeSame
import Derived.ChangeVars
import Derived.JoinedOf
import Derived.RowKit
import Derived.RowKitTokens
import Derived.LaidLaws
import Derived.LaidHandle
import Derived.Lay
import Derived.Stop.Joined
import Derived.SevenTiedAt
namespace Go.Proofs.YtojddiieiggpjaaGreatDoor.wholeShards
open Go.ChangeShapes Go.WideShapes Go.ChangeAt Go.RowKit Go.SL
theorem proved : Rows.WholeShardsCardSaid :=
  Claim7.holds_tied_plain_at .later [] [.sentinel, .sentinel, .data, .data, .data, .pinned, .data] true (true, "f173fcb2756624a6df16681dd3d4bf9efa79a810000ddec835276d0f79f97ab3") true
    row_proved (fun _ h => by cases h) s1 (fun _ h => by cases h) wholeShards_tie rfl ⟨rfl, rfl⟩ s2 rfl
    (fun f fn hf hfn => by
      obtain rfl : f = 3 := Option.some.inj (s3.symm.trans hf) |>.symm
      obtain rfl : fn = Tryz.f3 := (Option.some.inj (Tryz.func3.symm.trans hfn)).symm
      exact ⟨s4, fun j t ht => by
        rw [Tryz.params3] at ht
        have hm : t ∈ [22, 3] := by simpa using Array.mem_of_getElem? ht
        exact (show Tryz.prog.wantsStandIn t = false by simpa using List.all_eq_true.1 s5 t hm)⟩)
    s6
end Go.Proofs.YtojddiieiggpjaaGreatDoor.wholeShards
