import Derived.Test.YtojddiieiggpjaaGreatDoorCards
import Derived.ChangeSame
import Derived.ChangeVars
import Derived.JoinedOf
import Derived.RowKit
import Derived.RowKitTokens
import Derived.LaidLaws
import Derived.LaidHandle
import Derived.Lay
import Derived.Stop.Joined
import Derived.SevenTiedAt
namespace Go.Proofs.YtojddiieiggpjaaGreatDoor.wholeShards
open Go
theorem s1 : Rows.wholeShardsRow.wfByText (OpenSpec.ofChange Rows.wholeShardsSpec) = true := by kernel_rfl
theorem s2 : Tryz.pinned.checked.prog.mainIs = some (true, "f173fcb2756624a6df16681dd3d4bf9efa79a810000ddec835276d0f79f97ab3".toList) := by kernel_rfl
theorem s3 : Tryz.prog.funcNamed "pannier/panniertop.WholeShards" = some 3 := by kernel_rfl
theorem s4 : true = Tryz.pinned.checked.prog.looks [] := by kernel_rfl
theorem s5 : ([22, 3].all fun u => !Tryz.prog.wantsStandIn u) = true := by kernel_rfl
end Go.Proofs.YtojddiieiggpjaaGreatDoor.wholeShards
