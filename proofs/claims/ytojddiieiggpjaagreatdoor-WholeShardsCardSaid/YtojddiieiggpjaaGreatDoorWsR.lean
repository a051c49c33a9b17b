import Derived.Test.YtojddiieiggpjaaGreatDoorWsMP
import Derived.Test.YtojddiieiggpjaaGreatDoorWsN
import Derived.Test.YtojddiieiggpjaaGreatDoorWsO
import Derived.Test.YtojddiieiggpjaaGreatDoorWsQ
import Derived.Test.YtojddiieiggpjaaGreatDoorWsU
import Derived.Test.YtojddiieiggpjaaGreatDoorWsV
import Derived.ChangeSame
import Derived.ChangeVars
import Derived.JoinedOf
import Derived.RowKit
import Derived.RowKitTokens
import Derived.LaidLaws
import Derived.LaidHandle
import Derived.Lay
import Derived.Stop.Joined
import Derived.SevenTiedAt
namespace Go.Proofs.YtojddiieiggpjaaGreatDoor.wholeShards
open Go.ChangeShapes Go.WideShapes Go.ChangeAt Go.RowKit Go.SL
theorem rowName : Tryz.pinned.checked.prog.funcNamed Rows.wholeShardsRow.func = some 3 := by kernel_rfl
theorem and_t {a b : Bool} (h : a = true) (k : b = true) : (a && b) = true := by rw [h, k]; rfl
set_option maxRecDepth 100000 in
theorem joined : joinedFacts Tryz.pinned.checked.prog 3 Tryz.f3 Rows.wholeShardsSpec Rows.wholeShardsRow = true := by
  unfold joinedFacts
  refine and_t ?_ c31
  refine and_t ?_ c30
  refine and_t ?_ c29
  refine and_t ?_ c28
  refine and_t ?_ c27
  refine and_t ?_ c26
  refine and_t ?_ c25
  refine and_t ?_ c24
  refine and_t ?_ c23
  refine and_t ?_ c22
  refine and_t ?_ c21
  refine and_t ?_ c20
  refine and_t ?_ c19
  refine and_t ?_ c18
  refine and_t ?_ c17
  refine and_t ?_ c16
  refine and_t ?_ c15
  refine and_t ?_ c14
  refine and_t ?_ c13
  refine and_t ?_ c12
  refine and_t ?_ c11
  refine and_t ?_ c10
  refine and_t ?_ c9
  refine and_t ?_ c8
  refine and_t ?_ c7
  refine and_t ?_ c6
  refine and_t ?_ c5
  refine and_t ?_ c4
  refine and_t ?_ c3
  refine and_t ?_ c2
  refine and_t ?_ c1
  exact c0
theorem row_proved : Rows.WholeShardsSaid :=
  OpenClaim.holds_of_wide 3 Tryz.f3 rfl rfl rfl rfl rfl rfl rfl ⟨rfl, rfl, rfl, rfl, rfl⟩ rfl rfl rfl rfl rfl rowName Tryz.func3 joined
    (of_decide_eq_true (by kernel_rfl)) (by unfold Func.isWrapper; first | (rw [if_pos (by decide +kernel)]; kernel_rfl) | (rw [if_neg (by decide +kernel)]; exact ⟨rfl, rfl⟩))
    (fun os started H enc _ => lifted os started H enc)
end Go.Proofs.YtojddiieiggpjaaGreatDoor.wholeShards
