/- Dots: what values are: numbers. -/
import Derived.Test.YtooadkecmchpaaaDtA
import Derived.Test.YtooadkecmchpaaaSlX
namespace Go.SL
open Go
abbrev tINT := Int
abbrev rINT : Rep tINT := intR .i64
abbrev vINT (x : tINT) : Value := .int .i64 x
abbrev zINT : tINT := 0
abbrev okINT (x : tINT) : Prop := intIn .i64 x
theorem repINT {x : tINT} (h : okINT x) : ∀ M, rINT.rep M x [vINT x] := fun _ => ⟨rfl, h⟩
theorem repINT_ok {M : Mem} {x : tINT} {l : List Value} (h : rINT.rep M x l) : okINT x := h.2
theorem zINT_ok : okINT zINT := i64In_mk (by decide)
end Go.SL
