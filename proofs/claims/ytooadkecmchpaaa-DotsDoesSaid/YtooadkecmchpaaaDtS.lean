/- Dots: what values are: texts. -/
import Derived.Test.YtooadkecmchpaaaDtA
import Derived.Test.YtooadkecmchpaaaSlX
namespace Go.SL
open Go
abbrev tSTR := ByteArray
abbrev rSTR : Rep tSTR := strR
abbrev vSTR (x : tSTR) : Value := .string x
abbrev zSTR : tSTR := ⟨#[]⟩
abbrev okSTR (x : tSTR) : Prop := x.size ≤ maxEl
theorem repSTR {x : tSTR} (h : okSTR x) : ∀ M, rSTR.rep M x [vSTR x] := fun _ => ⟨rfl, h⟩
theorem repSTR_ok {M : Mem} {x : tSTR} {l : List Value} (h : rSTR.rep M x l) : okSTR x := h.2
theorem zSTR_ok : okSTR zSTR := Nat.zero_le _
end Go.SL
