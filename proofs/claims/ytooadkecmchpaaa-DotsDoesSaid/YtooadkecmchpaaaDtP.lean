/- Dots: pairs of dots and texts. -/
import Derived.Test.YtooadkecmchpaaaDtC
set_option linter.unusedVariables false
namespace Go.SL
open Go Go.Proofs
abbrev pairD := DotD × ByteArray
abbrev pairC (p : pairD) : List Value := [.int .i64 p.1.1, .int .i64 p.1.2, .string p.2]
def pairOk (p : pairD) : Prop := dotOk p.1 ∧ p.2.size ≤ maxEl
def pairR : Rep pairD := ⟨3, fun _ a cs => cs = pairC a ∧ pairOk a, fun _ h => h, fun h => by rw [h.1]; rfl, fun h v hv => by rw [h.1] at hv; simp at hv; rcases hv with rfl | rfl | rfl <;> rfl⟩
instance : RepF pairR pairC := ⟨fun _ _ _ h => h.1⟩
end Go.SL
