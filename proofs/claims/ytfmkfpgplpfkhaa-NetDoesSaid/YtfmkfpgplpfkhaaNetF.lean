/- Net: the law on ids. -/
import Derived.Test.YtfmkfpgplpfkhaaNetE
set_option linter.unusedVariables false
set_option linter.unusedSimpArgs false
namespace Go.SL
open Go Go.Proofs
structure OpD where
  kind : Int
  frm : Int
  to_ : Int
  id : Int
  body : ByteArray
abbrev opC (o : OpD) : List Value := [.int .i64 o.kind, .int .i64 o.frm, .int .i64 o.to_, .int .i64 o.id, .string o.body]
def opOk (o : OpD) : Prop := intIn .i64 o.kind ∧ intIn .i64 o.frm ∧ intIn .i64 o.to_ ∧ intIn .i64 o.id ∧ o.body.size ≤ maxEl
def opR : Rep OpD := ⟨5, fun _ a cs => cs = opC a ∧ opOk a, fun _ h => h, fun h => by rw [h.1]; rfl, fun h v hv => by rw [h.1] at hv; simp at hv; rcases hv with rfl | rfl | rfl | rfl | rfl <;> rfl⟩
instance : RepF opR opC := ⟨fun _ _ _ h => h.1⟩
theorem send_last (s : NS) (f t : Int) (body : ByteArray) : ((sendS s f t body).2.2 = 0 → (sendS s f t body).2.1 = s.last + 1 ∧ (sendS s f t body).1.last = s.last + 1) ∧ ((sendS s f t body).2.2 ≠ 0 → (sendS s f t body).2.1 = 0 ∧ (sendS s f t body).1.last = s.last) := by
  unfold sendS
  split
  · exact ⟨fun h => by simp at h, fun _ => ⟨rfl, rfl⟩⟩
  split
  · exact ⟨fun h => by simp at h, fun _ => ⟨rfl, rfl⟩⟩
  split
  · exact ⟨fun h => by simp at h, fun _ => ⟨rfl, rfl⟩⟩
  · exact ⟨fun _ => ⟨rfl, rfl⟩, fun h => absurd rfl h⟩
theorem twice_last (s : NS) (k : Int) : ((twiceS s k).2.2 = 0 → (twiceS s k).2.1 = s.last + 1 ∧ (twiceS s k).1.last = s.last + 1) ∧ ((twiceS s k).2.2 ≠ 0 → (twiceS s k).2.1 = 0 ∧ (twiceS s k).1.last = s.last) := by
  unfold twiceS
  split
  · exact ⟨fun h => by simp at h, fun _ => ⟨rfl, rfl⟩⟩
  · exact send_last _ _ _ _
theorem take_last (s : NS) (k : Int) : (takeS s k).1.last = s.last := by unfold takeS; split <;> rfl
structure IdSt where
  i : Nat
  s : NS
end Go.SL
