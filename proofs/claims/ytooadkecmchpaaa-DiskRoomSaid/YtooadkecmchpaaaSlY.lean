/- The rules of the logic: bytes become a text, wherever they lie. Nothing in this text is about one program. -/
import Derived.Test.YtooadkecmchpaaaSlN
set_option linter.unusedVariables false
set_option linter.unusedSimpArgs false
namespace Go.SL
open Go Go.Lib
section
variable {P : Program} {E : Env} {L : List HP} {ty : TypeId} {A : Option Addr} {c : Nat}
theorem Y_bytes_strN {x : Operand} {src dst0 e : TypeId} {xs : List Int} [h1 : TyDesc P src (.slice e)] [h2 : TyDesc P e (.int .u8)] [h3 : TyDesc P dst0 .string] (hx : ev E x = some (.slice A xs.length c)) (hk : SlN L (intR .u8) A c xs) : Yl P E L (.convert src dst0 x) ty (.string (strOfNums xs)) := fun n D W a w dst pos af g ha hs => by
  obtain ⟨M, k, hd, hM, hk', hsep⟩ := hs.ex
  have hsl := hk M k (heapOf w) hd hsep hM hk'
  have hconv : (convert src dst0 (.slice A xs.length c)).run P w = .ok (.string (strOfNums xs)) w := by
    rcases hsl.2.2 with rfl | ⟨b, o, rfl, cur, t, fr, hb, hall⟩
    · cases A with
      | none => exact run_convert_bytes_nil w src e h1.under h2.under _ _ dst0 h3.under
      | some ad =>
        simp [convert, h1.run, h2.run, h3.run, Conv.bytesToString, loadCells, loadCellsFrom, strOfNums]
        rfl
    · refine run_convert_bytes_arg w src e h1.under h2.under b o xs.length c xs rfl (fun i hi => ?_) dst0 h3.under
      obtain ⟨l, hl, hc⟩ := hall i _ (List.getElem?_eq_getElem hi)
      have := hc 0 _ (by rw [hl.1]; rfl)
      rw [cell_of hb]
      have e1 : (intR .u8).sz = 1 := rfl
      rw [e1, Nat.mul_one, Nat.add_zero] at this
      rw [this]
      simp [List.getD, List.getElem?_eq_getElem hi]
  simp [execOp, ha.ev hx, hconv]
end
section
variable {r : Option Nat} {n : Nat} {P : Program} {ops : Array Oper} {rest : List Oper} {K : St → Prop} {D : List Deferred} {E : Env} {L L0 : List HP} {d : Nat} {ty : TypeId} {pos : String} {af : Array Edge}
/-- Bytes of a literal: nobody writes them from now on. -/
theorem TL_conv_mark {x : Operand} {src e te : TypeId} {vs : List Value} {xs : List Int} {b c : Nat} [h1 : TyDesc P src (.slice e)] [h3 : TyDesc P e (.int .u8)] (hd : Nat.blt d n = true) (hx : ev E x = some (.slice (some ⟨b, 0, none⟩) xs.length c)) [hc : FindC L b vs te L0] (hcells : ∀ M, CellsOf M (intR .u8) xs vs) (hl : xs.length ≤ maxEl) (hle : xs.length ≤ c)
    (h : TL r n P ops rest ⟨D, (d, .slice (some ⟨b, 0, none⟩) xs.length c) :: E, sl (intR .u8) (some ⟨b, 0, none⟩) c xs :: L0⟩ K) : TL r n P ops (⟨some d, .convert src src x, ty, pos, af, none⟩ :: rest) ⟨D, E, L⟩ K :=
  TL_val rfl hd rfl (fun _ e => by cases e) fun W a w hh => by
    have hs : Sat W w (own b (.cells vs.toArray te (0, 0)) :: L0) := hh.2.gives hc.g
    have hbw := hs.own_at
    have hsh : w.shape? b = some (te, vs.toArray.size) := by simp [World.shape?, hbw]
    have hset : Sat W (w.freeze ⟨b, vs.toArray.size, none⟩ 1) (own b (.cells vs.toArray te (vs.toArray.size, vs.toArray.size + 1)) :: L0) := by
      unfold World.freeze
      rw [if_neg (by decide)]
      refine hs.set ?_ ?_ rfl rfl rfl ?_
      · show (w.heap.modify b _)[b]? = _
        rw [Array.getElem?_modify, if_pos rfl, hbw]; rfl
      · intro i hi
        show (w.heap.modify b _)[i]? = _
        rw [Array.getElem?_modify, if_neg (Ne.symm hi)]
      · show _ ≤ (w.heap.modify b _).size
        simp
    refine ⟨_, _, sl (intR .u8) (some ⟨b, 0, none⟩) c xs :: L0, ?_, (Sat.freeze hset).gives fun M k ⟨k1, k2, kd, m1, m2, hi, hs'⟩ => ?_, h⟩
    · simp [execOp, hh.1.ev hx, convert, h1.run, h3.run, markStringish, hsh]
    · refine ⟨k1, k2, kd, m1, m2, ⟨hle, hl, .inr ⟨_, 0, rfl, _, _, _, hi, fun i x hix => ?_⟩⟩, hs'⟩
      obtain ⟨l, hl2, hc2⟩ := (hcells M).at_ i x hix
      refine ⟨l, hl2, fun j v hj => ?_⟩
      have := hc2 j v hj
      rw [Nat.zero_add]
      simpa using this
end
end Go.SL
