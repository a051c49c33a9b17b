/- Codec: the walks of the reader: numbers, names, lists, vectors. -/
import Derived.Test.YtiiejjdkhekhmaaRdB
set_option linter.unusedVariables false
set_option linter.unusedSimpArgs false
namespace Go.SL
open Go Go.Proofs
theorem Y_load_rdr {P : Program} {E : Env} {L R : List HP} {b : Nat} {s : RS} {ty : TypeId} {x : Operand} {t : TypeId} [ht : TyAgg P t false] [hf : FindK L b (rdr b s) R] (hx : ev E x = some (.pointer (some ⟨b, 2, none⟩))) : Yl P E L (.load t x) ty (.bool s.bad) := fun n D W a w dst pos af g ha hs => by
  obtain ⟨p, hv⟩ := exH_open (hs.gives hf.g)
  exact Y_load (L := cells b [.slice p.1 s.b.length p.2, .int .i64 (s.n : Int), .bool s.bad] 119 :: sl (intR .u8) p.1 p.2 s.b :: R) (ht := ht) hx rfl n D W a w dst pos af g ha hv
theorem number_spec {L : List HP} {b : Nat} {s : RS} (most : Int) (hm : 0 ≤ most ∧ most ≤ 4611686018427387904) (hn : s.n + s.b.length ≤ 140737488355328) : Fn Try.prog 106 #[.pointer (some ⟨b, 0, none⟩), .int .i64 most] (rdr b s :: L) (fun v L' => ∃ x s', v = .int .i64 x ∧ L' = rdr b s' :: L ∧ RdR (rNum most) (rNum most) bNum s x s') := by
  refine Fn_enter Try.func106 rfl rfl rfl rfl ?_
  refine T_region ?_
  refine TL_y rfl rfl (Y_assign rfl) ?_
  refine TL_nil ?_
  refine T_region ?_
  refine TL_y rfl rfl (Y_move rfl) ?_
  refine TL_call rfl rfl (takeU_spec hn) ?_
  rintro _ _ ⟨x, s1, rfl, rfl, ht⟩
  have h := numR hm ht
  refine TL_y rfl rfl (Y_assign rfl) ?_
  refine TL_nil ?_
  refine T_seq ?_
  refine T_region ?_
  refine TL_y rfl rfl (Y_move rfl) ?_
  refine TL_y rfl rfl (Y_move rfl) ?_
  refine TL_y rfl rfl (Y_conv rfl) ?_
  refine TL_name 10 (v' := .int .u64 most) rfl (by rw [show most = ((most.toNat : Nat) : Int) by omega, u64_small (by omega)]) ?_
  refine TL_y rfl rfl (Y_gt rfl rfl) ?_
  refine TL_nil ?_
  refine T_if rfl (fun h11 => ?_) (fun h11 => ?_)
  · refine T_rdr fun A c => ?_
    refine T_region ?_
    refine TL_y rfl rfl (Y_move rfl) ?_
    refine TL_y rfl rfl (Y_nil_check rfl) ?_
    refine TL_y rfl rfl (Y_field_addr rfl) ?_
    refine TL_store rfl rfl rfl rfl rfl rfl ?_
    refine TL_nil ?_
    refine T_region ?_
    refine TL_y rfl rfl (Y_assign rfl) ?_
    refine TL_nil ?_
    refine T_ret ?_
    refine thenS_ret ?_
    refine RetQ.gives (rdr_close b ⟨s1.b, s1.n, true⟩ slk) ?_
    exact RetG_1 (.inl rfl) rfl (ResV.tmp rfl) GivesTo.g (⟨0, ⟨s1.b, s1.n, true⟩, rfl, rfl, h.2 (by omega)⟩)
  · refine T_skip ?_
    refine thenS_normal ?_
    refine T_region ?_
    refine TL_y rfl rfl (Y_move rfl) ?_
    refine TL_y rfl rfl (Y_conv rfl) ?_
    refine TL_name 16 (v' := .int .i64 (x : Int)) rfl (by congr 1; exact IntWalk.i64_in _ (by omega)) ?_
    refine TL_y rfl rfl (Y_assign rfl) ?_
    refine TL_nil ?_
    refine T_ret ?_
    exact RetG_1 (.inl rfl) rfl (ResV.tmp rfl) GivesTo.g (⟨(x : Int), s1, rfl, rfl, h.1 (by omega)⟩)
theorem nameR {s s' : RS} {x : ByteArray} (h : TakeT 32 s x s') : RdR isName (fun x => x.size ≤ 32) txt s x ⟨s'.b, s'.n, s'.bad || !decide (isName x)⟩ := by
  by_cases hx : isName x
  · have := (txtR h).1 hx; simpa [hx] using this
  · have := (txtR h).2 hx; simpa [hx] using this
theorem rname_spec {L : List HP} {b : Nat} {s : RS} (hn : s.n + s.b.length ≤ 140737488355328) : Fn Try.prog 113 #[.pointer (some ⟨b, 0, none⟩)] (rdr b s :: L) (fun v L' => ∃ x s', v = .string x ∧ L' = rdr b s' :: L ∧ RdR isName (fun x => x.size ≤ 32) txt s x s') := by
  refine Fn_enter Try.func113 rfl rfl rfl rfl ?_
  refine T_region ?_
  refine TL_y rfl rfl (Y_assign rfl) ?_
  refine TL_nil ?_
  refine T_region ?_
  refine TL_y rfl rfl (Y_move rfl) ?_
  refine TL_call rfl rfl (takeT_spec hn) ?_
  rintro _ _ ⟨x, s1, rfl, rfl, ht⟩
  have h := nameR ht
  have hsz := h.iv
  refine TL_y rfl rfl (Y_assign rfl) ?_
  refine TL_nil ?_
  refine T_rdr fun A c => ?_
  refine T_region ?_
  refine TL_y rfl rfl (Y_move rfl) ?_
  refine TL_y rfl rfl (Y_move rfl) ?_
  refine TL_y rfl rfl (Y_nil_check rfl) ?_
  refine TL_y rfl rfl (Y_field_addr rfl) ?_
  refine TL_y rfl rfl (Y_load rfl rfl) ?_
  refine TL_y rfl rfl (Y_move rfl) ?_
  refine TL_split 11 rfl (fun h11 => ?_) (fun h11 => ?_)
  · refine TL_gskip rfl rfl rfl rfl ?_
    refine TL_gskip rfl rfl rfl rfl ?_
    refine TL_gskip rfl rfl rfl rfl ?_
    refine TL_y rfl rfl (Y_pick_t rfl rfl) ?_
    refine TL_name 15 (v' := .bool (s1.bad || !decide (isName x))) rfl (by rw [h11]; rfl) ?_
    refine TL_y rfl rfl (Y_nil_check rfl) ?_
    refine TL_y rfl rfl (Y_field_addr rfl) ?_
    refine TL_store rfl rfl rfl rfl rfl rfl ?_
    refine TL_nil ?_
    refine T_region ?_
    refine TL_y rfl rfl (Y_move rfl) ?_
    refine TL_y rfl rfl (Y_assign rfl) ?_
    refine TL_nil ?_
    refine T_ret ?_
    refine RetQ.gives (rdr_close b ⟨s1.b, s1.n, s1.bad || !decide (isName x)⟩ slk) ?_
    exact RetG_1 (.inl rfl) rfl (ResV.tmp rfl) GivesTo.g (⟨x, _, rfl, rfl, h⟩)
  · refine TL_grun rfl rfl ?_
    refine TL_y rfl rfl (Y_move rfl) ?_
    refine TL_grun rfl rfl ?_
    refine TL_call rfl rfl (name_spec _ x (by simp only [maxEl]; omega)) ?_
    rintro _ _ ⟨rfl, rfl⟩
    refine TL_grun rfl rfl ?_
    refine TL_y rfl rfl (Y_not rfl) ?_
    refine TL_y rfl rfl (Y_pick_f rfl rfl) ?_
    refine TL_name 15 (v' := .bool (s1.bad || !decide (isName x))) rfl (by rw [h11]; rfl) ?_
    refine TL_y rfl rfl (Y_nil_check rfl) ?_
    refine TL_y rfl rfl (Y_field_addr rfl) ?_
    refine TL_store rfl rfl rfl rfl rfl rfl ?_
    refine TL_nil ?_
    refine T_region ?_
    refine TL_y rfl rfl (Y_move rfl) ?_
    refine TL_y rfl rfl (Y_assign rfl) ?_
    refine TL_nil ?_
    refine T_ret ?_
    refine RetQ.gives (rdr_close b ⟨s1.b, s1.n, s1.bad || !decide (isName x)⟩ slk) ?_
    exact RetG_1 (.inl rfl) rfl (ResV.tmp rfl) GivesTo.g (⟨x, _, rfl, rfl, h⟩)
theorem truthR {s s' : RS} {x : Int} (h : RdR (rNum 1) (rNum 1) bNum s x s') : RdR (fun _ : Bool => True) (fun _ => True) bTruth s (decide (x = 1)) s' := by
  have hx := h.iv
  unfold rNum at hx
  exact h.map (fun x => decide (x = 1)) (fun b => if b then 1 else 0) (by by_cases h1 : x = 1 <;> simp [h1]; omega) (fun y => ⟨fun _ => by cases y <;> simp [rNum], fun _ => trivial⟩) (fun y => rfl) (fun _ => trivial)
theorem rtruth_spec {L : List HP} {b : Nat} {s : RS} (hn : s.n + s.b.length ≤ 140737488355328) : Fn Try.prog 114 #[.pointer (some ⟨b, 0, none⟩)] (rdr b s :: L) (fun v L' => ∃ x s', v = .bool x ∧ L' = rdr b s' :: L ∧ RdR (fun _ : Bool => True) (fun _ => True) bTruth s x s') := by
  refine Fn_enter Try.func114 rfl rfl rfl rfl ?_
  refine T_region ?_
  refine TL_y rfl rfl (Y_assign rfl) ?_
  refine TL_nil ?_
  refine T_region ?_
  refine TL_y rfl rfl (Y_move rfl) ?_
  refine TL_call rfl rfl (number_spec 1 (by decide) hn) ?_
  rintro _ _ ⟨x, s1, rfl, rfl, h⟩
  refine TL_y rfl rfl (Y_eq rfl rfl) ?_
  refine TL_y rfl rfl (Y_assign rfl) ?_
  refine TL_nil ?_
  refine T_ret ?_
  exact RetG_1 (.inl rfl) rfl (ResV.tmp rfl) GivesTo.g (⟨decide (x = 1), s1, rfl, rfl, truthR h⟩)

/-! ### Lists -/
structure LI {α : Type} (ok iv : α → Prop) (b : α → List Int) (n : Nat) (s : RS) (xs : List α) (s' : RS) : Prop where
  snd : s'.bad = false → s.bad = false ∧ (∀ x ∈ xs, ok x) ∧ s.b = bAll b xs ++ s'.b
  cmp : ∀ ys r, s.bad = false → (∀ y ∈ ys, ok y) → ys.length = n → s.b = bAll b ys ++ r → s'.bad = false ∧ s'.b = bAll b (ys.drop xs.length) ++ r
  tot : s'.n + s'.b.length = s.n + s.b.length
  iv : ∀ x ∈ xs, iv x
theorem bAll_cons {α : Type} (b : α → List Int) (x : α) (l : List α) : bAll b (x :: l) = b x ++ bAll b l := by simp [bAll]
theorem bAll_snoc {α : Type} (b : α → List Int) (l : List α) (x : α) : bAll b (l ++ [x]) = bAll b l ++ b x := by simp [bAll]
section
variable {α : Type} {ok iv : α → Prop} {b : α → List Int} {n : Nat} {s s0 st st' : RS} {xs : List α} {x : α}
theorem LI.zero : LI ok iv b n s [] s := ⟨fun h => ⟨h, by simp, by simp [bAll]⟩, fun ys r h _ _ e => ⟨h, by simpa using e⟩, rfl, by simp⟩
theorem LI.next (hp : PF ok b) (h : LI ok iv b n s xs st) (hl : xs.length < n) (hx : RdR ok iv b st x st') : LI ok iv b n s (xs ++ [x]) st' := by
  refine ⟨fun k => ?_, fun ys r hs hy hn he => ?_, by rw [hx.tot, h.tot], fun y hy => ?_⟩
  · obtain ⟨a1, a2, a3⟩ := hx.snd k
    obtain ⟨c1, c2, c3⟩ := h.snd a1
    refine ⟨c1, fun y hy => ?_, by rw [c3, a3, bAll_snoc, List.append_assoc]⟩
    rcases List.mem_append.1 hy with hy | hy
    · exact c2 y hy
    · simp at hy; subst hy; exact a2
  · obtain ⟨g1, g2⟩ := h.cmp ys r hs hy hn he
    have hlt : xs.length < ys.length := by omega
    rw [List.drop_eq_getElem_cons hlt, bAll_cons, List.append_assoc] at g2
    have hyo := hy _ (List.getElem_mem hlt)
    have k := hx.cmp _ _ g1 hyo g2
    obtain ⟨a1, a2, a3⟩ := hx.snd k
    obtain ⟨_, e⟩ := hp _ _ _ _ a2 hyo (a3.symm.trans g2)
    exact ⟨k, by rw [e]; simp⟩
  · rcases List.mem_append.1 hy with hy | hy
    · exact h.iv y hy
    · simp at hy; subst hy; exact hx.iv
def okL (ok : α → Prop) (most : Nat) (v : List α) : Prop := v.length ≤ most ∧ ∀ x ∈ v, ok x
def bList (b : α → List Int) (v : List α) : List Int := bNum (v.length : Int) ++ bAll b v
theorem LI.done {most : Nat} (hm : most ≤ 4096) (h0 : RdR (rNum (most : Int)) (rNum (most : Int)) bNum s0 (n : Int) s) (h : LI ok iv b n s xs st) (hl : xs.length ≤ n) (hd : xs.length = n ∨ st.bad = true) : RdR (okL ok most) (okL iv most) (bList b) s0 xs st := by
  have hn := h0.iv
  unfold rNum at hn
  refine ⟨fun k => ?_, fun ys r hs hy he => ?_, by rw [h.tot, h0.tot], by omega, h.iv⟩
  · obtain ⟨a1, a2, a3⟩ := h.snd k
    obtain ⟨c1, c2, c3⟩ := h0.snd a1
    have hx : xs.length = n := hd.resolve_right (by rw [k]; simp)
    exact ⟨c1, ⟨by omega, a2⟩, by rw [c3, a3, bList, List.append_assoc, hx]⟩
  · have hy1 := hy.1
    unfold bList at he
    rw [List.append_assoc] at he
    have hr : rNum (most : Int) (ys.length : Int) := by unfold rNum; omega
    have g1 := h0.cmp _ _ hs hr he
    obtain ⟨c1, c2, c3⟩ := h0.snd g1
    obtain ⟨e1, e2⟩ := pf_num (most := (most : Int)) (by omega) _ _ _ _ c2 hr (c3.symm.trans he)
    exact (h.cmp ys r g1 hy.2 (by omega) e2).1
end
end Go.SL
