/- Disk: Crash. -/
import Derived.Test.YtooadkecmchpaaaDkG
set_option linter.unusedVariables false
set_option linter.unusedSimpArgs false
namespace Go.SL
open Go Go.Proofs
abbrev TornD := ByteArray × Int
abbrev tornC (t : TornD) : List Value := [.string t.1, .int .i64 t.2]
def tornOk (t : TornD) : Prop := t.1.size ≤ maxEl ∧ intIn .i64 t.2
def tornR : Rep TornD := ⟨2, fun _ a cs => cs = tornC a ∧ tornOk a, fun _ h => h, fun h => by rw [h.1]; rfl, fun h v hv => by rw [h.1] at hv; simp at hv; rcases hv with rfl | rfl <;> rfl⟩
instance : RepF tornR tornC := ⟨fun _ _ _ h => h.1⟩
def okT (s : DkS) (t : TornD) : Prop := ∃ e, findF s.l t.1 = some e ∧ 0 ≤ t.2 ∧ t.2 ≤ (e.bytes.length : Int) - e.synced
instance (s : DkS) (t : TornD) : Decidable (okT s t) := by
  unfold okT
  cases h : findF s.l t.1 with
  | none => exact isFalse (by rintro ⟨e, h1, _⟩; cases h1)
  | some e => exact decidable_of_iff (0 ≤ t.2 ∧ t.2 ≤ (e.bytes.length : Int) - e.synced) ⟨fun h => ⟨e, rfl, h⟩, fun ⟨e2, h1, h2⟩ => by cases h1; exact h2⟩
def crashOk (s : DkS) (keep : List TornD) : Prop := keep.Pairwise (fun p q => p.1 ≠ q.1) ∧ ∀ t ∈ keep, okT s t
instance (s : DkS) (keep : List TornD) : Decidable (crashOk s keep) := by unfold crashOk; exact inferInstance
def kpt (keep : List TornD) (k : ByteArray) : Int := (getM keep k).getD 0
def cutE (keep : List TornD) (e : FileE) : FileE := ⟨e.name, e.blk, e.bytes.take (e.synced + kpt keep e.name).toNat, e.synced + kpt keep e.name⟩
def crashK (s : DkS) (keep : List TornD) : DkS := ⟨s.size, -1, s.l.map (cutE keep)⟩
section
variable {s : DkS} {keep : List TornD}
theorem kpt_ok (hi : KI s) (hc : crashOk s keep) {e : FileE} (he : e ∈ s.l) : 0 ≤ kpt keep e.name ∧ kpt keep e.name ≤ (e.bytes.length : Int) - e.synced := by
  unfold kpt
  have h1 := hi.ok e he
  cases hg : getM keep e.name with
  | none => exact ⟨Int.le_refl _, by show (0 : Int) ≤ _; omega⟩
  | some n =>
    obtain ⟨e2, q1, q2, q3⟩ := hc.2 _ (getM_mem hg)
    rw [hi.inc.find he] at q1; cases q1
    exact ⟨q2, q3⟩
theorem IncF.map_same {l : List FileE} (h : IncF l) (f : FileE → FileE) (hn : ∀ e, (f e).name = e.name) : IncF (l.map f) := List.pairwise_map.2 (h.imp fun h => by rw [hn, hn]; exact h)
theorem fmap_map {l : List FileE} (f : FileE → FileE) (hn : ∀ e, (f e).name = e.name) (hb : ∀ e, (f e).blk = e.blk) : fmap (l.map f) = fmap l := by
  unfold fmap; rw [List.map_map]; exact List.map_congr_left fun e _ => by simp [hn, hb]
theorem tot_map {l : List FileE} (f : FileE → FileE) (h : ∀ e ∈ l, (f e).bytes.length ≤ e.bytes.length) : totF (l.map f) ≤ totF l := by
  induction l with
  | nil => exact Nat.le_refl _
  | cons x r ih =>
    rw [List.map_cons, totF_cons, totF_cons]
    have h1 := h x List.mem_cons_self
    have h2 := ih fun e he => h e (List.mem_cons_of_mem _ he)
    omega
noncomputable local instance decMemB (k : ByteArray) (l : List ByteArray) : Decidable (k ∈ l) := Classical.propDecidable _
abbrev dnm (done : List (ByteArray × Nat)) : List ByteArray := done.map fun q => q.1
/-- The files, of which some are cut already. -/
noncomputable def lD (keep : List TornD) (l : List FileE) (done : List (ByteArray × Nat)) : List FileE := l.map fun e => if e.name ∈ dnm done then cutE keep e else e
theorem lD_name (keep : List TornD) (done : List (ByteArray × Nat)) (e : FileE) : (if e.name ∈ dnm done then cutE keep e else e).name = e.name := by split <;> rfl
theorem lD_blk (keep : List TornD) (done : List (ByteArray × Nat)) (e : FileE) : (if e.name ∈ dnm done then cutE keep e else e).blk = e.blk := by split <;> rfl
theorem lD_inc (hi : IncF s.l) (done : List (ByteArray × Nat)) : IncF (lD keep s.l done) := hi.map_same _ (lD_name keep done)
theorem lD_mem {done : List (ByteArray × Nat)} {e : FileE} (he : e ∈ s.l) (hn : e.name ∉ dnm done) : e ∈ lD keep s.l done := List.mem_map.2 ⟨e, he, by rw [if_neg hn]⟩
theorem lD_step (hi : IncF s.l) {done : List (ByteArray × Nat)} {e : FileE} (he : e ∈ s.l) (hn : e.name ∉ dnm done) : (cutE keep e :: delF (lD keep s.l done) e.name).Perm (lD keep s.l (done ++ [(e.name, e.blk)])) := by
  have h1 := (delF_perm (lD_inc (keep := keep) hi done) (lD_mem he hn)).map fun x : FileE => if x.name = e.name then cutE keep e else x
  have h2 : (delF (lD keep s.l done) e.name).map (fun x : FileE => if x.name = e.name then cutE keep e else x) = delF (lD keep s.l done) e.name := by
    conv => rhs; rw [← List.map_id (delF (lD keep s.l done) e.name)]
    exact List.map_congr_left fun x hx => by rw [if_neg (mem_delF.1 hx).2]; rfl
  rw [List.map_cons, h2, if_pos rfl] at h1
  refine h1.trans (List.Perm.of_eq ?_)
  unfold lD
  rw [List.map_map]
  refine List.map_congr_left fun x hx => ?_
  simp only [Function.comp]
  rw [lD_name]
  by_cases hxe : x.name = e.name
  · have : x = e := hi.inj hx he hxe
    subst this
    simp
  · rw [if_neg hxe]
    have e1 : (x.name ∈ dnm (done ++ [(e.name, e.blk)])) ↔ x.name ∈ dnm done := by simp [hxe]
    by_cases hxd : x.name ∈ dnm done
    · rw [if_pos hxd, if_pos (e1.2 hxd)]
    · rw [if_neg hxd, if_neg (fun h => hxd (e1.1 h))]
theorem cutE_len (hi : KI s) (hc : crashOk s keep) {e : FileE} (he : e ∈ s.l) : ((cutE keep e).bytes.length : Int) = e.synced + kpt keep e.name := by
  have h1 := kpt_ok hi hc he
  have h2 := hi.ok e he
  show ((e.bytes.take (e.synced + kpt keep e.name).toNat).length : Int) = _
  rw [List.length_take]; omega
theorem lD_tot (hi : KI s) (hc : crashOk s keep) {done : List (ByteArray × Nat)} {e : FileE} (he : e ∈ s.l) (hn : e.name ∉ dnm done) : (totF (lD keep s.l (done ++ [(e.name, e.blk)])) : Int) + ((e.bytes.length : Int) - (e.synced + kpt keep e.name)) = (totF (lD keep s.l done) : Int) := by
  have h1 := totF_perm (lD_step (keep := keep) hi.inc he hn)
  have h2 := delF_tot (lD_inc (keep := keep) hi.inc done) (lD_mem he hn)
  have h3 := cutE_len hi hc he
  rw [totF_cons] at h1
  omega
theorem lD_all {done : List (ByteArray × Nat)} (h : ∀ e ∈ s.l, e.name ∈ dnm done) : lD keep s.l done = s.l.map (cutE keep) := List.map_congr_left fun e he => if_pos (h e he)
theorem KI.crash (hi : KI s) (hc : crashOk s keep) : KI (crashK s keep) := by
  have hle : ∀ e ∈ s.l, (cutE keep e).bytes.length ≤ e.bytes.length := fun e he => by show (e.bytes.take _).length ≤ _; rw [List.length_take]; omega
  refine ⟨hi.size, ⟨Int.le_refl _, show intIn .i64 (-1) from i64In_mk (by decide)⟩, hi.inc.map_same _ fun e => rfl, by show (s.l.map _).length ≤ 64; rw [List.length_map]; exact hi.len, ?_, fun q hq => ?_⟩
  · have h1 := tot_map (cutE keep) hle
    have h2 := hi.tot
    show (totF (s.l.map (cutE keep)) : Int) ≤ s.size
    omega
  · obtain ⟨e, he, rfl⟩ := List.mem_map.1 hq
    have h1 := hi.ok e he
    have h2 := kpt_ok hi hc he
    refine ⟨h1.1, by show 0 ≤ e.synced + kpt keep e.name; omega, by rw [cutE_len hi hc he]; exact Int.le_refl _, fun x hx => h1.2.2.2 x (List.mem_of_mem_take hx)⟩
theorem crash_case (s : DkS) (m : List TornD) (t : TornD) : ((getM m t.1).isSome = true) ∨ (getM m t.1 = none ∧ findF s.l t.1 = none) ∨ (getM m t.1 = none ∧ ∃ e, findF s.l t.1 = some e ∧ ¬ (0 ≤ t.2 ∧ t.2 ≤ (e.bytes.length : Int) - e.synced)) ∨ (getM m t.1 = none ∧ ∃ e, findF s.l t.1 = some e ∧ (0 ≤ t.2 ∧ t.2 ≤ (e.bytes.length : Int) - e.synced)) := by
  cases h1 : getM m t.1 with
  | some n => exact .inl rfl
  | none =>
    cases h2 : findF s.l t.1 with
    | none => exact .inr (.inl ⟨rfl, rfl⟩)
    | some e =>
      by_cases h3 : 0 ≤ t.2 ∧ t.2 ≤ (e.bytes.length : Int) - e.synced
      · exact .inr (.inr (.inr ⟨rfl, e, rfl, h3⟩))
      · exact .inr (.inr (.inl ⟨rfl, e, rfl, h3⟩))
end
theorem cutRaw_spec {L : List HP} {b bt : Nat} {lf ca : Int} {e : FileE} {A : Option Addr} {c : Nat} {n : Int} (hn : 0 ≤ n ∧ n ≤ (e.bytes.length : Int)) (hl : 0 ≤ lf ∧ lf ≤ 1000000000) (hel : e.bytes.length ≤ 1000000000) : Fn Try.prog 82 #[.pointer (some ⟨b, 0, none⟩), .pointer (some ⟨e.blk, 0, none⟩), .int .i64 n] (cells b [.map (some bt), .int .i64 lf, .int .i64 ca] 120 :: cells e.blk [.slice A e.bytes.length c, .int .i64 e.synced] 126 :: osl (intR .u8) 5 A c e.bytes :: L) (fun v L' => v = .tuple #[] ∧ ∃ A' c', L' = cells b [.map (some bt), .int .i64 (lf + ((e.bytes.length : Int) - n)), .int .i64 ca] 120 :: cells e.blk [.slice A' (e.bytes.take n.toNat).length c', .int .i64 n] 126 :: osl (intR .u8) 5 A' c' (e.bytes.take n.toNat) :: L) := by
  have htl : (e.bytes.take n.toNat).length = n.toNat := by rw [List.length_take]; omega
  refine Fn_enter Try.func82 rfl rfl rfl rfl ?_
  refine SlN.lens (sln (R := intR .u8) (A := A) (c := c) (xs := e.bytes)) fun hlc => ?_
  refine T_region_draw (cells b [.map (some bt), .int .i64 lf, .int .i64 ca] 120 :: cells e.blk [.slice A e.bytes.length c, .int .i64 e.synced] 126 :: []) [0, 1, 3, 7, 0, 16, 48, 112, 240, 0, 1008, 2047, 4095, 8191, 16383] [14] [(0, true), (1, true), (2, true), (3, true), (4, true), (5, true), (6, true), (7, true), (8, true), (9, true), (10, true), (11, true), (12, true), (13, true), (14, false)] (by kernel_rfl) (by decide +kernel) GivesTo.g ?_
  refine TF_y rfl rfl (Y_move rfl) ?_
  refine TF_y rfl rfl (Y_nil_check rfl) ?_
  refine TF_y rfl rfl (Y_field_addr rfl) ?_
  refine TF_y rfl rfl (Y_load rfl rfl) ?_
  refine TF_y rfl rfl (Y_move rfl) ?_
  refine TF_y rfl rfl (Y_nil_check rfl) ?_
  refine TF_y rfl rfl (Y_field_addr rfl) ?_
  refine TF_y rfl rfl (Y_load rfl rfl) ?_
  refine TF_y rfl rfl (Y_len rfl) ?_
  refine TF_y rfl rfl (Y_move rfl) ?_
  refine TF_y rfl rfl (Y_sub rfl rfl (by omega)) ?_
  refine TF_y rfl rfl (Y_add rfl rfl (by omega)) ?_
  refine TF_y rfl rfl (Y_nil_check rfl) ?_
  refine TF_y rfl rfl (Y_field_addr rfl) ?_
  refine TF_anchor rfl ?_
  refine TL_store rfl rfl rfl rfl rfl rfl ?_
  refine TF_end_tail rfl ?_
  refine TF_nil ?_
  refine T_region_last ?_
  refine TL_y rfl rfl (Y_move rfl) ?_
  refine TL_y rfl rfl (Y_move rfl) ?_
  refine TL_y rfl rfl (Y_move rfl) ?_
  refine TL_y rfl rfl (Y_nil_check rfl) ?_
  refine TL_y rfl rfl (Y_field_addr rfl) ?_
  refine TL_y rfl rfl (Y_load rfl rfl) ?_
  refine TL_y rfl rfl (Y_move rfl) ?_
  refine TL_y rfl rfl (Y_cut_h rfl rfl (by omega)) ?_
  refine TL_name 27 (v' := .slice A (e.bytes.take n.toNat).length c) rfl (by congr 1; omega) ?_
  refine TL_call rfl rfl (cloneB_spec ((sln (R := intR .u8) (A := A) (c := c) (xs := e.bytes)).take n.toNat) (by omega)) ?_
  rintro _ _ ⟨A28, c28, rfl, rfl⟩
  refine TL_y rfl rfl (Y_move rfl) ?_
  refine TL_y rfl rfl (Y_nil_check rfl) ?_
  refine TL_y rfl rfl (Y_field_addr rfl) ?_
  refine TL_store rfl rfl rfl rfl rfl rfl ?_
  refine TL_y rfl rfl (Y_nil_check rfl) ?_
  refine TL_y rfl rfl (Y_field_addr rfl) ?_
  refine TL_store rfl rfl rfl rfl rfl rfl ?_
  refine TL_nil ?_
  exact RetG_0 (.inr rfl) rfl GivesTo.g (⟨rfl, A28, c28, rfl⟩)
end Go.SL
