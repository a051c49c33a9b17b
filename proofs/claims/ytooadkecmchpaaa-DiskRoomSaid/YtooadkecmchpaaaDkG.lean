/- Disk: Files. -/
import Derived.Test.YtooadkecmchpaaaDkF
import Derived.Test.YtooadkecmchpaaaItC
set_option linter.unusedVariables false
set_option linter.unusedSimpArgs false
namespace Go.SL
open Go Go.Proofs
structure FileD where
  name : ByteArray
  bytes : ByteArray
  synced : Int
abbrev fileC (f : FileD) : List Value := [.string f.name, .string f.bytes, .int .i64 f.synced]
def fileOk (f : FileD) : Prop := f.name.size ≤ maxEl ∧ f.bytes.size ≤ maxEl ∧ intIn .i64 f.synced
def fileR : Rep FileD := ⟨3, fun _ a cs => cs = fileC a ∧ fileOk a, fun _ h => h, fun h => by rw [h.1]; rfl, fun h v hv => by rw [h.1] at hv; simp at hv; rcases hv with rfl | rfl | rfl <;> rfl⟩
instance : RepF fileR fileC := ⟨fun _ _ _ h => h.1⟩
abbrev fileV (f : FileD) : Value := .agg (List.toArray (fileC f))
def viewF (e : FileE) : FileD := ⟨e.name, strOfNums e.bytes, e.synced⟩
theorem str_size (xs : List Int) : (strOfNums xs).size = xs.length := by simp [strOfNums, ByteArray.size]
theorem tot_mem {l : List FileE} {e : FileE} (he : e ∈ l) : e.bytes.length ≤ totF l := by
  induction l with
  | nil => cases he
  | cons x r ih =>
    rw [totF_cons]
    rcases List.mem_cons.1 he with rfl | he
    · omega
    · have := ih he; omega
theorem view_ok {s : DkS} (hi : KI s) {e : FileE} (he : e ∈ s.l) : fileOk (viewF e) := by
  have h1 := hi.ok e he
  have h2 := tot_mem he
  have h3 := hi.tot
  have h4 := hi.size
  refine ⟨by show e.name.size ≤ maxEl; simp only [maxEl]; omega, by show (strOfNums e.bytes).size ≤ maxEl; rw [str_size]; simp only [maxEl]; omega, show intIn .i64 e.synced from i64In_mk (by omega)⟩
def namesF (l : List FileE) : List ByteArray := l.map fun e => e.name
structure FsG where
  i : Nat
  A : Option Addr
  c : Nat
theorem diskFiles_spec {L : List HP} {b bt : Nat} {s : DkS} : Fn Try.prog 45 #[.pointer (some ⟨b, 0, none⟩)] (dk b bt s :: L) (fun v L' => ∃ A c, v = .slice A (s.l.map viewF).length c ∧ L' = osl fileR 79 A c (s.l.map viewF) :: dk b bt s :: L) := by
  refine Fn_enter Try.func45 rfl rfl rfl rfl ?_
  refine T_region ?_
  refine TL_y rfl rfl (Y_assign rfl) ?_
  refine TL_nil ?_
  refine T_seq ?_
  refine T_region ?_
  refine TL_y rfl rfl (Y_move rfl) ?_
  refine TL_call rfl rfl (diskMade_spec) ?_
  rintro _ _ ⟨rfl, rfl⟩
  refine TL_name 8 (v' := .bool true) rfl (rfl) ?_
  refine TL_y rfl rfl (Y_not_t rfl) ?_
  refine TL_nil ?_
  refine T_cond_false rfl ?_
  refine T_skip ?_
  refine thenS_normal ?_
  refine T_region ?_
  refine TL_y rfl rfl (Y_assign rfl) ?_
  refine TL_nil ?_
  refine T_seq ?_
  refine T_dk fun hi => ?_
  have hlen := hi.len
  have htot := hi.tot
  have hsz := hi.size
  refine T_region ?_
  refine TL_y rfl rfl (Y_move rfl) ?_
  refine TL_y rfl rfl (Y_nil_check rfl) ?_
  refine TL_y rfl rfl (Y_field_addr rfl) ?_
  refine TL_y rfl rfl (Y_load rfl rfl) ?_
  refine TL_call rfl rfl (keysF_spec) ?_
  rintro _ _ ⟨bx, rfl, rfl⟩
  refine TL_gives (show Gives _ (cells bx [.map (some bt)] 118 :: omap strK fpR false bt (fmap s.l) :: cells b [.map (some bt), .int .i64 (leftK s), .int .i64 s.calls] 120 :: allH (s.l.map fH) :: L) from GivesTo.g) ?_
  refine TL_call rfl rfl (sortedS_spec (Lf := [cells bx [.map (some bt)] 118, omap strK fpR false bt (fmap s.l)]) (Lr := cells b [.map (some bt), .int .i64 (leftK s), .int .i64 s.calls] 120 :: allH (s.l.map fH) :: L) (keysF_iter (R := fpR) (ag := false) (b := bt) (bx := bx) (m := fmap s.l)) (by simp; omega)) ?_
  rintro _ _ ⟨A15, c15, ks, rfl, hperm, rfl⟩
  rw [show srtS ks = namesF s.l from srtS_of (by have := hperm rfl; rwa [List.map_map] at this) (List.pairwise_map.2 (hi.inc.imp fun h => ltN_iff.1 h))]
  simp only [List.cons_append, List.nil_append]
  refine TL_freeze_osl ?_
  refine TL_y rfl rfl (Y_len rfl) ?_
  refine TL_name 16 (v' := .int .i64 (s.l.length : Int)) rfl (by simp [namesF]) ?_
  refine TL_y rfl rfl (Y_move rfl) ?_
  refine TL_gives (show Gives _ (osl fileR 79 none 0 ((s.l.take 0).map viewF) :: _) from osl_nil fileR 79 none _) ?_
  refine TL_nil ?_
  refine T_block ?_
  refine T_loopK (σ := FsG) [0, 15, 16] (fun g => g.i ≤ s.l.length) (fun g kv => (3, .slice g.A ((s.l.take g.i).map viewF).length g.c) :: (17, .int .i64 (g.i : Int)) :: kv) (fun g => osl fileR 79 g.A g.c ((s.l.take g.i).map viewF) :: sl strR A15 c15 (namesF s.l) :: cells b [.map (some bt), .int .i64 (leftK s), .int .i64 s.calls] 120 :: omap strK fpR false bt (fmap s.l) :: allH (s.l.map fH) :: L) (fun g => s.l.length - g.i) (⟨0, none, 0⟩) rfl (Nat.zero_le _) (GivesTo.g) (sub_cons rfl (sub_cons rfl (sub_cons rfl (sub_cons rfl (sub_cons rfl (sub_nil)))))) ?_
  rintro ⟨i, X, cx⟩ hil
  dsimp only at hil ⊢
  refine T_region ?_
  refine TL_y rfl rfl (Y_lt rfl rfl) ?_
  refine TL_nil ?_
  refine T_seq ?_
  refine T_if rfl (fun h18 => ?_) (fun h18 => ?_)
  · refine T_skip ?_
    refine thenS_normal ?_
    refine T_seq ?_
    refine T_block ?_
    obtain ⟨e, he⟩ : ∃ e, s.l[i]? = some e := ⟨_, List.getElem?_eq_getElem (by omega)⟩
    have hem := List.mem_of_getElem? he
    have hu : (namesF s.l)[i]? = some e.name := by unfold namesF; rw [List.getElem?_map, he]; rfl
    have hvo := view_ok hi hem
    have hsn : (s.l.take i).map viewF ++ [viewF e] = (s.l.take (i + 1)).map viewF := by rw [takeAt he, List.map_append]; rfl
    refine T_addr_n (sln (A := A15) (c := c15) (R := strR)) hu fun bq oq eq => ?_
    subst eq
    refine T_region ?_
    refine TL_y rfl rfl (Y_index_n (R := strR) (xs := namesF s.l) rfl rfl rfl hu) ?_
    refine TL_y rfl rfl (Y_load_n (R := strR) (c := c15) (xs := namesF s.l) (q := 0) rfl sln hu rfl) ?_
    refine TL_y rfl rfl (Y_assign rfl) ?_
    refine TL_nil ?_
    refine T_region ?_
    refine TL_y rfl rfl (Y_move rfl) ?_
    refine TL_y rfl rfl (Y_nil_check rfl) ?_
    refine TL_y rfl rfl (Y_field_addr rfl) ?_
    refine TL_y rfl rfl (Y_load rfl rfl) ?_
    refine TL_y rfl rfl (Y_move rfl) ?_
    refine TL_y rfl rfl (Y_lookup (k := e.name) rfl rfl hvo.1) ?_
    refine TL_name 26 (v' := .pointer (some ⟨e.blk, 0, none⟩)) rfl (by rw [look_ptr]; unfold fptr; rw [hi.inc.find hem]; rfl) ?_
    refine TL_y rfl rfl (Y_assign rfl) ?_
    refine TL_nil ?_
    refine T_fout hi.inc hem fun A8 c8 => ?_
    refine T_region_draw_last (cells e.blk [.slice A8 e.bytes.length c8, .int .i64 e.synced] 126 :: osl (intR .u8) 5 A8 c8 e.bytes :: []) [0, 0, 0, 4, 12, 28, 60, 0, 128, 384, 896, 2046, 4094, 8191, 16383] [] [(0, true), (1, true), (2, true), (3, true), (4, true), (5, true), (6, true), (7, true), (8, true), (9, true), (10, true), (11, true), (12, false), (13, false), (14, true)] (by kernel_rfl) (by decide +kernel) GivesTo.g ?_
    refine TF_y rfl rfl (Y_move rfl) ?_
    refine TF_y rfl rfl (Y_move rfl) ?_
    refine TF_y rfl rfl (Y_move rfl) ?_
    refine TF_y rfl rfl (Y_nil_check rfl) ?_
    refine TF_y rfl rfl (Y_field_addr rfl) ?_
    refine TF_y rfl rfl (Y_load rfl rfl) ?_
    refine TF_y rfl rfl (Y_bytes_strN rfl sln) ?_
    refine TF_y rfl rfl (Y_move rfl) ?_
    refine TF_y rfl rfl (Y_nil_check rfl) ?_
    refine TF_y rfl rfl (Y_field_addr rfl) ?_
    refine TF_y rfl rfl (Y_load rfl rfl) ?_
    refine TF_y rfl rfl (Y_build rfl rfl) ?_
    refine TF_name 38 (v' := fileV (viewF e)) rfl (rfl) ?_
    refine TF_anchor rfl ?_
    refine TL_build_slice rfl rfl rfl rfl rfl rfl ?_
    intro b39
    refine TL_osl (k := 1) fileR [viewF e] (Knows.const fun M => ⟨fileC (viewF e), [], ⟨rfl, hvo⟩, rfl, rfl⟩) rfl (by decide) ?_
    refine TL_freeze_osl ?_
    refine TL_name 39 (v' := .slice (some ⟨b39, 0, none⟩) [viewF e].length 1) rfl rfl ?_
    refine TF_end GivesTo.g ?_
    refine TF_anchor rfl ?_
    refine TL_append rfl rfl rfl rfl rfl slk (by simp only [List.length_cons, List.length_nil, List.length_map, List.length_take]; omega) ?_
    intro A40 c40
    rw [hsn]
    refine TF_end GivesTo.g ?_
    refine TF_y rfl rfl (Y_assign rfl) ?_
    refine TF_nil ?_
    refine inB_normal ?_
    refine thenS_normal ?_
    refine T_gives (f_back (A := A8) (c := c8) hi.inc hem) ?_
    refine T_region_last ?_
    refine TL_y rfl rfl (Y_add rfl rfl (by omega)) ?_
    refine TL_name 41 (v' := .int .i64 ((i + 1 : Nat) : Int)) rfl (rfl) ?_
    refine TL_y rfl rfl (Y_move rfl) ?_
    refine TL_gives (show Gives _ (osl fileR 79 none 0 ((s.l.take 0).map viewF) :: _) from osl_nil fileR 79 none _) ?_
    refine TL_nil ?_
    refine thenS_normal ?_
    exact ⟨⟨i + 1, A40, c40⟩, (by simp only; omega), by simp only; omega, holds_to (sub_cons rfl (sub_cons rfl (sub_cons rfl (sub_cons rfl (sub_cons rfl (sub_nil)))))) GivesTo.g⟩
  · refine T_exit ?_
    refine thenS_exit ?_
    refine thenS_exit ?_
    refine inB_hit ?_
    refine thenS_normal ?_
    refine T_region ?_
    refine TL_y rfl rfl (Y_move rfl) ?_
    refine TL_y rfl rfl (Y_assign rfl) ?_
    refine TL_nil ?_
    refine T_ret ?_
    rw [List.take_of_length_le (show s.l.length ≤ i by omega)]
    refine RetQ.gives (dk_close b bt s hi) ?_
    refine RetQ.gives (show Gives _ (osl fileR 79 X cx (s.l.map viewF) :: dk b bt s :: L) from GivesTo.g) ?_
    exact RetG_1 (.inl rfl) rfl (ResV.tmp rfl) GivesTo.g (⟨X, cx, rfl, rfl⟩)
end Go.SL
