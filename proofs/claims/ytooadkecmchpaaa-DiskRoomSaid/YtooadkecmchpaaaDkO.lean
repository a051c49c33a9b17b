/- Disk: the law on room: the walk. -/
import Derived.Test.YtooadkecmchpaaaDkN
set_option linter.unusedVariables false
set_option linter.unusedSimpArgs false
namespace Go.SL
open Go Go.Proofs
theorem u8_of {M : Mem} {A : Option Addr} {c : Nat} {xs : List Int} (h : sliceAt M (intR .u8) A c xs) : ∀ x ∈ xs, 0 ≤ x ∧ x ≤ 255 := fun x hx => by
  rcases h.2.2 with rfl | ⟨b, o, rfl, cs, t, fr, hb, hall⟩
  · cases hx
  · obtain ⟨i, hi⟩ := List.getElem?_of_mem hx
    obtain ⟨l, hl, _⟩ := hall i x hi
    have := hl.2
    simp [intIn, IntKind.min, IntKind.max] at this
    exact this
/-- Never off, of one size. -/
structure Nev (s t : DkS) : Prop where
  size : t.size = s.size
  calls : s.calls = -1 → t.calls = -1
theorem Nev.refl (s : DkS) : Nev s s := ⟨rfl, id⟩
theorem nev_done {s t : DkS} (h : Nev s t) : Nev s (doneK t) := ⟨h.size, fun e => by unfold doneK; rw [h.calls e]; rfl⟩
theorem nev_append (s : DkS) (k : ByteArray) (b : List Int) (blk : Nat) : Nev s (appendK s k b blk).1 := by
  unfold appendK
  split
  · exact .refl s
  · split
    · exact .refl s
    · split
      · exact .refl s
      · exact nev_done ⟨rfl, id⟩
theorem nev_sync (s : DkS) (k : ByteArray) : Nev s (syncK s k).1 := by
  unfold syncK
  split
  · split
    · exact .refl s
    · exact nev_done ⟨rfl, id⟩
  · exact .refl s
theorem nev_cut (s : DkS) (k : ByteArray) (n : Int) : Nev s (cutK s k n).1 := by
  unfold cutK
  split
  · split
    · exact .refl s
    · split
      · exact .refl s
      · exact nev_done ⟨rfl, id⟩
  · exact .refl s
theorem nev_remove (s : DkS) (k : ByteArray) : Nev s (removeK s k).1 := by
  unfold removeK
  split
  · split
    · exact .refl s
    · exact nev_done ⟨rfl, id⟩
  · exact .refl s
theorem nev_rename (s : DkS) (k k2 : ByteArray) : Nev s (renameK s k k2).1 := by
  unfold renameK
  split
  · exact .refl s
  · split
    · split
      · exact .refl s
      · exact nev_done ⟨rfl, id⟩
    · exact .refl s
theorem nev_crash (s : DkS) (keep : List TornD) : Nev s (if crashOk s keep then crashK s keep else s) := by
  split
  · exact ⟨rfl, fun _ => rfl⟩
  · exact .refl s
theorem append_left {s : DkS} (hi : KI s) {k : ByteArray} {b : List Int} {blk : Nat} (h : (appendK s k b blk).2 = 0) : leftK (appendK s k b blk).1 = leftK s - (b.length : Int) := by
  unfold appendK at h ⊢
  split at h
  · simp at h
  · rename_i h1
    split at h
    · simp at h
    · rename_i h2
      split at h
      · simp at h
      · rename_i h3
        rw [if_neg h1, if_neg h2, if_neg h3]
        unfold leftK doneK
        cases hf : findF s.l k with
        | none =>
          have := putF_tot (l := s.l) ⟨k, blk, b, 0⟩
          dsimp only at this ⊢
          rw [delF_none hf] at this; omega
        | some e =>
          obtain ⟨he, rfl⟩ := findF_mem hf
          have := putF_totE (e' := ⟨e.name, e.blk, e.bytes ++ b, e.synced⟩) hi.inc he rfl
          dsimp only at this ⊢
          rw [List.length_append] at this; omega
theorem append_ok {s : DkS} {k : ByteArray} {b : List Int} {blk : Nat} (hn : isName k) (ho : ¬ offK s) (hl : (b.length : Int) ≤ leftK s) (h64 : s.l.length < 64) : (appendK s k b blk).2 = 0 := by
  unfold appendK
  rw [if_neg (Classical.not_not.2 hn), if_neg ho, if_neg (by omega)]
theorem append_full {s : DkS} {k : ByteArray} {b : List Int} {blk : Nat} (hn : isName k) (ho : ¬ offK s) (hl : leftK s < (b.length : Int)) : appendK s k b blk = (s, 2) := by
  unfold appendK
  rw [if_neg (Classical.not_not.2 hn), if_neg ho, if_pos (.inl hl)]
abbrev nmNew : ByteArray := ⟨#[110, 101, 119]⟩
theorem nmNew_ok : isName nmNew := by decide +kernel
theorem tot_snoc {l : List FileE} {k : Nat} {e : FileE} (h : l[k]? = some e) : totF (l.take (k + 1)) = totF (l.take k) + e.bytes.length := by
  rw [takeAt h]; simp [totF]
theorem rep_u8 (n : Nat) : ∀ x ∈ List.replicate n (0 : Int), 0 ≤ x ∧ x ≤ 255 := fun x hx => by
  rw [(List.mem_replicate.1 hx).2]; decide
structure RmSt where
  i : Nat
  s : DkS
theorem diskRoom_bad {L : List HP} {A : Option Addr} {c : Nat} {l : List OpD} (n : Int) (h : ¬ (0 ≤ n ∧ n ≤ 268435456)) : Fn Try.prog 8 #[.int .i64 n, .slice A l.length c] L (fun v L' => v = .bool true ∧ L' = L) := by
  refine Fn_enter Try.func8 rfl rfl rfl rfl ?_
  refine T_gives (Gives.pure_intro trivial) ?_
  refine T_region ?_
  refine TL_y rfl rfl (Y_assign rfl) ?_
  refine TL_nil ?_
  refine T_region ?_
  refine TL_y rfl rfl (Y_move rfl) ?_
  refine TL_call rfl rfl (diskNew_bad n h _) ?_
  rintro _ _ ⟨rfl, rfl⟩
  refine TL_y rfl rfl (Y_move rfl) ?_
  refine TL_y rfl rfl (Y_extract rfl rfl) ?_
  refine TL_y rfl rfl (Y_extract rfl rfl) ?_
  refine TL_y rfl rfl (Y_assign rfl) ?_
  refine TL_y rfl rfl (Y_assign rfl) ?_
  refine TL_nil ?_
  refine T_seq ?_
  refine T_region ?_
  refine TL_call rfl rfl (lives03_spec _) ?_
  rintro _ _ ⟨rfl, rfl⟩
  refine TL_name 17 (v' := .bool true) rfl (rfl) ?_
  refine TL_y rfl rfl (Y_not_t rfl) ?_
  refine TL_nil ?_
  refine T_cond_false rfl ?_
  refine T_skip ?_
  refine thenS_normal ?_
  refine T_seq ?_
  refine T_region ?_
  refine TL_y rfl rfl (Y_move rfl) ?_
  refine TL_y rfl rfl (Y_ne rfl rfl) ?_
  refine TL_name 20 (v' := .bool true) rfl (congrArg Value.bool (by decide)) ?_
  refine TL_nil ?_
  refine T_cond_true rfl ?_
  refine T_region ?_
  refine TL_y rfl rfl (Y_move rfl) ?_
  refine TL_y rfl rfl (Y_equal rfl rfl (EqIs.ptr_nil)) ?_
  refine TL_name 22 (v' := .bool true) rfl (by simp) ?_
  refine TL_y rfl rfl (Y_move rfl) ?_
  refine TL_grun rfl rfl ?_
  refine TL_y rfl rfl (Y_move rfl) ?_
  refine TL_grun rfl rfl ?_
  refine TL_y rfl rfl (Y_lt rfl rfl) ?_
  refine TL_grun rfl rfl ?_
  refine TL_y rfl rfl (Y_move rfl) ?_
  refine TL_splitd 26 rfl (fun h26 => ?_) (fun h26 => ?_)
  · refine TL_gskip rfl rfl rfl rfl ?_
    refine TL_gskip rfl rfl rfl rfl ?_
    refine TL_grun rfl rfl ?_
    refine TL_y rfl rfl (Y_pick_t rfl rfl) ?_
    refine TL_y rfl rfl (Y_pick_t rfl rfl) ?_
    refine TL_y rfl rfl (Y_assign rfl) ?_
    refine TL_nil ?_
    refine T_ret ?_
    refine thenS_ret ?_
    exact RetG_1 (.inl rfl) rfl (ResV.tmp rfl) GivesTo.g (⟨rfl, rfl⟩)
  · refine TL_grun rfl rfl ?_
    refine TL_y rfl rfl (Y_move rfl) ?_
    refine TL_grun rfl rfl ?_
    refine TL_y rfl rfl (Y_gt rfl rfl) ?_
    refine TL_name 28 (v' := .bool true) rfl (congrArg Value.bool (decide_eq_true (by omega))) ?_
    refine TL_grun rfl rfl ?_
    refine TL_y rfl rfl (Y_pick_f rfl rfl) ?_
    refine TL_y rfl rfl (Y_pick_t rfl rfl) ?_
    refine TL_y rfl rfl (Y_assign rfl) ?_
    refine TL_nil ?_
    refine T_ret ?_
    refine thenS_ret ?_
    exact RetG_1 (.inl rfl) rfl (ResV.tmp rfl) GivesTo.g (⟨rfl, rfl⟩)
theorem tot_take (l : List FileE) (k : Nat) : totF (l.take k) ≤ totF l := by
  have e : totF (l.take k ++ l.drop k) = totF (l.take k) + totF (l.drop k) := by unfold totF; rw [List.map_append, List.sum_append]
  rw [List.take_append_drop] at e
  omega
theorem diskRoom_good {L : List HP} {A : Option Addr} {c : Nat} {l : List OpD} (n : Int) (h : 0 ≤ n ∧ n ≤ 268435456) (hk : SlK L opR A c l) (hl : l.length ≤ 17592186044416) : Fn Try.prog 8 #[.int .i64 n, .slice A l.length c] L (fun v L' => v = .bool true ∧ L' = L) := by
  refine Fn_enter Try.func8 rfl rfl rfl rfl ?_
  refine T_gives hk.lay ?_
  refine T_region ?_
  refine TL_y rfl rfl (Y_assign rfl) ?_
  refine TL_nil ?_
  refine T_region ?_
  refine TL_y rfl rfl (Y_move rfl) ?_
  refine TL_call rfl rfl (diskNew_ok n h _) ?_
  rintro _ _ ⟨b, bt, rfl, rfl⟩
  refine TL_y rfl rfl (Y_move rfl) ?_
  refine TL_y rfl rfl (Y_extract rfl rfl) ?_
  refine TL_y rfl rfl (Y_extract rfl rfl) ?_
  refine TL_y rfl rfl (Y_assign rfl) ?_
  refine TL_y rfl rfl (Y_assign rfl) ?_
  refine TL_nil ?_
  refine T_seq ?_
  refine T_region ?_
  refine TL_call rfl rfl (lives03_spec _) ?_
  rintro _ _ ⟨rfl, rfl⟩
  refine TL_name 17 (v' := .bool true) rfl (rfl) ?_
  refine TL_y rfl rfl (Y_not_t rfl) ?_
  refine TL_nil ?_
  refine T_cond_false rfl ?_
  refine T_skip ?_
  refine thenS_normal ?_
  refine T_seq ?_
  refine T_region ?_
  refine TL_y rfl rfl (Y_move rfl) ?_
  refine TL_y rfl rfl (Y_ne rfl rfl) ?_
  refine TL_name 20 (v' := .bool false) rfl (congrArg Value.bool (by decide)) ?_
  refine TL_nil ?_
  refine T_cond_false rfl ?_
  refine T_skip ?_
  refine thenS_normal ?_
  refine T_seq ?_
  refine T_region ?_
  refine TL_y rfl rfl (Y_move rfl) ?_
  refine TL_y rfl rfl (Y_gt rfl rfl) ?_
  refine TL_nil ?_
  refine T_if rfl (fun h32 => ?_) (fun h32 => ?_)
  · refine T_region ?_
    refine TL_y rfl rfl (Y_assign rfl) ?_
    refine TL_nil ?_
    refine T_ret ?_
    refine thenS_ret ?_
    exact RetG_1 (.inl rfl) rfl (ResV.tmp rfl) GivesTo.g (⟨rfl, rfl⟩)
  · refine T_skip ?_
    refine thenS_normal ?_
    refine T_seq ?_
    refine T_region ?_
    refine TL_y rfl rfl (Y_assign rfl) ?_
    refine TL_nil ?_
    refine T_block ?_
    refine T_loopK (σ := RmSt) [0, 1, 5] (fun g => g.i ≤ l.length ∧ Nev (dkNew n) g.s) (fun g kv => (7, .int .i64 (g.i : Int)) :: kv) (fun g => dk b bt g.s :: sl opR A c l :: L) (fun g => l.length - g.i) (⟨0, dkNew n⟩) rfl (⟨Nat.zero_le _, .refl _⟩) (GivesTo.g) (sub_cons rfl (sub_cons rfl (sub_cons rfl (sub_cons rfl (sub_nil))))) ?_
    rintro ⟨i, s⟩ ⟨hil, hnv⟩
    dsimp only at hil hnv ⊢
    refine T_seq ?_
    refine T_region ?_
    refine TL_y rfl rfl (Y_move rfl) ?_
    refine TL_y rfl rfl (Y_move rfl) ?_
    refine TL_y rfl rfl (Y_len rfl) ?_
    refine TL_y rfl rfl (Y_lt rfl rfl) ?_
    refine TL_nil ?_
    refine T_if rfl (fun h36 => ?_) (fun h36 => ?_)
    · refine T_skip ?_
      refine thenS_normal ?_
      refine T_seq ?_
      refine T_block ?_
      refine T_seq ?_
      obtain ⟨u, hu⟩ : ∃ u, l[i]? = some u := ⟨_, List.getElem?_eq_getElem (by omega)⟩
      refine T_at (slk (A := A) (c := c)) hu fun bo oo lo hao => ?_
      refine T_ex fun pq okq => ?_
      simp only [List.cons_append, List.nil_append]
      refine T_fact (φ := fun M => sliceAt M (intR .u8) pq.1.1 pq.1.2 u.bytes) slk (fun M h => u8_of h) fun hub => ?_
      refine T_region ?_
      refine TL_y rfl rfl (Y_move rfl) ?_
      refine TL_y rfl rfl (Y_move rfl) ?_
      refine TL_y rfl rfl (Y_index_at rfl rfl (by omega) hao) ?_
      refine TL_y rfl rfl (Y_field_addr2 rfl) ?_
      refine TL_y rfl rfl (Y_load_row rfl rfl) ?_
      refine TL_nil ?_
      refine T_block ?_
      refine T_region ?_
      refine TL_y rfl rfl (Y_eq rfl rfl) ?_
      refine TL_y rfl rfl (Y_assign rfl) ?_
      refine TL_nil ?_
      refine T_if rfl (fun h44 => ?_) (fun h44 => ?_)
      · refine T_region_draw_last (row bo oo (opC u pq) :: []) [0, 0, 0, 6, 14, 30, 0, 0, 192, 448, 960, 2047] [] [(0, true), (1, true), (2, true), (3, true), (4, true), (5, true), (6, true), (7, true), (8, true), (9, true), (10, true), (11, false)] (by kernel_rfl) (by decide +kernel) GivesTo.g ?_
        refine TF_y rfl rfl (Y_move rfl) ?_
        refine TF_y rfl rfl (Y_move rfl) ?_
        refine TF_y rfl rfl (Y_move rfl) ?_
        refine TF_y rfl rfl (Y_index_at rfl rfl (by omega) hao) ?_
        refine TF_y rfl rfl (Y_field_addr2 rfl) ?_
        refine TF_y rfl rfl (Y_load_row rfl rfl) ?_
        refine TF_y rfl rfl (Y_move rfl) ?_
        refine TF_y rfl rfl (Y_move rfl) ?_
        refine TF_y rfl rfl (Y_index_at rfl rfl (by omega) hao) ?_
        refine TF_y rfl rfl (Y_field_addr2 rfl) ?_
        refine TF_y rfl rfl (Y_load_row rfl rfl) ?_
        refine TF_anchor rfl ?_
        refine TL_pullk b ?_
        refine TL_call rfl rfl (diskAppend_spec u.name okq.name sln hub (by have := okq.bytes; simp only [maxEl]; omega)) ?_
        rintro _ _ ⟨k1, rfl, rfl⟩
        refine TF_end GivesTo.g ?_
        refine TF_nil ?_
        refine inB_normal ?_
        refine thenS_normal ?_
        obtain ⟨S, hS⟩ : ∃ S, S = (appendK s u.name u.bytes k1).1 := ⟨_, rfl⟩
        have hSn : Nev s S := hS ▸ nev_append s u.name u.bytes k1
        rw [← hS]
        have hNS : Nev (dkNew n) S := ⟨hSn.size.trans hnv.size, fun e => hSn.calls (hnv.calls e)⟩
        refine T_pullk b ?_
        refine T_dkI fun hi => ?_
        have hlen := hi.len
        have htot := hi.tot
        have hss : S.size = n := hNS.size
        have hll : leftK S = S.size - (totF S.l : Int) := rfl
        refine T_region ?_
        refine TL_y rfl rfl (Y_assign rfl) ?_
        refine TL_nil ?_
        refine T_region ?_
        refine TL_y rfl rfl (Y_move rfl) ?_
        refine TL_pullk b ?_
        refine TL_call rfl rfl (diskFiles_spec) ?_
        rintro _ _ ⟨A114, c114, rfl, rfl⟩
        refine TL_freeze_osl ?_
        refine TL_y rfl rfl (Y_assign rfl) ?_
        refine TL_nil ?_
        refine T_seq ?_
        refine T_region ?_
        refine TL_y rfl rfl (Y_assign rfl) ?_
        refine TL_nil ?_
        refine T_block ?_
        refine T_loopK (σ := Nat) [0, 1, 5, 7, 9] (fun k => k ≤ S.l.length) (fun k kv => (8, .int .i64 ((totF (S.l.take k) : Nat) : Int)) :: (10, .int .i64 (k : Int)) :: kv) (fun k => sl fileR A114 c114 (S.l.map viewF) :: dk b bt S :: sl opR A c l :: L) (fun k => S.l.length - k) (0) rfl (Nat.zero_le _) (GivesTo.g) (sub_cons rfl (sub_cons rfl (sub_cons rfl (sub_cons rfl (sub_cons rfl (sub_cons rfl (sub_cons rfl (sub_nil)))))))) ?_
        intro k hk
        refine T_seq ?_
        refine T_region ?_
        refine TL_y rfl rfl (Y_move rfl) ?_
        refine TL_y rfl rfl (Y_move rfl) ?_
        refine TL_y rfl rfl (Y_len rfl) ?_
        refine TL_name 117 (v' := .int .i64 (S.l.length : Int)) rfl (by simp) ?_
        refine TL_y rfl rfl (Y_lt rfl rfl) ?_
        refine TL_nil ?_
        refine T_if rfl (fun h118 => ?_) (fun h118 => ?_)
        · refine T_skip ?_
          refine thenS_normal ?_
          refine T_seq ?_
          refine T_block ?_
          obtain ⟨e, he⟩ : ∃ e, S.l[k]? = some e := ⟨_, List.getElem?_eq_getElem (by omega)⟩
          have hv : (S.l.map viewF)[k]? = some (viewF e) := by rw [List.getElem?_map, he]; rfl
          have hts := tot_snoc he
          have hle : totF (S.l.take (k + 1)) ≤ totF S.l := tot_take S.l (k + 1)
          refine T_addr_n (sln (A := A114) (c := c114) (R := fileR)) hv fun bq oq eq => ?_
          subst eq
          refine T_region_last ?_
          refine TL_y rfl rfl (Y_move rfl) ?_
          refine TL_y rfl rfl (Y_move rfl) ?_
          refine TL_y rfl rfl (Y_move rfl) ?_
          refine TL_y rfl rfl (Y_index_n (R := fileR) (xs := S.l.map viewF) rfl rfl rfl hv) ?_
          refine TL_y rfl rfl (Y_field_addr2 rfl) ?_
          refine TL_y rfl rfl (Y_load_n (R := fileR) (c := c114) (xs := S.l.map viewF) (q := 1) rfl sln hv rfl) ?_
          refine TL_y rfl rfl (Y_len_str rfl) ?_
          refine TL_name 127 (v' := .int .i64 (e.bytes.length : Int)) rfl (by congr 2; exact str_size e.bytes) ?_
          refine TL_y rfl rfl (Y_add rfl rfl (by omega)) ?_
          refine TL_name 128 (v' := .int .i64 ((totF (S.l.take (k + 1)) : Nat) : Int)) rfl (by rw [hts]; congr 1) ?_
          refine TL_y rfl rfl (Y_assign rfl) ?_
          refine TL_nil ?_
          refine inB_normal ?_
          refine thenS_normal ?_
          refine T_region_last ?_
          refine TL_y rfl rfl (Y_move rfl) ?_
          refine TL_y rfl rfl (Y_add rfl rfl (by omega)) ?_
          refine TL_name 120 (v' := .int .i64 ((k + 1 : Nat) : Int)) rfl (rfl) ?_
          refine TL_y rfl rfl (Y_assign rfl) ?_
          refine TL_nil ?_
          refine thenS_normal ?_
          exact ⟨k + 1, (by omega), by omega, holds_to (sub_cons rfl (sub_cons rfl (sub_cons rfl (sub_cons rfl (sub_cons rfl (sub_cons rfl (sub_cons rfl (sub_nil)))))))) GivesTo.g⟩
        · refine T_exit ?_
          refine thenS_exit ?_
          refine thenS_exit ?_
          refine inB_hit ?_
          refine thenS_normal ?_
          rw [List.take_of_length_le (show S.l.length ≤ k by omega)]
          refine T_region ?_
          refine TL_y rfl rfl (Y_move rfl) ?_
          refine TL_y rfl rfl (Y_move rfl) ?_
          refine TL_pullk b ?_
          refine TL_call rfl rfl (diskLeft_spec) ?_
          rintro _ _ ⟨rfl, rfl⟩
          refine TL_y rfl rfl (Y_add rfl rfl (by omega)) ?_
          refine TL_y rfl rfl (Y_move rfl) ?_
          refine TL_y rfl rfl (Y_ne rfl rfl) ?_
          refine TL_name 134 (v' := .bool false) rfl (congrArg Value.bool (decide_eq_false (by omega))) ?_
          refine TL_nil ?_
          refine T_cond_false rfl ?_
          refine T_skip ?_
          refine inB_normal ?_
          refine thenS_normal ?_
          refine T_region_last ?_
          refine TL_y rfl rfl (Y_move rfl) ?_
          refine TL_y rfl rfl (Y_add rfl rfl (by omega)) ?_
          refine TL_name 38 (v' := .int .i64 ((i + 1 : Nat) : Int)) rfl (rfl) ?_
          refine TL_y rfl rfl (Y_assign rfl) ?_
          refine TL_nil ?_
          refine thenS_normal ?_
          exact ⟨⟨i + 1, S⟩, ⟨by simp only; omega, hNS⟩, by simp only; omega, holds_to (sub_cons rfl (sub_cons rfl (sub_cons rfl (sub_cons rfl (sub_nil))))) GivesTo.g⟩
      · refine T_region ?_
        refine TL_y rfl rfl (Y_eq rfl rfl) ?_
        refine TL_y rfl rfl (Y_assign rfl) ?_
        refine TL_nil ?_
        refine T_if rfl (fun h58 => ?_) (fun h58 => ?_)
        · refine T_region_last ?_
          refine TL_y rfl rfl (Y_move rfl) ?_
          refine TL_y rfl rfl (Y_move rfl) ?_
          refine TL_y rfl rfl (Y_move rfl) ?_
          refine TL_y rfl rfl (Y_index_at rfl rfl (by omega) hao) ?_
          refine TL_y rfl rfl (Y_field_addr2 rfl) ?_
          refine TL_y rfl rfl (Y_load_row rfl rfl) ?_
          refine TL_pullk b ?_
          refine TL_call rfl rfl (diskSync_spec u.name okq.name) ?_
          rintro _ _ ⟨rfl, rfl⟩
          refine TL_nil ?_
          refine inB_normal ?_
          refine thenS_normal ?_
          obtain ⟨S, hS⟩ : ∃ S, S = (syncK s u.name).1 := ⟨_, rfl⟩
          have hSn : Nev s S := hS ▸ nev_sync s u.name
          rw [← hS]
          have hNS : Nev (dkNew n) S := ⟨hSn.size.trans hnv.size, fun e => hSn.calls (hnv.calls e)⟩
          refine T_pullk b ?_
          refine T_dkI fun hi => ?_
          have hlen := hi.len
          have htot := hi.tot
          have hss : S.size = n := hNS.size
          have hll : leftK S = S.size - (totF S.l : Int) := rfl
          refine T_region ?_
          refine TL_y rfl rfl (Y_assign rfl) ?_
          refine TL_nil ?_
          refine T_region ?_
          refine TL_y rfl rfl (Y_move rfl) ?_
          refine TL_pullk b ?_
          refine TL_call rfl rfl (diskFiles_spec) ?_
          rintro _ _ ⟨A114, c114, rfl, rfl⟩
          refine TL_freeze_osl ?_
          refine TL_y rfl rfl (Y_assign rfl) ?_
          refine TL_nil ?_
          refine T_seq ?_
          refine T_region ?_
          refine TL_y rfl rfl (Y_assign rfl) ?_
          refine TL_nil ?_
          refine T_block ?_
          refine T_loopK (σ := Nat) [0, 1, 5, 7, 9] (fun k => k ≤ S.l.length) (fun k kv => (8, .int .i64 ((totF (S.l.take k) : Nat) : Int)) :: (10, .int .i64 (k : Int)) :: kv) (fun k => sl fileR A114 c114 (S.l.map viewF) :: dk b bt S :: sl opR A c l :: L) (fun k => S.l.length - k) (0) rfl (Nat.zero_le _) (GivesTo.g) (sub_cons rfl (sub_cons rfl (sub_cons rfl (sub_cons rfl (sub_cons rfl (sub_cons rfl (sub_cons rfl (sub_nil)))))))) ?_
          intro k hk
          refine T_seq ?_
          refine T_region ?_
          refine TL_y rfl rfl (Y_move rfl) ?_
          refine TL_y rfl rfl (Y_move rfl) ?_
          refine TL_y rfl rfl (Y_len rfl) ?_
          refine TL_name 117 (v' := .int .i64 (S.l.length : Int)) rfl (by simp) ?_
          refine TL_y rfl rfl (Y_lt rfl rfl) ?_
          refine TL_nil ?_
          refine T_if rfl (fun h118 => ?_) (fun h118 => ?_)
          · refine T_skip ?_
            refine thenS_normal ?_
            refine T_seq ?_
            refine T_block ?_
            obtain ⟨e, he⟩ : ∃ e, S.l[k]? = some e := ⟨_, List.getElem?_eq_getElem (by omega)⟩
            have hv : (S.l.map viewF)[k]? = some (viewF e) := by rw [List.getElem?_map, he]; rfl
            have hts := tot_snoc he
            have hle : totF (S.l.take (k + 1)) ≤ totF S.l := tot_take S.l (k + 1)
            refine T_addr_n (sln (A := A114) (c := c114) (R := fileR)) hv fun bq oq eq => ?_
            subst eq
            refine T_region_last ?_
            refine TL_y rfl rfl (Y_move rfl) ?_
            refine TL_y rfl rfl (Y_move rfl) ?_
            refine TL_y rfl rfl (Y_move rfl) ?_
            refine TL_y rfl rfl (Y_index_n (R := fileR) (xs := S.l.map viewF) rfl rfl rfl hv) ?_
            refine TL_y rfl rfl (Y_field_addr2 rfl) ?_
            refine TL_y rfl rfl (Y_load_n (R := fileR) (c := c114) (xs := S.l.map viewF) (q := 1) rfl sln hv rfl) ?_
            refine TL_y rfl rfl (Y_len_str rfl) ?_
            refine TL_name 127 (v' := .int .i64 (e.bytes.length : Int)) rfl (by congr 2; exact str_size e.bytes) ?_
            refine TL_y rfl rfl (Y_add rfl rfl (by omega)) ?_
            refine TL_name 128 (v' := .int .i64 ((totF (S.l.take (k + 1)) : Nat) : Int)) rfl (by rw [hts]; congr 1) ?_
            refine TL_y rfl rfl (Y_assign rfl) ?_
            refine TL_nil ?_
            refine inB_normal ?_
            refine thenS_normal ?_
            refine T_region_last ?_
            refine TL_y rfl rfl (Y_move rfl) ?_
            refine TL_y rfl rfl (Y_add rfl rfl (by omega)) ?_
            refine TL_name 120 (v' := .int .i64 ((k + 1 : Nat) : Int)) rfl (rfl) ?_
            refine TL_y rfl rfl (Y_assign rfl) ?_
            refine TL_nil ?_
            refine thenS_normal ?_
            exact ⟨k + 1, (by omega), by omega, holds_to (sub_cons rfl (sub_cons rfl (sub_cons rfl (sub_cons rfl (sub_cons rfl (sub_cons rfl (sub_cons rfl (sub_nil)))))))) GivesTo.g⟩
          · refine T_exit ?_
            refine thenS_exit ?_
            refine thenS_exit ?_
            refine inB_hit ?_
            refine thenS_normal ?_
            rw [List.take_of_length_le (show S.l.length ≤ k by omega)]
            refine T_region ?_
            refine TL_y rfl rfl (Y_move rfl) ?_
            refine TL_y rfl rfl (Y_move rfl) ?_
            refine TL_pullk b ?_
            refine TL_call rfl rfl (diskLeft_spec) ?_
            rintro _ _ ⟨rfl, rfl⟩
            refine TL_y rfl rfl (Y_add rfl rfl (by omega)) ?_
            refine TL_y rfl rfl (Y_move rfl) ?_
            refine TL_y rfl rfl (Y_ne rfl rfl) ?_
            refine TL_name 134 (v' := .bool false) rfl (congrArg Value.bool (decide_eq_false (by omega))) ?_
            refine TL_nil ?_
            refine T_cond_false rfl ?_
            refine T_skip ?_
            refine inB_normal ?_
            refine thenS_normal ?_
            refine T_region_last ?_
            refine TL_y rfl rfl (Y_move rfl) ?_
            refine TL_y rfl rfl (Y_add rfl rfl (by omega)) ?_
            refine TL_name 38 (v' := .int .i64 ((i + 1 : Nat) : Int)) rfl (rfl) ?_
            refine TL_y rfl rfl (Y_assign rfl) ?_
            refine TL_nil ?_
            refine thenS_normal ?_
            exact ⟨⟨i + 1, S⟩, ⟨by simp only; omega, hNS⟩, by simp only; omega, holds_to (sub_cons rfl (sub_cons rfl (sub_cons rfl (sub_cons rfl (sub_nil))))) GivesTo.g⟩
        · refine T_region ?_
          refine TL_y rfl rfl (Y_eq rfl rfl) ?_
          refine TL_y rfl rfl (Y_assign rfl) ?_
          refine TL_nil ?_
          refine T_if rfl (fun h67 => ?_) (fun h67 => ?_)
          · refine T_region_draw_last (row bo oo (opC u pq) :: []) [0, 0, 0, 6, 14, 30, 0, 0, 192, 448, 960, 2047] [] [(0, true), (1, true), (2, true), (3, true), (4, true), (5, true), (6, true), (7, true), (8, true), (9, true), (10, true), (11, false)] (by kernel_rfl) (by decide +kernel) GivesTo.g ?_
            refine TF_y rfl rfl (Y_move rfl) ?_
            refine TF_y rfl rfl (Y_move rfl) ?_
            refine TF_y rfl rfl (Y_move rfl) ?_
            refine TF_y rfl rfl (Y_index_at rfl rfl (by omega) hao) ?_
            refine TF_y rfl rfl (Y_field_addr2 rfl) ?_
            refine TF_y rfl rfl (Y_load_row rfl rfl) ?_
            refine TF_y rfl rfl (Y_move rfl) ?_
            refine TF_y rfl rfl (Y_move rfl) ?_
            refine TF_y rfl rfl (Y_index_at rfl rfl (by omega) hao) ?_
            refine TF_y rfl rfl (Y_field_addr2 rfl) ?_
            refine TF_y rfl rfl (Y_load_row rfl rfl) ?_
            refine TF_anchor rfl ?_
            refine TL_pullk b ?_
            refine TL_call rfl rfl (diskCut_spec u.name u.n okq.name) ?_
            rintro _ _ ⟨rfl, rfl⟩
            refine TF_end GivesTo.g ?_
            refine TF_nil ?_
            refine inB_normal ?_
            refine thenS_normal ?_
            obtain ⟨S, hS⟩ : ∃ S, S = (cutK s u.name u.n).1 := ⟨_, rfl⟩
            have hSn : Nev s S := hS ▸ nev_cut s u.name u.n
            rw [← hS]
            have hNS : Nev (dkNew n) S := ⟨hSn.size.trans hnv.size, fun e => hSn.calls (hnv.calls e)⟩
            refine T_pullk b ?_
            refine T_dkI fun hi => ?_
            have hlen := hi.len
            have htot := hi.tot
            have hss : S.size = n := hNS.size
            have hll : leftK S = S.size - (totF S.l : Int) := rfl
            refine T_region ?_
            refine TL_y rfl rfl (Y_assign rfl) ?_
            refine TL_nil ?_
            refine T_region ?_
            refine TL_y rfl rfl (Y_move rfl) ?_
            refine TL_pullk b ?_
            refine TL_call rfl rfl (diskFiles_spec) ?_
            rintro _ _ ⟨A114, c114, rfl, rfl⟩
            refine TL_freeze_osl ?_
            refine TL_y rfl rfl (Y_assign rfl) ?_
            refine TL_nil ?_
            refine T_seq ?_
            refine T_region ?_
            refine TL_y rfl rfl (Y_assign rfl) ?_
            refine TL_nil ?_
            refine T_block ?_
            refine T_loopK (σ := Nat) [0, 1, 5, 7, 9] (fun k => k ≤ S.l.length) (fun k kv => (8, .int .i64 ((totF (S.l.take k) : Nat) : Int)) :: (10, .int .i64 (k : Int)) :: kv) (fun k => sl fileR A114 c114 (S.l.map viewF) :: dk b bt S :: sl opR A c l :: L) (fun k => S.l.length - k) (0) rfl (Nat.zero_le _) (GivesTo.g) (sub_cons rfl (sub_cons rfl (sub_cons rfl (sub_cons rfl (sub_cons rfl (sub_cons rfl (sub_cons rfl (sub_nil)))))))) ?_
            intro k hk
            refine T_seq ?_
            refine T_region ?_
            refine TL_y rfl rfl (Y_move rfl) ?_
            refine TL_y rfl rfl (Y_move rfl) ?_
            refine TL_y rfl rfl (Y_len rfl) ?_
            refine TL_name 117 (v' := .int .i64 (S.l.length : Int)) rfl (by simp) ?_
            refine TL_y rfl rfl (Y_lt rfl rfl) ?_
            refine TL_nil ?_
            refine T_if rfl (fun h118 => ?_) (fun h118 => ?_)
            · refine T_skip ?_
              refine thenS_normal ?_
              refine T_seq ?_
              refine T_block ?_
              obtain ⟨e, he⟩ : ∃ e, S.l[k]? = some e := ⟨_, List.getElem?_eq_getElem (by omega)⟩
              have hv : (S.l.map viewF)[k]? = some (viewF e) := by rw [List.getElem?_map, he]; rfl
              have hts := tot_snoc he
              have hle : totF (S.l.take (k + 1)) ≤ totF S.l := tot_take S.l (k + 1)
              refine T_addr_n (sln (A := A114) (c := c114) (R := fileR)) hv fun bq oq eq => ?_
              subst eq
              refine T_region_last ?_
              refine TL_y rfl rfl (Y_move rfl) ?_
              refine TL_y rfl rfl (Y_move rfl) ?_
              refine TL_y rfl rfl (Y_move rfl) ?_
              refine TL_y rfl rfl (Y_index_n (R := fileR) (xs := S.l.map viewF) rfl rfl rfl hv) ?_
              refine TL_y rfl rfl (Y_field_addr2 rfl) ?_
              refine TL_y rfl rfl (Y_load_n (R := fileR) (c := c114) (xs := S.l.map viewF) (q := 1) rfl sln hv rfl) ?_
              refine TL_y rfl rfl (Y_len_str rfl) ?_
              refine TL_name 127 (v' := .int .i64 (e.bytes.length : Int)) rfl (by congr 2; exact str_size e.bytes) ?_
              refine TL_y rfl rfl (Y_add rfl rfl (by omega)) ?_
              refine TL_name 128 (v' := .int .i64 ((totF (S.l.take (k + 1)) : Nat) : Int)) rfl (by rw [hts]; congr 1) ?_
              refine TL_y rfl rfl (Y_assign rfl) ?_
              refine TL_nil ?_
              refine inB_normal ?_
              refine thenS_normal ?_
              refine T_region_last ?_
              refine TL_y rfl rfl (Y_move rfl) ?_
              refine TL_y rfl rfl (Y_add rfl rfl (by omega)) ?_
              refine TL_name 120 (v' := .int .i64 ((k + 1 : Nat) : Int)) rfl (rfl) ?_
              refine TL_y rfl rfl (Y_assign rfl) ?_
              refine TL_nil ?_
              refine thenS_normal ?_
              exact ⟨k + 1, (by omega), by omega, holds_to (sub_cons rfl (sub_cons rfl (sub_cons rfl (sub_cons rfl (sub_cons rfl (sub_cons rfl (sub_cons rfl (sub_nil)))))))) GivesTo.g⟩
            · refine T_exit ?_
              refine thenS_exit ?_
              refine thenS_exit ?_
              refine inB_hit ?_
              refine thenS_normal ?_
              rw [List.take_of_length_le (show S.l.length ≤ k by omega)]
              refine T_region ?_
              refine TL_y rfl rfl (Y_move rfl) ?_
              refine TL_y rfl rfl (Y_move rfl) ?_
              refine TL_pullk b ?_
              refine TL_call rfl rfl (diskLeft_spec) ?_
              rintro _ _ ⟨rfl, rfl⟩
              refine TL_y rfl rfl (Y_add rfl rfl (by omega)) ?_
              refine TL_y rfl rfl (Y_move rfl) ?_
              refine TL_y rfl rfl (Y_ne rfl rfl) ?_
              refine TL_name 134 (v' := .bool false) rfl (congrArg Value.bool (decide_eq_false (by omega))) ?_
              refine TL_nil ?_
              refine T_cond_false rfl ?_
              refine T_skip ?_
              refine inB_normal ?_
              refine thenS_normal ?_
              refine T_region_last ?_
              refine TL_y rfl rfl (Y_move rfl) ?_
              refine TL_y rfl rfl (Y_add rfl rfl (by omega)) ?_
              refine TL_name 38 (v' := .int .i64 ((i + 1 : Nat) : Int)) rfl (rfl) ?_
              refine TL_y rfl rfl (Y_assign rfl) ?_
              refine TL_nil ?_
              refine thenS_normal ?_
              exact ⟨⟨i + 1, S⟩, ⟨by simp only; omega, hNS⟩, by simp only; omega, holds_to (sub_cons rfl (sub_cons rfl (sub_cons rfl (sub_cons rfl (sub_nil))))) GivesTo.g⟩
          · refine T_region ?_
            refine TL_y rfl rfl (Y_eq rfl rfl) ?_
            refine TL_y rfl rfl (Y_assign rfl) ?_
            refine TL_nil ?_
            refine T_if rfl (fun h81 => ?_) (fun h81 => ?_)
            · refine T_region_draw_last (row bo oo (opC u pq) :: []) [0, 0, 0, 6, 14, 30, 0, 0, 192, 448, 960, 2047] [] [(0, true), (1, true), (2, true), (3, true), (4, true), (5, true), (6, true), (7, true), (8, true), (9, true), (10, true), (11, false)] (by kernel_rfl) (by decide +kernel) GivesTo.g ?_
              refine TF_y rfl rfl (Y_move rfl) ?_
              refine TF_y rfl rfl (Y_move rfl) ?_
              refine TF_y rfl rfl (Y_move rfl) ?_
              refine TF_y rfl rfl (Y_index_at rfl rfl (by omega) hao) ?_
              refine TF_y rfl rfl (Y_field_addr2 rfl) ?_
              refine TF_y rfl rfl (Y_load_row rfl rfl) ?_
              refine TF_y rfl rfl (Y_move rfl) ?_
              refine TF_y rfl rfl (Y_move rfl) ?_
              refine TF_y rfl rfl (Y_index_at rfl rfl (by omega) hao) ?_
              refine TF_y rfl rfl (Y_field_addr2 rfl) ?_
              refine TF_y rfl rfl (Y_load_row rfl rfl) ?_
              refine TF_anchor rfl ?_
              refine TL_pullk b ?_
              refine TL_call rfl rfl (diskRename_spec u.name u.to_ okq.name okq.to_) ?_
              rintro _ _ ⟨rfl, rfl⟩
              refine TF_end GivesTo.g ?_
              refine TF_nil ?_
              refine inB_normal ?_
              refine thenS_normal ?_
              obtain ⟨S, hS⟩ : ∃ S, S = (renameK s u.name u.to_).1 := ⟨_, rfl⟩
              have hSn : Nev s S := hS ▸ nev_rename s u.name u.to_
              rw [← hS]
              have hNS : Nev (dkNew n) S := ⟨hSn.size.trans hnv.size, fun e => hSn.calls (hnv.calls e)⟩
              refine T_pullk b ?_
              refine T_dkI fun hi => ?_
              have hlen := hi.len
              have htot := hi.tot
              have hss : S.size = n := hNS.size
              have hll : leftK S = S.size - (totF S.l : Int) := rfl
              refine T_region ?_
              refine TL_y rfl rfl (Y_assign rfl) ?_
              refine TL_nil ?_
              refine T_region ?_
              refine TL_y rfl rfl (Y_move rfl) ?_
              refine TL_pullk b ?_
              refine TL_call rfl rfl (diskFiles_spec) ?_
              rintro _ _ ⟨A114, c114, rfl, rfl⟩
              refine TL_freeze_osl ?_
              refine TL_y rfl rfl (Y_assign rfl) ?_
              refine TL_nil ?_
              refine T_seq ?_
              refine T_region ?_
              refine TL_y rfl rfl (Y_assign rfl) ?_
              refine TL_nil ?_
              refine T_block ?_
              refine T_loopK (σ := Nat) [0, 1, 5, 7, 9] (fun k => k ≤ S.l.length) (fun k kv => (8, .int .i64 ((totF (S.l.take k) : Nat) : Int)) :: (10, .int .i64 (k : Int)) :: kv) (fun k => sl fileR A114 c114 (S.l.map viewF) :: dk b bt S :: sl opR A c l :: L) (fun k => S.l.length - k) (0) rfl (Nat.zero_le _) (GivesTo.g) (sub_cons rfl (sub_cons rfl (sub_cons rfl (sub_cons rfl (sub_cons rfl (sub_cons rfl (sub_cons rfl (sub_nil)))))))) ?_
              intro k hk
              refine T_seq ?_
              refine T_region ?_
              refine TL_y rfl rfl (Y_move rfl) ?_
              refine TL_y rfl rfl (Y_move rfl) ?_
              refine TL_y rfl rfl (Y_len rfl) ?_
              refine TL_name 117 (v' := .int .i64 (S.l.length : Int)) rfl (by simp) ?_
              refine TL_y rfl rfl (Y_lt rfl rfl) ?_
              refine TL_nil ?_
              refine T_if rfl (fun h118 => ?_) (fun h118 => ?_)
              · refine T_skip ?_
                refine thenS_normal ?_
                refine T_seq ?_
                refine T_block ?_
                obtain ⟨e, he⟩ : ∃ e, S.l[k]? = some e := ⟨_, List.getElem?_eq_getElem (by omega)⟩
                have hv : (S.l.map viewF)[k]? = some (viewF e) := by rw [List.getElem?_map, he]; rfl
                have hts := tot_snoc he
                have hle : totF (S.l.take (k + 1)) ≤ totF S.l := tot_take S.l (k + 1)
                refine T_addr_n (sln (A := A114) (c := c114) (R := fileR)) hv fun bq oq eq => ?_
                subst eq
                refine T_region_last ?_
                refine TL_y rfl rfl (Y_move rfl) ?_
                refine TL_y rfl rfl (Y_move rfl) ?_
                refine TL_y rfl rfl (Y_move rfl) ?_
                refine TL_y rfl rfl (Y_index_n (R := fileR) (xs := S.l.map viewF) rfl rfl rfl hv) ?_
                refine TL_y rfl rfl (Y_field_addr2 rfl) ?_
                refine TL_y rfl rfl (Y_load_n (R := fileR) (c := c114) (xs := S.l.map viewF) (q := 1) rfl sln hv rfl) ?_
                refine TL_y rfl rfl (Y_len_str rfl) ?_
                refine TL_name 127 (v' := .int .i64 (e.bytes.length : Int)) rfl (by congr 2; exact str_size e.bytes) ?_
                refine TL_y rfl rfl (Y_add rfl rfl (by omega)) ?_
                refine TL_name 128 (v' := .int .i64 ((totF (S.l.take (k + 1)) : Nat) : Int)) rfl (by rw [hts]; congr 1) ?_
                refine TL_y rfl rfl (Y_assign rfl) ?_
                refine TL_nil ?_
                refine inB_normal ?_
                refine thenS_normal ?_
                refine T_region_last ?_
                refine TL_y rfl rfl (Y_move rfl) ?_
                refine TL_y rfl rfl (Y_add rfl rfl (by omega)) ?_
                refine TL_name 120 (v' := .int .i64 ((k + 1 : Nat) : Int)) rfl (rfl) ?_
                refine TL_y rfl rfl (Y_assign rfl) ?_
                refine TL_nil ?_
                refine thenS_normal ?_
                exact ⟨k + 1, (by omega), by omega, holds_to (sub_cons rfl (sub_cons rfl (sub_cons rfl (sub_cons rfl (sub_cons rfl (sub_cons rfl (sub_cons rfl (sub_nil)))))))) GivesTo.g⟩
              · refine T_exit ?_
                refine thenS_exit ?_
                refine thenS_exit ?_
                refine inB_hit ?_
                refine thenS_normal ?_
                rw [List.take_of_length_le (show S.l.length ≤ k by omega)]
                refine T_region ?_
                refine TL_y rfl rfl (Y_move rfl) ?_
                refine TL_y rfl rfl (Y_move rfl) ?_
                refine TL_pullk b ?_
                refine TL_call rfl rfl (diskLeft_spec) ?_
                rintro _ _ ⟨rfl, rfl⟩
                refine TL_y rfl rfl (Y_add rfl rfl (by omega)) ?_
                refine TL_y rfl rfl (Y_move rfl) ?_
                refine TL_y rfl rfl (Y_ne rfl rfl) ?_
                refine TL_name 134 (v' := .bool false) rfl (congrArg Value.bool (decide_eq_false (by omega))) ?_
                refine TL_nil ?_
                refine T_cond_false rfl ?_
                refine T_skip ?_
                refine inB_normal ?_
                refine thenS_normal ?_
                refine T_region_last ?_
                refine TL_y rfl rfl (Y_move rfl) ?_
                refine TL_y rfl rfl (Y_add rfl rfl (by omega)) ?_
                refine TL_name 38 (v' := .int .i64 ((i + 1 : Nat) : Int)) rfl (rfl) ?_
                refine TL_y rfl rfl (Y_assign rfl) ?_
                refine TL_nil ?_
                refine thenS_normal ?_
                exact ⟨⟨i + 1, S⟩, ⟨by simp only; omega, hNS⟩, by simp only; omega, holds_to (sub_cons rfl (sub_cons rfl (sub_cons rfl (sub_cons rfl (sub_nil))))) GivesTo.g⟩
            · refine T_region ?_
              refine TL_y rfl rfl (Y_eq rfl rfl) ?_
              refine TL_y rfl rfl (Y_assign rfl) ?_
              refine TL_nil ?_
              refine T_if rfl (fun h95 => ?_) (fun h95 => ?_)
              · refine T_region_last ?_
                refine TL_y rfl rfl (Y_move rfl) ?_
                refine TL_y rfl rfl (Y_move rfl) ?_
                refine TL_y rfl rfl (Y_move rfl) ?_
                refine TL_y rfl rfl (Y_index_at rfl rfl (by omega) hao) ?_
                refine TL_y rfl rfl (Y_field_addr2 rfl) ?_
                refine TL_y rfl rfl (Y_load_row rfl rfl) ?_
                refine TL_pullk b ?_
                refine TL_call rfl rfl (diskRemove_spec u.name okq.name) ?_
                rintro _ _ ⟨rfl, rfl⟩
                refine TL_nil ?_
                refine inB_normal ?_
                refine thenS_normal ?_
                obtain ⟨S, hS⟩ : ∃ S, S = (removeK s u.name).1 := ⟨_, rfl⟩
                have hSn : Nev s S := hS ▸ nev_remove s u.name
                rw [← hS]
                have hNS : Nev (dkNew n) S := ⟨hSn.size.trans hnv.size, fun e => hSn.calls (hnv.calls e)⟩
                refine T_pullk b ?_
                refine T_dkI fun hi => ?_
                have hlen := hi.len
                have htot := hi.tot
                have hss : S.size = n := hNS.size
                have hll : leftK S = S.size - (totF S.l : Int) := rfl
                refine T_region ?_
                refine TL_y rfl rfl (Y_assign rfl) ?_
                refine TL_nil ?_
                refine T_region ?_
                refine TL_y rfl rfl (Y_move rfl) ?_
                refine TL_pullk b ?_
                refine TL_call rfl rfl (diskFiles_spec) ?_
                rintro _ _ ⟨A114, c114, rfl, rfl⟩
                refine TL_freeze_osl ?_
                refine TL_y rfl rfl (Y_assign rfl) ?_
                refine TL_nil ?_
                refine T_seq ?_
                refine T_region ?_
                refine TL_y rfl rfl (Y_assign rfl) ?_
                refine TL_nil ?_
                refine T_block ?_
                refine T_loopK (σ := Nat) [0, 1, 5, 7, 9] (fun k => k ≤ S.l.length) (fun k kv => (8, .int .i64 ((totF (S.l.take k) : Nat) : Int)) :: (10, .int .i64 (k : Int)) :: kv) (fun k => sl fileR A114 c114 (S.l.map viewF) :: dk b bt S :: sl opR A c l :: L) (fun k => S.l.length - k) (0) rfl (Nat.zero_le _) (GivesTo.g) (sub_cons rfl (sub_cons rfl (sub_cons rfl (sub_cons rfl (sub_cons rfl (sub_cons rfl (sub_cons rfl (sub_nil)))))))) ?_
                intro k hk
                refine T_seq ?_
                refine T_region ?_
                refine TL_y rfl rfl (Y_move rfl) ?_
                refine TL_y rfl rfl (Y_move rfl) ?_
                refine TL_y rfl rfl (Y_len rfl) ?_
                refine TL_name 117 (v' := .int .i64 (S.l.length : Int)) rfl (by simp) ?_
                refine TL_y rfl rfl (Y_lt rfl rfl) ?_
                refine TL_nil ?_
                refine T_if rfl (fun h118 => ?_) (fun h118 => ?_)
                · refine T_skip ?_
                  refine thenS_normal ?_
                  refine T_seq ?_
                  refine T_block ?_
                  obtain ⟨e, he⟩ : ∃ e, S.l[k]? = some e := ⟨_, List.getElem?_eq_getElem (by omega)⟩
                  have hv : (S.l.map viewF)[k]? = some (viewF e) := by rw [List.getElem?_map, he]; rfl
                  have hts := tot_snoc he
                  have hle : totF (S.l.take (k + 1)) ≤ totF S.l := tot_take S.l (k + 1)
                  refine T_addr_n (sln (A := A114) (c := c114) (R := fileR)) hv fun bq oq eq => ?_
                  subst eq
                  refine T_region_last ?_
                  refine TL_y rfl rfl (Y_move rfl) ?_
                  refine TL_y rfl rfl (Y_move rfl) ?_
                  refine TL_y rfl rfl (Y_move rfl) ?_
                  refine TL_y rfl rfl (Y_index_n (R := fileR) (xs := S.l.map viewF) rfl rfl rfl hv) ?_
                  refine TL_y rfl rfl (Y_field_addr2 rfl) ?_
                  refine TL_y rfl rfl (Y_load_n (R := fileR) (c := c114) (xs := S.l.map viewF) (q := 1) rfl sln hv rfl) ?_
                  refine TL_y rfl rfl (Y_len_str rfl) ?_
                  refine TL_name 127 (v' := .int .i64 (e.bytes.length : Int)) rfl (by congr 2; exact str_size e.bytes) ?_
                  refine TL_y rfl rfl (Y_add rfl rfl (by omega)) ?_
                  refine TL_name 128 (v' := .int .i64 ((totF (S.l.take (k + 1)) : Nat) : Int)) rfl (by rw [hts]; congr 1) ?_
                  refine TL_y rfl rfl (Y_assign rfl) ?_
                  refine TL_nil ?_
                  refine inB_normal ?_
                  refine thenS_normal ?_
                  refine T_region_last ?_
                  refine TL_y rfl rfl (Y_move rfl) ?_
                  refine TL_y rfl rfl (Y_add rfl rfl (by omega)) ?_
                  refine TL_name 120 (v' := .int .i64 ((k + 1 : Nat) : Int)) rfl (rfl) ?_
                  refine TL_y rfl rfl (Y_assign rfl) ?_
                  refine TL_nil ?_
                  refine thenS_normal ?_
                  exact ⟨k + 1, (by omega), by omega, holds_to (sub_cons rfl (sub_cons rfl (sub_cons rfl (sub_cons rfl (sub_cons rfl (sub_cons rfl (sub_cons rfl (sub_nil)))))))) GivesTo.g⟩
                · refine T_exit ?_
                  refine thenS_exit ?_
                  refine thenS_exit ?_
                  refine inB_hit ?_
                  refine thenS_normal ?_
                  rw [List.take_of_length_le (show S.l.length ≤ k by omega)]
                  refine T_region ?_
                  refine TL_y rfl rfl (Y_move rfl) ?_
                  refine TL_y rfl rfl (Y_move rfl) ?_
                  refine TL_pullk b ?_
                  refine TL_call rfl rfl (diskLeft_spec) ?_
                  rintro _ _ ⟨rfl, rfl⟩
                  refine TL_y rfl rfl (Y_add rfl rfl (by omega)) ?_
                  refine TL_y rfl rfl (Y_move rfl) ?_
                  refine TL_y rfl rfl (Y_ne rfl rfl) ?_
                  refine TL_name 134 (v' := .bool false) rfl (congrArg Value.bool (decide_eq_false (by omega))) ?_
                  refine TL_nil ?_
                  refine T_cond_false rfl ?_
                  refine T_skip ?_
                  refine inB_normal ?_
                  refine thenS_normal ?_
                  refine T_region_last ?_
                  refine TL_y rfl rfl (Y_move rfl) ?_
                  refine TL_y rfl rfl (Y_add rfl rfl (by omega)) ?_
                  refine TL_name 38 (v' := .int .i64 ((i + 1 : Nat) : Int)) rfl (rfl) ?_
                  refine TL_y rfl rfl (Y_assign rfl) ?_
                  refine TL_nil ?_
                  refine thenS_normal ?_
                  exact ⟨⟨i + 1, S⟩, ⟨by simp only; omega, hNS⟩, by simp only; omega, holds_to (sub_cons rfl (sub_cons rfl (sub_cons rfl (sub_cons rfl (sub_nil))))) GivesTo.g⟩
              · refine T_region ?_
                refine TL_y rfl rfl (Y_eq rfl rfl) ?_
                refine TL_y rfl rfl (Y_assign rfl) ?_
                refine TL_nil ?_
                refine T_if rfl (fun h104 => ?_) (fun h104 => ?_)
                · refine T_region_last ?_
                  refine TL_y rfl rfl (Y_move rfl) ?_
                  refine TL_y rfl rfl (Y_move rfl) ?_
                  refine TL_y rfl rfl (Y_move rfl) ?_
                  refine TL_y rfl rfl (Y_index_at rfl rfl (by omega) hao) ?_
                  refine TL_y rfl rfl (Y_field_addr2 rfl) ?_
                  refine TL_y rfl rfl (Y_load_row rfl rfl) ?_
                  refine TL_pullk b ?_
                  refine TL_call rfl rfl (diskCrash_spec (keep := u.keep) sln) ?_
                  rintro _ _ ⟨rfl, rfl⟩
                  refine TL_nil ?_
                  refine inB_normal ?_
                  refine thenS_normal ?_
                  obtain ⟨S, hS⟩ : ∃ S, S = (if crashOk s u.keep then crashK s u.keep else s) := ⟨_, rfl⟩
                  have hSn : Nev s S := hS ▸ nev_crash s u.keep
                  rw [← hS]
                  have hNS : Nev (dkNew n) S := ⟨hSn.size.trans hnv.size, fun e => hSn.calls (hnv.calls e)⟩
                  refine T_pullk b ?_
                  refine T_dkI fun hi => ?_
                  have hlen := hi.len
                  have htot := hi.tot
                  have hss : S.size = n := hNS.size
                  have hll : leftK S = S.size - (totF S.l : Int) := rfl
                  refine T_region ?_
                  refine TL_y rfl rfl (Y_assign rfl) ?_
                  refine TL_nil ?_
                  refine T_region ?_
                  refine TL_y rfl rfl (Y_move rfl) ?_
                  refine TL_pullk b ?_
                  refine TL_call rfl rfl (diskFiles_spec) ?_
                  rintro _ _ ⟨A114, c114, rfl, rfl⟩
                  refine TL_freeze_osl ?_
                  refine TL_y rfl rfl (Y_assign rfl) ?_
                  refine TL_nil ?_
                  refine T_seq ?_
                  refine T_region ?_
                  refine TL_y rfl rfl (Y_assign rfl) ?_
                  refine TL_nil ?_
                  refine T_block ?_
                  refine T_loopK (σ := Nat) [0, 1, 5, 7, 9] (fun k => k ≤ S.l.length) (fun k kv => (8, .int .i64 ((totF (S.l.take k) : Nat) : Int)) :: (10, .int .i64 (k : Int)) :: kv) (fun k => sl fileR A114 c114 (S.l.map viewF) :: dk b bt S :: sl opR A c l :: L) (fun k => S.l.length - k) (0) rfl (Nat.zero_le _) (GivesTo.g) (sub_cons rfl (sub_cons rfl (sub_cons rfl (sub_cons rfl (sub_cons rfl (sub_cons rfl (sub_cons rfl (sub_nil)))))))) ?_
                  intro k hk
                  refine T_seq ?_
                  refine T_region ?_
                  refine TL_y rfl rfl (Y_move rfl) ?_
                  refine TL_y rfl rfl (Y_move rfl) ?_
                  refine TL_y rfl rfl (Y_len rfl) ?_
                  refine TL_name 117 (v' := .int .i64 (S.l.length : Int)) rfl (by simp) ?_
                  refine TL_y rfl rfl (Y_lt rfl rfl) ?_
                  refine TL_nil ?_
                  refine T_if rfl (fun h118 => ?_) (fun h118 => ?_)
                  · refine T_skip ?_
                    refine thenS_normal ?_
                    refine T_seq ?_
                    refine T_block ?_
                    obtain ⟨e, he⟩ : ∃ e, S.l[k]? = some e := ⟨_, List.getElem?_eq_getElem (by omega)⟩
                    have hv : (S.l.map viewF)[k]? = some (viewF e) := by rw [List.getElem?_map, he]; rfl
                    have hts := tot_snoc he
                    have hle : totF (S.l.take (k + 1)) ≤ totF S.l := tot_take S.l (k + 1)
                    refine T_addr_n (sln (A := A114) (c := c114) (R := fileR)) hv fun bq oq eq => ?_
                    subst eq
                    refine T_region_last ?_
                    refine TL_y rfl rfl (Y_move rfl) ?_
                    refine TL_y rfl rfl (Y_move rfl) ?_
                    refine TL_y rfl rfl (Y_move rfl) ?_
                    refine TL_y rfl rfl (Y_index_n (R := fileR) (xs := S.l.map viewF) rfl rfl rfl hv) ?_
                    refine TL_y rfl rfl (Y_field_addr2 rfl) ?_
                    refine TL_y rfl rfl (Y_load_n (R := fileR) (c := c114) (xs := S.l.map viewF) (q := 1) rfl sln hv rfl) ?_
                    refine TL_y rfl rfl (Y_len_str rfl) ?_
                    refine TL_name 127 (v' := .int .i64 (e.bytes.length : Int)) rfl (by congr 2; exact str_size e.bytes) ?_
                    refine TL_y rfl rfl (Y_add rfl rfl (by omega)) ?_
                    refine TL_name 128 (v' := .int .i64 ((totF (S.l.take (k + 1)) : Nat) : Int)) rfl (by rw [hts]; congr 1) ?_
                    refine TL_y rfl rfl (Y_assign rfl) ?_
                    refine TL_nil ?_
                    refine inB_normal ?_
                    refine thenS_normal ?_
                    refine T_region_last ?_
                    refine TL_y rfl rfl (Y_move rfl) ?_
                    refine TL_y rfl rfl (Y_add rfl rfl (by omega)) ?_
                    refine TL_name 120 (v' := .int .i64 ((k + 1 : Nat) : Int)) rfl (rfl) ?_
                    refine TL_y rfl rfl (Y_assign rfl) ?_
                    refine TL_nil ?_
                    refine thenS_normal ?_
                    exact ⟨k + 1, (by omega), by omega, holds_to (sub_cons rfl (sub_cons rfl (sub_cons rfl (sub_cons rfl (sub_cons rfl (sub_cons rfl (sub_cons rfl (sub_nil)))))))) GivesTo.g⟩
                  · refine T_exit ?_
                    refine thenS_exit ?_
                    refine thenS_exit ?_
                    refine inB_hit ?_
                    refine thenS_normal ?_
                    rw [List.take_of_length_le (show S.l.length ≤ k by omega)]
                    refine T_region ?_
                    refine TL_y rfl rfl (Y_move rfl) ?_
                    refine TL_y rfl rfl (Y_move rfl) ?_
                    refine TL_pullk b ?_
                    refine TL_call rfl rfl (diskLeft_spec) ?_
                    rintro _ _ ⟨rfl, rfl⟩
                    refine TL_y rfl rfl (Y_add rfl rfl (by omega)) ?_
                    refine TL_y rfl rfl (Y_move rfl) ?_
                    refine TL_y rfl rfl (Y_ne rfl rfl) ?_
                    refine TL_name 134 (v' := .bool false) rfl (congrArg Value.bool (decide_eq_false (by omega))) ?_
                    refine TL_nil ?_
                    refine T_cond_false rfl ?_
                    refine T_skip ?_
                    refine inB_normal ?_
                    refine thenS_normal ?_
                    refine T_region_last ?_
                    refine TL_y rfl rfl (Y_move rfl) ?_
                    refine TL_y rfl rfl (Y_add rfl rfl (by omega)) ?_
                    refine TL_name 38 (v' := .int .i64 ((i + 1 : Nat) : Int)) rfl (rfl) ?_
                    refine TL_y rfl rfl (Y_assign rfl) ?_
                    refine TL_nil ?_
                    refine thenS_normal ?_
                    exact ⟨⟨i + 1, S⟩, ⟨by simp only; omega, hNS⟩, by simp only; omega, holds_to (sub_cons rfl (sub_cons rfl (sub_cons rfl (sub_cons rfl (sub_nil))))) GivesTo.g⟩
                · refine T_skip ?_
                  refine inB_normal ?_
                  refine thenS_normal ?_
                  obtain ⟨S, hS⟩ : ∃ S, S = s := ⟨_, rfl⟩
                  have hSn : Nev s S := hS ▸ .refl s
                  rw [← hS]
                  have hNS : Nev (dkNew n) S := ⟨hSn.size.trans hnv.size, fun e => hSn.calls (hnv.calls e)⟩
                  refine T_pullk b ?_
                  refine T_dkI fun hi => ?_
                  have hlen := hi.len
                  have htot := hi.tot
                  have hss : S.size = n := hNS.size
                  have hll : leftK S = S.size - (totF S.l : Int) := rfl
                  refine T_region ?_
                  refine TL_y rfl rfl (Y_assign rfl) ?_
                  refine TL_nil ?_
                  refine T_region ?_
                  refine TL_y rfl rfl (Y_move rfl) ?_
                  refine TL_pullk b ?_
                  refine TL_call rfl rfl (diskFiles_spec) ?_
                  rintro _ _ ⟨A114, c114, rfl, rfl⟩
                  refine TL_freeze_osl ?_
                  refine TL_y rfl rfl (Y_assign rfl) ?_
                  refine TL_nil ?_
                  refine T_seq ?_
                  refine T_region ?_
                  refine TL_y rfl rfl (Y_assign rfl) ?_
                  refine TL_nil ?_
                  refine T_block ?_
                  refine T_loopK (σ := Nat) [0, 1, 5, 7, 9] (fun k => k ≤ S.l.length) (fun k kv => (8, .int .i64 ((totF (S.l.take k) : Nat) : Int)) :: (10, .int .i64 (k : Int)) :: kv) (fun k => sl fileR A114 c114 (S.l.map viewF) :: dk b bt S :: sl opR A c l :: L) (fun k => S.l.length - k) (0) rfl (Nat.zero_le _) (GivesTo.g) (sub_cons rfl (sub_cons rfl (sub_cons rfl (sub_cons rfl (sub_cons rfl (sub_cons rfl (sub_cons rfl (sub_nil)))))))) ?_
                  intro k hk
                  refine T_seq ?_
                  refine T_region ?_
                  refine TL_y rfl rfl (Y_move rfl) ?_
                  refine TL_y rfl rfl (Y_move rfl) ?_
                  refine TL_y rfl rfl (Y_len rfl) ?_
                  refine TL_name 117 (v' := .int .i64 (S.l.length : Int)) rfl (by simp) ?_
                  refine TL_y rfl rfl (Y_lt rfl rfl) ?_
                  refine TL_nil ?_
                  refine T_if rfl (fun h118 => ?_) (fun h118 => ?_)
                  · refine T_skip ?_
                    refine thenS_normal ?_
                    refine T_seq ?_
                    refine T_block ?_
                    obtain ⟨e, he⟩ : ∃ e, S.l[k]? = some e := ⟨_, List.getElem?_eq_getElem (by omega)⟩
                    have hv : (S.l.map viewF)[k]? = some (viewF e) := by rw [List.getElem?_map, he]; rfl
                    have hts := tot_snoc he
                    have hle : totF (S.l.take (k + 1)) ≤ totF S.l := tot_take S.l (k + 1)
                    refine T_addr_n (sln (A := A114) (c := c114) (R := fileR)) hv fun bq oq eq => ?_
                    subst eq
                    refine T_region_last ?_
                    refine TL_y rfl rfl (Y_move rfl) ?_
                    refine TL_y rfl rfl (Y_move rfl) ?_
                    refine TL_y rfl rfl (Y_move rfl) ?_
                    refine TL_y rfl rfl (Y_index_n (R := fileR) (xs := S.l.map viewF) rfl rfl rfl hv) ?_
                    refine TL_y rfl rfl (Y_field_addr2 rfl) ?_
                    refine TL_y rfl rfl (Y_load_n (R := fileR) (c := c114) (xs := S.l.map viewF) (q := 1) rfl sln hv rfl) ?_
                    refine TL_y rfl rfl (Y_len_str rfl) ?_
                    refine TL_name 127 (v' := .int .i64 (e.bytes.length : Int)) rfl (by congr 2; exact str_size e.bytes) ?_
                    refine TL_y rfl rfl (Y_add rfl rfl (by omega)) ?_
                    refine TL_name 128 (v' := .int .i64 ((totF (S.l.take (k + 1)) : Nat) : Int)) rfl (by rw [hts]; congr 1) ?_
                    refine TL_y rfl rfl (Y_assign rfl) ?_
                    refine TL_nil ?_
                    refine inB_normal ?_
                    refine thenS_normal ?_
                    refine T_region_last ?_
                    refine TL_y rfl rfl (Y_move rfl) ?_
                    refine TL_y rfl rfl (Y_add rfl rfl (by omega)) ?_
                    refine TL_name 120 (v' := .int .i64 ((k + 1 : Nat) : Int)) rfl (rfl) ?_
                    refine TL_y rfl rfl (Y_assign rfl) ?_
                    refine TL_nil ?_
                    refine thenS_normal ?_
                    exact ⟨k + 1, (by omega), by omega, holds_to (sub_cons rfl (sub_cons rfl (sub_cons rfl (sub_cons rfl (sub_cons rfl (sub_cons rfl (sub_cons rfl (sub_nil)))))))) GivesTo.g⟩
                  · refine T_exit ?_
                    refine thenS_exit ?_
                    refine thenS_exit ?_
                    refine inB_hit ?_
                    refine thenS_normal ?_
                    rw [List.take_of_length_le (show S.l.length ≤ k by omega)]
                    refine T_region ?_
                    refine TL_y rfl rfl (Y_move rfl) ?_
                    refine TL_y rfl rfl (Y_move rfl) ?_
                    refine TL_pullk b ?_
                    refine TL_call rfl rfl (diskLeft_spec) ?_
                    rintro _ _ ⟨rfl, rfl⟩
                    refine TL_y rfl rfl (Y_add rfl rfl (by omega)) ?_
                    refine TL_y rfl rfl (Y_move rfl) ?_
                    refine TL_y rfl rfl (Y_ne rfl rfl) ?_
                    refine TL_name 134 (v' := .bool false) rfl (congrArg Value.bool (decide_eq_false (by omega))) ?_
                    refine TL_nil ?_
                    refine T_cond_false rfl ?_
                    refine T_skip ?_
                    refine inB_normal ?_
                    refine thenS_normal ?_
                    refine T_region_last ?_
                    refine TL_y rfl rfl (Y_move rfl) ?_
                    refine TL_y rfl rfl (Y_add rfl rfl (by omega)) ?_
                    refine TL_name 38 (v' := .int .i64 ((i + 1 : Nat) : Int)) rfl (rfl) ?_
                    refine TL_y rfl rfl (Y_assign rfl) ?_
                    refine TL_nil ?_
                    refine thenS_normal ?_
                    exact ⟨⟨i + 1, S⟩, ⟨by simp only; omega, hNS⟩, by simp only; omega, holds_to (sub_cons rfl (sub_cons rfl (sub_cons rfl (sub_cons rfl (sub_nil))))) GivesTo.g⟩
    · refine T_exit ?_
      refine thenS_exit ?_
      refine thenS_exit ?_
      refine inB_hit ?_
      refine thenS_normal ?_
      refine T_dkI fun hi => ?_
      have htot := hi.tot
      have hss : s.size = n := hnv.size
      have hll : leftK s = s.size - (totF s.l : Int) := rfl
      have hca : s.calls = -1 := hnv.calls rfl
      have hof : ¬ offK s := by unfold offK; omega
      refine T_region ?_
      refine TL_y rfl rfl (Y_move rfl) ?_
      refine TL_pullk b ?_
      refine TL_call rfl rfl (diskLeft_spec) ?_
      rintro _ _ ⟨rfl, rfl⟩
      refine TL_y rfl rfl (Y_assign rfl) ?_
      refine TL_nil ?_
      refine T_seq ?_
      refine T_region ?_
      refine TL_y rfl rfl (Y_move rfl) ?_
      refine TL_pullk b ?_
      refine TL_call rfl rfl (diskFiles_spec) ?_
      rintro _ _ ⟨A138, c138, rfl, rfl⟩
      refine TL_y rfl rfl (Y_len rfl) ?_
      refine TL_name 139 (v' := .int .i64 (s.l.length : Int)) rfl (by simp) ?_
      refine TL_y rfl rfl (Y_ge rfl rfl) ?_
      refine TL_nil ?_
      refine T_if rfl (fun h140 => ?_) (fun h140 => ?_)
      · refine T_region ?_
        refine TL_y rfl rfl (Y_assign rfl) ?_
        refine TL_nil ?_
        refine T_ret ?_
        refine thenS_ret ?_
        exact RetG_1 (.inl rfl) rfl (ResV.tmp rfl) GivesTo.g (⟨rfl, rfl⟩)
      · refine T_skip ?_
        refine thenS_normal ?_
        refine T_region ?_
        refine TL_y rfl rfl (Y_move rfl) ?_
        refine TL_y rfl rfl (Y_move rfl) ?_
        refine TL_y rfl rfl (Y_add rfl rfl (by omega)) ?_
        refine TL_name 143 (v' := .int .i64 (((leftK s).toNat + 1 : Nat) : Int)) rfl (by congr 1; omega) ?_
        refine TL_make (intR .u8) 0 (m := (leftK s).toNat + 1) (k := (leftK s).toNat + 1) rfl rfl rfl (Nat.le_refl _) (by omega) (by omega) rfl rfl rfl (fun _ => ⟨rfl, by decide⟩) ?_
        intro b144
        refine TL_freeze_osl ?_
        refine TL_pullk b ?_
        refine TL_call rfl rfl (diskAppend_spec nmNew (by decide) sln (rep_u8 _) (by simp only [List.length_replicate, maxEl]; omega)) ?_
        rintro _ _ ⟨k3, rfl, rfl⟩
        rw [append_full nmNew_ok hof (by rw [List.length_replicate]; omega)]
        dsimp only
        refine TL_y rfl rfl (Y_eq rfl rfl) ?_
        refine TL_name 146 (v' := .bool true) rfl (by simp) ?_
        refine TL_y rfl rfl (Y_move rfl) ?_
        refine TL_grun rfl rfl ?_
        refine TL_y rfl rfl (Y_move rfl) ?_
        refine TL_grun rfl rfl ?_
        refine TL_y rfl rfl (Y_move rfl) ?_
        refine TL_name 149 (v' := .int .i64 (((leftK s).toNat : Nat) : Int)) rfl (by congr 1; omega) ?_
        refine TL_grun rfl rfl ?_
        refine TL_make (intR .u8) 0 (m := (leftK s).toNat) (k := (leftK s).toNat) rfl rfl rfl (Nat.le_refl _) (by omega) (by omega) rfl rfl rfl (fun _ => ⟨rfl, by decide⟩) ?_
        intro b150
        refine TL_freeze_osl ?_
        refine TL_grun rfl rfl ?_
        refine TL_pullk b ?_
        refine TL_call rfl rfl (diskAppend_spec nmNew (by decide) (sln (A := some ⟨b150, 0, none⟩) (c := (leftK s).toNat) (xs := List.replicate (leftK s).toNat (0 : Int))) (rep_u8 _) (by simp only [List.length_replicate, maxEl]; omega)) ?_
        rintro _ _ ⟨k4, rfl, rfl⟩
        have hz := append_ok (s := s) (b := List.replicate (leftK s).toNat (0 : Int)) (blk := k4) nmNew_ok hof (by rw [List.length_replicate]; omega) (by omega)
        have hzl := append_left hi hz
        rw [List.length_replicate] at hzl
        rw [hz]
        refine TL_grun rfl rfl ?_
        refine TL_y rfl rfl (Y_eq rfl rfl) ?_
        refine TL_name 152 (v' := .bool true) rfl (by simp) ?_
        refine TL_y rfl rfl (Y_pick_t rfl rfl) ?_
        refine TL_y rfl rfl (Y_move rfl) ?_
        refine TL_grun rfl rfl ?_
        refine TL_y rfl rfl (Y_move rfl) ?_
        refine TL_grun rfl rfl ?_
        refine TL_pullk b ?_
        refine TL_call rfl rfl (diskLeft_spec) ?_
        rintro _ _ ⟨rfl, rfl⟩
        refine TL_grun rfl rfl ?_
        refine TL_y rfl rfl (Y_eq rfl rfl) ?_
        refine TL_name 157 (v' := .bool true) rfl (congrArg Value.bool (decide_eq_true (by omega))) ?_
        refine TL_y rfl rfl (Y_pick_t rfl rfl) ?_
        refine TL_y rfl rfl (Y_assign rfl) ?_
        refine TL_nil ?_
        refine T_ret ?_
        exact RetG_1 (.inl rfl) rfl (ResV.tmp rfl) GivesTo.g (⟨rfl, rfl⟩)
theorem diskRoom_walk {L : List HP} {A : Option Addr} {c : Nat} {l : List OpD} (n : Int) (hk : SlK L opR A c l) (hl : l.length ≤ 17592186044416) : Fn Try.prog 8 #[.int .i64 n, .slice A l.length c] L (fun v L' => v = .bool true ∧ L' = L) := by
  by_cases h : 0 ≤ n ∧ n ≤ 268435456
  · exact diskRoom_good n h hk hl
  · exact diskRoom_bad n h
end Go.SL
