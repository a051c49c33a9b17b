/- Dots: the document's Extras, Upto, Missing; pairs compared. -/
import Derived.Test.YtooadkecmchpaaaDtW
set_option linter.unusedVariables false
set_option linter.unusedSimpArgs false
namespace Go.SL
open Go Go.Proofs
structure ExG where
  i : Nat
  A : Option Addr
  c : Nat
def exD (V : List Int) (l : List pairD) : List DotD := (l.map (·.1)).filter fun d => !decide (hasV V d)
theorem exD_plain (l : List pairD) : exD (plainV (vecL l)) l = extraD l := by
  unfold exD extraD
  congr 1; funext d
  rw [decide_eq_decide.2 (hasV_plain (vecL l) d)]
theorem exD_len (V : List Int) (l : List pairD) : (exD V l).length ≤ l.length := Nat.le_trans (List.length_filter_le _ _) (by simp)
theorem exD_snoc (V : List Int) {l : List pairD} {i : Nat} {u : pairD} (hu : l[i]? = some u) : exD V (l.take (i + 1)) = exD V (l.take i) ++ if hasV V u.1 then [] else [u.1] := by
  rw [takeAt hu]; unfold exD
  rw [List.map_append, List.filter_append]
  by_cases h : hasV V u.1 <;> simp [h]
theorem refExtrasD_spec {L : List HP} {b : Nat} {A : Option Addr} {c : Nat} {l : List pairD} (hi : DI l) : Fn Try.prog 68 #[.pointer (some ⟨b, 0, none⟩)] (rd b A c l :: L) (fun v L' => ∃ X cx, v = .slice X (extraD l).length cx ∧ L' = osl dotR 31 X cx (extraD l) :: rd b A c l :: L) := by
  have hlen := hi.len
  refine Fn_enter Try.func68 rfl rfl rfl rfl ?_
  refine T_region ?_
  refine TL_y rfl rfl (Y_assign rfl) ?_
  refine TL_nil ?_
  refine T_region ?_
  refine TL_y rfl rfl (Y_assign rfl) ?_
  refine TL_nil ?_
  refine T_region ?_
  refine TL_y rfl rfl (Y_move rfl) ?_
  refine TL_call rfl rfl (refVectorD_spec hi) ?_
  rintro _ _ ⟨A7, c7, rfl, rfl⟩
  refine TL_freeze_osl ?_
  refine TL_y rfl rfl (Y_assign rfl) ?_
  refine TL_nil ?_
  refine T_seq ?_
  refine T_pullk b ?_
  refine T_rset fun hlc => ?_
  simp only [maxEl] at hlc
  refine T_gives (show Gives _ (osl dotR 31 none 0 (exD (plainV (vecL l)) (l.take 0)) :: _) from osl_nil dotR 31 none _) ?_
  refine T_region ?_
  refine TL_y rfl rfl (Y_assign rfl) ?_
  refine TL_nil ?_
  refine T_block ?_
  refine T_loopK (σ := ExG) [0, 4] (fun g => g.i ≤ l.length) (fun g kv => (3, .slice g.A (exD (plainV (vecL l)) (l.take g.i)).length g.c) :: (5, .int .i64 (g.i : Int)) :: kv) (fun g => osl dotR 31 g.A g.c (exD (plainV (vecL l)) (l.take g.i)) :: cells b [.slice A l.length c] 50 :: osl pairR 33 A c l :: sl (intR .i64) A7 c7 (plainV (vecL l)) :: L) (fun g => l.length - g.i) (⟨0, none, 0⟩) rfl (Nat.zero_le _) (GivesTo.g) (sub_cons rfl (sub_cons rfl (sub_cons rfl (sub_cons rfl (sub_nil))))) ?_
  rintro ⟨i, X, cx⟩ hil
  dsimp only at hil ⊢
  refine T_seq ?_
  refine T_region ?_
  refine TL_y rfl rfl (Y_move rfl) ?_
  refine TL_y rfl rfl (Y_move rfl) ?_
  refine TL_y rfl rfl (Y_nil_check rfl) ?_
  refine TL_y rfl rfl (Y_field_addr rfl) ?_
  refine TL_y rfl rfl (Y_load rfl rfl) ?_
  refine TL_y rfl rfl (Y_len rfl) ?_
  refine TL_y rfl rfl (Y_lt rfl rfl) ?_
  refine TL_nil ?_
  refine T_if rfl (fun h14 => ?_) (fun h14 => ?_)
  · refine T_skip ?_
    refine thenS_normal ?_
    refine T_seq ?_
    refine T_block ?_
    obtain ⟨u, hu⟩ : ∃ u, l[i]? = some u := ⟨_, List.getElem?_eq_getElem (by omega)⟩
    have hud := may_ok (hi.may u (List.mem_of_getElem? hu))
    have hsn := exD_snoc (plainV (vecL l)) hu
    have hel := exD_len (plainV (vecL l)) (l.take i)
    have htl : (l.take i).length ≤ l.length := by rw [List.length_take]; omega
    refine T_addr_n (sln (A := A) (c := c) (R := pairR)) hu fun bq oq eq => ?_
    subst eq
    refine T_region ?_
    refine TL_y rfl rfl (Y_move rfl) ?_
    refine TL_y rfl rfl (Y_move rfl) ?_
    refine TL_y rfl rfl (Y_nil_check rfl) ?_
    refine TL_y rfl rfl (Y_field_addr rfl) ?_
    refine TL_y rfl rfl (Y_load rfl rfl) ?_
    refine TL_y rfl rfl (Y_move rfl) ?_
    refine TL_y rfl rfl (Y_index_n (R := pairR) (xs := l) rfl rfl rfl hu) ?_
    refine TL_y rfl rfl (Y_field_addr2 rfl) ?_
    refine TL_y rfl rfl (Y_load_naf (R := pairR) (c := c) (xs := l) (q := 0) (vs := dotC u.1) rfl sln hu rfl) ?_
    refine TL_call rfl rfl (refHas_spec (sln (A := A7) (c := c7)) u.1) ?_
    rintro _ _ ⟨rfl, rfl⟩
    refine TL_y rfl rfl (Y_not_d rfl) ?_
    refine TL_nil ?_
    refine T_if rfl (fun h27 => ?_) (fun h27 => ?_)
    · rw [if_neg h27] at hsn
      refine T_region_last ?_
      refine TL_y rfl rfl (Y_move rfl) ?_
      refine TL_y rfl rfl (Y_move rfl) ?_
      refine TL_y rfl rfl (Y_nil_check rfl) ?_
      refine TL_y rfl rfl (Y_field_addr rfl) ?_
      refine TL_y rfl rfl (Y_load rfl rfl) ?_
      refine TL_y rfl rfl (Y_move rfl) ?_
      refine TL_y rfl rfl (Y_index_n (R := pairR) (xs := l) rfl rfl rfl hu) ?_
      refine TL_y rfl rfl (Y_field_addr2 rfl) ?_
      refine TL_y rfl rfl (Y_load_naf (R := pairR) (c := c) (xs := l) (q := 0) (vs := dotC u.1) rfl sln hu rfl) ?_
      refine TL_build_slice rfl rfl rfl rfl rfl rfl ?_
      intro b37
      refine TL_osl (k := 1) dotR [u.1] (Knows.const fun M => ⟨dotC u.1, [], ⟨rfl, hud⟩, rfl, rfl⟩) rfl (by decide) ?_
      refine TL_freeze_osl ?_
      refine TL_name 37 (v' := .slice (some ⟨b37, 0, none⟩) [u.1].length 1) rfl rfl ?_
      refine TL_append rfl rfl rfl rfl rfl slk (by simp only [List.length_cons, List.length_nil]; omega) ?_
      intro A38 c38
      rw [← hsn]
      refine TL_y rfl rfl (Y_assign rfl) ?_
      refine TL_nil ?_
      refine inB_normal ?_
      refine thenS_normal ?_
      refine T_region_last ?_
      refine TL_y rfl rfl (Y_move rfl) ?_
      refine TL_y rfl rfl (Y_add rfl rfl (by omega)) ?_
      refine TL_name 16 (v' := .int .i64 ((i + 1 : Nat) : Int)) rfl (rfl) ?_
      refine TL_y rfl rfl (Y_assign rfl) ?_
      refine TL_nil ?_
      refine thenS_normal ?_
      exact ⟨⟨i + 1, A38, c38⟩, (by simp only; omega), by simp only; omega, holds_to (sub_cons rfl (sub_cons rfl (sub_cons rfl (sub_cons rfl (sub_nil))))) GivesTo.g⟩
    · rw [if_pos (Classical.not_not.1 h27), List.append_nil] at hsn
      rw [← hsn]
      refine T_skip ?_
      refine inB_normal ?_
      refine thenS_normal ?_
      refine T_region_last ?_
      refine TL_y rfl rfl (Y_move rfl) ?_
      refine TL_y rfl rfl (Y_add rfl rfl (by omega)) ?_
      refine TL_name 16 (v' := .int .i64 ((i + 1 : Nat) : Int)) rfl (rfl) ?_
      refine TL_y rfl rfl (Y_assign rfl) ?_
      refine TL_nil ?_
      refine thenS_normal ?_
      exact ⟨⟨i + 1, X, cx⟩, (by simp only; omega), by simp only; omega, holds_to (sub_cons rfl (sub_cons rfl (sub_cons rfl (sub_cons rfl (sub_nil))))) GivesTo.g⟩
  · refine T_exit ?_
    refine thenS_exit ?_
    refine thenS_exit ?_
    refine inB_hit ?_
    refine thenS_normal ?_
    refine T_region ?_
    refine TL_y rfl rfl (Y_move rfl) ?_
    refine TL_y rfl rfl (Y_assign rfl) ?_
    refine TL_nil ?_
    refine T_ret ?_
    rw [List.take_of_length_le (show l.length ≤ i by omega), exD_plain]
    refine RetQ.gives (rd_close (A := A) (c := c) b l) ?_
    refine RetQ.gives (show Gives _ (osl dotR 31 X cx (extraD l) :: rd b A c l :: L) from GivesTo.g) ?_
    exact RetG_1 (.inl rfl) rfl (ResV.tmp rfl) GivesTo.g (⟨X, cx, rfl, rfl⟩)
def upD (V : List Int) (l : List pairD) : List pairD := l.filter fun p => decide (hasV V p.1)
theorem upD_snoc (V : List Int) {l : List pairD} {i : Nat} {u : pairD} (hu : l[i]? = some u) : upD V (l.take (i + 1)) = upD V (l.take i) ++ if hasV V u.1 then [u] else [] := by
  rw [takeAt hu]; unfold upD
  rw [List.filter_append]
  by_cases h : hasV V u.1 <;> simp [h]
theorem refUptoD_spec {L : List HP} {b : Nat} {A : Option Addr} {c : Nat} {l : List pairD} {Av : Option Addr} {cv : Nat} {v : List Int} (hi : DI l) (hk : SlN L (intR .i64) Av cv v) : Fn Try.prog 69 #[.pointer (some ⟨b, 0, none⟩), .slice Av v.length cv] (rd b A c l :: L) (fun r L' => ∃ X cx, r = .slice X (upD v l).length cx ∧ L' = osl pairR 33 X cx (upD v l) :: rd b A c l :: L) := by
  have hlen := hi.len
  refine Fn_enter Try.func69 rfl rfl rfl rfl ?_
  refine T_rset fun hlc => ?_
  simp only [maxEl] at hlc
  refine T_gives (show Gives _ (osl pairR 33 none 0 (upD v (l.take 0)) :: _) from osl_nil pairR 33 none _) ?_
  refine T_region ?_
  refine TL_y rfl rfl (Y_assign rfl) ?_
  refine TL_nil ?_
  refine T_region ?_
  refine TL_y rfl rfl (Y_assign rfl) ?_
  refine TL_nil ?_
  refine T_seq ?_
  refine T_region ?_
  refine TL_y rfl rfl (Y_assign rfl) ?_
  refine TL_nil ?_
  refine T_block ?_
  refine T_loopK (σ := ExG) [0, 1] (fun g => g.i ≤ l.length) (fun g kv => (5, .slice g.A (upD v (l.take g.i)).length g.c) :: (6, .int .i64 (g.i : Int)) :: kv) (fun g => osl pairR 33 g.A g.c (upD v (l.take g.i)) :: cells b [.slice A l.length c] 50 :: osl pairR 33 A c l :: L) (fun g => l.length - g.i) (⟨0, none, 0⟩) rfl (Nat.zero_le _) (GivesTo.g) (sub_cons rfl (sub_cons rfl (sub_cons rfl (sub_cons rfl (sub_nil))))) ?_
  rintro ⟨i, X, cx⟩ hil
  dsimp only at hil ⊢
  refine T_seq ?_
  refine T_region ?_
  refine TL_y rfl rfl (Y_move rfl) ?_
  refine TL_y rfl rfl (Y_move rfl) ?_
  refine TL_y rfl rfl (Y_nil_check rfl) ?_
  refine TL_y rfl rfl (Y_field_addr rfl) ?_
  refine TL_y rfl rfl (Y_load rfl rfl) ?_
  refine TL_y rfl rfl (Y_len rfl) ?_
  refine TL_y rfl rfl (Y_lt rfl rfl) ?_
  refine TL_nil ?_
  refine T_if rfl (fun h13 => ?_) (fun h13 => ?_)
  · refine T_skip ?_
    refine thenS_normal ?_
    refine T_seq ?_
    refine T_block ?_
    obtain ⟨u, hu⟩ : ∃ u, l[i]? = some u := ⟨_, List.getElem?_eq_getElem (by omega)⟩
    refine T_elem_fact (sln (A := A) (c := c) (R := pairR)) hu (fun M l h => h.2) fun hup => ?_
    have hsn := upD_snoc v hu
    have hel : (upD v (l.take i)).length ≤ (l.take i).length := List.length_filter_le _ _
    have htl : (l.take i).length ≤ l.length := by rw [List.length_take]; omega
    refine T_addr_n (sln (A := A) (c := c) (R := pairR)) hu fun bq oq eq => ?_
    subst eq
    refine T_region ?_
    refine TL_y rfl rfl (Y_move rfl) ?_
    refine TL_y rfl rfl (Y_move rfl) ?_
    refine TL_y rfl rfl (Y_nil_check rfl) ?_
    refine TL_y rfl rfl (Y_field_addr rfl) ?_
    refine TL_y rfl rfl (Y_load rfl rfl) ?_
    refine TL_y rfl rfl (Y_move rfl) ?_
    refine TL_y rfl rfl (Y_index_n (R := pairR) (xs := l) rfl rfl rfl hu) ?_
    refine TL_y rfl rfl (Y_field_addr2 rfl) ?_
    refine TL_y rfl rfl (Y_load_naf (R := pairR) (c := c) (xs := l) (q := 0) (vs := dotC u.1) rfl sln hu rfl) ?_
    refine TL_call rfl rfl (refHas_spec (hk.tail.tail.tail) u.1) ?_
    rintro _ _ ⟨rfl, rfl⟩
    refine TL_nil ?_
    refine T_if rfl (fun h25 => ?_) (fun h25 => ?_)
    · rw [if_pos h25] at hsn
      refine T_region_last ?_
      refine TL_y rfl rfl (Y_move rfl) ?_
      refine TL_y rfl rfl (Y_move rfl) ?_
      refine TL_y rfl rfl (Y_nil_check rfl) ?_
      refine TL_y rfl rfl (Y_field_addr rfl) ?_
      refine TL_y rfl rfl (Y_load rfl rfl) ?_
      refine TL_y rfl rfl (Y_move rfl) ?_
      refine TL_y rfl rfl (Y_index_n (R := pairR) (xs := l) rfl rfl rfl hu) ?_
      refine TL_y rfl rfl (Y_load_naf (R := pairR) (c := c) (xs := l) (q := 0) (vs := pairC u) rfl sln hu rfl) ?_
      refine TL_build_slice rfl rfl rfl rfl rfl rfl ?_
      intro b34
      refine TL_osl (k := 1) pairR [u] (Knows.const fun M => ⟨pairC u, [], ⟨rfl, hup⟩, rfl, rfl⟩) rfl (by decide) ?_
      refine TL_freeze_osl ?_
      refine TL_name 34 (v' := .slice (some ⟨b34, 0, none⟩) [u].length 1) rfl rfl ?_
      refine TL_append rfl rfl rfl rfl rfl slk (by simp only [List.length_cons, List.length_nil]; omega) ?_
      intro A35 c35
      rw [← hsn]
      refine TL_y rfl rfl (Y_assign rfl) ?_
      refine TL_nil ?_
      refine inB_normal ?_
      refine thenS_normal ?_
      refine T_region_last ?_
      refine TL_y rfl rfl (Y_move rfl) ?_
      refine TL_y rfl rfl (Y_add rfl rfl (by omega)) ?_
      refine TL_name 15 (v' := .int .i64 ((i + 1 : Nat) : Int)) rfl (rfl) ?_
      refine TL_y rfl rfl (Y_assign rfl) ?_
      refine TL_nil ?_
      refine thenS_normal ?_
      exact ⟨⟨i + 1, A35, c35⟩, (by simp only; omega), by simp only; omega, holds_to (sub_cons rfl (sub_cons rfl (sub_cons rfl (sub_cons rfl (sub_nil))))) GivesTo.g⟩
    · rw [if_neg h25, List.append_nil] at hsn
      rw [← hsn]
      refine T_skip ?_
      refine inB_normal ?_
      refine thenS_normal ?_
      refine T_region_last ?_
      refine TL_y rfl rfl (Y_move rfl) ?_
      refine TL_y rfl rfl (Y_add rfl rfl (by omega)) ?_
      refine TL_name 15 (v' := .int .i64 ((i + 1 : Nat) : Int)) rfl (rfl) ?_
      refine TL_y rfl rfl (Y_assign rfl) ?_
      refine TL_nil ?_
      refine thenS_normal ?_
      exact ⟨⟨i + 1, X, cx⟩, (by simp only; omega), by simp only; omega, holds_to (sub_cons rfl (sub_cons rfl (sub_cons rfl (sub_cons rfl (sub_nil))))) GivesTo.g⟩
  · refine T_exit ?_
    refine thenS_exit ?_
    refine thenS_exit ?_
    refine inB_hit ?_
    refine thenS_normal ?_
    refine T_region ?_
    refine TL_y rfl rfl (Y_move rfl) ?_
    refine TL_y rfl rfl (Y_assign rfl) ?_
    refine TL_nil ?_
    refine T_ret ?_
    rw [List.take_of_length_le (show l.length ≤ i by omega)]
    refine RetQ.gives (rd_close (A := A) (c := c) b l) ?_
    refine RetQ.gives (show Gives _ (osl pairR 33 X cx (upD v l) :: rd b A c l :: L) from GivesTo.g) ?_
    exact RetG_1 (.inl rfl) rfl (ResV.tmp rfl) GivesTo.g (⟨X, cx, rfl, rfl⟩)
def msD (l : List pairD) (ms : List DotD) : List DotD := ms.filter fun d => !decide (hasD l d)
theorem msD_snoc (l : List pairD) {ms : List DotD} {i : Nat} {u : DotD} (hu : ms[i]? = some u) : msD l (ms.take (i + 1)) = msD l (ms.take i) ++ if hasD l u then [] else [u] := by
  rw [takeAt hu]; unfold msD
  rw [List.filter_append]
  by_cases h : hasD l u <;> simp [h]
theorem msD_end (l : List pairD) {ms : List DotD} {i : Nat} (h : ms.length ≤ i ∨ 4096 ≤ (msD l (ms.take i)).length) (h2 : (msD l (ms.take i)).length ≤ 4096) : msD l (ms.take i) = (msD l ms).take 4096 := by
  by_cases h3 : ms.length ≤ i
  · rw [List.take_of_length_le h3] at h2 ⊢; rw [List.take_of_length_le h2]
  · have h5 : msD l ms = msD l (ms.take i) ++ msD l (ms.drop i) := by unfold msD; rw [← List.filter_append, List.take_append_drop]
    rw [h5, List.take_append_of_le_length (by omega), List.take_of_length_le (l := msD l (ms.take i)) h2]
theorem refMissingD_spec {L : List HP} {b : Nat} {A : Option Addr} {c : Nat} {l : List pairD} {Av : Option Addr} {cv : Nat} {v : List Int} (hi : DI l) (hk : SlN L (intR .i64) Av cv v) : Fn Try.prog 70 #[.pointer (some ⟨b, 0, none⟩), .slice Av v.length cv] (rd b A c l :: L) (fun r L' => ∃ X cx, r = .slice X (missD l v).length cx ∧ L' = osl dotR 31 X cx (missD l v) :: rd b A c l :: L) := by
  have hlen := hi.len
  refine Fn_enter Try.func70 rfl rfl rfl rfl ?_
  refine T_region ?_
  refine TL_y rfl rfl (Y_assign rfl) ?_
  refine TL_nil ?_
  refine T_region ?_
  refine TL_y rfl rfl (Y_assign rfl) ?_
  refine TL_nil ?_
  refine T_rset fun hlc => ?_
  simp only [maxEl] at hlc
  refine T_region ?_
  refine TL_y rfl rfl (Y_move rfl) ?_
  refine TL_y rfl rfl (Y_move rfl) ?_
  refine TL_y rfl rfl (Y_nil_check rfl) ?_
  refine TL_y rfl rfl (Y_field_addr rfl) ?_
  refine TL_y rfl rfl (Y_load rfl rfl) ?_
  refine TL_y rfl rfl (Y_len rfl) ?_
  refine TL_y rfl rfl (Y_add rfl rfl (by omega)) ?_
  refine TL_name 16 (v' := .int .i64 ((l.length + 4096 : Nat) : Int)) rfl (rfl) ?_
  refine TL_call rfl rfl (refBetween_spec (a := []) (l.length + 4096) (by omega) SlN.nil hk.tail.tail) ?_
  rintro _ _ ⟨A17, c17, rfl, rfl⟩
  refine TL_freeze_osl ?_
  refine TL_gives (rd_close (A := A) (c := c) b l) ?_
  have hmd := miss_doc hi v
  generalize (betL [] v).take (l.length + 4096) = ms at hmd ⊢
  refine TL_y rfl rfl (Y_assign rfl) ?_
  refine TL_nil ?_
  refine T_seq ?_
  refine T_gives (show Gives _ (osl dotR 31 none 0 (msD l (ms.take 0)) :: _) from osl_nil dotR 31 none _) ?_
  refine SlN.lens (sln (A := A17) (c := c17) (R := dotR) (xs := ms)) fun hms => ?_
  simp only [maxEl] at hms
  refine T_region ?_
  refine TL_y rfl rfl (Y_assign rfl) ?_
  refine TL_nil ?_
  refine T_block ?_
  refine T_loopK (σ := ExG) [0, 6] (fun g => g.i ≤ ms.length ∧ (msD l (ms.take g.i)).length ≤ 4096) (fun g kv => (5, .slice g.A (msD l (ms.take g.i)).length g.c) :: (7, .int .i64 (g.i : Int)) :: kv) (fun g => osl dotR 31 g.A g.c (msD l (ms.take g.i)) :: rd b A c l :: sl dotR A17 c17 ms :: L) (fun g => ms.length - g.i) (⟨0, none, 0⟩) rfl (⟨Nat.zero_le _, Nat.zero_le _⟩) (GivesTo.g) (sub_cons rfl (sub_cons rfl (sub_cons rfl (sub_cons rfl (sub_nil))))) ?_
  rintro ⟨i, X, cx⟩ ⟨hil, hml⟩
  dsimp only at hil hml ⊢
  refine T_seq ?_
  refine T_region ?_
  refine TL_y rfl rfl (Y_move rfl) ?_
  refine TL_y rfl rfl (Y_move rfl) ?_
  refine TL_y rfl rfl (Y_len rfl) ?_
  refine TL_both 6 26 (i < ms.length ∧ (msD l (ms.take i)).length < 4096) ?_ ?_
  · refine TL_y rfl rfl (Y_lt rfl rfl) ?_
    refine TL_y rfl rfl (Y_move rfl) ?_
    refine TL_splitd 22 rfl (fun h22 => ?_) (fun h22 => ?_)
    · refine TL_grun rfl rfl ?_
      refine TL_y rfl rfl (Y_move rfl) ?_
      refine TL_grun rfl rfl ?_
      refine TL_y rfl rfl (Y_len rfl) ?_
      refine TL_grun rfl rfl ?_
      refine TL_y rfl rfl (Y_lt rfl rfl) ?_
      refine TL_y rfl rfl (Y_pick_t rfl rfl) ?_
      refine TL_chain_end rfl ?_ (by repeat (first | exact sub_refl | refine sub_ext rfl ?_)) GivesTo.g
      exact congrArg Value.bool (decide_eq_decide.2 (by omega))
    · refine TL_gskip rfl rfl rfl rfl ?_
      refine TL_gskip rfl rfl rfl rfl ?_
      refine TL_gskip rfl rfl rfl rfl ?_
      refine TL_y rfl rfl (Y_pick_f rfl rfl) ?_
      refine TL_chain_end rfl ?_ (by repeat (first | exact sub_refl | refine sub_ext rfl ?_)) GivesTo.g
      exact congrArg Value.bool (decide_eq_false (by omega)).symm
  refine TL_nil ?_
  refine T_if rfl (fun h26 => ?_) (fun h26 => ?_)
  · refine T_skip ?_
    refine thenS_normal ?_
    refine T_seq ?_
    refine T_block ?_
    obtain ⟨u, hu⟩ : ∃ u, ms[i]? = some u := ⟨_, List.getElem?_eq_getElem (by omega)⟩
    refine T_elem_fact (sln (A := A17) (c := c17) (R := dotR)) hu (fun M l h => h.2) fun hud => ?_
    have hsn := msD_snoc l hu
    refine T_addr_n (sln (A := A17) (c := c17) (R := dotR)) hu fun bq oq eq => ?_
    subst eq
    refine T_region ?_
    refine TL_y rfl rfl (Y_move rfl) ?_
    refine TL_y rfl rfl (Y_move rfl) ?_
    refine TL_y rfl rfl (Y_move rfl) ?_
    refine TL_y rfl rfl (Y_index_n (R := dotR) (xs := ms) rfl rfl rfl hu) ?_
    refine TL_y rfl rfl (Y_load_naf (R := dotR) (c := c17) (xs := ms) (q := 0) (vs := dotC u) rfl sln hu rfl) ?_
    refine TL_pullk b ?_
    refine TL_call rfl rfl (refGetD_spec u) ?_
    rintro _ _ ⟨rfl, rfl⟩
    refine TL_y rfl rfl (Y_move rfl) ?_
    refine TL_y rfl rfl (Y_extract rfl rfl) ?_
    refine TL_y rfl rfl (Y_extract rfl rfl) ?_
    refine TL_y rfl rfl (Y_assign rfl) ?_
    refine TL_y rfl rfl (Y_assign rfl) ?_
    refine TL_nil ?_
    refine T_region ?_
    refine TL_y rfl rfl (Y_move rfl) ?_
    refine TL_y rfl rfl (Y_not rfl) ?_
    refine TL_nil ?_
    refine T_cond rfl (fun h39 => ?_) (fun h39 => ?_)
    · rw [if_neg (show ¬ hasD l u by unfold hasD; simpa using h39)] at hsn
      refine T_region_last ?_
      refine TL_y rfl rfl (Y_move rfl) ?_
      refine TL_y rfl rfl (Y_move rfl) ?_
      refine TL_y rfl rfl (Y_move rfl) ?_
      refine TL_y rfl rfl (Y_index_n (R := dotR) (xs := ms) rfl rfl rfl hu) ?_
      refine TL_y rfl rfl (Y_load_naf (R := dotR) (c := c17) (xs := ms) (q := 0) (vs := dotC u) rfl sln hu rfl) ?_
      refine TL_build_slice rfl rfl rfl rfl rfl rfl ?_
      intro b45
      refine TL_osl (k := 1) dotR [u] (Knows.const fun M => ⟨dotC u, [], ⟨rfl, hud⟩, rfl, rfl⟩) rfl (by decide) ?_
      refine TL_freeze_osl ?_
      refine TL_name 45 (v' := .slice (some ⟨b45, 0, none⟩) [u].length 1) rfl rfl ?_
      refine TL_append rfl rfl rfl rfl rfl slk (by simp only [List.length_cons, List.length_nil]; omega) ?_
      intro A46 c46
      rw [← hsn]
      refine TL_y rfl rfl (Y_assign rfl) ?_
      refine TL_nil ?_
      refine inB_normal ?_
      refine thenS_normal ?_
      refine T_region_last ?_
      refine TL_y rfl rfl (Y_move rfl) ?_
      refine TL_y rfl rfl (Y_add rfl rfl (by omega)) ?_
      refine TL_name 28 (v' := .int .i64 ((i + 1 : Nat) : Int)) rfl (rfl) ?_
      refine TL_y rfl rfl (Y_assign rfl) ?_
      refine TL_nil ?_
      refine thenS_normal ?_
      exact ⟨⟨i + 1, A46, c46⟩, ⟨by simp only; omega, by dsimp only; rw [hsn, List.length_append]; simp; omega⟩, by simp only; omega, holds_to (sub_cons rfl (sub_cons rfl (sub_cons rfl (sub_cons rfl (sub_nil))))) GivesTo.g⟩
    · rw [if_pos (show hasD l u by unfold hasD; simpa using h39), List.append_nil] at hsn
      rw [← hsn]
      refine T_skip ?_
      refine inB_normal ?_
      refine thenS_normal ?_
      refine T_region_last ?_
      refine TL_y rfl rfl (Y_move rfl) ?_
      refine TL_y rfl rfl (Y_add rfl rfl (by omega)) ?_
      refine TL_name 28 (v' := .int .i64 ((i + 1 : Nat) : Int)) rfl (rfl) ?_
      refine TL_y rfl rfl (Y_assign rfl) ?_
      refine TL_nil ?_
      refine thenS_normal ?_
      exact ⟨⟨i + 1, X, cx⟩, ⟨by simp only; omega, by dsimp only; rw [hsn]; omega⟩, by simp only; omega, holds_to (sub_cons rfl (sub_cons rfl (sub_cons rfl (sub_cons rfl (sub_nil))))) GivesTo.g⟩
  · refine T_exit ?_
    refine thenS_exit ?_
    refine thenS_exit ?_
    refine inB_hit ?_
    refine thenS_normal ?_
    refine T_region ?_
    refine TL_y rfl rfl (Y_move rfl) ?_
    refine TL_y rfl rfl (Y_assign rfl) ?_
    refine TL_nil ?_
    refine T_ret ?_
    have he := msD_end l (ms := ms) (i := i) (by omega) hml
    rw [he, show (msD l ms).take 4096 = missD l v from hmd]
    refine RetQ.gives (show Gives _ (osl dotR 31 X cx (missD l v) :: rd b A c l :: L) from GivesTo.g) ?_
    exact RetG_1 (.inl rfl) rfl (ResV.tmp rfl) GivesTo.g (⟨X, cx, rfl, rfl⟩)
/-! ### Pairs compared -/
abbrev pairV (p : pairD) : Value := .agg (List.toArray (pairC p))
theorem pair_guard : Try.prog.eqGuardType Try.prog.depth 33 = false := by kernel_rfl
theorem pair_held : Try.prog.stoodInHeld 33 = false := by kernel_rfl
theorem pair_eq0 (dd : Nat) (w : World) (a b : pairD) : (Op.equalIn (dd + 3) 33 (pairV a) (pairV b)).run Try.prog w = .ok (decide (a = b)) w := by
  have hd := dot_eq0 dd w a.1 b.1
  have hs : ∀ x y, (Op.equalIn (dd + 2) 9 (.string x) (.string y)).run Try.prog w = .ok (decide (x = y)) w := fun x y => EqIs.str (d := dd + 1) w
  generalize hdd : dd + 2 = d1 at hd hs
  have : dd + 3 = d1 + 1 := by omega
  rw [this]
  simp [Op.equalIn, Try.runUnderlying33, pair_held, part, Try.isAgg31, Try.isAgg9, hs]
  rw [show (Op.equalIn d1 31 (Value.agg #[Value.int .i64 a.1.1, Value.int .i64 a.1.2]) (Value.agg #[Value.int .i64 b.1.1, Value.int .i64 b.1.2])).run Try.prog w = .ok (decide (a.1 = b.1)) w from hd]
  obtain ⟨a1, a2⟩ := a
  obtain ⟨b1, b2⟩ := b
  by_cases h1 : a1 = b1 <;> by_cases h2 : a2 = b2 <;> simp [h1, h2, hs]
section
variable {E : Env} {L : List HP} {ty : TypeId}
theorem pair_eq1 (w : World) (a b : pairD) : (Op.equal 33 (pairV a) (pairV b)).run Try.prog w = .ok (decide (a = b)) w := pair_eq0 9997 w a b
theorem Y_ne_pair {x y : Operand} {t' : TypeId} {a b : pairD} (hx : ev E x = some (pairV a)) (hy : ev E y = some (pairV b)) : Yl Try.prog E L (.binOp .neq 33 x y t') ty (.bool (decide (a ≠ b))) := fun n D W ac w dst pos af g hv hs => by
  have h3 : ∀ xs ys : Array Value, Go.binOp .neq 33 (.agg xs) (.agg ys) = (do Pure.pure (Value.bool (!(← Op.equal 33 (.agg xs) (.agg ys)))) : Sem Value) := fun xs ys => by simp only [Go.binOp]
  simp only [execOp, hv.ev hx, hv.ev hy, eqGuard, h3]
  simp [pair_guard, pair_eq1]
end
end Go.SL
