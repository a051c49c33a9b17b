/- Dots: the document's set. -/
import Derived.Test.YtooadkecmchpaaaDtV
import Derived.Test.YtooadkecmchpaaaSlP
set_option linter.unusedVariables false
set_option linter.unusedSimpArgs false
namespace Go.SL
open Go Go.Proofs
abbrev rdF (b : Nat) (A : Option Addr) (c : Nat) (l : List pairD) : List HP := [cells b [.slice A l.length c] 50, osl pairR 33 A c l]
def rd (b : Nat) (A : Option Addr) (c : Nat) (l : List pairD) : HP := unS (rdF b A c l)
instance findK_rd {L : List HP} {b : Nat} {A : Option Addr} {c : Nat} {l : List pairD} : FindK (rd b A c l :: L) b (rd b A c l) L := ⟨Gives.refl _⟩
theorem rd_open {b : Nat} {A : Option Addr} {c : Nat} {l : List pairD} {L : List HP} : Gives (rd b A c l :: L) (cells b [.slice A l.length c] 50 :: osl pairR 33 A c l :: L) := unS_open (L := rdF b A c l) (L' := L)
section
variable {r : Option Nat} {n : Nat} {P : Program} {ops : Array Oper} {rest : List Oper} {K : St → Prop} {Q : Exit → St → Prop} {D : List Deferred} {E : Env} {L L' : List HP} {b : Nat} {A : Option Addr} {c : Nat} {l : List pairD}
theorem T_rset {c' : Code} (h : l.length ≤ c ∧ l.length ≤ maxEl → T r n P c' ⟨D, E, cells b [.slice A l.length c] 50 :: osl pairR 33 A c l :: L⟩ Q) : T r n P c' ⟨D, E, rd b A c l :: L⟩ Q := T_gives rd_open (T_fact (Knows.tail osl_len) (fun _ h => h) h)
theorem rd_close {A : Option Addr} {c : Nat} {L1 L2 : List HP} (b : Nat) (l : List pairD) [h1 : FindC L b [.slice A l.length c] 50 L1] [h2 : FindO L1 A c pairD pairR 33 l L2] : Gives L (rd b A c l :: L2) :=
  (h1.g.trans (Gives.cons _ h2.g)).trans (unS_close (L := rdF b A c l) (L' := L2))
theorem Yl_gives {op : Op} {ty : TypeId} {v : Value} (g : Gives L L') (h : Yl P E L' op ty v) : Yl P E L op ty v := fun n D W a w dst pos af gd ha hs => h n D W a w dst pos af gd ha (hs.gives g)
end
theorem getD_take {l : List pairD} {k : DotD} {i : Nat} {u : pairD} (hu : l[i]? = some u) (hk : u.1 = k) (h : ∀ q ∈ l.take i, q.1 ≠ k) : getM l k = some u.2 := by
  have e : l = l.take i ++ l.drop i := (List.take_append_drop i l).symm
  have hd : l.drop i = u :: l.drop (i + 1) := by rw [List.drop_eq_getElem_cons (List.getElem?_eq_some_iff.1 hu).1, (List.getElem?_eq_some_iff.1 hu).2]
  rw [e, getM_append, getM_none.2 h, hd, getM_cons, if_pos hk]; rfl
theorem refGetD_spec {L : List HP} {b : Nat} {A : Option Addr} {c : Nat} {l : List pairD} (d : DotD) : Fn Try.prog 30 #[.pointer (some ⟨b, 0, none⟩), dotV d] (rd b A c l :: L) (fun v L' => v = .tuple #[.string (getVSTR l d), .bool (getM l d).isSome] ∧ L' = rd b A c l :: L) := by
  refine Fn_enter Try.func30 rfl rfl rfl rfl ?_
  refine T_pullk b ?_
  refine T_rset fun hlc => ?_
  simp only [maxEl] at hlc
  refine T_region ?_
  refine TL_box rfl rfl rfl ?_
  intro b3
  refine TL_y rfl rfl (Y_assign rfl) ?_
  refine TL_y rfl rfl (Y_assign rfl) ?_
  refine TL_nil ?_
  refine T_seq ?_
  refine T_region ?_
  refine TL_y rfl rfl (Y_assign rfl) ?_
  refine TL_nil ?_
  refine T_block ?_
  refine T_loopK (σ := Nat) [0, 3] (fun i => i ≤ l.length ∧ ∀ q ∈ l.take i, q.1 ≠ d) (fun i kv => (6, .int .i64 (i : Int)) :: kv) (fun i => cells b [.slice A l.length c] 50 :: osl pairR 33 A c l :: cells b3 (dotC d) 31 :: L) (fun i => l.length - i) (0) rfl (⟨Nat.zero_le _, by simp⟩) (GivesTo.g) (sub_cons rfl (sub_cons rfl (sub_cons rfl (sub_nil)))) ?_
  rintro i ⟨hi, hi2⟩
  refine T_seq ?_
  refine T_region ?_
  refine TL_y rfl rfl (Y_move rfl) ?_
  refine TL_y rfl rfl (Y_move rfl) ?_
  refine TL_y rfl rfl (Y_nil_check rfl) ?_
  refine TL_y rfl rfl (Y_field_addr rfl) ?_
  refine TL_y rfl rfl (Y_load rfl rfl) ?_
  refine TL_y rfl rfl (Y_len rfl) ?_
  refine TL_y rfl rfl (Y_lt rfl rfl) ?_
  refine TL_nil ?_
  refine T_if rfl (fun h13 => ?_) (fun h13 => ?_)
  · refine T_skip ?_
    refine thenS_normal ?_
    refine T_seq ?_
    refine T_block ?_
    obtain ⟨u, hu⟩ : ∃ u, l[i]? = some u := ⟨_, List.getElem?_eq_getElem (by omega)⟩
    refine T_addr_n (sln (A := A) (c := c) (R := pairR)) hu fun bq oq eq => ?_
    subst eq
    refine T_region_draw _ [0, 1, 3, 7, 0, 31, 63, 127, 0, 511] [] [(0, true), (1, true), (2, true), (3, true), (4, true), (5, true), (6, true), (7, true), (8, true), (9, true)] (by kernel_rfl) (by decide +kernel) (Gives.refl _) ?_
    refine TF_y rfl rfl (Y_move rfl) ?_
    refine TF_y rfl rfl (Y_nil_check rfl) ?_
    refine TF_y rfl rfl (Y_field_addr rfl) ?_
    refine TF_y rfl rfl (Y_load rfl rfl) ?_
    refine TF_y rfl rfl (Y_move rfl) ?_
    refine TF_y rfl rfl (Y_index_n (R := pairR) (xs := l) rfl rfl rfl hu) ?_
    refine TF_y rfl rfl (Y_field_addr2 rfl) ?_
    refine TF_y rfl rfl (Y_load_naf (R := pairR) (c := c) (xs := l) (q := 0) (vs := dotC u.1) rfl sln hu rfl) ?_
    refine TF_y rfl rfl (Y_load_agg rfl rfl) ?_
    refine TF_y rfl rfl (Y_eq_dot (a := u.1) (b := d) rfl rfl) ?_
    refine TF_nil ?_
    refine T_if rfl (fun h25 => ?_) (fun h25 => ?_)
    · refine T_region ?_
      refine TL_y rfl rfl (Y_move rfl) ?_
      refine TL_y rfl rfl (Y_nil_check rfl) ?_
      refine TL_y rfl rfl (Y_field_addr rfl) ?_
      refine TL_y rfl rfl (Y_load rfl rfl) ?_
      refine TL_y rfl rfl (Y_move rfl) ?_
      refine TL_y rfl rfl (Y_index_n (R := pairR) (xs := l) rfl rfl rfl hu) ?_
      refine TL_y rfl rfl (Y_field_addr2 rfl) ?_
      refine TL_y rfl rfl (Y_load_n (R := pairR) (c := c) (xs := l) (q := 2) rfl sln hu rfl) ?_
      refine TL_y rfl rfl (Y_assign rfl) ?_
      refine TL_y rfl rfl (Y_assign rfl) ?_
      refine TL_nil ?_
      refine T_ret ?_
      refine inB_ret ?_
      refine thenS_ret ?_
      refine thenS_ret ?_
      refine inB_ret ?_
      refine thenS_ret ?_
      have e1 : getM l d = some u.2 := getD_take hu h25 hi2
      have e2 : getVSTR l d = u.2 := by unfold getVSTR; rw [e1]; rfl
      rw [e2, e1]
      refine RetQ.gives (rd_close (A := some ⟨bq, oq, none⟩) (c := c) b l) ?_
      exact RetG_2 (.inl rfl) rfl (ResV.tmp rfl) (ResV.tmp rfl) GivesTo.g (⟨rfl, rfl⟩)
    · refine T_skip ?_
      refine inB_normal ?_
      refine thenS_normal ?_
      refine T_region_last ?_
      refine TL_y rfl rfl (Y_move rfl) ?_
      refine TL_y rfl rfl (Y_add rfl rfl (by omega)) ?_
      refine TL_name 15 (v' := .int .i64 ((i + 1 : Nat) : Int)) rfl (rfl) ?_
      refine TL_y rfl rfl (Y_assign rfl) ?_
      refine TL_nil ?_
      refine thenS_normal ?_
      exact ⟨i + 1, ⟨by omega, by rw [takeAt hu]; intro q hq; rcases List.mem_append.1 hq with h | h; exact hi2 q h; (simp at h; subst h; exact h25)⟩, by omega, holds_to (sub_cons rfl (sub_cons rfl (sub_cons rfl (sub_nil)))) GivesTo.g⟩
  · refine T_exit ?_
    refine thenS_exit ?_
    refine thenS_exit ?_
    refine inB_hit ?_
    refine thenS_normal ?_
    refine T_region ?_
    refine TL_y rfl rfl (Y_assign rfl) ?_
    refine TL_y rfl rfl (Y_assign rfl) ?_
    refine TL_nil ?_
    refine T_ret ?_
    have e1 : getM l d = none := getM_none.2 (by have := hi2; rwa [List.take_of_length_le (by omega)] at this)
    have e2 : getVSTR l d = ⟨#[]⟩ := by unfold getVSTR; rw [e1]; rfl
    rw [e2, e1]
    refine RetQ.gives (rd_close (A := A) (c := c) b l) ?_
    exact RetG_2 (.inl rfl) rfl (ResV.tmp rfl) (ResV.tmp rfl) GivesTo.g (⟨rfl, rfl⟩)
theorem pair_rep {p : pairD} (h : pairOk p) : ∀ M, pairR.rep M p (pairC p) := fun _ => ⟨rfl, h⟩
theorem refAddD_spec {L : List HP} {b : Nat} {A : Option Addr} {c : Nat} {l : List pairD} (d : DotD) (x : ByteArray) (hi : DI l) (hx : x.size ≤ maxEl) : Fn Try.prog 27 #[.pointer (some ⟨b, 0, none⟩), dotV d, .string x] (rd b A c l :: L) (fun v L' => ∃ X cx, v = .int .i64 (addS l d x).2 ∧ L' = rd b X cx (addS l d x).1 :: L) := by
  have hlen := hi.len
  refine Fn_enter Try.func27 rfl rfl rfl rfl ?_
  refine T_region ?_
  refine TL_box rfl rfl rfl ?_
  intro b4
  refine TL_y rfl rfl (Y_assign rfl) ?_
  refine TL_nil ?_
  refine T_seq ?_
  refine T_region ?_
  refine TL_y rfl rfl (Y_load_agg rfl rfl) ?_
  refine TL_call rfl rfl (refMayD_spec _ d) ?_
  rintro _ _ ⟨rfl, rfl⟩
  refine TL_y rfl rfl (Y_not_d rfl) ?_
  refine TL_nil ?_
  refine T_if rfl (fun h12 => ?_) (fun h12 => ?_)
  · refine T_region ?_
    refine TL_y rfl rfl (Y_assign rfl) ?_
    refine TL_nil ?_
    refine T_ret ?_
    refine thenS_ret ?_
    have hs1 : addS l d x = (l, 1) := by unfold addS; rw [if_pos h12]
    rw [hs1]
    exact RetG_1 (.inl rfl) rfl (ResV.tmp rfl) GivesTo.g (⟨A, c, rfl, rfl⟩)
  · refine T_skip ?_
    refine thenS_normal ?_
    refine T_seq ?_
    refine T_region ?_
    refine TL_y rfl rfl (Y_move rfl) ?_
    refine TL_y rfl rfl (Y_load_agg rfl rfl) ?_
    refine TL_pullk b ?_
    refine TL_call rfl rfl (refGetD_spec d) ?_
    rintro _ _ ⟨rfl, rfl⟩
    refine TL_y rfl rfl (Y_move rfl) ?_
    refine TL_y rfl rfl (Y_extract rfl rfl) ?_
    refine TL_y rfl rfl (Y_extract rfl rfl) ?_
    refine TL_y rfl rfl (Y_assign rfl) ?_
    refine TL_y rfl rfl (Y_assign rfl) ?_
    refine TL_nil ?_
    refine T_region ?_
    refine TL_y rfl rfl (Y_move rfl) ?_
    refine TL_nil ?_
    refine T_cond rfl (fun h19 => ?_) (fun h19 => ?_)
    · have hd : hasD l d := h19
      refine T_region ?_
      refine TL_y rfl rfl (Y_assign rfl) ?_
      refine TL_nil ?_
      refine T_ret ?_
      refine thenS_ret ?_
      have hs1 : addS l d x = (l, 5) := by unfold addS; rw [if_neg h12, if_pos hd]
      rw [hs1]
      exact RetG_1 (.inl rfl) rfl (ResV.tmp rfl) GivesTo.g (⟨A, c, rfl, rfl⟩)
    · have hd : ¬ hasD l d := by unfold hasD; rw [h19]; simp
      refine T_skip ?_
      refine thenS_normal ?_
      refine T_seq ?_
      refine T_pullk b ?_
      refine T_rset fun hlc => ?_
      simp only [maxEl] at hlc
      refine T_region ?_
      refine TL_y rfl rfl (Y_move rfl) ?_
      refine TL_y rfl rfl (Y_nil_check rfl) ?_
      refine TL_y rfl rfl (Y_field_addr rfl) ?_
      refine TL_y rfl rfl (Y_load rfl rfl) ?_
      refine TL_y rfl rfl (Y_len rfl) ?_
      refine TL_y rfl rfl (Y_ge rfl rfl) ?_
      refine TL_nil ?_
      refine T_if rfl (fun h25 => ?_) (fun h25 => ?_)
      · refine T_region ?_
        refine TL_y rfl rfl (Y_assign rfl) ?_
        refine TL_nil ?_
        refine T_ret ?_
        refine thenS_ret ?_
        have hs1 : addS l d x = (l, 2) := by unfold addS; rw [if_neg h12, if_neg hd, if_pos (by omega)]
        rw [hs1]
        refine RetQ.gives (rd_close (A := A) (c := c) b l) ?_
        exact RetG_1 (.inl rfl) rfl (ResV.tmp rfl) GivesTo.g (⟨A, c, rfl, rfl⟩)
      · refine T_skip ?_
        refine thenS_normal ?_
        have hs1 : addS l d x = (putD l d x, 0) := by unfold addS; rw [if_neg h12, if_neg hd, if_neg (by omega)]
        have hm0 := Classical.not_not.1 h12
        have hdk := may_ok hm0
        refine T_region ?_
        refine TL_y rfl rfl (Y_assign rfl) ?_
        refine TL_nil ?_
        refine T_seq ?_
        refine T_block ?_
        refine T_loopK (σ := Nat) [0, 2, 4] (fun k => k ≤ l.length ∧ ∀ q ∈ l.take k, lessD q.1 d = true) (fun k kv => (9, .int .i64 (k : Int)) :: kv) (fun k => cells b [.slice A l.length c] 50 :: osl pairR 33 A c l :: cells b4 (dotC d) 31 :: L) (fun k => l.length - k) (0) rfl (⟨Nat.zero_le _, by simp⟩) (GivesTo.g) (sub_cons rfl (sub_cons rfl (sub_cons rfl (sub_cons rfl (sub_nil))))) ?_
        rintro k ⟨hk1, hk2⟩
        refine T_seq ?_
        refine Classical.byCases (p := k < l.length) (fun hnl => ?_) (fun hnl => ?_)
        · obtain ⟨u, hu⟩ : ∃ u, l[k]? = some u := ⟨_, List.getElem?_eq_getElem hnl⟩
          refine T_addr_n (sln (A := A) (c := c) (R := pairR)) hu fun bq oq eq => ?_
          subst eq
          refine T_region_draw _ [0, 0, 2, 6, 14, 30, 63, 127, 255, 511, 1023, 2047, 255, 8191, 16383, 32767, 255, 131071, 262143] [] [(0, true), (1, true), (2, true), (3, true), (4, true), (5, true), (6, true), (7, true), (8, true), (9, true), (10, true), (11, true), (12, true), (13, true), (14, true), (15, true), (16, true), (17, false), (18, true)] (by kernel_rfl) (by decide +kernel) (Gives.refl _) ?_
          refine TF_y rfl rfl (Y_move rfl) ?_
          refine TF_y rfl rfl (Y_move rfl) ?_
          refine TF_y rfl rfl (Y_nil_check rfl) ?_
          refine TF_y rfl rfl (Y_field_addr rfl) ?_
          refine TF_y rfl rfl (Y_load rfl rfl) ?_
          refine TF_y rfl rfl (Y_len rfl) ?_
          refine TF_y rfl rfl (Y_lt rfl rfl) ?_
          refine TF_name 32 (v' := .bool true) rfl (congrArg Value.bool (decide_eq_true (by omega))) ?_
          refine TF_y rfl rfl (Y_move rfl) ?_
          refine TF_gy rfl rfl rfl rfl (Y_move rfl) ?_
          refine TF_gy rfl rfl rfl rfl (Y_nil_check rfl) ?_
          refine TF_gy rfl rfl rfl rfl (Y_field_addr rfl) ?_
          refine TF_gy rfl rfl rfl rfl (Y_load rfl rfl) ?_
          refine TF_gy rfl rfl rfl rfl (Y_move rfl) ?_
          refine TF_gy rfl rfl rfl rfl (Y_index_n (R := pairR) (xs := l) rfl rfl rfl hu) ?_
          refine TF_gy rfl rfl rfl rfl (Y_field_addr2 rfl) ?_
          refine TF_gy rfl rfl rfl rfl (Y_load_naf (R := pairR) (c := c) (xs := l) (q := 0) (vs := dotC u.1) rfl sln hu rfl) ?_
          refine TF_gy rfl rfl rfl rfl (Y_load_agg rfl rfl) ?_
          refine TF_anchor rfl ?_
          refine TL_grun rfl rfl ?_
          refine TL_call rfl rfl (refLess_spec _ u.1 d) ?_
          rintro _ _ ⟨rfl, rfl⟩
          refine TF_end GivesTo.g ?_
          refine TF_y rfl rfl (Y_pick_t rfl rfl) ?_
          refine TF_nil ?_
          refine T_cond rfl (fun h44 => ?_) (fun h44 => ?_)
          · refine T_skip ?_
            refine thenS_normal ?_
            refine T_block ?_
            refine T_region_last ?_
            refine TL_y rfl rfl (Y_move rfl) ?_
            refine TL_y rfl rfl (Y_add rfl rfl (by omega)) ?_
            refine TL_name 46 (v' := .int .i64 ((k + 1 : Nat) : Int)) rfl (rfl) ?_
            refine TL_y rfl rfl (Y_assign rfl) ?_
            refine TL_nil ?_
            refine inB_normal ?_
            refine thenS_normal ?_
            exact ⟨k + 1, ⟨by omega, by rw [takeAt hu]; intro q hq; rcases List.mem_append.1 hq with h | h; exact hk2 q h; (simp at h; subst h; exact h44)⟩, by omega, holds_to (sub_cons rfl (sub_cons rfl (sub_cons rfl (sub_cons rfl (sub_nil))))) GivesTo.g⟩
          · refine T_exit ?_
            refine thenS_exit ?_
            refine thenS_exit ?_
            refine inB_hit ?_
            refine thenS_normal ?_
            have hpos : posW (fun p : pairD => lessD p.1 d) l = k := posW_eq hk1 hk2 (fun q hq => by rw [hu] at hq; cases hq; simpa using h44)
            generalize (some ⟨bq, oq, none⟩ : Option Addr) = A
            have hput : l.take k ++ (d, x) :: l.drop k = putD l d x := by unfold putD insW; rw [hpos]
            have hpl : (putD l d x).length = l.length + 1 := insW_len _ _ _
            refine T_rd [0, 0, 0, 4, 12, 28, 0, 124, 254, 0, 0, 1536, 3584, 8190, 0, 16384, 49152, 114688, 0, 507904, 1048574, 2097151, 4194303, 8388607] (by kernel_rfl) (by decide +kernel) ?_
            refine RD_pair 1 12 (by decide) ?_ ?_
            · refine RD_pair 8 12 (by decide) ?_ ?_
              · refine RD_leaf (cells b [.slice A l.length c] 50 :: osl pairR 33 A c l :: cells b4 (dotC d) 31 :: []) [0, 0, 0, 4, 12, 28, 0, 124, 254, 0, 0, 1536, 4094, 8190, 0, 16384, 49152, 114688, 0, 507904, 1048574, 2097151, 4194303, 8388607] [23] [(0, true), (2, true), (3, true), (4, true), (5, true), (6, true), (7, true), (9, true), (10, true), (11, true), (14, true), (15, true), (16, true), (17, true), (18, true), (19, true), (1, false), (8, false), (12, false), (13, false), (20, false), (21, true), (22, true), (23, false)] (by decide +kernel) GivesTo.g ?_
                refine TF_y rfl rfl (Y_move rfl) ?_
                refine TF_y rfl rfl (Y_move rfl) ?_
                refine TF_y rfl rfl (Y_nil_check rfl) ?_
                refine TF_y rfl rfl (Y_field_addr rfl) ?_
                refine TF_y rfl rfl (Y_load rfl rfl) ?_
                refine TF_y rfl rfl (Y_move rfl) ?_
                refine TF_y rfl rfl (Y_cut_h rfl rfl (by omega)) ?_
                refine TF_name 54 (v' := .slice A (l.take k).length c) rfl (by congr 1; rw [List.length_take]; omega) ?_
                refine TF_y rfl rfl (Y_load_agg rfl rfl) ?_
                refine TF_y rfl rfl (Y_move rfl) ?_
                refine TF_y rfl rfl (Y_build rfl rfl) ?_
                refine TF_name 58 (v' := .agg (List.toArray (pairC (d, x)))) rfl (rfl) ?_
                refine TF_y rfl rfl (Y_move rfl) ?_
                refine TF_y rfl rfl (Y_nil_check rfl) ?_
                refine TF_y rfl rfl (Y_field_addr rfl) ?_
                refine TF_y rfl rfl (Y_load rfl rfl) ?_
                refine TF_y rfl rfl (Y_move rfl) ?_
                refine TF_y rfl rfl (Y_cut_l rfl rfl (by omega)) ?_
                refine TF_name 66 (v' := .slice (cutA A k c pairR.sz) (l.drop k).length (c - k)) rfl (by rw [List.length_drop]; rfl) ?_
                refine TF_anchor rfl ?_
                refine TL_build_slice rfl rfl rfl rfl rfl rfl ?_
                intro b48
                refine TL_osl (k := 0) pairR [] (Knows.const fun M => rfl) rfl (by simp) ?_
                refine TL_name 48 (v' := .slice (some ⟨b48, 0, none⟩) ([] : List pairD).length 0) rfl rfl ?_
                refine TF_end GivesTo.g ?_
                refine TF_anchor rfl ?_
                refine TL_append_n (R := pairR) rfl rfl rfl rfl rfl ((sln (A := A) (c := c) (xs := l)).take k) (by simp only [List.length_nil, List.length_take]; omega) ?_
                intro A55 c55
                simp only [List.nil_append]
                refine TF_end GivesTo.g ?_
                refine TF_anchor rfl ?_
                refine TL_build_slice rfl rfl rfl rfl rfl rfl ?_
                intro b59
                refine TL_osl (k := 1) pairR [(d, x)] (Knows.const fun M => ⟨pairC (d, x), [], pair_rep ⟨hdk, hx⟩ M, rfl, rfl⟩) rfl (by decide) ?_
                refine TL_freeze_osl ?_
                refine TL_name 59 (v' := .slice (some ⟨b59, 0, none⟩) [((d, x) : pairD)].length 1) rfl rfl ?_
                refine TF_end GivesTo.g ?_
                refine TF_anchor rfl ?_
                refine TL_append rfl rfl rfl rfl rfl slk (by simp only [List.length_cons, List.length_nil, List.length_take]; omega) ?_
                intro A60 c60
                refine TF_end GivesTo.g ?_
                refine TF_anchor rfl ?_
                refine TL_append_n (R := pairR) rfl rfl rfl rfl rfl ((sln (A := A) (c := c) (xs := l)).dropc hk1 hlc.1) (by simp only [List.length_append, List.length_cons, List.length_nil, List.length_take, List.length_drop]; omega) ?_
                intro A67 c67
                rw [show l.take k ++ [(d, x)] ++ l.drop k = putD l d x by rw [← hput]; simp]
                refine TF_end GivesTo.g ?_
                refine TF_y rfl rfl (Y_nil_check rfl) ?_
                refine TF_y rfl rfl (Y_field_addr rfl) ?_
                refine TF_anchor rfl ?_
                refine TL_store rfl rfl rfl rfl rfl rfl ?_
                refine TF_end_tail rfl ?_
                refine TF_nil ?_
                refine thenS_normal ?_
                refine T_region ?_
                refine TL_y rfl rfl (Y_assign rfl) ?_
                refine TL_nil ?_
                refine T_ret ?_
                rw [hs1]
                refine RetQ.gives (rd_close (A := A67) (c := c67) b (putD l d x)) ?_
                exact RetG_1 (.inl rfl) rfl (ResV.tmp rfl) GivesTo.g (⟨A67, c67, rfl, rfl⟩)
              · refine RD_leaf (cells b [.slice A l.length c] 50 :: osl pairR 33 A c l :: cells b4 (dotC d) 31 :: []) [0, 0, 0, 4, 12, 28, 0, 124, 7934, 0, 0, 1536, 3586, 8190, 0, 16384, 49152, 114688, 0, 507904, 1048574, 2097151, 4194303, 8388607] [23] [(0, true), (2, true), (3, true), (4, true), (5, true), (6, true), (7, true), (9, true), (10, true), (11, true), (14, true), (15, true), (16, true), (17, true), (18, true), (19, true), (1, false), (12, false), (8, false), (13, false), (20, false), (21, true), (22, true), (23, false)] (by decide +kernel) GivesTo.g ?_
                refine TF_y rfl rfl (Y_move rfl) ?_
                refine TF_y rfl rfl (Y_move rfl) ?_
                refine TF_y rfl rfl (Y_nil_check rfl) ?_
                refine TF_y rfl rfl (Y_field_addr rfl) ?_
                refine TF_y rfl rfl (Y_load rfl rfl) ?_
                refine TF_y rfl rfl (Y_move rfl) ?_
                refine TF_y rfl rfl (Y_cut_h rfl rfl (by omega)) ?_
                refine TF_name 54 (v' := .slice A (l.take k).length c) rfl (by congr 1; rw [List.length_take]; omega) ?_
                refine TF_y rfl rfl (Y_load_agg rfl rfl) ?_
                refine TF_y rfl rfl (Y_move rfl) ?_
                refine TF_y rfl rfl (Y_build rfl rfl) ?_
                refine TF_name 58 (v' := .agg (List.toArray (pairC (d, x)))) rfl (rfl) ?_
                refine TF_y rfl rfl (Y_move rfl) ?_
                refine TF_y rfl rfl (Y_nil_check rfl) ?_
                refine TF_y rfl rfl (Y_field_addr rfl) ?_
                refine TF_y rfl rfl (Y_load rfl rfl) ?_
                refine TF_y rfl rfl (Y_move rfl) ?_
                refine TF_y rfl rfl (Y_cut_l rfl rfl (by omega)) ?_
                refine TF_name 66 (v' := .slice (cutA A k c pairR.sz) (l.drop k).length (c - k)) rfl (by rw [List.length_drop]; rfl) ?_
                refine TF_anchor rfl ?_
                refine TL_build_slice rfl rfl rfl rfl rfl rfl ?_
                intro b48
                refine TL_osl (k := 0) pairR [] (Knows.const fun M => rfl) rfl (by simp) ?_
                refine TL_name 48 (v' := .slice (some ⟨b48, 0, none⟩) ([] : List pairD).length 0) rfl rfl ?_
                refine TF_end GivesTo.g ?_
                refine TF_anchor rfl ?_
                refine TL_build_slice rfl rfl rfl rfl rfl rfl ?_
                intro b59
                refine TL_osl (k := 1) pairR [(d, x)] (Knows.const fun M => ⟨pairC (d, x), [], pair_rep ⟨hdk, hx⟩ M, rfl, rfl⟩) rfl (by decide) ?_
                refine TL_freeze_osl ?_
                refine TL_name 59 (v' := .slice (some ⟨b59, 0, none⟩) [((d, x) : pairD)].length 1) rfl rfl ?_
                refine TF_end GivesTo.g ?_
                refine TF_anchor rfl ?_
                refine TL_append_n (R := pairR) rfl rfl rfl rfl rfl ((sln (A := A) (c := c) (xs := l)).take k) (by simp only [List.length_nil, List.length_take]; omega) ?_
                intro A55 c55
                simp only [List.nil_append]
                refine TF_end GivesTo.g ?_
                refine TF_anchor rfl ?_
                refine TL_append rfl rfl rfl rfl rfl slk (by simp only [List.length_cons, List.length_nil, List.length_take]; omega) ?_
                intro A60 c60
                refine TF_end GivesTo.g ?_
                refine TF_anchor rfl ?_
                refine TL_append_n (R := pairR) rfl rfl rfl rfl rfl ((sln (A := A) (c := c) (xs := l)).dropc hk1 hlc.1) (by simp only [List.length_append, List.length_cons, List.length_nil, List.length_take, List.length_drop]; omega) ?_
                intro A67 c67
                rw [show l.take k ++ [(d, x)] ++ l.drop k = putD l d x by rw [← hput]; simp]
                refine TF_end GivesTo.g ?_
                refine TF_y rfl rfl (Y_nil_check rfl) ?_
                refine TF_y rfl rfl (Y_field_addr rfl) ?_
                refine TF_anchor rfl ?_
                refine TL_store rfl rfl rfl rfl rfl rfl ?_
                refine TF_end_tail rfl ?_
                refine TF_nil ?_
                refine thenS_normal ?_
                refine T_region ?_
                refine TL_y rfl rfl (Y_assign rfl) ?_
                refine TL_nil ?_
                refine T_ret ?_
                rw [hs1]
                refine RetQ.gives (rd_close (A := A67) (c := c67) b (putD l d x)) ?_
                exact RetG_1 (.inl rfl) rfl (ResV.tmp rfl) GivesTo.g (⟨A67, c67, rfl, rfl⟩)
            · refine RD_leaf (cells b [.slice A l.length c] 50 :: osl pairR 33 A c l :: cells b4 (dotC d) 31 :: []) [0, 7680, 0, 4, 12, 28, 0, 124, 7934, 0, 0, 1536, 3584, 8190, 0, 16384, 49152, 114688, 0, 507904, 1048574, 2097151, 4194303, 8388607] [23] [(0, true), (2, true), (3, true), (4, true), (5, true), (6, true), (7, true), (9, true), (10, true), (11, true), (14, true), (15, true), (16, true), (17, true), (18, true), (19, true), (12, false), (1, false), (8, false), (13, false), (20, false), (21, true), (22, true), (23, false)] (by decide +kernel) GivesTo.g ?_
              refine TF_y rfl rfl (Y_move rfl) ?_
              refine TF_y rfl rfl (Y_move rfl) ?_
              refine TF_y rfl rfl (Y_nil_check rfl) ?_
              refine TF_y rfl rfl (Y_field_addr rfl) ?_
              refine TF_y rfl rfl (Y_load rfl rfl) ?_
              refine TF_y rfl rfl (Y_move rfl) ?_
              refine TF_y rfl rfl (Y_cut_h rfl rfl (by omega)) ?_
              refine TF_name 54 (v' := .slice A (l.take k).length c) rfl (by congr 1; rw [List.length_take]; omega) ?_
              refine TF_y rfl rfl (Y_load_agg rfl rfl) ?_
              refine TF_y rfl rfl (Y_move rfl) ?_
              refine TF_y rfl rfl (Y_build rfl rfl) ?_
              refine TF_name 58 (v' := .agg (List.toArray (pairC (d, x)))) rfl (rfl) ?_
              refine TF_y rfl rfl (Y_move rfl) ?_
              refine TF_y rfl rfl (Y_nil_check rfl) ?_
              refine TF_y rfl rfl (Y_field_addr rfl) ?_
              refine TF_y rfl rfl (Y_load rfl rfl) ?_
              refine TF_y rfl rfl (Y_move rfl) ?_
              refine TF_y rfl rfl (Y_cut_l rfl rfl (by omega)) ?_
              refine TF_name 66 (v' := .slice (cutA A k c pairR.sz) (l.drop k).length (c - k)) rfl (by rw [List.length_drop]; rfl) ?_
              refine TF_anchor rfl ?_
              refine TL_build_slice rfl rfl rfl rfl rfl rfl ?_
              intro b59
              refine TL_osl (k := 1) pairR [(d, x)] (Knows.const fun M => ⟨pairC (d, x), [], pair_rep ⟨hdk, hx⟩ M, rfl, rfl⟩) rfl (by decide) ?_
              refine TL_freeze_osl ?_
              refine TL_name 59 (v' := .slice (some ⟨b59, 0, none⟩) [((d, x) : pairD)].length 1) rfl rfl ?_
              refine TF_end GivesTo.g ?_
              refine TF_anchor rfl ?_
              refine TL_build_slice rfl rfl rfl rfl rfl rfl ?_
              intro b48
              refine TL_osl (k := 0) pairR [] (Knows.const fun M => rfl) rfl (by simp) ?_
              refine TL_name 48 (v' := .slice (some ⟨b48, 0, none⟩) ([] : List pairD).length 0) rfl rfl ?_
              refine TF_end GivesTo.g ?_
              refine TF_anchor rfl ?_
              refine TL_append_n (R := pairR) rfl rfl rfl rfl rfl ((sln (A := A) (c := c) (xs := l)).take k) (by simp only [List.length_nil, List.length_take]; omega) ?_
              intro A55 c55
              simp only [List.nil_append]
              refine TF_end GivesTo.g ?_
              refine TF_anchor rfl ?_
              refine TL_append rfl rfl rfl rfl rfl slk (by simp only [List.length_cons, List.length_nil, List.length_take]; omega) ?_
              intro A60 c60
              refine TF_end GivesTo.g ?_
              refine TF_anchor rfl ?_
              refine TL_append_n (R := pairR) rfl rfl rfl rfl rfl ((sln (A := A) (c := c) (xs := l)).dropc hk1 hlc.1) (by simp only [List.length_append, List.length_cons, List.length_nil, List.length_take, List.length_drop]; omega) ?_
              intro A67 c67
              rw [show l.take k ++ [(d, x)] ++ l.drop k = putD l d x by rw [← hput]; simp]
              refine TF_end GivesTo.g ?_
              refine TF_y rfl rfl (Y_nil_check rfl) ?_
              refine TF_y rfl rfl (Y_field_addr rfl) ?_
              refine TF_anchor rfl ?_
              refine TL_store rfl rfl rfl rfl rfl rfl ?_
              refine TF_end_tail rfl ?_
              refine TF_nil ?_
              refine thenS_normal ?_
              refine T_region ?_
              refine TL_y rfl rfl (Y_assign rfl) ?_
              refine TL_nil ?_
              refine T_ret ?_
              rw [hs1]
              refine RetQ.gives (rd_close (A := A67) (c := c67) b (putD l d x)) ?_
              exact RetG_1 (.inl rfl) rfl (ResV.tmp rfl) GivesTo.g (⟨A67, c67, rfl, rfl⟩)
        · refine T_region_draw _ [0, 0, 2, 6, 14, 30, 63, 127, 255, 511, 1023, 2047, 255, 8191, 16383, 32767, 255, 131071, 262143] [] [(0, true), (1, true), (2, true), (3, true), (4, true), (5, true), (6, true), (7, true), (8, true), (9, true), (10, true), (11, true), (12, true), (13, true), (14, true), (15, true), (16, true), (17, false), (18, true)] (by kernel_rfl) (by decide +kernel) (Gives.refl _) ?_
          refine TF_y rfl rfl (Y_move rfl) ?_
          refine TF_y rfl rfl (Y_move rfl) ?_
          refine TF_y rfl rfl (Y_nil_check rfl) ?_
          refine TF_y rfl rfl (Y_field_addr rfl) ?_
          refine TF_y rfl rfl (Y_load rfl rfl) ?_
          refine TF_y rfl rfl (Y_len rfl) ?_
          refine TF_y rfl rfl (Y_lt rfl rfl) ?_
          refine TF_name 32 (v' := .bool false) rfl (congrArg Value.bool (decide_eq_false (by omega))) ?_
          refine TF_y rfl rfl (Y_move rfl) ?_
          refine TF_gskip rfl rfl rfl rfl rfl ?_
          refine TF_gskip rfl rfl rfl rfl rfl ?_
          refine TF_gskip rfl rfl rfl rfl rfl ?_
          refine TF_gskip rfl rfl rfl rfl rfl ?_
          refine TF_gskip rfl rfl rfl rfl rfl ?_
          refine TF_gskip rfl rfl rfl rfl rfl ?_
          refine TF_gskip rfl rfl rfl rfl rfl ?_
          refine TF_gskip rfl rfl rfl rfl rfl ?_
          refine TF_gskip rfl rfl rfl rfl rfl ?_
          refine TF_anchor rfl ?_
          refine TL_gskip rfl rfl rfl rfl ?_
          refine TF_end GivesTo.g ?_
          refine TF_y rfl rfl (Y_pick_f rfl rfl) ?_
          refine TF_nil ?_
          refine T_cond_false rfl ?_
          refine T_exit ?_
          refine thenS_exit ?_
          refine thenS_exit ?_
          refine inB_hit ?_
          refine thenS_normal ?_
          have hpos : posW (fun p : pairD => lessD p.1 d) l = k := posW_eq hk1 hk2 (fun q hq => by have := (List.getElem?_eq_some_iff.1 hq).1; omega)
          have hput : l.take k ++ (d, x) :: l.drop k = putD l d x := by unfold putD insW; rw [hpos]
          have hpl : (putD l d x).length = l.length + 1 := insW_len _ _ _
          refine T_rd [0, 0, 0, 4, 12, 28, 0, 124, 254, 0, 0, 1536, 3584, 8190, 0, 16384, 49152, 114688, 0, 507904, 1048574, 2097151, 4194303, 8388607] (by kernel_rfl) (by decide +kernel) ?_
          refine RD_pair 1 12 (by decide) ?_ ?_
          · refine RD_pair 8 12 (by decide) ?_ ?_
            · refine RD_leaf (cells b [.slice A l.length c] 50 :: osl pairR 33 A c l :: cells b4 (dotC d) 31 :: []) [0, 0, 0, 4, 12, 28, 0, 124, 254, 0, 0, 1536, 4094, 8190, 0, 16384, 49152, 114688, 0, 507904, 1048574, 2097151, 4194303, 8388607] [23] [(0, true), (2, true), (3, true), (4, true), (5, true), (6, true), (7, true), (9, true), (10, true), (11, true), (14, true), (15, true), (16, true), (17, true), (18, true), (19, true), (1, false), (8, false), (12, false), (13, false), (20, false), (21, true), (22, true), (23, false)] (by decide +kernel) GivesTo.g ?_
              refine TF_y rfl rfl (Y_move rfl) ?_
              refine TF_y rfl rfl (Y_move rfl) ?_
              refine TF_y rfl rfl (Y_nil_check rfl) ?_
              refine TF_y rfl rfl (Y_field_addr rfl) ?_
              refine TF_y rfl rfl (Y_load rfl rfl) ?_
              refine TF_y rfl rfl (Y_move rfl) ?_
              refine TF_y rfl rfl (Y_cut_h rfl rfl (by omega)) ?_
              refine TF_name 54 (v' := .slice A (l.take k).length c) rfl (by congr 1; rw [List.length_take]; omega) ?_
              refine TF_y rfl rfl (Y_load_agg rfl rfl) ?_
              refine TF_y rfl rfl (Y_move rfl) ?_
              refine TF_y rfl rfl (Y_build rfl rfl) ?_
              refine TF_name 58 (v' := .agg (List.toArray (pairC (d, x)))) rfl (rfl) ?_
              refine TF_y rfl rfl (Y_move rfl) ?_
              refine TF_y rfl rfl (Y_nil_check rfl) ?_
              refine TF_y rfl rfl (Y_field_addr rfl) ?_
              refine TF_y rfl rfl (Y_load rfl rfl) ?_
              refine TF_y rfl rfl (Y_move rfl) ?_
              refine TF_y rfl rfl (Y_cut_l rfl rfl (by omega)) ?_
              refine TF_name 66 (v' := .slice (cutA A k c pairR.sz) (l.drop k).length (c - k)) rfl (by rw [List.length_drop]; rfl) ?_
              refine TF_anchor rfl ?_
              refine TL_build_slice rfl rfl rfl rfl rfl rfl ?_
              intro b48
              refine TL_osl (k := 0) pairR [] (Knows.const fun M => rfl) rfl (by simp) ?_
              refine TL_name 48 (v' := .slice (some ⟨b48, 0, none⟩) ([] : List pairD).length 0) rfl rfl ?_
              refine TF_end GivesTo.g ?_
              refine TF_anchor rfl ?_
              refine TL_append_n (R := pairR) rfl rfl rfl rfl rfl ((sln (A := A) (c := c) (xs := l)).take k) (by simp only [List.length_nil, List.length_take]; omega) ?_
              intro A55 c55
              simp only [List.nil_append]
              refine TF_end GivesTo.g ?_
              refine TF_anchor rfl ?_
              refine TL_build_slice rfl rfl rfl rfl rfl rfl ?_
              intro b59
              refine TL_osl (k := 1) pairR [(d, x)] (Knows.const fun M => ⟨pairC (d, x), [], pair_rep ⟨hdk, hx⟩ M, rfl, rfl⟩) rfl (by decide) ?_
              refine TL_freeze_osl ?_
              refine TL_name 59 (v' := .slice (some ⟨b59, 0, none⟩) [((d, x) : pairD)].length 1) rfl rfl ?_
              refine TF_end GivesTo.g ?_
              refine TF_anchor rfl ?_
              refine TL_append rfl rfl rfl rfl rfl slk (by simp only [List.length_cons, List.length_nil, List.length_take]; omega) ?_
              intro A60 c60
              refine TF_end GivesTo.g ?_
              refine TF_anchor rfl ?_
              refine TL_append_n (R := pairR) rfl rfl rfl rfl rfl ((sln (A := A) (c := c) (xs := l)).dropc hk1 hlc.1) (by simp only [List.length_append, List.length_cons, List.length_nil, List.length_take, List.length_drop]; omega) ?_
              intro A67 c67
              rw [show l.take k ++ [(d, x)] ++ l.drop k = putD l d x by rw [← hput]; simp]
              refine TF_end GivesTo.g ?_
              refine TF_y rfl rfl (Y_nil_check rfl) ?_
              refine TF_y rfl rfl (Y_field_addr rfl) ?_
              refine TF_anchor rfl ?_
              refine TL_store rfl rfl rfl rfl rfl rfl ?_
              refine TF_end_tail rfl ?_
              refine TF_nil ?_
              refine thenS_normal ?_
              refine T_region ?_
              refine TL_y rfl rfl (Y_assign rfl) ?_
              refine TL_nil ?_
              refine T_ret ?_
              rw [hs1]
              refine RetQ.gives (rd_close (A := A67) (c := c67) b (putD l d x)) ?_
              exact RetG_1 (.inl rfl) rfl (ResV.tmp rfl) GivesTo.g (⟨A67, c67, rfl, rfl⟩)
            · refine RD_leaf (cells b [.slice A l.length c] 50 :: osl pairR 33 A c l :: cells b4 (dotC d) 31 :: []) [0, 0, 0, 4, 12, 28, 0, 124, 7934, 0, 0, 1536, 3586, 8190, 0, 16384, 49152, 114688, 0, 507904, 1048574, 2097151, 4194303, 8388607] [23] [(0, true), (2, true), (3, true), (4, true), (5, true), (6, true), (7, true), (9, true), (10, true), (11, true), (14, true), (15, true), (16, true), (17, true), (18, true), (19, true), (1, false), (12, false), (8, false), (13, false), (20, false), (21, true), (22, true), (23, false)] (by decide +kernel) GivesTo.g ?_
              refine TF_y rfl rfl (Y_move rfl) ?_
              refine TF_y rfl rfl (Y_move rfl) ?_
              refine TF_y rfl rfl (Y_nil_check rfl) ?_
              refine TF_y rfl rfl (Y_field_addr rfl) ?_
              refine TF_y rfl rfl (Y_load rfl rfl) ?_
              refine TF_y rfl rfl (Y_move rfl) ?_
              refine TF_y rfl rfl (Y_cut_h rfl rfl (by omega)) ?_
              refine TF_name 54 (v' := .slice A (l.take k).length c) rfl (by congr 1; rw [List.length_take]; omega) ?_
              refine TF_y rfl rfl (Y_load_agg rfl rfl) ?_
              refine TF_y rfl rfl (Y_move rfl) ?_
              refine TF_y rfl rfl (Y_build rfl rfl) ?_
              refine TF_name 58 (v' := .agg (List.toArray (pairC (d, x)))) rfl (rfl) ?_
              refine TF_y rfl rfl (Y_move rfl) ?_
              refine TF_y rfl rfl (Y_nil_check rfl) ?_
              refine TF_y rfl rfl (Y_field_addr rfl) ?_
              refine TF_y rfl rfl (Y_load rfl rfl) ?_
              refine TF_y rfl rfl (Y_move rfl) ?_
              refine TF_y rfl rfl (Y_cut_l rfl rfl (by omega)) ?_
              refine TF_name 66 (v' := .slice (cutA A k c pairR.sz) (l.drop k).length (c - k)) rfl (by rw [List.length_drop]; rfl) ?_
              refine TF_anchor rfl ?_
              refine TL_build_slice rfl rfl rfl rfl rfl rfl ?_
              intro b48
              refine TL_osl (k := 0) pairR [] (Knows.const fun M => rfl) rfl (by simp) ?_
              refine TL_name 48 (v' := .slice (some ⟨b48, 0, none⟩) ([] : List pairD).length 0) rfl rfl ?_
              refine TF_end GivesTo.g ?_
              refine TF_anchor rfl ?_
              refine TL_build_slice rfl rfl rfl rfl rfl rfl ?_
              intro b59
              refine TL_osl (k := 1) pairR [(d, x)] (Knows.const fun M => ⟨pairC (d, x), [], pair_rep ⟨hdk, hx⟩ M, rfl, rfl⟩) rfl (by decide) ?_
              refine TL_freeze_osl ?_
              refine TL_name 59 (v' := .slice (some ⟨b59, 0, none⟩) [((d, x) : pairD)].length 1) rfl rfl ?_
              refine TF_end GivesTo.g ?_
              refine TF_anchor rfl ?_
              refine TL_append_n (R := pairR) rfl rfl rfl rfl rfl ((sln (A := A) (c := c) (xs := l)).take k) (by simp only [List.length_nil, List.length_take]; omega) ?_
              intro A55 c55
              simp only [List.nil_append]
              refine TF_end GivesTo.g ?_
              refine TF_anchor rfl ?_
              refine TL_append rfl rfl rfl rfl rfl slk (by simp only [List.length_cons, List.length_nil, List.length_take]; omega) ?_
              intro A60 c60
              refine TF_end GivesTo.g ?_
              refine TF_anchor rfl ?_
              refine TL_append_n (R := pairR) rfl rfl rfl rfl rfl ((sln (A := A) (c := c) (xs := l)).dropc hk1 hlc.1) (by simp only [List.length_append, List.length_cons, List.length_nil, List.length_take, List.length_drop]; omega) ?_
              intro A67 c67
              rw [show l.take k ++ [(d, x)] ++ l.drop k = putD l d x by rw [← hput]; simp]
              refine TF_end GivesTo.g ?_
              refine TF_y rfl rfl (Y_nil_check rfl) ?_
              refine TF_y rfl rfl (Y_field_addr rfl) ?_
              refine TF_anchor rfl ?_
              refine TL_store rfl rfl rfl rfl rfl rfl ?_
              refine TF_end_tail rfl ?_
              refine TF_nil ?_
              refine thenS_normal ?_
              refine T_region ?_
              refine TL_y rfl rfl (Y_assign rfl) ?_
              refine TL_nil ?_
              refine T_ret ?_
              rw [hs1]
              refine RetQ.gives (rd_close (A := A67) (c := c67) b (putD l d x)) ?_
              exact RetG_1 (.inl rfl) rfl (ResV.tmp rfl) GivesTo.g (⟨A67, c67, rfl, rfl⟩)
          · refine RD_leaf (cells b [.slice A l.length c] 50 :: osl pairR 33 A c l :: cells b4 (dotC d) 31 :: []) [0, 7680, 0, 4, 12, 28, 0, 124, 7934, 0, 0, 1536, 3584, 8190, 0, 16384, 49152, 114688, 0, 507904, 1048574, 2097151, 4194303, 8388607] [23] [(0, true), (2, true), (3, true), (4, true), (5, true), (6, true), (7, true), (9, true), (10, true), (11, true), (14, true), (15, true), (16, true), (17, true), (18, true), (19, true), (12, false), (1, false), (8, false), (13, false), (20, false), (21, true), (22, true), (23, false)] (by decide +kernel) GivesTo.g ?_
            refine TF_y rfl rfl (Y_move rfl) ?_
            refine TF_y rfl rfl (Y_move rfl) ?_
            refine TF_y rfl rfl (Y_nil_check rfl) ?_
            refine TF_y rfl rfl (Y_field_addr rfl) ?_
            refine TF_y rfl rfl (Y_load rfl rfl) ?_
            refine TF_y rfl rfl (Y_move rfl) ?_
            refine TF_y rfl rfl (Y_cut_h rfl rfl (by omega)) ?_
            refine TF_name 54 (v' := .slice A (l.take k).length c) rfl (by congr 1; rw [List.length_take]; omega) ?_
            refine TF_y rfl rfl (Y_load_agg rfl rfl) ?_
            refine TF_y rfl rfl (Y_move rfl) ?_
            refine TF_y rfl rfl (Y_build rfl rfl) ?_
            refine TF_name 58 (v' := .agg (List.toArray (pairC (d, x)))) rfl (rfl) ?_
            refine TF_y rfl rfl (Y_move rfl) ?_
            refine TF_y rfl rfl (Y_nil_check rfl) ?_
            refine TF_y rfl rfl (Y_field_addr rfl) ?_
            refine TF_y rfl rfl (Y_load rfl rfl) ?_
            refine TF_y rfl rfl (Y_move rfl) ?_
            refine TF_y rfl rfl (Y_cut_l rfl rfl (by omega)) ?_
            refine TF_name 66 (v' := .slice (cutA A k c pairR.sz) (l.drop k).length (c - k)) rfl (by rw [List.length_drop]; rfl) ?_
            refine TF_anchor rfl ?_
            refine TL_build_slice rfl rfl rfl rfl rfl rfl ?_
            intro b59
            refine TL_osl (k := 1) pairR [(d, x)] (Knows.const fun M => ⟨pairC (d, x), [], pair_rep ⟨hdk, hx⟩ M, rfl, rfl⟩) rfl (by decide) ?_
            refine TL_freeze_osl ?_
            refine TL_name 59 (v' := .slice (some ⟨b59, 0, none⟩) [((d, x) : pairD)].length 1) rfl rfl ?_
            refine TF_end GivesTo.g ?_
            refine TF_anchor rfl ?_
            refine TL_build_slice rfl rfl rfl rfl rfl rfl ?_
            intro b48
            refine TL_osl (k := 0) pairR [] (Knows.const fun M => rfl) rfl (by simp) ?_
            refine TL_name 48 (v' := .slice (some ⟨b48, 0, none⟩) ([] : List pairD).length 0) rfl rfl ?_
            refine TF_end GivesTo.g ?_
            refine TF_anchor rfl ?_
            refine TL_append_n (R := pairR) rfl rfl rfl rfl rfl ((sln (A := A) (c := c) (xs := l)).take k) (by simp only [List.length_nil, List.length_take]; omega) ?_
            intro A55 c55
            simp only [List.nil_append]
            refine TF_end GivesTo.g ?_
            refine TF_anchor rfl ?_
            refine TL_append rfl rfl rfl rfl rfl slk (by simp only [List.length_cons, List.length_nil, List.length_take]; omega) ?_
            intro A60 c60
            refine TF_end GivesTo.g ?_
            refine TF_anchor rfl ?_
            refine TL_append_n (R := pairR) rfl rfl rfl rfl rfl ((sln (A := A) (c := c) (xs := l)).dropc hk1 hlc.1) (by simp only [List.length_append, List.length_cons, List.length_nil, List.length_take, List.length_drop]; omega) ?_
            intro A67 c67
            rw [show l.take k ++ [(d, x)] ++ l.drop k = putD l d x by rw [← hput]; simp]
            refine TF_end GivesTo.g ?_
            refine TF_y rfl rfl (Y_nil_check rfl) ?_
            refine TF_y rfl rfl (Y_field_addr rfl) ?_
            refine TF_anchor rfl ?_
            refine TL_store rfl rfl rfl rfl rfl rfl ?_
            refine TF_end_tail rfl ?_
            refine TF_nil ?_
            refine thenS_normal ?_
            refine T_region ?_
            refine TL_y rfl rfl (Y_assign rfl) ?_
            refine TL_nil ?_
            refine T_ret ?_
            rw [hs1]
            refine RetQ.gives (rd_close (A := A67) (c := c67) b (putD l d x)) ?_
            exact RetG_1 (.inl rfl) rfl (ResV.tmp rfl) GivesTo.g (⟨A67, c67, rfl, rfl⟩)
theorem refVectorD_spec {L : List HP} {b : Nat} {A : Option Addr} {c : Nat} {l : List pairD} (hi : DI l) : Fn Try.prog 67 #[.pointer (some ⟨b, 0, none⟩)] (rd b A c l :: L) (fun v L' => ∃ X cx, v = .slice X (plainV (vecL l)).length cx ∧ L' = osl (intR .i64) 3 X cx (plainV (vecL l)) :: rd b A c l :: L) := by
  have hlen := hi.len
  refine Fn_enter Try.func67 rfl rfl rfl rfl ?_
  refine T_rset fun hlc => ?_
  simp only [maxEl] at hlc
  refine T_region ?_
  refine TL_y rfl rfl (Y_assign rfl) ?_
  refine TL_nil ?_
  refine T_region ?_
  refine TL_make (intR .i64) 0 (m := 7) (k := 7) rfl rfl rfl (Nat.le_refl _) (by decide) (by decide) rfl rfl rfl (fun _ => ⟨rfl, i64In_mk (by decide)⟩) ?_
  intro b6
  refine TL_name 6 (v' := .slice (some ⟨b6, 0, none⟩) 7 7) rfl (rfl) ?_
  refine TL_y rfl rfl (Y_assign rfl) ?_
  refine TL_nil ?_
  refine T_seq ?_
  refine T_region ?_
  refine TL_y rfl rfl (Y_assign rfl) ?_
  refine TL_nil ?_
  refine T_block ?_
  refine T_loopK (σ := Nat) [0, 3] (fun i => i ≤ l.length) (fun i kv => (4, .int .i64 (i : Int)) :: kv) (fun i => osl (intR .i64) 3 (some ⟨b6, 0, none⟩) 7 (vecL (l.take i)) :: cells b [.slice A l.length c] 50 :: osl pairR 33 A c l :: L) (fun i => l.length - i) (0) rfl (Nat.zero_le _) ((show Gives _ (osl (intR .i64) 3 (some ⟨b6, 0, none⟩) 7 (List.replicate 7 0) :: cells b [.slice A l.length c] 50 :: osl pairR 33 A c l :: L) from GivesTo.g)) (sub_cons rfl (sub_cons rfl (sub_cons rfl (sub_nil)))) ?_
  intro i hil
  refine T_seq ?_
  refine T_region ?_
  refine TL_y rfl rfl (Y_move rfl) ?_
  refine TL_y rfl rfl (Y_move rfl) ?_
  refine TL_y rfl rfl (Y_nil_check rfl) ?_
  refine TL_y rfl rfl (Y_field_addr rfl) ?_
  refine TL_y rfl rfl (Y_load rfl rfl) ?_
  refine TL_y rfl rfl (Y_len rfl) ?_
  refine TL_y rfl rfl (Y_lt rfl rfl) ?_
  refine TL_nil ?_
  refine T_if rfl (fun h13 => ?_) (fun h13 => ?_)
  · refine T_skip ?_
    refine thenS_normal ?_
    refine T_seq ?_
    refine T_block ?_
    obtain ⟨u, hu⟩ : ∃ u, l[i]? = some u := ⟨_, List.getElem?_eq_getElem (by omega)⟩
    have hum := hi.may u (List.mem_of_getElem? hu)
    unfold mayD at hum
    obtain ⟨o, ho⟩ : ∃ o : Nat, u.1.1 = (o : Int) := ⟨u.1.1.toNat, by omega⟩
    have ho7 : o < 7 := by omega
    have hun : (vecL (l.take i))[o]? = some ((vecO (l.take i) (o : Int) : Nat) : Int) := vecL_at ho7
    have hsn : ∀ q : Int, vecO (l.take (i + 1)) q = if u.1.1 = q ∧ u.1.2 = (vecO (l.take i) q : Int) + 1 then vecO (l.take i) q + 1 else vecO (l.take i) q := fun q => by rw [takeAt hu]; exact vecO_snoc (by rw [← takeAt hu]; exact hi.pre) q
    have hvle := (hi.pre (i := i)).vec_le (o : Int)
    have htl : (l.take i).length ≤ l.length := by rw [List.length_take]; omega
    refine T_addr_n (sln (A := A) (c := c) (R := pairR)) hu fun bq oq eq => ?_
    subst eq
    refine T_region ?_
    refine TL_y rfl rfl (Y_move rfl) ?_
    refine TL_y rfl rfl (Y_nil_check rfl) ?_
    refine TL_y rfl rfl (Y_field_addr rfl) ?_
    refine TL_y rfl rfl (Y_load rfl rfl) ?_
    refine TL_y rfl rfl (Y_move rfl) ?_
    refine TL_y rfl rfl (Y_index_n (R := pairR) (xs := l) rfl rfl rfl hu) ?_
    refine TL_y rfl rfl (Y_field_addr2 rfl) ?_
    refine TL_y rfl rfl (Y_load_naf (R := pairR) (c := c) (xs := l) (q := 0) (vs := dotC u.1) rfl sln hu rfl) ?_
    refine TL_alloc rfl rfl ?_
    intro b5
    refine TL_store rfl rfl rfl rfl rfl rfl ?_
    refine TL_nil ?_
    refine T_region_draw _ [0, 1, 0, 0, 8, 28, 60, 124, 255] [] [(0, true), (1, true), (2, true), (3, true), (4, true), (5, true), (6, true), (7, true), (8, true)] (by kernel_rfl) (by decide +kernel) (Gives.refl _) ?_
    refine TF_y rfl rfl (Y_field_addr rfl) ?_
    refine TF_y rfl rfl (Y_load rfl rfl) ?_
    refine TF_y rfl rfl (Y_move rfl) ?_
    refine TF_y rfl rfl (Y_field_addr rfl) ?_
    refine TF_y rfl rfl (Y_load rfl rfl) ?_
    refine TF_name 28 (v' := .int .i64 (o : Int)) rfl (by rw [ho]) ?_
    refine TF_y rfl rfl (Y_index_x (R := intR .i64) (xs := vecL (l.take i)) rfl rfl vecL_len.symm hun) ?_
    refine TF_y rfl rfl (Y_load_n0 (R := intR .i64) (c := 7) (xs := vecL (l.take i)) (q := 0) rfl sln hun rfl) ?_
    refine TF_y rfl rfl (Y_add rfl rfl (by omega)) ?_
    refine TF_y rfl rfl (Y_eq rfl rfl) ?_
    refine TF_nil ?_
    refine T_if rfl (fun h32 => ?_) (fun h32 => ?_)
    · have hv1 : vecO (l.take (i + 1)) (o : Int) = vecO (l.take i) (o : Int) + 1 := by rw [hsn, if_pos ⟨ho, h32⟩]
      have hvo : ∀ o' : Nat, o' ≠ o → vecO (l.take (i + 1)) (o' : Int) = vecO (l.take i) (o' : Int) := fun o' h => by rw [hsn, if_neg (by omega)]
      refine T_region_last ?_
      refine TL_y rfl rfl (Y_move rfl) ?_
      refine TL_y rfl rfl (Y_field_addr rfl) ?_
      refine TL_y rfl rfl (Y_load rfl rfl) ?_
      refine TL_name 35 (v' := .int .i64 (o : Int)) rfl (by rw [ho]) ?_
      refine TL_y rfl rfl (Y_index_x (R := intR .i64) (xs := vecL (l.take i)) rfl rfl vecL_len.symm hun) ?_
      refine TL_y rfl rfl (Y_load_n0 (R := intR .i64) (c := 7) (xs := vecL (l.take i)) (q := 0) rfl sln hun rfl) ?_
      refine TL_y rfl rfl (Y_add rfl rfl (by omega)) ?_
      refine TL_name 38 (v' := .int .i64 ((vecO (l.take (i + 1)) (o : Int) : Nat) : Int)) rfl (by rw [hv1]; rfl) ?_
      refine TL_y rfl rfl (Y_index_x (R := intR .i64) (xs := vecL (l.take i)) rfl rfl vecL_len.symm hun) ?_
      refine TL_focus (A := some ⟨b6, 0, none⟩) (c := 7) hun fun g2 l2 hA2 hl2 => ?_
      obtain ⟨rfl⟩ : g2 = b6 := by cases hA2; rfl
      obtain ⟨lv, rfl⟩ := len_one hl2
      refine TL_store_x rfl rfl rfl rfl rfl rfl ?_
      refine TL_unx (R := intR .i64) b6 ((vecO (l.take (i + 1)) (o : Int) : Nat) : Int) (Knows.const fun _ => ⟨rfl, i64In_mk (by omega)⟩) ?_
      rw [vecSTR_set ho7 hvo]
      refine TL_nil ?_
      refine inB_normal ?_
      refine thenS_normal ?_
      refine T_region_last ?_
      refine TL_y rfl rfl (Y_move rfl) ?_
      refine TL_y rfl rfl (Y_add rfl rfl (by omega)) ?_
      refine TL_name 15 (v' := .int .i64 ((i + 1 : Nat) : Int)) rfl (rfl) ?_
      refine TL_y rfl rfl (Y_assign rfl) ?_
      refine TL_nil ?_
      refine thenS_normal ?_
      exact ⟨i + 1, (by omega), by omega, holds_to (sub_cons rfl (sub_cons rfl (sub_cons rfl (sub_nil)))) GivesTo.g⟩
    · have hve : vecL (l.take (i + 1)) = vecL (l.take i) := by unfold vecL; refine List.map_congr_left fun q _ => ?_; rw [hsn, if_neg (fun e => h32 (by have e3 : (q : Int) = (o : Int) := e.1.symm.trans ho; rw [← e3]; exact e.2))]
      rw [← hve]
      refine T_skip ?_
      refine inB_normal ?_
      refine thenS_normal ?_
      refine T_region_last ?_
      refine TL_y rfl rfl (Y_move rfl) ?_
      refine TL_y rfl rfl (Y_add rfl rfl (by omega)) ?_
      refine TL_name 15 (v' := .int .i64 ((i + 1 : Nat) : Int)) rfl (rfl) ?_
      refine TL_y rfl rfl (Y_assign rfl) ?_
      refine TL_nil ?_
      refine thenS_normal ?_
      exact ⟨i + 1, (by omega), by omega, holds_to (sub_cons rfl (sub_cons rfl (sub_cons rfl (sub_nil)))) GivesTo.g⟩
  · refine T_exit ?_
    refine thenS_exit ?_
    refine thenS_exit ?_
    refine inB_hit ?_
    refine thenS_normal ?_
    rw [List.take_of_length_le (show l.length ≤ i by omega)]
    refine T_region ?_
    refine TL_y rfl rfl (Y_move rfl) ?_
    refine TL_name 40 (v' := .slice (some ⟨b6, 0, none⟩) (vecL l).length 7) rfl (by rw [vecL_len]) ?_
    refine TL_call rfl rfl (refPlain_spec (sln (A := some ⟨b6, 0, none⟩) (c := 7) (xs := vecL l)) (by rw [vecL_len]; decide)) ?_
    rintro _ _ ⟨A41, c41, rfl, rfl⟩
    refine TL_y rfl rfl (Y_assign rfl) ?_
    refine TL_nil ?_
    refine T_ret ?_
    refine RetQ.gives (rd_close (A := A) (c := c) b l) ?_
    refine RetQ.gives (show Gives _ (osl (intR .i64) 3 A41 c41 (plainV (vecL l)) :: rd b A c l :: L) from GivesTo.g) ?_
    exact RetG_1 (.inl rfl) rfl (ResV.tmp rfl) GivesTo.g (⟨A41, c41, rfl, rfl⟩)
end Go.SL
