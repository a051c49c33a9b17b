/- Seal: the document's machine; whatever entries are carried out. -/
import Derived.Test.YtcpknfcckekhdaaSealH
import Derived.Test.YtcpknfcckekhdaaRefR
import Derived.Test.YtcpknfcckekhdaaSlP
set_option linter.unusedVariables false
set_option linter.unusedSimpArgs false
namespace Go.SL
open Go Go.Proofs
abbrev rfC (b : Nat) (A : Option Addr) (c : Nat) (s : SM) : HP := cells b [.slice A s.os.length c, .int .i64 s.dn] 53
instance findK_cells {b : Nat} {l : List Value} {t : TypeId} {L : List HP} : FindK (cells b l t :: L) b (cells b l t) L := ⟨Gives.refl _⟩
theorem tokS_step {os : List OrdD} {i : Nat} {o : OrdD} {t : ByteArray} (h : os[i]? = some o) (hn : tokS (os.take i) t = none) : (o.x.token = t → tokS os t = some o) ∧ (o.x.token ≠ t → tokS (os.take (i + 1)) t = none) := by
  refine ⟨fun ht => ?_, fun ht => ?_⟩
  · have h1 : tokS (os.take (i + 1)) t = some o := by
      rw [take_at h]; unfold tokS at hn ⊢; rw [List.find?_append, hn]; simp [ht]
    have := tokS_append h1 (os.drop (i + 1))
    rwa [List.take_append_drop] at this
  · rw [take_at h]; unfold tokS at hn ⊢; rw [List.find?_append, hn]; simp [ht]
theorem refToken_spec {L : List HP} {b : Nat} {A : Option Addr} {c : Nat} {s : SM} (t : ByteArray) (ht : t.size ≤ maxEl) (hk : SlK L ordR A c s.os) : Fn Try.prog 32 #[.pointer (some ⟨b, 0, none⟩), .string t] (rfC b A c s :: L) (fun v L' => ∃ A' c', v = .tuple #[ordV (orE (tokS s.os t)) (A', c'), .bool (tokS s.os t).isSome] ∧ L' = sl (intR .i64) A' c' (orE (tokS s.os t)).x.cut :: rfC b A c s :: L) := by
  refine Fn_enter Try.func32 rfl rfl rfl rfl ?_
  refine T_gives (SlK.lay hk.tail) ?_
  refine T_gives (Gives.swap _ _ _) ?_
  refine SlK.lens (slk (A := A) (c := c)) fun hl => ?_
  simp only [maxEl] at hl
  refine T_region ?_
  refine TL_alloc rfl rfl ?_
  intro b4
  refine TL_y rfl rfl (Y_assign rfl) ?_
  refine TL_nil ?_
  refine T_seq ?_
  refine T_region ?_
  refine TL_y rfl rfl (Y_assign rfl) ?_
  refine TL_nil ?_
  refine T_block ?_
  refine T_loopK (σ := Nat) [0, 1, 4] (fun i => i ≤ s.os.length ∧ tokS (s.os.take i) t = none) (fun i kv => (6, .int .i64 (i : Int)) :: kv) (fun i => cells b4 [.int .i64 0, .string ⟨#[]⟩, .string ⟨#[]⟩, .int .i64 0, .slice none 0 0] 29 :: rfC b A c s :: sl ordR A c s.os :: L) (fun i => s.os.length - i) (0) rfl (⟨Nat.zero_le _, by simp [tokS]⟩) (GivesTo.g) (sub_cons rfl (sub_cons rfl (sub_cons rfl (sub_cons rfl (sub_nil))))) ?_
  intro i hi
  refine T_seq ?_
  refine T_region ?_
  refine TL_y rfl rfl (Y_move rfl) ?_
  refine TL_y rfl rfl (Y_move rfl) ?_
  refine TL_y rfl rfl (Y_nil_check rfl) ?_
  refine TL_y rfl rfl (Y_field_addr rfl) ?_
  refine TL_y rfl rfl (Y_load rfl rfl) ?_
  refine TL_y rfl rfl (Y_len rfl) ?_
  refine TL_y rfl rfl (Y_lt rfl rfl) ?_
  refine TL_nil ?_
  refine T_if rfl (fun h13 => ?_) (fun h13 => ?_)
  · refine T_skip ?_
    refine thenS_normal ?_
    refine T_seq ?_
    refine T_block ?_
    refine T_region ?_
    refine TL_y rfl rfl (Y_move rfl) ?_
    refine TL_y rfl rfl (Y_nil_check rfl) ?_
    refine TL_y rfl rfl (Y_field_addr rfl) ?_
    refine TL_y rfl rfl (Y_load rfl rfl) ?_
    refine TL_y rfl rfl (Y_move rfl) ?_
    obtain ⟨o, ho⟩ : ∃ o, s.os[i]? = some o := ⟨_, List.getElem?_eq_getElem (by omega)⟩
    have hst := tokS_step ho hi.2
    refine TL_index_n rfl rfl rfl (rfl) (sln) (ho) ?_
    intro bn21 on21 hA21 hk21
    have hu21 := ho
    refine TL_y rfl rfl (Y_field_addr2 rfl) ?_
    refine TL_y rfl rfl (Y_load_nx rfl hk21 hu21 (fun _ => rfl)) ?_
    refine TL_y rfl rfl (Y_move rfl) ?_
    refine TL_y rfl rfl (Y_str_eq rfl rfl) ?_
    refine TL_nil ?_
    refine T_if rfl (fun h25 => ?_) (fun h25 => ?_)
    · refine T_region ?_
      refine TL_y rfl rfl (Y_move rfl) ?_
      refine TL_y rfl rfl (Y_nil_check rfl) ?_
      refine TL_y rfl rfl (Y_field_addr rfl) ?_
      refine TL_y rfl rfl (Y_load rfl rfl) ?_
      refine TL_y rfl rfl (Y_move rfl) ?_
      refine TL_index_n rfl rfl rfl (rfl) (sln) (ho) ?_
      intro bn31 on31 hA31 hk31
      have hu31 := ho
      refine TL_load_nx rfl rfl hk31 hu31 (fun _ => rfl) ?_
      intro p32 ok32
      simp only [List.cons_append, List.nil_append]
      refine TL_store rfl rfl rfl rfl rfl rfl ?_
      refine TL_y rfl rfl (Y_assign rfl) ?_
      refine TL_nil ?_
      refine T_ret ?_
      refine inB_ret ?_
      refine thenS_ret ?_
      refine thenS_ret ?_
      refine inB_ret ?_
      refine thenS_ret ?_
      rw [hst.1 h25, show orE (some o) = o from rfl]
      exact RetG_2 (.inl rfl) rfl (ResV.agg rfl rfl) (ResV.tmp rfl) GivesTo.g (⟨p32.1, p32.2, rfl, rfl⟩)
    · refine T_skip ?_
      refine inB_normal ?_
      refine thenS_normal ?_
      refine T_region_last ?_
      refine TL_y rfl rfl (Y_move rfl) ?_
      refine TL_y rfl rfl (Y_add rfl rfl (by omega)) ?_
      refine TL_name 15 (v' := .int .i64 ((i + 1 : Nat) : Int)) rfl (rfl) ?_
      refine TL_y rfl rfl (Y_assign rfl) ?_
      refine TL_nil ?_
      refine thenS_normal ?_
      exact ⟨i + 1, ⟨by omega, hst.2 h25⟩, by omega, holds_to (sub_cons rfl (sub_cons rfl (sub_cons rfl (sub_cons rfl (sub_nil))))) GivesTo.g⟩
  · refine T_exit ?_
    refine thenS_exit ?_
    refine thenS_exit ?_
    refine inB_hit ?_
    refine thenS_normal ?_
    refine T_region ?_
    refine TL_y rfl rfl (Y_build rfl rfl) ?_
    refine TL_store rfl rfl rfl rfl rfl rfl ?_
    refine TL_y rfl rfl (Y_assign rfl) ?_
    refine TL_nil ?_
    refine T_ret ?_
    have hn : tokS s.os t = none := by have := hi.2; rwa [List.take_of_length_le (by omega)] at this
    rw [hn, show orE none = ord0 from rfl]
    refine RetQ.gives (slnil (A := none) (c := 0) (R := intR .i64)).lay ?_
    exact RetG_2 (.inl rfl) rfl (ResV.agg rfl rfl) (ResV.tmp rfl) GivesTo.g (⟨none, 0, rfl, rfl⟩)
theorem refGet_spec {L : List HP} {b : Nat} {A : Option Addr} {c : Nat} {s : SM} (id : Int) (hid : intIn .i64 id) (hk : SlK L ordR A c s.os) : Fn Try.prog 33 #[.pointer (some ⟨b, 0, none⟩), .int .i64 id] (rfC b A c s :: L) (fun v L' => ∃ A' c', v = .tuple #[ordV (orE (getS s.os id)) (A', c'), .bool (getS s.os id).isSome] ∧ L' = sl (intR .i64) A' c' (orE (getS s.os id)).x.cut :: rfC b A c s :: L) := by
  have hid := i64In hid
  refine Fn_enter Try.func33 rfl rfl rfl rfl ?_
  refine T_gives (SlK.lay hk.tail) ?_
  refine T_gives (Gives.swap _ _ _) ?_
  refine SlK.lens (slk (A := A) (c := c)) fun hl => ?_
  simp only [maxEl] at hl
  refine T_region ?_
  refine TL_alloc rfl rfl ?_
  intro b4
  refine TL_y rfl rfl (Y_assign rfl) ?_
  refine TL_nil ?_
  refine T_seq ?_
  refine T_region ?_
  refine TL_y rfl rfl (Y_move rfl) ?_
  refine TL_both 10 16 (id < 1 ∨ id > (s.os.length : Int)) ?_ ?_
  · refine TL_y rfl rfl (Y_lt rfl rfl) ?_
    refine TL_y rfl rfl (Y_move rfl) ?_
    refine TL_splitd 8 rfl (fun h8 => ?_) (fun h8 => ?_)
    · refine TL_gskip rfl rfl rfl rfl ?_
      refine TL_gskip rfl rfl rfl rfl ?_
      refine TL_gskip rfl rfl rfl rfl ?_
      refine TL_gskip rfl rfl rfl rfl ?_
      refine TL_gskip rfl rfl rfl rfl ?_
      refine TL_gskip rfl rfl rfl rfl ?_
      refine TL_gskip rfl rfl rfl rfl ?_
      refine TL_y rfl rfl (Y_pick_t rfl rfl) ?_
      refine TL_chain_end rfl ?_ (by repeat (first | exact sub_refl | refine sub_ext rfl ?_)) GivesTo.g
      exact congrArg Value.bool (decide_eq_true (by omega)).symm
    · refine TL_grun rfl rfl ?_
      refine TL_y rfl rfl (Y_move rfl) ?_
      refine TL_grun rfl rfl ?_
      refine TL_y rfl rfl (Y_move rfl) ?_
      refine TL_grun rfl rfl ?_
      refine TL_y rfl rfl (Y_nil_check rfl) ?_
      refine TL_grun rfl rfl ?_
      refine TL_y rfl rfl (Y_field_addr rfl) ?_
      refine TL_grun rfl rfl ?_
      refine TL_y rfl rfl (Y_load rfl rfl) ?_
      refine TL_grun rfl rfl ?_
      refine TL_y rfl rfl (Y_len rfl) ?_
      refine TL_grun rfl rfl ?_
      refine TL_y rfl rfl (Y_gt rfl rfl) ?_
      refine TL_y rfl rfl (Y_pick_f rfl rfl) ?_
      refine TL_chain_end rfl ?_ (by repeat (first | exact sub_refl | refine sub_ext rfl ?_)) GivesTo.g
      exact congrArg Value.bool (decide_eq_decide.2 (by omega))
  refine TL_nil ?_
  refine T_if rfl (fun h16 => ?_) (fun h16 => ?_)
  · have hn := getS_none h16
    refine T_region ?_
    refine TL_y rfl rfl (Y_build rfl rfl) ?_
    refine TL_store rfl rfl rfl rfl rfl rfl ?_
    refine TL_y rfl rfl (Y_assign rfl) ?_
    refine TL_nil ?_
    refine T_ret ?_
    refine thenS_ret ?_
    rw [hn, show orE none = ord0 from rfl]
    refine RetQ.gives (slnil (A := none) (c := 0) (R := intR .i64)).lay ?_
    exact RetG_2 (.inl rfl) rfl (ResV.agg rfl rfl) (ResV.tmp rfl) GivesTo.g (⟨none, 0, rfl, rfl⟩)
  · refine T_skip ?_
    refine thenS_normal ?_
    refine T_region ?_
    refine TL_y rfl rfl (Y_move rfl) ?_
    refine TL_y rfl rfl (Y_nil_check rfl) ?_
    refine TL_y rfl rfl (Y_field_addr rfl) ?_
    refine TL_y rfl rfl (Y_load rfl rfl) ?_
    refine TL_y rfl rfl (Y_move rfl) ?_
    refine TL_y rfl rfl (Y_sub rfl rfl (by omega)) ?_
    have hlt : (id - 1).toNat < s.os.length := by omega
    obtain ⟨o, ho⟩ : ∃ o, s.os[(id - 1).toNat]? = some o := ⟨_, List.getElem?_eq_getElem hlt⟩
    have hg : getS s.os id = some o := by rw [getS, if_pos (by omega), ho]
    refine TL_name 23 (v' := .int .i64 (((id - 1).toNat : Nat) : Int)) rfl (by congr 1; omega) ?_
    refine TL_index_n rfl rfl rfl (rfl) (sln) (ho) ?_
    intro bn24 on24 hA24 hk24
    have hu24 := ho
    refine TL_load_nx rfl rfl hk24 hu24 (fun _ => rfl) ?_
    intro p25 ok25
    simp only [List.cons_append, List.nil_append]
    refine TL_store rfl rfl rfl rfl rfl rfl ?_
    refine TL_y rfl rfl (Y_assign rfl) ?_
    refine TL_nil ?_
    refine T_ret ?_
    rw [hg, show orE (some o) = o from rfl]
    exact RetG_2 (.inl rfl) rfl (ResV.agg rfl rfl) (ResV.tmp rfl) GivesTo.g (⟨p25.1, p25.2, rfl, rfl⟩)
theorem refEpoch_spec {L : List HP} {b : Nat} {A : Option Addr} {c : Nat} {s : SM} (t : ByteArray) (ht : t.size ≤ maxEl) (hk : SlK L ordR A c s.os) (h65 : s.os.length ≤ 65536) : Fn Try.prog 34 #[.pointer (some ⟨b, 0, none⟩), .string t] (rfC b A c s :: L) (fun v L' => v = .int .i64 (cntS s.os t : Int) ∧ L' = rfC b A c s :: L) := by
  refine Fn_enter Try.func34 rfl rfl rfl rfl ?_
  refine T_gives (SlK.lay hk.tail) ?_
  refine T_gives (Gives.swap _ _ _) ?_
  refine T_region ?_
  refine TL_y rfl rfl (Y_assign rfl) ?_
  refine TL_nil ?_
  refine T_region ?_
  refine TL_y rfl rfl (Y_assign rfl) ?_
  refine TL_nil ?_
  refine T_seq ?_
  refine T_region ?_
  refine TL_y rfl rfl (Y_assign rfl) ?_
  refine TL_nil ?_
  refine T_block ?_
  refine T_loopK (σ := Nat) [0, 1] (fun i => i ≤ s.os.length) (fun i kv => (6, .int .i64 (i : Int)) :: (5, .int .i64 (cntS (s.os.take i) t : Int)) :: kv) (fun i => rfC b A c s :: sl ordR A c s.os :: L) (fun i => s.os.length - i) (0) rfl (Nat.zero_le _) (GivesTo.g) (sub_cons rfl (sub_cons rfl (sub_cons rfl (sub_cons rfl (sub_nil))))) ?_
  intro i hi
  refine T_seq ?_
  refine T_region ?_
  refine TL_y rfl rfl (Y_move rfl) ?_
  refine TL_y rfl rfl (Y_move rfl) ?_
  refine TL_y rfl rfl (Y_nil_check rfl) ?_
  refine TL_y rfl rfl (Y_field_addr rfl) ?_
  refine TL_y rfl rfl (Y_load rfl rfl) ?_
  refine TL_y rfl rfl (Y_len rfl) ?_
  refine TL_y rfl rfl (Y_lt rfl rfl) ?_
  refine TL_nil ?_
  refine T_if rfl (fun h13 => ?_) (fun h13 => ?_)
  · refine T_skip ?_
    refine thenS_normal ?_
    refine T_seq ?_
    refine T_block ?_
    obtain ⟨o, ho⟩ : ∃ o, s.os[i]? = some o := ⟨_, List.getElem?_eq_getElem (by omega)⟩
    have hcn := cntS_at (c := t) ho
    have hle := cntS_le (s.os.take i) t
    have hlt : (s.os.take i).length ≤ 65536 := by rw [List.length_take]; omega
    refine T_region ?_
    refine TL_y rfl rfl (Y_move rfl) ?_
    refine TL_y rfl rfl (Y_nil_check rfl) ?_
    refine TL_y rfl rfl (Y_field_addr rfl) ?_
    refine TL_y rfl rfl (Y_load rfl rfl) ?_
    refine TL_y rfl rfl (Y_move rfl) ?_
    refine TL_index_n rfl rfl rfl (rfl) (sln) (ho) ?_
    intro bn21 on21 hA21 hk21
    have hu21 := ho
    refine TL_y rfl rfl (Y_field_addr2 rfl) ?_
    refine TL_y rfl rfl (Y_load_nx rfl hk21 hu21 (fun _ => rfl)) ?_
    refine TL_y rfl rfl (Y_move rfl) ?_
    refine TL_y rfl rfl (Y_str_eq rfl rfl) ?_
    refine TL_nil ?_
    refine T_if rfl (fun h25 => ?_) (fun h25 => ?_)
    · refine T_region_last ?_
      refine TL_y rfl rfl (Y_move rfl) ?_
      refine TL_y rfl rfl (Y_add rfl rfl (by omega)) ?_
      refine TL_name 27 (v' := .int .i64 (cntS (s.os.take (i + 1)) t : Int)) rfl (by rw [hcn, if_pos h25]; rfl) ?_
      refine TL_y rfl rfl (Y_assign rfl) ?_
      refine TL_nil ?_
      refine inB_normal ?_
      refine thenS_normal ?_
      refine T_region_last ?_
      refine TL_y rfl rfl (Y_move rfl) ?_
      refine TL_y rfl rfl (Y_add rfl rfl (by omega)) ?_
      refine TL_name 15 (v' := .int .i64 ((i + 1 : Nat) : Int)) rfl (rfl) ?_
      refine TL_y rfl rfl (Y_assign rfl) ?_
      refine TL_nil ?_
      refine thenS_normal ?_
      exact ⟨i + 1, by omega, by omega, holds_to (sub_cons rfl (sub_cons rfl (sub_cons rfl (sub_cons rfl (sub_nil))))) GivesTo.g⟩
    · refine T_skip ?_
      refine inB_normal ?_
      refine thenS_normal ?_
      refine T_region_last ?_
      refine TL_name 5 (v' := .int .i64 (cntS (s.os.take (i + 1)) t : Int)) rfl (by rw [hcn, if_neg h25]; rfl) ?_
      refine TL_y rfl rfl (Y_move rfl) ?_
      refine TL_y rfl rfl (Y_add rfl rfl (by omega)) ?_
      refine TL_name 15 (v' := .int .i64 ((i + 1 : Nat) : Int)) rfl (rfl) ?_
      refine TL_y rfl rfl (Y_assign rfl) ?_
      refine TL_nil ?_
      refine thenS_normal ?_
      exact ⟨i + 1, by omega, by omega, holds_to (sub_cons rfl (sub_cons rfl (sub_cons rfl (sub_cons rfl (sub_nil))))) GivesTo.g⟩
  · refine T_exit ?_
    refine thenS_exit ?_
    refine thenS_exit ?_
    refine inB_hit ?_
    refine thenS_normal ?_
    refine T_region ?_
    refine TL_y rfl rfl (Y_move rfl) ?_
    refine TL_y rfl rfl (Y_assign rfl) ?_
    refine TL_nil ?_
    refine T_ret ?_
    exact RetG_1 (.inl rfl) rfl (ResV.tmp rfl) GivesTo.g (⟨by rw [List.take_of_length_le (by omega)], rfl⟩)
theorem refSeals_spec {L : List HP} {b : Nat} {A : Option Addr} {c : Nat} {s : SM} (hk : SlK L ordR A c s.os) (h65 : s.os.length ≤ 65536) : Fn Try.prog 36 #[.pointer (some ⟨b, 0, none⟩)] (rfC b A c s :: L) (fun v L' => ∃ A' c', v = .slice A' (s.os.map (·.x)).length c' ∧ L' = osl orderR 34 A' c' (s.os.map (·.x)) :: rfC b A c s :: L) := by
  refine Fn_enter Try.func36 rfl rfl rfl rfl ?_
  refine T_gives (SlK.lay hk.tail) ?_
  refine T_gives (Gives.swap _ _ _) ?_
  refine T_region ?_
  refine TL_y rfl rfl (Y_assign rfl) ?_
  refine TL_nil ?_
  refine T_region ?_
  refine TL_y rfl rfl (Y_assign rfl) ?_
  refine TL_nil ?_
  refine T_seq ?_
  refine T_region ?_
  refine TL_y rfl rfl (Y_assign rfl) ?_
  refine TL_nil ?_
  refine T_block ?_
  refine T_loopK (σ := LpSt) [0] (fun g => g.i ≤ s.os.length) (fun g kv => (4, .int .i64 (g.i : Int)) :: (3, .slice g.A ((s.os.take g.i).map (·.x)).length g.c) :: kv) (fun g => osl orderR 34 g.A g.c ((s.os.take g.i).map (·.x)) :: rfC b A c s :: sl ordR A c s.os :: L) (fun g => s.os.length - g.i) (⟨0, none, 0⟩) rfl (Nat.zero_le _) (osl_nil _ _ _ _) (sub_cons rfl (sub_cons rfl (sub_cons rfl (sub_nil)))) ?_
  rintro ⟨i, A2, c2⟩ hi
  dsimp only at hi ⊢
  refine T_seq ?_
  refine T_region ?_
  refine TL_y rfl rfl (Y_move rfl) ?_
  refine TL_y rfl rfl (Y_move rfl) ?_
  refine TL_y rfl rfl (Y_nil_check rfl) ?_
  refine TL_y rfl rfl (Y_field_addr rfl) ?_
  refine TL_y rfl rfl (Y_load rfl rfl) ?_
  refine TL_y rfl rfl (Y_len rfl) ?_
  refine TL_y rfl rfl (Y_lt rfl rfl) ?_
  refine TL_nil ?_
  refine T_if rfl (fun h11 => ?_) (fun h11 => ?_)
  · refine T_skip ?_
    refine thenS_normal ?_
    refine T_seq ?_
    refine T_block ?_
    obtain ⟨o, ho⟩ : ∃ o, s.os[i]? = some o := ⟨_, List.getElem?_eq_getElem (by omega)⟩
    have htk := take_at ho
    refine T_at (slk (A := A) (c := c)) ho fun bq oq lq haq => ?_
    refine T_ex fun pq okq => ?_
    simp only [List.cons_append, List.nil_append]
    refine T_region_draw_last (rfC b A c s :: row bq oq (ordC o pq) :: []) [0, 0, 2, 6, 14, 0, 62, 126, 254, 0, 512, 1536, 3584, 0, 15872, 32256, 65024, 0, 131072, 393216, 917504, 0, 4063232, 8257536, 16646144, 0, 33554432, 100663296, 234881024, 0, 1040187392, 2113929216, 4261412864, 8589934590, 17179869182, 34359738367, 68719476735] [] [(0, true), (1, true), (2, true), (3, true), (4, true), (5, true), (6, true), (7, true), (8, true), (9, true), (10, true), (11, true), (12, true), (13, true), (14, true), (15, true), (16, true), (17, true), (18, true), (19, true), (20, true), (21, true), (22, true), (23, true), (24, true), (25, true), (26, true), (27, true), (28, true), (29, true), (30, true), (31, true), (32, true), (33, true), (34, false), (35, false), (36, true)] (by kernel_rfl) (by decide +kernel) GivesTo.g ?_
    refine TF_y rfl rfl (Y_move rfl) ?_
    refine TF_y rfl rfl (Y_move rfl) ?_
    refine TF_y rfl rfl (Y_nil_check rfl) ?_
    refine TF_y rfl rfl (Y_field_addr rfl) ?_
    refine TF_y rfl rfl (Y_load rfl rfl) ?_
    refine TF_y rfl rfl (Y_move rfl) ?_
    refine TF_y rfl rfl (Y_index_at rfl rfl (by omega) haq) ?_
    refine TF_y rfl rfl (Y_field_addr2 rfl) ?_
    refine TF_y rfl rfl (Y_load_row rfl rfl) ?_
    refine TF_y rfl rfl (Y_move rfl) ?_
    refine TF_y rfl rfl (Y_nil_check rfl) ?_
    refine TF_y rfl rfl (Y_field_addr rfl) ?_
    refine TF_y rfl rfl (Y_load rfl rfl) ?_
    refine TF_y rfl rfl (Y_move rfl) ?_
    refine TF_y rfl rfl (Y_index_at rfl rfl (by omega) haq) ?_
    refine TF_y rfl rfl (Y_field_addr2 rfl) ?_
    refine TF_y rfl rfl (Y_load_row rfl rfl) ?_
    refine TF_y rfl rfl (Y_move rfl) ?_
    refine TF_y rfl rfl (Y_nil_check rfl) ?_
    refine TF_y rfl rfl (Y_field_addr rfl) ?_
    refine TF_y rfl rfl (Y_load rfl rfl) ?_
    refine TF_y rfl rfl (Y_move rfl) ?_
    refine TF_y rfl rfl (Y_index_at rfl rfl (by omega) haq) ?_
    refine TF_y rfl rfl (Y_field_addr2 rfl) ?_
    refine TF_y rfl rfl (Y_load_row rfl rfl) ?_
    refine TF_y rfl rfl (Y_move rfl) ?_
    refine TF_y rfl rfl (Y_nil_check rfl) ?_
    refine TF_y rfl rfl (Y_field_addr rfl) ?_
    refine TF_y rfl rfl (Y_load rfl rfl) ?_
    refine TF_y rfl rfl (Y_move rfl) ?_
    refine TF_y rfl rfl (Y_index_at rfl rfl (by omega) haq) ?_
    refine TF_y rfl rfl (Y_field_addr2 rfl) ?_
    refine TF_y rfl rfl (Y_load_row rfl rfl) ?_
    refine TF_y rfl rfl (Y_build rfl rfl) ?_
    refine TF_anchor rfl ?_
    refine TL_build_slice rfl rfl rfl rfl rfl rfl ?_
    intro b48
    refine TL_osl (k := 1) orderR [o.x] (cells_one (order_rep slk okq.2)) rfl (by decide) ?_
    refine TL_freeze_osl ?_
    refine TL_name 48 (v' := .slice (some ⟨b48, 0, none⟩) [o.x].length 1) rfl rfl ?_
    refine TF_end GivesTo.g ?_
    refine TF_anchor rfl ?_
    refine TL_append rfl rfl rfl rfl rfl slk (by simp only [List.length_map, List.length_take, List.length_cons, List.length_nil]; omega) ?_
    intro A49 c49
    rw [show (s.os.take i).map (·.x) ++ [o.x] = (s.os.take (i + 1)).map (·.x) by rw [htk]; simp]
    refine TF_end GivesTo.g ?_
    refine TF_y rfl rfl (Y_assign rfl) ?_
    refine TF_nil ?_
    refine inB_normal ?_
    refine thenS_normal ?_
    refine T_region_last ?_
    refine TL_y rfl rfl (Y_move rfl) ?_
    refine TL_y rfl rfl (Y_add rfl rfl (by omega)) ?_
    refine TL_name 13 (v' := .int .i64 ((i + 1 : Nat) : Int)) rfl (rfl) ?_
    refine TL_y rfl rfl (Y_assign rfl) ?_
    refine TL_nil ?_
    refine thenS_normal ?_
    exact ⟨⟨i + 1, A49, c49⟩, (by simp only; omega), by simp only; omega, holds_to (sub_cons rfl (sub_cons rfl (sub_cons rfl (sub_nil)))) GivesTo.g⟩
  · refine T_exit ?_
    refine thenS_exit ?_
    refine thenS_exit ?_
    refine inB_hit ?_
    refine thenS_normal ?_
    refine T_region ?_
    refine TL_y rfl rfl (Y_move rfl) ?_
    refine TL_y rfl rfl (Y_assign rfl) ?_
    refine TL_nil ?_
    refine T_ret ?_
    have e : s.os.take i = s.os := List.take_of_length_le (by omega)
    rw [e]
    exact RetG_1 (.inl rfl) rfl (ResV.tmp rfl) GivesTo.g (⟨A2, c2, rfl, rfl⟩)
end Go.SL
