/- Net: the packets' ids, and the iterator over packets. -/
import Derived.Test.YtfmkfpgplpfkhaaNetB
set_option linter.unusedVariables false
set_option linter.unusedSimpArgs false
namespace Go.SL
open Go Go.Proofs
theorem takeN_at {α : Type} {l : List α} {i : Nat} {x : α} (h : l[i]? = some x) : l.take (i + 1) = l.take i ++ [x] := by rw [List.take_add_one, h]; rfl
abbrev idsN (s : NS) : List Int := s.L.map (·.id)
theorem netIds_spec {L : List HP} {b : Nat} {s : NS} : Fn Try.prog 43 #[.pointer (some ⟨b, 0, none⟩)] (nt b s :: L) (fun v L' => ∃ A c, v = .slice A (idsN s).length c ∧ L' = osl (intR .i64) 3 A c (idsN s) :: nt b s :: L) := by
  refine Fn_enter Try.func43 rfl rfl rfl rfl ?_
  refine T_region ?_
  refine TL_y rfl rfl (Y_assign rfl) ?_
  refine TL_nil ?_
  refine T_seq ?_
  refine T_region ?_
  refine TL_y rfl rfl (Y_move rfl) ?_
  refine TL_pullk b ?_
  refine TL_call rfl rfl (netMade_spec) ?_
  rintro _ _ ⟨rfl, rfl⟩
  refine TL_name 4 (v' := .bool true) rfl (rfl) ?_
  refine TL_y rfl rfl (Y_not_t rfl) ?_
  refine TL_nil ?_
  refine T_cond_false rfl ?_
  refine T_skip ?_
  refine thenS_normal ?_
  refine T_pullk b ?_
  refine T_nt fun bt hi => ?_
  have hlen := hi.len
  refine T_region ?_
  refine TL_y rfl rfl (Y_move rfl) ?_
  refine TL_y rfl rfl (Y_nil_check rfl) ?_
  refine TL_y rfl rfl (Y_field_addr rfl) ?_
  refine TL_y rfl rfl (Y_load rfl rfl) ?_
  refine TL_call rfl rfl (keysP_spec) ?_
  rintro _ _ ⟨bx, rfl, rfl⟩
  refine TL_gives (show Gives _ (cells bx [.map (some bt)] 76 :: omap intK packR true bt (mp s.L) :: cells b [.int .i64 s.nodes, .int .i64 s.last, .map (some bt)] 78 :: L) from GivesTo.g) ?_
  refine TL_call rfl rfl (sorted_spec (Lf := [cells bx [.map (some bt)] 76, omap intK packR true bt (mp s.L)]) (Lr := cells b [.int .i64 s.nodes, .int .i64 s.last, .map (some bt)] 78 :: L) (keysP_iter (R := packR) (ag := true) (b := bt) (bx := bx) (m := mp s.L)) (by simp [mp]; omega)) ?_
  rintro _ _ ⟨A11, c11, ks, rfl, hperm, rfl⟩
  rw [show srt ks = idsN s from srt_of (by have := hperm rfl; rwa [mp_keys] at this) (List.pairwise_map.2 hi.inc)]
  simp only [List.cons_append, List.nil_append]
  refine TL_y rfl rfl (Y_assign rfl) ?_
  refine TL_nil ?_
  refine T_ret ?_
  refine RetQ.gives (nt_close b s hi) ?_
  exact RetG_1 (.inl rfl) rfl (ResV.tmp rfl) GivesTo.g (⟨A11, c11, rfl, rfl⟩)
theorem find_at {s : NS} (h : NI s) {i : Nat} {p : PackD} (hp : s.L[i]? = some p) : findN s.L p.id = some p := by
  have hlt := (List.getElem?_eq_some_iff.1 hp).1
  have he := (List.getElem?_eq_some_iff.1 hp).2
  refine List.find?_eq_some_iff_getElem.2 ⟨by simp, i, hlt, he, fun j hj => ?_⟩
  have := (List.pairwise_iff_getElem.1 h.inc) j i (by omega) hlt hj
  rw [he] at this
  simp; omega
theorem where1_spec {b bn bw : Nat} {s : NS} {fw : FuncId} [IsCall Try.prog fw] {fsw csw : List Value} {Lw : HP} {W : PackD → Bool} (hw : ∀ p Lx, packOk p → Fn Try.prog fw (fsw ++ [packV p] ++ csw).toArray (con bw Lw :: Lx) (fun v L' => v = .bool (W p) ∧ L' = con bw Lw :: Lx))
    {τ : Type} {l : Nat} {C : τ → HP} {step : τ → PackD → τ → Prop} {stop : τ → Bool} {cnt : τ → Nat} {s0 : τ} {Lx : List HP} (h0 : stop s0 = false) (hc0 : cnt s0 = 0) (hcnt : ∀ s x s', step s x s' → cnt s' = cnt s + 1) (hy : YieldsC Try.prog l C (fun p : PackD => [packV p]) packOk step stop cnt 65536) :
    Fn Try.prog 76 #[.func (.yield l) #[] #[], .pointer (some ⟨bn, 0, none⟩), .pointer (some ⟨bw, 0, none⟩)] (con l (C s0) :: nt b s :: cells bn [.pointer (some ⟨b, 0, none⟩)] 23 :: cells bw [.func (.func fw) fsw.toArray csw.toArray] 107 :: con bw Lw :: Lx)
      (fun v L' => ∃ xs s', ((stop s' = false → xs = s.L.filter W) ∧ xs <+: s.L.filter W) ∧ Runs step stop s0 xs s' ∧ L' = con l (C s') :: nt b s :: cells bn [.pointer (some ⟨b, 0, none⟩)] 23 :: cells bw [.func (.func fw) fsw.toArray csw.toArray] 107 :: con bw Lw :: Lx) := by
  refine Fn_enter Try.func76 rfl rfl rfl rfl ?_
  refine T_region ?_
  refine TL_y rfl rfl (Y_load rfl rfl) ?_
  refine TL_pullk b ?_
  refine TL_call rfl rfl (netIds_spec) ?_
  rintro _ _ ⟨A8, c8, rfl, rfl⟩
  refine TL_freeze_osl ?_
  refine TL_y rfl rfl (Y_len rfl) ?_
  refine TL_name 9 (v' := .int .i64 (s.L.length : Int)) rfl (by simp) ?_
  refine TL_y rfl rfl (Y_move rfl) ?_
  refine TL_nil ?_
  refine T_block ?_
  refine T_loopK (σ := Nat × τ) [0, 1, 2, 8, 9] (fun g => g.1 ≤ s.L.length ∧ Runs step stop s0 ((s.L.take g.1).filter W) g.2 ∧ stop g.2 = false ∧ cnt g.2 = ((s.L.take g.1).filter W).length) (fun g kv => (10, .int .i64 (g.1 : Int)) :: kv) (fun g => con l (C g.2) :: sl (intR .i64) A8 c8 (idsN s) :: nt b s :: cells bn [.pointer (some ⟨b, 0, none⟩)] 23 :: cells bw [.func (.func fw) fsw.toArray csw.toArray] 107 :: con bw Lw :: Lx) (fun g => s.L.length - g.1) ((0, s0)) rfl (⟨Nat.zero_le _, .nil _, h0, hc0⟩) (GivesTo.g) (sub_cons rfl (sub_cons rfl (sub_cons rfl (sub_cons rfl (sub_cons rfl (sub_cons rfl (sub_nil))))))) ?_
  rintro ⟨i, st⟩ ⟨hi, hr, hs, hc⟩
  dsimp only at hi hr hs hc ⊢
  refine T_region ?_
  refine TL_y rfl rfl (Y_lt rfl rfl) ?_
  refine TL_nil ?_
  refine T_seq ?_
  refine T_if rfl (fun h11 => ?_) (fun h11 => ?_)
  · refine T_skip ?_
    refine thenS_normal ?_
    refine T_seq ?_
    refine T_block ?_
    refine T_region ?_
    obtain ⟨p, hp⟩ : ∃ p, s.L[i]? = some p := ⟨_, List.getElem?_eq_getElem (by omega)⟩
    have hu : (idsN s)[i]? = some p.id := by simp [hp]
    have htk := takeN_at hp
    refine TL_index_int rfl rfl rfl slk hu ?_
    intro hi12 bi12 oi12
    refine TL_y rfl rfl (Y_load_row rfl rfl) ?_
    refine TL_y rfl rfl (Y_assign rfl) ?_
    refine TL_nil ?_
    refine T_pullk b ?_
    refine T_nt fun bt hni => ?_
    have hpk := packOk_of hni (List.mem_of_getElem? hp)
    have hlen := hni.len
    refine T_region ?_
    refine TL_y rfl rfl (Y_load rfl rfl) ?_
    refine TL_y rfl rfl (Y_nil_check rfl) ?_
    refine TL_y rfl rfl (Y_field_addr rfl) ?_
    refine TL_y rfl rfl (Y_load rfl rfl) ?_
    refine TL_y rfl rfl (Y_move rfl) ?_
    refine TL_y rfl rfl (Y_lookup_a (k := p.id) rfl rfl hpk.1) ?_
    refine TL_name 19 (v' := packV p) rfl (by rw [getM_mp, find_at hni hp]; rfl) ?_
    refine TL_gives (nt_close b s hni) ?_
    refine TL_alloc rfl rfl ?_
    intro b6
    refine TL_store rfl rfl rfl rfl rfl rfl ?_
    refine TL_nil ?_
    refine T_region ?_
    refine TL_y rfl rfl (Y_load rfl rfl) ?_
    refine TL_y rfl rfl (Y_load_agg rfl rfl) ?_
    refine TL_pullk bw ?_
    refine TL_call_fn rfl rfl rfl (hw p _ hpk) ?_
    rintro _ _ ⟨rfl, rfl⟩
    refine TL_y rfl rfl (Y_move rfl) ?_
    refine TL_split 23 rfl (fun h23 => ?_) (fun h23 => ?_)
    · refine TL_grun rfl rfl ?_
      refine TL_y rfl rfl (Y_move rfl) ?_
      refine TL_grun rfl rfl ?_
      refine TL_y rfl rfl (Y_load_agg rfl rfl) ?_
      refine TL_grun rfl rfl ?_
      refine TL_pullk l ?_
      have hcl : ((s.L.take i).filter W).length < 65536 := by have h1 := List.length_filter_le W (s.L.take i); rw [List.length_take] at h1; omega
      refine TL_yield rfl rfl rfl (hy st p _ hs hpk (by omega)) ?_
      rintro _ _ ⟨s2, hst, rfl, rfl⟩
      refine TL_grun rfl rfl ?_
      refine TL_y rfl rfl (Y_not rfl) ?_
      refine TL_y rfl rfl (Y_pick_t rfl rfl) ?_
      refine TL_nil ?_
      refine T_cond rfl (fun h28 => ?_) (fun h28 => ?_)
      · have hs2 : stop s2 = true := by simpa using h28
        refine T_ret ?_
        refine inB_ret ?_
        refine thenS_ret ?_
        refine thenS_ret ?_
        refine inB_ret ?_
        have hf2 : (s.L.take (i + 1)).filter W = (s.L.take i).filter W ++ [p] := by rw [htk, List.filter_append]; simp [h23]
        have hpre : ((s.L.take i).filter W ++ [p]) <+: s.L.filter W := by rw [← hf2]; exact (List.take_prefix _ _).filter W
        exact RetG_0 (.inl rfl) rfl GivesTo.g (⟨_, s2, ⟨fun h => (by rw [hs2] at h; cases h), hpre⟩, hr.snoc h0 hs hst, rfl⟩)
      · have hs2 : stop s2 = false := by simpa using h28
        refine T_skip ?_
        refine inB_normal ?_
        refine thenS_normal ?_
        refine T_region_last ?_
        refine TL_y rfl rfl (Y_add rfl rfl (by omega)) ?_
        refine TL_name 29 (v' := .int .i64 ((i + 1 : Nat) : Int)) rfl (rfl) ?_
        refine TL_y rfl rfl (Y_move rfl) ?_
        refine TL_nil ?_
        refine thenS_normal ?_
        have hf3 : (s.L.take (i + 1)).filter W = (s.L.take i).filter W ++ [p].filter W := by rw [htk, List.filter_append]
        exact ⟨(i + 1, s2), ⟨by simp only; omega, by dsimp only; rw [hf3]; simp only [List.filter_cons, h23, if_true, List.filter_nil]; exact hr.snoc h0 hs hst, hs2, by dsimp only; rw [hcnt _ _ _ hst, hc, hf3]; simp [h23]⟩, by simp only; omega, holds_to (sub_cons rfl (sub_cons rfl (sub_cons rfl (sub_cons rfl (sub_cons rfl (sub_cons rfl (sub_nil))))))) GivesTo.g⟩
    · refine TL_gskip rfl rfl rfl rfl ?_
      refine TL_gskip rfl rfl rfl rfl ?_
      refine TL_gskip rfl rfl rfl rfl ?_
      refine TL_gskip rfl rfl rfl rfl ?_
      refine TL_y rfl rfl (Y_pick_f rfl rfl) ?_
      refine TL_nil ?_
      refine T_cond_false rfl ?_
      refine T_skip ?_
      refine inB_normal ?_
      refine thenS_normal ?_
      refine T_region_last ?_
      refine TL_y rfl rfl (Y_add rfl rfl (by omega)) ?_
      refine TL_name 29 (v' := .int .i64 ((i + 1 : Nat) : Int)) rfl (rfl) ?_
      refine TL_y rfl rfl (Y_move rfl) ?_
      refine TL_nil ?_
      refine thenS_normal ?_
      have hf3 : (s.L.take (i + 1)).filter W = (s.L.take i).filter W ++ [p].filter W := by rw [htk, List.filter_append]
      exact ⟨(i + 1, st), ⟨by simp only; omega, by dsimp only; rw [hf3]; simpa [h23] using hr, hs, by dsimp only; rw [hc, hf3]; simp [h23]⟩, by simp only; omega, holds_to (sub_cons rfl (sub_cons rfl (sub_cons rfl (sub_cons rfl (sub_cons rfl (sub_cons rfl (sub_nil))))))) GivesTo.g⟩
  · refine T_exit ?_
    refine thenS_exit ?_
    refine thenS_exit ?_
    refine inB_hit ?_
    have e : s.L.take i = s.L := List.take_of_length_le (by omega)
    exact RetG_0 (.inr rfl) rfl GivesTo.g (⟨_, st, ⟨fun _ => by rw [e], by rw [e]; exact List.prefix_rfl⟩, hr, rfl⟩)
end Go.SL
