/- Dots (STR): the iterators. -/
import Derived.Test.YtooadkecmchpaaaDtE
set_option linter.unusedVariables false
set_option linter.unusedSimpArgs false
namespace Go.SL
open Go Go.Proofs
def dlSTR (l : List (DotD × tSTR)) (o : Nat) : List (DotD × tSTR) := l.filter fun p => decide (p.1.1 = (o : Int))
def preSTR (l : List (DotD × tSTR)) (i : Nat) : List (DotD × tSTR) := (List.range i).flatMap (dlSTR l)
theorem preSTR_succ (l : List (DotD × tSTR)) (i : Nat) : preSTR l (i + 1) = preSTR l i ++ dlSTR l i := by simp [preSTR, List.range_succ, List.flatMap_append]
theorem keysSTR_dl (l : List (DotD × tSTR)) (o : Nat) : keysO l (o : Int) = (dlSTR l o).map (·.1.2) := by simp [keysO, atO, dlSTR]
theorem dlSTR_mem {l : List (DotD × tSTR)} {o : Nat} {q : DotD × tSTR} (h : q ∈ dlSTR l o) : q ∈ l ∧ q.1.1 = (o : Int) := by
  have := List.mem_filter.1 h
  exact ⟨this.1, by simpa using this.2⟩
theorem splitSTR {l : List (DotD × tSTR)} (h : DI l) : preSTR l 7 = l := by
  have hlt : ∀ {a b : List (DotD × tSTR)}, a.Pairwise (fun p q => lessD p.1 q.1 = true) → b.Pairwise (fun p q => lessD p.1 q.1 = true) → (∀ p, p ∈ a ↔ p ∈ b) → a = b := fun {a b} ha hb hm => by
    have nd : ∀ {c : List (DotD × tSTR)}, c.Pairwise (fun p q => lessD p.1 q.1 = true) → c.Nodup := fun hc => hc.imp fun hh e => by rw [e, lessD_iff] at hh; omega
    exact ((List.perm_ext_iff_of_nodup (nd ha) (nd hb)).2 hm).eq_of_pairwise (fun x y _ _ h1 h2 => by rw [lessD_iff] at h1 h2; omega) ha hb
  refine hlt ?_ h.inc fun p => ?_
  · unfold preSTR
    refine List.pairwise_flatMap.2 ⟨fun o _ => h.inc.filter _, List.pairwise_lt_range.imp fun {a b} hab x hx y hy => ?_⟩
    have h1 := (dlSTR_mem hx).2
    have h2 := (dlSTR_mem hy).2
    rw [lessD_iff]; omega
  · simp only [preSTR, List.mem_flatMap, List.mem_range]
    constructor
    · rintro ⟨o, _, hp⟩; exact (dlSTR_mem hp).1
    · intro hp
      have hm := h.may p hp
      unfold mayD at hm
      exact ⟨p.1.1.toNat, by omega, List.mem_filter.2 ⟨hp, by simp; omega⟩⟩
theorem preSTR_pre {l : List (DotD × tSTR)} (h : DI l) {i : Nat} (hi : i ≤ 7) : preSTR l i <+: l := by
  conv => rhs; rw [← splitSTR h]
  unfold preSTR
  rw [show 7 = i + (7 - i) by omega, List.range_add, List.flatMap_append]
  exact List.prefix_append _ _
section
variable {r : Option Nat} {n : Nat} {P : Program} {ops : Array Oper} {rest : List Oper} {K : St → Prop} {D : List Deferred} {E : Env} {L : List HP} {l : List (DotD × tSTR)}
theorem TL_outSTR {bts : List Nat} {o bt : Nat} {L0 : List HP} [hf : FindHP L (allH (mapsSTR bts l)) L0] (ho : o < 7) (hb : bts[o]? = some bt) (h : TL r n P ops rest ⟨D, E, omap intK rSTR false bt (atO l (o : Int)) :: allH ((mapsSTR bts l).set o hole) :: L0⟩ K) : TL r n P ops rest ⟨D, E, L⟩ K := TL_gives (hf.g.trans (allH_take (mapsSTR_at ho hb))) h
end
abbrev itSTR (x : DotD × tSTR) : List Value := [dotV x.1, vSTR x.2]
theorem where1STR_spec {b bn bw : Nat} {p : DsSTR} {l : List (DotD × tSTR)} {fw : FuncId} [IsCall Try.prog fw] {fsw csw : List Value} {Lw : HP} {W : DotD → Bool} (hw : ∀ d Lx, dotOk d → Fn Try.prog fw (fsw ++ [dotV d] ++ csw).toArray (con bw Lw :: Lx) (fun v L' => v = .bool (W d) ∧ L' = con bw Lw :: Lx))
    {τ : Type} {ly : Nat} {C : τ → HP} {step : τ → DotD × tSTR → τ → Prop} {stop : τ → Bool} {cnt : τ → Nat} {s0 : τ} {Lx : List HP} (h0 : stop s0 = false) (hc0 : cnt s0 = 0) (hcnt : ∀ s x s', step s x s' → cnt s' = cnt s + 1) (hy : YieldsL Try.prog ly (fun s => shr [dsSTR b p l] (C s)) itSTR (fun x _ => dotOk x.1 ∧ okSTR x.2) step stop cnt 65536) :
    Fn Try.prog 107 #[.func (.yield ly) #[] #[], .pointer (some ⟨bn, 0, none⟩), .pointer (some ⟨bw, 0, none⟩)] (con ly (shr [dsSTR b p l] (C s0)) :: cells bn [.pointer (some ⟨b, 0, none⟩)] 25 :: cells bw [.func (.func fw) fsw.toArray csw.toArray] 102 :: con bw Lw :: Lx)
      (fun v L' => ∃ xs s', ((stop s' = false → xs = l.filter fun q => W q.1) ∧ xs <+: l.filter fun q => W q.1) ∧ Runs step stop s0 xs s' ∧ L' = con ly (shr [dsSTR b p l] (C s')) :: cells bn [.pointer (some ⟨b, 0, none⟩)] 25 :: cells bw [.func (.func fw) fsw.toArray csw.toArray] 102 :: con bw Lw :: Lx) := by
  refine Fn_enter Try.func107 rfl rfl rfl rfl ?_
  refine T_unshr ?_
  refine T_seq ?_
  refine T_region ?_
  refine TL_y rfl rfl (Y_load rfl rfl) ?_
  refine TL_pullk b ?_
  refine TL_call rfl rfl (madeSTR_spec) ?_
  rintro _ _ ⟨rfl, rfl⟩
  refine TL_name 10 (v' := .bool true) rfl (rfl) ?_
  refine TL_y rfl rfl (Y_not_t rfl) ?_
  refine TL_nil ?_
  refine T_cond_false rfl ?_
  refine T_skip ?_
  refine thenS_normal ?_
  refine T_dsSTR fun hi hp => ?_
  obtain ⟨bts, A, c, V, cv⟩ := p
  dsimp only at hp ⊢
  have hlen := hi.len
  refine T_region ?_
  refine TL_y rfl rfl (Y_load rfl rfl) ?_
  refine TL_y rfl rfl (Y_nil_check rfl) ?_
  refine TL_y rfl rfl (Y_field_addr rfl) ?_
  refine TL_y rfl rfl (Y_load rfl rfl) ?_
  refine TL_y rfl rfl (Y_len rfl) ?_
  refine TL_y rfl rfl (Y_move rfl) ?_
  refine TL_nil ?_
  refine T_block ?_
  refine T_loopK (σ := Nat × τ) [0, 2, 15, 16] (fun g => g.1 ≤ 7 ∧ Runs step stop s0 ((preSTR l g.1).filter fun q => W q.1) g.2 ∧ stop g.2 = false ∧ cnt g.2 = ((preSTR l g.1).filter fun q => W q.1).length) (fun g kv => (17, .int .i64 (g.1 : Int)) :: kv) (fun g => C g.2 :: cells b [.slice A 7 c, .slice V 7 cv, .int .i64 (l.length : Int)] 100 :: osl mapOR 101 A c (bts.map some) :: osl (intR .i64) 3 V cv (vecL l) :: allH (mapsSTR bts l) :: cells bn [.pointer (some ⟨b, 0, none⟩)] 25 :: cells bw [.func (.func fw) fsw.toArray csw.toArray] 102 :: con bw Lw :: Lx) (fun g => 7 - g.1) ((0, s0)) rfl (⟨Nat.zero_le _, .nil _, h0, hc0⟩) (GivesTo.g) (sub_cons rfl (sub_cons rfl (sub_cons rfl (sub_cons rfl (sub_cons rfl (sub_nil)))))) ?_
  rintro ⟨i, st⟩ ⟨hi7, hr, hs, hc⟩
  dsimp only at hi7 hr hs hc ⊢
  refine T_region ?_
  refine TL_y rfl rfl (Y_lt rfl rfl) ?_
  refine TL_nil ?_
  refine T_seq ?_
  refine T_if rfl (fun h18 => ?_) (fun h18 => ?_)
  · refine T_skip ?_
    refine thenS_normal ?_
    refine T_seq ?_
    refine T_block ?_
    have hil : i < 7 := by omega
    obtain ⟨bt, hbt⟩ : ∃ bt, bts[i]? = some bt := ⟨_, List.getElem?_eq_getElem (by omega)⟩
    have hu : (bts.map some)[i]? = some (some bt) := by simp [hbt]
    refine T_region ?_
    refine TL_y rfl rfl (Y_move rfl) ?_
    refine TL_index_n rfl rfl rfl (by simp [hp]) ((sln (A := A) (c := c) (R := mapOR))) (hu) ?_
    intro bn20 on20 hA20 hk20
    have hu20 := hu
    refine TL_y rfl rfl (Y_load_n rfl hk20 hu20 rfl) ?_
    refine TL_y rfl rfl (Y_assign rfl) ?_
    refine TL_y rfl rfl (Y_assign rfl) ?_
    refine TL_nil ?_
    refine T_outSTR (l := l) hil hbt ?_
    refine T_fact omap_reps (p := ∀ q ∈ atO l (i : Int), okSTR q.2) (fun _ h q hq => (h q hq).elim fun _ h => repSTR_ok h) fun hrp => ?_
    refine T_region ?_
    refine TL_y rfl rfl (Y_move rfl) ?_
    refine TL_call rfl rfl (keysSTR_spec) ?_
    rintro _ _ ⟨bx, rfl, rfl⟩
    refine TL_gives (show Gives _ (cells bx [.map (some bt)] 101 :: omap intK rSTR false bt (atO l (i : Int)) :: C st :: cells b [.slice A 7 c, .slice V 7 cv, .int .i64 (l.length : Int)] 100 :: osl mapOR 101 A c (bts.map some) :: osl (intR .i64) 3 V cv (vecL l) :: allH ((mapsSTR bts l).set i hole) :: cells bn [.pointer (some ⟨b, 0, none⟩)] 25 :: cells bw [.func (.func fw) fsw.toArray csw.toArray] 102 :: con bw Lw :: Lx) from GivesTo.g) ?_
    refine TL_call rfl rfl (sorted_spec (Lf := [cells bx [.map (some bt)] 101, omap intK rSTR false bt (atO l (i : Int))]) (Lr := C st :: cells b [.slice A 7 c, .slice V 7 cv, .int .i64 (l.length : Int)] 100 :: osl mapOR 101 A c (bts.map some) :: osl (intR .i64) 3 V cv (vecL l) :: allH ((mapsSTR bts l).set i hole) :: cells bn [.pointer (some ⟨b, 0, none⟩)] 25 :: cells bw [.func (.func fw) fsw.toArray csw.toArray] 102 :: con bw Lw :: Lx) (keysSTR_iter (R := rSTR) (ag := false) (b := bt) (bx := bx) (m := atO l (i : Int))) (by unfold atO; rw [List.length_map]; exact Nat.le_trans (List.length_filter_le _ _) (by omega))) ?_
    rintro _ _ ⟨A24, c24, ks, rfl, hperm, rfl⟩
    rw [show srt ks = keysO l (i : Int) from srt_of (hperm rfl) (hi.keys (i : Int))]
    simp only [List.cons_append, List.nil_append]
    refine TL_freeze_osl ?_
    refine TL_gives (inSTR (l := l) (l' := l) hil hbt (fun _ _ => rfl)) ?_
    refine TL_y rfl rfl (Y_len rfl) ?_
    refine TL_name 25 (v' := .int .i64 ((dlSTR l i).length : Int)) rfl (by rw [keysSTR_dl]; simp) ?_
    refine TL_y rfl rfl (Y_move rfl) ?_
    refine TL_nil ?_
    refine T_block ?_
    refine T_loopK (σ := Nat × τ) [0, 2, 4, 5, 15, 16, 17, 24, 25] (fun g => g.1 ≤ (dlSTR l i).length ∧ Runs step stop s0 ((preSTR l i ++ (dlSTR l i).take g.1).filter fun q => W q.1) g.2 ∧ stop g.2 = false ∧ cnt g.2 = ((preSTR l i ++ (dlSTR l i).take g.1).filter fun q => W q.1).length) (fun g kv => (26, .int .i64 (g.1 : Int)) :: kv) (fun g => sl (intR .i64) A24 c24 (keysO l (i : Int)) :: C g.2 :: cells b [.slice A 7 c, .slice V 7 cv, .int .i64 (l.length : Int)] 100 :: osl mapOR 101 A c (bts.map some) :: osl (intR .i64) 3 V cv (vecL l) :: allH (mapsSTR bts l) :: cells bn [.pointer (some ⟨b, 0, none⟩)] 25 :: cells bw [.func (.func fw) fsw.toArray csw.toArray] 102 :: con bw Lw :: Lx) (fun g => (dlSTR l i).length - g.1) ((0, st)) rfl (⟨Nat.zero_le _, by simpa using hr, hs, by simpa using hc⟩) (GivesTo.g) (sub_cons rfl (sub_cons rfl (sub_cons rfl (sub_cons rfl (sub_cons rfl (sub_cons rfl (sub_cons rfl (sub_cons rfl (sub_cons rfl (sub_cons rfl (sub_nil))))))))))) ?_
    rintro ⟨j, st2⟩ ⟨hj, hr2, hs2, hc2⟩
    dsimp only at hj hr2 hs2 hc2 ⊢
    refine T_region ?_
    refine TL_y rfl rfl (Y_lt rfl rfl) ?_
    refine TL_nil ?_
    refine T_seq ?_
    refine T_if rfl (fun h27 => ?_) (fun h27 => ?_)
    · refine T_skip ?_
      refine thenS_normal ?_
      refine T_seq ?_
      refine T_block ?_
      obtain ⟨q, hq⟩ : ∃ q, (dlSTR l i)[j]? = some q := ⟨_, List.getElem?_eq_getElem (by omega)⟩
      obtain ⟨hql, hqo⟩ := dlSTR_mem (List.mem_of_getElem? hq)
      have hkj : (keysO l (i : Int))[j]? = some q.1.2 := by rw [keysSTR_dl, List.getElem?_map, hq]; rfl
      have hqk := may_ok (hi.may q hql)
      have hgq : getM l ((i : Int), q.1.2) = some q.2 := by rw [← hqo]; exact getM_of_mem hi.nd hql
      have htk := takeAt hq
      have hdl : (dlSTR l i).length ≤ 65536 := Nat.le_trans (List.length_filter_le _ _) hlen
      have hqx : okSTR q.2 := hrp (q.1.2, q.2) (getM_mem (by rw [getM_atO]; exact hgq))
      have hcl : ((preSTR l i ++ (dlSTR l i).take j).filter fun q => W q.1).length < 65536 := by have h1 := List.length_filter_le (fun q : DotD × tSTR => W q.1) (preSTR l i ++ (dlSTR l i).take j); have h2 := (preSTR_pre hi (i := i + 1) (by omega)).length_le; rw [preSTR_succ, List.length_append] at h2; rw [List.length_append, List.length_take] at h1; omega
      refine T_region ?_
      refine TL_index_int rfl rfl rfl slk hkj ?_
      intro hi28 bi28 oi28
      refine TL_y rfl rfl (Y_load_row rfl rfl) ?_
      refine TL_y rfl rfl (Y_assign rfl) ?_
      refine TL_nil ?_
      refine T_region ?_
      refine TL_y rfl rfl (Y_move rfl) ?_
      refine TL_y rfl rfl (Y_move rfl) ?_
      refine TL_y rfl rfl (Y_build rfl rfl) ?_
      refine TL_name 32 (v' := dotV q.1) rfl (by rw [← hqo]) ?_
      refine TL_alloc rfl rfl ?_
      intro b8
      refine TL_store rfl rfl rfl rfl rfl rfl ?_
      refine TL_nil ?_
      refine T_region ?_
      refine TL_y rfl rfl (Y_load rfl rfl) ?_
      refine TL_y rfl rfl (Y_load_agg rfl rfl) ?_
      refine TL_pullk bw ?_
      refine TL_call_fn rfl rfl rfl (hw q.1 _ hqk) ?_
      rintro _ _ ⟨rfl, rfl⟩
      refine TL_y rfl rfl (Y_move rfl) ?_
      refine TL_split 36 rfl (fun h36 => ?_) (fun h36 => ?_)
      · refine TL_grun rfl rfl ?_
        refine TL_y rfl rfl (Y_move rfl) ?_
        refine TL_grun rfl rfl ?_
        refine TL_y rfl rfl (Y_load_agg rfl rfl) ?_
        refine TL_grun rfl rfl ?_
        refine TL_y rfl rfl (Y_move rfl) ?_
        refine TL_grun rfl rfl ?_
        refine TL_y rfl rfl (Y_move rfl) ?_
        refine TL_grun rfl rfl ?_
        refine TL_outSTR (l := l) hil hbt ?_
        refine TL_y rfl rfl (Y_lookup (k := q.1.2) rfl rfl hqk.2) ?_
        refine TL_name 41 (v' := vSTR q.2) rfl (by rw [getM_atO, hgq]; rfl) ?_
        refine TL_gives (inSTR (l := l) (l' := l) hil hbt (fun _ _ => rfl)) ?_
        refine TL_grun rfl rfl ?_
        refine TL_gives (dsSTR_close b ⟨bts, A, c, V, cv⟩ l hi hp) ?_
        refine TL_shr ly (dsSTR b ⟨bts, A, c, V, cv⟩ l) (C st2) ?_
        refine TL_yield rfl rfl rfl (hy st2 q _ hs2 ⟨hqk, hqx⟩ (by omega)) ?_
        rintro _ _ ⟨s3, hst, rfl, rfl⟩
        refine TL_unshr ?_
        refine TL_grun rfl rfl ?_
        refine TL_y rfl rfl (Y_not rfl) ?_
        refine TL_y rfl rfl (Y_pick_t rfl rfl) ?_
        refine TL_nil ?_
        refine T_cond rfl (fun h44 => ?_) (fun h44 => ?_)
        · have hs3 : stop s3 = true := by simpa using h44
          refine T_ret ?_
          refine inB_ret ?_
          refine thenS_ret ?_
          refine thenS_ret ?_
          refine inB_ret ?_
          refine inB_ret ?_
          refine thenS_ret ?_
          refine thenS_ret ?_
          refine inB_ret ?_
          have hf2 : (preSTR l i ++ (dlSTR l i).take (j + 1)).filter (fun q => W q.1) = (preSTR l i ++ (dlSTR l i).take j).filter (fun q => W q.1) ++ [q] := by rw [htk, ← List.append_assoc, List.filter_append]; simp [h36]
          have hpre : ((preSTR l i ++ (dlSTR l i).take j).filter (fun q => W q.1) ++ [q]) <+: l.filter (fun q => W q.1) := by rw [← hf2]; refine List.IsPrefix.filter _ (List.IsPrefix.trans ?_ (preSTR_pre hi (i := i + 1) (by omega))); rw [preSTR_succ]; exact (List.prefix_append_right_inj _).2 (List.take_prefix _ _)
          refine RetQ.gives (shr_gives (l := ly) (p := dsSTR b ⟨bts, A, c, V, cv⟩ l) (q := C s3)) ?_
          exact RetG_0 (.inl rfl) rfl GivesTo.g (⟨_, s3, ⟨fun h => (by rw [hs3] at h; cases h), hpre⟩, hr2.snoc h0 hs2 hst, rfl⟩)
        · have hs3 : stop s3 = false := by simpa using h44
          refine T_skip ?_
          refine inB_normal ?_
          refine thenS_normal ?_
          refine T_pullk b ?_
          refine T_dsSTR fun _ _ => ?_
          refine T_region_last ?_
          refine TL_y rfl rfl (Y_add rfl rfl (by omega)) ?_
          refine TL_name 45 (v' := .int .i64 ((j + 1 : Nat) : Int)) rfl (rfl) ?_
          refine TL_y rfl rfl (Y_move rfl) ?_
          refine TL_nil ?_
          refine thenS_normal ?_
          have hf3 : (preSTR l i ++ (dlSTR l i).take (j + 1)).filter (fun q => W q.1) = (preSTR l i ++ (dlSTR l i).take j).filter (fun q => W q.1) ++ [q].filter (fun q => W q.1) := by rw [htk, ← List.append_assoc, List.filter_append]
          exact ⟨(j + 1, s3), ⟨by simp only; omega, by dsimp only; rw [hf3]; simp only [List.filter_cons, h36, if_true, List.filter_nil]; exact hr2.snoc h0 hs2 hst, hs3, by dsimp only; rw [hcnt _ _ _ hst, hc2, hf3]; simp [h36]; omega⟩, by simp only; omega, holds_to (sub_cons rfl (sub_cons rfl (sub_cons rfl (sub_cons rfl (sub_cons rfl (sub_cons rfl (sub_cons rfl (sub_cons rfl (sub_cons rfl (sub_cons rfl (sub_nil))))))))))) GivesTo.g⟩
      · refine TL_gskip rfl rfl rfl rfl ?_
        refine TL_gskip rfl rfl rfl rfl ?_
        refine TL_gskip rfl rfl rfl rfl ?_
        refine TL_gskip rfl rfl rfl rfl ?_
        refine TL_gskip rfl rfl rfl rfl ?_
        refine TL_gskip rfl rfl rfl rfl ?_
        refine TL_gskip rfl rfl rfl rfl ?_
        refine TL_y rfl rfl (Y_pick_f rfl rfl) ?_
        refine TL_nil ?_
        refine T_cond_false rfl ?_
        refine T_skip ?_
        refine inB_normal ?_
        refine thenS_normal ?_
        refine T_region_last ?_
        refine TL_y rfl rfl (Y_add rfl rfl (by omega)) ?_
        refine TL_name 45 (v' := .int .i64 ((j + 1 : Nat) : Int)) rfl (rfl) ?_
        refine TL_y rfl rfl (Y_move rfl) ?_
        refine TL_nil ?_
        refine thenS_normal ?_
        have hf3 : (preSTR l i ++ (dlSTR l i).take (j + 1)).filter (fun q => W q.1) = (preSTR l i ++ (dlSTR l i).take j).filter (fun q => W q.1) ++ [q].filter (fun q => W q.1) := by rw [htk, ← List.append_assoc, List.filter_append]
        exact ⟨(j + 1, st2), ⟨by simp only; omega, by dsimp only; rw [hf3]; simpa [h36] using hr2, hs2, by dsimp only; rw [hc2, hf3]; simp [h36]⟩, by simp only; omega, holds_to (sub_cons rfl (sub_cons rfl (sub_cons rfl (sub_cons rfl (sub_cons rfl (sub_cons rfl (sub_cons rfl (sub_cons rfl (sub_cons rfl (sub_cons rfl (sub_nil))))))))))) GivesTo.g⟩
    · refine T_exit ?_
      refine thenS_exit ?_
      refine thenS_exit ?_
      refine inB_hit ?_
      refine inB_normal ?_
      refine thenS_normal ?_
      have hje : j = (dlSTR l i).length := by omega
      subst hje
      rw [List.take_length, ← preSTR_succ] at hr2 hc2
      refine T_region_last ?_
      refine TL_y rfl rfl (Y_add rfl rfl (by omega)) ?_
      refine TL_name 46 (v' := .int .i64 ((i + 1 : Nat) : Int)) rfl (rfl) ?_
      refine TL_y rfl rfl (Y_move rfl) ?_
      refine TL_nil ?_
      refine thenS_normal ?_
      exact ⟨(i + 1, st2), ⟨by simp only; omega, hr2, hs2, hc2⟩, by simp only; omega, holds_to (sub_cons rfl (sub_cons rfl (sub_cons rfl (sub_cons rfl (sub_cons rfl (sub_nil)))))) GivesTo.g⟩
  · refine T_exit ?_
    refine thenS_exit ?_
    refine thenS_exit ?_
    refine inB_hit ?_
    have hie : i = 7 := by omega
    subst hie
    rw [splitSTR hi] at hr
    refine RetQ.gives (dsSTR_close b ⟨bts, A, c, V, cv⟩ l hi hp) ?_
    refine RetQ.gives (shr_gives (l := ly) (p := dsSTR b ⟨bts, A, c, V, cv⟩ l) (q := C st)) ?_
    exact RetG_0 (.inr rfl) rfl GivesTo.g (⟨_, st, ⟨fun _ => rfl, List.prefix_rfl⟩, hr, rfl⟩)
end Go.SL
