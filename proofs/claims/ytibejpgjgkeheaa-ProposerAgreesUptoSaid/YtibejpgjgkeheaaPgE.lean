/- What the laws of this claim need, together: the logic, data in memory, the walks of functions. -/
import Derived.Test.YtibejpgjgkeheaaPgD
import Derived.KernelRfl
set_option linter.unusedVariables false
set_option linter.unusedSimpArgs false
set_option linter.unusedVariables false
set_option linter.unusedSimpArgs false
namespace Go.SL
open Go Go.Proofs
def flX (F : List FlD) (n : Int) (k : Nat) : HP := allH ((flHs F n).set k hole)
section
variable {r : Option Nat} {n : Nat} {P : Program} {Q : Exit → St → Prop} {D : List Deferred} {E : Env} {L L1 L2 : List HP} {F F' : List FlD} {N : Int}
theorem flHs_at {k : Nat} {f : FlD} (hk : F[k]? = some f) : (flHs F N)[k]? = some (votes f.vb f.by_ N) := by simp [flHs, hk]
theorem T_flTake {c : Code} {k : Nat} {f : FlD} (N : Int) (hk : F[k]? = some f) [h1 : FindHP L (flH F N) L1] (h : T r n P c ⟨D, E, votes f.vb f.by_ N :: flX F N k :: L1⟩ Q) : T r n P c ⟨D, E, L⟩ Q := T_gives (h1.g.trans (allH_take (flHs_at hk))) h
theorem flPut (F' : List FlD) (N : Int) {k : Nat} {f : FlD} {bs : List Bool} (hk : F[k]? = some f) [h1 : FindC L f.vb (vc bs N) 154 L1] [h2 : FindHP L1 (flX F N k) L2] (hs : flHs F' N = (flHs F N).set k (votes f.vb bs N)) : Gives L (flH F' N :: L2) := by
  have := allH_put (q := votes f.vb bs N) (L := L2) (List.getElem?_eq_some_iff.1 (flHs_at (N := N) hk)).1
  rw [← hs] at this
  exact (h1.g.trans (Gives.cons _ h2.g)).trans this
theorem flCons (F : List FlD) (f : FlD) (N : Int) [h1 : FindC L f.vb (vc f.by_ N) 154 L1] [h2 : FindHP L1 (flH F N) L2] : Gives L (flH (f :: F) N :: L2) :=
  (h1.g.trans (Gives.cons _ h2.g)).trans (allP_cons (a := votes f.vb f.by_ N) (r := flHs F N) (L := L2))
end
theorem fl_of {s : PrD} {k : Nat} {f : FlP} (h : s.pl.F[k]? = some f) : ∃ g : FlD, s.F[k]? = some g ∧ g.pl = f := by
  have h' : (s.F.map FlD.pl)[k]? = some f := h
  rw [List.getElem?_map] at h'
  cases hg : s.F[k]? with
  | none => rw [hg] at h'; cases h'
  | some g => rw [hg] at h'; exact ⟨g, rfl, Option.some.inj h'⟩
theorem inc_D {s : PrD} (h : PI s.pl) : s.F.Pairwise fun f g => g.slot < f.slot := by
  have := h.inc
  exact List.pairwise_map.1 this
theorem fl_rep {L : List HP} {e : EntryD} {bv : Nat} (q : Option Addr × Nat) (hk : SlK L (intR .i64) q.1 q.2 e.order.cut) (ho : orderOk' e.order) : Knows L (fun M => flR.rep M (e, bv) (entryC e q ++ [.pointer (some ⟨bv, 0, none⟩)])) := (sep_sl hk).mono fun M h => ⟨q, rfl, h, ho⟩
theorem fl_nd {F : List FlD} (h : F.Pairwise fun f g => g.slot < f.slot) : ND (fmapP F) := List.pairwise_map.2 (h.imp fun h e => by dsimp only at e; omega)
theorem fl_get {F : List FlD} (h : F.Pairwise fun f g => g.slot < f.slot) {k : Nat} {f : FlD} (hk : F[k]? = some f) : getM (fmapP F) f.slot = some (f.en, f.vb) := getM_of_mem (fl_nd h) (List.mem_map.2 ⟨f, List.mem_of_getElem? hk, rfl⟩)
theorem rBal_in {b : Int × Int} (h : rBal b) : intIn .i64 b.1 ∧ intIn .i64 b.2 := by
  unfold rBal rNum at h
  exact ⟨i64In_mk (by omega), i64In_mk (by omega)⟩
theorem prAllE {L : List HP} {b bv : Nat} {s : PrD} {bs : List Bool} {X : List MsgD} (m : MsgD) (q : MsgP) (hX : allK s.node s.nodes m bs s.nodes.toNat = X) (hn : 1 ≤ s.nodes ∧ s.nodes ≤ 7) (hb : bs.length = 7) (hk : MsgK L m q) (ho : orderOk' m.en.order) (hok : ∀ to : Int, 0 ≤ to → to < 7 → MsgOk (toM m s.node to)) : Fn Try.prog 108 #[.pointer (some ⟨b, 0, none⟩), .agg (List.toArray (msgC m q)), .func (.func 109) #[.pointer (some ⟨bv, 0, none⟩)] #[]] (cells b (prC s) 133 :: votes bv bs s.nodes :: L) (fun v L' => ∃ A c, v = .slice A X.length c ∧ L' = osl msgR 44 A c X :: cells b (prC s) 133 :: votes bv bs s.nodes :: L) := by
  subst hX; exact prAll_spec m q hn hb hk ho hok
theorem to_ok {m : MsgD} {node to : Int} (h0 : 0 ≤ node) (h1 : node < 7) (h2 : 0 ≤ to) (h3 : to < 7) (hk : intIn .i64 m.kind) (hb : rBal m.bal) (hs : 0 ≤ m.slot ∧ m.slot ≤ 2147483647) (he : orderOk' m.en.order) (ht : intIn .i64 m.time) : MsgOk (toM m node to) := ⟨hk, i64In_mk (by simp only [toM]; omega), i64In_mk (by simp only [toM]; omega), (rBal_in hb).1, (rBal_in hb).2, i64In_mk (by simp only [toM]; omega), he, ht⟩
theorem i64_0' : intIn .i64 0 := i64In_mk (by decide)
theorem i64_3' : intIn .i64 3 := i64In_mk (by decide)
theorem i64_1' : intIn .i64 1 := i64In_mk (by decide)
theorem prPrepares_spec {L : List HP} {b : Nat} {p : PP} : Fn Try.prog 80 #[.pointer (some ⟨b, 0, none⟩)] (pr b p :: L) (fun v L' => ∃ A c, v = .slice A (prepM p).length c ∧ L' = osl msgR 44 A c (prepM p) :: pr b p :: L) := by
  refine Fn_enter Try.func80 rfl rfl rfl rfl ?_
  refine T_region ?_
  refine TL_y rfl rfl (Y_assign rfl) ?_
  refine TL_nil ?_
  refine T_pr fun s hs hi => ?_
  subst hs
  have hn : 1 ≤ s.nodes ∧ s.nodes ≤ 7 := hi.nodes
  have hnd : 0 ≤ s.node ∧ s.node < s.nodes := hi.node
  have hfr : 0 ≤ s.frm ∧ s.frm ≤ 2147483647 := hi.frm
  refine T_region_draw (cells b (prC s) 133 :: []) [0, 0, 2, 6, 14, 0, 32, 96, 224, 0, 1022, 0, 2048, 6144, 14336, 30720, 65535, 131071] [] [(0, true), (1, true), (2, true), (3, true), (4, true), (5, true), (6, true), (7, true), (8, true), (9, true), (10, true), (11, true), (12, true), (13, true), (14, true), (15, true), (16, false), (17, true)] (by kernel_rfl) (by decide +kernel) GivesTo.g ?_
  refine TF_y rfl rfl (Y_move rfl) ?_
  refine TF_y rfl rfl (Y_move rfl) ?_
  refine TF_y rfl rfl (Y_nil_check rfl) ?_
  refine TF_y rfl rfl (Y_field_addr rfl) ?_
  refine TF_y rfl rfl (Y_load_agg rfl rfl) ?_
  refine TF_y rfl rfl (Y_move rfl) ?_
  refine TF_y rfl rfl (Y_nil_check rfl) ?_
  refine TF_y rfl rfl (Y_field_addr rfl) ?_
  refine TF_y rfl rfl (Y_load rfl rfl) ?_
  refine TF_y rfl rfl (Y_build rfl rfl) ?_
  refine TF_y rfl rfl (Y_build rfl rfl) ?_
  refine TF_y rfl rfl (Y_move rfl) ?_
  refine TF_y rfl rfl (Y_nil_check rfl) ?_
  refine TF_y rfl rfl (Y_field_addr rfl) ?_
  refine TF_y rfl rfl (Y_load rfl rfl) ?_
  refine TF_y rfl rfl (Y_make_func rfl rfl) ?_
  refine TF_anchor rfl ?_
  refine TL_call rfl rfl (prAllE (X := prepM s.pl) (prepB s.pl) mP0 rfl hn hi.told (msgK_nil rfl rfl rfl rfl) noopOk (fun to h1 h2 ↦ to_ok hnd.1 (by omega) h1 h2 i64_1' hi.bal hfr noopOk i64_0')) ?_
  rintro _ _ ⟨A19, c19, rfl, rfl⟩
  refine TF_end GivesTo.g ?_
  refine TF_y rfl rfl (Y_assign rfl) ?_
  refine TF_nil ?_
  refine T_ret ?_
  refine RetQ.gives (pr_close b s _ rfl hi) ?_
  exact RetG_1 (.inl rfl) rfl (ResV.tmp rfl) GivesTo.g (⟨A19, c19, rfl, rfl⟩)
theorem prAccepts_spec {L : List HP} {b : Nat} {p : PP} {k : Nat} {f : FlP} (hk : p.F[k]? = some f) : Fn Try.prog 88 #[.pointer (some ⟨b, 0, none⟩), .int .i64 f.slot] (pr b p :: L) (fun v L' => ∃ A c, v = .slice A (accM p f).length c ∧ L' = osl msgR 44 A c (accM p f) :: pr b p :: L) := by
  refine Fn_enter Try.func88 rfl rfl rfl rfl ?_
  refine T_region ?_
  refine TL_y rfl rfl (Y_assign rfl) ?_
  refine TL_nil ?_
  refine T_pr fun s hs hi => ?_
  subst hs
  obtain ⟨g, hg, rfl⟩ := fl_of hk
  have hn : 1 ≤ s.nodes ∧ s.nodes ≤ 7 := hi.nodes
  have hnd : 0 ≤ s.node ∧ s.node < s.nodes := hi.node
  have hget := fl_get (inc_D hi) hg
  have hmem := List.mem_of_getElem? hk
  have hrg := hi.rng _ hmem
  have hnx := hi.next
  have hby := hi.by_ _ hmem
  have hfe := hi.fen _ hmem
  dsimp only at hrg hby hfe hnx
  refine T_region ?_
  refine TL_y rfl rfl (Y_move rfl) ?_
  refine TL_y rfl rfl (Y_nil_check rfl) ?_
  refine TL_y rfl rfl (Y_field_addr rfl) ?_
  refine TL_y rfl rfl (Y_load rfl rfl) ?_
  refine TL_y rfl rfl (Y_move rfl) ?_
  refine TL_lookup_x (R := flR) (k := g.slot) rfl rfl rfl (i64In_mk (by omega)) (fun hn => absurd hn (by rw [hget]; simp)) (fun u q hu2 hou => ?_)
  rw [hget] at hu2
  obtain rfl := Option.some.inj hu2
  simp only [List.cons_append, List.nil_append]
  refine TL_alloc rfl rfl ?_
  intro b5
  refine TL_store rfl rfl rfl rfl rfl rfl ?_
  refine TL_nil ?_
  refine T_flTake s.nodes hg ?_
  refine T_region_draw (cells b (prC s) 133 :: cells b5 [.bool g.en.noop, .string g.en.order.token, .string g.en.order.cart, .int .i64 g.en.order.epoch, .slice q.1 g.en.order.cut.length q.2, .pointer (some ⟨g.vb, 0, none⟩)] 144 :: []) [0, 0, 2, 6, 14, 0, 0, 64, 254, 0, 512, 1536, 4095, 8191] [] [(0, true), (1, true), (2, true), (3, true), (4, true), (5, true), (6, true), (7, true), (8, true), (9, true), (10, true), (11, true), (12, false), (13, true)] (by kernel_rfl) (by decide +kernel) GivesTo.g ?_
  refine TF_y rfl rfl (Y_move rfl) ?_
  refine TF_y rfl rfl (Y_move rfl) ?_
  refine TF_y rfl rfl (Y_nil_check rfl) ?_
  refine TF_y rfl rfl (Y_field_addr rfl) ?_
  refine TF_y rfl rfl (Y_load_agg rfl rfl) ?_
  refine TF_y rfl rfl (Y_move rfl) ?_
  refine TF_y rfl rfl (Y_field_addr rfl) ?_
  refine TF_y rfl rfl (Y_load_agg rfl rfl) ?_
  refine TF_y rfl rfl (Y_build rfl rfl) ?_
  refine TF_y rfl rfl (Y_field_addr rfl) ?_
  refine TF_y rfl rfl (Y_load rfl rfl) ?_
  refine TF_y rfl rfl (Y_make_func rfl rfl) ?_
  refine TF_anchor rfl ?_
  refine TL_pullc g.vb ?_
  refine TL_pullc b ?_
  refine TL_call rfl rfl (prAllE (X := accM s.pl g.pl) (accB s.pl g.slot g.en) ⟨q, (none, 0), (none, 0), (none, 0)⟩ rfl hn hby ⟨slk, slnil, slnil, slnil⟩ hfe.2 (fun to h1 h2 ↦ to_ok hnd.1 (by omega) h1 h2 i64_3' hi.bal (by dsimp only; omega) hfe.2 i64_0')) ?_
  rintro _ _ ⟨A24, c24, rfl, rfl⟩
  refine TF_end GivesTo.g ?_
  refine TF_y rfl rfl (Y_assign rfl) ?_
  refine TF_nil ?_
  refine T_ret ?_
  refine RetQ.gives (flPut s.F s.nodes hg (set_same (flHs_at hg)).symm) ?_
  refine RetQ.gives (pr_close b s _ rfl hi) ?_
  exact RetG_1 (.inl rfl) rfl (ResV.tmp rfl) GivesTo.g (⟨A24, c24, rfl, rfl⟩)
theorem putP_I {p : PP} {slot : Int} {e : EntryD} (h : PI p) (hph : p.phase ≠ 1) (hs : ∀ f ∈ p.F, f.slot < slot) (hl : p.F.length < 4096) (h0 : 0 ≤ slot ∧ slot ≤ 2147483647) (he : rEntry e ∧ orderOk' e.order) : PI (putP p slot e) where
  nodes := h.nodes
  node := h.node
  phase := h.phase
  told := h.told
  by_ := fun f hf => by
    rcases List.mem_cons.1 hf with rfl | hf
    · exact List.length_replicate
    · exact h.by_ f hf
  inc := List.pairwise_cons.2 ⟨hs, h.inc⟩
  len := by show p.F.length + 1 ≤ 4096; omega
  rng := fun f hf => by
    rcases List.mem_cons.1 hf with rfl | hf
    · show 0 ≤ slot ∧ slot < slot + 1; omega
    · have := h.rng f hf; have := hs f hf; show 0 ≤ f.slot ∧ f.slot < slot + 1; omega
  next := by show 0 ≤ slot + 1 ∧ slot + 1 ≤ 2147483648; omega
  frm := h.frm
  kept := h.kept
  bal := h.bal
  seen := h.seen
  kin := h.kin
  fen := fun f hf => by
    rcases List.mem_cons.1 hf with rfl | hf
    · exact he
    · exact h.fen f hf
  ph1 := fun e => absurd e hph
theorem prPropose_spec {L : List HP} {b : Nat} {p : PP} {A : Option Addr} {c : Nat} (slot : Int) (e : EntryD) (hph : p.phase ≠ 1) (hs : ∀ f ∈ p.F, f.slot < slot) (hl : p.F.length < 4096) (h0 : 0 ≤ slot ∧ slot ≤ 2147483647) (he : rEntry e ∧ orderOk' e.order) (hk : SlN L (intR .i64) A c e.order.cut) : Fn Try.prog 87 #[.pointer (some ⟨b, 0, none⟩), .int .i64 slot, .agg (List.toArray (entryC e (A, c)))] (pr b p :: L) (fun v L' => ∃ A' c', v = .slice A' (putO p slot e).length c' ∧ L' = osl msgR 44 A' c' (putO p slot e) :: pr b (putP p slot e) :: L) := by
  refine Fn_enter Try.func87 rfl rfl rfl rfl ?_
  refine T_region ?_
  refine TL_box rfl rfl rfl ?_
  intro b5
  refine TL_y rfl rfl (Y_assign rfl) ?_
  refine TL_nil ?_
  refine T_pullk b ?_
  refine T_pr fun s hst hi => ?_
  subst hst
  have hn : 1 ≤ s.nodes ∧ s.nodes ≤ 7 := hi.nodes
  refine T_region ?_
  refine TL_y rfl rfl (Y_move rfl) ?_
  refine TL_y rfl rfl (Y_nil_check rfl) ?_
  refine TL_y rfl rfl (Y_field_addr rfl) ?_
  refine TL_y rfl rfl (Y_load rfl rfl) ?_
  refine TL_call rfl rfl (newVotes_ok hn _) ?_
  rintro _ _ ⟨bv, rfl, rfl⟩
  refine TL_y rfl rfl (Y_move rfl) ?_
  refine TL_y rfl rfl (Y_extract rfl rfl) ?_
  refine TL_y rfl rfl (Y_extract rfl rfl) ?_
  refine TL_y rfl rfl (Y_assign rfl) ?_
  refine TL_y rfl rfl (Y_assign rfl) ?_
  refine TL_nil ?_
  refine T_region_draw (cells b (prC s) 133 :: cells b5 (entryC e (A, c)) 27 :: []) [0, 1, 3, 7, 0, 0, 32, 0, 224, 511] [] [(0, true), (1, true), (2, true), (3, true), (4, true), (5, true), (7, true), (6, false), (8, true), (9, false)] (by kernel_rfl) (by decide +kernel) GivesTo.g ?_
  refine TF_y rfl rfl (Y_move rfl) ?_
  refine TF_y rfl rfl (Y_nil_check rfl) ?_
  refine TF_y rfl rfl (Y_field_addr rfl) ?_
  refine TF_y rfl rfl (Y_load rfl rfl) ?_
  refine TF_y rfl rfl (Y_move rfl) ?_
  refine TF_y rfl rfl (Y_load_agg rfl rfl) ?_
  refine TF_y rfl rfl (Y_move rfl) ?_
  refine TF_anchor rfl ?_
  refine TL_call rfl rfl (prCopied_spec e (A := A) (c := c) (SlN.of_gives GivesTo.g hk) he.2) ?_
  rintro _ _ ⟨q, rfl, rfl⟩
  refine TL_freeze_osl ?_
  refine TF_end GivesTo.g ?_
  refine TF_y rfl rfl (Y_build rfl rfl) ?_
  refine TF_anchor rfl ?_
  refine TL_update (R := flR) (k := slot) (u := (e, bv)) (cs := entryC e q ++ [.pointer (some ⟨bv, 0, none⟩)]) (fmapP (⟨slot, e, no7, bv⟩ :: s.F)) rfl rfl rfl (i64In_mk (by omega)) (fl_rep q slk he.2) (by rw [del_none (getM_none.2 fun z hz => by obtain ⟨f, hf, rfl⟩ := List.mem_map.1 hz; have := hs f.pl (List.mem_map.2 ⟨f, hf, rfl⟩); dsimp only at this ⊢; omega)]; exact List.Perm.refl _) ?_
  refine TF_end GivesTo.g ?_
  refine TF_nil ?_
  refine T_region ?_
  refine TL_y rfl rfl (Y_move rfl) ?_
  refine TL_y rfl rfl (Y_move rfl) ?_
  refine TL_y rfl rfl (Y_add rfl rfl (by omega)) ?_
  refine TL_y rfl rfl (Y_nil_check rfl) ?_
  refine TL_y rfl rfl (Y_field_addr rfl) ?_
  refine TL_store rfl rfl rfl rfl rfl rfl ?_
  refine TL_nil ?_
  refine T_gives (flCons s.F ⟨slot, e, no7, bv⟩ s.nodes) ?_
  refine T_gives (pr_close b ⟨s.node, s.nodes, s.phase, s.bal, s.seen, s.frm, slot + 1, s.bt, s.told, s.A, s.c, s.kept, s.bm, ⟨slot, e, no7, bv⟩ :: s.F⟩ (putP s.pl slot e) rfl (putP_I hi hph hs hl h0 he)) ?_
  refine T_region ?_
  refine TL_y rfl rfl (Y_move rfl) ?_
  refine TL_y rfl rfl (Y_move rfl) ?_
  refine TL_pullk b ?_
  refine TL_call rfl rfl (prAccepts_spec (p := putP s.pl slot e) (k := 0) (f := ⟨slot, e, no7⟩) rfl) ?_
  rintro _ _ ⟨A33, c33, rfl, rfl⟩
  rw [show accM (putP s.pl slot e) ⟨slot, e, no7⟩ = putO s.pl slot e from rfl]
  refine TL_y rfl rfl (Y_assign rfl) ?_
  refine TL_nil ?_
  refine T_ret ?_
  exact RetG_1 (.inl rfl) rfl (ResV.tmp rfl) GivesTo.g (⟨A33, c33, rfl, rfl⟩)
end Go.SL
set_option linter.unusedVariables false
set_option linter.unusedSimpArgs false
namespace Go.SL
open Go Go.Proofs
theorem name_small {t : ByteArray} (h : isName t) : t.size ≤ 32 := h.2.2
theorem rEntry_ok {e : EntryD} (h : rEntry e) : orderOk' e.order := by
  unfold rEntry at h
  split at h
  · unfold someSeal at h
    simp only [Bool.or_eq_false_iff, decide_eq_false_iff_not, ne_eq, Classical.not_not] at h
    obtain ⟨⟨⟨h1, h2⟩, h3⟩, h4⟩ := h
    have e0 : emptyS.size = 0 := rfl
    exact ⟨by rw [h1, e0]; decide, by rw [h2, e0]; decide, by rw [h3]; exact i64_0', by omega⟩
  · have h1 := name_small h.1; have h2 := name_small h.2.1; have h3 := h.2.2.1; have h4 := h.2.2.2.2.1
    unfold rNum at h3
    exact ⟨by simp only [maxEl]; omega, by simp only [maxEl]; omega, i64In_mk (by omega), by omega⟩
theorem rVoted_ok {v : VotedD} (h : rVoted v) : votedOk v := by
  have h1 := h.1
  unfold rNum at h1
  exact ⟨i64In_mk (by omega), (rBal_in h.2.1).1, (rBal_in h.2.1).2, rEntry_ok h.2.2⟩
theorem nextB_ok {a : Int × Int} {node : Int} (h : (nextB a node).2 = 0) : (nextB a node).1 = (a.1 + 1, node) ∧ 0 ≤ a.1 ∧ a.1 < 2147483647 ∧ 0 ≤ node ∧ node < 7 := by
  unfold nextB at h ⊢
  split at h
  · simp at h
  · rename_i h1
    rw [if_neg h1]
    split at h
    · simp at h
    · rename_i h2
      rw [if_neg h2]
      exact ⟨rfl, by omega, by omega, by omega, by omega⟩
theorem startE_0 {p : PP} {floor : Int × Int} {slot : Int} (h : startE p floor slot = 0) : 0 ≤ slot ∧ slot ≤ 2147483647 ∧ isBal floor ∧ (nextB (greaterB floor p.seen) p.node).2 = 0 := by
  unfold startE at h
  split at h
  · simp at h
  · rename_i h1
    exact ⟨by omega, by omega, Classical.byContradiction fun h2 => h1 (.inr (.inr h2)), h⟩
theorem startP_I {p : PP} {floor : Int × Int} {slot : Int} (hi : PI p) (h : startE p floor slot = 0) : PI (startP p floor slot) := by
  obtain ⟨h1, h2, h3, h4⟩ := startE_0 h
  obtain ⟨e, h5, h6, h7, h8⟩ := nextB_ok h4
  have hb : rBal (nextB (greaterB floor p.seen) p.node).1 := by rw [e]; unfold rBal rNum; dsimp only; omega
  have k := ppStop_I hi
  unfold startP
  rw [if_pos h]
  exact ⟨k.nodes, k.node, by simp, k.told, k.by_, k.inc, k.len, k.rng, k.next, ⟨h1, h2⟩, k.kept, hb, hb, k.kin, k.fen, fun _ => rfl⟩
theorem prStart_spec {L : List HP} {b : Nat} {p : PP} (floor : Int × Int) (slot : Int) : Fn Try.prog 38 #[.pointer (some ⟨b, 0, none⟩), balV floor, .int .i64 slot] (pr b p :: L) (fun v L' => ∃ A c, v = .tuple #[.slice A (startO p floor slot).length c, .int .i64 (startE p floor slot)] ∧ L' = osl msgR 44 A c (startO p floor slot) :: pr b (startP p floor slot) :: L) := by
  refine Fn_enter Try.func38 rfl rfl rfl rfl ?_
  refine T_region ?_
  refine TL_box rfl rfl rfl ?_
  intro b4
  refine TL_y rfl rfl (Y_assign rfl) ?_
  refine TL_y rfl rfl (Y_assign rfl) ?_
  refine TL_nil ?_
  refine T_seq ?_
  refine T_block ?_
  refine T_region ?_
  refine TL_y rfl rfl (Y_move rfl) ?_
  refine TL_pullk b ?_
  refine TL_call rfl rfl (prMade_spec) ?_
  rintro _ _ ⟨rfl, rfl⟩
  refine TL_name 12 (v' := .bool true) rfl (rfl) ?_
  refine TL_y rfl rfl (Y_not_t rfl) ?_
  refine TL_y rfl rfl (Y_assign rfl) ?_
  refine TL_nil ?_
  refine T_cond_false rfl ?_
  refine T_region ?_
  refine TL_y rfl rfl (Y_move rfl) ?_
  refine TL_y rfl rfl (Y_lt rfl rfl) ?_
  refine TL_y rfl rfl (Y_move rfl) ?_
  refine TL_splitd 17 rfl (fun h17 => ?_) (fun h17 => ?_)
  · refine TL_gskip rfl rfl rfl rfl ?_
    refine TL_gskip rfl rfl rfl rfl ?_
    refine TL_y rfl rfl (Y_pick_t rfl rfl) ?_
    refine TL_y rfl rfl (Y_move rfl) ?_
    refine TL_gskip rfl rfl rfl rfl ?_
    refine TL_gskip rfl rfl rfl rfl ?_
    refine TL_gskip rfl rfl rfl rfl ?_
    refine TL_y rfl rfl (Y_pick_t rfl rfl) ?_
    refine TL_y rfl rfl (Y_assign rfl) ?_
    refine TL_nil ?_
    refine T_cond_true rfl ?_
    refine T_region ?_
    refine TL_y rfl rfl (Y_assign rfl) ?_
    refine TL_y rfl rfl (Y_assign rfl) ?_
    refine TL_nil ?_
    refine T_ret ?_
    refine inB_ret ?_
    refine thenS_ret ?_
    have he : startE p floor slot = 1 := by unfold startE; rw [if_pos (by first | (left; omega) | (right; left; omega) | (right; right; assumption))]
    have ho : startO p floor slot = [] := by unfold startO; rw [if_neg (by omega)]
    have hp : startP p floor slot = p := by unfold startP; rw [if_neg (by omega)]
    rw [he, ho, hp]
    refine RetQ.gives (osl_nil msgR 44 none _) ?_
    exact RetG_2 (.inl rfl) rfl (ResV.tmp rfl) (ResV.tmp rfl) GivesTo.g (⟨none, 0, rfl, rfl⟩)
  · refine TL_grun rfl rfl ?_
    refine TL_y rfl rfl (Y_move rfl) ?_
    refine TL_grun rfl rfl ?_
    refine TL_y rfl rfl (Y_gt rfl rfl) ?_
    refine TL_y rfl rfl (Y_pick_f rfl rfl) ?_
    refine TL_y rfl rfl (Y_move rfl) ?_
    refine TL_splitd 21 rfl (fun h21 => ?_) (fun h21 => ?_)
    · refine TL_gskip rfl rfl rfl rfl ?_
      refine TL_gskip rfl rfl rfl rfl ?_
      refine TL_gskip rfl rfl rfl rfl ?_
      refine TL_y rfl rfl (Y_pick_t rfl rfl) ?_
      refine TL_y rfl rfl (Y_assign rfl) ?_
      refine TL_nil ?_
      refine T_cond_true rfl ?_
      refine T_region ?_
      refine TL_y rfl rfl (Y_assign rfl) ?_
      refine TL_y rfl rfl (Y_assign rfl) ?_
      refine TL_nil ?_
      refine T_ret ?_
      refine inB_ret ?_
      refine thenS_ret ?_
      have he : startE p floor slot = 1 := by unfold startE; rw [if_pos (by first | (left; omega) | (right; left; omega) | (right; right; assumption))]
      have ho : startO p floor slot = [] := by unfold startO; rw [if_neg (by omega)]
      have hp : startP p floor slot = p := by unfold startP; rw [if_neg (by omega)]
      rw [he, ho, hp]
      refine RetQ.gives (osl_nil msgR 44 none _) ?_
      exact RetG_2 (.inl rfl) rfl (ResV.tmp rfl) (ResV.tmp rfl) GivesTo.g (⟨none, 0, rfl, rfl⟩)
    · refine TL_grun rfl rfl ?_
      refine TL_y rfl rfl (Y_load_agg rfl rfl) ?_
      refine TL_grun rfl rfl ?_
      refine TL_call rfl rfl (prIsBallot_spec floor _) ?_
      rintro _ _ ⟨rfl, rfl⟩
      refine TL_grun rfl rfl ?_
      refine TL_y rfl rfl (Y_not_d rfl) ?_
      refine TL_y rfl rfl (Y_pick_f rfl rfl) ?_
      refine TL_y rfl rfl (Y_assign rfl) ?_
      refine TL_nil ?_
      refine T_if rfl (fun h14 => ?_) (fun h14 => ?_)
      · refine T_region ?_
        refine TL_y rfl rfl (Y_assign rfl) ?_
        refine TL_y rfl rfl (Y_assign rfl) ?_
        refine TL_nil ?_
        refine T_ret ?_
        refine inB_ret ?_
        refine thenS_ret ?_
        have he : startE p floor slot = 1 := by unfold startE; rw [if_pos (by first | (left; omega) | (right; left; omega) | (right; right; assumption))]
        have ho : startO p floor slot = [] := by unfold startO; rw [if_neg (by omega)]
        have hp : startP p floor slot = p := by unfold startP; rw [if_neg (by omega)]
        rw [he, ho, hp]
        refine RetQ.gives (osl_nil msgR 44 none _) ?_
        exact RetG_2 (.inl rfl) rfl (ResV.tmp rfl) (ResV.tmp rfl) GivesTo.g (⟨none, 0, rfl, rfl⟩)
      · refine T_skip ?_
        refine inB_normal ?_
        refine thenS_normal ?_
        refine T_pullk b ?_
        refine T_pr fun s hs hi => ?_
        subst hs
        have heq : startE s.pl floor slot = (nextB (greaterB floor s.seen) s.node).2 := by unfold startE; rw [if_neg (by rintro (h | h | h) <;> first | omega | contradiction)]
        refine T_rd [0, 0, 2, 6, 14, 31, 0, 64, 192, 448, 1023, 2047, 4095, 4095, 0, 24575, 65535] (by kernel_rfl) (by decide +kernel) ?_
        refine RD_pair 5 14 (by decide) ?_ ?_
        · refine RD_pair 10 14 (by decide) ?_ ?_
          · refine RD_leaf (cells b (prC s) 133 :: cells b4 [.int .i64 floor.1, .int .i64 floor.2] 40 :: []) [0, 0, 2, 6, 14, 31, 0, 64, 192, 448, 1023, 2047, 4095, 4095, 2047, 24575, 65535] [] [(0, true), (1, true), (2, true), (3, true), (4, true), (6, true), (7, true), (8, true), (9, true), (5, false), (10, false), (11, true), (12, true), (13, true), (14, false), (15, false), (16, true)] (by decide +kernel) GivesTo.g ?_
            refine TF_y rfl rfl (Y_load_agg rfl rfl) ?_
            refine TF_y rfl rfl (Y_move rfl) ?_
            refine TF_y rfl rfl (Y_nil_check rfl) ?_
            refine TF_y rfl rfl (Y_field_addr rfl) ?_
            refine TF_y rfl rfl (Y_load_agg rfl rfl) ?_
            refine TF_y rfl rfl (Y_move rfl) ?_
            refine TF_y rfl rfl (Y_nil_check rfl) ?_
            refine TF_y rfl rfl (Y_field_addr rfl) ?_
            refine TF_y rfl rfl (Y_load rfl rfl) ?_
            refine TF_anchor rfl ?_
            refine TL_call rfl rfl (prGreater_spec floor s.seen _) ?_
            rintro _ _ ⟨rfl, rfl⟩
            refine TF_end GivesTo.g ?_
            refine TF_anchor rfl ?_
            refine TL_call rfl rfl (next_spec (greaterB floor s.seen) s.node _) ?_
            rintro _ _ ⟨rfl, rfl⟩
            refine TF_end GivesTo.g ?_
            refine TF_y rfl rfl (Y_move rfl) ?_
            refine TF_y rfl rfl (Y_extract rfl rfl) ?_
            refine TF_y rfl rfl (Y_extract rfl rfl) ?_
            refine TF_anchor rfl ?_
            refine TL_alloc rfl rfl ?_
            intro b8
            refine TF_end GivesTo.g ?_
            refine TF_anchor rfl ?_
            refine TL_store rfl rfl rfl rfl rfl rfl ?_
            refine TF_end GivesTo.g ?_
            refine TF_y rfl rfl (Y_assign rfl) ?_
            refine TF_nil ?_
            refine thenS_normal ?_
            refine T_seq ?_
            refine T_region ?_
            refine TL_y rfl rfl (Y_move rfl) ?_
            refine TL_y rfl rfl (Y_ne rfl rfl) ?_
            refine TL_nil ?_
            refine T_if rfl (fun h41 => ?_) (fun h41 => ?_)
            · refine T_region ?_
              refine TL_y rfl rfl (Y_move rfl) ?_
              refine TL_y rfl rfl (Y_assign rfl) ?_
              refine TL_y rfl rfl (Y_assign rfl) ?_
              refine TL_nil ?_
              refine T_ret ?_
              refine thenS_ret ?_
              have he : startE s.pl floor slot ≠ 0 := by rw [heq]; assumption
              have ho : startO s.pl floor slot = [] := by unfold startO; rw [if_neg he]
              have hp : startP s.pl floor slot = s.pl := by unfold startP; rw [if_neg he]
              rw [heq, ho, hp]
              refine RetQ.gives (pr_close b s _ rfl hi) ?_
              refine RetQ.gives (osl_nil msgR 44 none _) ?_
              exact RetG_2 (.inl rfl) rfl (ResV.tmp rfl) (ResV.tmp rfl) GivesTo.g (⟨none, 0, rfl, rfl⟩)
            · refine T_skip ?_
              refine thenS_normal ?_
              refine T_gives (pr_close b s _ rfl hi) ?_
              have he : startE s.pl floor slot = 0 := by rw [heq]; omega
              refine T_region ?_
              refine TL_y rfl rfl (Y_move rfl) ?_
              refine TL_pullk b ?_
              refine TL_call rfl rfl (prStop_spec) ?_
              rintro _ _ ⟨rfl, rfl⟩
              skip
              refine TL_nil ?_
              refine T_pullk b ?_
              refine T_pr fun s2 hs2 hi2 => ?_
              refine T_region_draw (cells b8 [.int .i64 (nextB (greaterB floor s.seen) s.node).1.1, .int .i64 (nextB (greaterB floor s.seen) s.node).1.2] 40 :: []) [0, 0, 0, 0, 0, 0, 0, 1, 129, 385, 915, 1939, 3987, 8119, 16311, 32695, 65535, 131071, 262143] [] [(0, true), (1, true), (2, true), (3, true), (4, true), (5, true), (6, true), (7, true), (8, true), (9, false), (10, true), (11, true), (12, false), (13, true), (14, true), (15, false), (16, true), (17, true), (18, false)] (by kernel_rfl) (by decide +kernel) GivesTo.g ?_
              refine TF_y rfl rfl (Y_move rfl) ?_
              refine TF_y rfl rfl (Y_move rfl) ?_
              refine TF_y rfl rfl (Y_move rfl) ?_
              refine TF_y rfl rfl (Y_move rfl) ?_
              refine TF_y rfl rfl (Y_load_agg rfl rfl) ?_
              refine TF_y rfl rfl (Y_load_agg rfl rfl) ?_
              refine TF_y rfl rfl (Y_move rfl) ?_
              refine TF_y rfl rfl (Y_nil_check rfl) ?_
              refine TF_y rfl rfl (Y_field_addr rfl) ?_
              refine TF_anchor rfl ?_
              refine TL_store rfl rfl rfl rfl rfl rfl ?_
              refine TF_end GivesTo.g ?_
              refine TF_y rfl rfl (Y_nil_check rfl) ?_
              refine TF_y rfl rfl (Y_field_addr rfl) ?_
              refine TF_anchor rfl ?_
              refine TL_store rfl rfl rfl rfl rfl rfl ?_
              refine TF_end GivesTo.g ?_
              refine TF_y rfl rfl (Y_nil_check rfl) ?_
              refine TF_y rfl rfl (Y_field_addr rfl) ?_
              refine TF_anchor rfl ?_
              refine TL_store rfl rfl rfl rfl rfl rfl ?_
              refine TF_end GivesTo.g ?_
              refine TF_y rfl rfl (Y_nil_check rfl) ?_
              refine TF_y rfl rfl (Y_field_addr rfl) ?_
              refine TF_anchor rfl ?_
              refine TL_store rfl rfl rfl rfl rfl rfl ?_
              refine TF_end GivesTo.g ?_
              refine TF_nil ?_
              refine T_gives (pr_close b ⟨s2.node, s2.nodes, 1, (nextB (greaterB floor s.seen) s.node).1, (nextB (greaterB floor s.seen) s.node).1, slot, s2.next, s2.bt, s2.told, s2.A, s2.c, s2.kept, s2.bm, s2.F⟩ (startP s.pl floor slot) (by unfold startP; rw [if_pos he, ← hs2]) (startP_I hi he)) ?_
              refine T_region ?_
              refine TL_y rfl rfl (Y_move rfl) ?_
              refine TL_pullk b ?_
              refine TL_call rfl rfl (prPrepares_spec) ?_
              rintro _ _ ⟨A61, c61, rfl, rfl⟩
              rw [show prepM (startP s.pl floor slot) = startO s.pl floor slot by unfold startO; rw [if_pos he]]
              refine TL_y rfl rfl (Y_assign rfl) ?_
              refine TL_y rfl rfl (Y_assign rfl) ?_
              refine TL_nil ?_
              refine T_ret ?_
              rw [he]
              exact RetG_2 (.inl rfl) rfl (ResV.tmp rfl) (ResV.tmp rfl) GivesTo.g (⟨A61, c61, rfl, rfl⟩)
          · refine RD_leaf (cells b (prC s) 133 :: cells b4 [.int .i64 floor.1, .int .i64 floor.2] 40 :: []) [0, 0, 2, 6, 14, 31, 0, 64, 192, 448, 17407, 18431, 20479, 20479, 63, 24575, 65535] [] [(0, true), (1, true), (2, true), (3, true), (4, true), (6, true), (7, true), (8, true), (9, true), (5, false), (14, false), (10, false), (11, true), (12, true), (13, true), (15, false), (16, true)] (by decide +kernel) GivesTo.g ?_
            refine TF_y rfl rfl (Y_load_agg rfl rfl) ?_
            refine TF_y rfl rfl (Y_move rfl) ?_
            refine TF_y rfl rfl (Y_nil_check rfl) ?_
            refine TF_y rfl rfl (Y_field_addr rfl) ?_
            refine TF_y rfl rfl (Y_load_agg rfl rfl) ?_
            refine TF_y rfl rfl (Y_move rfl) ?_
            refine TF_y rfl rfl (Y_nil_check rfl) ?_
            refine TF_y rfl rfl (Y_field_addr rfl) ?_
            refine TF_y rfl rfl (Y_load rfl rfl) ?_
            refine TF_anchor rfl ?_
            refine TL_call rfl rfl (prGreater_spec floor s.seen _) ?_
            rintro _ _ ⟨rfl, rfl⟩
            refine TF_end GivesTo.g ?_
            refine TF_anchor rfl ?_
            refine TL_alloc rfl rfl ?_
            intro b8
            refine TF_end GivesTo.g ?_
            refine TF_anchor rfl ?_
            refine TL_call rfl rfl (next_spec (greaterB floor s.seen) s.node _) ?_
            rintro _ _ ⟨rfl, rfl⟩
            refine TF_end GivesTo.g ?_
            refine TF_y rfl rfl (Y_move rfl) ?_
            refine TF_y rfl rfl (Y_extract rfl rfl) ?_
            refine TF_y rfl rfl (Y_extract rfl rfl) ?_
            refine TF_anchor rfl ?_
            refine TL_store rfl rfl rfl rfl rfl rfl ?_
            refine TF_end GivesTo.g ?_
            refine TF_y rfl rfl (Y_assign rfl) ?_
            refine TF_nil ?_
            refine thenS_normal ?_
            refine T_seq ?_
            refine T_region ?_
            refine TL_y rfl rfl (Y_move rfl) ?_
            refine TL_y rfl rfl (Y_ne rfl rfl) ?_
            refine TL_nil ?_
            refine T_if rfl (fun h41 => ?_) (fun h41 => ?_)
            · refine T_region ?_
              refine TL_y rfl rfl (Y_move rfl) ?_
              refine TL_y rfl rfl (Y_assign rfl) ?_
              refine TL_y rfl rfl (Y_assign rfl) ?_
              refine TL_nil ?_
              refine T_ret ?_
              refine thenS_ret ?_
              have he : startE s.pl floor slot ≠ 0 := by rw [heq]; assumption
              have ho : startO s.pl floor slot = [] := by unfold startO; rw [if_neg he]
              have hp : startP s.pl floor slot = s.pl := by unfold startP; rw [if_neg he]
              rw [heq, ho, hp]
              refine RetQ.gives (pr_close b s _ rfl hi) ?_
              refine RetQ.gives (osl_nil msgR 44 none _) ?_
              exact RetG_2 (.inl rfl) rfl (ResV.tmp rfl) (ResV.tmp rfl) GivesTo.g (⟨none, 0, rfl, rfl⟩)
            · refine T_skip ?_
              refine thenS_normal ?_
              refine T_gives (pr_close b s _ rfl hi) ?_
              have he : startE s.pl floor slot = 0 := by rw [heq]; omega
              refine T_region ?_
              refine TL_y rfl rfl (Y_move rfl) ?_
              refine TL_pullk b ?_
              refine TL_call rfl rfl (prStop_spec) ?_
              rintro _ _ ⟨rfl, rfl⟩
              skip
              refine TL_nil ?_
              refine T_pullk b ?_
              refine T_pr fun s2 hs2 hi2 => ?_
              refine T_region_draw (cells b8 [.int .i64 (nextB (greaterB floor s.seen) s.node).1.1, .int .i64 (nextB (greaterB floor s.seen) s.node).1.2] 40 :: []) [0, 0, 0, 0, 0, 0, 0, 1, 129, 385, 915, 1939, 3987, 8119, 16311, 32695, 65535, 131071, 262143] [] [(0, true), (1, true), (2, true), (3, true), (4, true), (5, true), (6, true), (7, true), (8, true), (9, false), (10, true), (11, true), (12, false), (13, true), (14, true), (15, false), (16, true), (17, true), (18, false)] (by kernel_rfl) (by decide +kernel) GivesTo.g ?_
              refine TF_y rfl rfl (Y_move rfl) ?_
              refine TF_y rfl rfl (Y_move rfl) ?_
              refine TF_y rfl rfl (Y_move rfl) ?_
              refine TF_y rfl rfl (Y_move rfl) ?_
              refine TF_y rfl rfl (Y_load_agg rfl rfl) ?_
              refine TF_y rfl rfl (Y_load_agg rfl rfl) ?_
              refine TF_y rfl rfl (Y_move rfl) ?_
              refine TF_y rfl rfl (Y_nil_check rfl) ?_
              refine TF_y rfl rfl (Y_field_addr rfl) ?_
              refine TF_anchor rfl ?_
              refine TL_store rfl rfl rfl rfl rfl rfl ?_
              refine TF_end GivesTo.g ?_
              refine TF_y rfl rfl (Y_nil_check rfl) ?_
              refine TF_y rfl rfl (Y_field_addr rfl) ?_
              refine TF_anchor rfl ?_
              refine TL_store rfl rfl rfl rfl rfl rfl ?_
              refine TF_end GivesTo.g ?_
              refine TF_y rfl rfl (Y_nil_check rfl) ?_
              refine TF_y rfl rfl (Y_field_addr rfl) ?_
              refine TF_anchor rfl ?_
              refine TL_store rfl rfl rfl rfl rfl rfl ?_
              refine TF_end GivesTo.g ?_
              refine TF_y rfl rfl (Y_nil_check rfl) ?_
              refine TF_y rfl rfl (Y_field_addr rfl) ?_
              refine TF_anchor rfl ?_
              refine TL_store rfl rfl rfl rfl rfl rfl ?_
              refine TF_end GivesTo.g ?_
              refine TF_nil ?_
              refine T_gives (pr_close b ⟨s2.node, s2.nodes, 1, (nextB (greaterB floor s.seen) s.node).1, (nextB (greaterB floor s.seen) s.node).1, slot, s2.next, s2.bt, s2.told, s2.A, s2.c, s2.kept, s2.bm, s2.F⟩ (startP s.pl floor slot) (by unfold startP; rw [if_pos he, ← hs2]) (startP_I hi he)) ?_
              refine T_region ?_
              refine TL_y rfl rfl (Y_move rfl) ?_
              refine TL_pullk b ?_
              refine TL_call rfl rfl (prPrepares_spec) ?_
              rintro _ _ ⟨A61, c61, rfl, rfl⟩
              rw [show prepM (startP s.pl floor slot) = startO s.pl floor slot by unfold startO; rw [if_pos he]]
              refine TL_y rfl rfl (Y_assign rfl) ?_
              refine TL_y rfl rfl (Y_assign rfl) ?_
              refine TL_nil ?_
              refine T_ret ?_
              rw [he]
              exact RetG_2 (.inl rfl) rfl (ResV.tmp rfl) (ResV.tmp rfl) GivesTo.g (⟨A61, c61, rfl, rfl⟩)
        · refine RD_leaf (cells b (prC s) 133 :: cells b4 [.int .i64 floor.1, .int .i64 floor.2] 40 :: []) [0, 0, 2, 6, 14, 16415, 0, 64, 192, 448, 17407, 18431, 20479, 20479, 0, 24575, 65535] [] [(0, true), (1, true), (2, true), (3, true), (4, true), (6, true), (7, true), (8, true), (9, true), (14, false), (5, false), (10, false), (11, true), (12, true), (13, true), (15, false), (16, true)] (by decide +kernel) GivesTo.g ?_
          refine TF_y rfl rfl (Y_load_agg rfl rfl) ?_
          refine TF_y rfl rfl (Y_move rfl) ?_
          refine TF_y rfl rfl (Y_nil_check rfl) ?_
          refine TF_y rfl rfl (Y_field_addr rfl) ?_
          refine TF_y rfl rfl (Y_load_agg rfl rfl) ?_
          refine TF_y rfl rfl (Y_move rfl) ?_
          refine TF_y rfl rfl (Y_nil_check rfl) ?_
          refine TF_y rfl rfl (Y_field_addr rfl) ?_
          refine TF_y rfl rfl (Y_load rfl rfl) ?_
          refine TF_anchor rfl ?_
          refine TL_alloc rfl rfl ?_
          intro b8
          refine TF_end GivesTo.g ?_
          refine TF_anchor rfl ?_
          refine TL_call rfl rfl (prGreater_spec floor s.seen _) ?_
          rintro _ _ ⟨rfl, rfl⟩
          refine TF_end GivesTo.g ?_
          refine TF_anchor rfl ?_
          refine TL_call rfl rfl (next_spec (greaterB floor s.seen) s.node _) ?_
          rintro _ _ ⟨rfl, rfl⟩
          refine TF_end GivesTo.g ?_
          refine TF_y rfl rfl (Y_move rfl) ?_
          refine TF_y rfl rfl (Y_extract rfl rfl) ?_
          refine TF_y rfl rfl (Y_extract rfl rfl) ?_
          refine TF_anchor rfl ?_
          refine TL_store rfl rfl rfl rfl rfl rfl ?_
          refine TF_end GivesTo.g ?_
          refine TF_y rfl rfl (Y_assign rfl) ?_
          refine TF_nil ?_
          refine thenS_normal ?_
          refine T_seq ?_
          refine T_region ?_
          refine TL_y rfl rfl (Y_move rfl) ?_
          refine TL_y rfl rfl (Y_ne rfl rfl) ?_
          refine TL_nil ?_
          refine T_if rfl (fun h41 => ?_) (fun h41 => ?_)
          · refine T_region ?_
            refine TL_y rfl rfl (Y_move rfl) ?_
            refine TL_y rfl rfl (Y_assign rfl) ?_
            refine TL_y rfl rfl (Y_assign rfl) ?_
            refine TL_nil ?_
            refine T_ret ?_
            refine thenS_ret ?_
            have he : startE s.pl floor slot ≠ 0 := by rw [heq]; assumption
            have ho : startO s.pl floor slot = [] := by unfold startO; rw [if_neg he]
            have hp : startP s.pl floor slot = s.pl := by unfold startP; rw [if_neg he]
            rw [heq, ho, hp]
            refine RetQ.gives (pr_close b s _ rfl hi) ?_
            refine RetQ.gives (osl_nil msgR 44 none _) ?_
            exact RetG_2 (.inl rfl) rfl (ResV.tmp rfl) (ResV.tmp rfl) GivesTo.g (⟨none, 0, rfl, rfl⟩)
          · refine T_skip ?_
            refine thenS_normal ?_
            refine T_gives (pr_close b s _ rfl hi) ?_
            have he : startE s.pl floor slot = 0 := by rw [heq]; omega
            refine T_region ?_
            refine TL_y rfl rfl (Y_move rfl) ?_
            refine TL_pullk b ?_
            refine TL_call rfl rfl (prStop_spec) ?_
            rintro _ _ ⟨rfl, rfl⟩
            skip
            refine TL_nil ?_
            refine T_pullk b ?_
            refine T_pr fun s2 hs2 hi2 => ?_
            refine T_region_draw (cells b8 [.int .i64 (nextB (greaterB floor s.seen) s.node).1.1, .int .i64 (nextB (greaterB floor s.seen) s.node).1.2] 40 :: []) [0, 0, 0, 0, 0, 0, 0, 1, 129, 385, 915, 1939, 3987, 8119, 16311, 32695, 65535, 131071, 262143] [] [(0, true), (1, true), (2, true), (3, true), (4, true), (5, true), (6, true), (7, true), (8, true), (9, false), (10, true), (11, true), (12, false), (13, true), (14, true), (15, false), (16, true), (17, true), (18, false)] (by kernel_rfl) (by decide +kernel) GivesTo.g ?_
            refine TF_y rfl rfl (Y_move rfl) ?_
            refine TF_y rfl rfl (Y_move rfl) ?_
            refine TF_y rfl rfl (Y_move rfl) ?_
            refine TF_y rfl rfl (Y_move rfl) ?_
            refine TF_y rfl rfl (Y_load_agg rfl rfl) ?_
            refine TF_y rfl rfl (Y_load_agg rfl rfl) ?_
            refine TF_y rfl rfl (Y_move rfl) ?_
            refine TF_y rfl rfl (Y_nil_check rfl) ?_
            refine TF_y rfl rfl (Y_field_addr rfl) ?_
            refine TF_anchor rfl ?_
            refine TL_store rfl rfl rfl rfl rfl rfl ?_
            refine TF_end GivesTo.g ?_
            refine TF_y rfl rfl (Y_nil_check rfl) ?_
            refine TF_y rfl rfl (Y_field_addr rfl) ?_
            refine TF_anchor rfl ?_
            refine TL_store rfl rfl rfl rfl rfl rfl ?_
            refine TF_end GivesTo.g ?_
            refine TF_y rfl rfl (Y_nil_check rfl) ?_
            refine TF_y rfl rfl (Y_field_addr rfl) ?_
            refine TF_anchor rfl ?_
            refine TL_store rfl rfl rfl rfl rfl rfl ?_
            refine TF_end GivesTo.g ?_
            refine TF_y rfl rfl (Y_nil_check rfl) ?_
            refine TF_y rfl rfl (Y_field_addr rfl) ?_
            refine TF_anchor rfl ?_
            refine TL_store rfl rfl rfl rfl rfl rfl ?_
            refine TF_end GivesTo.g ?_
            refine TF_nil ?_
            refine T_gives (pr_close b ⟨s2.node, s2.nodes, 1, (nextB (greaterB floor s.seen) s.node).1, (nextB (greaterB floor s.seen) s.node).1, slot, s2.next, s2.bt, s2.told, s2.A, s2.c, s2.kept, s2.bm, s2.F⟩ (startP s.pl floor slot) (by unfold startP; rw [if_pos he, ← hs2]) (startP_I hi he)) ?_
            refine T_region ?_
            refine TL_y rfl rfl (Y_move rfl) ?_
            refine TL_pullk b ?_
            refine TL_call rfl rfl (prPrepares_spec) ?_
            rintro _ _ ⟨A61, c61, rfl, rfl⟩
            rw [show prepM (startP s.pl floor slot) = startO s.pl floor slot by unfold startO; rw [if_pos he]]
            refine TL_y rfl rfl (Y_assign rfl) ?_
            refine TL_y rfl rfl (Y_assign rfl) ?_
            refine TL_nil ?_
            refine T_ret ?_
            rw [he]
            exact RetG_2 (.inl rfl) rfl (ResV.tmp rfl) (ResV.tmp rfl) GivesTo.g (⟨A61, c61, rfl, rfl⟩)
end Go.SL
set_option linter.unusedVariables false
set_option linter.unusedSimpArgs false
namespace Go.SL
open Go Go.Proofs
theorem pickV_go {slot : Int} (l : List VotedD) : ∀ (o : Option VotedD), (∀ v, o = some v → v.slot = slot) → (∀ v, l.foldl (betterV slot) o = some v → (v ∈ l ∨ o = some v) ∧ v.slot = slot ∧ (∀ u ∈ l, u.slot = slot → ¬ ltB v.bal u.bal) ∧ ∀ u, o = some u → ¬ ltB v.bal u.bal) ∧ (l.foldl (betterV slot) o = none → o = none ∧ ∀ u ∈ l, u.slot ≠ slot) := by
  induction l with
  | nil => intro o ho; exact ⟨fun v h => ⟨.inr h, ho v h, by simp, fun u h2 => by have h' : o = some v := h; rw [h'] at h2; cases h2; exact leB_refl _⟩, fun h => ⟨h, by simp⟩⟩
  | cons x r ih =>
    intro o ho
    rw [List.foldl_cons]
    have hb : ∀ v, betterV slot o x = some v → v.slot = slot := fun v h => by
      unfold betterV at h
      split at h
      · rename_i hx
        split at h
        · cases h; exact hx
        · split at h
          · cases h; exact hx
          · cases h; exact ho _ rfl
      · exact ho v h
    obtain ⟨i1, i2⟩ := ih _ hb
    have hc : ∀ v : VotedD, (∀ u, betterV slot o x = some u → ¬ ltB v.bal u.bal) → (∀ u, o = some u → ¬ ltB v.bal u.bal) ∧ (x.slot = slot → ¬ ltB v.bal x.bal) := fun v h => by
      unfold betterV at h
      by_cases hx : x.slot = slot
      · rw [if_pos hx] at h
        cases o with
        | none => exact ⟨fun u e => (by cases e), fun _ => h x rfl⟩
        | some b =>
          dsimp only at h
          by_cases hg : 0 < cmpB x.bal b.bal
          · rw [if_pos hg] at h
            have h1 := h x rfl
            exact ⟨fun u e => by cases e; exact fun h2 => h1 (ltB_le h2 (ltB_leB (cmp_gtB.1 hg))), fun _ => h1⟩
          · rw [if_neg hg] at h
            have h1 := h b rfl
            exact ⟨fun u e => by cases e; exact h1, fun _ h2 => h1 (ltB_le h2 (fun h3 => hg (cmp_gtB.2 h3)))⟩
      · rw [if_neg hx] at h
        exact ⟨h, fun e => absurd e hx⟩
    refine ⟨fun v h => ?_, fun h => ?_⟩
    · obtain ⟨a1, a2, a3, a4⟩ := i1 v h
      obtain ⟨c1, c2⟩ := hc v a4
      refine ⟨?_, a2, fun u hu hs => ?_, c1⟩
      · rcases a1 with a1 | a1
        · exact .inl (List.mem_cons_of_mem _ a1)
        · unfold betterV at a1
          split at a1
          · split at a1
            · cases a1; exact .inl List.mem_cons_self
            · split at a1
              · cases a1; exact .inl List.mem_cons_self
              · cases a1; exact .inr rfl
          · exact .inr a1
      · rcases List.mem_cons.1 hu with rfl | hu
        · exact c2 hs
        · exact a3 u hu hs
    · obtain ⟨a1, a2⟩ := i2 h
      unfold betterV at a1
      split at a1
      · split at a1
        · cases a1
        · split at a1 <;> cases a1
      · rename_i hx
        exact ⟨a1, fun u hu => by rcases List.mem_cons.1 hu with rfl | hu; exact hx; exact a2 u hu⟩
/-- The vote that is picked: of that slot, of the greatest ballot. -/
theorem pickV_some {slot : Int} {l : List VotedD} {v : VotedD} (h : pickV slot l = some v) : v ∈ l ∧ v.slot = slot ∧ ∀ u ∈ l, u.slot = slot → leB u.bal v.bal := by
  obtain ⟨a1, a2, a3, _⟩ := (pickV_go l none (fun _ e => by cases e)).1 v h
  exact ⟨a1.elim id (fun e => by cases e), a2, a3⟩
theorem pickV_none {slot : Int} {l : List VotedD} (h : pickV slot l = none) : ∀ u ∈ l, u.slot ≠ slot := ((pickV_go l none (fun _ e => by cases e)).2 h).2
theorem keptE_ok {l : List VotedD} (h : ∀ v ∈ l, rVoted v ∧ votedOk v) (slot : Int) : rEntry (keptE l slot) ∧ orderOk' (keptE l slot).order := by
  unfold keptE
  cases hp : pickV slot l with
  | none => exact ⟨noop_right, noopOk⟩
  | some v => have := h v (pickV_some hp).1; exact ⟨this.1.2.2, this.2.2.2.2⟩
def mostK (p : PP) (l : List VotedD) : Int := l.foldl (fun m v => max m v.slot) (p.frm - 1)
theorem mostK_snoc (p : PP) {l : List VotedD} {i : Nat} {v : VotedD} (h : l[i]? = some v) : mostK p (l.take (i + 1)) = max (mostK p (l.take i)) v.slot := by
  unfold mostK; rw [takeAt h, List.foldl_append]; rfl
theorem most_go : ∀ (l : List VotedD) (m : Int), m ≤ l.foldl (fun m v => max m v.slot) m ∧ (∀ v ∈ l, v.slot ≤ l.foldl (fun m v => max m v.slot) m) ∧ (∀ c, m ≤ c → (∀ v ∈ l, v.slot ≤ c) → l.foldl (fun m v => max m v.slot) m ≤ c)
  | [], m => ⟨Int.le_refl _, by simp, fun c h _ => h⟩
  | x :: r, m => by
    obtain ⟨h1, h2, h3⟩ := most_go r (max m x.slot)
    rw [List.foldl_cons]
    refine ⟨by omega, fun v hv => ?_, fun c hm hv => h3 c ?_ (fun v h => hv v (List.mem_cons_of_mem _ h))⟩
    · rcases List.mem_cons.1 hv with rfl | hv
      · omega
      · exact h2 v hv
    · have := hv x List.mem_cons_self; omega
theorem most_in {p : PP} (hf : 0 ≤ p.frm ∧ p.frm ≤ 2147483647) {l : List VotedD} (hk : ∀ v ∈ l, rVoted v) : p.frm - 1 ≤ mostK p l ∧ mostK p l ≤ 2147483647 ∧ ∀ v ∈ l, v.slot ≤ mostK p l := by
  obtain ⟨h1, h2, h3⟩ := most_go l (p.frm - 1)
  exact ⟨h1, h3 _ (by omega) (fun v hv => (hk v hv).1.2), h2⟩
structure LeadF (p : PP) (k : Nat) (q : PP) : Prop where
  phase : q.phase = 2
  node : q.node = p.node
  nodes : q.nodes = p.nodes
  bal : q.bal = p.bal
  seen : q.seen = p.seen
  frm : q.frm = p.frm
  told : q.told = p.told
  kept : q.kept = []
  next : q.next = p.frm + k
  len : q.F.length = k
  fl : ∀ f ∈ q.F, p.frm ≤ f.slot ∧ f.slot < p.frm + k
theorem leadK_F {p : PP} (h : p.F = []) (l : List VotedD) : ∀ k, LeadF p k (leadK p l k).1
  | 0 => ⟨rfl, rfl, rfl, rfl, rfl, rfl, rfl, rfl, by simp [leadK], by simp [leadK, h], by simp [leadK, h]⟩
  | k + 1 => by
    have i := leadK_F h l k
    refine ⟨i.phase, i.node, i.nodes, i.bal, i.seen, i.frm, i.told, i.kept, by simp only [leadK, putP]; omega, by simp [leadK, putP, i.len], fun f hf => ?_⟩
    rcases List.mem_cons.1 hf with rfl | hf
    · dsimp only; omega
    · have := i.fl f hf; omega
theorem putO_len (p : PP) (slot : Int) (e : EntryD) (hn : p.nodes ≤ 7) : (putO p slot e).length ≤ 7 := by
  have := allK_len p.node p.nodes (accB p slot e) no7 p.nodes.toNat
  unfold putO accM allM
  dsimp only
  omega
theorem leadK_len (p : PP) (l : List VotedD) (hn : p.nodes ≤ 7) (h : p.F = []) : ∀ k, (leadK p l k).2.length ≤ 7 * k
  | 0 => Nat.le_refl _
  | k + 1 => by
    have i := leadK_len p l hn h k
    have := allK_len (leadK p l k).1.node (leadK p l k).1.nodes (accB (leadK p l k).1 (p.frm + k) (keptE l (p.frm + k))) no7 (leadK p l k).1.nodes.toNat
    have e := (leadK_F h l k).nodes
    simp only [leadK, List.length_append]
    unfold putO accM allM
    dsimp only
    omega
theorem lead0_I {p : PP} (h : PI p) (hp : p.phase = 1) (l : List VotedD) : PI (leadK p l 0).1 := ⟨h.nodes, h.node, by simp [leadK], h.told, h.by_, h.inc, h.len, by show ∀ f ∈ p.F, _; rw [h.ph1 hp]; simp, by show 0 ≤ p.frm ∧ p.frm ≤ _; have := h.frm; omega, h.frm, Nat.zero_le _, h.bal, h.seen, by simp [leadK], h.fen, fun _ => h.ph1 hp⟩
theorem T_freezeO {r : Option Nat} {n : Nat} {P : Program} {Q : Exit → St → Prop} {D : List Deferred} {E : Env} {L L' : List HP} {c' : Code} (A : Option Addr) (c : Nat) {α : Type} {R : Rep α} {t : TypeId} {xs : List α} [hf : FindO L A c α R t xs L'] (h : T r n P c' ⟨D, E, sl R A c xs :: L'⟩ Q) : T r n P c' ⟨D, E, L⟩ Q := T_gives hf.g (T_freeze_osl h)
structure LdSt where
  k : Nat
  A : Option Addr
  c : Nat
theorem prLead_spec {L : List HP} {b : Nat} {p : PP} (hph : p.phase = 1) : Fn Try.prog 113 #[.pointer (some ⟨b, 0, none⟩)] (pr b p :: L) (fun v L' => ∃ A c, v = .slice A (leadP p).2.length c ∧ L' = osl msgR 44 A c (leadP p).2 :: pr b (leadP p).1 :: L) := by
  refine Fn_enter Try.func113 rfl rfl rfl rfl ?_
  refine T_region ?_
  refine TL_y rfl rfl (Y_assign rfl) ?_
  refine TL_nil ?_
  refine T_pr fun s hst hi => ?_
  subst hst
  have hn : 1 ≤ s.nodes ∧ s.nodes ≤ 7 := hi.nodes
  have hfr : 0 ≤ s.frm ∧ s.frm ≤ 2147483647 := hi.frm
  have hF : s.pl.F = [] := hi.ph1 hph
  have hkin : ∀ v ∈ s.kept, rVoted v ∧ votedOk v := hi.kin
  have hkl : s.kept.length ≤ 4096 * countB s.told := hi.kept
  have hcb := countB_le s.told
  have htl : s.told.length = 7 := hi.told
  refine T_region ?_
  refine TL_y rfl rfl (Y_move rfl) ?_
  refine TL_y rfl rfl (Y_nil_check rfl) ?_
  refine TL_y rfl rfl (Y_field_addr rfl) ?_
  refine TL_y rfl rfl (Y_load rfl rfl) ?_
  refine TL_y rfl rfl (Y_sub rfl rfl (by omega)) ?_
  refine TL_y rfl rfl (Y_assign rfl) ?_
  refine TL_nil ?_
  refine T_seq ?_
  refine T_region ?_
  refine TL_y rfl rfl (Y_move rfl) ?_
  refine TL_y rfl rfl (Y_nil_check rfl) ?_
  refine TL_y rfl rfl (Y_field_addr rfl) ?_
  refine TL_y rfl rfl (Y_load rfl rfl) ?_
  refine TL_y rfl rfl (Y_len rfl) ?_
  refine TL_y rfl rfl (Y_move rfl) ?_
  refine TL_nil ?_
  refine T_block ?_
  refine T_loopK (σ := Nat) [0, 19, 20] (fun i => i ≤ s.kept.length) (fun i kv => (3, .int .i64 (mostK s.pl (s.kept.take i))) :: (21, .int .i64 (i : Int)) :: kv) (fun i => cells b (prC s) 133 :: votes s.bt s.told s.nodes :: osl votedR 50 s.A s.c s.kept :: omap intK flR true s.bm (fmapP s.F) :: flH s.F s.nodes :: L) (fun i => s.kept.length - i) (0) rfl (Nat.zero_le _) (GivesTo.g) (sub_cons rfl (sub_cons rfl (sub_cons rfl (sub_cons rfl (sub_cons rfl (sub_nil)))))) ?_
  intro i hil
  refine T_region ?_
  refine TL_y rfl rfl (Y_lt rfl rfl) ?_
  refine TL_nil ?_
  refine T_seq ?_
  refine T_if rfl (fun h22 => ?_) (fun h22 => ?_)
  · refine T_skip ?_
    refine thenS_normal ?_
    refine T_seq ?_
    refine T_block ?_
    obtain ⟨v, hv⟩ : ∃ v, s.kept[i]? = some v := ⟨_, List.getElem?_eq_getElem (by omega)⟩
    have hsn := mostK_snoc s.pl hv
    refine T_region ?_
    refine TL_index_n rfl rfl rfl (rfl) ((sln (A := s.A) (c := s.c))) (hv) ?_
    intro bn23 on23 hA23 hk23
    have hu23 := hv
    refine TL_load_nx rfl rfl hk23 hu23 (fun _ => rfl) ?_
    intro p24 ok24
    simp only [List.cons_append, List.nil_append]
    refine TL_alloc rfl rfl ?_
    intro b5
    refine TL_store rfl rfl rfl rfl rfl rfl ?_
    refine TL_nil ?_
    refine T_region_last ?_
    refine TL_y rfl rfl (Y_move rfl) ?_
    refine TL_y rfl rfl (Y_field_addr rfl) ?_
    refine TL_y rfl rfl (Y_load rfl rfl) ?_
    refine TL_y rfl rfl (Y_max rfl rfl) ?_
    refine TL_name 28 (v' := .int .i64 (mostK s.pl (s.kept.take (i + 1)))) rfl (by rw [hsn]) ?_
    refine TL_y rfl rfl (Y_assign rfl) ?_
    refine TL_nil ?_
    refine inB_normal ?_
    refine thenS_normal ?_
    refine T_region_last ?_
    refine TL_y rfl rfl (Y_add rfl rfl (by omega)) ?_
    refine TL_name 29 (v' := .int .i64 ((i + 1 : Nat) : Int)) rfl (rfl) ?_
    refine TL_y rfl rfl (Y_move rfl) ?_
    refine TL_nil ?_
    refine thenS_normal ?_
    exact ⟨i + 1, (by omega), by omega, holds_to (sub_cons rfl (sub_cons rfl (sub_cons rfl (sub_cons rfl (sub_cons rfl (sub_nil)))))) GivesTo.g⟩
  · refine T_exit ?_
    refine thenS_exit ?_
    refine thenS_exit ?_
    refine inB_hit ?_
    refine thenS_normal ?_
    refine T_seq ?_
    rw [List.take_of_length_le (show s.kept.length ≤ i by omega)]
    have hmo := most_in (p := s.pl) hfr (fun v hv => (hkin v hv).1)
    have hmf : mostP s.pl = mostK s.pl s.kept := rfl
    dsimp only at hmo
    refine T_region ?_
    refine TL_y rfl rfl (Y_move rfl) ?_
    refine TL_y rfl rfl (Y_move rfl) ?_
    refine TL_y rfl rfl (Y_nil_check rfl) ?_
    refine TL_y rfl rfl (Y_field_addr rfl) ?_
    refine TL_y rfl rfl (Y_load rfl rfl) ?_
    refine TL_y rfl rfl (Y_sub rfl rfl (by omega)) ?_
    refine TL_y rfl rfl (Y_ge rfl rfl) ?_
    refine TL_nil ?_
    refine T_if rfl (fun h36 => ?_) (fun h36 => ?_)
    · refine T_gives (pr_close b s _ rfl hi) ?_
      refine T_region ?_
      refine TL_y rfl rfl (Y_move rfl) ?_
      refine TL_pullk b ?_
      refine TL_call rfl rfl (prStop_spec) ?_
      rintro _ _ ⟨rfl, rfl⟩
      refine TL_nil ?_
      refine T_region ?_
      refine TL_y rfl rfl (Y_assign rfl) ?_
      refine TL_nil ?_
      refine T_ret ?_
      refine thenS_ret ?_
      have he : leadP s.pl = (ppStop s.pl, []) := by unfold leadP; rw [if_pos (by rw [hmf]; dsimp only; omega)]
      rw [he]
      refine RetQ.gives (osl_nil msgR 44 none _) ?_
      exact RetG_1 (.inl rfl) rfl (ResV.tmp rfl) GivesTo.g (⟨none, 0, rfl, rfl⟩)
    · refine T_skip ?_
      refine thenS_normal ?_
      refine T_region ?_
      refine TL_y rfl rfl (Y_move rfl) ?_
      refine TL_y rfl rfl (Y_move rfl) ?_
      refine TL_y rfl rfl (Y_move rfl) ?_
      refine TL_y rfl rfl (Y_nil_check rfl) ?_
      refine TL_y rfl rfl (Y_field_addr rfl) ?_
      refine TL_y rfl rfl (Y_load rfl rfl) ?_
      refine TL_y rfl rfl (Y_nil_check rfl) ?_
      refine TL_y rfl rfl (Y_field_addr rfl) ?_
      refine TL_store rfl rfl rfl rfl rfl rfl ?_
      refine TL_y rfl rfl (Y_nil_check rfl) ?_
      refine TL_y rfl rfl (Y_field_addr rfl) ?_
      refine TL_store rfl rfl rfl rfl rfl rfl ?_
      refine TL_nil ?_
      refine T_region ?_
      refine TL_y rfl rfl (Y_move rfl) ?_
      refine TL_y rfl rfl (Y_nil_check rfl) ?_
      refine TL_y rfl rfl (Y_field_addr rfl) ?_
      refine TL_y rfl rfl (Y_load rfl rfl) ?_
      refine TL_y rfl rfl (Y_assign rfl) ?_
      refine TL_nil ?_
      refine T_region ?_
      refine TL_y rfl rfl (Y_move rfl) ?_
      refine TL_y rfl rfl (Y_nil_check rfl) ?_
      refine TL_y rfl rfl (Y_field_addr rfl) ?_
      refine TL_store rfl rfl rfl rfl rfl rfl ?_
      refine TL_nil ?_
      refine T_freezeO s.A s.c ?_
      refine T_gives (osl_nil votedR 50 none _) ?_
      refine T_gives (pr_close b ⟨s.node, s.nodes, 2, s.bal, s.seen, s.frm, s.frm, s.bt, s.told, none, 0, [], s.bm, s.F⟩ (leadK s.pl s.kept 0).1 rfl (lead0_I hi hph s.kept)) ?_
      have he : leadP s.pl = leadK s.pl s.kept (mostK s.pl s.kept - s.frm + 1).toNat := by unfold leadP; rw [if_neg (by rw [hmf]; dsimp only; omega), hmf]
      refine T_region ?_
      refine TL_y rfl rfl (Y_assign rfl) ?_
      refine TL_nil ?_
      refine T_seq ?_
      refine T_region ?_
      refine TL_y rfl rfl (Y_move rfl) ?_
      refine TL_y rfl rfl (Y_nil_check rfl) ?_
      refine TL_y rfl rfl (Y_field_addr rfl) ?_
      refine TL_y rfl rfl (Y_pr (b := b) (v := .int .i64 (s.frm + ((0 : Nat) : Int))) fun s2 hs2 ↦ (Y_load rfl rfl).val (by rw [show s2.frm = s.frm from congrArg PP.frm hs2]; simp)) ?_
      refine TL_y rfl rfl (Y_assign rfl) ?_
      refine TL_nil ?_
      refine T_block ?_
      refine T_loopK (σ := LdSt) [0, 3, 6] (fun g => (g.k : Int) ≤ mostK s.pl s.kept - s.frm + 1) (fun g kv => (8, .int .i64 (s.frm + (g.k : Int))) :: (7, .slice g.A (leadK s.pl s.kept g.k).2.length g.c) :: kv) (fun g => osl msgR 44 g.A g.c (leadK s.pl s.kept g.k).2 :: pr b (leadK s.pl s.kept g.k).1 :: sl votedR s.A s.c s.kept :: L) (fun g => (mostK s.pl s.kept - s.frm + 1).toNat - g.k) (⟨0, none, 0⟩) rfl ((by simp only; omega)) (Gives.trans (osl_nil msgR 44 none _) (Gives.cons _ GivesTo.g)) (sub_cons rfl (sub_cons rfl (sub_cons rfl (sub_cons rfl (sub_cons rfl (sub_nil)))))) ?_
      rintro ⟨k, A, c⟩ hk
      dsimp only at hk ⊢
      have hfk := leadK_F hF s.kept k
      have hlk := leadK_len s.pl s.kept hn.2 hF k
      refine T_seq ?_
      refine T_region ?_
      refine TL_y rfl rfl (Y_move rfl) ?_
      refine TL_y rfl rfl (Y_move rfl) ?_
      refine TL_y rfl rfl (Y_le rfl rfl) ?_
      refine TL_nil ?_
      refine T_if rfl (fun h62 => ?_) (fun h62 => ?_)
      · refine T_skip ?_
        refine thenS_normal ?_
        refine T_seq ?_
        refine T_block ?_
        refine T_region ?_
        refine TL_y rfl rfl (Y_move rfl) ?_
        refine TL_y rfl rfl (Y_move rfl) ?_
        refine TL_call rfl rfl (pick_spec (slk (A := s.A) (c := s.c)) (s.frm + (k : Int))) ?_
        rintro _ _ ⟨A68, c68, rfl, rfl⟩
        refine TL_y rfl rfl (Y_move rfl) ?_
        refine TL_y rfl rfl (Y_extract rfl rfl) ?_
        refine TL_y rfl rfl (Y_extract rfl rfl) ?_
        refine TL_alloc rfl rfl ?_
        intro b9
        refine TL_store rfl rfl rfl rfl rfl rfl ?_
        refine TL_y rfl rfl (Y_assign rfl) ?_
        refine TL_nil ?_
        refine T_region_last ?_
        refine TL_y rfl rfl (Y_move rfl) ?_
        refine TL_y rfl rfl (Y_move rfl) ?_
        refine TL_y rfl rfl (Y_move rfl) ?_
        refine TL_y rfl rfl (Y_load_agg rfl rfl) ?_
        refine TL_pullk b ?_
        refine TL_call rfl rfl (prPropose_spec (A := A68) (c := c68) (s.frm + (k : Int)) (keptE s.kept (s.frm + (k : Int))) (by rw [hfk.phase]; decide) (fun f hf ↦ (hfk.fl f hf).2) (by rw [hfk.len]; omega) (by omega) (keptE_ok hkin _) sln) ?_
        rintro _ _ ⟨A75, c75, rfl, rfl⟩
        refine TL_freeze_osl ?_
        rw [show putP (leadK s.pl s.kept k).1 (s.frm + (k : Int)) (keptE s.kept (s.frm + (k : Int))) = (leadK s.pl s.kept (k + 1)).1 from rfl]
        have hpl := putO_len (leadK s.pl s.kept k).1 (s.frm + (k : Int)) (keptE s.kept (s.frm + (k : Int))) (by rw [hfk.nodes]; exact hn.2)
        refine TL_append rfl rfl rfl rfl rfl slk (by (try simp only [List.length_append, List.length_cons, List.length_nil]); omega) ?_
        intro A76 c76
        rw [show (leadK s.pl s.kept k).2 ++ putO (leadK s.pl s.kept k).1 (s.frm + (k : Int)) (keptE s.kept (s.frm + (k : Int))) = (leadK s.pl s.kept (k + 1)).2 from rfl]
        refine TL_y rfl rfl (Y_assign rfl) ?_
        refine TL_nil ?_
        refine inB_normal ?_
        refine thenS_normal ?_
        refine T_region_last ?_
        refine TL_y rfl rfl (Y_move rfl) ?_
        refine TL_y rfl rfl (Y_add rfl rfl (by omega)) ?_
        refine TL_name 64 (v' := .int .i64 (s.frm + ((k + 1 : Nat) : Int))) rfl (by congr 1; omega) ?_
        refine TL_y rfl rfl (Y_assign rfl) ?_
        refine TL_nil ?_
        refine thenS_normal ?_
        exact ⟨⟨k + 1, A76, c76⟩, (by simp only; omega), by simp only; omega, holds_to (sub_cons rfl (sub_cons rfl (sub_cons rfl (sub_cons rfl (sub_cons rfl (sub_nil)))))) GivesTo.g⟩
      · refine T_exit ?_
        refine thenS_exit ?_
        refine thenS_exit ?_
        refine inB_hit ?_
        refine thenS_normal ?_
        refine T_region ?_
        refine TL_y rfl rfl (Y_move rfl) ?_
        refine TL_y rfl rfl (Y_assign rfl) ?_
        refine TL_nil ?_
        refine T_ret ?_
        rw [he]
        obtain rfl : k = (mostK s.pl s.kept - s.frm + 1).toNat := by omega
        exact RetG_1 (.inl rfl) rfl (ResV.tmp rfl) GivesTo.g (⟨A, c, rfl, rfl⟩)
end Go.SL
set_option linter.unusedVariables false
set_option linter.unusedSimpArgs false
namespace Go.SL
open Go Go.Proofs
theorem addV_same' {bs : List Bool} {n node : Int} (h : ¬ (isV n node ∧ ¬ hasV bs n node)) : addV bs n node = bs := by
  unfold addV
  split
  · rename_i hv
    have : hasV bs n node := Classical.byContradiction fun k => h ⟨hv, k⟩
    exact set_self this.2
  · rfl
theorem filter_set : ∀ {bs : List Bool} {i : Nat}, bs[i]? = some false → ((bs.set i true).filter id).length = (bs.filter id).length + 1
  | [], i, h => by simp at h
  | x :: r, 0, h => by simp at h; subst h; simp
  | x :: r, i + 1, h => by
    have := filter_set (bs := r) (i := i) (by simpa using h)
    rw [List.set_cons_succ, List.filter_cons, List.filter_cons]
    cases x <;> simp [this]
theorem countB_add {bs : List Bool} {n node : Int} (hb : bs.length = 7) (hn : n ≤ 7) (hv : isV n node) (h : ¬ hasV bs n node) : countB (addV bs n node) = countB bs + 1 := by
  unfold addV
  rw [if_pos hv]
  unfold isV at hv
  have hl : node.toNat < bs.length := by omega
  have e : bs[node.toNat]? = some bs[node.toNat] := List.getElem?_eq_getElem hl
  refine filter_set ?_
  cases hx : bs[node.toNat] with
  | true => exact absurd ⟨hv, by rw [e, hx]⟩ h
  | false => rw [e, hx]
theorem addV_len' (bs : List Bool) (n node : Int) : (addV bs n node).length = bs.length := by
  unfold addV; split <;> simp
theorem tellP_I {p : PP} {m : MsgD} (hi : PI p) (ho : okProm p m) (hm : rMsg m) : PI (tellP p m) where
  nodes := hi.nodes
  node := hi.node
  phase := hi.phase
  told := (addV_len' _ _ _).trans hi.told
  by_ := hi.by_
  inc := hi.inc
  len := hi.len
  rng := hi.rng
  next := hi.next
  frm := hi.frm
  kept := by
    have h1 := countB_add hi.told hi.nodes.2 ho.2.2.2.1 ho.2.2.2.2
    have h2 := hi.kept
    have h3 := hm.2.2.2.2.2.2.1.1
    show (p.kept ++ m.voted).length ≤ 4096 * countB (addV p.told p.nodes m.frm)
    rw [h1, List.length_append]; omega
  bal := hi.bal
  seen := hi.seen
  kin := fun v hv => by
    rcases List.mem_append.1 hv with hv | hv
    · exact hi.kin v hv
    · have := hm.2.2.2.2.2.2.1.2 v hv
      exact ⟨this, rVoted_ok this⟩
  fen := hi.fen
  ph1 := hi.ph1
abbrev prT (s : PrD) (told : List Bool) (A : Option Addr) (c : Nat) (kept : List VotedD) : PrD := ⟨s.node, s.nodes, s.phase, s.bal, s.seen, s.frm, s.next, s.bt, told, A, c, kept, s.bm, s.F⟩
theorem bal_pair {a b : Int × Int} : (!decide (a = b)) = decide (a ≠ b) := by by_cases h : a = b <;> simp [h]
structure PmSt where
  i : Nat
  A : Option Addr
  c : Nat
theorem prPromised_spec {L : List HP} {b : Nat} {p : PP} (m : MsgD) (q : MsgP) (hk : MsgK L m q) (hm : rMsg m) : Fn Try.prog 82 #[.pointer (some ⟨b, 0, none⟩), .agg (List.toArray (msgC m q))] (pr b p :: L) (fun v L' => ∃ A c, v = .slice A (promP p m).2.length c ∧ L' = osl msgR 44 A c (promP p m).2 :: pr b (promP p m).1 :: L) := by
  refine Fn_enter Try.func82 rfl rfl rfl rfl ?_
  refine T_region ?_
  refine TL_box rfl rfl rfl ?_
  intro b3
  refine TL_y rfl rfl (Y_assign rfl) ?_
  refine TL_nil ?_
  refine T_seq ?_
  refine T_pullk b ?_
  refine T_pr fun s hst hi => ?_
  subst hst
  have hn : 1 ≤ s.nodes ∧ s.nodes ≤ 7 := hi.nodes
  have htl : s.told.length = 7 := hi.told
  have hvl := hm.2.2.2.2.2.2.1
  have hkl : s.kept.length ≤ 4096 * countB s.told := hi.kept
  have hcb := countB_le s.told
  refine T_region_draw (cells b (prC s) 133 :: cells b3 (msgC m q) 44 :: []) [0, 1, 3, 7, 15, 31, 63, 127, 63, 319, 831, 1855, 4095, 8191, 16383, 32767, 65535, 32767, 163839, 425983, 950271, 2097151, 4194303, 8388607, 16777215, 33554431, 67108863, 134217727, 16777215, 285212671, 1073741823, 2147483647, 4294967295] [] [(0, true), (1, true), (2, true), (3, true), (4, true), (5, true), (6, true), (7, true), (8, true), (9, true), (10, true), (11, true), (12, true), (13, true), (14, true), (15, true), (16, true), (17, true), (18, true), (19, true), (20, true), (21, true), (22, true), (23, true), (24, true), (25, true), (26, true), (27, true), (28, true), (29, true), (30, false), (31, true), (32, true)] (by kernel_rfl) (by decide +kernel) GivesTo.g ?_
  refine TF_y rfl rfl (Y_move rfl) ?_
  refine TF_y rfl rfl (Y_nil_check rfl) ?_
  refine TF_y rfl rfl (Y_field_addr rfl) ?_
  refine TF_y rfl rfl (Y_load rfl rfl) ?_
  refine TF_y rfl rfl (Y_ne rfl rfl) ?_
  refine TF_y rfl rfl (Y_move rfl) ?_
  refine TF_splitd 12 rfl (fun h12 => ?_) (fun h12 => ?_)
  · refine TF_gskip rfl rfl rfl rfl rfl ?_
    refine TF_gskip rfl rfl rfl rfl rfl ?_
    refine TF_gskip rfl rfl rfl rfl rfl ?_
    refine TF_gskip rfl rfl rfl rfl rfl ?_
    refine TF_gskip rfl rfl rfl rfl rfl ?_
    refine TF_gskip rfl rfl rfl rfl rfl ?_
    refine TF_gskip rfl rfl rfl rfl rfl ?_
    refine TF_y rfl rfl (Y_pick_t rfl rfl) ?_
    refine TF_y rfl rfl (Y_move rfl) ?_
    refine TF_gskip rfl rfl rfl rfl rfl ?_
    refine TF_gskip rfl rfl rfl rfl rfl ?_
    refine TF_gskip rfl rfl rfl rfl rfl ?_
    refine TF_gskip rfl rfl rfl rfl rfl ?_
    refine TF_gskip rfl rfl rfl rfl rfl ?_
    refine TF_gskip rfl rfl rfl rfl rfl ?_
    refine TF_gskip rfl rfl rfl rfl rfl ?_
    refine TF_y rfl rfl (Y_pick_t rfl rfl) ?_
    refine TF_y rfl rfl (Y_move rfl) ?_
    refine TF_gskip rfl rfl rfl rfl rfl ?_
    refine TF_gskip rfl rfl rfl rfl rfl ?_
    refine TF_gskip rfl rfl rfl rfl rfl ?_
    refine TF_gskip rfl rfl rfl rfl rfl ?_
    refine TF_gskip rfl rfl rfl rfl rfl ?_
    refine TF_gskip rfl rfl rfl rfl rfl ?_
    refine TF_anchor rfl ?_
    refine TL_gskip rfl rfl rfl rfl ?_
    refine TF_end GivesTo.g ?_
    refine TF_gskip rfl rfl rfl rfl rfl ?_
    refine TF_y rfl rfl (Y_pick_t rfl rfl) ?_
    refine TF_nil ?_
    refine T_cond_true rfl ?_
    refine T_region ?_
    refine TL_y rfl rfl (Y_assign rfl) ?_
    refine TL_nil ?_
    refine T_ret ?_
    refine thenS_ret ?_
    have ho : ¬ okProm s.pl m := fun h => h12 h.1
    have he : promP s.pl m = (s.pl, []) := by unfold promP; rw [if_neg ho]
    rw [he]
    refine RetQ.gives (pr_close b s _ rfl hi) ?_
    refine RetQ.gives (osl_nil msgR 44 none _) ?_
    exact RetG_1 (.inl rfl) rfl (ResV.tmp rfl) GivesTo.g (⟨none, 0, rfl, rfl⟩)
  · refine TF_gy rfl rfl rfl rfl (Y_field_addr rfl) ?_
    refine TF_gy rfl rfl rfl rfl (Y_load_agg rfl rfl) ?_
    refine TF_gy rfl rfl rfl rfl (Y_move rfl) ?_
    refine TF_gy rfl rfl rfl rfl (Y_nil_check rfl) ?_
    refine TF_gy rfl rfl rfl rfl (Y_field_addr rfl) ?_
    refine TF_gy rfl rfl rfl rfl (Y_load_agg rfl rfl) ?_
    refine TF_gy rfl rfl rfl rfl (Y_ne_bal (a := m.bal) (b := s.bal) rfl rfl) ?_
    refine TF_name 19 (v' := .bool (decide (m.bal ≠ s.bal))) rfl (congrArg Value.bool bal_pair) ?_
    refine TF_y rfl rfl (Y_pick_f rfl rfl) ?_
    refine TF_y rfl rfl (Y_move rfl) ?_
    refine TF_splitd 21 rfl (fun h21 => ?_) (fun h21 => ?_)
    · refine TF_gskip rfl rfl rfl rfl rfl ?_
      refine TF_gskip rfl rfl rfl rfl rfl ?_
      refine TF_gskip rfl rfl rfl rfl rfl ?_
      refine TF_gskip rfl rfl rfl rfl rfl ?_
      refine TF_gskip rfl rfl rfl rfl rfl ?_
      refine TF_gskip rfl rfl rfl rfl rfl ?_
      refine TF_gskip rfl rfl rfl rfl rfl ?_
      refine TF_y rfl rfl (Y_pick_t rfl rfl) ?_
      refine TF_y rfl rfl (Y_move rfl) ?_
      refine TF_gskip rfl rfl rfl rfl rfl ?_
      refine TF_gskip rfl rfl rfl rfl rfl ?_
      refine TF_gskip rfl rfl rfl rfl rfl ?_
      refine TF_gskip rfl rfl rfl rfl rfl ?_
      refine TF_gskip rfl rfl rfl rfl rfl ?_
      refine TF_gskip rfl rfl rfl rfl rfl ?_
      refine TF_anchor rfl ?_
      refine TL_gskip rfl rfl rfl rfl ?_
      refine TF_end GivesTo.g ?_
      refine TF_gskip rfl rfl rfl rfl rfl ?_
      refine TF_y rfl rfl (Y_pick_t rfl rfl) ?_
      refine TF_nil ?_
      refine T_cond_true rfl ?_
      refine T_region ?_
      refine TL_y rfl rfl (Y_assign rfl) ?_
      refine TL_nil ?_
      refine T_ret ?_
      refine thenS_ret ?_
      have ho : ¬ okProm s.pl m := fun h => h21 h.2.1
      have he : promP s.pl m = (s.pl, []) := by unfold promP; rw [if_neg ho]
      rw [he]
      refine RetQ.gives (pr_close b s _ rfl hi) ?_
      refine RetQ.gives (osl_nil msgR 44 none _) ?_
      exact RetG_1 (.inl rfl) rfl (ResV.tmp rfl) GivesTo.g (⟨none, 0, rfl, rfl⟩)
    · refine TF_gy rfl rfl rfl rfl (Y_field_addr rfl) ?_
      refine TF_gy rfl rfl rfl rfl (Y_load rfl rfl) ?_
      refine TF_gy rfl rfl rfl rfl (Y_move rfl) ?_
      refine TF_gy rfl rfl rfl rfl (Y_nil_check rfl) ?_
      refine TF_gy rfl rfl rfl rfl (Y_field_addr rfl) ?_
      refine TF_gy rfl rfl rfl rfl (Y_load rfl rfl) ?_
      refine TF_gy rfl rfl rfl rfl (Y_ne rfl rfl) ?_
      refine TF_y rfl rfl (Y_pick_f rfl rfl) ?_
      refine TF_y rfl rfl (Y_move rfl) ?_
      refine TF_splitd 30 rfl (fun h30 => ?_) (fun h30 => ?_)
      · refine TF_gskip rfl rfl rfl rfl rfl ?_
        refine TF_gskip rfl rfl rfl rfl rfl ?_
        refine TF_gskip rfl rfl rfl rfl rfl ?_
        refine TF_gskip rfl rfl rfl rfl rfl ?_
        refine TF_gskip rfl rfl rfl rfl rfl ?_
        refine TF_gskip rfl rfl rfl rfl rfl ?_
        refine TF_anchor rfl ?_
        refine TL_gskip rfl rfl rfl rfl ?_
        refine TF_end GivesTo.g ?_
        refine TF_gskip rfl rfl rfl rfl rfl ?_
        refine TF_y rfl rfl (Y_pick_t rfl rfl) ?_
        refine TF_nil ?_
        refine T_cond_true rfl ?_
        refine T_region ?_
        refine TL_y rfl rfl (Y_assign rfl) ?_
        refine TL_nil ?_
        refine T_ret ?_
        refine thenS_ret ?_
        have ho : ¬ okProm s.pl m := fun h => h30 h.2.2.1
        have he : promP s.pl m = (s.pl, []) := by unfold promP; rw [if_neg ho]
        rw [he]
        refine RetQ.gives (pr_close b s _ rfl hi) ?_
        refine RetQ.gives (osl_nil msgR 44 none _) ?_
        exact RetG_1 (.inl rfl) rfl (ResV.tmp rfl) GivesTo.g (⟨none, 0, rfl, rfl⟩)
      · refine TF_gy rfl rfl rfl rfl (Y_move rfl) ?_
        refine TF_gy rfl rfl rfl rfl (Y_nil_check rfl) ?_
        refine TF_gy rfl rfl rfl rfl (Y_field_addr rfl) ?_
        refine TF_gy rfl rfl rfl rfl (Y_load rfl rfl) ?_
        refine TF_gy rfl rfl rfl rfl (Y_field_addr rfl) ?_
        refine TF_gy rfl rfl rfl rfl (Y_load rfl rfl) ?_
        refine TF_anchor rfl ?_
        refine TL_grun rfl rfl ?_
        refine TL_pullc s.bt ?_
        refine TL_call rfl rfl (add_spec htl hn.2 m.frm) ?_
        rintro _ _ ⟨rfl, rfl⟩
        refine TF_end GivesTo.g ?_
        refine TF_gy rfl rfl rfl rfl (Y_not_d rfl) ?_
        refine TF_y rfl rfl (Y_pick_f rfl rfl) ?_
        refine TF_nil ?_
        refine T_if rfl (fun h39 => ?_) (fun h39 => ?_)
        · refine T_region ?_
          refine TL_y rfl rfl (Y_assign rfl) ?_
          refine TL_nil ?_
          refine T_ret ?_
          refine thenS_ret ?_
          have ho : ¬ okProm s.pl m := fun h => h39 ⟨h.2.2.2.1, h.2.2.2.2⟩
          rw [addV_same' h39]
          have he : promP s.pl m = (s.pl, []) := by unfold promP; rw [if_neg ho]
          rw [he]
          refine RetQ.gives (pr_close b s _ rfl hi) ?_
          refine RetQ.gives (osl_nil msgR 44 none _) ?_
          exact RetG_1 (.inl rfl) rfl (ResV.tmp rfl) GivesTo.g (⟨none, 0, rfl, rfl⟩)
        · refine T_skip ?_
          refine thenS_normal ?_
          refine T_seq ?_
          have ho : okProm s.pl m := ⟨Classical.not_not.1 h12, Classical.not_not.1 h21, Classical.not_not.1 h30, (Classical.not_not.1 h39).1, (Classical.not_not.1 h39).2⟩
          have hti := tellP_I hi ho hm
          refine T_gives (SlK.lay (SlK.of_gives GivesTo.g hk.voted)) ?_
          refine T_region ?_
          refine TL_y rfl rfl (Y_field_addr rfl) ?_
          refine TL_y rfl rfl (Y_load rfl rfl) ?_
          refine TL_y rfl rfl (Y_len rfl) ?_
          refine TL_y rfl rfl (Y_move rfl) ?_
          refine TL_nil ?_
          refine T_block ?_
          refine T_loopK (σ := PmSt) [0, 41, 42] (fun g => g.i ≤ m.voted.length) (fun g kv => (43, .int .i64 (g.i : Int)) :: kv) (fun g => cells b (prC (prT s (addV s.told s.nodes m.frm) g.A g.c (s.kept ++ m.voted.take g.i))) 133 :: votes s.bt (addV s.told s.nodes m.frm) s.nodes :: osl votedR 50 g.A g.c (s.kept ++ m.voted.take g.i) :: omap intK flR true s.bm (fmapP s.F) :: flH s.F s.nodes :: cells b3 (msgC m q) 44 :: sl votedR q.voted.1 q.voted.2 m.voted :: L) (fun g => m.voted.length - g.i) (⟨0, s.A, s.c⟩) rfl (Nat.zero_le _) ((by rw [List.take_zero, List.append_nil]; exact GivesTo.g)) (sub_cons rfl (sub_cons rfl (sub_cons rfl (sub_cons rfl (sub_nil))))) ?_
          rintro ⟨i, A, c⟩ hil
          dsimp only at hil ⊢
          refine T_region ?_
          refine TL_y rfl rfl (Y_lt rfl rfl) ?_
          refine TL_nil ?_
          refine T_seq ?_
          refine T_if rfl (fun h44 => ?_) (fun h44 => ?_)
          · refine T_skip ?_
            refine thenS_normal ?_
            refine T_seq ?_
            refine T_block ?_
            obtain ⟨v, hv⟩ : ∃ v, m.voted[i]? = some v := ⟨_, List.getElem?_eq_getElem (by omega)⟩
            have hvo := rVoted_ok (hvl.2 v (List.mem_of_getElem? hv))
            have hta := takeAt hv
            refine T_region ?_
            refine TL_index_n rfl rfl rfl (rfl) ((sln (A := q.voted.1) (c := q.voted.2))) (hv) ?_
            intro bn45 on45 hA45 hk45
            have hu45 := hv
            refine TL_load_nx rfl rfl hk45 hu45 (fun _ => rfl) ?_
            intro p46 ok46
            simp only [List.cons_append, List.nil_append]
            refine TL_alloc rfl rfl ?_
            intro b6
            refine TL_store rfl rfl rfl rfl rfl rfl ?_
            refine TL_nil ?_
            refine T_region ?_
            refine TL_y rfl rfl (Y_field_addr rfl) ?_
            refine TL_y rfl rfl (Y_load_agg rfl rfl) ?_
            refine TL_call rfl rfl (prCopied_spec v.en sln hvo.2.2.2) ?_
            rintro _ _ ⟨p49, rfl, rfl⟩
            refine TL_freeze_osl ?_
            refine TL_y rfl rfl (Y_field_addr rfl) ?_
            refine TL_store rfl rfl rfl rfl rfl rfl ?_
            refine TL_nil ?_
            refine T_region_draw_last (cells b (prC (prT s (addV s.told s.nodes m.frm) A c (s.kept ++ m.voted.take i))) 133 :: cells b6 (votedC v p49) 50 :: []) [0, 0, 2, 6, 14, 0, 32, 126, 255, 511, 1023] [10] [(0, true), (1, true), (2, true), (3, true), (4, true), (5, true), (6, false), (7, false), (8, true), (9, true), (10, false)] (by kernel_rfl) (by decide +kernel) GivesTo.g ?_
            refine TF_y rfl rfl (Y_move rfl) ?_
            refine TF_y rfl rfl (Y_move rfl) ?_
            refine TF_y rfl rfl (Y_nil_check rfl) ?_
            refine TF_y rfl rfl (Y_field_addr rfl) ?_
            refine TF_y rfl rfl (Y_load rfl rfl) ?_
            refine TF_name 55 (v' := .slice A (s.kept ++ m.voted.take i).length c) rfl (rfl) ?_
            refine TF_y rfl rfl (Y_load_agg rfl rfl) ?_
            refine TF_anchor rfl ?_
            refine TL_build_slice rfl rfl rfl rfl rfl rfl ?_
            intro b57
            refine TL_osl (k := 1) votedR [v] (cells_one' (ex_rep p49 (sep_sl slk) hvo)) rfl (by decide) ?_
            refine TL_freeze_osl ?_
            refine TL_name 57 (v' := .slice (some ⟨b57, 0, none⟩) [v].length 1) rfl rfl ?_
            refine TF_end GivesTo.g ?_
            refine TF_anchor rfl ?_
            refine TL_append rfl rfl rfl rfl rfl slk (by simp only [List.length_append, List.length_take, List.length_cons, List.length_nil]; omega) ?_
            intro A58 c58
            rw [List.append_assoc, ← hta]
            refine TF_end GivesTo.g ?_
            refine TF_y rfl rfl (Y_nil_check rfl) ?_
            refine TF_y rfl rfl (Y_field_addr rfl) ?_
            refine TF_anchor rfl ?_
            refine TL_store rfl rfl rfl rfl rfl rfl ?_
            refine TF_end_tail rfl ?_
            refine TF_nil ?_
            refine inB_normal ?_
            refine thenS_normal ?_
            refine T_region_last ?_
            refine TL_y rfl rfl (Y_add rfl rfl (by omega)) ?_
            refine TL_name 61 (v' := .int .i64 ((i + 1 : Nat) : Int)) rfl (rfl) ?_
            refine TL_y rfl rfl (Y_move rfl) ?_
            refine TL_nil ?_
            refine thenS_normal ?_
            exact ⟨⟨i + 1, A58, c58⟩, (by simp only; omega), by simp only; omega, holds_to (sub_cons rfl (sub_cons rfl (sub_cons rfl (sub_cons rfl (sub_nil))))) GivesTo.g⟩
          · refine T_exit ?_
            refine thenS_exit ?_
            refine thenS_exit ?_
            refine inB_hit ?_
            refine thenS_normal ?_
            refine T_seq ?_
            rw [List.take_of_length_le (show m.voted.length ≤ i by omega)]
            refine T_region ?_
            refine TL_y rfl rfl (Y_move rfl) ?_
            refine TL_y rfl rfl (Y_nil_check rfl) ?_
            refine TL_y rfl rfl (Y_field_addr rfl) ?_
            refine TL_y rfl rfl (Y_load rfl rfl) ?_
            refine TL_pullc s.bt ?_
            refine TL_call rfl rfl (enough_spec ((addV_len' _ _ _).trans htl) hn) ?_
            rintro _ _ ⟨rfl, rfl⟩
            refine TL_y rfl rfl (Y_not_d rfl) ?_
            refine TL_nil ?_
            refine T_if rfl (fun h67 => ?_) (fun h67 => ?_)
            · refine T_region ?_
              refine TL_y rfl rfl (Y_assign rfl) ?_
              refine TL_nil ?_
              refine T_ret ?_
              refine thenS_ret ?_
              have he : promP s.pl m = (tellP s.pl m, []) := by unfold promP; rw [if_pos ho, if_neg (show ¬ enoughV (tellP s.pl m).told s.pl.nodes from h67)]
              rw [he]
              refine RetQ.gives (pr_close b (prT s (addV s.told s.nodes m.frm) A c (s.kept ++ m.voted)) (tellP s.pl m) rfl hti) ?_
              refine RetQ.gives (osl_nil msgR 44 none _) ?_
              exact RetG_1 (.inl rfl) rfl (ResV.tmp rfl) GivesTo.g (⟨none, 0, rfl, rfl⟩)
            · refine T_skip ?_
              refine thenS_normal ?_
              refine T_gives (pr_close b (prT s (addV s.told s.nodes m.frm) A c (s.kept ++ m.voted)) (tellP s.pl m) rfl hti) ?_
              have he : promP s.pl m = leadP (tellP s.pl m) := by unfold promP; rw [if_pos ho, if_pos (show enoughV (tellP s.pl m).told s.pl.nodes from Classical.not_not.1 h67)]
              refine T_region ?_
              refine TL_y rfl rfl (Y_move rfl) ?_
              refine TL_pullk b ?_
              refine TL_call rfl rfl (prLead_spec (p := tellP s.pl m) ho.1) ?_
              rintro _ _ ⟨A69, c69, rfl, rfl⟩
              refine TL_y rfl rfl (Y_assign rfl) ?_
              refine TL_nil ?_
              refine T_ret ?_
              rw [he]
              exact RetG_1 (.inl rfl) rfl (ResV.tmp rfl) GivesTo.g (⟨A69, c69, rfl, rfl⟩)
end Go.SL
set_option linter.unusedVariables false
set_option linter.unusedSimpArgs false
namespace Go.SL
open Go Go.Proofs
theorem flAt_none {F : List FlD} {slot : Int} (h : flAt (F.map FlD.pl) slot = none) : getM (fmapP F) slot = none := by
  rw [getM_none]
  intro z hz e
  obtain ⟨f, hf, rfl⟩ := List.mem_map.1 hz
  have := List.find?_eq_none.1 h f.pl (List.mem_map.2 ⟨f, hf, rfl⟩)
  exact this (decide_eq_true e)
theorem flAt_some {F : List FlD} {slot : Int} {f : FlP} (h : flAt (F.map FlD.pl) slot = some f) : ∃ (k : Nat) (g : FlD), F[k]? = some g ∧ g.pl = f ∧ g.slot = slot := by
  have h1 := List.find?_some h
  have h2 := List.mem_of_find?_eq_some h
  obtain ⟨g, hg, rfl⟩ := List.mem_map.1 h2
  obtain ⟨k, hk⟩ := List.getElem?_of_mem hg
  exact ⟨k, g, hk, rfl, of_decide_eq_true h1⟩
theorem inc_ne {F : List FlD} (h : F.Pairwise fun f g => g.slot < f.slot) {i j : Nat} {f g : FlD} (hi : F[i]? = some f) (hj : F[j]? = some g) (hne : i ≠ j) : f.slot ≠ g.slot := by
  obtain ⟨a1, a2⟩ := List.getElem?_eq_some_iff.1 hi
  obtain ⟨b1, b2⟩ := List.getElem?_eq_some_iff.1 hj
  have hp := List.pairwise_iff_getElem.1 h
  rcases Nat.lt_or_ge i j with hlt | hge
  · have := hp i j a1 b1 hlt; rw [a2, b2] at this; omega
  · have := hp j i b1 a1 (by omega); rw [a2, b2] at this; omega
theorem flVote_set {F : List FlD} (h : F.Pairwise fun f g => g.slot < f.slot) {k : Nat} {g : FlD} (hk : F[k]? = some g) (n node : Int) : (F.set k ⟨g.slot, g.en, addV g.by_ n node, g.vb⟩).map FlD.pl = flVote (F.map FlD.pl) g.slot n node := by
  unfold flVote
  apply List.ext_getElem?
  intro j
  rw [List.getElem?_map, List.getElem?_map, List.getElem?_map, List.getElem?_set]
  by_cases e : k = j
  · subst e
    rw [if_pos rfl, if_pos (List.getElem?_eq_some_iff.1 hk).1, hk]
    simp
  · rw [if_neg e]
    cases hj : F[j]? with
    | none => rfl
    | some f =>
      have := inc_ne h hk hj e
      simp only [Option.map_some, Option.some.injEq]
      rw [if_neg (fun x => this x.symm)]
theorem fmap_set {F : List FlD} {k : Nat} {g : FlD} (hk : F[k]? = some g) (bs : List Bool) : fmapP (F.set k ⟨g.slot, g.en, bs, g.vb⟩) = fmapP F := by
  unfold fmapP
  rw [List.map_set]
  exact set_self (by rw [List.getElem?_map, hk]; rfl)
theorem flHs_set {F : List FlD} {k : Nat} {g : FlD} {N : Int} (bs : List Bool) : flHs (F.set k ⟨g.slot, g.en, bs, g.vb⟩) N = (flHs F N).set k (votes g.vb bs N) := by
  unfold flHs; rw [List.map_set]
theorem fl_erase {F : List FlD} (h : F.Pairwise fun f g => g.slot < f.slot) {k : Nat} {g : FlD} (hk : F[k]? = some g) : F.filter (fun f => !decide (f.slot = g.slot)) = F.eraseIdx k := by
  induction F generalizing k with
  | nil => simp at hk
  | cons x r ih =>
    obtain ⟨h1, h2⟩ := List.pairwise_cons.1 h
    rw [List.filter_cons]
    cases k with
    | zero =>
      simp only [List.getElem?_cons_zero, Option.some.injEq] at hk
      subst hk
      rw [if_neg (by simp), List.eraseIdx_cons_zero]
      exact List.filter_eq_self.2 fun f hf => by have := h1 f hf; simp; omega
    | succ k =>
      simp only [List.getElem?_cons_succ] at hk
      have := h1 g (List.mem_of_getElem? hk)
      rw [if_pos (by simp; omega), List.eraseIdx_cons_succ, ih h2 hk]
theorem fmap_del (F : List FlD) (slot : Int) : delM (fmapP F) slot = fmapP (F.filter fun f => !decide (f.slot = slot)) := by
  unfold delM fmapP; rw [List.filter_map]; rfl
theorem pl_del (F : List FlD) (slot : Int) : (F.filter fun f => !decide (f.slot = slot)).map FlD.pl = flDel (F.map FlD.pl) slot := by
  unfold flDel; rw [List.filter_map]; rfl
theorem er_map {α β : Type} (f : α → β) : ∀ (l : List α) (k : Nat), (l.map f).eraseIdx k = (l.eraseIdx k).map f
  | [], k => by simp
  | x :: r, 0 => rfl
  | x :: r, k + 1 => by simp [er_map f r k]
theorem set_permA {α : Type} : ∀ {l : List α} {j : Nat} {p : α}, j < l.length → (l.set j p).Perm (p :: l.eraseIdx j)
  | [], j, p, h => by simp at h
  | x :: r, 0, p, h => List.Perm.refl _
  | x :: r, j + 1, p, h => by
    rw [List.set_cons_succ, List.eraseIdx_cons_succ]
    exact ((set_permA (l := r) (by simpa using h)).cons x).trans (List.Perm.swap _ _ _)
theorem flX_drop {F : List FlD} (h : F.Pairwise fun f g => g.slot < f.slot) {k : Nat} {g : FlD} (hk : F[k]? = some g) {N : Int} {L : List HP} : Gives (flX F N k :: L) (flH (F.filter fun f => !decide (f.slot = g.slot)) N :: L) := by
  have hp := set_permA (l := flHs F N) (p := hole) (List.getElem?_eq_some_iff.1 (flHs_at (N := N) hk)).1
  have e : (flHs F N).eraseIdx k = flHs (F.eraseIdx k) N := by unfold flHs; rw [er_map]
  rw [fl_erase h hk]
  unfold flX flH
  rw [← e]
  exact (allP_perm hp).trans (allP_uncons.trans (Gives.drop _ _))
theorem accVote_I {p : PP} (hi : PI p) (slot node : Int) : PI { p with F := flVote p.F slot p.nodes node } := by
  have hs : ∀ f ∈ flVote p.F slot p.nodes node, ∃ g ∈ p.F, f.slot = g.slot ∧ f.en = g.en ∧ f.by_.length = g.by_.length := fun f hf => by
    obtain ⟨g, hg, rfl⟩ := List.mem_map.1 hf
    refine ⟨g, hg, ?_⟩
    split
    · exact ⟨rfl, rfl, addV_len' _ _ _⟩
    · exact ⟨rfl, rfl, rfl⟩
  exact {
    nodes := hi.nodes, node := hi.node, phase := hi.phase, told := hi.told
    by_ := fun f hf => by obtain ⟨g, hg, h1, h2, h3⟩ := hs f hf; rw [h3]; exact hi.by_ g hg
    inc := List.pairwise_map.2 (hi.inc.imp fun {f g} h => by
      have e : ∀ f : FlP, (if f.slot = slot then { f with by_ := addV f.by_ p.nodes node } else f).slot = f.slot := fun f => by split <;> rfl
      rw [e, e]; exact h)
    len := by show (List.map _ _).length ≤ 4096; rw [List.length_map]; exact hi.len
    rng := fun f hf => by obtain ⟨g, hg, h1, h2, h3⟩ := hs f hf; rw [h1]; exact hi.rng g hg
    next := hi.next, frm := hi.frm, kept := hi.kept, bal := hi.bal, seen := hi.seen, kin := hi.kin
    fen := fun f hf => by obtain ⟨g, hg, h1, h2, h3⟩ := hs f hf; rw [h2]; exact hi.fen g hg
    ph1 := fun e => by show List.map _ _ = []; rw [hi.ph1 e]; rfl }
theorem accDel_I {p : PP} (hi : PI p) (slot : Int) : PI { p with F := flDel p.F slot } :=
  { nodes := hi.nodes, node := hi.node, phase := hi.phase, told := hi.told
    by_ := fun f hf => hi.by_ f (List.mem_filter.1 hf).1
    inc := hi.inc.filter _
    len := Nat.le_trans (List.length_filter_le _ _) hi.len
    rng := fun f hf => hi.rng f (List.mem_filter.1 hf).1
    next := hi.next, frm := hi.frm, kept := hi.kept, bal := hi.bal, seen := hi.seen, kin := hi.kin
    fen := fun f hf => hi.fen f (List.mem_filter.1 hf).1
    ph1 := fun e => by show List.filter _ _ = []; rw [hi.ph1 e]; rfl }
abbrev prFl (s : PrD) (F : List FlD) : PrD := ⟨s.node, s.nodes, s.phase, s.bal, s.seen, s.frm, s.next, s.bt, s.told, s.A, s.c, s.kept, s.bm, F⟩
theorem prAccepted_none {L : List HP} {b : Nat} {p : PP} (m : MsgD) (q : MsgP) (hx : MsgOk m) (hfl : flAt p.F m.slot = none) : Fn Try.prog 83 #[.pointer (some ⟨b, 0, none⟩), .agg (List.toArray (msgC m q))] (pr b p :: L) (fun v L' => ∃ A c, v = .slice A (accP p m).2.length c ∧ L' = osl votedR 50 A c (accP p m).2 :: pr b (accP p m).1 :: L) := by
  have he : accP p m = (p, []) := by unfold accP; rw [hfl]; split <;> rfl
  rw [he]
  refine Fn_enter Try.func83 rfl rfl rfl rfl ?_
  refine T_region ?_
  refine TL_box rfl rfl rfl ?_
  intro b3
  refine TL_y rfl rfl (Y_assign rfl) ?_
  refine TL_nil ?_
  refine T_pullk b ?_
  refine T_pr fun s hst hi => ?_
  subst hst
  have hg := flAt_none hfl
  refine T_rd [0, 1, 3, 7, 0, 16, 63, 127, 255, 255, 0, 1535, 4095] (by kernel_rfl) (by decide +kernel) ?_
  refine RD_pair 6 10 (by decide) ?_ ?_
  · refine RD_leaf (cells b (prC s) 133 :: cells b3 (msgC m q) 44 :: []) [0, 1, 3, 7, 0, 16, 63, 127, 255, 255, 127, 1535, 4095] [] [(0, true), (1, true), (2, true), (3, true), (4, true), (5, true), (6, false), (7, true), (8, true), (9, true), (10, false), (11, false), (12, true)] (by decide +kernel) GivesTo.g ?_
    refine TF_y rfl rfl (Y_move rfl) ?_
    refine TF_y rfl rfl (Y_nil_check rfl) ?_
    refine TF_y rfl rfl (Y_field_addr rfl) ?_
    refine TF_y rfl rfl (Y_load rfl rfl) ?_
    refine TF_y rfl rfl (Y_field_addr rfl) ?_
    refine TF_y rfl rfl (Y_load rfl rfl) ?_
    refine TF_anchor rfl ?_
    refine TL_lookup_okx (R := flR) (k := m.slot) rfl rfl rfl hx.slot (fun hn => ?_) (fun u p hu hou => absurd hu (by rw [hg]; simp))
    refine TF_end GivesTo.g ?_
    refine TF_y rfl rfl (Y_move rfl) ?_
    refine TF_y rfl rfl (Y_extract rfl rfl) ?_
    refine TF_y rfl rfl (Y_extract rfl rfl) ?_
    refine TF_anchor rfl ?_
    refine TL_alloc rfl rfl ?_
    intro b5
    refine TF_end GivesTo.g ?_
    refine TF_anchor rfl ?_
    refine TL_store rfl rfl rfl rfl rfl rfl ?_
    refine TF_end GivesTo.g ?_
    refine TF_y rfl rfl (Y_assign rfl) ?_
    refine TF_nil ?_
    refine thenS_normal ?_
    refine T_seq ?_
    refine T_region_draw (cells b (prC s) 133 :: cells b3 (msgC m q) 44 :: []) [0, 1, 3, 7, 15, 31, 63, 127, 63, 319, 831, 1855, 4095, 8191, 16383, 32767, 65535, 131071] [] [(0, true), (1, true), (2, true), (3, true), (4, true), (5, true), (6, true), (7, true), (8, true), (9, true), (10, true), (11, true), (12, true), (13, true), (14, true), (15, true), (16, true), (17, true)] (by kernel_rfl) (by decide +kernel) GivesTo.g ?_
    refine TF_y rfl rfl (Y_move rfl) ?_
    refine TF_y rfl rfl (Y_nil_check rfl) ?_
    refine TF_y rfl rfl (Y_field_addr rfl) ?_
    refine TF_y rfl rfl (Y_load rfl rfl) ?_
    refine TF_y rfl rfl (Y_ne rfl rfl) ?_
    refine TF_y rfl rfl (Y_move rfl) ?_
    refine TF_splitd 22 rfl (fun h22 => ?_) (fun h22 => ?_)
    · refine TF_gskip rfl rfl rfl rfl rfl ?_
      refine TF_gskip rfl rfl rfl rfl rfl ?_
      refine TF_gskip rfl rfl rfl rfl rfl ?_
      refine TF_gskip rfl rfl rfl rfl rfl ?_
      refine TF_gskip rfl rfl rfl rfl rfl ?_
      refine TF_gskip rfl rfl rfl rfl rfl ?_
      refine TF_gskip rfl rfl rfl rfl rfl ?_
      refine TF_y rfl rfl (Y_pick_t rfl rfl) ?_
      refine TF_y rfl rfl (Y_move rfl) ?_
      refine TF_gskip rfl rfl rfl rfl rfl ?_
      refine TF_gskip rfl rfl rfl rfl rfl ?_
      refine TF_y rfl rfl (Y_pick_t rfl rfl) ?_
      refine TF_nil ?_
      refine T_cond_true rfl ?_
      refine T_region ?_
      refine TL_y rfl rfl (Y_assign rfl) ?_
      refine TL_nil ?_
      refine T_ret ?_
      refine thenS_ret ?_
      refine RetQ.gives (pr_close b s _ rfl hi) ?_
      refine RetQ.gives (osl_nil votedR 50 none _) ?_
      exact RetG_1 (.inl rfl) rfl (ResV.tmp rfl) GivesTo.g (⟨none, 0, rfl, rfl⟩)
    · refine TF_gy rfl rfl rfl rfl (Y_field_addr rfl) ?_
      refine TF_gy rfl rfl rfl rfl (Y_load_agg rfl rfl) ?_
      refine TF_gy rfl rfl rfl rfl (Y_move rfl) ?_
      refine TF_gy rfl rfl rfl rfl (Y_nil_check rfl) ?_
      refine TF_gy rfl rfl rfl rfl (Y_field_addr rfl) ?_
      refine TF_gy rfl rfl rfl rfl (Y_load_agg rfl rfl) ?_
      refine TF_gy rfl rfl rfl rfl (Y_ne_bal (a := m.bal) (b := s.bal) rfl rfl) ?_
      refine TF_name 29 (v' := .bool (decide (m.bal ≠ s.bal))) rfl (congrArg Value.bool bal_pair) ?_
      refine TF_y rfl rfl (Y_pick_f rfl rfl) ?_
      refine TF_y rfl rfl (Y_move rfl) ?_
      refine TF_splitd 31 rfl (fun h31 => ?_) (fun h31 => ?_)
      · refine TF_gskip rfl rfl rfl rfl rfl ?_
        refine TF_gskip rfl rfl rfl rfl rfl ?_
        refine TF_y rfl rfl (Y_pick_t rfl rfl) ?_
        refine TF_nil ?_
        refine T_cond_true rfl ?_
        refine T_region ?_
        refine TL_y rfl rfl (Y_assign rfl) ?_
        refine TL_nil ?_
        refine T_ret ?_
        refine thenS_ret ?_
        refine RetQ.gives (pr_close b s _ rfl hi) ?_
        refine RetQ.gives (osl_nil votedR 50 none _) ?_
        exact RetG_1 (.inl rfl) rfl (ResV.tmp rfl) GivesTo.g (⟨none, 0, rfl, rfl⟩)
      · refine TF_gy rfl rfl rfl rfl (Y_move rfl) ?_
        refine TF_gy rfl rfl rfl rfl (Y_not rfl) ?_
        refine TF_name 33 (v' := .bool true) rfl (rfl) ?_
        refine TF_y rfl rfl (Y_pick_f rfl rfl) ?_
        refine TF_nil ?_
        refine T_cond_true rfl ?_
        refine T_region ?_
        refine TL_y rfl rfl (Y_assign rfl) ?_
        refine TL_nil ?_
        refine T_ret ?_
        refine thenS_ret ?_
        refine RetQ.gives (pr_close b s _ rfl hi) ?_
        refine RetQ.gives (osl_nil votedR 50 none _) ?_
        exact RetG_1 (.inl rfl) rfl (ResV.tmp rfl) GivesTo.g (⟨none, 0, rfl, rfl⟩)
  · refine RD_leaf (cells b (prC s) 133 :: cells b3 (msgC m q) 44 :: []) [0, 1, 3, 7, 0, 16, 1087, 1151, 1279, 1279, 0, 1535, 4095] [] [(0, true), (1, true), (2, true), (3, true), (4, true), (5, true), (10, false), (6, false), (7, true), (8, true), (9, true), (11, false), (12, true)] (by decide +kernel) GivesTo.g ?_
    refine TF_y rfl rfl (Y_move rfl) ?_
    refine TF_y rfl rfl (Y_nil_check rfl) ?_
    refine TF_y rfl rfl (Y_field_addr rfl) ?_
    refine TF_y rfl rfl (Y_load rfl rfl) ?_
    refine TF_y rfl rfl (Y_field_addr rfl) ?_
    refine TF_y rfl rfl (Y_load rfl rfl) ?_
    refine TF_anchor rfl ?_
    refine TL_alloc rfl rfl ?_
    intro b5
    refine TF_end GivesTo.g ?_
    refine TF_anchor rfl ?_
    refine TL_lookup_okx (R := flR) (k := m.slot) rfl rfl rfl hx.slot (fun hn => ?_) (fun u p hu hou => absurd hu (by rw [hg]; simp))
    refine TF_end GivesTo.g ?_
    refine TF_y rfl rfl (Y_move rfl) ?_
    refine TF_y rfl rfl (Y_extract rfl rfl) ?_
    refine TF_y rfl rfl (Y_extract rfl rfl) ?_
    refine TF_anchor rfl ?_
    refine TL_store rfl rfl rfl rfl rfl rfl ?_
    refine TF_end GivesTo.g ?_
    refine TF_y rfl rfl (Y_assign rfl) ?_
    refine TF_nil ?_
    refine thenS_normal ?_
    refine T_seq ?_
    refine T_region_draw (cells b (prC s) 133 :: cells b3 (msgC m q) 44 :: []) [0, 1, 3, 7, 15, 31, 63, 127, 63, 319, 831, 1855, 4095, 8191, 16383, 32767, 65535, 131071] [] [(0, true), (1, true), (2, true), (3, true), (4, true), (5, true), (6, true), (7, true), (8, true), (9, true), (10, true), (11, true), (12, true), (13, true), (14, true), (15, true), (16, true), (17, true)] (by kernel_rfl) (by decide +kernel) GivesTo.g ?_
    refine TF_y rfl rfl (Y_move rfl) ?_
    refine TF_y rfl rfl (Y_nil_check rfl) ?_
    refine TF_y rfl rfl (Y_field_addr rfl) ?_
    refine TF_y rfl rfl (Y_load rfl rfl) ?_
    refine TF_y rfl rfl (Y_ne rfl rfl) ?_
    refine TF_y rfl rfl (Y_move rfl) ?_
    refine TF_splitd 22 rfl (fun h22 => ?_) (fun h22 => ?_)
    · refine TF_gskip rfl rfl rfl rfl rfl ?_
      refine TF_gskip rfl rfl rfl rfl rfl ?_
      refine TF_gskip rfl rfl rfl rfl rfl ?_
      refine TF_gskip rfl rfl rfl rfl rfl ?_
      refine TF_gskip rfl rfl rfl rfl rfl ?_
      refine TF_gskip rfl rfl rfl rfl rfl ?_
      refine TF_gskip rfl rfl rfl rfl rfl ?_
      refine TF_y rfl rfl (Y_pick_t rfl rfl) ?_
      refine TF_y rfl rfl (Y_move rfl) ?_
      refine TF_gskip rfl rfl rfl rfl rfl ?_
      refine TF_gskip rfl rfl rfl rfl rfl ?_
      refine TF_y rfl rfl (Y_pick_t rfl rfl) ?_
      refine TF_nil ?_
      refine T_cond_true rfl ?_
      refine T_region ?_
      refine TL_y rfl rfl (Y_assign rfl) ?_
      refine TL_nil ?_
      refine T_ret ?_
      refine thenS_ret ?_
      refine RetQ.gives (pr_close b s _ rfl hi) ?_
      refine RetQ.gives (osl_nil votedR 50 none _) ?_
      exact RetG_1 (.inl rfl) rfl (ResV.tmp rfl) GivesTo.g (⟨none, 0, rfl, rfl⟩)
    · refine TF_gy rfl rfl rfl rfl (Y_field_addr rfl) ?_
      refine TF_gy rfl rfl rfl rfl (Y_load_agg rfl rfl) ?_
      refine TF_gy rfl rfl rfl rfl (Y_move rfl) ?_
      refine TF_gy rfl rfl rfl rfl (Y_nil_check rfl) ?_
      refine TF_gy rfl rfl rfl rfl (Y_field_addr rfl) ?_
      refine TF_gy rfl rfl rfl rfl (Y_load_agg rfl rfl) ?_
      refine TF_gy rfl rfl rfl rfl (Y_ne_bal (a := m.bal) (b := s.bal) rfl rfl) ?_
      refine TF_name 29 (v' := .bool (decide (m.bal ≠ s.bal))) rfl (congrArg Value.bool bal_pair) ?_
      refine TF_y rfl rfl (Y_pick_f rfl rfl) ?_
      refine TF_y rfl rfl (Y_move rfl) ?_
      refine TF_splitd 31 rfl (fun h31 => ?_) (fun h31 => ?_)
      · refine TF_gskip rfl rfl rfl rfl rfl ?_
        refine TF_gskip rfl rfl rfl rfl rfl ?_
        refine TF_y rfl rfl (Y_pick_t rfl rfl) ?_
        refine TF_nil ?_
        refine T_cond_true rfl ?_
        refine T_region ?_
        refine TL_y rfl rfl (Y_assign rfl) ?_
        refine TL_nil ?_
        refine T_ret ?_
        refine thenS_ret ?_
        refine RetQ.gives (pr_close b s _ rfl hi) ?_
        refine RetQ.gives (osl_nil votedR 50 none _) ?_
        exact RetG_1 (.inl rfl) rfl (ResV.tmp rfl) GivesTo.g (⟨none, 0, rfl, rfl⟩)
      · refine TF_gy rfl rfl rfl rfl (Y_move rfl) ?_
        refine TF_gy rfl rfl rfl rfl (Y_not rfl) ?_
        refine TF_name 33 (v' := .bool true) rfl (rfl) ?_
        refine TF_y rfl rfl (Y_pick_f rfl rfl) ?_
        refine TF_nil ?_
        refine T_cond_true rfl ?_
        refine T_region ?_
        refine TL_y rfl rfl (Y_assign rfl) ?_
        refine TL_nil ?_
        refine T_ret ?_
        refine thenS_ret ?_
        refine RetQ.gives (pr_close b s _ rfl hi) ?_
        refine RetQ.gives (osl_nil votedR 50 none _) ?_
        exact RetG_1 (.inl rfl) rfl (ResV.tmp rfl) GivesTo.g (⟨none, 0, rfl, rfl⟩)
theorem prAccepted_no {L : List HP} {b : Nat} {p : PP} (m : MsgD) (q : MsgP) (hx : MsgOk m) (hph : ¬ (p.phase = 2 ∧ m.bal = p.bal)) {f : FlP} (hfl : flAt p.F m.slot = some f) : Fn Try.prog 83 #[.pointer (some ⟨b, 0, none⟩), .agg (List.toArray (msgC m q))] (pr b p :: L) (fun v L' => ∃ A c, v = .slice A (accP p m).2.length c ∧ L' = osl votedR 50 A c (accP p m).2 :: pr b (accP p m).1 :: L) := by
  have he : accP p m = (p, []) := by unfold accP; rw [if_neg hph]
  rw [he]
  refine Fn_enter Try.func83 rfl rfl rfl rfl ?_
  refine T_region ?_
  refine TL_box rfl rfl rfl ?_
  intro b3
  refine TL_y rfl rfl (Y_assign rfl) ?_
  refine TL_nil ?_
  refine T_pullk b ?_
  refine T_pr fun s hst hi => ?_
  subst hst
  obtain ⟨k, g, hk, rfl, hgs⟩ := flAt_some hfl
  have hget := fl_get (inc_D hi) hk
  rw [hgs] at hget
  refine T_rd [0, 1, 3, 7, 0, 16, 63, 127, 255, 255, 0, 1535, 4095] (by kernel_rfl) (by decide +kernel) ?_
  refine RD_pair 6 10 (by decide) ?_ ?_
  · refine RD_leaf (cells b (prC s) 133 :: cells b3 (msgC m q) 44 :: []) [0, 1, 3, 7, 0, 16, 63, 127, 255, 255, 127, 1535, 4095] [] [(0, true), (1, true), (2, true), (3, true), (4, true), (5, true), (6, false), (7, true), (8, true), (9, true), (10, false), (11, false), (12, true)] (by decide +kernel) GivesTo.g ?_
    refine TF_y rfl rfl (Y_move rfl) ?_
    refine TF_y rfl rfl (Y_nil_check rfl) ?_
    refine TF_y rfl rfl (Y_field_addr rfl) ?_
    refine TF_y rfl rfl (Y_load rfl rfl) ?_
    refine TF_y rfl rfl (Y_field_addr rfl) ?_
    refine TF_y rfl rfl (Y_load rfl rfl) ?_
    refine TF_anchor rfl ?_
    refine TL_lookup_okx (R := flR) (k := m.slot) rfl rfl rfl hx.slot (fun hn => absurd hn (by rw [hget]; simp)) (fun u2 p2 hu hou => ?_)
    rw [hget] at hu
    obtain rfl := Option.some.inj hu
    simp only [List.cons_append, List.nil_append]
    refine TF_end GivesTo.g ?_
    refine TF_y rfl rfl (Y_move rfl) ?_
    refine TF_y rfl rfl (Y_extract rfl rfl) ?_
    refine TF_y rfl rfl (Y_extract rfl rfl) ?_
    refine TF_anchor rfl ?_
    refine TL_alloc rfl rfl ?_
    intro b5
    refine TF_end GivesTo.g ?_
    refine TF_anchor rfl ?_
    refine TL_store rfl rfl rfl rfl rfl rfl ?_
    refine TF_end GivesTo.g ?_
    refine TF_y rfl rfl (Y_assign rfl) ?_
    refine TF_nil ?_
    refine thenS_normal ?_
    refine T_seq ?_
    refine T_region_draw (cells b (prC s) 133 :: cells b3 (msgC m q) 44 :: []) [0, 1, 3, 7, 15, 31, 63, 127, 63, 319, 831, 1855, 4095, 8191, 16383, 32767, 65535, 131071] [] [(0, true), (1, true), (2, true), (3, true), (4, true), (5, true), (6, true), (7, true), (8, true), (9, true), (10, true), (11, true), (12, true), (13, true), (14, true), (15, true), (16, true), (17, true)] (by kernel_rfl) (by decide +kernel) GivesTo.g ?_
    refine TF_y rfl rfl (Y_move rfl) ?_
    refine TF_y rfl rfl (Y_nil_check rfl) ?_
    refine TF_y rfl rfl (Y_field_addr rfl) ?_
    refine TF_y rfl rfl (Y_load rfl rfl) ?_
    refine TF_y rfl rfl (Y_ne rfl rfl) ?_
    refine TF_y rfl rfl (Y_move rfl) ?_
    refine TF_splitd 22 rfl (fun h22 => ?_) (fun h22 => ?_)
    · refine TF_gskip rfl rfl rfl rfl rfl ?_
      refine TF_gskip rfl rfl rfl rfl rfl ?_
      refine TF_gskip rfl rfl rfl rfl rfl ?_
      refine TF_gskip rfl rfl rfl rfl rfl ?_
      refine TF_gskip rfl rfl rfl rfl rfl ?_
      refine TF_gskip rfl rfl rfl rfl rfl ?_
      refine TF_gskip rfl rfl rfl rfl rfl ?_
      refine TF_y rfl rfl (Y_pick_t rfl rfl) ?_
      refine TF_y rfl rfl (Y_move rfl) ?_
      refine TF_gskip rfl rfl rfl rfl rfl ?_
      refine TF_gskip rfl rfl rfl rfl rfl ?_
      refine TF_y rfl rfl (Y_pick_t rfl rfl) ?_
      refine TF_nil ?_
      refine T_cond_true rfl ?_
      refine T_region ?_
      refine TL_y rfl rfl (Y_assign rfl) ?_
      refine TL_nil ?_
      refine T_ret ?_
      refine thenS_ret ?_
      refine RetQ.gives (pr_close b s _ rfl hi) ?_
      refine RetQ.gives (osl_nil votedR 50 none _) ?_
      exact RetG_1 (.inl rfl) rfl (ResV.tmp rfl) GivesTo.g (⟨none, 0, rfl, rfl⟩)
    · refine TF_gy rfl rfl rfl rfl (Y_field_addr rfl) ?_
      refine TF_gy rfl rfl rfl rfl (Y_load_agg rfl rfl) ?_
      refine TF_gy rfl rfl rfl rfl (Y_move rfl) ?_
      refine TF_gy rfl rfl rfl rfl (Y_nil_check rfl) ?_
      refine TF_gy rfl rfl rfl rfl (Y_field_addr rfl) ?_
      refine TF_gy rfl rfl rfl rfl (Y_load_agg rfl rfl) ?_
      refine TF_gy rfl rfl rfl rfl (Y_ne_bal (a := m.bal) (b := s.bal) rfl rfl) ?_
      refine TF_name 29 (v' := .bool (decide (m.bal ≠ s.bal))) rfl (congrArg Value.bool bal_pair) ?_
      refine TF_y rfl rfl (Y_pick_f rfl rfl) ?_
      refine TF_y rfl rfl (Y_move rfl) ?_
      refine TF_splitd 31 rfl (fun h31 => ?_) (fun h31 => ?_)
      · refine TF_gskip rfl rfl rfl rfl rfl ?_
        refine TF_gskip rfl rfl rfl rfl rfl ?_
        refine TF_y rfl rfl (Y_pick_t rfl rfl) ?_
        refine TF_nil ?_
        refine T_cond_true rfl ?_
        refine T_region ?_
        refine TL_y rfl rfl (Y_assign rfl) ?_
        refine TL_nil ?_
        refine T_ret ?_
        refine thenS_ret ?_
        refine RetQ.gives (pr_close b s _ rfl hi) ?_
        refine RetQ.gives (osl_nil votedR 50 none _) ?_
        exact RetG_1 (.inl rfl) rfl (ResV.tmp rfl) GivesTo.g (⟨none, 0, rfl, rfl⟩)
      · refine TF_gy rfl rfl rfl rfl (Y_move rfl) ?_
        refine TF_gy rfl rfl rfl rfl (Y_not rfl) ?_
        refine TF_y rfl rfl (Y_pick_f rfl rfl) ?_
        refine TF_nil ?_
        refine T_cond_pos rfl (absurd ⟨Classical.not_not.1 h22, Classical.not_not.1 h31⟩ hph) ?_
        refine T_region ?_
        refine TL_y rfl rfl (Y_assign rfl) ?_
        refine TL_nil ?_
        refine T_ret ?_
        refine thenS_ret ?_
        refine RetQ.gives (pr_close b s _ rfl hi) ?_
        refine RetQ.gives (osl_nil votedR 50 none _) ?_
        exact RetG_1 (.inl rfl) rfl (ResV.tmp rfl) GivesTo.g (⟨none, 0, rfl, rfl⟩)
  · refine RD_leaf (cells b (prC s) 133 :: cells b3 (msgC m q) 44 :: []) [0, 1, 3, 7, 0, 16, 1087, 1151, 1279, 1279, 0, 1535, 4095] [] [(0, true), (1, true), (2, true), (3, true), (4, true), (5, true), (10, false), (6, false), (7, true), (8, true), (9, true), (11, false), (12, true)] (by decide +kernel) GivesTo.g ?_
    refine TF_y rfl rfl (Y_move rfl) ?_
    refine TF_y rfl rfl (Y_nil_check rfl) ?_
    refine TF_y rfl rfl (Y_field_addr rfl) ?_
    refine TF_y rfl rfl (Y_load rfl rfl) ?_
    refine TF_y rfl rfl (Y_field_addr rfl) ?_
    refine TF_y rfl rfl (Y_load rfl rfl) ?_
    refine TF_anchor rfl ?_
    refine TL_alloc rfl rfl ?_
    intro b5
    refine TF_end GivesTo.g ?_
    refine TF_anchor rfl ?_
    refine TL_lookup_okx (R := flR) (k := m.slot) rfl rfl rfl hx.slot (fun hn => absurd hn (by rw [hget]; simp)) (fun u2 p2 hu hou => ?_)
    rw [hget] at hu
    obtain rfl := Option.some.inj hu
    simp only [List.cons_append, List.nil_append]
    refine TF_end GivesTo.g ?_
    refine TF_y rfl rfl (Y_move rfl) ?_
    refine TF_y rfl rfl (Y_extract rfl rfl) ?_
    refine TF_y rfl rfl (Y_extract rfl rfl) ?_
    refine TF_anchor rfl ?_
    refine TL_store rfl rfl rfl rfl rfl rfl ?_
    refine TF_end GivesTo.g ?_
    refine TF_y rfl rfl (Y_assign rfl) ?_
    refine TF_nil ?_
    refine thenS_normal ?_
    refine T_seq ?_
    refine T_region_draw (cells b (prC s) 133 :: cells b3 (msgC m q) 44 :: []) [0, 1, 3, 7, 15, 31, 63, 127, 63, 319, 831, 1855, 4095, 8191, 16383, 32767, 65535, 131071] [] [(0, true), (1, true), (2, true), (3, true), (4, true), (5, true), (6, true), (7, true), (8, true), (9, true), (10, true), (11, true), (12, true), (13, true), (14, true), (15, true), (16, true), (17, true)] (by kernel_rfl) (by decide +kernel) GivesTo.g ?_
    refine TF_y rfl rfl (Y_move rfl) ?_
    refine TF_y rfl rfl (Y_nil_check rfl) ?_
    refine TF_y rfl rfl (Y_field_addr rfl) ?_
    refine TF_y rfl rfl (Y_load rfl rfl) ?_
    refine TF_y rfl rfl (Y_ne rfl rfl) ?_
    refine TF_y rfl rfl (Y_move rfl) ?_
    refine TF_splitd 22 rfl (fun h22 => ?_) (fun h22 => ?_)
    · refine TF_gskip rfl rfl rfl rfl rfl ?_
      refine TF_gskip rfl rfl rfl rfl rfl ?_
      refine TF_gskip rfl rfl rfl rfl rfl ?_
      refine TF_gskip rfl rfl rfl rfl rfl ?_
      refine TF_gskip rfl rfl rfl rfl rfl ?_
      refine TF_gskip rfl rfl rfl rfl rfl ?_
      refine TF_gskip rfl rfl rfl rfl rfl ?_
      refine TF_y rfl rfl (Y_pick_t rfl rfl) ?_
      refine TF_y rfl rfl (Y_move rfl) ?_
      refine TF_gskip rfl rfl rfl rfl rfl ?_
      refine TF_gskip rfl rfl rfl rfl rfl ?_
      refine TF_y rfl rfl (Y_pick_t rfl rfl) ?_
      refine TF_nil ?_
      refine T_cond_true rfl ?_
      refine T_region ?_
      refine TL_y rfl rfl (Y_assign rfl) ?_
      refine TL_nil ?_
      refine T_ret ?_
      refine thenS_ret ?_
      refine RetQ.gives (pr_close b s _ rfl hi) ?_
      refine RetQ.gives (osl_nil votedR 50 none _) ?_
      exact RetG_1 (.inl rfl) rfl (ResV.tmp rfl) GivesTo.g (⟨none, 0, rfl, rfl⟩)
    · refine TF_gy rfl rfl rfl rfl (Y_field_addr rfl) ?_
      refine TF_gy rfl rfl rfl rfl (Y_load_agg rfl rfl) ?_
      refine TF_gy rfl rfl rfl rfl (Y_move rfl) ?_
      refine TF_gy rfl rfl rfl rfl (Y_nil_check rfl) ?_
      refine TF_gy rfl rfl rfl rfl (Y_field_addr rfl) ?_
      refine TF_gy rfl rfl rfl rfl (Y_load_agg rfl rfl) ?_
      refine TF_gy rfl rfl rfl rfl (Y_ne_bal (a := m.bal) (b := s.bal) rfl rfl) ?_
      refine TF_name 29 (v' := .bool (decide (m.bal ≠ s.bal))) rfl (congrArg Value.bool bal_pair) ?_
      refine TF_y rfl rfl (Y_pick_f rfl rfl) ?_
      refine TF_y rfl rfl (Y_move rfl) ?_
      refine TF_splitd 31 rfl (fun h31 => ?_) (fun h31 => ?_)
      · refine TF_gskip rfl rfl rfl rfl rfl ?_
        refine TF_gskip rfl rfl rfl rfl rfl ?_
        refine TF_y rfl rfl (Y_pick_t rfl rfl) ?_
        refine TF_nil ?_
        refine T_cond_true rfl ?_
        refine T_region ?_
        refine TL_y rfl rfl (Y_assign rfl) ?_
        refine TL_nil ?_
        refine T_ret ?_
        refine thenS_ret ?_
        refine RetQ.gives (pr_close b s _ rfl hi) ?_
        refine RetQ.gives (osl_nil votedR 50 none _) ?_
        exact RetG_1 (.inl rfl) rfl (ResV.tmp rfl) GivesTo.g (⟨none, 0, rfl, rfl⟩)
      · refine TF_gy rfl rfl rfl rfl (Y_move rfl) ?_
        refine TF_gy rfl rfl rfl rfl (Y_not rfl) ?_
        refine TF_y rfl rfl (Y_pick_f rfl rfl) ?_
        refine TF_nil ?_
        refine T_cond_pos rfl (absurd ⟨Classical.not_not.1 h22, Classical.not_not.1 h31⟩ hph) ?_
        refine T_region ?_
        refine TL_y rfl rfl (Y_assign rfl) ?_
        refine TL_nil ?_
        refine T_ret ?_
        refine thenS_ret ?_
        refine RetQ.gives (pr_close b s _ rfl hi) ?_
        refine RetQ.gives (osl_nil votedR 50 none _) ?_
        exact RetG_1 (.inl rfl) rfl (ResV.tmp rfl) GivesTo.g (⟨none, 0, rfl, rfl⟩)
end Go.SL
set_option linter.unusedVariables false
set_option linter.unusedSimpArgs false
namespace Go.SL
open Go Go.Proofs
theorem prAccepted_yes {L : List HP} {b : Nat} {p : PP} (m : MsgD) (q : MsgP) (hx : MsgOk m) (hph : p.phase = 2 ∧ m.bal = p.bal) {f : FlP} (hfl : flAt p.F m.slot = some f) : Fn Try.prog 83 #[.pointer (some ⟨b, 0, none⟩), .agg (List.toArray (msgC m q))] (pr b p :: L) (fun v L' => ∃ A c, v = .slice A (accP p m).2.length c ∧ L' = osl votedR 50 A c (accP p m).2 :: pr b (accP p m).1 :: L) := by
  refine Fn_enter Try.func83 rfl rfl rfl rfl ?_
  refine T_region ?_
  refine TL_box rfl rfl rfl ?_
  intro b3
  refine TL_y rfl rfl (Y_assign rfl) ?_
  refine TL_nil ?_
  refine T_pullk b ?_
  refine T_pr fun s hst hi => ?_
  subst hst
  obtain ⟨k, g, hk, rfl, hgs⟩ := flAt_some hfl
  have hinc := inc_D hi
  have hget := fl_get hinc hk
  rw [hgs] at hget
  have hn : 1 ≤ s.nodes ∧ s.nodes ≤ 7 := hi.nodes
  have hmem : g.pl ∈ s.pl.F := List.mem_map.2 ⟨g, List.mem_of_getElem? hk, rfl⟩
  have hby : g.by_.length = 7 := hi.by_ g.pl hmem
  have hfe : rEntry g.en ∧ orderOk' g.en.order := hi.fen g.pl hmem
  have hp1 : s.phase = 2 := hph.1
  have hp2 : m.bal = s.bal := hph.2
  refine T_rd [0, 1, 3, 7, 0, 16, 63, 127, 255, 255, 0, 1535, 4095] (by kernel_rfl) (by decide +kernel) ?_
  refine RD_pair 6 10 (by decide) ?_ ?_
  · refine RD_leaf (cells b (prC s) 133 :: cells b3 (msgC m q) 44 :: []) [0, 1, 3, 7, 0, 16, 63, 127, 255, 255, 127, 1535, 4095] [] [(0, true), (1, true), (2, true), (3, true), (4, true), (5, true), (6, false), (7, true), (8, true), (9, true), (10, false), (11, false), (12, true)] (by decide +kernel) GivesTo.g ?_
    refine TF_y rfl rfl (Y_move rfl) ?_
    refine TF_y rfl rfl (Y_nil_check rfl) ?_
    refine TF_y rfl rfl (Y_field_addr rfl) ?_
    refine TF_y rfl rfl (Y_load rfl rfl) ?_
    refine TF_y rfl rfl (Y_field_addr rfl) ?_
    refine TF_y rfl rfl (Y_load rfl rfl) ?_
    refine TF_anchor rfl ?_
    refine TL_lookup_okx (R := flR) (k := m.slot) rfl rfl rfl hx.slot (fun hn => absurd hn (by rw [hget]; simp)) (fun u2 p2 hu hou => ?_)
    rw [hget] at hu
    obtain rfl := Option.some.inj hu
    simp only [List.cons_append, List.nil_append]
    refine TF_end GivesTo.g ?_
    refine TF_y rfl rfl (Y_move rfl) ?_
    refine TF_y rfl rfl (Y_extract rfl rfl) ?_
    refine TF_y rfl rfl (Y_extract rfl rfl) ?_
    refine TF_anchor rfl ?_
    refine TL_alloc rfl rfl ?_
    intro b5
    refine TF_end GivesTo.g ?_
    refine TF_anchor rfl ?_
    refine TL_store rfl rfl rfl rfl rfl rfl ?_
    refine TF_end GivesTo.g ?_
    refine TF_y rfl rfl (Y_assign rfl) ?_
    refine TF_nil ?_
    refine thenS_normal ?_
    refine T_seq ?_
    refine T_region_draw (cells b (prC s) 133 :: cells b3 (msgC m q) 44 :: []) [0, 1, 3, 7, 15, 31, 63, 127, 63, 319, 831, 1855, 4095, 8191, 16383, 32767, 65535, 131071] [] [(0, true), (1, true), (2, true), (3, true), (4, true), (5, true), (6, true), (7, true), (8, true), (9, true), (10, true), (11, true), (12, true), (13, true), (14, true), (15, true), (16, true), (17, true)] (by kernel_rfl) (by decide +kernel) GivesTo.g ?_
    refine TF_y rfl rfl (Y_move rfl) ?_
    refine TF_y rfl rfl (Y_nil_check rfl) ?_
    refine TF_y rfl rfl (Y_field_addr rfl) ?_
    refine TF_y rfl rfl (Y_load rfl rfl) ?_
    refine TF_y rfl rfl (Y_ne rfl rfl) ?_
    refine TF_name 21 (v' := .bool false) rfl (congrArg Value.bool (decide_eq_false (by omega))) ?_
    refine TF_y rfl rfl (Y_move rfl) ?_
    refine TF_gy rfl rfl rfl rfl (Y_field_addr rfl) ?_
    refine TF_gy rfl rfl rfl rfl (Y_load_agg rfl rfl) ?_
    refine TF_gy rfl rfl rfl rfl (Y_move rfl) ?_
    refine TF_gy rfl rfl rfl rfl (Y_nil_check rfl) ?_
    refine TF_gy rfl rfl rfl rfl (Y_field_addr rfl) ?_
    refine TF_gy rfl rfl rfl rfl (Y_load_agg rfl rfl) ?_
    refine TF_gy rfl rfl rfl rfl (Y_ne_bal (a := m.bal) (b := s.bal) rfl rfl) ?_
    refine TF_name 29 (v' := .bool false) rfl (congrArg Value.bool (by rw [bal_pair]; exact decide_eq_false (fun h => h hp2))) ?_
    refine TF_y rfl rfl (Y_pick_f rfl rfl) ?_
    refine TF_y rfl rfl (Y_move rfl) ?_
    refine TF_gy rfl rfl rfl rfl (Y_move rfl) ?_
    refine TF_gy rfl rfl rfl rfl (Y_not rfl) ?_
    refine TF_name 33 (v' := .bool false) rfl (rfl) ?_
    refine TF_y rfl rfl (Y_pick_f rfl rfl) ?_
    refine TF_nil ?_
    refine T_cond_false rfl ?_
    refine T_skip ?_
    refine thenS_normal ?_
    refine T_flTake s.nodes hk ?_
    refine T_region ?_
    refine TL_y rfl rfl (Y_field_addr rfl) ?_
    refine TL_y rfl rfl (Y_load rfl rfl) ?_
    refine TL_y rfl rfl (Y_field_addr rfl) ?_
    refine TL_y rfl rfl (Y_load rfl rfl) ?_
    refine TL_pullc g.vb ?_
    refine TL_call rfl rfl (add_spec hby hn.2 m.frm) ?_
    rintro _ _ ⟨rfl, rfl⟩
    refine TL_nil ?_
    refine T_seq ?_
    refine T_region ?_
    refine TL_y rfl rfl (Y_field_addr rfl) ?_
    refine TL_y rfl rfl (Y_load rfl rfl) ?_
    refine TL_pullc g.vb ?_
    refine TL_call rfl rfl (enough_spec ((addV_len' _ _ _).trans hby) hn) ?_
    rintro _ _ ⟨rfl, rfl⟩
    refine TL_y rfl rfl (Y_not_d rfl) ?_
    refine TL_nil ?_
    refine T_if rfl (fun h43 => ?_) (fun h43 => ?_)
    · refine T_region ?_
      refine TL_y rfl rfl (Y_assign rfl) ?_
      refine TL_nil ?_
      refine T_ret ?_
      refine thenS_ret ?_
      have he : accP s.pl m = ({ s.pl with F := flVote s.pl.F m.slot s.pl.nodes m.frm }, []) := by unfold accP; rw [if_pos hph, hfl]; dsimp only; rw [if_neg (show ¬ enoughV (addV g.by_ s.nodes m.frm) s.nodes from h43)]
      rw [he]
      rw [← fmap_set hk (addV g.by_ s.nodes m.frm)]
      refine RetQ.gives (flPut (s.F.set k ⟨g.slot, g.en, addV g.by_ s.nodes m.frm, g.vb⟩) s.nodes hk (flHs_set _)) ?_
      refine RetQ.gives (pr_close b (prFl s (s.F.set k ⟨g.slot, g.en, addV g.by_ s.nodes m.frm, g.vb⟩)) { s.pl with F := flVote s.pl.F m.slot s.pl.nodes m.frm } (by simp only [PrD.pl]; rw [flVote_set hinc hk, hgs]) (accVote_I hi _ _)) ?_
      refine RetQ.gives (osl_nil votedR 50 none _) ?_
      exact RetG_1 (.inl rfl) rfl (ResV.tmp rfl) GivesTo.g (⟨none, 0, rfl, rfl⟩)
    · refine T_skip ?_
      refine thenS_normal ?_
      have he : accP s.pl m = ({ s.pl with F := flDel s.pl.F m.slot }, [⟨m.slot, s.bal, g.en⟩]) := by unfold accP; rw [if_pos hph, hfl]; dsimp only; rw [if_pos (show enoughV (addV g.by_ s.nodes m.frm) s.nodes from Classical.not_not.1 h43)]
      refine T_region_draw (cells b (prC s) 133 :: cells b3 (msgC m q) 44 :: []) [0, 1, 3, 7, 0, 16, 63] [] [(0, true), (1, true), (2, true), (3, true), (4, true), (5, true), (6, false)] (by kernel_rfl) (by decide +kernel) GivesTo.g ?_
      refine TF_y rfl rfl (Y_move rfl) ?_
      refine TF_y rfl rfl (Y_nil_check rfl) ?_
      refine TF_y rfl rfl (Y_field_addr rfl) ?_
      refine TF_y rfl rfl (Y_load rfl rfl) ?_
      refine TF_y rfl rfl (Y_field_addr rfl) ?_
      refine TF_y rfl rfl (Y_load rfl rfl) ?_
      refine TF_anchor rfl ?_
      refine TL_delete0 rfl rfl hx.slot ?_
      refine TF_end GivesTo.g ?_
      refine TF_nil ?_
      rw [fmap_del]
      refine T_gives (Gives.trans (FindHP.g (L := _) (p := flX s.F s.nodes k)) (flX_drop hinc hk)) ?_
      rw [hgs]
      refine T_region_draw (cells b (prC s) 133 :: cells b3 (msgC m q) 44 :: cells b5 [.bool g.en.noop, .string g.en.order.token, .string g.en.order.cart, .int .i64 g.en.order.epoch, .slice p2.1 g.en.order.cut.length p2.2, .pointer (some ⟨g.vb, 0, none⟩)] 144 :: []) [0, 1, 0, 4, 12, 28, 0, 64, 255, 511, 1023] [] [(0, true), (1, true), (2, true), (3, true), (4, true), (5, true), (6, true), (7, true), (8, true), (9, false), (10, true)] (by kernel_rfl) (by decide +kernel) GivesTo.g ?_
      refine TF_y rfl rfl (Y_field_addr rfl) ?_
      refine TF_y rfl rfl (Y_load rfl rfl) ?_
      refine TF_y rfl rfl (Y_move rfl) ?_
      refine TF_y rfl rfl (Y_nil_check rfl) ?_
      refine TF_y rfl rfl (Y_field_addr rfl) ?_
      refine TF_y rfl rfl (Y_load_agg rfl rfl) ?_
      refine TF_y rfl rfl (Y_field_addr rfl) ?_
      refine TF_y rfl rfl (Y_load_agg rfl rfl) ?_
      refine TF_y rfl rfl (Y_build rfl rfl) ?_
      refine TF_anchor rfl ?_
      refine TL_build_slice rfl rfl rfl rfl rfl rfl ?_
      intro b59
      refine TL_osl (k := 1) votedR [⟨m.slot, s.bal, g.en⟩] (cells_one' (ex_rep p2 (sep_sl slk) ⟨hx.slot, (rBal_in hi.bal).1, (rBal_in hi.bal).2, hfe.2⟩)) rfl (by decide) ?_
      refine TF_end GivesTo.g ?_
      refine TF_y rfl rfl (Y_assign rfl) ?_
      refine TF_nil ?_
      refine T_ret ?_
      rw [he]
      refine RetQ.gives (pr_close b (prFl s (s.F.filter fun f => !decide (f.slot = m.slot))) { s.pl with F := flDel s.pl.F m.slot } (by simp only [PrD.pl]; rw [pl_del]) (accDel_I hi _)) ?_
      exact RetG_1 (.inl rfl) rfl (ResV.tmp rfl) GivesTo.g (⟨some ⟨b59, 0, none⟩, 1, rfl, rfl⟩)
  · refine RD_leaf (cells b (prC s) 133 :: cells b3 (msgC m q) 44 :: []) [0, 1, 3, 7, 0, 16, 1087, 1151, 1279, 1279, 0, 1535, 4095] [] [(0, true), (1, true), (2, true), (3, true), (4, true), (5, true), (10, false), (6, false), (7, true), (8, true), (9, true), (11, false), (12, true)] (by decide +kernel) GivesTo.g ?_
    refine TF_y rfl rfl (Y_move rfl) ?_
    refine TF_y rfl rfl (Y_nil_check rfl) ?_
    refine TF_y rfl rfl (Y_field_addr rfl) ?_
    refine TF_y rfl rfl (Y_load rfl rfl) ?_
    refine TF_y rfl rfl (Y_field_addr rfl) ?_
    refine TF_y rfl rfl (Y_load rfl rfl) ?_
    refine TF_anchor rfl ?_
    refine TL_alloc rfl rfl ?_
    intro b5
    refine TF_end GivesTo.g ?_
    refine TF_anchor rfl ?_
    refine TL_lookup_okx (R := flR) (k := m.slot) rfl rfl rfl hx.slot (fun hn => absurd hn (by rw [hget]; simp)) (fun u2 p2 hu hou => ?_)
    rw [hget] at hu
    obtain rfl := Option.some.inj hu
    simp only [List.cons_append, List.nil_append]
    refine TF_end GivesTo.g ?_
    refine TF_y rfl rfl (Y_move rfl) ?_
    refine TF_y rfl rfl (Y_extract rfl rfl) ?_
    refine TF_y rfl rfl (Y_extract rfl rfl) ?_
    refine TF_anchor rfl ?_
    refine TL_store rfl rfl rfl rfl rfl rfl ?_
    refine TF_end GivesTo.g ?_
    refine TF_y rfl rfl (Y_assign rfl) ?_
    refine TF_nil ?_
    refine thenS_normal ?_
    refine T_seq ?_
    refine T_region_draw (cells b (prC s) 133 :: cells b3 (msgC m q) 44 :: []) [0, 1, 3, 7, 15, 31, 63, 127, 63, 319, 831, 1855, 4095, 8191, 16383, 32767, 65535, 131071] [] [(0, true), (1, true), (2, true), (3, true), (4, true), (5, true), (6, true), (7, true), (8, true), (9, true), (10, true), (11, true), (12, true), (13, true), (14, true), (15, true), (16, true), (17, true)] (by kernel_rfl) (by decide +kernel) GivesTo.g ?_
    refine TF_y rfl rfl (Y_move rfl) ?_
    refine TF_y rfl rfl (Y_nil_check rfl) ?_
    refine TF_y rfl rfl (Y_field_addr rfl) ?_
    refine TF_y rfl rfl (Y_load rfl rfl) ?_
    refine TF_y rfl rfl (Y_ne rfl rfl) ?_
    refine TF_name 21 (v' := .bool false) rfl (congrArg Value.bool (decide_eq_false (by omega))) ?_
    refine TF_y rfl rfl (Y_move rfl) ?_
    refine TF_gy rfl rfl rfl rfl (Y_field_addr rfl) ?_
    refine TF_gy rfl rfl rfl rfl (Y_load_agg rfl rfl) ?_
    refine TF_gy rfl rfl rfl rfl (Y_move rfl) ?_
    refine TF_gy rfl rfl rfl rfl (Y_nil_check rfl) ?_
    refine TF_gy rfl rfl rfl rfl (Y_field_addr rfl) ?_
    refine TF_gy rfl rfl rfl rfl (Y_load_agg rfl rfl) ?_
    refine TF_gy rfl rfl rfl rfl (Y_ne_bal (a := m.bal) (b := s.bal) rfl rfl) ?_
    refine TF_name 29 (v' := .bool false) rfl (congrArg Value.bool (by rw [bal_pair]; exact decide_eq_false (fun h => h hp2))) ?_
    refine TF_y rfl rfl (Y_pick_f rfl rfl) ?_
    refine TF_y rfl rfl (Y_move rfl) ?_
    refine TF_gy rfl rfl rfl rfl (Y_move rfl) ?_
    refine TF_gy rfl rfl rfl rfl (Y_not rfl) ?_
    refine TF_name 33 (v' := .bool false) rfl (rfl) ?_
    refine TF_y rfl rfl (Y_pick_f rfl rfl) ?_
    refine TF_nil ?_
    refine T_cond_false rfl ?_
    refine T_skip ?_
    refine thenS_normal ?_
    refine T_flTake s.nodes hk ?_
    refine T_region ?_
    refine TL_y rfl rfl (Y_field_addr rfl) ?_
    refine TL_y rfl rfl (Y_load rfl rfl) ?_
    refine TL_y rfl rfl (Y_field_addr rfl) ?_
    refine TL_y rfl rfl (Y_load rfl rfl) ?_
    refine TL_pullc g.vb ?_
    refine TL_call rfl rfl (add_spec hby hn.2 m.frm) ?_
    rintro _ _ ⟨rfl, rfl⟩
    refine TL_nil ?_
    refine T_seq ?_
    refine T_region ?_
    refine TL_y rfl rfl (Y_field_addr rfl) ?_
    refine TL_y rfl rfl (Y_load rfl rfl) ?_
    refine TL_pullc g.vb ?_
    refine TL_call rfl rfl (enough_spec ((addV_len' _ _ _).trans hby) hn) ?_
    rintro _ _ ⟨rfl, rfl⟩
    refine TL_y rfl rfl (Y_not_d rfl) ?_
    refine TL_nil ?_
    refine T_if rfl (fun h43 => ?_) (fun h43 => ?_)
    · refine T_region ?_
      refine TL_y rfl rfl (Y_assign rfl) ?_
      refine TL_nil ?_
      refine T_ret ?_
      refine thenS_ret ?_
      have he : accP s.pl m = ({ s.pl with F := flVote s.pl.F m.slot s.pl.nodes m.frm }, []) := by unfold accP; rw [if_pos hph, hfl]; dsimp only; rw [if_neg (show ¬ enoughV (addV g.by_ s.nodes m.frm) s.nodes from h43)]
      rw [he]
      rw [← fmap_set hk (addV g.by_ s.nodes m.frm)]
      refine RetQ.gives (flPut (s.F.set k ⟨g.slot, g.en, addV g.by_ s.nodes m.frm, g.vb⟩) s.nodes hk (flHs_set _)) ?_
      refine RetQ.gives (pr_close b (prFl s (s.F.set k ⟨g.slot, g.en, addV g.by_ s.nodes m.frm, g.vb⟩)) { s.pl with F := flVote s.pl.F m.slot s.pl.nodes m.frm } (by simp only [PrD.pl]; rw [flVote_set hinc hk, hgs]) (accVote_I hi _ _)) ?_
      refine RetQ.gives (osl_nil votedR 50 none _) ?_
      exact RetG_1 (.inl rfl) rfl (ResV.tmp rfl) GivesTo.g (⟨none, 0, rfl, rfl⟩)
    · refine T_skip ?_
      refine thenS_normal ?_
      have he : accP s.pl m = ({ s.pl with F := flDel s.pl.F m.slot }, [⟨m.slot, s.bal, g.en⟩]) := by unfold accP; rw [if_pos hph, hfl]; dsimp only; rw [if_pos (show enoughV (addV g.by_ s.nodes m.frm) s.nodes from Classical.not_not.1 h43)]
      refine T_region_draw (cells b (prC s) 133 :: cells b3 (msgC m q) 44 :: []) [0, 1, 3, 7, 0, 16, 63] [] [(0, true), (1, true), (2, true), (3, true), (4, true), (5, true), (6, false)] (by kernel_rfl) (by decide +kernel) GivesTo.g ?_
      refine TF_y rfl rfl (Y_move rfl) ?_
      refine TF_y rfl rfl (Y_nil_check rfl) ?_
      refine TF_y rfl rfl (Y_field_addr rfl) ?_
      refine TF_y rfl rfl (Y_load rfl rfl) ?_
      refine TF_y rfl rfl (Y_field_addr rfl) ?_
      refine TF_y rfl rfl (Y_load rfl rfl) ?_
      refine TF_anchor rfl ?_
      refine TL_delete0 rfl rfl hx.slot ?_
      refine TF_end GivesTo.g ?_
      refine TF_nil ?_
      rw [fmap_del]
      refine T_gives (Gives.trans (FindHP.g (L := _) (p := flX s.F s.nodes k)) (flX_drop hinc hk)) ?_
      rw [hgs]
      refine T_region_draw (cells b (prC s) 133 :: cells b3 (msgC m q) 44 :: cells b5 [.bool g.en.noop, .string g.en.order.token, .string g.en.order.cart, .int .i64 g.en.order.epoch, .slice p2.1 g.en.order.cut.length p2.2, .pointer (some ⟨g.vb, 0, none⟩)] 144 :: []) [0, 1, 0, 4, 12, 28, 0, 64, 255, 511, 1023] [] [(0, true), (1, true), (2, true), (3, true), (4, true), (5, true), (6, true), (7, true), (8, true), (9, false), (10, true)] (by kernel_rfl) (by decide +kernel) GivesTo.g ?_
      refine TF_y rfl rfl (Y_field_addr rfl) ?_
      refine TF_y rfl rfl (Y_load rfl rfl) ?_
      refine TF_y rfl rfl (Y_move rfl) ?_
      refine TF_y rfl rfl (Y_nil_check rfl) ?_
      refine TF_y rfl rfl (Y_field_addr rfl) ?_
      refine TF_y rfl rfl (Y_load_agg rfl rfl) ?_
      refine TF_y rfl rfl (Y_field_addr rfl) ?_
      refine TF_y rfl rfl (Y_load_agg rfl rfl) ?_
      refine TF_y rfl rfl (Y_build rfl rfl) ?_
      refine TF_anchor rfl ?_
      refine TL_build_slice rfl rfl rfl rfl rfl rfl ?_
      intro b59
      refine TL_osl (k := 1) votedR [⟨m.slot, s.bal, g.en⟩] (cells_one' (ex_rep p2 (sep_sl slk) ⟨hx.slot, (rBal_in hi.bal).1, (rBal_in hi.bal).2, hfe.2⟩)) rfl (by decide) ?_
      refine TF_end GivesTo.g ?_
      refine TF_y rfl rfl (Y_assign rfl) ?_
      refine TF_nil ?_
      refine T_ret ?_
      rw [he]
      refine RetQ.gives (pr_close b (prFl s (s.F.filter fun f => !decide (f.slot = m.slot))) { s.pl with F := flDel s.pl.F m.slot } (by simp only [PrD.pl]; rw [pl_del]) (accDel_I hi _)) ?_
      exact RetG_1 (.inl rfl) rfl (ResV.tmp rfl) GivesTo.g (⟨some ⟨b59, 0, none⟩, 1, rfl, rfl⟩)
theorem prAccepted_spec {L : List HP} {b : Nat} {p : PP} (m : MsgD) (q : MsgP) (hx : MsgOk m) : Fn Try.prog 83 #[.pointer (some ⟨b, 0, none⟩), .agg (List.toArray (msgC m q))] (pr b p :: L) (fun v L' => ∃ A c, v = .slice A (accP p m).2.length c ∧ L' = osl votedR 50 A c (accP p m).2 :: pr b (accP p m).1 :: L) := by
  rcases hfl : flAt p.F m.slot with _ | f
  · exact prAccepted_none m q hx hfl
  · by_cases hph : p.phase = 2 ∧ m.bal = p.bal
    · exact prAccepted_yes m q hx hph hfl
    · exact prAccepted_no m q hx hph hfl
theorem greater_bal {a b : Int × Int} (ha : rBal a) (hb : rBal b) : rBal (greaterB a b) := by
  unfold greaterB; split
  · exact hb
  · exact ha
theorem nackP_I {p : PP} {m : MsgD} (hi : PI p) (hm : rBal m.bal) : PI { ppStop p with seen := greaterB p.seen m.bal } := by
  have k := ppStop_I hi
  exact ⟨k.nodes, k.node, k.phase, k.told, k.by_, k.inc, k.len, k.rng, k.next, k.frm, k.kept, k.bal, greater_bal hi.seen hm, k.kin, k.fen, k.ph1⟩
theorem prRefused_spec {L : List HP} {b : Nat} {p : PP} (m : MsgD) (q : MsgP) (hm : rBal m.bal) : Fn Try.prog 84 #[.pointer (some ⟨b, 0, none⟩), .agg (List.toArray (msgC m q))] (pr b p :: L) (fun v L' => v = .tuple #[] ∧ L' = pr b (nackP p m) :: L) := by
  refine Fn_enter Try.func84 rfl rfl rfl rfl ?_
  refine T_region ?_
  refine TL_box rfl rfl rfl ?_
  intro b3
  refine TL_nil ?_
  refine T_pullk b ?_
  refine T_pr fun s hst hi => ?_
  subst hst
  refine T_region_draw (cells b (prC s) 133 :: cells b3 (msgC m q) 44 :: []) [0, 1, 3, 7, 15, 31, 63, 127, 63, 319, 831, 1855, 4095, 8191, 16383] [] [(0, true), (1, true), (2, true), (3, true), (4, true), (5, true), (6, true), (7, true), (8, true), (9, true), (10, true), (11, true), (12, false), (13, true), (14, true)] (by kernel_rfl) (by decide +kernel) GivesTo.g ?_
  refine TF_y rfl rfl (Y_move rfl) ?_
  refine TF_y rfl rfl (Y_nil_check rfl) ?_
  refine TF_y rfl rfl (Y_field_addr rfl) ?_
  refine TF_y rfl rfl (Y_load rfl rfl) ?_
  refine TF_y rfl rfl (Y_ne rfl rfl) ?_
  refine TF_y rfl rfl (Y_move rfl) ?_
  refine TF_splitd 9 rfl (fun h9 => ?_) (fun h9 => ?_)
  · refine TF_gy rfl rfl rfl rfl (Y_field_addr rfl) ?_
    refine TF_gy rfl rfl rfl rfl (Y_load_agg rfl rfl) ?_
    refine TF_gy rfl rfl rfl rfl (Y_move rfl) ?_
    refine TF_gy rfl rfl rfl rfl (Y_nil_check rfl) ?_
    refine TF_gy rfl rfl rfl rfl (Y_field_addr rfl) ?_
    refine TF_gy rfl rfl rfl rfl (Y_load_agg rfl rfl) ?_
    refine TF_anchor rfl ?_
    refine TL_grun rfl rfl ?_
    refine TL_call rfl rfl (compare_spec m.bal s.bal _) ?_
    rintro _ _ ⟨rfl, rfl⟩
    refine TF_end GivesTo.g ?_
    refine TF_gy rfl rfl rfl rfl (Y_gt rfl rfl) ?_
    refine TF_y rfl rfl (Y_pick_t rfl rfl) ?_
    refine TF_nil ?_
    refine T_if rfl (fun h18 => ?_) (fun h18 => ?_)
    · refine T_gives (pr_close b s _ rfl hi) ?_
      have he : nackP s.pl m = { ppStop s.pl with seen := greaterB s.seen m.bal } := by unfold nackP; rw [if_pos ⟨h9, h18⟩]
      refine T_region ?_
      refine TL_y rfl rfl (Y_move rfl) ?_
      refine TL_pullk b ?_
      refine TL_call rfl rfl (prStop_spec) ?_
      rintro _ _ ⟨rfl, rfl⟩
      refine TL_nil ?_
      refine T_pullk b ?_
      refine T_pr fun s2 hs2 hi2 => ?_
      have hsn : s2.seen = s.seen := congrArg PP.seen hs2
      refine T_region_draw_last (cells b3 (msgC m q) 44 :: cells b (prC s2) 133 :: []) [0, 0, 2, 6, 14, 0, 32, 126, 255, 511, 1023] [10] [(0, true), (1, true), (2, true), (3, true), (4, true), (5, true), (6, true), (7, false), (8, true), (9, true), (10, false)] (by kernel_rfl) (by decide +kernel) GivesTo.g ?_
      refine TF_y rfl rfl (Y_move rfl) ?_
      refine TF_y rfl rfl (Y_move rfl) ?_
      refine TF_y rfl rfl (Y_nil_check rfl) ?_
      refine TF_y rfl rfl (Y_field_addr rfl) ?_
      refine TF_y rfl rfl (Y_load_agg rfl rfl) ?_
      refine TF_y rfl rfl (Y_field_addr rfl) ?_
      refine TF_y rfl rfl (Y_load_agg rfl rfl) ?_
      refine TF_anchor rfl ?_
      refine TL_call rfl rfl (prGreater_spec s2.seen m.bal _) ?_
      rintro _ _ ⟨rfl, rfl⟩
      refine TF_end GivesTo.g ?_
      refine TF_y rfl rfl (Y_nil_check rfl) ?_
      refine TF_y rfl rfl (Y_field_addr rfl) ?_
      refine TF_anchor rfl ?_
      refine TL_store rfl rfl rfl rfl rfl rfl ?_
      refine TF_end_tail rfl ?_
      refine TF_nil ?_
      rw [he]
      refine RetQ.gives (pr_close b ⟨s2.node, s2.nodes, s2.phase, s2.bal, greaterB s2.seen m.bal, s2.frm, s2.next, s2.bt, s2.told, s2.A, s2.c, s2.kept, s2.bm, s2.F⟩ { ppStop s.pl with seen := greaterB s.seen m.bal } (by rw [← hsn, ← hs2]) (nackP_I hi hm)) ?_
      exact RetG_0 (.inr rfl) rfl GivesTo.g (⟨rfl, rfl⟩)
    · refine T_skip ?_
      have he : nackP s.pl m = s.pl := by unfold nackP; rw [if_neg (fun h => h18 h.2)]
      rw [he]
      refine RetQ.gives (pr_close b s _ rfl hi) ?_
      exact RetG_0 (.inr rfl) rfl GivesTo.g (⟨rfl, rfl⟩)
  · refine TF_gskip rfl rfl rfl rfl rfl ?_
    refine TF_gskip rfl rfl rfl rfl rfl ?_
    refine TF_gskip rfl rfl rfl rfl rfl ?_
    refine TF_gskip rfl rfl rfl rfl rfl ?_
    refine TF_gskip rfl rfl rfl rfl rfl ?_
    refine TF_gskip rfl rfl rfl rfl rfl ?_
    refine TF_anchor rfl ?_
    refine TL_gskip rfl rfl rfl rfl ?_
    refine TF_end GivesTo.g ?_
    refine TF_gskip rfl rfl rfl rfl rfl ?_
    refine TF_y rfl rfl (Y_pick_f rfl rfl) ?_
    refine TF_nil ?_
    refine T_cond_false rfl ?_
    refine T_skip ?_
    have he : nackP s.pl m = s.pl := by unfold nackP; rw [if_neg (fun h => h9 h.1)]
    rw [he]
    refine RetQ.gives (pr_close b s _ rfl hi) ?_
    exact RetG_0 (.inr rfl) rfl GivesTo.g (⟨rfl, rfl⟩)
end Go.SL
set_option linter.unusedVariables false
set_option linter.unusedSimpArgs false
namespace Go.SL
open Go Go.Proofs
theorem MsgK.of_gives {L L' : List HP} {m : MsgD} {p : MsgP} (g : Gives L L') (h : MsgK L' m p) : MsgK L m p := ⟨SlK.of_gives g h.cut, SlK.of_gives g h.voted, SlK.of_gives g h.seen, SlK.of_gives g h.events⟩
theorem prOn_spec {L : List HP} {b : Nat} {p : PP} (m : MsgD) (q : MsgP) (hx : MsgOk m) (hk : MsgK L m q) (hc : cMsg m ≤ 140737488355328) : Fn Try.prog 40 #[.pointer (some ⟨b, 0, none⟩), .agg (List.toArray (msgC m q))] (pr b p :: L) (fun v L' => ∃ A c A2 c2, v = .tuple #[.slice A (onP p m).2.1.length c, .slice A2 (onP p m).2.2.length c2] ∧ L' = osl msgR 44 A c (onP p m).2.1 :: osl votedR 50 A2 c2 (onP p m).2.2 :: pr b (onP p m).1 :: L) := by
  refine Fn_enter Try.func40 rfl rfl rfl rfl ?_
  refine T_region ?_
  refine TL_box rfl rfl rfl ?_
  intro b3
  refine TL_y rfl rfl (Y_assign rfl) ?_
  refine TL_y rfl rfl (Y_assign rfl) ?_
  refine TL_nil ?_
  refine T_seq ?_
  refine T_region_draw (pr b p :: cells b3 (msgC m q) 44 :: []) [0, 1, 3, 7, 15, 31, 15, 79, 207, 463, 1023, 2047, 4095, 8191, 16383, 8191, 40959, 106495, 237567, 524287, 1048575] [] [(0, true), (1, false), (2, true), (3, true), (4, true), (5, true), (6, true), (7, true), (8, true), (9, true), (10, true), (11, true), (12, true), (13, true), (14, true), (15, true), (16, true), (17, true), (18, true), (19, true), (20, true)] (by kernel_rfl) (by decide +kernel) GivesTo.g ?_
  refine TF_y rfl rfl (Y_move rfl) ?_
  refine TF_anchor rfl ?_
  refine TL_pullk b ?_
  refine TL_call rfl rfl (prMade_spec) ?_
  rintro _ _ ⟨rfl, rfl⟩
  refine TL_name 9 (v' := .bool true) rfl (rfl) ?_
  refine TF_end GivesTo.g ?_
  refine TF_y rfl rfl (Y_not_t rfl) ?_
  refine TF_y rfl rfl (Y_move rfl) ?_
  refine TF_gy rfl rfl rfl rfl (Y_field_addr rfl) ?_
  refine TF_gy rfl rfl rfl rfl (Y_load rfl rfl) ?_
  refine TF_gy rfl rfl rfl rfl (Y_move rfl) ?_
  refine TF_gy rfl rfl rfl rfl (Y_nil_check rfl) ?_
  refine TF_gy rfl rfl rfl rfl (Y_field_addr rfl) ?_
  refine TF_gy rfl rfl rfl rfl (Y_pr (b := b) (v := .int .i64 p.node) fun s hs ↦ (Y_load rfl rfl).val (by rw [show s.node = p.node from congrArg PP.node hs])) ?_
  refine TF_gy rfl rfl rfl rfl (Y_ne rfl rfl) ?_
  refine TF_y rfl rfl (Y_pick_f rfl rfl) ?_
  refine TF_y rfl rfl (Y_move rfl) ?_
  refine TF_splitd 20 rfl (fun h20 => ?_) (fun h20 => ?_)
  · refine TF_gskip rfl rfl rfl rfl rfl ?_
    refine TF_gskip rfl rfl rfl rfl rfl ?_
    refine TF_gskip rfl rfl rfl rfl rfl ?_
    refine TF_gskip rfl rfl rfl rfl rfl ?_
    refine TF_gskip rfl rfl rfl rfl rfl ?_
    refine TF_gskip rfl rfl rfl rfl rfl ?_
    refine TF_gskip rfl rfl rfl rfl rfl ?_
    refine TF_y rfl rfl (Y_pick_t rfl rfl) ?_
    refine TF_nil ?_
    refine T_cond_true rfl ?_
    refine T_region ?_
    refine TL_y rfl rfl (Y_assign rfl) ?_
    refine TL_y rfl rfl (Y_assign rfl) ?_
    refine TL_nil ?_
    refine T_ret ?_
    refine thenS_ret ?_
    have hm : ¬ isMine p m := fun h => h20 h.1
    have he : onP p m = (p, [], []) := by unfold onP; rw [if_pos hm]
    rw [he]
    refine RetQ.gives (osl_nil msgR 44 none _) ?_
    refine RetQ.gives (osl_nil votedR 50 none _) ?_
    exact RetG_2 (.inl rfl) rfl (ResV.tmp rfl) (ResV.tmp rfl) GivesTo.g (⟨none, 0, none, 0, rfl, rfl⟩)
  · refine TF_gy rfl rfl rfl rfl (Y_field_addr rfl) ?_
    refine TF_gy rfl rfl rfl rfl (Y_load rfl rfl) ?_
    refine TF_gy rfl rfl rfl rfl (Y_move rfl) ?_
    refine TF_gy rfl rfl rfl rfl (Y_nil_check rfl) ?_
    refine TF_gy rfl rfl rfl rfl (Y_field_addr rfl) ?_
    refine TF_gy rfl rfl rfl rfl (Y_pr (b := b) (v := .int .i64 p.nodes) fun s hs ↦ (Y_load rfl rfl).val (by rw [show s.nodes = p.nodes from congrArg PP.nodes hs])) ?_
    refine TF_gy rfl rfl rfl rfl (Y_ge rfl rfl) ?_
    refine TF_y rfl rfl (Y_pick_f rfl rfl) ?_
    refine TF_nil ?_
    refine T_if rfl (fun h28 => ?_) (fun h28 => ?_)
    · refine T_region ?_
      refine TL_y rfl rfl (Y_assign rfl) ?_
      refine TL_y rfl rfl (Y_assign rfl) ?_
      refine TL_nil ?_
      refine T_ret ?_
      refine thenS_ret ?_
      have hm : ¬ isMine p m := fun h => by have := h.2.1; omega
      have he : onP p m = (p, [], []) := by unfold onP; rw [if_pos hm]
      rw [he]
      refine RetQ.gives (osl_nil msgR 44 none _) ?_
      refine RetQ.gives (osl_nil votedR 50 none _) ?_
      exact RetG_2 (.inl rfl) rfl (ResV.tmp rfl) (ResV.tmp rfl) GivesTo.g (⟨none, 0, none, 0, rfl, rfl⟩)
    · refine T_skip ?_
      refine thenS_normal ?_
      refine T_seq ?_
      refine T_region ?_
      refine TL_y rfl rfl (Y_load_agg rfl rfl) ?_
      refine TL_call rfl rfl (msg_spec m q hx (hk.tail.tail) hc) ?_
      rintro _ _ ⟨A31, c31, rfl, rfl⟩
      refine TL_y rfl rfl (Y_move rfl) ?_
      refine TL_y rfl rfl (Y_extract rfl rfl) ?_
      refine TL_y rfl rfl (Y_extract rfl rfl) ?_
      refine TL_y rfl rfl (Y_assign rfl) ?_
      refine TL_y rfl rfl (Y_assign rfl) ?_
      refine TL_nil ?_
      refine T_region ?_
      refine TL_y rfl rfl (Y_move rfl) ?_
      refine TL_y rfl rfl (Y_ne rfl rfl) ?_
      refine TL_nil ?_
      refine T_if rfl (fun h35 => ?_) (fun h35 => ?_)
      · refine T_region ?_
        refine TL_y rfl rfl (Y_assign rfl) ?_
        refine TL_y rfl rfl (Y_assign rfl) ?_
        refine TL_nil ?_
        refine T_ret ?_
        refine thenS_ret ?_
        have hm : ¬ isMine p m := fun h => h35 h.2.2
        have he : onP p m = (p, [], []) := by unfold onP; rw [if_pos hm]
        rw [he]
        refine RetQ.gives (osl_nil msgR 44 none _) ?_
        refine RetQ.gives (osl_nil votedR 50 none _) ?_
        exact RetG_2 (.inl rfl) rfl (ResV.tmp rfl) (ResV.tmp rfl) GivesTo.g (⟨none, 0, none, 0, rfl, rfl⟩)
      · refine T_skip ?_
        refine thenS_normal ?_
        refine T_seq ?_
        have hm : isMine p m := ⟨Classical.not_not.1 h20, by omega, Classical.not_not.1 h35⟩
        have hr := (out_msg hm.2.2).1
        refine T_region ?_
        refine TL_y rfl rfl (Y_field_addr rfl) ?_
        refine TL_y rfl rfl (Y_load rfl rfl) ?_
        refine TL_nil ?_
        refine T_block ?_
        refine T_region ?_
        refine TL_y rfl rfl (Y_eq rfl rfl) ?_
        refine TL_y rfl rfl (Y_assign rfl) ?_
        refine TL_nil ?_
        refine T_if rfl (fun h38 => ?_) (fun h38 => ?_)
        · refine T_region_last ?_
          refine TL_y rfl rfl (Y_move rfl) ?_
          refine TL_y rfl rfl (Y_load_agg rfl rfl) ?_
          refine TL_pullk b ?_
          refine TL_call rfl rfl (prPromised_spec m q (MsgK.of_gives GivesTo.g hk) hr) ?_
          rintro _ _ ⟨A42, c42, rfl, rfl⟩
          refine TL_y rfl rfl (Y_assign rfl) ?_
          refine TL_nil ?_
          refine inB_normal ?_
          refine thenS_normal ?_
          refine T_region ?_
          refine TL_y rfl rfl (Y_move rfl) ?_
          refine TL_y rfl rfl (Y_move rfl) ?_
          refine TL_y rfl rfl (Y_assign rfl) ?_
          refine TL_y rfl rfl (Y_assign rfl) ?_
          refine TL_nil ?_
          refine T_ret ?_
          have he : onP p m = ((promP p m).1, (promP p m).2, []) := by unfold onP; rw [if_neg (not_not_intro hm), if_pos h38]
          rw [he]
          refine RetQ.gives (osl_nil votedR 50 none _) ?_
          exact RetG_2 (.inl rfl) rfl (ResV.tmp rfl) (ResV.tmp rfl) GivesTo.g (⟨A42, c42, none, 0, rfl, rfl⟩)
        · refine T_region ?_
          refine TL_y rfl rfl (Y_eq rfl rfl) ?_
          refine TL_y rfl rfl (Y_assign rfl) ?_
          refine TL_nil ?_
          refine T_if rfl (fun h43 => ?_) (fun h43 => ?_)
          · refine T_region_last ?_
            refine TL_y rfl rfl (Y_move rfl) ?_
            refine TL_y rfl rfl (Y_load_agg rfl rfl) ?_
            refine TL_pullk b ?_
            refine TL_call rfl rfl (prAccepted_spec m q hx) ?_
            rintro _ _ ⟨A47, c47, rfl, rfl⟩
            refine TL_y rfl rfl (Y_assign rfl) ?_
            refine TL_nil ?_
            refine inB_normal ?_
            refine thenS_normal ?_
            refine T_region ?_
            refine TL_y rfl rfl (Y_move rfl) ?_
            refine TL_y rfl rfl (Y_move rfl) ?_
            refine TL_y rfl rfl (Y_assign rfl) ?_
            refine TL_y rfl rfl (Y_assign rfl) ?_
            refine TL_nil ?_
            refine T_ret ?_
            have he : onP p m = ((accP p m).1, [], (accP p m).2) := by unfold onP; rw [if_neg (not_not_intro hm), if_neg h38, if_pos h43]
            rw [he]
            refine RetQ.gives (osl_nil msgR 44 none _) ?_
            exact RetG_2 (.inl rfl) rfl (ResV.tmp rfl) (ResV.tmp rfl) GivesTo.g (⟨none, 0, A47, c47, rfl, rfl⟩)
          · refine T_region ?_
            refine TL_y rfl rfl (Y_eq rfl rfl) ?_
            refine TL_y rfl rfl (Y_assign rfl) ?_
            refine TL_nil ?_
            refine T_if rfl (fun h48 => ?_) (fun h48 => ?_)
            · refine T_region_last ?_
              refine TL_y rfl rfl (Y_move rfl) ?_
              refine TL_y rfl rfl (Y_load_agg rfl rfl) ?_
              refine TL_pullk b ?_
              refine TL_call rfl rfl (prRefused_spec m q hr.2.2.2.1) ?_
              rintro _ _ ⟨rfl, rfl⟩
              refine TL_nil ?_
              refine inB_normal ?_
              refine thenS_normal ?_
              refine T_region ?_
              refine TL_y rfl rfl (Y_move rfl) ?_
              refine TL_y rfl rfl (Y_move rfl) ?_
              refine TL_y rfl rfl (Y_assign rfl) ?_
              refine TL_y rfl rfl (Y_assign rfl) ?_
              refine TL_nil ?_
              refine T_ret ?_
              have he : onP p m = (nackP p m, [], []) := by unfold onP; rw [if_neg (not_not_intro hm), if_neg h38, if_neg h43, if_pos h48]
              rw [he]
              refine RetQ.gives (osl_nil msgR 44 none _) ?_
              refine RetQ.gives (osl_nil votedR 50 none _) ?_
              exact RetG_2 (.inl rfl) rfl (ResV.tmp rfl) (ResV.tmp rfl) GivesTo.g (⟨none, 0, none, 0, rfl, rfl⟩)
            · refine T_skip ?_
              refine inB_normal ?_
              refine thenS_normal ?_
              refine T_region ?_
              refine TL_y rfl rfl (Y_move rfl) ?_
              refine TL_y rfl rfl (Y_move rfl) ?_
              refine TL_y rfl rfl (Y_assign rfl) ?_
              refine TL_y rfl rfl (Y_assign rfl) ?_
              refine TL_nil ?_
              refine T_ret ?_
              have he : onP p m = (p, [], []) := by unfold onP; rw [if_neg (not_not_intro hm), if_neg h38, if_neg h43, if_neg h48]
              rw [he]
              refine RetQ.gives (osl_nil msgR 44 none _) ?_
              refine RetQ.gives (osl_nil votedR 50 none _) ?_
              exact RetG_2 (.inl rfl) rfl (ResV.tmp rfl) (ResV.tmp rfl) GivesTo.g (⟨none, 0, none, 0, rfl, rfl⟩)
theorem prPropo_spec {L : List HP} {b : Nat} {p : PP} {A : Option Addr} {c : Nat} (e : EntryD) (ho : orderOk' e.order) (hk : SlK L (intR .i64) A c e.order.cut) (hb : cSeal e.order ≤ 140737488355000) : Fn Try.prog 43 #[.pointer (some ⟨b, 0, none⟩), .agg (List.toArray (entryC e (A, c)))] (pr b p :: L) (fun v L' => ∃ A' c', v = .tuple #[.slice A' (propO p e).length c', .int .i64 (if propE p e = 0 then p.next else 0), .int .i64 (propE p e)] ∧ L' = osl msgR 44 A' c' (propO p e) :: pr b (propP p e) :: L) := by
  refine Fn_enter Try.func43 rfl rfl rfl rfl ?_
  refine T_region ?_
  refine TL_box rfl rfl rfl ?_
  intro b3
  refine TL_y rfl rfl (Y_assign rfl) ?_
  refine TL_y rfl rfl (Y_assign rfl) ?_
  refine TL_y rfl rfl (Y_assign rfl) ?_
  refine TL_nil ?_
  refine T_seq ?_
  refine T_region ?_
  refine TL_y rfl rfl (Y_move rfl) ?_
  refine TL_pullk b ?_
  refine TL_call rfl rfl (prMade_spec) ?_
  rintro _ _ ⟨rfl, rfl⟩
  refine TL_name 11 (v' := .bool true) rfl (rfl) ?_
  refine TL_y rfl rfl (Y_not_t rfl) ?_
  refine TL_nil ?_
  refine T_cond_false rfl ?_
  refine T_skip ?_
  refine thenS_normal ?_
  refine T_region ?_
  refine TL_y rfl rfl (Y_load_agg rfl rfl) ?_
  refine TL_y rfl rfl (Y_build rfl rfl) ?_
  refine TL_call rfl rfl (msgEntry_spec e ho (hk.tail.tail) hb) ?_
  rintro _ _ ⟨⟨B16, d16, k16, rfl⟩, rfl⟩
  refine TL_y rfl rfl (Y_move rfl) ?_
  refine TL_y rfl rfl (Y_extract rfl rfl) ?_
  refine TL_y rfl rfl (Y_extract rfl rfl) ?_
  refine TL_y rfl rfl (Y_assign rfl) ?_
  refine TL_y rfl rfl (Y_assign rfl) ?_
  refine TL_nil ?_
  refine T_seq ?_
  refine T_block ?_
  by_cases hre : rEntry e
  · refine T_region ?_
    refine TL_y rfl rfl (Y_move rfl) ?_
    refine TL_y rfl rfl (Y_ne rfl rfl) ?_
    refine TL_name 21 (v' := .bool false) rfl (congrArg Value.bool (by rw [if_pos hre]; decide)) ?_
    refine TL_y rfl rfl (Y_assign rfl) ?_
    refine TL_nil ?_
    refine T_cond_false rfl ?_
    refine T_pullk b ?_
    refine T_pr fun s hs hi => ?_
    subst hs
    refine T_region ?_
    refine TL_y rfl rfl (Y_move rfl) ?_
    refine TL_y rfl rfl (Y_nil_check rfl) ?_
    refine TL_y rfl rfl (Y_field_addr rfl) ?_
    refine TL_y rfl rfl (Y_load rfl rfl) ?_
    refine TL_y rfl rfl (Y_ne rfl rfl) ?_
    refine TL_y rfl rfl (Y_assign rfl) ?_
    refine TL_nil ?_
    refine T_if rfl (fun h22 => ?_) (fun h22 => ?_)
    · refine T_region ?_
      refine TL_y rfl rfl (Y_assign rfl) ?_
      refine TL_y rfl rfl (Y_assign rfl) ?_
      refine TL_y rfl rfl (Y_assign rfl) ?_
      refine TL_nil ?_
      refine T_ret ?_
      refine inB_ret ?_
      refine thenS_ret ?_
      have he : propE s.pl e = 4 := by unfold propE; rw [if_neg (not_not_intro hre), if_pos h22]
      refine RetQ.gives (pr_close b s _ rfl hi) ?_
      have e1 : propO s.pl e = [] := by unfold propO; rw [if_neg (by omega)]
      have e2 : propP s.pl e = s.pl := by unfold propP; rw [if_neg (by omega)]
      rw [e1, e2, he]
      refine RetQ.gives (osl_nil msgR 44 none _) ?_
      exact RetG_3 (.inl rfl) rfl (ResV.tmp rfl) (ResV.tmp rfl) (ResV.tmp rfl) GivesTo.g (⟨none, 0, rfl, rfl⟩)
    · refine T_region ?_
      refine TL_y rfl rfl (Y_move rfl) ?_
      refine TL_y rfl rfl (Y_nil_check rfl) ?_
      refine TL_y rfl rfl (Y_field_addr rfl) ?_
      refine TL_y rfl rfl (Y_load rfl rfl) ?_
      refine TL_y rfl rfl (Y_len_map rfl ) ?_
      refine TL_name 33 (v' := .int .i64 (s.pl.F.length : Int)) rfl (by simp) ?_
      refine TL_y rfl rfl (Y_ge rfl rfl) ?_
      refine TL_y rfl rfl (Y_move rfl) ?_
      refine TL_splitd 35 rfl (fun h35 => ?_) (fun h35 => ?_)
      · refine TL_gskip rfl rfl rfl rfl ?_
        refine TL_gskip rfl rfl rfl rfl ?_
        refine TL_gskip rfl rfl rfl rfl ?_
        refine TL_gskip rfl rfl rfl rfl ?_
        refine TL_gskip rfl rfl rfl rfl ?_
        refine TL_y rfl rfl (Y_pick_t rfl rfl) ?_
        refine TL_y rfl rfl (Y_assign rfl) ?_
        refine TL_nil ?_
        refine T_cond_true rfl ?_
        refine T_region ?_
        refine TL_y rfl rfl (Y_assign rfl) ?_
        refine TL_y rfl rfl (Y_assign rfl) ?_
        refine TL_y rfl rfl (Y_assign rfl) ?_
        refine TL_nil ?_
        refine T_ret ?_
        refine inB_ret ?_
        refine thenS_ret ?_
        have he : propE s.pl e = 2 := by unfold propE; rw [if_neg (not_not_intro hre), if_neg h22, if_pos (by first | (left; omega) | (right; assumption))]
        refine RetQ.gives (pr_close b s _ rfl hi) ?_
        have e1 : propO s.pl e = [] := by unfold propO; rw [if_neg (by omega)]
        have e2 : propP s.pl e = s.pl := by unfold propP; rw [if_neg (by omega)]
        rw [e1, e2, he]
        refine RetQ.gives (osl_nil msgR 44 none _) ?_
        exact RetG_3 (.inl rfl) rfl (ResV.tmp rfl) (ResV.tmp rfl) (ResV.tmp rfl) GivesTo.g (⟨none, 0, rfl, rfl⟩)
      · refine TL_grun rfl rfl ?_
        refine TL_y rfl rfl (Y_move rfl) ?_
        refine TL_grun rfl rfl ?_
        refine TL_y rfl rfl (Y_nil_check rfl) ?_
        refine TL_grun rfl rfl ?_
        refine TL_y rfl rfl (Y_field_addr rfl) ?_
        refine TL_grun rfl rfl ?_
        refine TL_y rfl rfl (Y_load rfl rfl) ?_
        refine TL_grun rfl rfl ?_
        refine TL_y rfl rfl (Y_gt rfl rfl) ?_
        refine TL_y rfl rfl (Y_pick_f rfl rfl) ?_
        refine TL_y rfl rfl (Y_assign rfl) ?_
        refine TL_nil ?_
        refine T_if rfl (fun h28 => ?_) (fun h28 => ?_)
        · refine T_region ?_
          refine TL_y rfl rfl (Y_assign rfl) ?_
          refine TL_y rfl rfl (Y_assign rfl) ?_
          refine TL_y rfl rfl (Y_assign rfl) ?_
          refine TL_nil ?_
          refine T_ret ?_
          refine inB_ret ?_
          refine thenS_ret ?_
          have he : propE s.pl e = 2 := by unfold propE; rw [if_neg (not_not_intro hre), if_neg h22, if_pos (by first | (left; omega) | (right; assumption))]
          refine RetQ.gives (pr_close b s _ rfl hi) ?_
          have e1 : propO s.pl e = [] := by unfold propO; rw [if_neg (by omega)]
          have e2 : propP s.pl e = s.pl := by unfold propP; rw [if_neg (by omega)]
          rw [e1, e2, he]
          refine RetQ.gives (osl_nil msgR 44 none _) ?_
          exact RetG_3 (.inl rfl) rfl (ResV.tmp rfl) (ResV.tmp rfl) (ResV.tmp rfl) GivesTo.g (⟨none, 0, rfl, rfl⟩)
        · refine T_skip ?_
          refine inB_normal ?_
          refine thenS_normal ?_
          have hnx : 0 ≤ s.next := hi.next.1
          have hph : s.phase = 2 := (by omega)
          have he : propE s.pl e = 0 := by unfold propE; rw [if_neg (not_not_intro hre), if_neg h22, if_neg (by rintro (h | h) <;> first | omega | contradiction)]
          refine T_region ?_
          refine TL_y rfl rfl (Y_move rfl) ?_
          refine TL_y rfl rfl (Y_nil_check rfl) ?_
          refine TL_y rfl rfl (Y_field_addr rfl) ?_
          refine TL_y rfl rfl (Y_load rfl rfl) ?_
          refine TL_y rfl rfl (Y_assign rfl) ?_
          refine TL_nil ?_
          refine T_gives (pr_close b s _ rfl hi) ?_
          refine T_region ?_
          refine TL_y rfl rfl (Y_move rfl) ?_
          refine TL_y rfl rfl (Y_move rfl) ?_
          refine TL_y rfl rfl (Y_load_agg rfl rfl) ?_
          refine TL_pullk b ?_
          refine TL_call rfl rfl (prPropose_spec (p := s.pl) (A := A) (c := c) s.next e (by show s.phase ≠ 1; omega) (fun f hf ↦ (hi.rng f hf).2) (by omega) (by omega) ⟨hre, ho⟩ (SlN.of_gives GivesTo.g hk.n)) ?_
          rintro _ _ ⟨A49, c49, rfl, rfl⟩
          refine TL_y rfl rfl (Y_move rfl) ?_
          refine TL_y rfl rfl (Y_assign rfl) ?_
          refine TL_y rfl rfl (Y_assign rfl) ?_
          refine TL_y rfl rfl (Y_assign rfl) ?_
          refine TL_nil ?_
          refine T_ret ?_
          have e1 : propO s.pl e = putO s.pl s.next e := by unfold propO; rw [if_pos he]
          have e2 : propP s.pl e = putP s.pl s.next e := by unfold propP; rw [if_pos he]
          rw [e1, e2, he]
          exact RetG_3 (.inl rfl) rfl (ResV.tmp rfl) (ResV.tmp rfl) (ResV.tmp rfl) GivesTo.g (⟨A49, c49, rfl, rfl⟩)
  · refine T_region ?_
    refine TL_y rfl rfl (Y_move rfl) ?_
    refine TL_y rfl rfl (Y_ne rfl rfl) ?_
    refine TL_name 21 (v' := .bool true) rfl (congrArg Value.bool (by rw [if_neg hre]; decide)) ?_
    refine TL_y rfl rfl (Y_assign rfl) ?_
    refine TL_nil ?_
    refine T_cond_true rfl ?_
    refine T_region ?_
    refine TL_y rfl rfl (Y_assign rfl) ?_
    refine TL_y rfl rfl (Y_assign rfl) ?_
    refine TL_y rfl rfl (Y_assign rfl) ?_
    refine TL_nil ?_
    refine T_ret ?_
    refine inB_ret ?_
    refine thenS_ret ?_
    have he : propE p e = 1 := by unfold propE; rw [if_pos hre]
    have e1 : propO p e = [] := by unfold propO; rw [if_neg (by omega)]
    have e2 : propP p e = p := by unfold propP; rw [if_neg (by omega)]
    rw [e1, e2, he]
    refine RetQ.gives (osl_nil msgR 44 none _) ?_
    exact RetG_3 (.inl rfl) rfl (ResV.tmp rfl) (ResV.tmp rfl) (ResV.tmp rfl) GivesTo.g (⟨none, 0, rfl, rfl⟩)
end Go.SL
set_option linter.unusedVariables false
set_option linter.unusedSimpArgs false
namespace Go.SL
open Go Go.Proofs
theorem keysPr1_spec {β : Type} {R : Rep β} {ag : Bool} {b bx : Nat} {m : List (Int × β)} {τ : Type} {l : Nat} {C : τ → HP} {step : τ → Int → τ → Prop} {stop : τ → Bool} {cnt : τ → Nat} {s0 : τ} {Lx : List HP} (h0 : stop s0 = false) (hc0 : cnt s0 = 0) (hcnt : ∀ s x s', step s x s' → cnt s' = cnt s + 1) (hy : YieldsC Try.prog l C (fun k : Int => [.int .i64 k]) (fun k => intIn .i64 k) step stop cnt m.length) :
    Fn Try.prog 153 #[.func (.yield l) #[] #[], .pointer (some ⟨bx, 0, none⟩)] (con l (C s0) :: cells bx [.map (some b)] 131 :: omap intK R ag b m :: Lx)
      (fun v L' => ∃ xs s', (stop s' = false → xs.Perm (m.map (·.1))) ∧ Runs step stop s0 xs s' ∧ L' = con l (C s') :: cells bx [.map (some b)] 131 :: omap intK R ag b m :: Lx) := by
  refine Fn_enter Try.func153 rfl rfl rfl rfl ?_
  refine T_region ?_
  refine TL_y rfl rfl (Y_load rfl rfl) ?_
  refine TL_range rfl rfl ?_
  intro it
  refine TL_nil ?_
  refine T_block ?_
  refine T_loopK (σ := List (Int × β) × τ) [0, 5] (fun g => Runs step stop s0 (g.1.map (·.1)) g.2 ∧ stop g.2 = false ∧ cnt g.2 = g.1.length) (fun g kv => kv) (fun g => con l (C g.2) :: mrange intK R ag b it m g.1 :: cells bx [.map (some b)] 131 :: Lx) (fun g => m.length - g.1.length) (([], s0)) rfl (⟨.nil _, h0, hc0⟩) (GivesTo.g) (sub_cons rfl (sub_cons rfl (sub_nil))) ?_
  rintro ⟨done, s⟩ ⟨hr, hs, hc⟩
  dsimp only at hr hs hc ⊢
  refine T_region ?_
  refine TL_next rfl rfl (fun hp => ?_) (fun q1 cs1 hq hd1 hlt => ?_)
  · refine TL_y rfl rfl (Y_extract rfl rfl) ?_
    refine TL_name 7 (v' := .bool false) rfl (rfl) ?_
    refine TL_nil ?_
    refine T_seq ?_
    refine T_cond_false rfl ?_
    refine T_exit ?_
    refine thenS_exit ?_
    refine thenS_exit ?_
    refine inB_hit ?_
    refine RetQ.gives (endr it) ?_
    exact RetG_0 (.inr rfl) rfl GivesTo.g (⟨_, s, fun _ => hp.map _, hr, rfl⟩)
  · refine TL_y rfl rfl (Y_extract rfl rfl) ?_
    refine TL_name 7 (v' := .bool true) rfl (rfl) ?_
    refine TL_nil ?_
    refine T_seq ?_
    refine T_cond_true rfl ?_
    refine T_skip ?_
    refine thenS_normal ?_
    refine T_block ?_
    refine T_region ?_
    refine TL_entry rfl rfl ?_
    intro cs8 ok8
    refine TL_y rfl rfl (Y_extract rfl rfl) ?_
    refine TL_y rfl rfl (Y_assign rfl) ?_
    refine TL_nil ?_
    refine T_region ?_
    refine TL_y rfl rfl (Y_move rfl) ?_
    refine TL_y rfl rfl (Y_move rfl) ?_
    refine TL_pullk l ?_
    refine TL_yield rfl rfl rfl (hy s q1.1 _ hs ok8 (by omega)) ?_
    rintro _ _ ⟨s2, hst, rfl, rfl⟩
    refine TL_y rfl rfl (Y_not rfl) ?_
    refine TL_nil ?_
    refine T_cond rfl (fun h13 => ?_) (fun h13 => ?_)
    · have hs2 : stop s2 = true := by simpa using h13
      refine T_ret ?_
      refine inB_ret ?_
      refine thenS_ret ?_
      refine inB_ret ?_
      refine RetQ.gives (endr it) ?_
      exact RetG_0 (.inl rfl) rfl GivesTo.g (⟨_, s2, fun h => (by rw [hs2] at h; cases h), hr.snoc h0 hs hst, rfl⟩)
    · have hs2 : stop s2 = false := by simpa using h13
      refine T_skip ?_
      refine inB_normal ?_
      refine thenS_normal ?_
      exact ⟨(done ++ [q1], s2), ⟨by rw [List.map_append]; exact hr.snoc h0 hs hst, hs2, by rw [hcnt _ _ _ hst, hc]; simp⟩, by simp only [List.length_append, List.length_cons, List.length_nil]; omega, holds_to (sub_cons rfl (sub_cons rfl (sub_nil))) GivesTo.g⟩
theorem keysPr_iter {β : Type} {R : Rep β} {ag : Bool} {b bx : Nat} {m : List (Int × β)} : IterC Try.prog (.func (.func 153) #[] #[.pointer (some ⟨bx, 0, none⟩)]) (fun k : Int => [.int .i64 k]) (fun k => intIn .i64 k) m.length [cells bx [.map (some b)] 131, omap intK R ag b m] (fun s ks => s = false → ks.Perm (m.map (·.1))) :=
  ⟨_, [], [.pointer (some ⟨bx, 0, none⟩)], rfl, inferInstance, fun τ l C step stop cnt s0 Lx h0 hc hcnt hy => (keysPr1_spec h0 hc hcnt hy).cases_ fun v L' ⟨xs, s', a1, a2, a3⟩ => ⟨xs, s', a1, a2, a3⟩⟩
theorem keysPr_spec {L : List HP} {b : Nat} : Fn Try.prog 114 #[.map (some b)] L (fun v L' => ∃ bx, v = .func (.func 153) #[] #[.pointer (some ⟨bx, 0, none⟩)] ∧ L' = cells bx [.map (some b)] 131 :: L) := by
  refine Fn_enter Try.func114 rfl rfl rfl rfl ?_
  refine T_region ?_
  refine TL_box rfl rfl rfl ?_
  intro b1
  refine TL_y rfl rfl (Y_assign rfl) ?_
  refine TL_nil ?_
  refine T_region ?_
  refine TL_y rfl rfl (Y_make_func rfl rfl) ?_
  refine TL_y rfl rfl (Y_assign rfl) ?_
  refine TL_nil ?_
  refine T_ret ?_
  exact RetG_1 (.inl rfl) rfl (ResV.tmp rfl) GivesTo.g (⟨b1, rfl, rfl⟩)
end Go.SL
set_option linter.unusedVariables false
set_option linter.unusedSimpArgs false
namespace Go.SL
open Go Go.Proofs
def slotsP (p : PP) : List Int := p.F.reverse.map fun f => f.slot
theorem slotsP_inc {p : PP} (h : PI p) : (slotsP p).Pairwise fun x y => x < y := by
  unfold slotsP
  rw [List.pairwise_map, List.pairwise_reverse]
  exact h.inc
theorem prSlots_spec {L : List HP} {b : Nat} {p : PP} : Fn Try.prog 85 #[.pointer (some ⟨b, 0, none⟩)] (pr b p :: L) (fun v L' => ∃ A c, v = .slice A (slotsP p).length c ∧ L' = osl (intR .i64) 3 A c (slotsP p) :: pr b p :: L) := by
  refine Fn_enter Try.func85 rfl rfl rfl rfl ?_
  refine T_region ?_
  refine TL_y rfl rfl (Y_assign rfl) ?_
  refine TL_nil ?_
  refine T_seq ?_
  refine T_region ?_
  refine TL_y rfl rfl (Y_move rfl) ?_
  refine TL_pullk b ?_
  refine TL_call rfl rfl (prMade_spec) ?_
  rintro _ _ ⟨rfl, rfl⟩
  refine TL_name 4 (v' := .bool true) rfl (rfl) ?_
  refine TL_y rfl rfl (Y_not_t rfl) ?_
  refine TL_nil ?_
  refine T_cond_false rfl ?_
  refine T_skip ?_
  refine thenS_normal ?_
  refine T_pullk b ?_
  refine T_pr fun s hs hi => ?_
  subst hs
  have hlen : (s.F.map FlD.pl).length ≤ 4096 := hi.len
  rw [List.length_map] at hlen
  refine T_region ?_
  refine TL_y rfl rfl (Y_move rfl) ?_
  refine TL_y rfl rfl (Y_nil_check rfl) ?_
  refine TL_y rfl rfl (Y_field_addr rfl) ?_
  refine TL_y rfl rfl (Y_load rfl rfl) ?_
  refine TL_call rfl rfl (keysPr_spec) ?_
  rintro _ _ ⟨bx, rfl, rfl⟩
  refine TL_gives (show Gives _ (cells bx [.map (some s.bm)] 131 :: omap intK flR true s.bm (fmapP s.F) :: cells b (prC s) 133 :: votes s.bt s.told s.nodes :: osl votedR 50 s.A s.c s.kept :: flH s.F s.nodes :: L) from GivesTo.g) ?_
  refine TL_call rfl rfl (sorted_spec (Lf := [cells bx [.map (some s.bm)] 131, omap intK flR true s.bm (fmapP s.F)]) (Lr := cells b (prC s) 133 :: votes s.bt s.told s.nodes :: osl votedR 50 s.A s.c s.kept :: flH s.F s.nodes :: L) (keysPr_iter (R := flR) (ag := true) (b := s.bm) (bx := bx) (m := fmapP s.F)) (by simp; omega)) ?_
  rintro _ _ ⟨A11, c11, ks, rfl, hperm, rfl⟩
  rw [show srt ks = slotsP s.pl from srt_of ((hperm rfl).trans (by unfold slotsP; simp only [List.map_reverse, List.map_map]; exact (List.reverse_perm _).symm)) (slotsP_inc hi)]
  simp only [List.cons_append, List.nil_append]
  refine TL_y rfl rfl (Y_assign rfl) ?_
  refine TL_nil ?_
  refine T_ret ?_
  refine RetQ.gives (pr_close b s _ rfl hi) ?_
  exact RetG_1 (.inl rfl) rfl (ResV.tmp rfl) GivesTo.g (⟨A11, c11, rfl, rfl⟩)
theorem slotsP_at {p : PP} {i : Nat} {f : FlP} (h : p.F.reverse[i]? = some f) : (slotsP p)[i]? = some f.slot := by
  unfold slotsP; rw [List.getElem?_map, h]; rfl
theorem slotsP_len (p : PP) : (slotsP p).length = p.F.reverse.length := by unfold slotsP; simp
theorem fl_idx {p : PP} {i : Nat} {f : FlP} (h : p.F.reverse[i]? = some f) : ∃ k : Nat, p.F[k]? = some f := List.getElem?_of_mem (List.mem_reverse.1 (List.mem_of_getElem? h))
def accsK (p : PP) (i : Nat) : List MsgD := ((p.F.reverse.take i).map (accM p)).flatten
theorem accsK_snoc {p : PP} {i : Nat} {f : FlP} (h : p.F.reverse[i]? = some f) : accsK p (i + 1) = accsK p i ++ accM p f := by
  unfold accsK; rw [takeAt h, List.map_append, List.flatten_append]; simp
theorem accM_len {p : PP} (hn : p.nodes ≤ 7) (f : FlP) : (accM p f).length ≤ 7 := by
  have := allK_len p.node p.nodes (accB p f.slot f.en) f.by_ p.nodes.toNat
  unfold accM allM
  omega
theorem accsK_len {p : PP} (hn : p.nodes ≤ 7) : ∀ i, i ≤ p.F.reverse.length → (accsK p i).length ≤ 7 * i
  | 0, _ => Nat.le_refl _
  | i + 1, h => by
    have hi := List.getElem?_eq_getElem (show i < p.F.reverse.length by omega)
    rw [accsK_snoc hi, List.length_append]
    have := accsK_len hn i (by omega)
    have := accM_len hn p.F.reverse[i]
    omega
structure AgSt where
  i : Nat
  A : Option Addr
  c : Nat
theorem prAgain_spec {L : List HP} {b : Nat} {p : PP} : Fn Try.prog 45 #[.pointer (some ⟨b, 0, none⟩)] (pr b p :: L) (fun v L' => ∃ A c, v = .slice A (againO p).length c ∧ L' = osl msgR 44 A c (againO p) :: pr b p :: L) := by
  refine Fn_enter Try.func45 rfl rfl rfl rfl ?_
  refine T_prI fun hi => ?_
  have hn := hi.nodes
  have hlen := hi.len
  refine T_region ?_
  refine TL_y rfl rfl (Y_assign rfl) ?_
  refine TL_nil ?_
  refine T_region ?_
  refine TL_y rfl rfl (Y_assign rfl) ?_
  refine TL_nil ?_
  refine T_seq ?_
  refine T_region ?_
  refine TL_y rfl rfl (Y_move rfl) ?_
  refine TL_pullk b ?_
  refine TL_call rfl rfl (prMade_spec) ?_
  rintro _ _ ⟨rfl, rfl⟩
  refine TL_name 7 (v' := .bool true) rfl (rfl) ?_
  refine TL_y rfl rfl (Y_move rfl) ?_
  refine TL_grun rfl rfl ?_
  refine TL_y rfl rfl (Y_move rfl) ?_
  refine TL_grun rfl rfl ?_
  refine TL_y rfl rfl (Y_nil_check rfl) ?_
  refine TL_grun rfl rfl ?_
  refine TL_y rfl rfl (Y_field_addr rfl) ?_
  refine TL_grun rfl rfl ?_
  refine TL_y rfl rfl (Y_pr (b := b) (v := .int .i64 p.phase) fun s hs ↦ (Y_load rfl rfl).val (by rw [show s.phase = p.phase from congrArg PP.phase hs])) ?_
  refine TL_grun rfl rfl ?_
  refine TL_y rfl rfl (Y_eq rfl rfl) ?_
  refine TL_y rfl rfl (Y_pick_t rfl rfl) ?_
  refine TL_nil ?_
  refine T_if rfl (fun h14 => ?_) (fun h14 => ?_)
  · refine T_region ?_
    refine TL_y rfl rfl (Y_move rfl) ?_
    refine TL_pullk b ?_
    refine TL_call rfl rfl (prPrepares_spec) ?_
    rintro _ _ ⟨A16, c16, rfl, rfl⟩
    refine TL_y rfl rfl (Y_assign rfl) ?_
    refine TL_nil ?_
    refine T_ret ?_
    refine thenS_ret ?_
    have he : againO p = prepM p := by unfold againO; rw [if_pos h14]
    rw [he]
    exact RetG_1 (.inl rfl) rfl (ResV.tmp rfl) GivesTo.g (⟨A16, c16, rfl, rfl⟩)
  · refine T_skip ?_
    refine thenS_normal ?_
    refine T_seq ?_
    refine T_region ?_
    refine TL_y rfl rfl (Y_move rfl) ?_
    refine TL_pullk b ?_
    refine TL_call rfl rfl (prSlots_spec) ?_
    rintro _ _ ⟨A18, c18, rfl, rfl⟩
    refine TL_freeze_osl ?_
    have hsl := slotsP_len p
    rw [List.length_reverse] at hsl
    refine TL_y rfl rfl (Y_len rfl) ?_
    refine TL_y rfl rfl (Y_move rfl) ?_
    refine TL_nil ?_
    refine T_block ?_
    refine T_loopK (σ := AgSt) [0, 18, 19] (fun g => g.i ≤ p.F.length) (fun g kv => (20, .int .i64 (g.i : Int)) :: (3, .slice g.A (accsK p g.i).length g.c) :: kv) (fun g => osl msgR 44 g.A g.c (accsK p g.i) :: pr b p :: sl (intR .i64) A18 c18 (slotsP p) :: L) (fun g => p.F.length - g.i) (⟨0, none, 0⟩) rfl (Nat.zero_le _) (Gives.trans (osl_nil msgR 44 none _) (Gives.cons _ GivesTo.g)) (sub_cons rfl (sub_cons rfl (sub_cons rfl (sub_cons rfl (sub_cons rfl (sub_nil)))))) ?_
    rintro ⟨i, A, c⟩ hil
    dsimp only at hil ⊢
    refine T_region ?_
    refine TL_y rfl rfl (Y_lt rfl rfl) ?_
    refine TL_nil ?_
    refine T_seq ?_
    refine T_if rfl (fun h21 => ?_) (fun h21 => ?_)
    · refine T_skip ?_
      refine thenS_normal ?_
      refine T_seq ?_
      refine T_block ?_
      obtain ⟨f, hf⟩ : ∃ f, p.F.reverse[i]? = some f := ⟨_, List.getElem?_eq_getElem (by rw [List.length_reverse]; omega)⟩
      obtain ⟨k, hk⟩ := fl_idx hf
      have hu := slotsP_at hf
      have hsn := accsK_snoc hf
      have hal := accsK_len hn.2 i (by rw [List.length_reverse]; omega)
      have hml := accM_len hn.2 f
      refine T_addr_n (sln (A := A18) (c := c18) (R := intR .i64)) hu fun bq oq eq => ?_
      subst eq
      refine T_region ?_
      refine TL_y rfl rfl (Y_index_n (R := intR .i64) (xs := slotsP p) rfl rfl rfl hu) ?_
      refine TL_y rfl rfl (Y_load_n (R := intR .i64) (c := c18) (xs := slotsP p) (q := 0) rfl sln hu rfl) ?_
      refine TL_y rfl rfl (Y_assign rfl) ?_
      refine TL_nil ?_
      refine T_region_last ?_
      refine TL_y rfl rfl (Y_move rfl) ?_
      refine TL_y rfl rfl (Y_move rfl) ?_
      refine TL_y rfl rfl (Y_move rfl) ?_
      refine TL_pullk b ?_
      refine TL_call rfl rfl (prAccepts_spec hk) ?_
      rintro _ _ ⟨A27, c27, rfl, rfl⟩
      refine TL_freeze_osl ?_
      refine TL_append rfl rfl rfl rfl rfl slk (by (try simp only [List.length_append, List.length_cons, List.length_nil]); omega) ?_
      intro A28 c28
      rw [← hsn]
      refine TL_y rfl rfl (Y_assign rfl) ?_
      refine TL_nil ?_
      refine inB_normal ?_
      refine thenS_normal ?_
      refine T_region_last ?_
      refine TL_y rfl rfl (Y_add rfl rfl (by omega)) ?_
      refine TL_name 29 (v' := .int .i64 ((i + 1 : Nat) : Int)) rfl (rfl) ?_
      refine TL_y rfl rfl (Y_move rfl) ?_
      refine TL_nil ?_
      refine thenS_normal ?_
      exact ⟨⟨i + 1, A28, c28⟩, (by simp only; omega), by simp only; omega, holds_to (sub_cons rfl (sub_cons rfl (sub_cons rfl (sub_cons rfl (sub_cons rfl (sub_nil)))))) GivesTo.g⟩
    · refine T_exit ?_
      refine thenS_exit ?_
      refine thenS_exit ?_
      refine inB_hit ?_
      refine thenS_normal ?_
      refine T_region ?_
      refine TL_y rfl rfl (Y_move rfl) ?_
      refine TL_y rfl rfl (Y_assign rfl) ?_
      refine TL_nil ?_
      refine T_ret ?_
      have he : againO p = accsK p i := by unfold againO accsK; rw [if_neg h14, List.take_of_length_le (by rw [List.length_reverse]; omega)]
      rw [he]
      exact RetG_1 (.inl rfl) rfl (ResV.tmp rfl) GivesTo.g (⟨A, c, rfl, rfl⟩)
theorem flights_snoc {p : PP} {i : Nat} {f : FlP} (h : p.F.reverse[i]? = some f) : (flightsV p).take (i + 1) = (flightsV p).take i ++ [⟨f.slot, p.bal, f.en⟩] := takeAt (by unfold flightsV; rw [List.getElem?_map, h]; rfl)
theorem prFlights_spec {L : List HP} {b : Nat} {p : PP} : Fn Try.prog 42 #[.pointer (some ⟨b, 0, none⟩)] (pr b p :: L) (fun v L' => ∃ A c, v = .slice A (flightsV p).length c ∧ L' = osl votedR 50 A c (flightsV p) :: pr b p :: L) := by
  refine Fn_enter Try.func42 rfl rfl rfl rfl ?_
  refine T_region ?_
  refine TL_y rfl rfl (Y_assign rfl) ?_
  refine TL_nil ?_
  refine T_region ?_
  refine TL_y rfl rfl (Y_assign rfl) ?_
  refine TL_nil ?_
  refine T_seq ?_
  refine T_region ?_
  refine TL_y rfl rfl (Y_move rfl) ?_
  refine TL_pullk b ?_
  refine TL_call rfl rfl (prSlots_spec) ?_
  rintro _ _ ⟨A7, c7, rfl, rfl⟩
  refine TL_freeze_osl ?_
  have hsl := slotsP_len p
  rw [List.length_reverse] at hsl
  refine TL_y rfl rfl (Y_len rfl) ?_
  refine TL_y rfl rfl (Y_move rfl) ?_
  refine TL_nil ?_
  refine T_block ?_
  refine T_loopK (σ := AgSt) [0, 7, 8] (fun g => g.i ≤ p.F.length) (fun g kv => (9, .int .i64 (g.i : Int)) :: (3, .slice g.A ((flightsV p).take g.i).length g.c) :: kv) (fun g => osl votedR 50 g.A g.c ((flightsV p).take g.i) :: pr b p :: sl (intR .i64) A7 c7 (slotsP p) :: L) (fun g => p.F.length - g.i) (⟨0, none, 0⟩) rfl (Nat.zero_le _) (Gives.trans (osl_nil votedR 50 none _) (Gives.cons _ GivesTo.g)) (sub_cons rfl (sub_cons rfl (sub_cons rfl (sub_cons rfl (sub_cons rfl (sub_nil)))))) ?_
  rintro ⟨i, A, c⟩ hil
  dsimp only at hil ⊢
  refine T_region ?_
  refine TL_y rfl rfl (Y_lt rfl rfl) ?_
  refine TL_nil ?_
  refine T_seq ?_
  refine T_if rfl (fun h10 => ?_) (fun h10 => ?_)
  · refine T_skip ?_
    refine thenS_normal ?_
    refine T_seq ?_
    refine T_block ?_
    obtain ⟨f, hf⟩ : ∃ f, p.F.reverse[i]? = some f := ⟨_, List.getElem?_eq_getElem (by rw [List.length_reverse]; omega)⟩
    obtain ⟨k, hk⟩ := fl_idx hf
    have hu := slotsP_at hf
    have hsn := flights_snoc hf
    refine T_addr_n (sln (A := A7) (c := c7) (R := intR .i64)) hu fun bq oq eq => ?_
    subst eq
    refine T_region ?_
    refine TL_y rfl rfl (Y_index_n (R := intR .i64) (xs := slotsP p) rfl rfl rfl hu) ?_
    refine TL_y rfl rfl (Y_load_n (R := intR .i64) (c := c7) (xs := slotsP p) (q := 0) rfl sln hu rfl) ?_
    refine TL_y rfl rfl (Y_assign rfl) ?_
    refine TL_nil ?_
    refine T_pullk b ?_
    refine T_pr fun s hst hi => ?_
    subst hst
    obtain ⟨g, hg, rfl⟩ := fl_of hk
    have hget := fl_get (inc_D hi) hg
    have hmem := List.mem_of_getElem? hk
    have hfe : rEntry g.en ∧ orderOk' g.en.order := hi.fen _ hmem
    have hrg : 0 ≤ g.slot ∧ g.slot < s.next := hi.rng _ hmem
    have hnx : 0 ≤ s.next ∧ s.next ≤ 2147483648 := hi.next
    have hfl : s.pl.F.length ≤ 4096 := hi.len
    have htk : ((flightsV s.pl).take i).length ≤ i := (by rw [List.length_take]; omega)
    have hs1 : intIn .i64 g.slot := i64In_mk (by omega)
    have hfe2 : (s.F.map FlD.pl).length = s.pl.F.length := rfl
    refine T_region_draw_last (cells b (prC s) 133 :: []) [0, 0, 0, 4, 12, 28, 0, 64, 192, 448, 0, 1984, 4032, 8128, 16382, 32766, 65535, 131071] [] [(0, true), (1, true), (2, true), (3, true), (4, true), (5, true), (6, true), (7, true), (8, true), (9, true), (10, true), (11, false), (12, true), (13, false), (14, true), (15, false), (16, false), (17, true)] (by kernel_rfl) (by decide +kernel) GivesTo.g ?_
    refine TF_y rfl rfl (Y_move rfl) ?_
    refine TF_y rfl rfl (Y_move rfl) ?_
    refine TF_y rfl rfl (Y_move rfl) ?_
    refine TF_y rfl rfl (Y_nil_check rfl) ?_
    refine TF_y rfl rfl (Y_field_addr rfl) ?_
    refine TF_y rfl rfl (Y_load_agg rfl rfl) ?_
    refine TF_y rfl rfl (Y_move rfl) ?_
    refine TF_y rfl rfl (Y_nil_check rfl) ?_
    refine TF_y rfl rfl (Y_field_addr rfl) ?_
    refine TF_y rfl rfl (Y_load rfl rfl) ?_
    refine TF_y rfl rfl (Y_move rfl) ?_
    refine TF_anchor rfl ?_
    refine TL_lookup_x (R := flR) (k := g.slot) rfl rfl rfl (i64In_mk (by omega)) (fun hn => absurd hn (by rw [hget]; simp)) (fun u q hu2 hou => ?_)
    rw [hget] at hu2
    obtain rfl := Option.some.inj hu2
    simp only [List.cons_append, List.nil_append]
    refine TF_end GivesTo.g ?_
    refine TF_y rfl rfl (Y_field_agg rfl rfl) ?_
    refine TF_anchor rfl ?_
    refine TL_call rfl rfl (prCopied_spec g.en (A := q.1) (c := q.2) sln hfe.2) ?_
    rintro _ _ ⟨q2, rfl, rfl⟩
    refine TL_freeze_osl ?_
    refine TF_end GivesTo.g ?_
    refine TF_y rfl rfl (Y_build rfl rfl) ?_
    refine TF_anchor rfl ?_
    refine TL_build_slice rfl rfl rfl rfl rfl rfl ?_
    intro b28
    refine TL_osl (k := 1) votedR [⟨g.slot, s.bal, g.en⟩] (cells_one' (ex_rep q2 (sep_sl slk) ⟨hs1, (rBal_in hi.bal).1, (rBal_in hi.bal).2, hfe.2⟩)) rfl (by decide) ?_
    refine TL_freeze_osl ?_
    refine TL_name 28 (v' := .slice (some ⟨b28, 0, none⟩) [(⟨g.slot, s.bal, g.en⟩ : VotedD)].length 1) rfl rfl ?_
    refine TF_end GivesTo.g ?_
    refine TF_anchor rfl ?_
    refine TL_append rfl rfl rfl rfl rfl slk (by simp only [List.length_cons, List.length_nil]; omega) ?_
    intro A29 c29
    rw [← hsn]
    refine TF_end GivesTo.g ?_
    refine TF_y rfl rfl (Y_assign rfl) ?_
    refine TF_nil ?_
    refine inB_normal ?_
    refine thenS_normal ?_
    refine T_gives (pr_close b s _ rfl hi) ?_
    refine T_region_last ?_
    refine TL_y rfl rfl (Y_add rfl rfl (by omega)) ?_
    refine TL_name 30 (v' := .int .i64 ((i + 1 : Nat) : Int)) rfl (rfl) ?_
    refine TL_y rfl rfl (Y_move rfl) ?_
    refine TL_nil ?_
    refine thenS_normal ?_
    exact ⟨⟨i + 1, A29, c29⟩, (by simp only; omega), by simp only; omega, holds_to (sub_cons rfl (sub_cons rfl (sub_cons rfl (sub_cons rfl (sub_cons rfl (sub_nil)))))) GivesTo.g⟩
  · refine T_exit ?_
    refine thenS_exit ?_
    refine thenS_exit ?_
    refine inB_hit ?_
    refine thenS_normal ?_
    refine T_region ?_
    refine TL_y rfl rfl (Y_move rfl) ?_
    refine TL_y rfl rfl (Y_assign rfl) ?_
    refine TL_nil ?_
    refine T_ret ?_
    rw [List.take_of_length_le (show (flightsV p).length ≤ i by unfold flightsV; rw [List.length_map, List.length_reverse]; omega)]
    exact RetG_1 (.inl rfl) rfl (ResV.tmp rfl) GivesTo.g (⟨A, c, rfl, rfl⟩)
end Go.SL
set_option linter.unusedVariables false
set_option linter.unusedSimpArgs false
namespace Go.SL
open Go Go.Proofs
abbrev ka1 : PP := ⟨1, 3, 1, (1, 1), (1, 1), 0, 0, [false, false, false, false, false, false, false], [], []⟩
abbrev ka2 : PP := ⟨1, 3, 1, (1, 1), (1, 1), 0, 0, [true, false, false, false, false, false, false], [], []⟩
abbrev ka3 : PP := ⟨1, 3, 2, (1, 1), (1, 1), 0, 0, [true, false, true, false, false, false, false], [], []⟩
abbrev ka4 : PP := ⟨1, 3, 2, (1, 1), (1, 1), 0, 1, [true, false, true, false, false, false, false], [], [⟨0, noopE, [false, false, false, false, false, false, false]⟩]⟩
abbrev ka5 : PP := ⟨1, 3, 2, (1, 1), (1, 1), 0, 1, [true, false, true, false, false, false, false], [], [⟨0, noopE, [true, false, false, false, false, false, false]⟩]⟩
abbrev ka6 : PP := ⟨1, 3, 2, (1, 1), (1, 1), 0, 1, [true, false, true, false, false, false, false], [], []⟩
abbrev kmsg (kind frm : Int) : MsgD := ⟨kind, frm, 1, (1, 1), 0, noopE, [], [], [], 0⟩
theorem kmsg_ok (kind frm : Int) (h : 0 ≤ kind ∧ kind ≤ 255) (h2 : 0 ≤ frm ∧ frm ≤ 255) : MsgOk (kmsg kind frm) := smallOk (by dsimp only; omega) noopOk
theorem k17_s : startP (ppNew 1 3) (0, 0) 0 = ka1 := by kernel_rfl
theorem k17_e : startE (ppNew 1 3) (0, 0) 0 = 0 := by kernel_rfl
theorem k17_o : startO (ppNew 1 3) (0, 0) 0 = [toM (prepB ka1) 1 0, toM (prepB ka1) 1 1, toM (prepB ka1) 1 2] := by kernel_rfl
theorem k17_1 : onP ka1 (kmsg 2 0) = (ka2, [], []) := by kernel_rfl
theorem k17_2 : onP ka2 (kmsg 2 2) = (ka3, [], []) := by kernel_rfl
theorem k17_3 : propP ka3 noopE = ka4 := by kernel_rfl
theorem k17_3e : propE ka3 noopE = 0 := by kernel_rfl
theorem k17_3o : propO ka3 noopE = [toM (accB ka3 0 noopE) 1 0, toM (accB ka3 0 noopE) 1 1, toM (accB ka3 0 noopE) 1 2] := by kernel_rfl
theorem k17_4 : onP ka4 (kmsg 4 0) = (ka5, [], []) := by kernel_rfl
theorem k17_5 : onP ka5 (kmsg 4 1) = (ka6, [], [⟨0, (1, 1), noopE⟩]) := by kernel_rfl
theorem cMsg_k (kind frm : Int) : cMsg (kmsg kind frm) ≤ 140737488355328 := show (260 : Nat) ≤ 140737488355328 by decide
theorem lives17_spec (L : List HP) : Fn Try.prog 37 #[] L (fun v L' => v = .bool true ∧ L' = L) := by
  refine Fn_enter Try.func37 rfl rfl rfl rfl ?_
  refine T_region ?_
  refine TL_y rfl rfl (Y_assign rfl) ?_
  refine TL_nil ?_
  refine T_region ?_
  refine TL_call rfl rfl (prNew_ok (node := 1) (nodes := 3) (by decide) (by decide) _) ?_
  rintro _ _ ⟨b13, rfl, rfl⟩
  refine TL_y rfl rfl (Y_move rfl) ?_
  refine TL_y rfl rfl (Y_extract rfl rfl) ?_
  refine TL_y rfl rfl (Y_extract rfl rfl) ?_
  refine TL_y rfl rfl (Y_assign rfl) ?_
  refine TL_y rfl rfl (Y_assign rfl) ?_
  refine TL_nil ?_
  refine T_seq ?_
  refine T_region ?_
  refine TL_y rfl rfl (Y_move rfl) ?_
  refine TL_y rfl rfl (Y_ne rfl rfl) ?_
  refine TL_name 17 (v' := .bool false) rfl (congrArg Value.bool (decide_eq_false (by decide))) ?_
  refine TL_y rfl rfl (Y_move rfl) ?_
  refine TL_grun rfl rfl ?_
  refine TL_y rfl rfl (Y_move rfl) ?_
  refine TL_grun rfl rfl ?_
  refine TL_y rfl rfl (Y_equal rfl rfl (EqIs.ptr_nil)) ?_
  refine TL_name 20 (v' := .bool false) rfl (by simp) ?_
  refine TL_y rfl rfl (Y_pick_f rfl rfl) ?_
  refine TL_nil ?_
  refine T_cond_false rfl ?_
  refine T_skip ?_
  refine thenS_normal ?_
  refine T_region ?_
  refine TL_y rfl rfl (Y_build rfl rfl) ?_
  refine TL_alloc rfl rfl ?_
  intro b3
  refine TL_store rfl rfl rfl rfl rfl rfl ?_
  refine TL_nil ?_
  refine T_region ?_
  refine TL_y rfl rfl (Y_move rfl) ?_
  refine TL_y rfl rfl (Y_build rfl rfl) ?_
  refine TL_pullk b13 ?_
  refine TL_call rfl rfl (prStart_spec (p := ppNew 1 3) (0, 0) 0) ?_
  rintro _ _ ⟨A26, c26, rfl, rfl⟩
  rw [k17_s, k17_e, k17_o]
  refine TL_y rfl rfl (Y_move rfl) ?_
  refine TL_y rfl rfl (Y_extract rfl rfl) ?_
  refine TL_y rfl rfl (Y_extract rfl rfl) ?_
  refine TL_y rfl rfl (Y_assign rfl) ?_
  refine TL_y rfl rfl (Y_assign rfl) ?_
  refine TL_nil ?_
  refine T_region ?_
  refine TL_y rfl rfl (Y_build rfl rfl) ?_
  refine TL_alloc rfl rfl ?_
  intro b6
  refine TL_store rfl rfl rfl rfl rfl rfl ?_
  refine TL_nil ?_
  refine T_region ?_
  refine TL_y rfl rfl (Y_move rfl) ?_
  refine TL_y rfl rfl (Y_load_agg rfl rfl) ?_
  refine TL_y rfl rfl (Y_load_agg rfl rfl) ?_
  refine TL_y rfl rfl (Y_build rfl rfl) ?_
  refine TL_pullk b13 ?_
  refine TL_call rfl rfl (prOn_spec (p := ka1) (kmsg 2 0) mP0 (kmsg_ok 2 0 (by decide) (by decide)) (msgK_nil rfl rfl rfl rfl) (cMsg_k 2 0)) ?_
  rintro _ _ ⟨A34, c34, B34, d34, rfl, rfl⟩
  rw [k17_1]
  refine TL_nil ?_
  refine T_region ?_
  refine TL_y rfl rfl (Y_move rfl) ?_
  refine TL_y rfl rfl (Y_load_agg rfl rfl) ?_
  refine TL_y rfl rfl (Y_load_agg rfl rfl) ?_
  refine TL_y rfl rfl (Y_build rfl rfl) ?_
  refine TL_pullk b13 ?_
  refine TL_call rfl rfl (prOn_spec (p := ka2) (kmsg 2 2) mP0 (kmsg_ok 2 2 (by decide) (by decide)) (msgK_nil rfl rfl rfl rfl) (cMsg_k 2 2)) ?_
  rintro _ _ ⟨A39, c39, B39, d39, rfl, rfl⟩
  rw [k17_2]
  refine TL_nil ?_
  refine T_region ?_
  refine TL_y rfl rfl (Y_move rfl) ?_
  refine TL_y rfl rfl (Y_load_agg rfl rfl) ?_
  refine TL_pullk b13 ?_
  refine TL_call rfl rfl (prPropo_spec (p := ka3) (A := none) (c := 0) noopE noopOk (slnil) (by decide)) ?_
  rintro _ _ ⟨A43, c43, rfl, rfl⟩
  rw [k17_3, k17_3e, k17_3o]
  refine TL_y rfl rfl (Y_move rfl) ?_
  refine TL_y rfl rfl (Y_extract rfl rfl) ?_
  refine TL_y rfl rfl (Y_extract rfl rfl) ?_
  refine TL_y rfl rfl (Y_extract rfl rfl) ?_
  refine TL_y rfl rfl (Y_assign rfl) ?_
  refine TL_y rfl rfl (Y_assign rfl) ?_
  refine TL_y rfl rfl (Y_assign rfl) ?_
  refine TL_nil ?_
  refine T_region ?_
  refine TL_y rfl rfl (Y_move rfl) ?_
  refine TL_y rfl rfl (Y_load_agg rfl rfl) ?_
  refine TL_y rfl rfl (Y_load_agg rfl rfl) ?_
  refine TL_y rfl rfl (Y_build rfl rfl) ?_
  refine TL_pullk b13 ?_
  refine TL_call rfl rfl (prOn_spec (p := ka4) (kmsg 4 0) mP0 (kmsg_ok 4 0 (by decide) (by decide)) (msgK_nil rfl rfl rfl rfl) (cMsg_k 4 0)) ?_
  rintro _ _ ⟨A51, c51, B51, d51, rfl, rfl⟩
  rw [k17_4]
  refine TL_nil ?_
  refine T_region ?_
  refine TL_y rfl rfl (Y_move rfl) ?_
  refine TL_y rfl rfl (Y_load_agg rfl rfl) ?_
  refine TL_y rfl rfl (Y_load_agg rfl rfl) ?_
  refine TL_y rfl rfl (Y_build rfl rfl) ?_
  refine TL_pullk b13 ?_
  refine TL_call rfl rfl (prOn_spec (p := ka5) (kmsg 4 1) mP0 (kmsg_ok 4 1 (by decide) (by decide)) (msgK_nil rfl rfl rfl rfl) (cMsg_k 4 1)) ?_
  rintro _ _ ⟨A57, c57, B57, d57, rfl, rfl⟩
  rw [k17_5]
  refine TL_y rfl rfl (Y_move rfl) ?_
  refine TL_y rfl rfl (Y_extract rfl rfl) ?_
  refine TL_y rfl rfl (Y_extract rfl rfl) ?_
  refine TL_y rfl rfl (Y_assign rfl) ?_
  refine TL_y rfl rfl (Y_assign rfl) ?_
  refine TL_nil ?_
  refine T_region ?_
  refine TL_y rfl rfl (Y_move rfl) ?_
  refine TL_y rfl rfl (Y_eq rfl rfl) ?_
  refine TL_name 61 (v' := .bool true) rfl (congrArg Value.bool (decide_eq_true rfl)) ?_
  refine TL_y rfl rfl (Y_move rfl) ?_
  refine TL_grun rfl rfl ?_
  refine TL_y rfl rfl (Y_move rfl) ?_
  refine TL_grun rfl rfl ?_
  refine TL_y rfl rfl (Y_len rfl) ?_
  refine TL_grun rfl rfl ?_
  refine TL_y rfl rfl (Y_eq rfl rfl) ?_
  refine TL_name 65 (v' := .bool true) rfl (congrArg Value.bool (decide_eq_true rfl)) ?_
  refine TL_y rfl rfl (Y_pick_t rfl rfl) ?_
  refine TL_y rfl rfl (Y_move rfl) ?_
  refine TL_grun rfl rfl ?_
  refine TL_y rfl rfl (Y_move rfl) ?_
  refine TL_grun rfl rfl ?_
  refine TL_index_n rfl rfl rfl (rfl) ((sln (A := A26) (c := c26))) ((show _ = some (toM (prepB ka1) 1 2) from rfl)) ?_
  intro bn69 on69 hA69 hk69
  have hu69 := (show _ = some (toM (prepB ka1) 1 2) from rfl)
  refine TL_grun rfl rfl ?_
  refine TL_y rfl rfl (Y_field_addr2 rfl) ?_
  refine TL_grun rfl rfl ?_
  refine TL_y rfl rfl (Y_load_nx rfl hk69 hu69 (fun _ => rfl)) ?_
  refine TL_grun rfl rfl ?_
  refine TL_y rfl rfl (Y_eq rfl rfl) ?_
  refine TL_name 72 (v' := .bool true) rfl (congrArg Value.bool (decide_eq_true rfl)) ?_
  refine TL_y rfl rfl (Y_pick_t rfl rfl) ?_
  refine TL_y rfl rfl (Y_move rfl) ?_
  refine TL_grun rfl rfl ?_
  refine TL_y rfl rfl (Y_move rfl) ?_
  refine TL_grun rfl rfl ?_
  refine TL_pullk b13 ?_
  refine TL_call rfl rfl (prPhase_spec) ?_
  rintro _ _ ⟨rfl, rfl⟩
  refine TL_grun rfl rfl ?_
  refine TL_y rfl rfl (Y_eq rfl rfl) ?_
  refine TL_name 77 (v' := .bool true) rfl (congrArg Value.bool (decide_eq_true rfl)) ?_
  refine TL_y rfl rfl (Y_pick_t rfl rfl) ?_
  refine TL_y rfl rfl (Y_move rfl) ?_
  refine TL_grun rfl rfl ?_
  refine TL_y rfl rfl (Y_move rfl) ?_
  refine TL_grun rfl rfl ?_
  refine TL_y rfl rfl (Y_len rfl) ?_
  refine TL_grun rfl rfl ?_
  refine TL_y rfl rfl (Y_eq rfl rfl) ?_
  refine TL_name 82 (v' := .bool true) rfl (congrArg Value.bool (decide_eq_true rfl)) ?_
  refine TL_y rfl rfl (Y_pick_t rfl rfl) ?_
  refine TL_y rfl rfl (Y_move rfl) ?_
  refine TL_grun rfl rfl ?_
  refine TL_y rfl rfl (Y_move rfl) ?_
  refine TL_grun rfl rfl ?_
  refine TL_y rfl rfl (Y_eq rfl rfl) ?_
  refine TL_name 86 (v' := .bool true) rfl (congrArg Value.bool (decide_eq_true rfl)) ?_
  refine TL_y rfl rfl (Y_pick_t rfl rfl) ?_
  refine TL_y rfl rfl (Y_move rfl) ?_
  refine TL_grun rfl rfl ?_
  refine TL_y rfl rfl (Y_move rfl) ?_
  refine TL_grun rfl rfl ?_
  refine TL_y rfl rfl (Y_eq rfl rfl) ?_
  refine TL_name 90 (v' := .bool true) rfl (congrArg Value.bool (decide_eq_true rfl)) ?_
  refine TL_y rfl rfl (Y_pick_t rfl rfl) ?_
  refine TL_y rfl rfl (Y_move rfl) ?_
  refine TL_grun rfl rfl ?_
  refine TL_y rfl rfl (Y_move rfl) ?_
  refine TL_grun rfl rfl ?_
  refine TL_y rfl rfl (Y_len rfl) ?_
  refine TL_grun rfl rfl ?_
  refine TL_y rfl rfl (Y_eq rfl rfl) ?_
  refine TL_name 95 (v' := .bool true) rfl (congrArg Value.bool (decide_eq_true rfl)) ?_
  refine TL_y rfl rfl (Y_pick_t rfl rfl) ?_
  refine TL_y rfl rfl (Y_move rfl) ?_
  refine TL_grun rfl rfl ?_
  refine TL_y rfl rfl (Y_move rfl) ?_
  refine TL_grun rfl rfl ?_
  refine TL_index_n rfl rfl rfl (rfl) ((sln (A := B57) (c := d57))) ((show _ = some (⟨0, (1, 1), noopE⟩ : VotedD) from rfl)) ?_
  intro bn99 on99 hA99 hk99
  have hu99 := (show _ = some (⟨0, (1, 1), noopE⟩ : VotedD) from rfl)
  refine TL_grun rfl rfl ?_
  refine TL_y rfl rfl (Y_field_addr2 rfl) ?_
  refine TL_grun rfl rfl ?_
  refine TL_y rfl rfl (Y_field_addr2 rfl) ?_
  refine TL_grun rfl rfl ?_
  refine TL_y rfl rfl (Y_load_nx rfl hk99 hu99 (fun _ => rfl)) ?_
  refine TL_name 102 (v' := .bool true) rfl (rfl) ?_
  refine TL_y rfl rfl (Y_pick_t rfl rfl) ?_
  refine TL_y rfl rfl (Y_move rfl) ?_
  refine TL_grun rfl rfl ?_
  refine TL_y rfl rfl (Y_move rfl) ?_
  refine TL_grun rfl rfl ?_
  refine TL_pullk b13 ?_
  refine TL_call rfl rfl (prFlights_spec) ?_
  rintro _ _ ⟨A106, c106, rfl, rfl⟩
  refine TL_grun rfl rfl ?_
  refine TL_y rfl rfl (Y_len rfl) ?_
  refine TL_grun rfl rfl ?_
  refine TL_y rfl rfl (Y_eq rfl rfl) ?_
  refine TL_name 108 (v' := .bool true) rfl (congrArg Value.bool (decide_eq_true rfl)) ?_
  refine TL_y rfl rfl (Y_pick_t rfl rfl) ?_
  refine TL_y rfl rfl (Y_assign rfl) ?_
  refine TL_nil ?_
  refine T_ret ?_
  exact RetG_1 (.inl rfl) rfl (ResV.tmp rfl) GivesTo.g (⟨rfl, rfl⟩)
end Go.SL
set_option linter.unusedVariables false
set_option linter.unusedSimpArgs false
namespace Go.SL
open Go Go.Proofs
structure OpD17 where
  kind : Int
  bal : Int × Int
  slot : Int
  msg : MsgD
  en : EntryD
structure OpP17 where
  m : MsgP
  e : Option Addr × Nat
abbrev opC (o : OpD17) (p : OpP17) : List Value := [.int .i64 o.kind, .int .i64 o.bal.1, .int .i64 o.bal.2, .int .i64 o.slot, .int .i64 o.msg.kind, .int .i64 o.msg.frm, .int .i64 o.msg.to_, .int .i64 o.msg.bal.1, .int .i64 o.msg.bal.2, .int .i64 o.msg.slot, .bool o.msg.en.noop, .string o.msg.en.order.token, .string o.msg.en.order.cart, .int .i64 o.msg.en.order.epoch, .slice p.m.cut.1 o.msg.en.order.cut.length p.m.cut.2, .slice p.m.voted.1 o.msg.voted.length p.m.voted.2, .slice p.m.seen.1 o.msg.seen.length p.m.seen.2, .slice p.m.events.1 o.msg.events.length p.m.events.2, .int .i64 o.msg.time, .bool o.en.noop, .string o.en.order.token, .string o.en.order.cart, .int .i64 o.en.order.epoch, .slice p.e.1 o.en.order.cut.length p.e.2]
structure OpOk17 (o : OpD17) : Prop where
  kind : intIn .i64 o.kind
  b1 : intIn .i64 o.bal.1
  b2 : intIn .i64 o.bal.2
  slot : intIn .i64 o.slot
  msg : MsgOk o.msg
  en : orderOk' o.en.order
abbrev opG (o : OpD17) (p : OpP17) : List HP := [sl (intR .i64) p.m.cut.1 p.m.cut.2 o.msg.en.order.cut, sl votedR p.m.voted.1 p.m.voted.2 o.msg.voted, sl (intR .i64) p.m.seen.1 p.m.seen.2 o.msg.seen, sl eventR p.m.events.1 p.m.events.2 o.msg.events, sl (intR .i64) p.e.1 p.e.2 o.en.order.cut]
def opR : Rep OpD17 := exR 24 opC opG OpOk17 (fun _ _ => rfl) (fun _ _ => rfl)
instance : IsEx opR OpP17 24 opC opG OpOk17 := ⟨_, _, rfl⟩
def μOp17 (o : OpD17) : Nat := μMsg o.msg + μEntry o.en + 4
theorem cells_ent : Try.prog.cellsOf 27 = 5 := by kernel_rfl
end Go.SL
set_option linter.unusedVariables false
set_option linter.unusedSimpArgs false
namespace Go.SL
open Go
/-- It was said that this entry be accepted. -/
def SP (said : List MsgD) (b : Int × Int) (s : Int) (e : EntryD) : Prop := ∃ m ∈ said, m.kind = 3 ∧ m.bal = b ∧ m.slot = s ∧ m.en = e
theorem SP_app {x y : List MsgD} {b : Int × Int} {s : Int} {e : EntryD} : SP (x ++ y) b s e ↔ SP x b s e ∨ SP y b s e := by
  unfold SP
  constructor
  · rintro ⟨m, hm, h⟩
    rcases List.mem_append.1 hm with hm | hm
    · exact .inl ⟨m, hm, h⟩
    · exact .inr ⟨m, hm, h⟩
  · rintro (⟨m, hm, h⟩ | ⟨m, hm, h⟩)
    · exact ⟨m, List.mem_append_left _ hm, h⟩
    · exact ⟨m, List.mem_append_right _ hm, h⟩
theorem allM_mem {p : PP} {m q : MsgD} {bs : List Bool} (h : q ∈ allM p m bs) : ∃ to : Int, 0 ≤ to ∧ to < p.nodes ∧ q = toM m p.node to := by
  obtain ⟨k, hk, rfl⟩ := List.mem_map.1 h
  have := List.mem_range.1 (List.mem_filter.1 hk).1
  exact ⟨k, by omega, by omega, rfl⟩
theorem SP_prep (p : PP) {b : Int × Int} {s : Int} {e : EntryD} : ¬ SP (prepM p) b s e := by
  rintro ⟨m, hm, h, _⟩
  obtain ⟨to, _, _, rfl⟩ := allM_mem hm
  exact absurd h (by simp [toM])
theorem SP_acc {p : PP} {f : FlP} {b : Int × Int} {s : Int} {e : EntryD} (h : SP (accM p f) b s e) : b = p.bal ∧ s = f.slot ∧ e = f.en := by
  obtain ⟨m, hm, h1, h2, h3, h4⟩ := h
  obtain ⟨to, _, _, rfl⟩ := allM_mem hm
  exact ⟨h2.symm, h3.symm, h4.symm⟩
theorem SP_put {p : PP} (hn : 1 ≤ p.nodes) (slot : Int) (e : EntryD) : SP (putO p slot e) p.bal slot e := by
  refine ⟨toM (accB p slot e) p.node ((0 : Nat) : Int), List.mem_map.2 ⟨0, List.mem_filter.2 ⟨List.mem_range.2 (by omega), ?_⟩, rfl⟩, rfl, rfl, rfl, rfl⟩
  simpa using hasV_no
structure OInv (p : PP) (last : Int × Int) (said : List MsgD) : Prop where
  u : ∀ b s e e', SP said b s e → SP said b s e' → e = e'
  le : ∀ b s e, SP said b s e → leB b last
  seen : leB last p.seen
  act : p.phase ≠ 0 → p.bal = last
  p1 : p.phase = 1 → ∀ s e, ¬ SP said last s e
  p2 : p.phase = 2 → ∀ s e, SP said last s e → s < p.next
  fl : ∀ f ∈ p.F, p.phase = 2 ∧ SP said last f.slot f.en
/-- What goes out. -/
def Outs (p : PP) (last : Int × Int) (out : List MsgD) : Prop := ∀ m ∈ out, m.bal = last ∧ m.frm = p.node ∧ 0 ≤ m.to_ ∧ m.to_ < p.nodes
theorem Outs.nil {p : PP} {last : Int × Int} : Outs p last [] := fun m hm => by cases hm
theorem Outs.app {p : PP} {last : Int × Int} {x y : List MsgD} (h : Outs p last x) (k : Outs p last y) : Outs p last (x ++ y) := fun m hm => (List.mem_append.1 hm).elim (h m) (k m)
theorem Outs.all {p : PP} {last : Int × Int} {m : MsgD} {bs : List Bool} (h : m.bal = last) : Outs p last (allM p m bs) := fun q hq => by
  obtain ⟨to, h1, h2, rfl⟩ := allM_mem hq
  exact ⟨h, rfl, h1, h2⟩
section
variable {p : PP} {last : Int × Int} {said : List MsgD}
theorem OInv.more {x : List MsgD} (h : OInv p last said) (k : ∀ b s e, SP x b s e → SP said b s e) : OInv p last (said ++ x) where
  u := fun b s e e' h1 h2 => h.u b s e e' ((SP_app.1 h1).elim id (k b s e)) ((SP_app.1 h2).elim id (k b s e'))
  le := fun b s e h1 => h.le b s e ((SP_app.1 h1).elim id (k b s e))
  seen := h.seen
  act := h.act
  p1 := fun hp s e h1 => h.p1 hp s e ((SP_app.1 h1).elim id (k _ s e))
  p2 := fun hp s e h1 => h.p2 hp s e ((SP_app.1 h1).elim id (k _ s e))
  fl := fun f hf => ⟨(h.fl f hf).1, SP_app.2 (.inl (h.fl f hf).2)⟩
theorem OInv.none (h : OInv p last said) : OInv p last (said ++ []) := by rw [List.append_nil]; exact h
theorem OInv.stop (h : OInv p last said) : OInv (ppStop p) last said := ⟨h.u, h.le, h.seen, fun e => absurd rfl e, fun e => absurd e (by simp [ppStop]), fun e => absurd e (by simp [ppStop]), fun f hf => by cases hf⟩
theorem OInv.put (h : OInv p last said) (hn : 1 ≤ p.nodes) (hp : p.phase = 2) (e : EntryD) : OInv (putP p p.next e) last (said ++ putO p p.next e) ∧ Outs p last (putO p p.next e) := by
  have hb := h.act (by omega)
  have hs : ∀ {b s e'}, SP (putO p p.next e) b s e' → b = last ∧ s = p.next ∧ e' = e := fun k => by
    have := SP_acc k
    exact ⟨this.1.trans hb, this.2.1, this.2.2⟩
  refine ⟨⟨fun b s e1 e2 h1 h2 => ?_, fun b s e1 h1 => ?_, h.seen, h.act, fun k => absurd k (by show p.phase ≠ 1; omega), fun k s e1 h1 => ?_, fun f hf => ?_⟩, Outs.all hb⟩
  · rcases SP_app.1 h1 with k1 | k1 <;> rcases SP_app.1 h2 with k2 | k2
    · exact h.u b s e1 e2 k1 k2
    · have a := hs k2; rw [a.1, a.2.1] at k1; have := h.p2 hp _ _ k1; omega
    · have a := hs k1; rw [a.1, a.2.1] at k2; have := h.p2 hp _ _ k2; omega
    · rw [(hs k1).2.2, (hs k2).2.2]
  · rcases SP_app.1 h1 with h1 | h1
    · exact h.le b s e1 h1
    · rw [(hs h1).1]; exact leB_refl _
  · show s < p.next + 1
    rcases SP_app.1 h1 with h1 | h1
    · have := h.p2 hp _ _ h1; omega
    · have := (hs h1).2.1; omega
  · refine ⟨hp, SP_app.2 ?_⟩
    rcases List.mem_cons.1 hf with rfl | hf
    · refine .inr ?_
      have := SP_put (p := p) hn p.next e
      rw [hb] at this
      exact this
    · exact .inl (h.fl f hf).2
theorem OInv.leadK (h : OInv p last said) (hi : PI p) (hp : p.phase = 1) (l : List VotedD) : ∀ k, OInv (leadK p l k).1 last (said ++ (Go.SL.leadK p l k).2) ∧ Outs p last (Go.SL.leadK p l k).2
  | 0 => ⟨⟨fun b s e e' h1 h2 => h.u b s e e' ((SP_app.1 h1).elim id (fun ⟨m, hm, _⟩ => by cases hm)) ((SP_app.1 h2).elim id (fun ⟨m, hm, _⟩ => by cases hm)), fun b s e h1 => h.le b s e ((SP_app.1 h1).elim id (fun ⟨m, hm, _⟩ => by cases hm)), h.seen, fun _ => h.act (by omega), fun k => absurd k (by simp [Go.SL.leadK]), fun _ s e h1 => absurd ((SP_app.1 h1).elim id (fun ⟨m, hm, _⟩ => by cases hm)) (h.p1 hp s e), fun f hf => by have hf' : f ∈ p.F := hf; rw [hi.ph1 hp] at hf'; cases hf'⟩, Outs.nil⟩
  | k + 1 => by
    obtain ⟨i1, i2⟩ := OInv.leadK h hi hp l k
    have hf := leadK_F (hi.ph1 hp) l k
    have := i1.put (by rw [hf.nodes]; exact hi.nodes.1) hf.phase (keptE l (p.frm + k))
    rw [hf.next] at this
    have h2 : Outs p last (putO (Go.SL.leadK p l k).1 (p.frm + k) (keptE l (p.frm + k))) := fun m hm => by
      have := this.2 m hm
      rw [hf.node, hf.nodes] at this
      exact this
    have h1 := this.1
    rw [List.append_assoc] at h1
    exact ⟨h1, i2.app h2⟩
theorem OInv.leadP (h : OInv p last said) (hi : PI p) (hp : p.phase = 1) : OInv (leadP p).1 last (said ++ (Go.SL.leadP p).2) ∧ Outs p last (Go.SL.leadP p).2 := by
  unfold Go.SL.leadP
  split
  · exact ⟨h.stop.none, Outs.nil⟩
  · exact h.leadK hi hp p.kept _
theorem OInv.promP (h : OInv p last said) (hi : PI p) {m : MsgD} (hm : rMsg m) : OInv (promP p m).1 last (said ++ (Go.SL.promP p m).2) ∧ Outs p last (Go.SL.promP p m).2 := by
  unfold Go.SL.promP
  split
  · rename_i ho
    have ht : OInv (tellP p m) last said := ⟨h.u, h.le, h.seen, h.act, h.p1, h.p2, h.fl⟩
    split
    · exact ht.leadP (tellP_I hi ho hm) ho.1
    · exact ⟨ht.none, Outs.nil⟩
  · exact ⟨h.none, Outs.nil⟩
theorem flAt_mem {F : List FlP} {slot : Int} {f : FlP} (h : flAt F slot = some f) : f ∈ F ∧ f.slot = slot := by
  have h1 := List.find?_some h
  exact ⟨List.mem_of_find?_eq_some h, of_decide_eq_true h1⟩
theorem flVote_mem {F : List FlP} {slot n node : Int} {f : FlP} (h : f ∈ flVote F slot n node) : ∃ g ∈ F, f.slot = g.slot ∧ f.en = g.en ∧ (f.by_ = g.by_ ∨ (g.slot = slot ∧ f.by_ = addV g.by_ n node)) := by
  obtain ⟨g, hg, rfl⟩ := List.mem_map.1 h
  refine ⟨g, hg, ?_⟩
  split
  · exact ⟨rfl, rfl, .inr ⟨by assumption, rfl⟩⟩
  · exact ⟨rfl, rfl, .inl rfl⟩
theorem OInv.accP (h : OInv p last said) (m : MsgD) : OInv (accP p m).1 last said ∧ ∀ v ∈ (Go.SL.accP p m).2, SP said v.bal v.slot v.en := by
  unfold Go.SL.accP
  split
  · rename_i hp
    cases hf : flAt p.F m.slot with
    | none => exact ⟨h, fun v hv => by cases hv⟩
    | some f =>
      dsimp only
      obtain ⟨h1, h2⟩ := flAt_mem hf
      split
      · refine ⟨⟨h.u, h.le, h.seen, h.act, h.p1, h.p2, fun g hg => h.fl g (List.mem_filter.1 hg).1⟩, fun v hv => ?_⟩
        rw [List.mem_singleton] at hv
        subst hv
        have := (h.fl f h1).2
        rw [h2, ← h.act (by omega)] at this
        exact this
      · refine ⟨⟨h.u, h.le, h.seen, h.act, h.p1, h.p2, fun g hg => ?_⟩, fun v hv => by cases hv⟩
        obtain ⟨g0, hg0, e1, e2, _⟩ := flVote_mem hg
        rw [e1, e2]; exact h.fl g0 hg0
  · exact ⟨h, fun v hv => by cases hv⟩
theorem greater_ge (a b : Int × Int) : leB a (greaterB a b) ∧ leB b (greaterB a b) := by
  unfold greaterB
  split
  · rename_i h; exact ⟨ltB_leB (cmp_ltB.1 h), leB_refl _⟩
  · rename_i h; exact ⟨leB_refl _, fun k => h (cmp_ltB.2 k)⟩
theorem OInv.nackP (h : OInv p last said) (m : MsgD) : OInv (nackP p m) last said := by
  unfold Go.SL.nackP
  split
  · have k := h.stop
    exact ⟨k.u, k.le, leB_trans h.seen (greater_ge _ _).1, k.act, k.p1, k.p2, k.fl⟩
  · exact h
theorem OInv.onP (h : OInv p last said) (hi : PI p) (m : MsgD) : OInv (onP p m).1 last (said ++ (Go.SL.onP p m).2.1) ∧ Outs p last (Go.SL.onP p m).2.1 ∧ (∀ v ∈ (Go.SL.onP p m).2.2, SP (said ++ (Go.SL.onP p m).2.1) v.bal v.slot v.en) := by
  have hn : ∀ v ∈ ([] : List VotedD), SP said v.bal v.slot v.en := fun v hv => by cases hv
  unfold Go.SL.onP
  split
  · exact ⟨h.none, Outs.nil, fun v hv => by cases hv⟩
  · rename_i hm
    have hr := (out_msg (Classical.not_not.1 hm).2.2).1
    split
    · have := h.promP hi hr; exact ⟨this.1, this.2, fun v hv => by cases hv⟩
    · split
      · have := h.accP m
        exact ⟨this.1.none, Outs.nil, fun v hv => SP_app.2 (.inl (this.2 v hv))⟩
      · split
        · exact ⟨(h.nackP m).none, Outs.nil, fun v hv => by cases hv⟩
        · exact ⟨h.none, Outs.nil, fun v hv => by cases hv⟩
theorem next_more {a b c : Int × Int} {node : Int} (h : (nextB (greaterB a b) node).2 = 0) (k : leB c (greaterB a b)) : ltB c (nextB (greaterB a b) node).1 := by
  obtain ⟨e, _⟩ := nextB_ok h
  rw [e]
  rw [leB_iff] at k
  unfold ltB
  dsimp only
  omega
theorem OInv.start (h : OInv p last said) (hi : PI p) {floor : Int × Int} {slot : Int} (he : startE p floor slot = 0) : OInv (startP p floor slot) (startP p floor slot).bal (said ++ startO p floor slot) ∧ Outs p (startP p floor slot).bal (startO p floor slot) ∧ ltB last (startP p floor slot).bal ∧ ltB floor (startP p floor slot).bal := by
  have h4 := (startE_0 he).2.2.2
  have hlt := next_more h4 (leB_trans h.seen (greater_ge floor p.seen).2)
  have hlf := next_more h4 (greater_ge floor p.seen).1
  have e0 : startO p floor slot = prepM (startP p floor slot) := by unfold startO; rw [if_pos he]
  have e1 : startP p floor slot = { ppStop p with phase := 1, bal := (nextB (greaterB floor p.seen) p.node).1, seen := (nextB (greaterB floor p.seen) p.node).1, frm := slot } := by unfold startP; rw [if_pos he]
  have hb : (startP p floor slot).bal = (nextB (greaterB floor p.seen) p.node).1 := by rw [e1]
  rw [hb]
  have hno : ∀ s e, ¬ SP said (nextB (greaterB floor p.seen) p.node).1 s e := fun s e k => absurd hlt (h.le _ _ _ k)
  have hO : OInv (startP p floor slot) (nextB (greaterB floor p.seen) p.node).1 said := by
    rw [e1]
    exact ⟨h.u, fun b s e k => ltB_leB (leB_lt (h.le b s e k) hlt), leB_refl _, fun _ => rfl, fun _ => hno, fun k => absurd k (by simp), fun f hf => by cases hf⟩
  refine ⟨hO.more (fun b s e k => ?_), ?_, hlt, hlf⟩
  · rw [e0] at k; exact absurd k (SP_prep _)
  · rw [e0, e1]
    exact Outs.all (p := p) rfl
theorem OInv.propP (h : OInv p last said) (hi : PI p) (e : EntryD) : OInv (propP p e) last (said ++ propO p e) ∧ Outs p last (propO p e) := by
  unfold Go.SL.propP propO
  split
  · rename_i he
    have hp : p.phase = 2 := by
      unfold propE at he
      split at he
      · cases he
      · split at he
        · cases he
        · rename_i h1; omega
    exact h.put hi.nodes.1 hp e
  · exact ⟨h.none, Outs.nil⟩
theorem OInv.again (h : OInv p last said) : OInv p last (said ++ againO p) ∧ Outs p last (againO p) := by
  unfold againO
  split
  · rename_i hp
    exact ⟨h.more fun b s e k => absurd k (SP_prep _), Outs.all (h.act (by omega))⟩
  · have hm : ∀ m ∈ (p.F.reverse.map (accM p)).flatten, ∃ f ∈ p.F, m ∈ accM p f := fun m hm => by
      obtain ⟨l, hl, hml⟩ := List.mem_flatten.1 hm
      obtain ⟨f, hf, rfl⟩ := List.mem_map.1 hl
      exact ⟨f, List.mem_reverse.1 hf, hml⟩
    refine ⟨h.more fun b s e k => ?_, fun m hm' => ?_⟩
    · obtain ⟨m, h1, h2⟩ := k
      obtain ⟨f, hf, hmf⟩ := hm m h1
      obtain ⟨rfl, rfl, rfl⟩ := SP_acc ⟨m, hmf, h2⟩
      have := h.fl f hf
      rw [h.act (by omega)]
      exact this.2
    · obtain ⟨f, hf, hmf⟩ := hm m hm'
      exact Outs.all (h.act (by have := (h.fl f hf).1; omega)) m hmf
theorem OInv.new (node nodes : Int) : OInv (ppNew node nodes) (0, 0) [] := ⟨fun b s e e' ⟨m, hm, _⟩ => (by cases hm), fun b s e ⟨m, hm, _⟩ => (by cases hm), leB_refl _, fun e => absurd rfl e, fun e => absurd e (by simp [ppNew]), fun e => absurd e (by simp [ppNew]), fun f hf => by cases hf⟩
end
end Go.SL
set_option linter.unusedVariables false
set_option linter.unusedSimpArgs false
namespace Go.SL
open Go Go.Proofs
theorem startP_node (p : PP) (floor : Int × Int) (slot : Int) : (startP p floor slot).node = p.node ∧ (startP p floor slot).nodes = p.nodes := by unfold startP; split <;> exact ⟨rfl, rfl⟩
theorem leadP_node {p : PP} (h : p.F = []) : (leadP p).1.node = p.node ∧ (leadP p).1.nodes = p.nodes := by
  unfold leadP; split
  · exact ⟨rfl, rfl⟩
  · have := leadK_F h p.kept (mostP p - p.frm + 1).toNat
    exact ⟨this.node, this.nodes⟩
theorem promP_node {p : PP} (hi : PI p) (m : MsgD) : (promP p m).1.node = p.node ∧ (promP p m).1.nodes = p.nodes := by
  unfold promP; split
  · rename_i ho
    split
    · have := leadP_node (p := tellP p m) (hi.ph1 ho.1)
      exact this
    · exact ⟨rfl, rfl⟩
  · exact ⟨rfl, rfl⟩
theorem accP_node (p : PP) (m : MsgD) : (accP p m).1.node = p.node ∧ (accP p m).1.nodes = p.nodes ∧ (accP p m).2.length ≤ 1 := by
  unfold accP; split
  · split
    · exact ⟨rfl, rfl, Nat.zero_le _⟩
    · split
      · exact ⟨rfl, rfl, Nat.le_refl _⟩
      · exact ⟨rfl, rfl, Nat.zero_le _⟩
  · exact ⟨rfl, rfl, Nat.zero_le _⟩
theorem leadP_len {p : PP} (hi : PI p) (h : p.phase = 1) : (leadP p).2.length ≤ 28672 := by
  unfold leadP; split
  · exact Nat.zero_le _
  · have := leadK_len p p.kept hi.nodes.2 (hi.ph1 h) (mostP p - p.frm + 1).toNat
    have : (mostP p - p.frm + 1).toNat ≤ 4096 := by omega
    omega
theorem promP_len {p : PP} (hi : PI p) {m : MsgD} (hm : rMsg m) : (promP p m).2.length ≤ 28672 := by
  unfold promP; split
  · rename_i ho
    split
    · exact leadP_len (tellP_I hi ho hm) ho.1
    · exact Nat.zero_le _
  · exact Nat.zero_le _
theorem onP_node {p : PP} (hi : PI p) (m : MsgD) : (onP p m).1.node = p.node ∧ (onP p m).1.nodes = p.nodes ∧ (onP p m).2.1.length ≤ 28672 ∧ (onP p m).2.2.length ≤ 1 := by
  unfold onP
  split
  · exact ⟨rfl, rfl, Nat.zero_le _, Nat.zero_le _⟩
  · rename_i hm
    have hr := (out_msg (Classical.not_not.1 hm).2.2).1
    split
    · have := promP_node hi m
      exact ⟨this.1, this.2, promP_len hi hr, Nat.zero_le _⟩
    · split
      · have := accP_node p m
        exact ⟨this.1, this.2.1, Nat.zero_le _, this.2.2⟩
      · split
        · refine ⟨?_, ?_, Nat.zero_le _, Nat.zero_le _⟩ <;> (unfold nackP; split <;> rfl)
        · exact ⟨rfl, rfl, Nat.zero_le _, Nat.zero_le _⟩
theorem prepM_len {p : PP} (hn : p.nodes ≤ 7) : (prepM p).length ≤ 7 := by
  have := allK_len p.node p.nodes (prepB p) p.told p.nodes.toNat
  unfold prepM allM
  omega
theorem startO_len {p : PP} (hi : PI p) (floor : Int × Int) (slot : Int) : (startO p floor slot).length ≤ 28672 := by
  unfold startO; split
  · have := prepM_len (p := startP p floor slot) (by rw [(startP_node p floor slot).2]; exact hi.nodes.2)
    omega
  · exact Nat.zero_le _
theorem propO_len {p : PP} (hi : PI p) (e : EntryD) : (propO p e).length ≤ 28672 := by
  unfold propO; split
  · have := putO_len p p.next e hi.nodes.2; omega
  · exact Nat.zero_le _
theorem againO_len {p : PP} (hi : PI p) : (againO p).length ≤ 28672 := by
  unfold againO; split
  · have := prepM_len hi.nodes.2; omega
  · have := accsK_len (p := p) hi.nodes.2 p.F.reverse.length (Nat.le_refl _)
    unfold accsK at this
    rw [List.take_length, List.length_reverse] at this
    have := hi.len
    omega
noncomputable instance (said : List MsgD) (b : Int × Int) (s : Int) (e : EntryD) : Decidable (SP said b s e) := Classical.propDecidable _
structure OnSt where
  i : Nat
  p : PP
  last : Int × Int
  said : List MsgD
  A : Option Addr
  c : Nat
structure OrSt where
  p : PP
  last : Int × Int
  out : List MsgD
  A : Option Addr
  c : Nat
  ch : List VotedD
  B : Option Addr
  d : Nat
structure OrI (node nodes : Int) (said : List MsgD) (j : OrSt) : Prop where
  inv : OInv j.p j.last (said ++ j.out)
  outs : ∀ m ∈ j.out, m.bal = j.last ∧ m.frm = node ∧ 0 ≤ m.to_ ∧ m.to_ < nodes
  known : ∀ v ∈ j.ch, SP (said ++ j.out) v.bal v.slot v.en
  node : j.p.node = node
  nodes : j.p.nodes = nodes
  len : j.out.length ≤ 28672
  one : j.ch.length ≤ 1
abbrev balC (b : Int × Int) : List Value := [.int .i64 b.1, .int .i64 b.2]
end Go.SL
set_option linter.unusedVariables false
set_option linter.unusedSimpArgs false
namespace Go.SL
open Go
section
variable {X : Gh} {i : Int} {p : PP} {m : MsgD}
theorem PInv.stop (h : PInv X i p) : PInv X i (ppStop p) := { node := h.node, nodes := h.nodes, frm := h.frm, own := fun e => absurd rfl e, mine := fun e => absurd e (by simp [ppStop]), fl := fun f hf => (by cases hf), prep := fun e => absurd e (by simp [ppStop]), lead := fun e => absurd e (by simp [ppStop]) }
theorem PInv.new (X : Gh) (i : Int) : PInv X i (ppNew i X.n) := { node := rfl, nodes := rfl, frm := rfl, own := fun e => absurd rfl e, mine := fun e => absurd e (by simp [ppNew]), fl := fun f hf => (by cases hf), prep := fun e => absurd e (by simp [ppNew]), lead := fun e => absurd e (by simp [ppNew]) }
/-! ### A new ballot -/
def stG (X : Gh) (b : Int × Int) : Gh := { X with st := fun c => X.st c ∨ c = b }
theorem stG_ext (b : Int × Int) : Ext X (stG X b) none2 := ⟨rfl, fun _ _ _ _ h => h, fun i => leB_refl _, fun _ _ _ _ h => .inl h, fun _ _ _ h => h, fun _ _ _ h => .inl h, fun _ h => .inl h⟩
theorem stG_GI (hI : GI X) {b : Int × Int} (hb : 0 ≤ b.1 ∧ 0 ≤ b.2 ∧ b.2 < X.n) : GI (stG X b) where
  n := hI.n
  vt := hI.vt
  uniq := hI.uniq
  st := fun b s e h => .inl (hI.st b s e h)
  safe := fun b' s e h => (hI.safe b' s e h).ext (stG_ext b)
  pos := fun c h => h.elim (hI.pos c) (fun e => by rw [e]; exact hb)
theorem px_start (hI : GI X) (hv : isV X.n i) (hp : PInv X i p) (hi : PI p) {floor : Int × Int} (hown : ∀ b, X.st b → b.2 = i → leB b floor) (he : startE p floor 0 = 0) :
    GI (stG X (startP p floor 0).bal) ∧ PInv (stG X (startP p floor 0).bal) i (startP p floor 0) ∧ (∀ m ∈ startO p floor 0, MInv (stG X (startP p floor 0).bal) m) ∧ (startP p floor 0).bal.2 = i ∧ ltB floor (startP p floor 0).bal := by
  obtain ⟨_, _, hfl, h4⟩ := startE_0 he
  have hlf := next_more h4 (greater_ge floor p.seen).1
  obtain ⟨en, h5, h6, h7, h8⟩ := nextB_ok h4
  have e1 : startP p floor 0 = { ppStop p with phase := 1, bal := (nextB (greaterB floor p.seen) p.node).1, seen := (nextB (greaterB floor p.seen) p.node).1, frm := 0 } := by unfold startP; rw [if_pos he]
  have hb : (startP p floor 0).bal = (nextB (greaterB floor p.seen) p.node).1 := by rw [e1]
  have hb2 : (nextB (greaterB floor p.seen) p.node).1.2 = i := by rw [en]; exact hp.node
  have hpi := startP_I hi he
  rw [hb]
  have hP : PInv (stG X (nextB (greaterB floor p.seen) p.node).1) i (startP p floor 0) := by
    rw [e1]
    exact { node := hp.node, nodes := hp.nodes, frm := rfl, own := fun _ => ⟨.inr rfl, hb2⟩, mine := fun e => absurd e (by simp), fl := fun f hf => (by cases hf),
            prep := fun _ => ⟨fun s e h => absurd (ltB_le hlf (hown _ (hI.st _ _ _ h) hb2)) (leB_refl floor), ⟨fun j hj => absurd hj hasV_no, fun v hv => (by cases hv)⟩⟩
            lead := fun e => absurd e (by simp) }
  refine ⟨stG_GI hI (by rw [en]; unfold isV at hv; dsimp only; have := hp.node; omega), hP, fun m hm => ?_, hb2, hlf⟩
  unfold startO at hm
  rw [if_pos he] at hm
  exact prep_inv (X := stG X (nextB (greaterB floor p.seen) p.node).1) hI.n hv hP.toLInv hpi.bal m hm
/-! ### An entry more -/
def ppG (X : Gh) (b : Int × Int) (s : Int) (e : EntryD) : Gh := { X with pp := fun b' s' e' => X.pp b' s' e' ∨ (b' = b ∧ s' = s ∧ e' = e) }
theorem ppG_ext (b : Int × Int) (s : Int) (e : EntryD) : Ext X (ppG X b s e) (fun c => c.2 = b.2) := ⟨rfl, fun _ _ _ _ h => h, fun i => leB_refl _, fun _ _ _ _ h => .inl h, fun _ _ _ h => .inl h, fun _ _ _ h => h.imp id (fun h => by rw [h.1]), fun _ h => h⟩
theorem px_put (hI : GI X) (hv : isV X.n i) (hl : LInv X i p) (hph : p.phase = 2) {e : EntryD} (hs : Safe X p.bal p.next e) (hb : rBal p.bal) (he : rEntry e) (hn : rNum 2147483647 p.next) :
    GI (ppG X p.bal p.next e) ∧ LInv (ppG X p.bal p.next e) i (putP p p.next e) ∧ (∀ m ∈ putO p p.next e, MInv (ppG X p.bal p.next e) m) := by
  have hx := ppG_ext (X := X) p.bal p.next e
  have hown := hl.own (by omega)
  refine ⟨⟨hI.n, fun j b s e' h => ⟨.inl (hI.vt j b s e' h).1, (hI.vt j b s e' h).2⟩, fun b s e1 e2 h1 h2 => ?_, fun b s e' h => ?_, fun b s e' h => ?_, hI.pos⟩, ⟨hl.node, hl.nodes, hl.frm, hl.own, fun _ s e' h => ?_, fun f hf => ?_⟩, ?_⟩
  · rcases h1 with h1 | h1 <;> rcases h2 with h2 | h2
    · exact hI.uniq b s e1 e2 h1 h2
    · rw [h2.1, h2.2.1] at h1; have := hl.mine hph _ _ h1; omega
    · rw [h1.1, h1.2.1] at h2; have := hl.mine hph _ _ h2; omega
    · rw [h1.2.2, h2.2.2]
  · rcases h with h | h
    · exact hI.st b s e' h
    · rw [h.1]; exact hown.1
  · rcases h with h | ⟨rfl, rfl, rfl⟩
    · exact (hI.safe b s e' h).ext hx
    · exact hs.ext hx
  · show s < p.next + 1
    rcases h with h | h
    · have := hl.mine hph _ _ h; omega
    · have := h.2.1; omega
  · rcases List.mem_cons.1 hf with rfl | hf
    · exact ⟨hph, .inr ⟨rfl, rfl, rfl⟩, fun j hj => absurd hj hasV_no⟩
    · exact ⟨hph, .inl (hl.fl f hf).2.1, (hl.fl f hf).2.2⟩
  · exact acc_inv (X := ppG X p.bal p.next e) (f := ⟨p.next, e, no7⟩) hI.n hv hl.node hl.nodes hb he hn (.inr ⟨rfl, rfl, rfl⟩)
/-! ### Which leads -/
theorem safe_kept {told : List Bool} {kept : List VotedD} {b : Int × Int} (ht : Told X told kept b) (hen : enoughV told X.n) (slot : Int) : Safe X b slot (keptE kept slot) := by
  refine ⟨told, hen, fun j hj => (ht.1 j hj).1, ?_⟩
  cases hp : pickV slot kept with
  | none =>
    refine .inl fun j c e hj hv hc => ?_
    obtain ⟨v, hv1, hv2, _⟩ := (ht.1 j hj).2 c slot e hv hc
    exact pickV_none hp v hv1 hv2
  | some v =>
    obtain ⟨h1, h2, h3⟩ := pickV_some hp
    obtain ⟨hlt, j, hj, hvt⟩ := ht.2 v h1
    refine .inr ⟨j, v.bal, hj, hlt, ?_, fun j' c' e' hj' hv' hc' => ?_⟩
    · have : keptE kept slot = v.en := by unfold keptE; rw [hp]; rfl
      rw [this, ← h2]; exact hvt
    · obtain ⟨u, hu1, hu2, hu3⟩ := (ht.1 j' hj').2 c' slot e' hv' hc'
      exact leB_trans hu3 (h3 u hu1 hu2)
/-- What a step of a proposer leaves. -/
structure Step (X Y : Gh) (i : Int) (q : PP) (out : List MsgD) : Prop where
  ext : Ext X Y (fun b => b.2 = i)
  gi : GI Y
  inv : PInv Y i q
  msgs : ∀ m ∈ out, MInv Y m
  prom : Y.prom = X.prom
  vt : Y.vt = X.vt
  st : Y.st = X.st
theorem Step.same {q : PP} (hI : GI X) (h : PInv X i q) : Step X X i q [] := ⟨Ext.refl _ _, hI, h, fun m hm => (by cases hm), rfl, rfl, rfl⟩
theorem px_leadK (hI : GI X) (hv : isV X.n i) (hp : PInv X i p) (hi : PI p) (hph : p.phase = 1) (hen : enoughV p.told p.nodes) : ∀ k : Nat, (k : Int) ≤ 2147483648 → ∃ Y, Ext X Y (fun b => b.2 = i) ∧ GI Y ∧ LInv Y i (leadK p p.kept k).1 ∧ (∀ m ∈ (leadK p p.kept k).2, MInv Y m) ∧ Y.prom = X.prom ∧ Y.vt = X.vt ∧ Y.st = X.st := by
  intro k
  induction k with
  | zero =>
    intro _
    refine ⟨X, Ext.refl _ _, hI, ⟨hp.node, hp.nodes, hp.frm, fun _ => hp.own (by omega), fun _ s e h => absurd h ((hp.prep hph).1 s e), fun f hf => ?_⟩, fun m hm => (by cases hm), rfl, rfl, rfl⟩
    have hf' : f ∈ p.F := hf
    rw [hi.ph1 hph] at hf'; cases hf'
  | succ k ih =>
    intro hk
    obtain ⟨Y, y1, y2, y3, y4, y5, y6, y7⟩ := ih (by omega)
    have hf := leadK_F (hi.ph1 hph) p.kept k
    have hfr := hp.frm
    have ht := (hp.prep hph).2.ext y1
    have hsafe : Safe Y (leadK p p.kept k).1.bal (leadK p p.kept k).1.next (keptE p.kept (leadK p p.kept k).1.next) := by
      rw [hf.bal]
      exact safe_kept ht (by rw [y1.n, ← hp.nodes]; exact hen) _
    have hvY : isV Y.n i := by rw [y1.n]; exact hv
    obtain ⟨z1, z2, z3⟩ := px_put y2 hvY y3 hf.phase hsafe (by rw [hf.bal]; exact hi.bal) (keptE_ok hi.kin _).1 (by rw [hf.next, hfr]; unfold rNum; omega)
    have hb2 : (leadK p p.kept k).1.bal.2 = i := (y3.own (by rw [hf.phase]; decide)).2
    rw [hf.next] at z1 z2 z3
    have hE := ppG_ext (X := Y) (leadK p p.kept k).1.bal (p.frm + k) (keptE p.kept (p.frm + k))
    rw [hb2] at hE
    refine ⟨_, y1.trans hE, z1, z2, fun m hm => ?_, y5, y6, y7⟩
    rcases List.mem_append.1 hm with hm | hm
    · exact (y4 m hm).ext hE
    · exact z3 m hm
theorem px_lead (hI : GI X) (hv : isV X.n i) (hp : PInv X i p) (hi : PI p) (hph : p.phase = 1) (hen : enoughV p.told p.nodes) : ∃ Y, Step X Y i (leadP p).1 (leadP p).2 := by
  unfold leadP
  split
  · exact ⟨X, Step.same hI hp.stop⟩
  · rename_i hc
    have hmost := most_in (p := p) hi.frm (l := p.kept) (fun v hv => (hi.kin v hv).1)
    have hm0 : mostP p = mostK p p.kept := rfl
    have hfr := hp.frm
    obtain ⟨Y, y1, y2, y3, y4, y5, y6, y7⟩ := px_leadK hI hv hp hi hph hen (mostP p - p.frm + 1).toNat (by omega)
    have hf := leadK_F (hi.ph1 hph) p.kept (mostP p - p.frm + 1).toNat
    have ht := (hp.prep hph).2.ext y1
    refine ⟨Y, y1, y2, { y3 with prep := fun e => absurd e (by rw [hf.phase]; decide), lead := fun _ => ?_ }, y4, y5, y6, y7⟩
    refine ⟨p.told, by rw [y1.n, ← hp.nodes]; exact hen, fun j hj => ?_⟩
    rw [hf.bal]
    refine ⟨(ht.1 j hj).1, fun c s e hvt hs hc => ?_⟩
    obtain ⟨v, hv1, hv2, _⟩ := (ht.1 j hj).2 c s e hvt hc
    have := hmost.2.2 v hv1
    rw [hf.next] at hs
    omega
theorem px_tell (hI : GI X) (hp : PInv X i p) (hi : PI p) (hm : MInv X m) (hk : m.kind = 2) (ho : okProm p m) : PInv X i (tellP p m) := by
  have h2 := hm.k2 hk
  have hpr := hp.prep ho.1
  refine { node := hp.node, nodes := hp.nodes, frm := hp.frm, own := hp.own, mine := hp.mine, fl := hp.fl, prep := fun _ => ⟨hpr.1, ?_⟩, lead := fun e => absurd e (by have : (tellP p m).phase = p.phase := rfl; have := ho.1; omega) }
  have hkept : (tellP p m).kept = p.kept ++ m.voted := rfl
  have htold : (tellP p m).told = addV p.told X.n m.frm := by show addV p.told p.nodes m.frm = _; rw [hp.nodes]
  have hbal : (tellP p m).bal = p.bal := rfl
  rw [hkept, htold, hbal]
  refine ⟨fun j hj => ?_, fun v hv => ?_⟩
  · rcases hasV_add hj with hj | ⟨rfl, _⟩
    · have := hpr.2.1 j hj
      exact ⟨this.1, fun c s e h1 h2 => (this.2 c s e h1 h2).imp fun v hv => ⟨List.mem_append_left _ hv.1, hv.2⟩⟩
    · rw [← ho.2.1]
      exact ⟨h2.1, fun c s e h3 h4 => (h2.2.1 c s e h3 h4).imp fun v hv => ⟨List.mem_append_right _ hv.1, hv.2⟩⟩
  · have hmono : ∀ j, hasV p.told X.n j → hasV (addV p.told X.n m.frm) X.n j := fun j hj => by
      unfold addV
      split
      · refine ⟨hj.1, ?_⟩
        rw [List.getElem?_set]
        split
        · rw [if_pos (by
            have := (List.getElem?_eq_some_iff.1 hj.2).1
            rename_i e; rw [e]; exact this)]
        · exact hj.2
      · exact hj
    rcases List.mem_append.1 hv with hv | hv
    · obtain ⟨h3, j, hj, h4⟩ := hpr.2.2 v hv
      exact ⟨h3, j, hmono j hj, h4⟩
    · obtain ⟨h3, h4⟩ := h2.2.2 v hv
      rw [ho.2.1] at h4
      refine ⟨?_, m.frm, ⟨hm.frm, ?_⟩, h3⟩
      · rcases ltB_three v.bal p.bal with h | h | h
        · exact h
        · have := (hI.vt _ _ _ _ h3).1
          rw [h] at this
          exact absurd this (hpr.1 _ _)
        · exact absurd h h4
      · unfold addV
        rw [if_pos hm.frm, List.getElem?_set, if_pos rfl]
        rw [if_pos (by have h7 := hi.told; have h8 := hm.frm; have h9 := hI.n; unfold isV at h8; omega)]
theorem px_prom (hI : GI X) (hv : isV X.n i) (hp : PInv X i p) (hi : PI p) (hm : MInv X m) (hk : m.kind = 2) : ∃ Y, Step X Y i (promP p m).1 (promP p m).2 := by
  unfold promP
  split
  · rename_i ho
    have ht := px_tell hI hp hi hm hk ho
    split
    · rename_i hen
      exact px_lead hI hv ht (tellP_I hi ho hm.right) ho.1 hen
    · exact ⟨X, Step.same hI ht⟩
  · exact ⟨X, Step.same hI hp⟩
theorem px_acc (hI : GI X) (hp : PInv X i p) (hi : PI p) (hm : MInv X m) (hk : m.kind = 4) : PInv X i (accP p m).1 ∧ ∀ v ∈ (accP p m).2, Won X v.bal v.slot v.en := by
  unfold accP
  split
  · rename_i hc
    cases hf : flAt p.F m.slot with
    | none => exact ⟨hp, fun v hv => (by cases hv)⟩
    | some f =>
      dsimp only
      obtain ⟨h1, h2⟩ := flAt_mem hf
      obtain ⟨g1, g2, g3⟩ := hp.fl f h1
      have hvote : X.vt m.frm p.bal f.slot f.en := by
        obtain ⟨e, he⟩ := hm.k4 hk
        have hpe := (hI.vt _ _ _ _ he).1
        rw [hc.2, ← h2] at hpe he
        rw [hI.uniq _ _ _ _ g2 hpe]; exact he
      have hby : ∀ j, hasV (addV f.by_ p.nodes m.frm) X.n j → X.vt j p.bal f.slot f.en := fun j hj => by
        rw [hp.nodes] at hj
        rcases hasV_add hj with hj | ⟨rfl, _⟩
        · exact g3 j hj
        · exact hvote
      split
      · rename_i hen
        refine ⟨{ node := hp.node, nodes := hp.nodes, frm := hp.frm, own := hp.own, mine := hp.mine, fl := fun g hg => hp.fl g (List.mem_filter.1 hg).1, prep := hp.prep, lead := hp.lead }, fun v hv => ?_⟩
        rw [List.mem_singleton] at hv
        subst hv
        refine ⟨addV f.by_ p.nodes m.frm, by rw [← hp.nodes]; exact hen, fun j hj => ?_⟩
        rw [← h2]; exact hby j hj
      · refine ⟨{ node := hp.node, nodes := hp.nodes, frm := hp.frm, own := hp.own, mine := hp.mine, fl := fun g hg => ?_, prep := hp.prep, lead := hp.lead }, fun v hv => (by cases hv)⟩
        obtain ⟨g0, hg0, e1, e2, e3⟩ := flVote_mem hg
        have := hp.fl g0 hg0
        rw [e1, e2]
        refine ⟨this.1, this.2.1, fun j hj => ?_⟩
        rcases e3 with e3 | ⟨e4, e5⟩
        · rw [e3] at hj; exact this.2.2 j hj
        · have : g0 = f := by
            have hu := List.pairwise_iff_getElem.1 hi.inc
            obtain ⟨a, ha⟩ := List.getElem?_of_mem hg0
            obtain ⟨b, hb⟩ := List.getElem?_of_mem h1
            obtain ⟨a1, a2⟩ := List.getElem?_eq_some_iff.1 ha
            obtain ⟨b1, b2⟩ := List.getElem?_eq_some_iff.1 hb
            rcases Nat.lt_trichotomy a b with h | h | h
            · have := hu a b a1 b1 h; rw [a2, b2] at this; omega
            · subst h; rw [← a2, ← b2]
            · have := hu b a b1 a1 h; rw [a2, b2] at this; omega
          rw [e5, this] at hj
          rw [this]; exact hby j hj
  · exact ⟨hp, fun v hv => (by cases hv)⟩
theorem px_nack (hp : PInv X i p) : PInv X i (nackP p m) := by
  unfold nackP
  split
  · have k := hp.stop
    exact { node := k.node, nodes := k.nodes, frm := k.frm, own := k.own, mine := k.mine, fl := k.fl, prep := k.prep, lead := k.lead }
  · exact hp
theorem px_on (hI : GI X) (hv : isV X.n i) (hp : PInv X i p) (hi : PI p) (hm : MInv X m) : ∃ Y, Step X Y i (onP p m).1 (onP p m).2.1 ∧ ∀ v ∈ (onP p m).2.2, Won Y v.bal v.slot v.en := by
  unfold onP
  split
  · exact ⟨X, Step.same hI hp, fun v hv => (by cases hv)⟩
  · split
    · rename_i h2
      obtain ⟨Y, hY⟩ := px_prom hI hv hp hi hm h2
      exact ⟨Y, hY, fun v hv => (by cases hv)⟩
    · split
      · rename_i h4
        have := px_acc hI hp hi hm h4
        exact ⟨X, Step.same hI this.1, this.2⟩
      · split
        · exact ⟨X, Step.same hI (px_nack hp), fun v hv => (by cases hv)⟩
        · exact ⟨X, Step.same hI hp, fun v hv => (by cases hv)⟩
theorem px_propo (hI : GI X) (hv : isV X.n i) (hp : PInv X i p) (hi : PI p) (e : EntryD) : ∃ Y, Step X Y i (propP p e) (propO p e) := by
  unfold propP propO
  split
  · rename_i he
    have hall : rEntry e ∧ p.phase = 2 ∧ p.next ≤ 2147483647 := by
      unfold propE at he
      split at he
      · cases he
      · rename_i h1
        split at he
        · cases he
        · rename_i h2
          split at he
          · cases he
          · rename_i h3; exact ⟨Classical.not_not.1 h1, by omega, by omega⟩
    obtain ⟨h1, h2, h3⟩ := hall
    obtain ⟨bs, hq, hb⟩ := hp.lead h2
    have hs : Safe X p.bal p.next e := ⟨bs, hq, fun j hj => (hb j hj).1, .inl fun j c e' hj hvt hc => (hb j hj).2 c _ e' hvt (Int.le_refl _) hc⟩
    obtain ⟨z1, z2, z3⟩ := px_put hI hv hp.toLInv h2 hs hi.bal h1 (by have := hi.next; unfold rNum; omega)
    have hb2 : p.bal.2 = i := (hp.own (by omega)).2
    have hE := ppG_ext (X := X) p.bal p.next e
    have hab : Above (ppG X p.bal p.next e) p.bal (p.next + 1) := ⟨bs, hq, fun j hj => ⟨(hb j hj).1, fun c s e' hvt hs hc => (hb j hj).2 c s e' hvt (by omega) hc⟩⟩
    rw [hb2] at hE
    exact ⟨_, hE, z1, { z2 with prep := fun k => absurd k (by show p.phase ≠ 1; omega), lead := fun _ => hab }, z3, rfl, rfl, rfl⟩
  · exact ⟨X, Step.same hI hp⟩
theorem px_again (hI : GI X) (hv : isV X.n i) (hp : PInv X i p) (hi : PI p) : ∀ m ∈ againO p, MInv X m := by
  unfold againO
  split
  · exact prep_inv hI.n hv hp.toLInv hi.bal
  · intro m hm
    obtain ⟨l, hl, hml⟩ := List.mem_flatten.1 hm
    obtain ⟨f, hf, rfl⟩ := List.mem_map.1 hl
    have hf' := List.mem_reverse.1 hf
    have := hi.rng f hf'
    have := hi.next
    exact acc_inv hI.n hv hp.node hp.nodes hi.bal (hi.fen f hf').1 (by unfold rNum; omega) (hp.fl f hf').2.1 m hml
end
end Go.SL
set_option linter.unusedVariables false
set_option linter.unusedSimpArgs false
namespace Go.SL
open Go
theorem wMsg_lenC (m : MsgD) (hv : m.voted = []) (hs : m.seen = []) (he : m.events = []) : (wMsg m ([], false)).1.length ≤ cSeal m.en.order + 200 := by
  obtain ⟨k, f, t, b, s, e, v, sn, ev, ti⟩ := m
  dsimp only at hv hs he
  subst hv; subst hs; subst he
  have h1 := wNum_len 255 k ([], false) (by decide)
  have h2 := wNum_len 6 f (wNum 255 k ([], false)) (by decide)
  have h3 := wNum_len 6 t (wNum 6 f (wNum 255 k ([], false))) (by decide)
  have h4 := wBal_len b (wNum 6 t (wNum 6 f (wNum 255 k ([], false))))
  have h5 := wNum_len 2147483647 s (wBal b (wNum 6 t (wNum 6 f (wNum 255 k ([], false))))) (by decide)
  have h6 := wEntry_len e (wNum 2147483647 s (wBal b (wNum 6 t (wNum 6 f (wNum 255 k ([], false))))))
  have h7 := wNum_len 4096 0 (wEntry e (wNum 2147483647 s (wBal b (wNum 6 t (wNum 6 f (wNum 255 k ([], false))))))) (by decide)
  have h8 := wVec_len [] (wNum 4096 0 (wEntry e (wNum 2147483647 s (wBal b (wNum 6 t (wNum 6 f (wNum 255 k ([], false))))))))
  have h9 := wNum_len 4096 0 (wVec [] (wNum 4096 0 (wEntry e (wNum 2147483647 s (wBal b (wNum 6 t (wNum 6 f (wNum 255 k ([], false))))))))) (by decide)
  have h10 := wNum_len 4611686018427387904 ti (wNum 4096 0 (wVec [] (wNum 4096 0 (wEntry e (wNum 2147483647 s (wBal b (wNum 6 t (wNum 6 f (wNum 255 k ([], false)))))))))) (by decide)
  have e1 : wMsg ⟨k, f, t, b, s, e, [], [], [], ti⟩ ([], false) = wNum 4611686018427387904 ti (wNum 4096 0 (wVec [] (wNum 4096 0 (wEntry e (wNum 2147483647 s (wBal b (wNum 6 t (wNum 6 f (wNum 255 k ([], false)))))))))) := rfl
  rw [e1]
  simp only [List.length_nil] at *
  have : 60 ≤ cSeal e.order := by unfold cSeal; omega
  omega
/-- A message without lists that is right has bytes. -/
theorem outE_small {m : MsgD} (hr : rMsg m) (hv : m.voted = []) (hs : m.seen = []) (he : m.events = []) : outE (wMsg m ([], false)) = 0 := by
  have h1 : (wMsg m ([], false)).2 = false := wMsg_bad.2 ⟨rfl, hr⟩
  have h2 := wMsg_lenC m hv hs he
  have h3 := rEntry_size hr.2.2.2.2.2.1
  unfold outE
  rw [if_neg (by rw [h1]; simp), if_neg (by omega)]
abbrev kp1 : PP := ⟨0, 3, 1, (10, 0), (10, 0), 0, 0, no7, [], []⟩
abbrev kpA (votes : List VotedD) : MsgD := ⟨2, 1, 0, (10, 0), 0, noopE, votes, [], [], 0⟩
abbrev kpB (more : List VotedD) : MsgD := ⟨2, 2, 0, (10, 0), 0, noopE, more, [], [], 0⟩
def kp3 (votes more : List VotedD) : PP := (onP (onP kp1 (kpA votes)).1 (kpB more)).1
/-! ### Of one node -/
abbrev al1 (slot : Int) : PP := ⟨0, 1, 1, (1, 0), (1, 0), slot, 0, no7, [], []⟩
abbrev al2 (slot next : Int) : PP := ⟨0, 1, 2, (1, 0), (1, 0), slot, next, [true, false, false, false, false, false, false], [], []⟩
abbrev alM (kind slot : Int) : MsgD := ⟨kind, 0, 0, (1, 0), slot, noopE, [], [], [], 0⟩
end Go.SL
set_option linter.unusedVariables false
set_option linter.unusedSimpArgs false
namespace Go.SL
open Go
structure GrD where
  n : Int
  P : List PP
  A : List AccD
  bag : List MsgD
  ch : List VotedD
structure GrI (X : Gh) (g : GrD) (pend : Int × Int → Prop) : Prop where
  gi : GI X
  n : g.n = X.n
  lp : (g.P.length : Int) = X.n
  la : (g.A.length : Int) = X.n
  p : ∀ (k : Nat) p, g.P[k]? = some p → PInv X k p
  a : ∀ (k : Nat) a, g.A[k]? = some a → AInv X k a
  m : ∀ m ∈ g.bag, MInv X m
  c : ∀ v ∈ g.ch, ∃ b, Won X b v.slot v.en
  own : ∀ b, X.st b → leB b (X.prom b.2) ∨ pend b
section
variable {X Y : Gh} {g : GrD} {pend : Int × Int → Prop}
theorem GrI.clear (h : GrI X g pend) (k : ∀ b, pend b → leB b (X.prom b.2)) : GrI X g none2 := ⟨h.gi, h.n, h.lp, h.la, h.p, h.a, h.m, h.c, fun b hb => .inl ((h.own b hb).elim id (k b))⟩
theorem GrI.bag (h : GrI X g pend) {bag : List MsgD} (k : ∀ m ∈ bag, MInv X m) : GrI X { g with bag := bag } pend := ⟨h.gi, h.n, h.lp, h.la, h.p, h.a, k, h.c, h.own⟩
/-- A proposer's step. -/
theorem GrI.step (h : GrI X g pend) {k : Nat} {p q : PP} {out : List MsgD} {ch : List VotedD} (hk : g.P[k]? = some p) (hY : Step X Y k q out) (hc : ∀ v ∈ ch, ∃ b, Won Y b v.slot v.en) : GrI Y { g with P := g.P.set k q, bag := g.bag ++ out, ch := g.ch ++ ch } pend where
  gi := hY.gi
  n := h.n.trans hY.ext.n.symm
  lp := by show ((g.P.set k q).length : Int) = Y.n; rw [List.length_set, hY.ext.n]; exact h.lp
  la := h.la.trans hY.ext.n.symm
  p := fun j x hj => by
    rw [List.getElem?_set] at hj
    split at hj
    · rename_i e
      rw [if_pos (List.getElem?_eq_some_iff.1 hk).1] at hj
      cases hj; subst e; exact hY.inv
    · rename_i e
      exact (h.p j x hj).ext hY.ext (fun b hb he => e (by omega))
  a := fun j x hj => (h.a j x hj).ext (by rw [hY.prom]) (fun b s e => by rw [hY.vt])
  m := fun m hm => by
    rcases List.mem_append.1 hm with hm | hm
    · exact (h.m m hm).ext hY.ext
    · exact hY.msgs m hm
  c := fun v hv => by
    rcases List.mem_append.1 hv with hv | hv
    · obtain ⟨b, hb⟩ := h.c v hv; exact ⟨b, hb.ext hY.ext⟩
    · exact hc v hv
  own := fun b hb => by rw [hY.st] at hb; rw [hY.prom]; exact h.own b hb
/-- An acceptor's step. -/
theorem GrI.acc (h : GrI X g pend) {k : Nat} {a : AccD} {m : MsgD} (hk : g.A[k]? = some a) (hm : MInv X m) (hx : MsgOk m) (hv : isV X.n k) (hmi : mineA a m) : GrI (accG X k a m) { g with A := g.A.set k (stA a m), bag := g.bag ++ [repA a m] } pend where
  gi := accG_GI h.gi (h.a k a hk) hm
  n := h.n
  lp := h.lp
  la := by show ((g.A.set k (stA a m)).length : Int) = X.n; rw [List.length_set]; exact h.la
  p := fun j x hj => (h.p j x hj).ext (accG_ext (h.a k a hk)) (fun b hb => hb.elim)
  a := fun j x hj => by
    rw [List.getElem?_set] at hj
    split at hj
    · rename_i e
      rw [if_pos (List.getElem?_eq_some_iff.1 hk).1] at hj
      cases hj; subst e; exact accG_AInv h.gi (h.a k a hk) hx
    · rename_i e
      have := accG_other (X := X) (i := (k : Int)) (a := a) (m := m) (j := (j : Int)) (by omega)
      exact (h.a j x hj).ext this.1 this.2
  m := fun q hq => by
    rcases List.mem_append.1 hq with hq | hq
    · exact (h.m q hq).ext (accG_ext (h.a k a hk))
    · rw [List.mem_singleton] at hq; subst hq
      exact accG_rep h.gi hv (h.a k a hk) hm hmi
  c := fun v hv => by obtain ⟨b, hb⟩ := h.c v hv; exact ⟨b, hb.ext (accG_ext (h.a k a hk))⟩
  own := fun b hb => by
    rcases h.own b hb with h1 | h1
    · exact .inl (leB_trans h1 ((accG_ext (m := m) (h.a k a hk)).prom b.2))
    · exact .inr h1
theorem GrI.one (h : GrI X g pend) {v u : VotedD} (hv : ∃ b, Won X b v.slot v.en) (hu : u ∈ g.ch) (hs : u.slot = v.slot) : u.en = v.en := by
  obtain ⟨b1, h1⟩ := hv
  obtain ⟨b2, h2⟩ := h.c u hu
  rw [hs] at h2
  exact won_one h.gi h2 h1
/-- A new ballot is begun. -/
theorem GrI.start (h : GrI X g none2) {k : Nat} {p : PP} {a : AccD} (hk : g.P[k]? = some p) (ha : g.A[k]? = some a) (hi : PI p) (hv : isV X.n k) (he : startE p a.prom 0 = 0) :
    GrI (stG X (startP p a.prom 0).bal) { g with P := g.P.set k (startP p a.prom 0), bag := g.bag ++ startO p a.prom 0 } (fun b => b = (startP p a.prom 0).bal) ∧ (startP p a.prom 0).bal.2 = k ∧ ltB a.prom (startP p a.prom 0).bal := by
  have hown : ∀ b, X.st b → b.2 = (k : Int) → leB b a.prom := fun b hb e => by
    have := (h.own b hb).elim id (fun x => x.elim)
    rw [e, (h.a k a ha).prom] at this
    exact this
  obtain ⟨y1, y2, y3, y4, y5⟩ := px_start h.gi hv (h.p k p hk) hi hown he
  have hE := stG_ext (X := X) (startP p a.prom 0).bal
  refine ⟨⟨y1, h.n, ?_, h.la, fun j x hj => ?_, fun j x hj => (h.a j x hj).ext rfl (fun b s e => Iff.rfl), fun m hm => ?_, fun v hv => ?_, fun b hb => ?_⟩, y4, y5⟩
  · show ((g.P.set k _).length : Int) = X.n; rw [List.length_set]; exact h.lp
  · rw [List.getElem?_set] at hj
    split at hj
    · rename_i e
      rw [if_pos (List.getElem?_eq_some_iff.1 hk).1] at hj
      cases hj; subst e; exact y2
    · exact (h.p j x hj).ext hE (fun b hb => hb.elim)
  · rcases List.mem_append.1 hm with hm | hm
    · exact (h.m m hm).ext hE
    · exact y3 m hm
  · obtain ⟨b, hb⟩ := h.c v hv; exact ⟨b, hb.ext hE⟩
  · rcases hb with hb | hb
    · exact .inl ((h.own b hb).elim id (fun x => x.elim))
    · exact .inr hb
/-- A node forgets what it proposed. -/
theorem GrI.crash (h : GrI X g pend) (k : Nat) : GrI X { g with P := g.P.set k (ppNew k g.n) } pend where
  gi := h.gi
  n := h.n
  lp := by show ((g.P.set k _).length : Int) = X.n; rw [List.length_set]; exact h.lp
  la := h.la
  p := fun j x hj => by
    rw [List.getElem?_set] at hj
    split at hj
    · rename_i e
      split at hj
      · cases hj; subst e; rw [h.n]; exact PInv.new X k
      · cases hj
    · exact h.p j x hj
  a := h.a
  m := h.m
  c := h.c
  own := h.own
end
/-! ### A message comes -/
noncomputable def comesA (g : GrD) (k : Nat) (a : AccD) (m : MsgD) : GrD := { g with A := g.A.set k (stA a m), bag := g.bag ++ [repA a m] }
def comesP (g : GrD) (k : Nat) (p : PP) (m : MsgD) : GrD := { g with P := g.P.set k (onP p m).1, bag := g.bag ++ (onP p m).2.1, ch := g.ch ++ (onP p m).2.2 }
noncomputable def comesG (g : GrD) (k : Nat) (p : PP) (a : AccD) (m : MsgD) : GrD := if mineA a m then comesA g k a m else comesP g k p m
theorem comes_inv {X : Gh} {g : GrD} {pend : Int × Int → Prop} (h : GrI X g pend) {k : Nat} {p : PP} {a : AccD} {m : MsgD} (hp : g.P[k]? = some p) (ha : g.A[k]? = some a) (hi : PI p) (hm : MInv X m) (hx : MsgOk m) (hv : isV X.n k) :
    ∃ Y, GrI Y (comesG g k p a m) pend ∧ (∀ v ∈ (onP p m).2.2, ¬ mineA a m → ∀ u ∈ g.ch, u.slot = v.slot → u.en = v.en) ∧ (mineA a m → ¬ nackA a m → Y.prom k = m.bal) := by
  unfold comesG
  by_cases hmi : mineA a m
  · rw [if_pos hmi]
    refine ⟨accG X k a m, h.acc ha hm hx hv hmi, fun v _ hn => absurd hmi hn, fun _ hn => ?_⟩
    show (if (k : Int) = k then (stA a m).prom else X.prom k) = m.bal
    rw [if_pos rfl]; exact ((stA_prom a m).2 ⟨hmi, hn⟩).1
  · rw [if_neg hmi]
    obtain ⟨Y, hY, hw⟩ := px_on h.gi hv (h.p k p hp) hi hm
    have hG := h.step (ch := (onP p m).2.2) hp hY (fun v hv => ⟨v.bal, hw v hv⟩)
    refine ⟨Y, hG, fun v hv _ u hu hs => ?_, fun hc => absurd hc hmi⟩
    exact hG.one ⟨v.bal, hw v hv⟩ (List.mem_append_left _ hu) hs
theorem cMsg_right {m : MsgD} (h : rMsg m) (hs : m.seen = []) (he : m.events = []) : cMsg m ≤ 3000000 := by
  have h1 := rEntry_size h.2.2.2.2.2.1
  have h2 : ∀ l : List VotedD, (∀ v ∈ l, rVoted v) → cVoteds l ≤ 350 * l.length := fun l => by
    induction l with
    | nil => intro _; exact Nat.le_refl _
    | cons x r ih =>
      intro hr
      have := ih (fun v hv => hr v (List.mem_cons_of_mem _ hv))
      have := rEntry_size (hr x List.mem_cons_self).2.2
      unfold cVoteds at *
      simp only [List.map_cons, List.sum_cons, List.length_cons, cVoted]
      omega
  have h3 := h2 m.voted h.2.2.2.2.2.2.1.2
  have h4 := h.2.2.2.2.2.2.1.1
  unfold cMsg
  rw [hs, he]
  simp only [List.length_nil, cEvents, List.map_nil, List.sum_nil]
  omega
theorem rMsg_ok {m : MsgD} (h : rMsg m) : MsgOk m := by
  obtain ⟨h1, h2, h3, h4, h5, h6, h7, h8, h9, h10⟩ := h
  unfold rNum at h1 h2 h3 h5 h10
  exact ⟨i64In_mk (by omega), i64In_mk (by omega), i64In_mk (by omega), (rBal_in h4).1, (rBal_in h4).2, i64In_mk (by omega), rEntry_ok h6, i64In_mk (by omega)⟩
/-- A node hears of its own new ballot. -/
theorem own_mine {X : Gh} {a : AccD} {k : Nat} {m : MsgD} (hm : MInv X m) (ha : AInv X k a) (hk : m.kind = 1) (ht : m.to_ = k) (hv : m.voted = []) (hb : ltB a.prom m.bal) : mineA a m ∧ ¬ nackA a m := by
  refine ⟨⟨outE_small hm.right hv hm.seen hm.events, by rw [ht, ha.node], .inl hk⟩, ?_⟩
  rintro (h | ⟨h, _⟩)
  · exact absurd (ltB_le hb (ltB_leB (cmp_ltB.1 h))) (leB_refl _)
  · omega
theorem new_inv {n : Int} (hn : 1 ≤ n ∧ n ≤ 7) : GI ⟨n, fun _ _ _ _ => False, fun _ _ _ => False, fun _ => False, fun _ => (0, 0)⟩ := ⟨hn, fun _ _ _ _ h => h.elim, fun _ _ _ _ h => h.elim, fun _ _ _ h => h.elim, fun _ _ _ h => h.elim, fun _ h => h.elim⟩
def GrNew (n : Nat) : GrD := ⟨n, (List.range n).map fun i : Nat => ppNew i n, (List.range n).map fun i : Nat => acNew i, [], []⟩
theorem start_inv {n : Nat} (hn : 1 ≤ n ∧ n ≤ 7) : GrI ⟨n, fun _ _ _ _ => False, fun _ _ _ => False, fun _ => False, fun _ => (0, 0)⟩ (GrNew n) none2 where
  gi := new_inv (by omega)
  n := rfl
  lp := by simp [GrNew]
  la := by simp [GrNew]
  p := fun k p hk => by
    simp only [GrNew, List.getElem?_map] at hk
    cases hr : (List.range n)[k]? with
    | none => rw [hr] at hk; cases hk
    | some j =>
      rw [hr] at hk
      obtain ⟨h1, h2⟩ := List.getElem?_eq_some_iff.1 hr
      rw [List.getElem_range] at h2
      subst h2
      cases hk
      exact PInv.new _ _
  a := fun k a hk => by
    simp only [GrNew, List.getElem?_map] at hk
    cases hr : (List.range n)[k]? with
    | none => rw [hr] at hk; cases hk
    | some j =>
      rw [hr] at hk
      obtain ⟨h1, h2⟩ := List.getElem?_eq_some_iff.1 hr
      rw [List.getElem_range] at h2
      subst h2
      rw [List.length_range] at h1
      cases hk
      exact ⟨rfl, acNew_I (by omega), rfl, fun v hv => (by cases hv), fun _ _ _ h => h.elim⟩
  m := fun m hm => (by cases hm)
  c := fun v hv => (by cases hv)
  own := fun b h => h.elim
end Go.SL
