/- What the laws of this claim need, together: the logic, data in memory, the walks of functions. -/
import Derived.Test.YtajdgepnmbonaaaCmB
set_option linter.unusedVariables false
set_option linter.unusedSimpArgs false
set_option linter.unusedVariables false
set_option linter.unusedSimpArgs false
namespace Go.SL
open Go Go.Proofs
theorem keysQ1_spec {β : Type} {R : Rep β} {ag : Bool} {b bx : Nat} {m : List (ByteArray × β)} {τ : Type} {l : Nat} {C : τ → HP} {step : τ → ByteArray → τ → Prop} {stop : τ → Bool} {cnt : τ → Nat} {s0 : τ} {Lx : List HP} (h0 : stop s0 = false) (hc0 : cnt s0 = 0) (hcnt : ∀ s x s', step s x s' → cnt s' = cnt s + 1) (hy : YieldsC Try.prog l C (fun k : ByteArray => [.string k]) (fun k => k.size ≤ maxEl) step stop cnt m.length) :
    Fn Try.prog 71 #[.func (.yield l) #[] #[], .pointer (some ⟨bx, 0, none⟩)] (con l (C s0) :: cells bx [.map (some b)] 68 :: omap strK R ag b m :: Lx)
      (fun v L' => ∃ xs s', (stop s' = false → xs.Perm (m.map (·.1))) ∧ Runs step stop s0 xs s' ∧ L' = con l (C s') :: cells bx [.map (some b)] 68 :: omap strK R ag b m :: Lx) := by
  refine Fn_enter Try.func71 rfl rfl rfl rfl ?_
  refine T_region ?_
  refine TL_y rfl rfl (Y_load rfl rfl) ?_
  refine TL_range rfl rfl ?_
  intro it
  refine TL_nil ?_
  refine T_block ?_
  refine T_loopK (σ := List (ByteArray × β) × τ) [0, 5] (fun g => Runs step stop s0 (g.1.map (·.1)) g.2 ∧ stop g.2 = false ∧ cnt g.2 = g.1.length) (fun g kv => kv) (fun g => con l (C g.2) :: mrange strK R ag b it m g.1 :: cells bx [.map (some b)] 68 :: Lx) (fun g => m.length - g.1.length) (([], s0)) rfl (⟨.nil _, h0, hc0⟩) (GivesTo.g) (sub_cons rfl (sub_cons rfl (sub_nil))) ?_
  rintro ⟨done, s⟩ ⟨hr, hs, hc⟩
  dsimp only at hr hs hc ⊢
  refine T_region ?_
  refine TL_next rfl rfl (fun hp => ?_) (fun q1 cs1 hq hd1 hlt => ?_)
  · refine TL_y rfl rfl (Y_extract rfl rfl) ?_
    refine TL_name 7 (v' := .bool false) rfl (rfl) ?_
    refine TL_nil ?_
    refine T_seq ?_
    refine T_cond_false rfl ?_
    refine T_exit ?_
    refine thenS_exit ?_
    refine thenS_exit ?_
    refine inB_hit ?_
    refine RetQ.gives (endr it) ?_
    exact RetG_0 (.inr rfl) rfl GivesTo.g (⟨_, s, fun _ => hp.map _, hr, rfl⟩)
  · refine TL_y rfl rfl (Y_extract rfl rfl) ?_
    refine TL_name 7 (v' := .bool true) rfl (rfl) ?_
    refine TL_nil ?_
    refine T_seq ?_
    refine T_cond_true rfl ?_
    refine T_skip ?_
    refine thenS_normal ?_
    refine T_block ?_
    refine T_region ?_
    refine TL_entry rfl rfl ?_
    intro cs8 ok8
    refine TL_y rfl rfl (Y_extract rfl rfl) ?_
    refine TL_y rfl rfl (Y_assign rfl) ?_
    refine TL_nil ?_
    refine T_region ?_
    refine TL_y rfl rfl (Y_move rfl) ?_
    refine TL_y rfl rfl (Y_move rfl) ?_
    refine TL_pullk l ?_
    refine TL_yield rfl rfl rfl (hy s q1.1 _ hs ok8 (by omega)) ?_
    rintro _ _ ⟨s2, hst, rfl, rfl⟩
    refine TL_y rfl rfl (Y_not rfl) ?_
    refine TL_nil ?_
    refine T_cond rfl (fun h13 => ?_) (fun h13 => ?_)
    · have hs2 : stop s2 = true := by simpa using h13
      refine T_ret ?_
      refine inB_ret ?_
      refine thenS_ret ?_
      refine inB_ret ?_
      refine RetQ.gives (endr it) ?_
      exact RetG_0 (.inl rfl) rfl GivesTo.g (⟨_, s2, fun h => (by rw [hs2] at h; cases h), hr.snoc h0 hs hst, rfl⟩)
    · have hs2 : stop s2 = false := by simpa using h13
      refine T_skip ?_
      refine inB_normal ?_
      refine thenS_normal ?_
      exact ⟨(done ++ [q1], s2), ⟨by rw [List.map_append]; exact hr.snoc h0 hs hst, hs2, by rw [hcnt _ _ _ hst, hc]; simp⟩, by simp only [List.length_append, List.length_cons, List.length_nil]; omega, holds_to (sub_cons rfl (sub_cons rfl (sub_nil))) GivesTo.g⟩
theorem keysQ_iter {β : Type} {R : Rep β} {ag : Bool} {b bx : Nat} {m : List (ByteArray × β)} : IterC Try.prog (.func (.func 71) #[] #[.pointer (some ⟨bx, 0, none⟩)]) (fun k : ByteArray => [.string k]) (fun k => k.size ≤ maxEl) m.length [cells bx [.map (some b)] 68, omap strK R ag b m] (fun s ks => s = false → ks.Perm (m.map (·.1))) :=
  ⟨_, [], [.pointer (some ⟨bx, 0, none⟩)], rfl, inferInstance, fun τ l C step stop cnt s0 Lx h0 hc hcnt hy => (keysQ1_spec h0 hc hcnt hy).cases_ fun v L' ⟨xs, s', a1, a2, a3⟩ => ⟨xs, s', a1, a2, a3⟩⟩
theorem keysQ_spec {L : List HP} {b : Nat} : Fn Try.prog 40 #[.map (some b)] L (fun v L' => ∃ bx, v = .func (.func 71) #[] #[.pointer (some ⟨bx, 0, none⟩)] ∧ L' = cells bx [.map (some b)] 68 :: L) := by
  refine Fn_enter Try.func40 rfl rfl rfl rfl ?_
  refine T_region ?_
  refine TL_box rfl rfl rfl ?_
  intro b1
  refine TL_y rfl rfl (Y_assign rfl) ?_
  refine TL_nil ?_
  refine T_region ?_
  refine TL_y rfl rfl (Y_make_func rfl rfl) ?_
  refine TL_y rfl rfl (Y_assign rfl) ?_
  refine TL_nil ?_
  refine T_ret ?_
  exact RetG_1 (.inl rfl) rfl (ResV.tmp rfl) GivesTo.g (⟨b1, rfl, rfl⟩)
end Go.SL
set_option linter.unusedVariables false
set_option linter.unusedSimpArgs false
namespace Go.SL
open Go Go.Proofs
open Go.WideMaps (KeyLaw)
def dotK : KeyT DotD := ⟨fun k => .agg #[.int .i64 k.1, .int .i64 k.2], fun k => intIn .i64 k.1 ∧ intIn .i64 k.2, fun a b h => by
  have h1 := (Value.agg.injEq _ _).mp h
  simp at h1
  exact Prod.ext h1.1 h1.2⟩
theorem dot_row : (26 : TypeId) < Try.prog.types.size := of_decide_eq_true (by kernel_rfl)
theorem dot_wide : (match Try.prog.underlying 26 with | some (.array _ _) | some (.struct _) => true | _ => false) = true := by rw [Try.underlying26]
set_option maxRecDepth 100000 in
theorem dot_law : KeyLaw Try.prog 26 := deep_law_laid ct_laid (m := 2) (by omega) dot_row (by kernel_rfl) dot_wide
theorem dot_cells : Try.prog.cellsOf 26 = 2 := by kernel_rfl
theorem int_cells : Try.prog.cellsOf 3 = 1 := by kernel_rfl
theorem dot_key : Try.prog.keyType 26 = true := by kernel_rfl
set_option maxRecDepth 100000 in
theorem dot_of (k : DotD) (h : dotK.ok k) : ∃ l, keyOf Try.prog 26 (dotK.enc k) = some l := by
  obtain ⟨q, hq⟩ := ct_types
  have h1 := wf_of_in h.1
  have h2 := wf_of_in h.2
  have hf : (dotK.enc k).formed Try.prog 26 = true := by simp [dotK, Value.formed, Try.underlying26, dot_cells]
  refine ⟨.string (keyBytes [.int .i64 k.1, .int .i64 k.2]), ?_⟩
  unfold keyOf
  rw [Try.underlying26]
  simp only [dot_key, hf, Bool.and_self, if_true]
  rw [hq]
  simp [dotK, Program.keyLits, Try.underlying26, Try.underlying3, dot_cells, int_cells, Value.cells, h1, h2]
instance : KeyOk Try.prog 26 dotK := ⟨Maps.Keyed.of_law dot_law, dot_of⟩
abbrev onF (bs bm : Nat) (seen : List DotD) (m : List (DotD × Bool)) : List HP := [cells bs [.map (some bm)] 96, omap dotK boolR false bm m, pure (∀ d, (getM m d).getD false = decide (d ∈ seen))]
def wOnce (bs bm : Nat) (seen : List DotD) : HP := exH (onF bs bm seen)
section
variable {r : Option Nat} {n : Nat} {P : Program} {ops : Array Oper} {rest : List Oper} {K : St → Prop} {Q : Exit → St → Prop} {D : List Deferred} {E : Env} {L : List HP} {bs bm : Nat} {seen : List DotD}
theorem T_wOnce {c : Code} (h : ∀ m : List (DotD × Bool), (∀ d, (getM m d).getD false = decide (d ∈ seen)) → T r n P c ⟨D, E, cells bs [.map (some bm)] 96 :: omap dotK boolR false bm m :: L⟩ Q) : T r n P c ⟨D, E, wOnce bs bm seen :: L⟩ Q := T_exH (f := onF bs bm seen) fun m => T_pull 2 rfl (T_fact (Knows.head' (φ := fun _ => ∀ d, (getM m d).getD false = decide (d ∈ seen)) fun _ _ h => h) (fun _ h => h) fun hm => T_gives (Gives.drop _ _) (h m hm))
theorem wOnce_close {m : List (DotD × Bool)} (h : ∀ d, (getM m d).getD false = decide (d ∈ seen)) : Gives (cells bs [.map (some bm)] 96 :: omap dotK boolR false bm m :: L) (wOnce bs bm seen :: L) :=
  Gives.trans (Gives.cons _ (Gives.cons _ (Gives.pure_intro h))) (exH_close (f := onF bs bm seen) m)
end
theorem once1_spec {L : List HP} {bs bm : Nat} {seen : List DotD} (e : EventD) (q : Option Addr × Nat) (ho : eventOk e) : Fn Try.prog 68 #[evV e q, .pointer (some ⟨bs, 0, none⟩)] (wOnce bs bm seen :: L) (fun v L' => v = .bool (!decide (e.dot ∈ seen)) ∧ L' = wOnce bs bm (e.dot :: seen) :: L) := by
  refine Fn_enter Try.func68 rfl rfl rfl rfl ?_
  refine T_wOnce fun m hm => ?_
  refine T_region ?_
  refine TL_box rfl rfl rfl ?_
  intro b2
  refine TL_y rfl rfl (Y_assign rfl) ?_
  refine TL_nil ?_
  refine T_region ?_
  refine TL_y rfl rfl (Y_load rfl rfl) ?_
  refine TL_y rfl rfl (Y_field_addr rfl) ?_
  refine TL_y rfl rfl (Y_load_agg rfl rfl) ?_
  refine TL_y rfl rfl (Y_lookup (K := dotK) (R := boolR) (k := e.dot) rfl rfl ⟨ho.1, ho.2.1⟩) ?_
  refine TL_name 8 (v' := .bool (decide (e.dot ∈ seen))) rfl (by rw [← hm e.dot]; cases getM m e.dot <;> rfl) ?_
  refine TL_y rfl rfl (Y_assign rfl) ?_
  refine TL_nil ?_
  refine T_region ?_
  refine TL_y rfl rfl (Y_load rfl rfl) ?_
  refine TL_y rfl rfl (Y_field_addr rfl) ?_
  refine TL_y rfl rfl (Y_load_agg rfl rfl) ?_
  refine TL_update (K := dotK) (R := boolR) (k := e.dot) (u := true) (cs := [.bool true]) ((e.dot, true) :: delM m e.dot) rfl rfl rfl ⟨ho.1, ho.2.1⟩ (Knows.const fun M => rfl) (List.Perm.refl _) ?_
  refine TL_nil ?_
  refine T_region ?_
  refine TL_y rfl rfl (Y_move rfl) ?_
  refine TL_y rfl rfl (Y_not_d rfl) ?_
  refine TL_y rfl rfl (Y_assign rfl) ?_
  refine TL_nil ?_
  refine T_ret ?_
  have hm2 : ∀ d, (getM ((e.dot, true) :: delM m e.dot) d).getD false = decide (d ∈ e.dot :: seen) := (fun d => by rw [getM_cons, getM_del]; by_cases hd : e.dot = d; (subst hd; simp); (rw [if_neg hd, if_neg (fun h => hd h.symm), hm d]; simp [show d ≠ e.dot from fun h => hd h.symm]))
  refine RetQ.gives (show Gives _ (cells bs [.map (some bm)] 96 :: omap dotK boolR false bm ((e.dot, true) :: delM m e.dot) :: L) from GivesTo.g) ?_
  refine RetQ.gives (wOnce_close hm2) ?_
  exact RetG_1 (.inl rfl) rfl (ResV.tmp rfl) GivesTo.g (⟨congrArg Value.bool (by simp), rfl⟩)
theorem once_spec {L : List HP} {A : Option Addr} {c : Nat} {l : List EventD} (hk : SlK L eventR A c l) (hl : l.length ≤ 1466015503701) : Fn Try.prog 38 #[.slice A l.length c] L (fun v L' => ∃ A' c', v = .slice A' (onceC l).length c' ∧ L' = osl eventR 29 A' c' (onceC l) :: L) := by
  refine Fn_enter Try.func38 rfl rfl rfl rfl ?_
  refine T_gives hk.lay ?_
  refine T_region ?_
  refine TL_y rfl rfl (Y_assign rfl) ?_
  refine TL_nil ?_
  refine T_region ?_
  refine TL_makeMap dotK boolR false rfl ?_
  intro bm
  refine TL_alloc rfl rfl ?_
  intro b3
  refine TL_store rfl rfl rfl rfl rfl rfl ?_
  refine TL_nil ?_
  refine T_region ?_
  refine TL_y rfl rfl (Y_move rfl) ?_
  refine TL_y rfl rfl (Y_make_func rfl rfl) ?_
  refine TL_gives (show Gives _ (wOnce b3 bm [] :: sl eventR A c l :: L) from wOnce_close (m := []) (fun d => rfl)) ?_
  refine TL_call rfl rfl (where_spec (σ := List DotD) (fun seen ↦ wOnce b3 bm seen) (fun seen e ↦ !decide (e.dot ∈ seen)) (fun seen e ↦ e.dot :: seen) 68 [.pointer (some ⟨b3, 0, none⟩)] [] (fun s e q L1 _ ho hk1 ↦ once1_spec e q ho) slk hl) ?_
  rintro _ _ ⟨A7, c7, rfl, rfl⟩
  rw [show (whr (fun (seen : List DotD) e => !decide (e.dot ∈ seen)) (fun seen e => e.dot :: seen) [] l).1 = onceC l from whr_once l []]
  refine TL_y rfl rfl (Y_assign rfl) ?_
  refine TL_nil ?_
  refine T_ret ?_
  exact RetG_1 (.inl rfl) rfl (ResV.tmp rfl) GivesTo.g (⟨A7, c7, rfl, rfl⟩)
end Go.SL
set_option linter.unusedVariables false
set_option linter.unusedSimpArgs false
namespace Go.SL
open Go Go.Proofs
abbrev lineC (t : LineD) : List Value := [.string t.1, .int .i64 t.2]
def lineOk (t : LineD) : Prop := t.1.size ≤ maxEl ∧ intIn .i64 t.2
def lineR : Rep LineD := ⟨2, fun _ a cs => cs = lineC a ∧ lineOk a, fun _ h => h, fun h => by rw [h.1]; rfl, fun h v hv => by rw [h.1] at hv; simp at hv; rcases hv with rfl | rfl <;> rfl⟩
instance : RepF lineR lineC := ⟨fun _ _ _ h => h.1⟩
theorem srtS_inc {xs : List ByteArray} (h : xs.Nodup) : (srtS xs).Pairwise strLt := by
  have h2 : (srtL (xs.map dataL)).Pairwise (fun x y => x ≤ y) := by
    have := List.pairwise_mergeSort (le := fun x y : List UInt8 => decide (x ≤ y)) (fun a b c h1 h2 => by simp at h1 h2 ⊢; exact List.le_trans h1 h2) (fun a b => by simp; exact List.le_total a b) (xs.map dataL)
    exact this.imp fun h => by simpa using h
  have h3 : (srtS xs).Pairwise fun x y => dataL x ≤ dataL y := by
    unfold srtS
    refine List.pairwise_map.2 (h2.imp fun h => ?_)
    exact h
  have h4 : (srtS xs).Nodup := (srtS_perm xs).nodup_iff.2 h
  refine (h3.and h4).imp fun {a b} ⟨h5, h6⟩ => ?_
  rcases List.le_iff_lt_or_eq.1 h5 with h7 | h7
  · exact h7
  · exact absurd (by rw [← undata_data a, ← undata_data b, h7]) h6
/-! ### Sums by their articles -/
def sumM (m : List (ByteArray × Int)) : Int := (m.map fun p => p.2).sum
structure SumI (xs : List EventD) (cart : ByteArray) (m : List (ByteArray × Int)) : Prop where
  at_ : ∀ k, (getM m k).getD 0 = sumC (xs.filter (ofC cart k))
  tot : sumM m = sumC (xs.filter fun e => decide (e.cart = cart))
theorem sumM_perm {a b : List (ByteArray × Int)} (h : a.Perm b) : sumM a = sumM b := by
  unfold sumM
  induction h with
  | nil => rfl
  | cons x _ ih => simp [ih]
  | swap x y l => simp; omega
  | trans _ _ h1 h2 => exact h1.trans h2
theorem sumM_del {m : List (ByteArray × Int)} (hn : ND m) (k : ByteArray) : sumM m = (getM m k).getD 0 + sumM (delM m k) := by
  cases hg : getM m k with
  | none => rw [del_none hg]; simp
  | some u =>
    obtain ⟨j, hj⟩ := List.getElem?_of_mem (getM_mem hg)
    have h1 : m.Perm ((k, u) :: m.eraseIdx j) := by
      have := set_perm (p := (k, u)) (List.getElem?_eq_some_iff.1 hj).1
      rwa [set_same hj] at this
    rw [sumM_perm h1, ← delM_erase hn hj]
    simp [sumM]
theorem SumI.skip {xs : List EventD} {cart : ByteArray} {m : List (ByteArray × Int)} {i : Nat} {e : EventD} (h : SumI (xs.take i) cart m) (he : xs[i]? = some e) (hc : ¬ e.cart = cart) : SumI (xs.take (i + 1)) cart m := by
  refine ⟨fun k => ?_, ?_⟩
  · rw [h.at_ k, takeAt he, List.filter_append]
    have : ofC cart k e = false := by simp [ofC, hc]
    simp [this]
  · rw [h.tot, takeAt he, List.filter_append]
    simp [hc]
theorem SumI.put {xs : List EventD} {cart : ByteArray} {m : List (ByteArray × Int)} {i : Nat} {e : EventD} (h : SumI (xs.take i) cart m) (he : xs[i]? = some e) (hc : e.cart = cart) (hn : ND m) {x : Int} (hx : (getM m e.sku).getD 0 = x) : SumI (xs.take (i + 1)) cart ((e.sku, x + e.qty) :: delM m e.sku) := by
  have hx2 : x + sumM (delM m e.sku) = sumM m := by rw [sumM_del hn e.sku, hx]
  have hx3 := h.at_ e.sku
  rw [hx] at hx3
  refine ⟨fun k => ?_, ?_⟩
  · rw [getM_cons, getM_del, takeAt he, List.filter_append, sumC_app]
    by_cases hk : e.sku = k
    · subst hk
      have : ofC cart e.sku e = true := by simp [ofC, hc]
      rw [if_pos rfl, ← hx3]
      simp [this, sumC]
    · have : ofC cart k e = false := by simp [ofC, hk]
      rw [if_neg hk, if_neg (fun h => hk h.symm), h.at_ k]
      simp [this, sumC]
  · rw [takeAt he, List.filter_append, sumC_app, ← h.tot, ← hx2]
    simp [hc, sumM, sumC]
    omega
/-! ### Lines of sums -/
def lineO (m : List (ByteArray × Int)) (k : ByteArray) : Option LineD := if 0 < (getM m k).getD 0 then some (k, (getM m k).getD 0) else none
def linesM (m : List (ByteArray × Int)) (ks : List ByteArray) : List LineD := ks.filterMap (lineO m)
theorem linesM_snoc {m : List (ByteArray × Int)} {ks : List ByteArray} {i : Nat} {k : ByteArray} (h : ks[i]? = some k) : linesM m (ks.take (i + 1)) = linesM m (ks.take i) ++ if 0 < (getM m k).getD 0 then [(k, (getM m k).getD 0)] else [] := by
  unfold linesM
  rw [takeAt h, List.filterMap_append]
  by_cases hq : 0 < (getM m k).getD 0 <;> simp [lineO, hq]
theorem linesM_len (m : List (ByteArray × Int)) (ks : List ByteArray) : (linesM m ks).length ≤ ks.length := List.length_filterMap_le _ _
theorem linesM_sum {m : List (ByteArray × Int)} (hn : ND m) (hpos : ∀ k, 0 ≤ (getM m k).getD 0) : ((linesM m (m.map fun p => p.1)).map fun p => p.2).sum = sumM m := by
  have key : ∀ l : List (ByteArray × Int), (∀ p ∈ l, getM m p.1 = some p.2) → ((linesM m (l.map fun p => p.1)).map fun p => p.2).sum = sumM l := by
    intro l
    induction l with
    | nil => intro _; rfl
    | cons p r ih =>
      intro h
      have h1 := h p List.mem_cons_self
      have h2 := ih fun q hq => h q (List.mem_cons_of_mem _ hq)
      have h3 := hpos p.1
      unfold linesM at h2 ⊢
      rw [List.map_cons, List.filterMap_cons]
      unfold lineO
      rw [h1] at h3 ⊢
      simp only [Option.getD_some] at h3 ⊢
      unfold lineO at h2
      by_cases hq : 0 < p.2
      · rw [if_pos hq]; simp only [List.map_cons, List.sum_cons, sumM]; rw [h2]; rfl
      · rw [if_neg hq]; rw [h2]; simp only [sumM, List.map_cons, List.sum_cons]; omega
  exact key m fun p hp => getM_of_mem hn hp
theorem sumL_perm {a b : List LineD} (h : a.Perm b) : (a.map fun p => p.2).sum = (b.map fun p => p.2).sum := sumM_perm h
theorem isLines_of {l : List EventD} {cart : ByteArray} {m : List (ByteArray × Int)} {ks : List ByteArray} (hq : ∀ e ∈ l, 0 ≤ e.qty ∧ e.qty ≤ 1000) (h : SumI (countC l) cart m) (hn : ND m) (hk : ks.Perm (m.map fun p => p.1)) : IsLines l cart (linesM m (srtS ks)) := by
  have hnk : (m.map fun p => p.1).Nodup := List.pairwise_map.2 hn
  have hnd : ks.Nodup := hk.nodup_iff.2 hnk
  have hat : ∀ k, (getM m k).getD 0 = lineF l cart k := fun k => h.at_ k
  have hpos : ∀ k, 0 ≤ (getM m k).getD 0 := fun k => by rw [hat]; exact (lineF_bound hq cart k).1
  refine ⟨?_, fun k q => ?_, ?_⟩
  · unfold linesM
    refine List.pairwise_filterMap.2 ((srtS_inc hnd).imp fun {a b} hab x hx y hy => ?_)
    unfold lineO at hx hy
    split at hx
    · split at hy
      · cases hx; cases hy; exact hab
      · cases hy
    · cases hx
  · unfold linesM
    rw [List.mem_filterMap]
    constructor
    · rintro ⟨a, _, hx⟩
      unfold lineO at hx
      split at hx
      · rename_i h0
        cases hx
        exact ⟨hat k, h0⟩
      · cases hx
    · rintro ⟨rfl, h0⟩
      refine ⟨k, ?_, by unfold lineO; rw [hat, if_pos h0]⟩
      rw [(srtS_perm ks).mem_iff, hk.mem_iff]
      cases hg : getM m k with
      | none => rw [← hat, hg] at h0; simp at h0
      | some u => exact List.mem_map.2 ⟨_, getM_mem hg, rfl⟩
  · have h1 : (linesM m (srtS ks)).Perm (linesM m (m.map fun p => p.1)) := ((srtS_perm ks).trans hk).filterMap _
    rw [sumL_perm h1, linesM_sum hn hpos, h.tot]
theorem del_leB {κ α : Type} [DecidableEq κ] (m : List (κ × α)) (k : κ) : (delM m k).length ≤ m.length := List.length_filter_le _ _
structure LnSt where
  i : Nat
  A : Option Addr
  c : Nat
structure SmSt where
  i : Nat
  m : List (ByteArray × Int)
theorem onceC_len (l : List EventD) : (onceC l).length ≤ l.length := by
  have : ∀ (l : List EventD) (seen : List DotD), (onceS seen l).length ≤ l.length := by
    intro l
    induction l with
    | nil => intro seen; simp [onceS]
    | cons x r ih =>
      intro seen
      unfold onceS
      split
      · have := ih seen; simp only [List.length_cons]; omega
      · have := ih (x.dot :: seen); simp only [List.length_cons]; omega
  exact this _ _
theorem countC_len (l : List EventD) : (countC l).length ≤ l.length := Nat.le_trans (onceC_len _) (List.length_filter_le _ _)
theorem take_sum_bound {xs : List EventD} (h : ∀ e ∈ xs, 0 ≤ e.qty ∧ e.qty ≤ 1000) (i : Nat) (p : EventD → Bool) : 0 ≤ sumC ((xs.take i).filter p) ∧ sumC ((xs.take i).filter p) ≤ 1000 * (xs.length : Int) := by
  have h1 := sumC_bound (l := (xs.take i).filter p) fun e he => h e (List.mem_of_mem_take (List.mem_filter.1 he).1)
  have h2 : ((xs.take i).filter p).length ≤ xs.length := Nat.le_trans (List.length_filter_le _ _) (by rw [List.length_take]; omega)
  omega
theorem lines_spec {L : List HP} {A : Option Addr} {c : Nat} {l : List EventD} (cart : ByteArray) (hk : SlK L eventR A c l) (hl : l.length ≤ 1466015503701) (hq : ∀ e ∈ l, 0 ≤ e.qty ∧ e.qty ≤ 1000) : Fn Try.prog 16 #[.slice A l.length c, .string cart] L (fun v L' => ∃ A' c' xs, v = .slice A' xs.length c' ∧ L' = osl lineR 65 A' c' xs :: L ∧ IsLines l cart xs ∧ xs.length ≤ l.length) := by
  have hcl := countC_len l
  have hcq : ∀ e ∈ countC l, 0 ≤ e.qty ∧ e.qty ≤ 1000 := fun e he => hq e (mem_stand.1 (onceC_sub he)).1
  refine Fn_enter Try.func16 rfl rfl rfl rfl ?_
  refine T_gives (SlK.lay hk) ?_
  refine T_region ?_
  refine TL_y rfl rfl (Y_assign rfl) ?_
  refine TL_nil ?_
  refine T_region ?_
  refine TL_makeMap strK (intR .i64) false rfl ?_
  intro bm
  refine TL_y rfl rfl (Y_assign rfl) ?_
  refine TL_nil ?_
  refine T_seq ?_
  refine T_region ?_
  refine TL_y rfl rfl (Y_move rfl) ?_
  refine TL_call rfl rfl (stand_spec (slk (A := A) (c := c)) (by omega)) ?_
  rintro _ _ ⟨A13, c13, rfl, rfl⟩
  refine TL_freeze_osl ?_
  refine TL_call rfl rfl (once_spec (slk (A := A13) (c := c13)) (Nat.le_trans (List.length_filter_le _ _) (by omega))) ?_
  rintro _ _ ⟨A14, c14, rfl, rfl⟩
  refine TL_freeze_osl ?_
  rw [show onceC (standC l) = countC l from rfl]
  refine TL_y rfl rfl (Y_len rfl) ?_
  refine TL_y rfl rfl (Y_move rfl) ?_
  refine TL_nil ?_
  refine T_block ?_
  refine T_loopK (σ := SmSt) [1, 5, 14, 15] (fun g => g.i ≤ (countC l).length ∧ SumI ((countC l).take g.i) cart g.m ∧ g.m.length ≤ g.i) (fun g kv => (16, .int .i64 (g.i : Int)) :: kv) (fun g => omap strK (intR .i64) false bm g.m :: sl eventR A14 c14 (countC l) :: L) (fun g => (countC l).length - g.i) (⟨0, []⟩) rfl (⟨Nat.zero_le _, ⟨fun k => rfl, rfl⟩, Nat.le_refl _⟩) (GivesTo.g) (sub_cons rfl (sub_cons rfl (sub_cons rfl (sub_cons rfl (sub_cons rfl (sub_nil)))))) ?_
  rintro ⟨i, m⟩ ⟨hil, hI, hmi⟩
  dsimp only at hil hI hmi ⊢
  have hmn : m.length ≤ l.length := (by omega)
  refine T_region ?_
  refine TL_y rfl rfl (Y_lt rfl rfl) ?_
  refine TL_nil ?_
  refine T_seq ?_
  refine T_if rfl (fun h17 => ?_) (fun h17 => ?_)
  · refine T_skip ?_
    refine thenS_normal ?_
    refine T_seq ?_
    refine T_block ?_
    obtain ⟨e, he⟩ : ∃ e, (countC l)[i]? = some e := ⟨_, List.getElem?_eq_getElem (by omega)⟩
    have heq := hcq e (List.mem_of_getElem? he)
    refine T_nd (b := bm) fun hnd => ?_
    have hsb := take_sum_bound hcq i (ofC cart e.sku)
    rw [← hI.at_] at hsb
    refine T_region ?_
    refine TL_index_n rfl rfl rfl (rfl) ((sln (A := A14) (c := c14))) (he) ?_
    intro bn18 on18 hA18 hk18
    have hu18 := he
    refine TL_load_nx rfl rfl hk18 hu18 (fun _ => rfl) ?_
    intro p19 ok19
    simp only [List.cons_append, List.nil_append]
    refine TL_alloc rfl rfl ?_
    intro b7
    refine TL_store rfl rfl rfl rfl rfl rfl ?_
    refine TL_nil ?_
    refine T_region ?_
    refine TL_y rfl rfl (Y_field_addr rfl) ?_
    refine TL_y rfl rfl (Y_load rfl rfl) ?_
    refine TL_y rfl rfl (Y_move rfl) ?_
    refine TL_y rfl rfl (Y_str_eq rfl rfl) ?_
    refine TL_nil ?_
    refine T_if rfl (fun h23 => ?_) (fun h23 => ?_)
    · refine T_region_last ?_
      refine TL_y rfl rfl (Y_move rfl) ?_
      refine TL_y rfl rfl (Y_field_addr rfl) ?_
      refine TL_y rfl rfl (Y_load rfl rfl) ?_
      refine TL_y rfl rfl (Y_lookup (K := strK) (R := intR .i64) (k := e.sku) rfl rfl ok19.2.2.2.2.2.1) ?_
      refine TL_name 27 (v' := .int .i64 ((getM m e.sku).getD 0)) rfl (by cases getM m e.sku <;> rfl) ?_
      refine TL_y rfl rfl (Y_field_addr rfl) ?_
      refine TL_y rfl rfl (Y_load rfl rfl) ?_
      refine TL_y rfl rfl (Y_add rfl rfl (by omega)) ?_
      refine TL_update (K := strK) (R := intR .i64) (k := e.sku) (u := (getM m e.sku).getD 0 + e.qty) (cs := [.int .i64 ((getM m e.sku).getD 0 + e.qty)]) ((e.sku, (getM m e.sku).getD 0 + e.qty) :: delM m e.sku) rfl rfl rfl ok19.2.2.2.2.2.1 (Knows.const fun M => ⟨rfl, i64In_mk (by omega)⟩) (List.Perm.refl _) ?_
      refine TL_nil ?_
      refine inB_normal ?_
      refine thenS_normal ?_
      refine T_region_last ?_
      refine TL_y rfl rfl (Y_add rfl rfl (by omega)) ?_
      refine TL_name 31 (v' := .int .i64 ((i + 1 : Nat) : Int)) rfl (rfl) ?_
      refine TL_y rfl rfl (Y_move rfl) ?_
      refine TL_nil ?_
      refine thenS_normal ?_
      exact ⟨⟨i + 1, (e.sku, (getM m e.sku).getD 0 + e.qty) :: delM m e.sku⟩, ⟨by simp only; omega, hI.put he h23 hnd rfl, by have := del_leB m e.sku; simp only [List.length_cons]; omega⟩, by simp only; omega, holds_to (sub_cons rfl (sub_cons rfl (sub_cons rfl (sub_cons rfl (sub_cons rfl (sub_nil)))))) GivesTo.g⟩
    · refine T_skip ?_
      refine inB_normal ?_
      refine thenS_normal ?_
      refine T_region_last ?_
      refine TL_y rfl rfl (Y_add rfl rfl (by omega)) ?_
      refine TL_name 31 (v' := .int .i64 ((i + 1 : Nat) : Int)) rfl (rfl) ?_
      refine TL_y rfl rfl (Y_move rfl) ?_
      refine TL_nil ?_
      refine thenS_normal ?_
      exact ⟨⟨i + 1, m⟩, ⟨by simp only; omega, hI.skip he h23, by simp only; omega⟩, by simp only; omega, holds_to (sub_cons rfl (sub_cons rfl (sub_cons rfl (sub_cons rfl (sub_cons rfl (sub_nil)))))) GivesTo.g⟩
  · refine T_exit ?_
    refine thenS_exit ?_
    refine thenS_exit ?_
    refine inB_hit ?_
    refine thenS_normal ?_
    rw [List.take_of_length_le (show (countC l).length ≤ i by omega)] at hI
    refine T_nd (b := bm) fun hnd => ?_
    refine T_region ?_
    refine TL_y rfl rfl (Y_assign rfl) ?_
    refine TL_nil ?_
    refine T_seq ?_
    refine T_region ?_
    refine TL_y rfl rfl (Y_move rfl) ?_
    refine TL_call rfl rfl (keysQ_spec) ?_
    rintro _ _ ⟨bx, rfl, rfl⟩
    refine TL_gives (show Gives _ (cells bx [.map (some bm)] 68 :: omap strK (intR .i64) false bm m :: sl eventR A14 c14 (countC l) :: L) from GivesTo.g) ?_
    refine TL_call rfl rfl (sortedS_spec (Lf := [cells bx [.map (some bm)] 68, omap strK (intR .i64) false bm m]) (Lr := sl eventR A14 c14 (countC l) :: L) (keysQ_iter (R := intR .i64) (ag := false) (b := bm) (bx := bx) (m := m)) (by omega)) ?_
    rintro _ _ ⟨A34, c34, ks, rfl, hperm, rfl⟩
    simp only [List.cons_append, List.nil_append]
    refine TL_freeze_osl ?_
    have hkp := hperm rfl
    have hkl : (srtS ks).length ≤ l.length := (by rw [srtS_length, hkp.length_eq, List.length_map]; exact hmn)
    refine TL_y rfl rfl (Y_len rfl) ?_
    refine TL_y rfl rfl (Y_move rfl) ?_
    refine TL_nil ?_
    refine T_block ?_
    refine T_loopK (σ := LnSt) [5, 34, 35] (fun g => g.i ≤ (srtS ks).length) (fun g kv => (36, .int .i64 (g.i : Int)) :: (8, .slice g.A (linesM m ((srtS ks).take g.i)).length g.c) :: kv) (fun g => osl lineR 65 g.A g.c (linesM m ((srtS ks).take g.i)) :: omap strK (intR .i64) false bm m :: sl strR A34 c34 (srtS ks) :: L) (fun g => (srtS ks).length - g.i) (⟨0, none, 0⟩) rfl (Nat.zero_le _) (Gives.trans (show Gives _ (omap strK (intR .i64) false bm m :: sl strR A34 c34 (srtS ks) :: L) from GivesTo.g) (osl_nil lineR 65 none _)) (sub_cons rfl (sub_cons rfl (sub_cons rfl (sub_cons rfl (sub_cons rfl (sub_nil)))))) ?_
    rintro ⟨j, X, cx⟩ hjl
    dsimp only at hjl ⊢
    skip
    refine T_region ?_
    refine TL_y rfl rfl (Y_lt rfl rfl) ?_
    refine TL_nil ?_
    refine T_seq ?_
    refine T_if rfl (fun h37 => ?_) (fun h37 => ?_)
    · refine T_skip ?_
      refine thenS_normal ?_
      refine T_seq ?_
      refine T_block ?_
      obtain ⟨k, hk1⟩ : ∃ k, (srtS ks)[j]? = some k := ⟨_, List.getElem?_eq_getElem (by omega)⟩
      have hsn := linesM_snoc (m := m) hk1
      have hll := linesM_len m ((srtS ks).take j)
      rw [List.length_take] at hll
      have hsb : 0 ≤ (getM m k).getD 0 ∧ (getM m k).getD 0 ≤ 1000 * (l.length : Int) := (by rw [hI.at_]; have := take_sum_bound hcq (countC l).length (ofC cart k); rw [List.take_of_length_le (Nat.le_refl _)] at this; omega)
      refine T_elem_fact (sln (A := A34) (c := c34)) hk1 (p := k.size ≤ maxEl) (fun M l h => h.2) fun hks => ?_
      refine T_region ?_
      refine TL_index_n rfl rfl rfl (rfl) ((sln (A := A34) (c := c34))) (hk1) ?_
      intro bn38 on38 hA38 hk38
      have hu38 := hk1
      refine TL_y rfl rfl (Y_load_n rfl hk38 hu38 rfl) ?_
      refine TL_y rfl rfl (Y_assign rfl) ?_
      refine TL_nil ?_
      refine T_region ?_
      refine TL_y rfl rfl (Y_move rfl) ?_
      refine TL_y rfl rfl (Y_move rfl) ?_
      refine TL_y rfl rfl (Y_lookup (K := strK) (R := intR .i64) (k := k) rfl rfl hks) ?_
      refine TL_name 42 (v' := .int .i64 ((getM m k).getD 0)) rfl (by cases getM m k <;> rfl) ?_
      refine TL_y rfl rfl (Y_gt rfl rfl) ?_
      refine TL_nil ?_
      refine T_if rfl (fun h43 => ?_) (fun h43 => ?_)
      · rw [if_pos h43] at hsn
        refine T_region_last ?_
        refine TL_y rfl rfl (Y_move rfl) ?_
        refine TL_y rfl rfl (Y_move rfl) ?_
        refine TL_y rfl rfl (Y_move rfl) ?_
        refine TL_y rfl rfl (Y_move rfl) ?_
        refine TL_y rfl rfl (Y_lookup (K := strK) (R := intR .i64) (k := k) rfl rfl hks) ?_
        refine TL_name 48 (v' := .int .i64 ((getM m k).getD 0)) rfl (by cases getM m k <;> rfl) ?_
        refine TL_y rfl rfl (Y_build rfl rfl) ?_
        refine TL_build_slice rfl rfl rfl rfl rfl rfl ?_
        intro b50
        refine TL_osl (k := 1) lineR [(k, (getM m k).getD 0)] (Knows.const fun M => ⟨[.string k, .int .i64 ((getM m k).getD 0)], [], ⟨rfl, hks, i64In_mk (by omega)⟩, rfl, rfl⟩) rfl (by decide) ?_
        refine TL_freeze_osl ?_
        refine TL_name 50 (v' := .slice (some ⟨b50, 0, none⟩) [((k, (getM m k).getD 0) : LineD)].length 1) rfl rfl ?_
        refine TL_append rfl rfl rfl rfl rfl slk (by simp only [List.length_cons, List.length_nil]; omega) ?_
        intro A51 c51
        rw [← hsn]
        refine TL_y rfl rfl (Y_assign rfl) ?_
        refine TL_nil ?_
        refine inB_normal ?_
        refine thenS_normal ?_
        refine T_region_last ?_
        refine TL_y rfl rfl (Y_add rfl rfl (by omega)) ?_
        refine TL_name 52 (v' := .int .i64 ((j + 1 : Nat) : Int)) rfl (rfl) ?_
        refine TL_y rfl rfl (Y_move rfl) ?_
        refine TL_nil ?_
        refine thenS_normal ?_
        exact ⟨⟨j + 1, A51, c51⟩, (by simp only; omega), by simp only; omega, holds_to (sub_cons rfl (sub_cons rfl (sub_cons rfl (sub_cons rfl (sub_cons rfl (sub_nil)))))) GivesTo.g⟩
      · rw [if_neg h43, List.append_nil] at hsn
        rw [← hsn]
        refine T_skip ?_
        refine inB_normal ?_
        refine thenS_normal ?_
        refine T_region_last ?_
        refine TL_y rfl rfl (Y_add rfl rfl (by omega)) ?_
        refine TL_name 52 (v' := .int .i64 ((j + 1 : Nat) : Int)) rfl (rfl) ?_
        refine TL_y rfl rfl (Y_move rfl) ?_
        refine TL_nil ?_
        refine thenS_normal ?_
        exact ⟨⟨j + 1, X, cx⟩, (by simp only; omega), by simp only; omega, holds_to (sub_cons rfl (sub_cons rfl (sub_cons rfl (sub_cons rfl (sub_cons rfl (sub_nil)))))) GivesTo.g⟩
    · refine T_exit ?_
      refine thenS_exit ?_
      refine thenS_exit ?_
      refine inB_hit ?_
      refine thenS_normal ?_
      refine T_region ?_
      refine TL_y rfl rfl (Y_move rfl) ?_
      refine TL_y rfl rfl (Y_assign rfl) ?_
      refine TL_nil ?_
      refine T_ret ?_
      rw [List.take_of_length_le (show (srtS ks).length ≤ j by omega)]
      have hres := isLines_of hq hI hnd hkp
      exact RetG_1 (.inl rfl) rfl (ResV.tmp rfl) GivesTo.g (⟨X, cx, linesM m (srtS ks), rfl, rfl, hres, Nat.le_trans (linesM_len _ _) hkl⟩)
end Go.SL
set_option linter.unusedVariables false
namespace Go.SL
open Go
variable {r : Option Nat} {n : Nat} {P : Program} {s : St} {Q : Exit → St → Prop}
theorem vs_adds {ops : Array Oper} {X : List (Nat × Nat)} : ∀ {l : List Nat} {p : Nat → Prop}, (∀ e ∈ X, ∀ s1 s2, l = s1 ++ e.2 :: s2 → e.1 ∈ s1 ∨ p e.1) → VS [] ops p l → VS X ops p l
  | [], _, _, _ => trivial
  | k :: r, p, h, ⟨h1, h2⟩ => by
    refine ⟨fun o ho e he => ?_, vs_adds (fun x hx s1 s2 e => ?_) h2⟩
    · rcases List.mem_append.1 he with he | he
      · exact h1 o ho e (by rw [depsX_nil]; exact he)
      · obtain ⟨x, hx, rfl⟩ := List.mem_map.1 he
        have hx := List.mem_filter.1 hx
        have hk : x.2 = k := Nat.eq_of_beq_eq_true hx.2
        rcases h x hx.1 [] r (by rw [hk]; rfl) with h | h
        · cases h
        · exact h
    · rcases h x hx (k :: s1) s2 (by rw [e]; rfl) with h | h
      · rcases List.mem_cons.1 h with h | h
        · exact .inr (.inl h)
        · exact .inl h
      · exact .inr (.inr h)
/-- The region, in whatever order that keeps the pairs of X. -/
def RD (r : Option Nat) (n : Nat) (P : Program) (l : List Oper) (X : List (Nat × Nat)) (s : St) (Q : Exit → St → Prop) : Prop :=
  ∀ W a w, Holds n W s a w → ∀ sched : List Nat, VS [] l.toArray (fun i => (Array.replicate l.length false).getD i false = true) sched → (∀ e ∈ X, ∀ s1 s2, sched = s1 ++ e.2 :: s2 → e.1 ∈ s1) → (∀ i, i < l.length → i ∈ sched) → sched.Nodup → (∀ i ∈ sched, i < l.length) → sched.length = l.length →
    wpOpsIn (Fw r) 0 P l.toArray (fun e a w => ∃ s', Q e s' ∧ Holds n W s' a w) sched a w
theorem RD_leaf {l : List Oper} {X : List (Nat × Nat)} (Fl : List HP) (B tl : List Nat) (π : List (Nat × Bool)) (hok : regionOk X l B tl π = true) (hFl : Gives s.L Fl) (h : TF r n P l.toArray tl Fl π s (fun s' => Q .normal s')) : RD r n P l X s Q := fun W a w hh sched k1 hX k2 k3 k4 k5 =>
  wpF_ops (fun a' w' s' hk hh' => ⟨s', hk, hh'⟩) _ _ _ (region_run Fl B tl π hok hFl h hh (vs_adds (fun e he s1 s2 h => .inl (hX e he s1 s2 h)) k1) k2 k3 k4 k5)
theorem RD_pair {l : List Oper} {X : List (Nat × Nat)} (i j : Nat) (hij : i ≠ j) (h1 : RD r n P l ((i, j) :: X) s Q) (h2 : RD r n P l ((j, i) :: X) s Q) : RD r n P l X s Q := fun W a w hh sched k1 hX k2 k3 k4 k5 => by
  rcases order_or hij sched with ho | ho
  · exact h1 W a w hh sched k1 (fun e he => by rcases List.mem_cons.1 he with rfl | he; exact ho; exact hX e he) k2 k3 k4 k5
  · exact h2 W a w hh sched k1 (fun e he => by rcases List.mem_cons.1 he with rfl | he; exact ho; exact hX e he) k2 k3 k4 k5
theorem T_rd_last {id : Nat} {l : List Oper} (B : List Nat) (hmix : P.follows .mixedOrders = true) (hm : masksOk [] B l 0 = true) (h : RD r n P l [] s Q) : T r n P (.region id l.toArray true) s Q := fun W a w hh => by
  refine wpIn_region_draw fun t => ?_
  simp only [Region.schedule, hmix, Bool.true_or, if_true]
  obtain ⟨k1, k2, k3, k4, k5⟩ := sched_ok hm l.length t (Array.replicate l.length false) (by simp) (unl_all l)
  have hlin : Region.linearise .any l.toArray t = Region.linearise.go .any l.toArray l.length t (Array.replicate l.length false) [] := by
    simp [Region.linearise]
  rw [hlin]
  exact h W a _ ⟨hh.1, hh.2.drew⟩ _ k1 (fun e he => by cases he) (fun i hi => k2 i hi (by simp [Array.getD_eq_getD_getElem?, hi])) k3 (fun i hi => (k4 i hi).1) k5
end Go.SL
set_option linter.unusedVariables false
set_option linter.unusedSimpArgs false
namespace Go.SL
open Go Go.Proofs
theorem right_snoc {l : List EventD} {i : Nat} {x : EventD} (h : RightC (l.take i)) (hx : l[i]? = some x) (hq : 0 ≤ x.qty ∧ x.qty ≤ 1000) (hd : ∀ a ∈ l.take i, a.dot = x.dot → a = x) : RightC (l.take (i + 1)) := by
  rw [takeAt hx]
  refine ⟨fun e he => ?_, fun a ha b hb hab => ?_⟩
  · rcases List.mem_append.1 he with he | he
    · exact h.qty e he
    · rw [List.mem_singleton.1 he]; exact hq
  · rcases List.mem_append.1 ha with ha | ha
    · rcases List.mem_append.1 hb with hb | hb
      · exact h.one a ha b hb hab
      · rw [List.mem_singleton.1 hb] at hab ⊢; exact hd a ha hab
    · rcases List.mem_append.1 hb with hb | hb
      · rw [List.mem_singleton.1 ha] at hab ⊢; exact (hd b hb hab.symm).symm
      · rw [List.mem_singleton.1 ha, List.mem_singleton.1 hb]
theorem right11_spec {L : List HP} {A : Option Addr} {c : Nat} {l : List EventD} (hk : SlK L eventR A c l) : Fn Try.prog 13 #[.slice A l.length c] L (fun v L' => (∃ r : Bool, v = .bool r ∧ (r = true ↔ RightC l)) ∧ L' = L) := by
  refine Fn_enter Try.func13 rfl rfl rfl rfl ?_
  refine T_gives hk.lay ?_
  refine SlN.lens (sln (A := A) (c := c)) fun hl => ?_
  simp only [maxEl] at hl
  refine T_region ?_
  refine TL_y rfl rfl (Y_assign rfl) ?_
  refine TL_nil ?_
  refine T_seq ?_
  refine T_region ?_
  refine TL_y rfl rfl (Y_assign rfl) ?_
  refine TL_nil ?_
  refine T_block ?_
  refine T_loopK (σ := Nat) [0] (fun i => i ≤ l.length ∧ RightC (l.take i)) (fun i kv => (3, .int .i64 (i : Int)) :: kv) (fun i => sl eventR A c l :: L) (fun i => l.length - i) (0) rfl (⟨Nat.zero_le _, ⟨fun e h => by simp at h, fun a h => by simp at h⟩⟩) (GivesTo.g) (sub_cons rfl (sub_cons rfl (sub_nil))) ?_
  intro i hi
  refine T_seq ?_
  refine T_region ?_
  refine TL_y rfl rfl (Y_move rfl) ?_
  refine TL_y rfl rfl (Y_move rfl) ?_
  refine TL_y rfl rfl (Y_len rfl) ?_
  refine TL_y rfl rfl (Y_lt rfl rfl) ?_
  refine TL_nil ?_
  refine T_if rfl (fun h8 => ?_) (fun h8 => ?_)
  · refine T_skip ?_
    refine thenS_normal ?_
    refine T_seq ?_
    refine T_block ?_
    refine T_seq ?_
    obtain ⟨x, hx⟩ : ∃ x, l[i]? = some x := ⟨_, List.getElem?_eq_getElem (by omega)⟩
    refine T_region ?_
    refine TL_y rfl rfl (Y_move rfl) ?_
    refine TL_y rfl rfl (Y_move rfl) ?_
    refine TL_index_n rfl rfl rfl (rfl) ((sln (A := A) (c := c))) (hx) ?_
    intro bn13 on13 hA13 hk13
    have hu13 := hx
    refine TL_y rfl rfl (Y_field_addr2 rfl) ?_
    refine TL_y rfl rfl (Y_load_nx rfl hk13 hu13 (fun _ => rfl)) ?_
    refine TL_both 9 24 (x.qty < 0 ∨ 1000 < x.qty) ?_ ?_
    · refine TL_y rfl rfl (Y_lt rfl rfl) ?_
      refine TL_y rfl rfl (Y_move rfl) ?_
      refine TL_splitd 17 rfl (fun h17 => ?_) (fun h17 => ?_)
      · refine TL_gskip rfl rfl rfl rfl ?_
        refine TL_gskip rfl rfl rfl rfl ?_
        refine TL_gskip rfl rfl rfl rfl ?_
        refine TL_gskip rfl rfl rfl rfl ?_
        refine TL_gskip rfl rfl rfl rfl ?_
        refine TL_gskip rfl rfl rfl rfl ?_
        refine TL_y rfl rfl (Y_pick_t rfl rfl) ?_
        refine TL_chain_end rfl ?_ (by repeat (first | exact sub_refl | refine sub_ext rfl ?_)) GivesTo.g
        exact congrArg Value.bool (decide_eq_true (by omega)).symm
      · refine TL_grun rfl rfl ?_
        refine TL_y rfl rfl (Y_move rfl) ?_
        refine TL_grun rfl rfl ?_
        refine TL_y rfl rfl (Y_move rfl) ?_
        refine TL_grun rfl rfl ?_
        refine TL_index_n rfl rfl rfl (rfl) ((sln (A := A) (c := c))) (hx) ?_
        intro bn20 on20 hA20 hk20
        have hu20 := hx
        refine TL_grun rfl rfl ?_
        refine TL_y rfl rfl (Y_field_addr2 rfl) ?_
        refine TL_grun rfl rfl ?_
        refine TL_y rfl rfl (Y_load_nx rfl hk20 hu20 (fun _ => rfl)) ?_
        refine TL_grun rfl rfl ?_
        refine TL_y rfl rfl (Y_gt rfl rfl) ?_
        refine TL_y rfl rfl (Y_pick_f rfl rfl) ?_
        refine TL_chain_end rfl ?_ (by repeat (first | exact sub_refl | refine sub_ext rfl ?_)) GivesTo.g
        exact congrArg Value.bool (decide_eq_decide.2 (by omega))
    refine TL_nil ?_
    refine T_if rfl (fun h24 => ?_) (fun h24 => ?_)
    · refine T_region ?_
      refine TL_y rfl rfl (Y_assign rfl) ?_
      refine TL_nil ?_
      refine T_ret ?_
      refine thenS_ret ?_
      refine inB_ret ?_
      refine thenS_ret ?_
      refine thenS_ret ?_
      refine inB_ret ?_
      refine thenS_ret ?_
      exact RetG_1 (.inl rfl) rfl (ResV.tmp rfl) GivesTo.g (⟨⟨false, rfl, by simp; intro h; have := h.qty x (List.mem_of_getElem? hx); omega⟩, rfl⟩)
    · refine T_skip ?_
      refine thenS_normal ?_
      refine T_region ?_
      refine TL_y rfl rfl (Y_assign rfl) ?_
      refine TL_nil ?_
      refine T_block ?_
      refine T_loopK (σ := Nat) [0, 3] (fun k => k ≤ i ∧ ∀ a ∈ (l.take i).take k, a.dot = x.dot → a = x) (fun k kv => (4, .int .i64 (k : Int)) :: kv) (fun k => sl eventR A c l :: L) (fun k => i - k) (0) rfl (⟨Nat.zero_le _, by simp⟩) (GivesTo.g) (sub_cons rfl (sub_cons rfl (sub_cons rfl (sub_nil)))) ?_
      intro k hk2
      refine T_seq ?_
      refine T_region ?_
      refine TL_y rfl rfl (Y_move rfl) ?_
      refine TL_y rfl rfl (Y_move rfl) ?_
      refine TL_y rfl rfl (Y_lt rfl rfl) ?_
      refine TL_nil ?_
      refine T_if rfl (fun h27 => ?_) (fun h27 => ?_)
      · refine T_skip ?_
        refine thenS_normal ?_
        refine T_seq ?_
        refine T_block ?_
        obtain ⟨y, hy⟩ : ∃ y, l[k]? = some y := ⟨_, List.getElem?_eq_getElem (by omega)⟩
        have hyi : (l.take i)[k]? = some y := (by rw [List.getElem?_take_of_lt (by omega)]; exact hy)
        refine T_at (slk (A := A) (c := c)) hy fun b1 o1 l1 ha1 => ?_
        refine T_ex fun p1 ok1 => ?_
        simp only [List.cons_append, List.nil_append]
        refine T_at (slk (A := A) (c := c)) hx fun b2 o2 l2 ha2 => ?_
        refine T_ex fun p2 ok2 => ?_
        simp only [List.cons_append, List.nil_append]
        refine T_region_draw _ [0, 0, 3, 7, 15, 0, 0, 96, 224, 480, 1023, 2047, 4095, 4095, 16383, 32767, 4095, 4095, 200703, 462847, 1048575, 2097151, 4194303] [] [(0, true), (1, true), (2, true), (3, true), (4, true), (5, true), (6, true), (7, true), (8, true), (9, true), (10, true), (11, true), (12, true), (13, true), (14, true), (15, true), (16, true), (17, true), (18, true), (19, true), (20, false), (21, true), (22, true)] (by kernel_rfl) (by decide +kernel) (Gives.refl _) ?_
        refine TF_y rfl rfl (Y_move rfl) ?_
        refine TF_y rfl rfl (Y_move rfl) ?_
        refine TF_y rfl rfl (Y_index_at rfl rfl (by omega) ha1) ?_
        refine TF_y rfl rfl (Y_field_addr2 rfl) ?_
        refine TF_y rfl rfl (Y_load_row_agg (vs := [.int .i64 y.dot.1, .int .i64 y.dot.2]) rfl rfl) ?_
        refine TF_y rfl rfl (Y_move rfl) ?_
        refine TF_y rfl rfl (Y_move rfl) ?_
        refine TF_y rfl rfl (Y_index_at rfl rfl (by omega) ha2) ?_
        refine TF_y rfl rfl (Y_field_addr2 rfl) ?_
        refine TF_y rfl rfl (Y_load_row_agg (vs := [.int .i64 x.dot.1, .int .i64 x.dot.2]) rfl rfl) ?_
        refine TF_y rfl rfl (Y_eq_dot (a := y.dot) (b := x.dot) rfl rfl) ?_
        refine TF_y rfl rfl (Y_move rfl) ?_
        refine TF_splitd 41 rfl (fun h41 => ?_) (fun h41 => ?_)
        · refine TF_gy rfl rfl rfl rfl (Y_move rfl) ?_
          refine TF_gy rfl rfl rfl rfl (Y_move rfl) ?_
          refine TF_gy rfl rfl rfl rfl (Y_index_at rfl rfl (by omega) ha1) ?_
          refine TF_gy rfl rfl rfl rfl (Y_load_row_agg (vs := eventC y p1) rfl rfl) ?_
          refine TF_gy rfl rfl rfl rfl (Y_move rfl) ?_
          refine TF_gy rfl rfl rfl rfl (Y_move rfl) ?_
          refine TF_gy rfl rfl rfl rfl (Y_index_at rfl rfl (by omega) ha2) ?_
          refine TF_gy rfl rfl rfl rfl (Y_load_row_agg (vs := eventC x p2) rfl rfl) ?_
          refine TF_anchor rfl ?_
          refine TL_grun rfl rfl ?_
          refine TL_call rfl rfl (sameEvent_spec y x sln sln) ?_
          rintro _ _ ⟨rfl, rfl⟩
          refine TF_end GivesTo.g ?_
          refine TF_gy rfl rfl rfl rfl (Y_not_d rfl) ?_
          refine TF_y rfl rfl (Y_pick_t rfl rfl) ?_
          refine TF_nil ?_
          refine T_if rfl (fun h52 => ?_) (fun h52 => ?_)
          · refine T_region ?_
            refine TL_y rfl rfl (Y_assign rfl) ?_
            refine TL_nil ?_
            refine T_ret ?_
            refine inB_ret ?_
            refine thenS_ret ?_
            refine thenS_ret ?_
            refine inB_ret ?_
            refine inB_ret ?_
            refine thenS_ret ?_
            refine thenS_ret ?_
            refine inB_ret ?_
            refine thenS_ret ?_
            exact RetG_1 (.inl rfl) rfl (ResV.tmp rfl) GivesTo.g (⟨⟨false, rfl, by simp; intro h; exact h52 (h.one y (List.mem_of_getElem? hy) x (List.mem_of_getElem? hx) h41)⟩, rfl⟩)
          · refine T_skip ?_
            refine inB_normal ?_
            refine thenS_normal ?_
            refine T_region_last ?_
            refine TL_y rfl rfl (Y_move rfl) ?_
            refine TL_y rfl rfl (Y_add rfl rfl (by omega)) ?_
            refine TL_name 29 (v' := .int .i64 ((k + 1 : Nat) : Int)) rfl (rfl) ?_
            refine TL_y rfl rfl (Y_assign rfl) ?_
            refine TL_nil ?_
            refine thenS_normal ?_
            exact ⟨k + 1, ⟨by omega, by rw [takeAt hyi]; intro a ha h; rcases List.mem_append.1 ha with ha | ha; exact hk2.2 a ha h; (rw [List.mem_singleton.1 ha]; exact Classical.not_not.1 h52)⟩, by omega, holds_to (sub_cons rfl (sub_cons rfl (sub_cons rfl (sub_nil)))) GivesTo.g⟩
        · refine TF_gskip rfl rfl rfl rfl rfl ?_
          refine TF_gskip rfl rfl rfl rfl rfl ?_
          refine TF_gskip rfl rfl rfl rfl rfl ?_
          refine TF_gskip rfl rfl rfl rfl rfl ?_
          refine TF_gskip rfl rfl rfl rfl rfl ?_
          refine TF_gskip rfl rfl rfl rfl rfl ?_
          refine TF_gskip rfl rfl rfl rfl rfl ?_
          refine TF_gskip rfl rfl rfl rfl rfl ?_
          refine TF_anchor rfl ?_
          refine TL_gskip rfl rfl rfl rfl ?_
          refine TF_end GivesTo.g ?_
          refine TF_gskip rfl rfl rfl rfl rfl ?_
          refine TF_y rfl rfl (Y_pick_f rfl rfl) ?_
          refine TF_nil ?_
          refine T_cond_false rfl ?_
          refine T_skip ?_
          refine inB_normal ?_
          refine thenS_normal ?_
          refine T_region_last ?_
          refine TL_y rfl rfl (Y_move rfl) ?_
          refine TL_y rfl rfl (Y_add rfl rfl (by omega)) ?_
          refine TL_name 29 (v' := .int .i64 ((k + 1 : Nat) : Int)) rfl (rfl) ?_
          refine TL_y rfl rfl (Y_assign rfl) ?_
          refine TL_nil ?_
          refine thenS_normal ?_
          exact ⟨k + 1, ⟨by omega, by rw [takeAt hyi]; intro a ha h; rcases List.mem_append.1 ha with ha | ha; exact hk2.2 a ha h; (rw [List.mem_singleton.1 ha] at h ⊢; exact absurd h h41)⟩, by omega, holds_to (sub_cons rfl (sub_cons rfl (sub_cons rfl (sub_nil)))) GivesTo.g⟩
      · refine T_exit ?_
        refine thenS_exit ?_
        refine thenS_exit ?_
        refine inB_hit ?_
        refine inB_normal ?_
        refine thenS_normal ?_
        refine T_region_last ?_
        refine TL_y rfl rfl (Y_move rfl) ?_
        refine TL_y rfl rfl (Y_add rfl rfl (by omega)) ?_
        refine TL_name 10 (v' := .int .i64 ((i + 1 : Nat) : Int)) rfl (rfl) ?_
        refine TL_y rfl rfl (Y_assign rfl) ?_
        refine TL_nil ?_
        refine thenS_normal ?_
        exact ⟨i + 1, ⟨by omega, right_snoc hi.2 hx (by omega) (by have := hk2.2; rwa [List.take_of_length_le (by rw [List.length_take]; omega)] at this)⟩, by omega, holds_to (sub_cons rfl (sub_cons rfl (sub_nil))) GivesTo.g⟩
  · refine T_exit ?_
    refine thenS_exit ?_
    refine thenS_exit ?_
    refine inB_hit ?_
    refine thenS_normal ?_
    refine T_region ?_
    refine TL_y rfl rfl (Y_assign rfl) ?_
    refine TL_nil ?_
    refine T_ret ?_
    exact RetG_1 (.inl rfl) rfl (ResV.tmp rfl) GivesTo.g (⟨⟨true, rfl, by simp; have := hi.2; rwa [List.take_of_length_le (by omega)] at this⟩, rfl⟩)
def totX (xs : List LineD) : Int := (xs.map fun p => p.2).sum
theorem totX_snoc {xs : List LineD} {i : Nat} {p : LineD} (h : xs[i]? = some p) : totX (xs.take (i + 1)) = totX (xs.take i) + p.2 := by
  unfold totX
  rw [takeAt h, List.map_append, List.sum_append]
  simp
theorem totX_take {xs : List LineD} (hp : ∀ p ∈ xs, 0 ≤ p.2) (i : Nat) : 0 ≤ totX (xs.take i) ∧ totX (xs.take i) ≤ totX xs := by
  have h0 : ∀ l : List LineD, (∀ p ∈ l, 0 ≤ p.2) → 0 ≤ totX l := by
    intro l
    induction l with
    | nil => intro _; exact Int.le_refl _
    | cons x r ih =>
      intro h
      have h1 := ih fun p hp => h p (List.mem_cons_of_mem _ hp)
      have h2 := h x List.mem_cons_self
      unfold totX at h1 ⊢
      rw [List.map_cons, List.sum_cons]; omega
  refine ⟨h0 _ fun p h => hp p (List.mem_of_mem_take h), ?_⟩
  have h1 : totX xs = totX (xs.take i) + totX (xs.drop i) := by
    conv => lhs; rw [← List.take_append_drop i xs]
    unfold totX
    rw [List.map_append, List.sum_append]
  have h2 := h0 (xs.drop i) fun p h => hp p (List.mem_of_mem_drop h)
  omega
theorem total_spec {L : List HP} {A : Option Addr} {c : Nat} {xs : List LineD} (hp : ∀ p ∈ xs, 0 ≤ p.2) (hb : totX xs ≤ 4611686018427387904) (hk : SlN L lineR A c xs) : Fn Try.prog 19 #[.slice A xs.length c] L (fun v L' => v = .int .i64 (totX xs) ∧ L' = L) := by
  refine Fn_enter Try.func19 rfl rfl rfl rfl ?_
  refine hk.lens fun hl => ?_
  simp only [maxEl] at hl
  refine T_region ?_
  refine TL_y rfl rfl (Y_assign rfl) ?_
  refine TL_nil ?_
  refine T_region ?_
  refine TL_y rfl rfl (Y_assign rfl) ?_
  refine TL_nil ?_
  refine T_seq ?_
  refine T_region ?_
  refine TL_y rfl rfl (Y_move rfl) ?_
  refine TL_y rfl rfl (Y_len rfl) ?_
  refine TL_y rfl rfl (Y_move rfl) ?_
  refine TL_nil ?_
  refine T_block ?_
  refine T_loopK (σ := Nat) [6, 7] (fun i => i ≤ xs.length) (fun i kv => (8, .int .i64 (i : Int)) :: (3, .int .i64 (totX (xs.take i))) :: kv) (fun i => L) (fun i => xs.length - i) (0) rfl (Nat.zero_le _) (GivesTo.g) (sub_cons rfl (sub_cons rfl (sub_cons rfl (sub_cons rfl (sub_nil))))) ?_
  intro i hi
  refine T_region ?_
  refine TL_y rfl rfl (Y_lt rfl rfl) ?_
  refine TL_nil ?_
  refine T_seq ?_
  refine T_if rfl (fun h9 => ?_) (fun h9 => ?_)
  · refine T_skip ?_
    refine thenS_normal ?_
    refine T_seq ?_
    refine T_block ?_
    obtain ⟨p, hpx⟩ : ∃ p, xs[i]? = some p := ⟨_, List.getElem?_eq_getElem (by omega)⟩
    have hts := totX_snoc hpx
    have ht1 := totX_take hp i
    have ht2 := totX_take hp (i + 1)
    have hpp := hp p (List.mem_of_getElem? hpx)
    refine T_region ?_
    refine TL_index_n rfl rfl rfl (rfl) (hk) (hpx) ?_
    intro bn10 on10 hA10 hk10
    have hu10 := hpx
    refine TL_y rfl rfl (Y_load_naf rfl hk10 hu10 rfl) ?_
    refine TL_alloc rfl rfl ?_
    intro b5
    refine TL_store rfl rfl rfl rfl rfl rfl ?_
    refine TL_nil ?_
    refine T_region_last ?_
    refine TL_y rfl rfl (Y_move rfl) ?_
    refine TL_y rfl rfl (Y_field_addr rfl) ?_
    refine TL_y rfl rfl (Y_load rfl rfl) ?_
    refine TL_y rfl rfl (Y_add rfl rfl (by omega)) ?_
    refine TL_name 15 (v' := .int .i64 (totX (xs.take (i + 1)))) rfl (by rw [hts]) ?_
    refine TL_y rfl rfl (Y_assign rfl) ?_
    refine TL_nil ?_
    refine inB_normal ?_
    refine thenS_normal ?_
    refine T_region_last ?_
    refine TL_y rfl rfl (Y_add rfl rfl (by omega)) ?_
    refine TL_name 16 (v' := .int .i64 ((i + 1 : Nat) : Int)) rfl (rfl) ?_
    refine TL_y rfl rfl (Y_move rfl) ?_
    refine TL_nil ?_
    refine thenS_normal ?_
    exact ⟨i + 1, (by omega), by omega, holds_to (sub_cons rfl (sub_cons rfl (sub_cons rfl (sub_cons rfl (sub_nil))))) GivesTo.g⟩
  · refine T_exit ?_
    refine thenS_exit ?_
    refine thenS_exit ?_
    refine inB_hit ?_
    refine thenS_normal ?_
    refine T_region ?_
    refine TL_y rfl rfl (Y_move rfl) ?_
    refine TL_y rfl rfl (Y_assign rfl) ?_
    refine TL_nil ?_
    refine T_ret ?_
    rw [List.take_of_length_le (show xs.length ≤ i by omega)]
    exact RetG_1 (.inl rfl) rfl (ResV.tmp rfl) GivesTo.g (⟨rfl, rfl⟩)
abbrev lineV (t : LineD) : Value := .agg (List.toArray (lineC t))
theorem line_guard : Try.prog.eqGuardType Try.prog.depth 65 = false := by kernel_rfl
theorem line_held : Try.prog.stoodInHeld 65 = false := by kernel_rfl
theorem line_eq0 (dd : Nat) (w : World) (a b : LineD) : (Op.equalIn (dd + 2) 65 (lineV a) (lineV b)).run Try.prog w = .ok (decide (a = b)) w := by
  have hn : ∀ x y, (Op.equalIn (dd + 1) 3 (.int .i64 x) (.int .i64 y)).run Try.prog w = .ok (decide (x = y)) w := fun x y => EqIs.int (k := .i64) dd w
  have hs : ∀ x y, (Op.equalIn (dd + 1) 9 (.string x) (.string y)).run Try.prog w = .ok (decide (x = y)) w := fun x y => EqIs.str dd w
  generalize hdd : dd + 1 = d1 at hn hs
  have : dd + 2 = d1 + 1 := by omega
  rw [this]
  simp [Op.equalIn, Try.runUnderlying65, line_held, part, Try.isAgg3, Try.isAgg9, hn, hs]
  by_cases h1 : a.1 = b.1 <;> by_cases h2 : a.2 = b.2 <;> simp [h1, h2, Prod.ext_iff]
section
variable {E : Env} {L : List HP} {ty : TypeId}
theorem line_eq1 (w : World) (a b : LineD) : (Op.equal 65 (lineV a) (lineV b)).run Try.prog w = .ok (decide (a = b)) w := line_eq0 9998 w a b
theorem Y_eq_line {x y : Operand} {t' : TypeId} {a b : LineD} (hx : ev E x = some (lineV a)) (hy : ev E y = some (lineV b)) : Yl Try.prog E L (.binOp .eql 65 x y t') ty (.bool (decide (a = b))) := fun n D W ac w dst pos af g hv hs => by
  have h3 : ∀ xs ys : Array Value, Go.binOp .eql 65 (.agg xs) (.agg ys) = (do Pure.pure (Value.bool (← Op.equal 65 (.agg xs) (.agg ys))) : Sem Value) := fun xs ys => by simp only [Go.binOp]
  simp only [execOp, hv.ev hx, hv.ev hy, eqGuard, h3]
  simp [line_guard, line_eq1]
theorem Y_ne_line {x y : Operand} {t' : TypeId} {a b : LineD} (hx : ev E x = some (lineV a)) (hy : ev E y = some (lineV b)) : Yl Try.prog E L (.binOp .neq 65 x y t') ty (.bool (!decide (a = b))) := fun n D W ac w dst pos af g hv hs => by
  have h3 : ∀ xs ys : Array Value, Go.binOp .neq 65 (.agg xs) (.agg ys) = (do Pure.pure (Value.bool (!(← Op.equal 65 (.agg xs) (.agg ys)))) : Sem Value) := fun xs ys => by simp only [Go.binOp]
  simp only [execOp, hv.ev hx, hv.ev hy, eqGuard, h3]
  simp [line_guard, line_eq1]
end
theorem equalL_spec {L : List HP} {A B : Option Addr} {c d : Nat} {xs ys : List LineD} (hk : SlN L lineR A c xs) (hk2 : SlN L lineR B d ys) : Fn Try.prog 62 #[.slice A xs.length c, .slice B ys.length d] L (fun v L' => v = .bool (decide (xs = ys)) ∧ L' = L) := by
  refine Fn_enter Try.func62 rfl rfl rfl rfl ?_
  refine hk.lens fun hl => ?_
  simp only [maxEl] at hl
  refine T_region ?_
  refine TL_y rfl rfl (Y_assign rfl) ?_
  refine TL_nil ?_
  refine T_seq ?_
  refine T_region ?_
  refine TL_y rfl rfl (Y_move rfl) ?_
  refine TL_y rfl rfl (Y_len rfl) ?_
  refine TL_y rfl rfl (Y_move rfl) ?_
  refine TL_y rfl rfl (Y_len rfl) ?_
  refine TL_y rfl rfl (Y_ne rfl rfl) ?_
  refine TL_nil ?_
  refine T_if rfl (fun h10 => ?_) (fun h10 => ?_)
  · refine T_region ?_
    refine TL_y rfl rfl (Y_assign rfl) ?_
    refine TL_nil ?_
    refine T_ret ?_
    refine thenS_ret ?_
    exact RetG_1 (.inl rfl) rfl (ResV.tmp rfl) GivesTo.g (⟨by rw [decide_eq_false]; rintro rfl; exact h10 rfl, rfl⟩)
  · refine T_skip ?_
    refine thenS_normal ?_
    refine T_seq ?_
    refine T_region ?_
    refine TL_y rfl rfl (Y_move rfl) ?_
    refine TL_y rfl rfl (Y_len rfl) ?_
    refine TL_y rfl rfl (Y_move rfl) ?_
    refine TL_nil ?_
    refine T_block ?_
    refine T_loopK (σ := Nat) [0, 1, 12] (fun i => i ≤ xs.length ∧ xs.take i = ys.take i) (fun i kv => (13, .int .i64 (i : Int)) :: kv) (fun i => L) (fun i => xs.length - i) (0) rfl (⟨Nat.zero_le _, rfl⟩) (GivesTo.g) (sub_cons rfl (sub_cons rfl (sub_cons rfl (sub_cons rfl (sub_nil))))) ?_
    intro i hi
    refine T_region ?_
    refine TL_y rfl rfl (Y_lt rfl rfl) ?_
    refine TL_nil ?_
    refine T_seq ?_
    refine T_if rfl (fun h14 => ?_) (fun h14 => ?_)
    · refine T_skip ?_
      refine thenS_normal ?_
      refine T_seq ?_
      refine T_block ?_
      refine T_region ?_
      refine TL_y rfl rfl (Y_move rfl) ?_
      refine TL_y rfl rfl (Y_assign rfl) ?_
      refine TL_nil ?_
      have hx := List.getElem?_eq_getElem (show i < xs.length by omega)
      have hy := List.getElem?_eq_getElem (show i < ys.length by omega)
      refine T_addr_n hk hx fun b1 o1 e1 => ?_
      refine T_addr_n hk2 hy fun b2 o2 e2 => ?_
      subst e1
      subst e2
      refine T_region_draw _ [0, 0, 3, 7, 0, 0, 48, 112, 255] [] [(0, true), (1, true), (2, true), (3, true), (4, true), (5, true), (6, true), (7, true), (8, true)] (by kernel_rfl) (by decide +kernel) (Gives.refl _) ?_
      refine TF_y rfl rfl (Y_move rfl) ?_
      refine TF_y rfl rfl (Y_move rfl) ?_
      refine TF_y rfl rfl (Y_index_n (R := lineR) (xs := xs) rfl rfl rfl hx) ?_
      refine TF_y rfl rfl (Y_load_naf (q := 0) (vs := lineC xs[i]) rfl hk hx rfl) ?_
      refine TF_y rfl rfl (Y_move rfl) ?_
      refine TF_y rfl rfl (Y_move rfl) ?_
      refine TF_y rfl rfl (Y_index_n (R := lineR) (xs := ys) rfl rfl rfl hy) ?_
      refine TF_y rfl rfl (Y_load_naf (q := 0) (vs := lineC ys[i]) rfl hk2 hy rfl) ?_
      refine TF_y rfl rfl (Y_ne_line rfl rfl) ?_
      refine TF_name 24 (v' := .bool (decide (xs[i] ≠ ys[i]))) rfl (by by_cases h : xs[i] = ys[i] <;> simp [h]) ?_
      refine TF_nil ?_
      refine T_if rfl (fun h24 => ?_) (fun h24 => ?_)
      · refine T_region ?_
        refine TL_y rfl rfl (Y_assign rfl) ?_
        refine TL_nil ?_
        refine T_ret ?_
        refine inB_ret ?_
        refine thenS_ret ?_
        refine thenS_ret ?_
        refine inB_ret ?_
        refine thenS_ret ?_
        exact RetG_1 (.inl rfl) rfl (ResV.tmp rfl) GivesTo.g (⟨by rw [decide_eq_false]; rintro rfl; exact h24 rfl, rfl⟩)
      · refine T_skip ?_
        refine inB_normal ?_
        refine thenS_normal ?_
        refine T_region_last ?_
        refine TL_y rfl rfl (Y_add rfl rfl (by omega)) ?_
        refine TL_name 25 (v' := .int .i64 ((i + 1 : Nat) : Int)) rfl (by simp) ?_
        refine TL_y rfl rfl (Y_move rfl) ?_
        refine TL_nil ?_
        refine thenS_normal ?_
        exact ⟨i + 1, ⟨by omega, takeStep hi.2 hx hy (Classical.not_not.1 h24)⟩, by omega, holds_to (sub_cons rfl (sub_cons rfl (sub_cons rfl (sub_cons rfl (sub_nil))))) GivesTo.g⟩
    · refine T_exit ?_
      refine thenS_exit ?_
      refine thenS_exit ?_
      refine inB_hit ?_
      refine thenS_normal ?_
      refine T_region ?_
      refine TL_y rfl rfl (Y_assign rfl) ?_
      refine TL_nil ?_
      refine T_ret ?_
      exact RetG_1 (.inl rfl) rfl (ResV.tmp rfl) GivesTo.g (⟨by rw [decide_eq_true (takeAll hi.2 (by omega) (by omega))], rfl⟩)
theorem sameL_spec {L : List HP} {A B : Option Addr} {c d : Nat} {xs ys : List LineD} (hk : SlN L lineR A c xs) (hk2 : SlN L lineR B d ys) : Fn Try.prog 35 #[.slice A xs.length c, .slice B ys.length d] L (fun v L' => v = .bool (decide (xs = ys)) ∧ L' = L) := by
  refine Fn_enter Try.func35 rfl rfl rfl rfl ?_
  refine T_region ?_
  refine TL_y rfl rfl (Y_assign rfl) ?_
  refine TL_nil ?_
  refine T_region ?_
  refine TL_y rfl rfl (Y_move rfl) ?_
  refine TL_y rfl rfl (Y_move rfl) ?_
  refine TL_call rfl rfl (equalL_spec hk hk2) ?_
  rintro _ _ ⟨rfl, rfl⟩
  refine TL_y rfl rfl (Y_assign rfl) ?_
  refine TL_nil ?_
  refine T_ret ?_
  exact RetG_1 (.inl rfl) rfl (ResV.tmp rfl) GivesTo.g (⟨rfl, rfl⟩)
end Go.SL
set_option linter.unusedVariables false
set_option linter.unusedSimpArgs false
namespace Go.SL
open Go Go.Proofs
theorem cells_cons {α : Type} {R : Rep α} {L : List HP} {x : α} {xs : List α} {l cs : List Value} (h : Knows L (fun M => R.rep M x l)) (k : Knows L (fun M => CellsOf M R xs cs)) : Knows L (fun M => CellsOf M R (x :: xs) (l ++ cs)) := (h.and k).mono fun M h => ⟨l, cs, h.1, h.2, rfl⟩
abbrev lc1 : EventD := ⟨(0, 1), [], ⟨#[99]⟩, 0, ⟨#[116, 101, 97]⟩, 2, false⟩
abbrev lc2 : EventD := ⟨(1, 1), [], ⟨#[99]⟩, 0, ⟨#[116, 101, 97]⟩, 1, false⟩
abbrev lc3 : EventD := ⟨(0, 2), [1], ⟨#[99]⟩, 0, ⟨#[116, 101, 97]⟩, 0, true⟩
theorem lc_stand : standC [lc1, lc2, lc3] = [lc2, lc3] := by decide +kernel
theorem lc_count : countC [lc1, lc2, lc3] = [lc2, lc3] := by decide +kernel
theorem lc_line (k : ByteArray) : lineF [lc1, lc2, lc3] ⟨#[99]⟩ k = if (⟨#[116, 101, 97]⟩ : ByteArray) = k then 1 else 0 := by
  rw [lineF_eq, lc_count]
  by_cases h : (⟨#[116, 101, 97]⟩ : ByteArray) = k <;> simp [ofC, h, sumC]
theorem lc_lines : IsLines [lc1, lc2, lc3] ⟨#[99]⟩ [(⟨#[116, 101, 97]⟩, 1)] := ⟨List.pairwise_singleton _ _, fun k q => by
  rw [lc_line, List.mem_singleton, Prod.mk.injEq]
  constructor
  · rintro ⟨rfl, rfl⟩; simp
  · rintro ⟨h1, h2⟩
    by_cases h : (⟨#[116, 101, 97]⟩ : ByteArray) = k
    · rw [if_pos h] at h1; exact ⟨h.symm, h1⟩
    · rw [if_neg h] at h1; omega, by rw [lc_count]; decide +kernel⟩
theorem lc_xs {xs : List LineD} (h : IsLines [lc1, lc2, lc3] ⟨#[99]⟩ xs) : xs = [(⟨#[116, 101, 97]⟩, 1)] := h.ext lc_lines fun _ => rfl
theorem evOk_mk {e : EventD} (h1 : 0 ≤ e.dot.1 ∧ e.dot.1 ≤ 1000 ∧ 0 ≤ e.dot.2 ∧ e.dot.2 ≤ 1000) (h2 : e.deps.length ≤ 1000) (h3 : e.cart.size ≤ maxEl) (h4 : e.epoch = 0) (h5 : e.sku.size ≤ maxEl) (h6 : 0 ≤ e.qty ∧ e.qty ≤ 1000) : eventOk e := ⟨i64In_mk (by omega), i64In_mk (by omega), by omega, h3, i64In_mk (by omega), h5, i64In_mk (by omega)⟩
theorem lc_size3 : (⟨#[116, 101, 97]⟩ : ByteArray).size ≤ maxEl := by show (3 : Nat) ≤ maxEl; decide
theorem lc_size1 : (⟨#[99]⟩ : ByteArray).size ≤ maxEl := by show (1 : Nat) ≤ maxEl; decide
theorem lc1_ok : eventOk lc1 := evOk_mk (by decide) (by decide) lc_size1 rfl lc_size3 (by decide)
theorem lc2_ok : eventOk lc2 := evOk_mk (by decide) (by decide) lc_size1 rfl lc_size3 (by decide)
theorem lc3_ok : eventOk lc3 := evOk_mk (by decide) (by decide) lc_size1 rfl lc_size3 (by decide)
theorem lives11_spec (L : List HP) : Fn Try.prog 12 #[] L (fun v L' => v = .bool true ∧ L' = L) := by
  refine Fn_enter Try.func12 rfl rfl rfl rfl ?_
  refine T_gives (slnil (R := intR .i64) (A := none) (c := 0)).lay ?_
  refine T_region ?_
  refine TL_y rfl rfl (Y_assign rfl) ?_
  refine TL_nil ?_
  refine T_region ?_
  refine TL_y rfl rfl (Y_build rfl rfl) ?_
  refine TL_y rfl rfl (Y_build rfl rfl) ?_
  refine TL_y rfl rfl (Y_build rfl rfl) ?_
  refine TL_y rfl rfl (Y_build rfl rfl) ?_
  refine TL_y rfl rfl (Y_build rfl rfl) ?_
  refine TL_build_slice rfl rfl rfl rfl rfl rfl ?_
  intro b8
  refine TL_osl (k := 1) (intR .i64) [1] (Knows.const (cells_ints (xs := [1]) (k := .i64) (fun x hx => by rw [List.mem_singleton.1 hx]; decide))) rfl (by decide) ?_
  refine TL_freeze_osl ?_
  refine TL_y rfl rfl (Y_build rfl rfl) ?_
  refine TL_build_slice rfl rfl rfl rfl rfl rfl ?_
  intro b10
  refine TL_osl (k := 3) eventR [lc1, lc2, lc3] (cells_cons (ex_rep (u := lc1) ((none : Option Addr), (0 : Nat)) (sep_sl slk) lc1_ok) (cells_cons (ex_rep (u := lc2) ((none : Option Addr), (0 : Nat)) (sep_sl slk) lc2_ok) (cells_one' (ex_rep (u := lc3) ((some ⟨b8, 0, none⟩ : Option Addr), (1 : Nat)) (sep_sl slk) lc3_ok)))) rfl (by decide) ?_
  refine TL_freeze_osl ?_
  refine TL_name 10 (v' := .slice (some ⟨b10, 0, none⟩) [lc1, lc2, lc3].length 3) rfl rfl ?_
  refine TL_y rfl rfl (Y_assign rfl) ?_
  refine TL_nil ?_
  refine T_region ?_
  refine TL_y rfl rfl (Y_move rfl) ?_
  refine TL_call rfl rfl (lines_spec (l := [lc1, lc2, lc3]) ⟨#[99]⟩ slk (by decide) (by decide)) ?_
  rintro _ _ ⟨A12, c12, xs12, rfl, rfl, hx12, hl12⟩
  obtain rfl := lc_xs hx12
  refine TL_freeze_osl ?_
  refine TL_y rfl rfl (Y_assign rfl) ?_
  refine TL_nil ?_
  refine T_region ?_
  refine TL_y rfl rfl (Y_move rfl) ?_
  refine TL_y rfl rfl (Y_len rfl) ?_
  refine TL_y rfl rfl (Y_eq rfl rfl) ?_
  refine TL_name 15 (v' := .bool true) rfl (rfl) ?_
  refine TL_y rfl rfl (Y_move rfl) ?_
  refine TL_grun rfl rfl ?_
  refine TL_y rfl rfl (Y_move rfl) ?_
  refine TL_grun rfl rfl ?_
  refine TL_index_n rfl rfl rfl (rfl) ((sln (A := A12) (c := c12) (R := lineR) (xs := [(⟨#[116, 101, 97]⟩, 1)]))) (show ([(⟨#[116, 101, 97]⟩, 1)] : List LineD)[0]? = some (⟨#[116, 101, 97]⟩, 1) from rfl) ?_
  intro bn18 on18 hA18 hk18
  have hu18 := show ([(⟨#[116, 101, 97]⟩, 1)] : List LineD)[0]? = some (⟨#[116, 101, 97]⟩, 1) from rfl
  refine TL_grun rfl rfl ?_
  refine TL_y rfl rfl (Y_load_naf (q := 0) (vs := lineC (⟨#[116, 101, 97]⟩, 1)) rfl hk18 hu18 rfl) ?_
  refine TL_grun rfl rfl ?_
  refine TL_y rfl rfl (Y_build rfl rfl) ?_
  refine TL_grun rfl rfl ?_
  refine TL_y rfl rfl (Y_eq_line (a := (⟨#[116, 101, 97]⟩, 1)) (b := (⟨#[116, 101, 97]⟩, 1)) rfl rfl) ?_
  refine TL_name 21 (v' := .bool true) rfl (congrArg Value.bool (decide_eq_true rfl)) ?_
  refine TL_y rfl rfl (Y_pick_t rfl rfl) ?_
  refine TL_y rfl rfl (Y_move rfl) ?_
  refine TL_grun rfl rfl ?_
  refine TL_y rfl rfl (Y_move rfl) ?_
  refine TL_grun rfl rfl ?_
  refine TL_call rfl rfl (total_spec (xs := [(⟨#[116, 101, 97]⟩, 1)]) (by decide) (by decide) sln) ?_
  rintro _ _ ⟨rfl, rfl⟩
  refine TL_grun rfl rfl ?_
  refine TL_y rfl rfl (Y_eq rfl rfl) ?_
  refine TL_name 26 (v' := .bool true) rfl (congrArg Value.bool (decide_eq_true rfl)) ?_
  refine TL_y rfl rfl (Y_pick_t rfl rfl) ?_
  refine TL_y rfl rfl (Y_move rfl) ?_
  refine TL_grun rfl rfl ?_
  refine TL_y rfl rfl (Y_move rfl) ?_
  refine TL_grun rfl rfl ?_
  refine TL_call rfl rfl (stand_spec (l := [lc1, lc2, lc3]) slk (by decide)) ?_
  rintro _ _ ⟨A30, c30, rfl, rfl⟩
  refine TL_grun rfl rfl ?_
  refine TL_y rfl rfl (Y_len rfl) ?_
  refine TL_grun rfl rfl ?_
  refine TL_y rfl rfl (Y_eq rfl rfl) ?_
  refine TL_name 32 (v' := .bool true) rfl (by rw [lc_stand]; rfl) ?_
  refine TL_y rfl rfl (Y_pick_t rfl rfl) ?_
  refine TL_y rfl rfl (Y_move rfl) ?_
  refine TL_grun rfl rfl ?_
  refine TL_y rfl rfl (Y_move rfl) ?_
  refine TL_grun rfl rfl ?_
  refine TL_y rfl rfl (Y_move rfl) ?_
  refine TL_grun rfl rfl ?_
  refine TL_call rfl rfl (sameL_spec (xs := [(⟨#[116, 101, 97]⟩, 1)]) (ys := [(⟨#[116, 101, 97]⟩, 1)]) sln sln) ?_
  rintro _ _ ⟨rfl, rfl⟩
  refine TL_name 37 (v' := .bool true) rfl (congrArg Value.bool (decide_eq_true rfl)) ?_
  refine TL_y rfl rfl (Y_pick_t rfl rfl) ?_
  refine TL_y rfl rfl (Y_assign rfl) ?_
  refine TL_nil ?_
  refine T_ret ?_
  exact RetG_1 (.inl rfl) rfl (ResV.tmp rfl) GivesTo.g (⟨rfl, rfl⟩)
/-! ### What a removal had not seen -/
abbrev apE (name sku : ByteArray) (qty : Int) : EventD := ⟨(6, 1), [], name, 0, sku, qty, false⟩
end Go.SL
set_option linter.unusedVariables false
set_option linter.unusedSimpArgs false
namespace Go.SL
open Go Go.Proofs
abbrev knX (name sku : ByteArray) (a : Int) : EventD := ⟨(0, 1), [], name, 0, sku, a, true⟩
abbrev knY (name sku : ByteArray) (b : Int) (dp : List Int) : EventD := ⟨(1, 1), dp, name, 0, sku, b, true⟩
end Go.SL
set_option linter.unusedVariables false
set_option linter.unusedSimpArgs false
namespace Go.SL
open Go Go.Proofs
def wCut (bb : Nat) (V : Option Addr) (cv : Nat) (v : List Int) : HP := unS [cells bb [.slice V v.length cv] 27, sl (intR .i64) V cv v]
def cutC (l : List EventD) (v : List Int) : List EventD := l.filter fun e => decide (hasV v e.dot)
def leftC (l : List EventD) (v : List Int) : List EventD := l.filter fun e => !decide (hasV v e.dot)
/-! ### Pieces -/
theorem IsLines.pos {l : List EventD} {cart : ByteArray} {xs : List LineD} (h : IsLines l cart xs) : ∀ p ∈ xs, 0 ≤ p.2 := fun p hp => by
  obtain ⟨k, q⟩ := p
  have := ((h.mem k q).1 hp).2
  simp only; omega
structure PcSt where
  k : Nat
  A : Option Addr
  c : Nat
end Go.SL
set_option linter.unusedVariables false
set_option linter.unusedSimpArgs false
namespace Go.SL
open Go Go.Lib
section
variable {P : Program}
theorem zeroCells_empty {sz m : Nat} {z : Array Value} (hz : z.size = sz) (h : m * sz = 0) : Builtin.zeroCells z m = #[] := Array.eq_empty_of_size_eq_zero (by rw [size_zeroCells, hz, h])
theorem run_append_room_z {t u e : TypeId} {k : IntKind} {z : Value} {size bytes g sLen sCap m : Nat} {cur : List Value} {w : World} {ty' : TypeId} [ht : TyDesc P t (.slice e)] [hu : TyDesc P u (.int k)] [he : TyElem P e z size bytes] (hzl : z.cells.size = size) (hone : ∀ u ∈ (Builtin.zeroCells z.cells m).toList, u.oneCell' = true) (hg : w.heap[g]? = some (.cells cur.toArray e (0, 0)))
    (hroom : sLen + m ≤ sCap) (hfit : (sLen + m) * size ≤ cur.length) (hm : m * bytes ≤ 140737488355328) (hm2 : m ≤ 140737488355328) :
    (Builtin.append_ #[t, u] ty' #[.slice (some ⟨g, 0, none⟩) sLen sCap, .int .i64 (m : Int)]).run P w = .ok (.slice (some ⟨g, 0, none⟩) (sLen + m) sCap) (w.setRow g (cur.take (sLen * size) ++ (Builtin.zeroCells z.cells m).toList ++ cur.drop ((sLen + m) * size)).toArray) := by
  obtain ⟨i, hi, hz, hsz, hby⟩ := run_typeInfo (P := P) (e := e) (z := z) (size := size) (bytes := bytes)
  have hcount : (Builtin.zeroCells z.cells m).toList.length = m * size := by rw [Array.length_toList, size_zeroCells, hzl]
  have hst := run_storeCells_at P g (sLen * size) e (Builtin.zeroCells z.cells m).toList 0 cur.toArray w hg (by simp [hcount, ← Nat.add_mul]; exact hfit) hone
  simp only [Nat.add_zero] at hst
  have hw : IntKind.i64.wrap (m : Int) = (m : Int) := IntWalk.i64_in _ (by omega)
  have hneg : ¬ ((m : Int) < 0) := by omega
  have h48 : ¬ (281474976710656 < (m : Int) * (bytes : Int)) := by
    have : (m : Int) * (bytes : Int) = ((m * bytes : Nat) : Int) := by simp
    rw [this]; omega
  simp [Builtin.append_, ht.run, hu.run, sizeOf, typeInfo, zeroValue, hi, hz, hsz, hby, asInt, asIntOf, hw, hneg, h48, hroom, Addr.add_plain, hst, hcount, Nat.add_mul]
  intro h0
  rw [zeroCells_empty hzl h0] at hst ⊢
  simp only [List.length_nil, Nat.add_zero, List.append_nil, List.nil_append] at hst ⊢
  rw [hst, h0]
  simp
theorem run_append_none_z {t u e : TypeId} {k : IntKind} {z : Value} {size bytes sLen sCap : Nat} {A : Option Addr} {w : World} {ty' : TypeId} [ht : TyDesc P t (.slice e)] [hu : TyDesc P u (.int k)] [he : TyElem P e z size bytes] (hzl : z.cells.size = size) (hroom : sLen ≤ sCap) :
    (Builtin.append_ #[t, u] ty' #[.slice A sLen sCap, .int .i64 ((([] : List Nat).length : Nat) : Int)]).run P w = .ok (.slice A sLen sCap) w := by
  obtain ⟨i, hi, hz, hsz, hby⟩ := run_typeInfo (P := P) (e := e) (z := z) (size := size) (bytes := bytes)
  have hw : IntKind.i64.wrap 0 = 0 := IntWalk.i64_in _ (by omega)
  cases A <;> simp [Builtin.append_, ht.run, hu.run, sizeOf, typeInfo, zeroValue, hi, hz, hsz, hby, asInt, asIntOf, hw, hroom, storeCells]
theorem run_append_grow_z {t u e : TypeId} {k : IntKind} {z : Value} {size bytes sLen sCap m : Nat} {A : Option Addr} {w : World} {olds : List Value} {ty' : TypeId} [ht : TyDesc P t (.slice e)] [hu : TyDesc P u (.int k)] [he : TyElem P e z size bytes] (hb : 0 < bytes) (hzl : z.cells.size = size)
    (hlo : olds.length = sLen * size) (holds : sLen = 0 ∨ ∃ a, A = some a ∧ ∀ j v, olds[j]? = some v → w.cell? (a.add j) = some v) (hg : sCap < sLen + m) (h63 : sLen + m ≤ 9223372036854775807) (hfit : (sLen + m) * bytes ≤ 140737488355328) :
    (Builtin.append_ #[t, u] ty' #[.slice A sLen sCap, .int .i64 (m : Int)]).run P w = .ok (.slice (some ⟨w.heap.size, 0, none⟩) (sLen + m) (grownCap w (sLen + m) sCap e))
      (w.drew.alloc (.cells (olds.toArray ++ (Builtin.zeroCells z.cells m).toList.toArray ++ Builtin.zeroCells z.cells (grownCap w (sLen + m) sCap e - (sLen + m))) e)) := by
  obtain ⟨i, hi, hz, hsz, hby⟩ := run_typeInfo (P := P) (e := e) (z := z) (size := size) (bytes := bytes)
  have hn : ¬ (sLen + m ≤ sCap) := by omega
  have h63' : ¬ (9223372036854775807 < ((sLen : Int) + (m : Int))) := by omega
  have h48 := growslice_fits hg hfit
  have h48' : ¬ (281474976710656 < Builtin.nextslicecap (sLen + m) sCap * bytes) := by omega
  have hmb : m * bytes ≤ 140737488355328 := Nat.le_trans (Nat.mul_le_mul_right _ (by omega)) hfit
  have hw : IntKind.i64.wrap (m : Int) = (m : Int) := IntWalk.i64_in _ (by omega)
  have hneg : ¬ ((m : Int) < 0) := by omega
  have h48z : ¬ (281474976710656 < (m : Int) * (bytes : Int)) := by
    have : (m : Int) * (bytes : Int) = ((m * bytes : Nat) : Int) := by simp
    rw [this]; omega
  have hfo : (Builtin.firstCells size sLen (.slice A sLen sCap)).run P w.drew = .ok olds.toArray w.drew := run_firstCells' (w := w) rfl holds hlo
  simp [Builtin.append_, ht.run, hu.run, sizeOf, typeInfo, zeroValue, hi, hz, hsz, hby, asInt, asIntOf, hw, hneg, h48z, hn, h63', h48', Question.forced, hfo, newRow, grownCap]
  intro h0
  rw [zeroCells_empty hzl h0]
  simp
end
section
variable {r : Option Nat} {n : Nat} {P : Program} {ops : Array Oper} {rest : List Oper} {K : St → Prop} {Q : Exit → St → Prop} {D : List Deferred} {E : Env} {L L' : List HP} {d : Nat} {ty : TypeId} {pos : String} {af : Array Edge}
variable {α : Type} {R : Rep α} {A : Option Addr} {c : Nat} {xs ys : List α}
/-- Zeros appended to a slice that is ours: what comes of it. -/
theorem append_own_z {t u e : TypeId} {k0 : IntKind} {z : Value} {bytes c : Nat} {W w : World} [ht : TyDesc P t (.slice e)] [hu : TyDesc P u (.int k0)] [he : TyElem P e z R.sz bytes] (hb : 0 < bytes) (hzl : z.cells.size = R.sz) (hs : Sat W w (osl R e A c xs :: L)) (hone : ∀ u ∈ (Builtin.zeroCells z.cells ys.length).toList, u.oneCell' = true)
    (hcells : ∀ M h, Sep L M h → M.le (heapOf w) → CellsOf M R ys (Builtin.zeroCells z.cells ys.length).toList) (hfit : (xs.length + ys.length) * bytes ≤ 140737488355328) (ty' : TypeId) :
    ∃ A' c' w', (Builtin.append_ #[t, u] ty' #[.slice A xs.length c, .int .i64 (ys.length : Int)]).run P w = .ok (.slice A' (xs ++ ys).length c') w' ∧ Sat W w' (osl R e A' c' (xs ++ ys) :: L) := by
  have hcount : (Builtin.zeroCells z.cells ys.length).toList.length = ys.length * R.sz := by rw [Array.length_toList, size_zeroCells, hzl]
  have hlen : (xs ++ ys).length = xs.length + ys.length := by simp
  have hmax : xs.length + ys.length ≤ 140737488355328 := Nat.le_trans (Nat.le_mul_of_pos_right _ hb) hfit
  have hmaxEl : (xs ++ ys).length ≤ maxEl := by rw [hlen]; unfold maxEl; omega
  obtain ⟨M, k, hd, hM, hk, h1, h2, hd', l1, l2, hp, hsep⟩ := hs.ex
  have hnc := hcells M h2 hsep hM
  -- growing: all cells lie in a new block
  have grow : ∀ (olds : List Value), CellsOf M R xs olds → (xs.length = 0 ∨ ∃ a, A = some a ∧ ∀ j v, olds[j]? = some v → w.cell? (a.add j) = some v) → c < xs.length + ys.length →
      ∃ A' c' w', (Builtin.append_ #[t, u] ty' #[.slice A xs.length c, .int .i64 (ys.length : Int)]).run P w = .ok (.slice A' (xs ++ ys).length c') w' ∧ Sat W w' (osl R e A' c' (xs ++ ys) :: L) := by
    intro olds ho hold hg
    have hr := run_append_grow_z (P := P) (t := t) (u := u) (e := e) (z := z) (size := R.sz) (bytes := bytes) (ty' := ty') (m := ys.length) hb hzl ho.length hold hg (by omega) hfit
    refine ⟨_, _, _, by rw [hlen]; exact hr, ?_⟩
    have hcap := grownCap_ge w (xs.length + ys.length) c e
    have hcapm : grownCap w (xs.length + ys.length) c e ≤ maxLen := grownCap_le_maxLen w _ c e (by simp only [maxLen]; omega)
    have hsat : Sat W w.drew L := (hs.gives (Gives.drop _ _)).drew
    have hsat0 : Sat W w.drew (pers (fun M => CellsOf M R (xs ++ ys) (olds ++ (Builtin.zeroCells z.cells ys.length).toList)) (fun hM h => cellsOf_mono hM h) :: L) := by
      refine ⟨⟨M, h2, Mem.disj_le hd (Mem.le_refl _) l2, hM, Mem.le_trans l2 hk, Mem.emp, h2, Mem.emp_disj _, Mem.emp_le _, Mem.le_refl _, ho.append hnc, hsep⟩, hsat.os, hsat.tape, hsat.output, hsat.size⟩
    have hall := hsat0.alloc (.cells (olds.toArray ++ (Builtin.zeroCells z.cells ys.length).toList.toArray ++ Builtin.zeroCells z.cells (grownCap w (xs.length + ys.length) c e - (xs.length + ys.length))) e)
    refine hall.gives fun N m ⟨k1, k2, kd, m1, m2, ha, k3, k4, kd', m3, m4, hcs, hs'⟩ => ?_
    refine ⟨k1, k4, Mem.disj_le kd (Mem.le_refl _) m4, m1, Mem.le_trans m4 m2, ⟨hmaxEl, .inr ⟨_, _, rfl, ha, ?_, by rw [hlen]; exact hcap, by simpa [maxLen] using hcapm, fun i x hi => ?_⟩⟩, hs'⟩
    · have hl1 := ho.length
      have hl2 := hnc.length
      simp only [Array.size_append, List.size_toArray, size_zeroCells, hl1, hl2, hzl, ← Nat.add_mul]
      congr 1
      omega
    · obtain ⟨l, a, b⟩ := hcs.at_ i x hi
      refine ⟨l, a, fun j v hj => ?_⟩
      have hb := b j v hj
      have hlt : i * R.sz + j < (olds ++ (Builtin.zeroCells z.cells ys.length).toList).length := (List.getElem?_eq_some_iff.1 hb).1
      rw [Array.getElem?_append_left (by simpa using hlt)]
      rw [show olds.toArray ++ (Builtin.zeroCells z.cells ys.length).toList.toArray = (olds ++ (Builtin.zeroCells z.cells ys.length).toList).toArray by simp, List.getElem?_toArray]
      exact hb
  rcases hp.2 with ⟨rfl, rfl⟩ | ⟨g, cur, rfl, hg, hsz, hl, hc, hx⟩
  · by_cases hm : ys.length = 0
    · have : ys = [] := List.eq_nil_of_length_eq_zero hm
      subst this
      exact ⟨A, 0, w, run_append_none_z (P := P) (z := z) (size := R.sz) (bytes := bytes) hzl (Nat.le_refl _), hs⟩
    · exact grow [] rfl (.inl rfl) (by simp; omega)
  · have hw : w.heap[g]? = some (.cells cur e (0, 0)) := hk _ _ (l1 _ _ hg)
    by_cases hroom : xs.length + ys.length ≤ c
    · have hfit2 : (xs.length + ys.length) * R.sz ≤ cur.toList.length := by simp [hsz]; exact Nat.mul_le_mul_right _ hroom
      have hr := run_append_room_z (P := P) (t := t) (u := u) (z := z) (size := R.sz) (bytes := bytes) (ty' := ty') (m := ys.length) (cur := cur.toList) hzl hone (by simpa using hw) hroom hfit2 (Nat.le_trans (Nat.mul_le_mul_right _ (by omega)) hfit) (by omega)
      refine ⟨_, _, _, by rw [hlen]; exact hr, ?_⟩
      have hsat1 : Sat W w (own g (.cells cur e (0, 0)) :: pers (fun M => (∀ i x, xs[i]? = some x → ∃ l, R.rep M x l ∧ ∀ j v, l[j]? = some v → cur[i * R.sz + j]? = some v) ∧ CellsOf M R ys (Builtin.zeroCells z.cells ys.length).toList) (fun hM h => ⟨fun i x hi => let ⟨l, a, b⟩ := h.1 i x hi; ⟨l, R.mono hM a, b⟩, cellsOf_mono hM h.2⟩) :: L) :=
        ⟨⟨M, k, hd, hM, hk, h1, h2, hd', l1, l2, hg, Mem.emp, h2, Mem.emp_disj _, Mem.emp_le _, Mem.le_refl _, ⟨hx, hnc⟩, hsep⟩, hs.os, hs.tape, hs.output, hs.size⟩
      have hset := Sat.set hsat1 (w' := w.setRow g (cur.toList.take (xs.length * R.sz) ++ (Builtin.zeroCells z.cells ys.length).toList ++ cur.toList.drop ((xs.length + ys.length) * R.sz)).toArray) (y := .cells (cur.toList.take (xs.length * R.sz) ++ (Builtin.zeroCells z.cells ys.length).toList ++ cur.toList.drop ((xs.length + ys.length) * R.sz)).toArray e (0, 0))
        (by simp only [World.setRow, Array.getElem?_modify, if_true, hw, Option.map_some]) (fun i hi => by simp only [World.setRow, Array.getElem?_modify]; rw [if_neg (Ne.symm hi)]) rfl rfl rfl (by simp [World.setRow])
      refine hset.gives fun N m ⟨k1, k2, kd, m1, m2, ha, k3, k4, kd', m3, m4, ⟨hx', hn'⟩, hs'⟩ => ?_
      have hnl := hn'.length
      have hcl : cur.toList.length = c * R.sz := by simp [hsz]
      refine ⟨k1, k4, Mem.disj_le kd (Mem.le_refl _) m4, m1, Mem.le_trans m4 m2, ⟨hmaxEl, .inr ⟨g, _, rfl, ha, ?_, by rw [hlen]; exact hroom, hc, fun i x hi => ?_⟩⟩, hs'⟩
      · simp only [List.size_toArray, List.length_append, List.length_take, List.length_drop, hnl, hcl]
        have e1 : (xs.length + ys.length) * R.sz = xs.length * R.sz + ys.length * R.sz := Nat.add_mul _ _ _
        omega
      · have e1 : (xs.length + ys.length) * R.sz = xs.length * R.sz + ys.length * R.sz := Nat.add_mul _ _ _
        have hle : xs.length * R.sz ≤ cur.toList.length := by omega
        have htl : (cur.toList.take (xs.length * R.sz)).length = xs.length * R.sz := by rw [List.length_take]; omega
        by_cases hi2 : i < xs.length
        · rw [List.getElem?_append_left hi2] at hi
          obtain ⟨l, a, b⟩ := hx' i x hi
          refine ⟨l, a, fun j v hj => ?_⟩
          have hjl : j < R.sz := by rw [← R.len a]; exact (List.getElem?_eq_some_iff.1 hj).1
          have hin : i * R.sz + j < xs.length * R.sz := by
            have : (i + 1) * R.sz ≤ xs.length * R.sz := Nat.mul_le_mul_right _ hi2
            rw [Nat.add_mul] at this
            omega
          have hb := b j v hj
          simp only [List.getElem?_toArray]
          rw [List.append_assoc, List.getElem?_append_left (by omega), List.getElem?_take, if_pos hin]
          simpa using hb
        · rw [List.getElem?_append_right (by omega)] at hi
          obtain ⟨l, a, b⟩ := hn'.at_ _ x hi
          refine ⟨l, a, fun j v hj => ?_⟩
          have hb := b j v hj
          have hlt : (i - xs.length) * R.sz + j < (Builtin.zeroCells z.cells ys.length).toList.length := (List.getElem?_eq_some_iff.1 hb).1
          have hge : xs.length * R.sz ≤ i * R.sz := Nat.mul_le_mul_right _ (by omega)
          have hsub : (i - xs.length) * R.sz = i * R.sz - xs.length * R.sz := Nat.sub_mul _ _ _
          simp only [List.getElem?_toArray]
          rw [List.append_assoc, List.getElem?_append_right (by omega), htl, show i * R.sz + j - xs.length * R.sz = (i - xs.length) * R.sz + j by omega, List.getElem?_append_left hlt]
          exact hb
    · obtain ⟨olds, h3, h4⟩ := cells_of_array (R := R) (M := M) (cur := cur) (o := 0) (xs := xs) (k := 0) (fun i x hi => by
        obtain ⟨l, a, b⟩ := hx i x hi
        exact ⟨l, a, fun j v hj => by rw [Nat.zero_add, Nat.zero_add]; exact b j v hj⟩)
      refine grow olds h3 (.inr ⟨_, rfl, fun j v hj => ?_⟩) (by omega)
      rw [Addr.add_plain, cell_of hw]
      simpa using h4 j v hj
theorem TL_append_zeros {x y : Operand} {t u e : TypeId} {k0 : IntKind} {z : Value} {bytes m : Nat} {L0 : List HP} (x0 : α) [ht : TyDesc P t (.slice e)] [hu : TyDesc P u (.int k0)] (hd : Nat.blt d n = true) (hx : ev E x = some (.slice A xs.length c)) (hy : ev E y = some (.int .i64 (m : Int))) [hf : FindO L A c α R e xs L0]
    [he : TyElem P e z R.sz bytes] {zl : List Value} (hz : partsOf z = some zl) (hb : Nat.blt 0 bytes = true) (hx0 : ∀ M, R.rep M x0 zl) (hfit : (xs.length + m) * bytes ≤ 140737488355328)
    (h : ∀ A' c', TL r n P ops rest ⟨D, (d, .slice A' (xs ++ List.replicate m x0).length c') :: E, osl R e A' c' (xs ++ List.replicate m x0) :: L0⟩ K) :
    TL r n P ops (⟨some d, .call { callee := .builtin .append, args := #[x, y], argTypes := #[t, u] }, ty, pos, af, none⟩ :: rest) ⟨D, E, L⟩ K :=
  TL_val rfl hd rfl (fun _ e => by cases e) fun W a w hh => by
    have hs := hh.2.gives hf.g
    have hzs : z.cells.size = R.sz := by rw [partsOf_eq hz, List.size_toArray]; exact R.len (hx0 Mem.emp)
    have hzz : ∀ k, (Builtin.zeroCells z.cells k).toList = zerosN k zl := fun k => by
      have := zerosN_array zl k
      unfold Builtin.zeroCells
      rw [List.size_toArray] at this
      rw [partsOf_eq hz, List.size_toArray, this]
    obtain ⟨A', c', w', hr, hs'⟩ := append_own_z (P := P) (t := t) (u := u) (ys := List.replicate m x0) (by simpa using hb) hzs hs (fun v hv => by
      rw [hzz] at hv
      exact (cellsOf_zeros (M := Mem.emp) (hx0 Mem.emp) _).one v hv) (fun N m' _ _ => by
      rw [hzz, List.length_replicate]; exact cellsOf_zeros (hx0 N) m) (by rw [List.length_replicate]; exact hfit) ty
    rw [List.length_replicate] at hr
    refine ⟨_, w', _, ?_, hs', h A' c'⟩
    simp [execOp, resolve, invoke, builtin, hh.1.ev hx, hh.1.ev hy, hr]
end
end Go.SL
set_option linter.unusedVariables false
set_option linter.unusedSimpArgs false
namespace Go.SL
open Go Go.Proofs
def wiV (v : List Int) (o : Nat) (x : Int) : List Int := (v ++ List.replicate (o + 1 - v.length) 0).set o x
/-! ### Events that have seen all -/
structure AdI (m : List EventD) (s : List Int) : Prop where
  len : s.length ≤ 6
  mem : ∀ e ∈ m, (0 ≤ e.dot.1 ∧ e.dot.1 ≤ 5) ∧ (1 ≤ e.dot.2 ∧ e.dot.2 ≤ 2147483646) ∧ ¬ 0 < ofV e.deps 6 ∧ e.dot.2 ≤ ofV s e.dot.1
theorem AdI.step {m : List EventD} {s s' : List Int} {x : EventD} (h : AdI m s) (hl : s'.length ≤ 6) (hx : (0 ≤ x.dot.1 ∧ x.dot.1 ≤ 5) ∧ (1 ≤ x.dot.2 ∧ x.dot.2 ≤ 2147483646) ∧ ¬ 0 < ofV x.deps 6) (hle : ∀ q, ofV s q ≤ ofV s' q) (hxs : x.dot.2 ≤ ofV s' x.dot.1) : AdI (m ++ [x]) s' := ⟨hl, fun e he => by
  rcases List.mem_append.1 he with he | he
  · have := h.mem e he
    have := hle e.dot.1
    exact ⟨by omega, by omega, by omega, by omega⟩
  · rw [List.mem_singleton.1 he]; exact ⟨hx.1, hx.2.1, hx.2.2, hxs⟩⟩
abbrev adE (s : List Int) (name sku : ByteArray) (qty : Int) (cl : Bool) : EventD := ⟨(6, 1), s, name, 0, sku, qty, cl⟩
structure AdSt where
  i : Nat
  A : Option Addr
  c : Nat
  s : List Int
end Go.SL
set_option linter.unusedVariables false
set_option linter.unusedSimpArgs false
namespace Go.SL
open Go Go.Proofs
def cmpI (x y : Int) : Int := if x < y then -1 else if y < x then 1 else 0
def cmpE (x y : EventD) : Int := if cmpI x.dot.1 y.dot.1 ≠ 0 then cmpI x.dot.1 y.dot.1 else cmpI x.dot.2 y.dot.2
theorem cmpI_lt (a b : Int) : cmpI a b < 0 ↔ a < b := by
  unfold cmpI
  split
  · omega
  · split <;> omega
theorem cmpI_ne (a b : Int) : cmpI a b ≠ 0 ↔ a ≠ b := by
  unfold cmpI
  split
  · omega
  · split <;> omega
theorem cmpI_in (a b : Int) : intIn .i64 (cmpI a b) := by
  unfold cmpI
  split
  · decide
  · split <;> decide
theorem cmpE_lt {x y : EventD} : cmpE x y < 0 ↔ (x.dot.1 < y.dot.1 ∨ (x.dot.1 = y.dot.1 ∧ x.dot.2 < y.dot.2)) := by
  unfold cmpE
  by_cases h : x.dot.1 = y.dot.1
  · rw [if_neg (fun hc => (cmpI_ne _ _).1 hc h), cmpI_lt]; omega
  · rw [if_pos ((cmpI_ne _ _).2 h), cmpI_lt]; omega
theorem isNaN_spec (L : List HP) (x : Int) : Fn Try.prog 81 #[.int .i64 x] L (fun v L' => v = .bool false ∧ L' = L) := by
  refine Fn_enter Try.func81 rfl rfl rfl rfl ?_
  refine T_region ?_
  refine TL_y rfl rfl (Y_assign rfl) ?_
  refine TL_nil ?_
  refine T_region ?_
  refine TL_y rfl rfl (Y_move rfl) ?_
  refine TL_y rfl rfl (Y_move rfl) ?_
  refine TL_y rfl rfl (Y_ne rfl rfl) ?_
  refine TL_name 5 (v' := .bool false) rfl (congrArg Value.bool (decide_eq_false (fun h => h rfl))) ?_
  refine TL_y rfl rfl (Y_assign rfl) ?_
  refine TL_nil ?_
  refine T_ret ?_
  exact RetG_1 (.inl rfl) rfl (ResV.tmp rfl) GivesTo.g (⟨rfl, rfl⟩)
theorem compare_spec (L : List HP) (x y : Int) : Fn Try.prog 61 #[.int .i64 x, .int .i64 y] L (fun v L' => v = .int .i64 (cmpI x y) ∧ L' = L) := by
  refine Fn_enter Try.func61 rfl rfl rfl rfl ?_
  refine T_region ?_
  refine TL_y rfl rfl (Y_assign rfl) ?_
  refine TL_nil ?_
  refine T_region ?_
  refine TL_y rfl rfl (Y_move rfl) ?_
  refine TL_call rfl rfl (isNaN_spec _ x) ?_
  rintro _ _ ⟨rfl, rfl⟩
  refine TL_name 8 (v' := .bool false) rfl (rfl) ?_
  refine TL_y rfl rfl (Y_assign rfl) ?_
  refine TL_nil ?_
  refine T_region ?_
  refine TL_y rfl rfl (Y_move rfl) ?_
  refine TL_call rfl rfl (isNaN_spec _ y) ?_
  rintro _ _ ⟨rfl, rfl⟩
  refine TL_name 10 (v' := .bool false) rfl (rfl) ?_
  refine TL_y rfl rfl (Y_assign rfl) ?_
  refine TL_nil ?_
  refine T_seq ?_
  refine T_region ?_
  refine TL_y rfl rfl (Y_move rfl) ?_
  refine TL_nil ?_
  refine T_cond_false rfl ?_
  refine T_skip ?_
  refine thenS_normal ?_
  refine T_seq ?_
  refine T_region ?_
  refine TL_y rfl rfl (Y_move rfl) ?_
  refine TL_nil ?_
  refine T_cond_false rfl ?_
  refine T_skip ?_
  refine thenS_normal ?_
  refine T_seq ?_
  refine T_region ?_
  refine TL_y rfl rfl (Y_move rfl) ?_
  refine TL_y rfl rfl (Y_move rfl) ?_
  refine TL_y rfl rfl (Y_lt rfl rfl) ?_
  refine TL_nil ?_
  refine T_if rfl (fun h16 => ?_) (fun h16 => ?_)
  · refine T_region ?_
    refine TL_y rfl rfl (Y_assign rfl) ?_
    refine TL_nil ?_
    refine T_ret ?_
    refine thenS_ret ?_
    exact RetG_1 (.inl rfl) rfl (ResV.tmp rfl) GivesTo.g (⟨congrArg (Value.int .i64) (by unfold cmpI; rw [if_pos h16]), rfl⟩)
  · refine T_skip ?_
    refine thenS_normal ?_
    refine T_seq ?_
    refine T_region ?_
    refine TL_y rfl rfl (Y_move rfl) ?_
    refine TL_y rfl rfl (Y_move rfl) ?_
    refine TL_y rfl rfl (Y_gt rfl rfl) ?_
    refine TL_nil ?_
    refine T_if rfl (fun h19 => ?_) (fun h19 => ?_)
    · refine T_region ?_
      refine TL_y rfl rfl (Y_assign rfl) ?_
      refine TL_nil ?_
      refine T_ret ?_
      refine thenS_ret ?_
      exact RetG_1 (.inl rfl) rfl (ResV.tmp rfl) GivesTo.g (⟨congrArg (Value.int .i64) (by unfold cmpI; rw [if_neg h16, if_pos h19]), rfl⟩)
    · refine T_skip ?_
      refine thenS_normal ?_
      refine T_region ?_
      refine TL_y rfl rfl (Y_assign rfl) ?_
      refine TL_nil ?_
      refine T_ret ?_
      exact RetG_1 (.inl rfl) rfl (ResV.tmp rfl) GivesTo.g (⟨congrArg (Value.int .i64) (by unfold cmpI; rw [if_neg h16, if_neg h19]), rfl⟩)
theorem or_spec {L : List HP} {A : Option Addr} {c : Nat} (x y : Int) (hk : SlN L (intR .i64) A c [x, y]) : Fn Try.prog 60 #[.slice A [x, y].length c] L (fun v L' => v = .int .i64 (if x ≠ 0 then x else y) ∧ L' = L) := by
  refine Fn_enter Try.func60 rfl rfl rfl rfl ?_
  have hlen2 : ([x, y] : List Int).length = 2 := rfl
  refine T_region ?_
  refine TL_y rfl rfl (Y_assign rfl) ?_
  refine TL_nil ?_
  refine T_region ?_
  refine TL_y rfl rfl (Y_assign rfl) ?_
  refine TL_nil ?_
  refine T_seq ?_
  refine T_region ?_
  refine TL_y rfl rfl (Y_move rfl) ?_
  refine TL_y rfl rfl (Y_len rfl) ?_
  refine TL_y rfl rfl (Y_move rfl) ?_
  refine TL_nil ?_
  refine T_block ?_
  refine T_loopK (σ := Nat) [3, 6, 7] (fun i => i ≤ 2 ∧ (0 < i → x = 0) ∧ (1 < i → y = 0)) (fun i kv => (8, .int .i64 (i : Int)) :: kv) (fun i => L) (fun i => 2 - i) (0) rfl (⟨by omega, by omega, by omega⟩) (GivesTo.g) (sub_cons rfl (sub_cons rfl (sub_cons rfl (sub_cons rfl (sub_nil))))) ?_
  rintro i ⟨hi1, hi2, hi3⟩
  refine T_region ?_
  refine TL_y rfl rfl (Y_lt rfl rfl) ?_
  refine TL_nil ?_
  refine T_seq ?_
  refine T_if rfl (fun h9 => ?_) (fun h9 => ?_)
  · refine T_skip ?_
    refine thenS_normal ?_
    refine T_seq ?_
    refine T_block ?_
    rcases (show i = 0 ∨ i = 1 by omega) with h | h
    · subst h
      refine T_region ?_
      refine TL_index_n rfl rfl rfl (rfl) (hk) ((show ([x, y] : List Int)[0]? = some x from rfl)) ?_
      intro bn10 on10 hA10 hk10
      have hu10 := (show ([x, y] : List Int)[0]? = some x from rfl)
      refine TL_y rfl rfl (Y_load_n rfl hk10 hu10 rfl) ?_
      refine TL_y rfl rfl (Y_assign rfl) ?_
      refine TL_nil ?_
      refine T_region ?_
      refine TL_y rfl rfl (Y_move rfl) ?_
      refine TL_y rfl rfl (Y_move rfl) ?_
      refine TL_y rfl rfl (Y_ne rfl rfl) ?_
      refine TL_nil ?_
      refine T_if rfl (fun h14 => ?_) (fun h14 => ?_)
      · refine T_region ?_
        refine TL_y rfl rfl (Y_move rfl) ?_
        refine TL_y rfl rfl (Y_assign rfl) ?_
        refine TL_nil ?_
        refine T_ret ?_
        refine inB_ret ?_
        refine thenS_ret ?_
        refine thenS_ret ?_
        refine inB_ret ?_
        refine thenS_ret ?_
        exact RetG_1 (.inl rfl) rfl (ResV.tmp rfl) GivesTo.g (⟨congrArg (Value.int .i64) (by rw [if_pos h14]), rfl⟩)
      · refine T_skip ?_
        refine inB_normal ?_
        refine thenS_normal ?_
        refine T_region_last ?_
        refine TL_y rfl rfl (Y_add rfl rfl (by omega)) ?_
        refine TL_name 16 (v' := .int .i64 ((1 : Nat) : Int)) rfl (rfl) ?_
        refine TL_y rfl rfl (Y_move rfl) ?_
        refine TL_nil ?_
        refine thenS_normal ?_
        exact ⟨1, ⟨by omega, fun _ => Classical.not_not.1 h14, by omega⟩, by omega, holds_to (sub_cons rfl (sub_cons rfl (sub_cons rfl (sub_cons rfl (sub_nil))))) GivesTo.g⟩
    · subst h
      refine T_region ?_
      refine TL_index_n rfl rfl rfl (rfl) (hk) ((show ([x, y] : List Int)[1]? = some y from rfl)) ?_
      intro bn10 on10 hA10 hk10
      have hu10 := (show ([x, y] : List Int)[1]? = some y from rfl)
      refine TL_y rfl rfl (Y_load_n rfl hk10 hu10 rfl) ?_
      refine TL_y rfl rfl (Y_assign rfl) ?_
      refine TL_nil ?_
      refine T_region ?_
      refine TL_y rfl rfl (Y_move rfl) ?_
      refine TL_y rfl rfl (Y_move rfl) ?_
      refine TL_y rfl rfl (Y_ne rfl rfl) ?_
      refine TL_nil ?_
      refine T_if rfl (fun h14 => ?_) (fun h14 => ?_)
      · refine T_region ?_
        refine TL_y rfl rfl (Y_move rfl) ?_
        refine TL_y rfl rfl (Y_assign rfl) ?_
        refine TL_nil ?_
        refine T_ret ?_
        refine inB_ret ?_
        refine thenS_ret ?_
        refine thenS_ret ?_
        refine inB_ret ?_
        refine thenS_ret ?_
        exact RetG_1 (.inl rfl) rfl (ResV.tmp rfl) GivesTo.g (⟨congrArg (Value.int .i64) (by rw [if_neg (by simp [hi2 (by omega)])]), rfl⟩)
      · refine T_skip ?_
        refine inB_normal ?_
        refine thenS_normal ?_
        refine T_region_last ?_
        refine TL_y rfl rfl (Y_add rfl rfl (by omega)) ?_
        refine TL_name 16 (v' := .int .i64 ((2 : Nat) : Int)) rfl (rfl) ?_
        refine TL_y rfl rfl (Y_move rfl) ?_
        refine TL_nil ?_
        refine thenS_normal ?_
        exact ⟨2, ⟨by omega, fun _ => hi2 (by omega), fun _ => Classical.not_not.1 h14⟩, by omega, holds_to (sub_cons rfl (sub_cons rfl (sub_cons rfl (sub_cons rfl (sub_nil))))) GivesTo.g⟩
  · refine T_exit ?_
    refine thenS_exit ?_
    refine thenS_exit ?_
    refine inB_hit ?_
    refine thenS_normal ?_
    refine T_region ?_
    refine TL_y rfl rfl (Y_move rfl) ?_
    refine TL_y rfl rfl (Y_assign rfl) ?_
    refine TL_nil ?_
    refine T_ret ?_
    exact RetG_1 (.inl rfl) rfl (ResV.tmp rfl) GivesTo.g (⟨congrArg (Value.int .i64) (by have h0 := hi2 (by simp only [List.length_cons, List.length_nil] at *; omega); have h1 := hi3 (by simp only [List.length_cons, List.length_nil] at *; omega); simp [h0, h1]), rfl⟩)
theorem merge1_spec {L : List HP} (x y : EventD) (p q : Option Addr × Nat) : Fn Try.prog 59 #[evV x p, evV y q] L (fun v L' => v = .int .i64 (cmpE x y) ∧ L' = L) := by
  refine Fn_enter Try.func59 rfl rfl rfl rfl ?_
  refine T_region ?_
  refine TL_box rfl rfl rfl ?_
  intro b2
  refine TL_box rfl rfl rfl ?_
  intro b3
  refine TL_y rfl rfl (Y_assign rfl) ?_
  refine TL_nil ?_
  refine T_region_draw (cells b2 (eventC x p) 29 :: cells b3 (eventC y q) 29 :: []) [0, 1, 3, 0, 8, 24, 63, 0, 128, 384, 0, 1024, 3072, 8191, 16383, 32767, 65535] [] [(0, true), (1, true), (2, true), (3, true), (4, true), (5, true), (7, true), (8, true), (9, true), (10, true), (11, true), (12, true), (6, false), (13, false), (14, false), (15, false), (16, true)] (by kernel_rfl) (by decide +kernel) GivesTo.g ?_
  refine TF_y rfl rfl (Y_field_addr rfl) ?_
  refine TF_y rfl rfl (Y_field_addr rfl) ?_
  refine TF_y rfl rfl (Y_load rfl rfl) ?_
  refine TF_y rfl rfl (Y_field_addr rfl) ?_
  refine TF_y rfl rfl (Y_field_addr rfl) ?_
  refine TF_y rfl rfl (Y_load rfl rfl) ?_
  refine TF_y rfl rfl (Y_field_addr rfl) ?_
  refine TF_y rfl rfl (Y_field_addr rfl) ?_
  refine TF_y rfl rfl (Y_load rfl rfl) ?_
  refine TF_y rfl rfl (Y_field_addr rfl) ?_
  refine TF_y rfl rfl (Y_field_addr rfl) ?_
  refine TF_y rfl rfl (Y_load rfl rfl) ?_
  refine TF_anchor rfl ?_
  refine TL_call rfl rfl (compare_spec _ x.dot.1 y.dot.1) ?_
  rintro _ _ ⟨rfl, rfl⟩
  refine TF_end GivesTo.g ?_
  refine TF_anchor rfl ?_
  refine TL_call rfl rfl (compare_spec _ x.dot.2 y.dot.2) ?_
  rintro _ _ ⟨rfl, rfl⟩
  refine TF_end GivesTo.g ?_
  refine TF_anchor rfl ?_
  refine TL_build_slice rfl rfl rfl rfl rfl rfl ?_
  intro b19
  refine TL_osl (k := 2) (intR .i64) [cmpI x.dot.1 y.dot.1, cmpI x.dot.2 y.dot.2] (Knows.const (cells_ints (xs := [cmpI x.dot.1 y.dot.1, cmpI x.dot.2 y.dot.2]) (k := .i64) (fun z hz => by rcases List.mem_cons.1 hz with rfl | hz; exact cmpI_in _ _; (rw [List.mem_singleton.1 hz]; exact cmpI_in _ _)))) rfl (by decide) ?_
  refine TL_name 19 (v' := .slice (some ⟨b19, 0, none⟩) [cmpI x.dot.1 y.dot.1, cmpI x.dot.2 y.dot.2].length 2) rfl rfl ?_
  refine TF_end GivesTo.g ?_
  refine TF_anchor rfl ?_
  refine TL_call rfl rfl (or_spec (cmpI x.dot.1 y.dot.1) (cmpI x.dot.2 y.dot.2) sln) ?_
  rintro _ _ ⟨rfl, rfl⟩
  refine TF_end GivesTo.g ?_
  refine TF_y rfl rfl (Y_assign rfl) ?_
  refine TF_nil ?_
  refine T_ret ?_
  exact RetG_1 (.inl rfl) rfl (ResV.tmp rfl) GivesTo.g (⟨rfl, rfl⟩)
end Go.SL
set_option linter.unusedVariables false
set_option linter.unusedSimpArgs false
namespace Go.SL
open Go
abbrev EvP := EventD × (Option Addr × Nat)
def ltZ (a b : EvP) : Prop := cmpE a.1 b.1 < 0
instance (a b : EvP) : Decidable (ltZ a b) := by unfold ltZ; exact inferInstance
def leZ (a b : EvP) : Prop := ¬ ltZ b a
theorem ltZ_iff {a b : EvP} : ltZ a b ↔ (a.1.dot.1 < b.1.dot.1 ∨ (a.1.dot.1 = b.1.dot.1 ∧ a.1.dot.2 < b.1.dot.2)) := cmpE_lt
theorem leZ_refl (a : EvP) : leZ a a := by unfold leZ; rw [ltZ_iff]; omega
theorem leZ_trans {a b c : EvP} (h : leZ a b) (k : leZ b c) : leZ a c := by unfold leZ at *; rw [ltZ_iff] at *; omega
theorem ltZ_le {a b : EvP} (h : ltZ a b) : leZ a b := by unfold leZ; rw [ltZ_iff] at *; omega
theorem leZ_lt {a b c : EvP} (h : leZ a b) (k : ltZ b c) : ltZ a c := by unfold leZ at *; rw [ltZ_iff] at *; omega
theorem ltZ_leZ {a b c : EvP} (h : ltZ a b) (k : leZ b c) : ltZ a c := by unfold leZ at *; rw [ltZ_iff] at *; omega
/-- A range is in order. -/
def SR (X : List EvP) (a b : Nat) : Prop := ∀ s t x y, a ≤ s → s < t → t < b → X[s]? = some x → X[t]? = some y → leZ x y
theorem SR.sub {X : List EvP} {a b a' b' : Nat} (h : SR X a b) (h1 : a ≤ a') (h2 : b' ≤ b) : SR X a' b' := fun s t x y k1 k2 k3 => h s t x y (by omega) k2 (by omega)
theorem SR.le {X : List EvP} {a b : Nat} (h : SR X a b) {s t : Nat} {x y : EvP} (h1 : a ≤ s) (h2 : s ≤ t) (h3 : t < b) (hx : X[s]? = some x) (hy : X[t]? = some y) : leZ x y := by
  rcases Nat.lt_or_ge s t with h4 | h4
  · exact h s t x y h1 h4 h3 hx hy
  · obtain rfl : s = t := by omega
    rw [hx] at hy; cases hy; exact leZ_refl _
theorem SR.same {X Y : List EvP} {a b : Nat} (h : SR X a b) (k : ∀ t, a ≤ t → t < b → Y[t]? = X[t]?) : SR Y a b := fun s t x y h1 h2 h3 hx hy => h s t x y h1 h2 h3 (by rw [← k s h1 (by omega)]; exact hx) (by rw [← k t (by omega) h3]; exact hy)
theorem SR.nil (X : List EvP) {a b : Nat} (h : b ≤ a + 1) : SR X a b := fun s t x y h1 h2 h3 => by omega
theorem SR.beyond {X : List EvP} {a b b' : Nat} (h : SR X a b) (hb : X.length ≤ b) : SR X a b' := fun s t x y h1 h2 h3 hx hy => h s t x y h1 h2 (by have := (List.getElem?_eq_some_iff.1 hy).1; omega) hx hy
/-- Only a range is changed, and what was in it is in it. -/
structure Res (X Y : List EvP) (a b : Nat) : Prop where
  perm : Y.Perm X
  out : ∀ t, t < a ∨ b ≤ t → Y[t]? = X[t]?
  in_ : ∀ t x, a ≤ t → t < b → Y[t]? = some x → ∃ s, a ≤ s ∧ s < b ∧ X[s]? = some x
theorem Res.refl (X : List EvP) (a b : Nat) : Res X X a b := ⟨List.Perm.refl _, fun _ _ => rfl, fun t x h1 h2 h => ⟨t, h1, h2, h⟩⟩
theorem Res.len {X Y : List EvP} {a b : Nat} (h : Res X Y a b) : Y.length = X.length := h.perm.length_eq
theorem Res.trans {X Y Z : List EvP} {a b : Nat} (h : Res X Y a b) (k : Res Y Z a b) : Res X Z a b := ⟨k.perm.trans h.perm, fun t ht => (k.out t ht).trans (h.out t ht), fun t x h1 h2 hx => by
  obtain ⟨s, s1, s2, s3⟩ := k.in_ t x h1 h2 hx
  exact h.in_ s x s1 s2 s3⟩
theorem Res.mono {X Y : List EvP} {a b a' b' : Nat} (h : Res X Y a b) (h1 : a' ≤ a) (h2 : b ≤ b') : Res X Y a' b' := ⟨h.perm, fun t ht => h.out t (by omega), fun t x k1 k2 hx => by
  by_cases ht : t < a ∨ b ≤ t
  · exact ⟨t, k1, k2, by rw [← h.out t ht]; exact hx⟩
  · obtain ⟨s, s1, s2, s3⟩ := h.in_ t x (by omega) (by omega) hx
    exact ⟨s, by omega, by omega, s3⟩⟩
/-! ### Swaps -/
theorem erase_permA {α : Type} : ∀ {l : List α} {j : Nat} {y : α}, l[j]? = some y → l.Perm (y :: l.eraseIdx j)
  | [], j, y, h => by simp at h
  | x :: r, 0, y, h => by simp at h; subst h; exact List.Perm.refl _
  | x :: r, j + 1, y, h => by
    rw [List.eraseIdx_cons_succ]
    exact ((erase_permA (l := r) (by simpa using h)).cons x).trans (List.Perm.swap _ _ _)
theorem setP {α : Type} : ∀ {l : List α} {j : Nat} {p : α}, j < l.length → (l.set j p).Perm (p :: l.eraseIdx j)
  | [], j, p, h => by simp at h
  | x :: r, 0, p, h => List.Perm.refl _
  | x :: r, j + 1, p, h => by
    rw [List.set_cons_succ, List.eraseIdx_cons_succ]
    exact ((setP (l := r) (by simpa using h)).cons x).trans (List.Perm.swap _ _ _)
theorem swap_permLt {α : Type} : ∀ {l : List α} {i j : Nat} {x y : α}, i < j → l[i]? = some x → l[j]? = some y → ((l.set i y).set j x).Perm l
  | [], i, j, x, y, _, h, _ => by simp at h
  | z :: r, 0, j + 1, x, y, _, hx, hy => by
    simp at hx hy
    subst hx
    rw [List.set_cons_zero, List.set_cons_succ]
    have h1 := setP (l := r) (p := z) (List.getElem?_eq_some_iff.1 hy).1
    have h2 := erase_permA hy
    exact ((h1.cons y).trans (List.Perm.swap _ _ _)).trans (h2.symm.cons z)
  | z :: r, i + 1, j + 1, x, y, h, hx, hy => by
    simp at hx hy
    rw [List.set_cons_succ, List.set_cons_succ]
    exact (swap_permLt (l := r) (by omega) hx hy).cons z
theorem swap_perm {α : Type} {l : List α} {i j : Nat} {x y : α} (hx : l[i]? = some x) (hy : l[j]? = some y) : ((l.set i y).set j x).Perm l := by
  rcases Nat.lt_trichotomy i j with h | h | h
  · exact swap_permLt h hx hy
  · subst h
    rw [hx] at hy; cases hy
    rw [List.set_set]
    have : l.set i x = l := by
      obtain ⟨h1, h2⟩ := List.getElem?_eq_some_iff.1 hx
      rw [← h2, List.set_getElem_self]
    rw [this]
  · rw [List.set_comm y x (by omega)]
    exact swap_permLt h hy hx
theorem swap_get {α : Type} {l : List α} {i j : Nat} {x y : α} (hx : l[i]? = some x) (hy : l[j]? = some y) (t : Nat) : ((l.set i y).set j x)[t]? = if t = j then some x else if t = i then some y else l[t]? := by
  have h1 := (List.getElem?_eq_some_iff.1 hx).1
  have h2 := (List.getElem?_eq_some_iff.1 hy).1
  rw [List.getElem?_set]
  by_cases e : t = j
  · subst e; rw [if_pos rfl, if_pos (by simpa using h2), if_pos rfl]
  · rw [if_neg (fun h => e h.symm), if_neg e, List.getElem?_set]
    by_cases e2 : t = i
    · subst e2; rw [if_pos rfl, if_pos h1, if_pos rfl]
    · rw [if_neg (fun h => e2 h.symm), if_neg e2]
theorem swap_res {X : List EvP} {i j a b : Nat} {x y : EvP} (hx : X[i]? = some x) (hy : X[j]? = some y) (h1 : a ≤ i ∧ i < b) (h2 : a ≤ j ∧ j < b) : Res X ((X.set i y).set j x) a b where
  perm := swap_perm hx hy
  out := fun t ht => by rw [swap_get hx hy, if_neg (by omega), if_neg (by omega)]
  in_ := fun t z h3 h4 hz => by
    rw [swap_get hx hy] at hz
    split at hz
    · cases hz; exact ⟨i, h1.1, h1.2, hx⟩
    · split at hz
      · cases hz; exact ⟨j, h2.1, h2.2, hy⟩
      · exact ⟨t, h3, h4, hz⟩
/-! ### Ranges that are swapped, turned -/
structure SwI (X Y : List EvP) (a b n : Nat) : Prop where
  perm : Y.Perm X
  lo : ∀ t, a ≤ t → t < a + n → Y[t]? = X[t + (b - a)]?
  hi : ∀ t, b ≤ t → t < b + n → Y[t]? = X[t - (b - a)]?
  out : ∀ t, ¬ (a ≤ t ∧ t < a + n) → ¬ (b ≤ t ∧ t < b + n) → Y[t]? = X[t]?
theorem SwI.zero (X : List EvP) (a b : Nat) : SwI X X a b 0 := ⟨List.Perm.refl _, fun t h1 h2 => by omega, fun t h1 h2 => by omega, fun t _ _ => rfl⟩
theorem SwI.step {X Y : List EvP} {a b n : Nat} (h : SwI X Y a b n) (hab : a + n < b) {x y : EvP} (hx : Y[a + n]? = some x) (hy : Y[b + n]? = some y) : SwI X ((Y.set (a + n) y).set (b + n) x) a b (n + 1) where
  perm := (swap_perm hx hy).trans h.perm
  lo := fun t h1 h2 => by
    rw [swap_get hx hy, if_neg (by omega)]
    by_cases e : t = a + n
    · rw [if_pos e, e, ← hy, h.out (b + n) (by omega) (by omega)]; congr 1; omega
    · rw [if_neg e]; exact h.lo t h1 (by omega)
  hi := fun t h1 h2 => by
    rw [swap_get hx hy]
    by_cases e : t = b + n
    · rw [if_pos e, e, ← hx, h.out (a + n) (by omega) (by omega)]; congr 1; omega
    · rw [if_neg e, if_neg (by omega)]; exact h.hi t h1 (by omega)
  out := fun t h1 h2 => by
    rw [swap_get hx hy, if_neg (by omega), if_neg (by omega)]
    exact h.out t (by omega) (by omega)
/-- A range is turned: what was behind m stands ahead. -/
structure RtI (X Y : List EvP) (a m b : Nat) : Prop where
  perm : Y.Perm X
  lo : ∀ t, a ≤ t → t < a + (b - m) → Y[t]? = X[t + (m - a)]?
  hi : ∀ t, a + (b - m) ≤ t → t < b → Y[t]? = X[t - (b - m)]?
  out : ∀ t, t < a ∨ b ≤ t → Y[t]? = X[t]?
/-- While it is turned: what is done, and what is left to turn. -/
structure RtL (X Y : List EvP) (a m b i j : Nat) : Prop where
  perm : Y.Perm X
  ij : 0 < i ∧ 0 < j ∧ a + i ≤ m ∧ m + j ≤ b
  out : ∀ t, t < a ∨ b ≤ t → Y[t]? = X[t]?
  done : ∀ t, a ≤ t → t < b → (t < m - i ∨ m + j ≤ t) → (t < a + (b - m) → Y[t]? = X[t + (m - a)]?) ∧ (a + (b - m) ≤ t → Y[t]? = X[t - (b - m)]?)
  lo : ∀ t, m - i ≤ t → t < m - i + j → (t < a + (b - m) → Y[t + i]? = X[t + (m - a)]?) ∧ (a + (b - m) ≤ t → Y[t + i]? = X[t - (b - m)]?)
  hi : ∀ t, m - i + j ≤ t → t < m + j → (t < a + (b - m) → Y[t - j]? = X[t + (m - a)]?) ∧ (a + (b - m) ≤ t → Y[t - j]? = X[t - (b - m)]?)
theorem RtL.start (X : List EvP) {a m b : Nat} (h : a < m ∧ m < b) : RtL X X a m b (m - a) (b - m) := ⟨List.Perm.refl _, by omega, fun _ _ => rfl, fun t h1 h2 h3 => by omega, fun t h1 h2 => ⟨fun _ => rfl, fun h3 => by omega⟩, fun t h1 h2 => ⟨fun h3 => by omega, fun _ => rfl⟩⟩
theorem RtL.gt {X Y Z : List EvP} {a m b i j : Nat} (h : RtL X Y a m b i j) (hij : j < i) (k : SwI Y Z (m - i) m j) : RtL X Z a m b (i - j) j := by
  have hi := h.ij
  refine ⟨k.perm.trans h.perm, by omega, fun t ht => (k.out t (by omega) (by omega)).trans (h.out t ht), fun t h1 h2 h3 => ?_, fun t h1 h2 => ?_, fun t h1 h2 => ?_⟩
  · by_cases e : t < m - i ∨ m + j ≤ t
    · rw [k.out t (by omega) (by omega)]; exact h.done t h1 h2 e
    · have := h.lo t (by omega) (by omega)
      rw [k.lo t (by omega) (by omega), show t + (m - (m - i)) = t + i by omega]; exact this
  · have := h.hi t (by omega) (by omega)
    rw [k.hi (t + (i - j)) (by omega) (by omega), show t + (i - j) - (m - (m - i)) = t - j by omega]; exact this
  · have := h.hi t (by omega) (by omega)
    rw [k.out (t - j) (by omega) (by omega)]; exact this
theorem RtL.lt {X Y Z : List EvP} {a m b i j : Nat} (h : RtL X Y a m b i j) (hij : i < j) (k : SwI Y Z (m - i) (m + j - i) i) : RtL X Z a m b i (j - i) := by
  have hi := h.ij
  refine ⟨k.perm.trans h.perm, by omega, fun t ht => (k.out t (by omega) (by omega)).trans (h.out t ht), fun t h1 h2 h3 => ?_, fun t h1 h2 => ?_, fun t h1 h2 => ?_⟩
  · by_cases e : t < m - i ∨ m + j ≤ t
    · rw [k.out t (by omega) (by omega)]; exact h.done t h1 h2 e
    · have := h.hi t (by omega) (by omega)
      rw [k.hi t (by omega) (by omega), show t - (m + j - i - (m - i)) = t - j by omega]; exact this
  · have := h.lo t (by omega) (by omega)
    rw [k.out (t + i) (by omega) (by omega)]; exact this
  · have := h.lo t (by omega) (by omega)
    rw [k.lo (t - (j - i)) (by omega) (by omega), show t - (j - i) + (m + j - i - (m - i)) = t + i by omega]; exact this
theorem RtL.end_ {X Y Z : List EvP} {a m b i : Nat} (h : RtL X Y a m b i i) (k : SwI Y Z (m - i) m i) : RtI X Z a m b := by
  have hi := h.ij
  have hall : ∀ t, a ≤ t → t < b → (t < a + (b - m) → Z[t]? = X[t + (m - a)]?) ∧ (a + (b - m) ≤ t → Z[t]? = X[t - (b - m)]?) := fun t h1 h2 => by
    by_cases e : t < m - i ∨ m + i ≤ t
    · rw [k.out t (by omega) (by omega)]; exact h.done t h1 h2 e
    · by_cases e2 : t < m
      · have := h.lo t (by omega) (by omega)
        rw [k.lo t (by omega) (by omega), show t + (m - (m - i)) = t + i by omega]; exact this
      · have := h.hi t (by omega) (by omega)
        rw [k.hi t (by omega) (by omega), show t - (m - (m - i)) = t - i by omega]; exact this
  exact ⟨k.perm.trans h.perm, fun t h1 h2 => (hall t h1 (by omega)).1 h2, fun t h1 h2 => (hall t (by omega) h2).2 h1, fun t ht => (k.out t (by omega) (by omega)).trans (h.out t ht)⟩
theorem RtI.res {X Y : List EvP} {a m b : Nat} (h : RtI X Y a m b) (hm : a ≤ m ∧ m ≤ b) : Res X Y a b := ⟨h.perm, h.out, fun t x h1 h2 hx => by
  by_cases e : t < a + (b - m)
  · exact ⟨t + (m - a), by omega, by omega, by rw [← h.lo t h1 e]; exact hx⟩
  · exact ⟨t - (b - m), by omega, by omega, by rw [← h.hi t (by omega) h2]; exact hx⟩⟩
/-! ### Two ranges that are in order come together: the halves -/
/-- Where the search ends: what stays ahead is not greater than what is behind it, as in a mirror. -/
structure MidI (X : List EvP) (a m b mid n start : Nat) : Prop where
  lo : ∀ c x y, a ≤ c → n - b ≤ c → c < start → X[c]? = some x → X[n - 1 - c]? = some y → leZ x y
  hi : ∀ c x y, start ≤ c → c < m → c < mid → X[c]? = some x → X[n - 1 - c]? = some y → ltZ y x
theorem halves {X Y : List EvP} {a m b start mid : Nat} (hbX : b ≤ X.length) (hmid : mid = (a + b) / 2) (hab : a < m ∧ m < b) (h1 : SR X a m) (h2 : SR X m b) (hs : a ≤ start ∧ mid + m - b ≤ start ∧ start ≤ m ∧ start ≤ mid) (hM : MidI X a m b mid (mid + m) start)
    (hY : RtI X Y start m (mid + m - start)) : SR Y a start ∧ SR Y start mid ∧ SR Y mid (mid + m - start) ∧ SR Y (mid + m - start) b ∧ ∀ s t x y, a ≤ s → s < mid → mid ≤ t → t < b → Y[s]? = some x → Y[t]? = some y → leZ x y := by
  have hlen : start + (mid + m - start - m) = mid := by omega
  have hlo : ∀ t, start ≤ t → t < mid → Y[t]? = X[t + (m - start)]? := fun t k1 k2 => hY.lo t k1 (by omega)
  have hhi : ∀ t, mid ≤ t → t < mid + m - start → Y[t]? = X[t - (mid - start)]? := fun t k1 k2 => by rw [hY.hi t (by omega) k2]; congr 1; omega
  refine ⟨h1.sub (Nat.le_refl _) hs.2.2.1 |>.same fun t k1 k2 => hY.out t (.inl k2), fun s t x y k1 k2 k3 hx hy => ?_, fun s t x y k1 k2 k3 hx hy => ?_, h2.sub (show m ≤ mid + m - start by omega) (Nat.le_refl _) |>.same fun t k1 k2 => hY.out t (.inr k1), fun s t x y k1 k2 k3 k4 hx hy => ?_⟩
  · rw [hlo s k1 (by omega)] at hx; rw [hlo t (by omega) k3] at hy
    exact h2 _ _ x y (by omega) (by omega) (by omega) hx hy
  · rw [hhi s k1 (by omega)] at hx; rw [hhi t (by omega) k3] at hy
    exact h1 _ _ x y (by omega) (by omega) (by omega) hx hy
  · by_cases e1 : s < start
    · rw [hY.out s (.inl e1)] at hx
      by_cases e2 : t < mid + m - start
      · rw [hhi t k3 e2] at hy
        exact h1.le k1 (show s ≤ t - (mid - start) by omega) (by omega) hx hy
      · rw [hY.out t (.inr (by omega))] at hy
        have hc : X[start - 1]? = some X[start - 1] := List.getElem?_eq_getElem (by omega)
        have he : X[mid + m - 1 - (start - 1)]? = some X[mid + m - 1 - (start - 1)] := List.getElem?_eq_getElem (by omega)
        have q1 := h1.le k1 (show s ≤ start - 1 by omega) (by omega) hx hc
        have q2 := hM.lo (start - 1) _ _ (by omega) (by omega) (by omega) hc he
        have q3 := h2.le (show m ≤ mid + m - 1 - (start - 1) by omega) (show mid + m - 1 - (start - 1) ≤ t by omega) k4 he hy
        exact leZ_trans q1 (leZ_trans q2 q3)
    · rw [hlo s (by omega) k2] at hx
      by_cases e2 : t < mid + m - start
      · rw [hhi t k3 e2] at hy
        have he : X[mid + m - 1 - start]? = some X[mid + m - 1 - start] := List.getElem?_eq_getElem (by omega)
        have hc : X[start]? = some X[start] := List.getElem?_eq_getElem (by omega)
        have q1 := h2.le (show m ≤ s + (m - start) by omega) (show s + (m - start) ≤ mid + m - 1 - start by omega) (by omega) hx he
        have q2 := hM.hi start _ _ (Nat.le_refl _) (by omega) (by omega) hc he
        have q3 := h1.le (show a ≤ start by omega) (show start ≤ t - (mid - start) by omega) (by omega) hc hy
        exact leZ_trans q1 (leZ_trans (ltZ_le q2) q3)
      · rw [hY.out t (.inr (by omega))] at hy
        exact h2.le (show m ≤ s + (m - start) by omega) (show s + (m - start) ≤ t by omega) k4 hx hy
/-- Halves in order, one not greater than the other: the whole is in order; and it stays so when each is put in order. -/
theorem join_halves {Y Z : List EvP} {a mid b : Nat} (h1 : SR Z a mid) (h2 : SR Z mid b) (h : ∀ s t x y, a ≤ s → s < mid → mid ≤ t → t < b → Z[s]? = some x → Z[t]? = some y → leZ x y) : SR Z a b := fun s t x y k1 k2 k3 hx hy => by
  by_cases e : t < mid
  · exact h1 s t x y k1 k2 e hx hy
  · by_cases e2 : s < mid
    · exact h s t x y k1 e2 (by omega) k3 hx hy
    · exact h2 s t x y (by omega) k2 k3 hx hy
theorem cross_left {Y Z : List EvP} {a mid b : Nat} (k : Res Y Z a mid) (h : ∀ s t x y, a ≤ s → s < mid → mid ≤ t → t < b → Y[s]? = some x → Y[t]? = some y → leZ x y) : ∀ s t x y, a ≤ s → s < mid → mid ≤ t → t < b → Z[s]? = some x → Z[t]? = some y → leZ x y := fun s t x y k1 k2 k3 k4 hx hy => by
  obtain ⟨s', s1, s2, s3⟩ := k.in_ s x k1 k2 hx
  rw [k.out t (.inr k3)] at hy
  exact h s' t x y s1 s2 k3 k4 s3 hy
theorem cross_right {Y Z : List EvP} {a mid b : Nat} (k : Res Y Z mid b) (h : ∀ s t x y, a ≤ s → s < mid → mid ≤ t → t < b → Y[s]? = some x → Y[t]? = some y → leZ x y) : ∀ s t x y, a ≤ s → s < mid → mid ≤ t → t < b → Z[s]? = some x → Z[t]? = some y → leZ x y := fun s t x y k1 k2 k3 k4 hx hy => by
  obtain ⟨t', t1, t2, t3⟩ := k.in_ t y k3 k4 hy
  rw [k.out s (.inl k2)] at hx
  exact h s t' x y k1 k2 t1 t2 hx t3
end Go.SL
set_option linter.unusedVariables false
set_option linter.unusedSimpArgs false
namespace Go.SL
open Go Go.Proofs
def evpR : Rep EvP := exR 8 (fun z (_ : Unit) => eventC z.1 z.2) (fun z _ => [sl (intR .i64) z.2.1 z.2.2 z.1.deps]) (fun z => eventOk z.1) (fun _ _ => rfl) (fun _ _ => rfl)
instance : RepF evpR (fun z => eventC z.1 z.2) := ⟨fun _ _ _ ⟨_, e, _⟩ => e⟩
theorem choose_list {α β : Type} : ∀ (xs : List α) (P : Nat → α → β → Prop), (∀ i x, xs[i]? = some x → ∃ p, P i x p) → ∃ zs : List (α × β), zs.map Prod.fst = xs ∧ ∀ i z, zs[i]? = some z → P i z.1 z.2
  | [], P, _ => ⟨[], rfl, fun i z h => by simp at h⟩
  | x :: r, P, h => by
    obtain ⟨p, hp⟩ := h 0 x rfl
    obtain ⟨zs, e, hz⟩ := choose_list r (fun i => P (i + 1)) (fun i x hx => h (i + 1) x (by simpa using hx))
    refine ⟨(x, p) :: zs, by simp [e], fun i z hi => ?_⟩
    cases i with
    | zero => simp at hi; subst hi; exact hp
    | succ i => exact hz i z (by simpa using hi)
section
variable {r : Option Nat} {n : Nat} {P : Program} {ops : Array Oper} {rest : List Oper} {K : St → Prop} {Q : Exit → St → Prop} {D : List Deferred} {E : Env} {L L0 L1 : List HP}
variable {A : Option Addr} {c : Nat} {te : TypeId}
theorem osl_evp {xs : List EventD} {W w : World} (h : Sat W w (osl eventR te A c xs :: L)) : ∃ zs : List EvP, zs.map Prod.fst = xs ∧ Sat W w (osl evpR te A c zs :: L) := by
  obtain ⟨M, k, hd, hM, hk, h1, h2, hd', l1, l2, hp, hs⟩ := h.ex
  rcases hp.2 with ⟨rfl, rfl⟩ | ⟨g, cur, rfl, hg, hsz, hl, hc, hx⟩
  · exact ⟨[], rfl, ⟨M, k, hd, hM, hk, h1, h2, hd', l1, l2, ⟨Nat.zero_le _, .inl ⟨rfl, rfl⟩⟩, hs⟩, h.os, h.tape, h.output, h.size⟩
  · obtain ⟨zs, e, hz⟩ := choose_list xs (fun i x p => Sep [sl (intR .i64) p.1 p.2 x.deps] M Mem.emp ∧ eventOk x ∧ ∀ j v, (eventC x p)[j]? = some v → cur[i * 8 + j]? = some v) (fun i x hix => by
      obtain ⟨l, ⟨p, rfl, h3, h4⟩, h5⟩ := hx i x hix
      exact ⟨p, h3, h4, h5⟩)
    have hlen : zs.length = xs.length := by rw [← e, List.length_map]
    refine ⟨zs, e, ⟨M, k, hd, hM, hk, h1, h2, hd', l1, l2, ⟨by rw [hlen]; exact hp.1, .inr ⟨g, cur, rfl, hg, hsz, by rw [hlen]; exact hl, hc, fun i z hi => ?_⟩⟩, hs⟩, h.os, h.tape, h.output, h.size⟩
    obtain ⟨a1, a2, a3⟩ := hz i z hi
    exact ⟨eventC z.1 z.2, ⟨(), rfl, a1, a2⟩, a3⟩
theorem evp_osl {zs : List EvP} : Gives (osl evpR te A c zs :: L) (osl eventR te A c (zs.map Prod.fst) :: L) := fun M k ⟨h1, h2, hd, l1, l2, hp, hs⟩ => by
  refine ⟨h1, h2, hd, l1, l2, ⟨by rw [List.length_map]; exact hp.1, ?_⟩, hs⟩
  rcases hp.2 with ⟨rfl, rfl⟩ | ⟨g, cur, rfl, hg, hsz, hl, hc, hx⟩
  · exact .inl ⟨rfl, rfl⟩
  · refine .inr ⟨g, cur, rfl, hg, hsz, by rw [List.length_map]; exact hl, hc, fun i x hi => ?_⟩
    rw [List.getElem?_map] at hi
    cases hz : zs[i]? with
    | none => rw [hz] at hi; cases hi
    | some z =>
      rw [hz] at hi
      cases hi
      obtain ⟨l, ⟨_, rfl, a1, a2⟩, a3⟩ := hx i z hz
      exact ⟨_, ⟨z.2, rfl, a1, a2⟩, a3⟩
theorem TL_evp {xs : List EventD} (h : ∀ zs : List EvP, zs.map Prod.fst = xs → TL r n P ops rest ⟨D, E, osl evpR te A c zs :: L⟩ K) : TL r n P ops rest ⟨D, E, osl eventR te A c xs :: L⟩ K := fun W a w hh => by
  obtain ⟨zs, e, hs⟩ := osl_evp hh.2
  exact h zs e W a w ⟨hh.1, hs⟩
variable {g : Nat} {zs : List EvP}
theorem ev_is {j : Nat} {z : EvP} (hz : zs[j]? = some z) {W w : World} (h : Sat W w (osl evpR te (some ⟨g, 0, none⟩) c zs :: L)) : Sat W w (is evpR z (eventC z.1 z.2) :: osl evpR te (some ⟨g, 0, none⟩) c zs :: L) := by
  refine h.gives fun M k ⟨h1, h2, hd, l1, l2, hp, hs⟩ => ⟨Mem.emp, k, Mem.emp_disj _, Mem.emp_le _, Mem.le_refl _, ?_, h1, h2, hd, l1, l2, hp, hs⟩
  rcases hp.2 with ⟨_, rfl⟩ | ⟨g, cur, _, hg, hsz, hl, hc, hx⟩
  · simp at hz
  · obtain ⟨l, ⟨_, rfl, a1, a2⟩, a3⟩ := hx j z hz
    exact ⟨(), rfl, a1, a2⟩
theorem T_evIs (g c : Nat) {zs : List EvP} {j : Nat} {z : EvP} {c' : Code} (hz : zs[j]? = some z) [hf : FindO L (some ⟨g, 0, none⟩) c EvP evpR te zs L0] (h : T r n P c' ⟨D, E, is evpR z (eventC z.1 z.2) :: osl evpR te (some ⟨g, 0, none⟩) c zs :: L0⟩ Q) : T r n P c' ⟨D, E, L⟩ Q := fun W a w hh => h W a w ⟨hh.1, ev_is hz (hh.2.gives hf.g)⟩
/-- An event is written whole. -/
theorem TL_evStore {x y : Operand} {t : TypeId} {ty : TypeId} {pos : String} {af : Array Edge} {j : Nat} {z : EvP} [hz : TySize P t 8] (hx : ev E x = some (.pointer (some ⟨g, 0 + j * 8 + 0, none⟩))) (hy : ev E y = some (.agg (eventC z.1 z.2).toArray)) [hf : FindO L (some ⟨g, 0, none⟩) c EvP evpR te zs L0] [hi : FindHP L0 (is evpR z (eventC z.1 z.2)) L1] (hj : j < zs.length)
    (h : TL r n P ops rest ⟨D, E, osl evpR te (some ⟨g, 0, none⟩) c (zs.set j z) :: L0⟩ K) : TL r n P ops (⟨none, .store t x y, ty, pos, af, none⟩ :: rest) ⟨D, E, L⟩ K := by
  refine TL_gives hf.g ?_
  refine TL_focus (A := some ⟨g, 0, none⟩) (c := c) (R := evpR) (List.getElem?_eq_getElem hj) fun g2 l2 e hl => ?_
  cases e
  have hl8 : l2.length = 8 := hl
  match l2, hl8 with
  | [v0, v1, v2, v3, v4, v5, v6, v7], _ =>
  refine TL_store_x (R := evpR) (i := j) (j := 0) (g := g) (m := 8) (l' := eventC z.1 z.2) (vs := eventC z.1 z.2) (by rw [hx, Nat.zero_add]; rfl) hy rfl rfl rfl rfl ?_
  refine TL_unx (R := evpR) g z (Knows.tail (Knows.of_gives hi.g (Knows.head' fun _ _ h => h))) ?_
  exact TL_gives (Gives.cons _ (Gives.drop _ _)) h
end
end Go.SL
set_option linter.unusedVariables false
set_option linter.unusedSimpArgs false
namespace Go.SL
open Go
theorem getX {X : List EvP} {t : Nat} (h : t < X.length) : ∃ x, X[t]? = some x := ⟨_, List.getElem?_eq_getElem h⟩
/-! ### Insertion -/
/-- All is in order but what stands at j, which may be less than what is ahead of it. -/
def InsI (Z : List EvP) (a i j : Nat) : Prop := ∀ s t x y, a ≤ s → s < t → t ≤ i → t ≠ j → Z[s]? = some x → Z[t]? = some y → leZ x y
theorem InsI.start {Z : List EvP} {a i : Nat} (h : SR Z a i) : InsI Z a i i := fun s t x y h1 h2 h3 h4 hx hy => h s t x y h1 h2 (by omega) hx hy
theorem InsI.first {Z : List EvP} {a i : Nat} (h : InsI Z a i a) : SR Z a (i + 1) := fun s t x y h1 h2 h3 hx hy => h s t x y h1 h2 (by omega) (by omega) hx hy
theorem InsI.stop {Z : List EvP} {a i j : Nat} (h : InsI Z a i j) (hj : a < j ∧ j ≤ i) {x y : EvP} (hx : Z[j]? = some x) (hy : Z[j - 1]? = some y) (hl : ¬ ltZ x y) : SR Z a (i + 1) := fun s t u v h1 h2 h3 hu hv => by
  by_cases e : t = j
  · subst e
    rw [hx] at hv; cases hv
    by_cases e2 : s = t - 1
    · subst e2; rw [hy] at hu; cases hu; exact hl
    · exact leZ_trans (h s (t - 1) u y h1 (by omega) (by omega) (by omega) hu hy) hl
  · exact h s t u v h1 h2 (by omega) e hu hv
theorem InsI.swap {Z : List EvP} {a i j : Nat} (h : InsI Z a i j) (hj : a < j ∧ j ≤ i) {x y : EvP} (hx : Z[j]? = some x) (hy : Z[j - 1]? = some y) (hl : ltZ x y) : InsI ((Z.set j y).set (j - 1) x) a i (j - 1) := fun s t u v h1 h2 h3 h4 hu hv => by
  rw [swap_get hx hy] at hu hv
  rw [if_neg h4] at hv
  by_cases e : t = j
  · rw [if_pos e] at hv; cases hv
    by_cases e2 : s = j - 1
    · rw [if_pos e2] at hu; cases hu; exact ltZ_le hl
    · rw [if_neg e2, if_neg (by omega)] at hu
      exact h s (j - 1) u y h1 (by omega) (by omega) (by omega) hu hy
  · rw [if_neg e] at hv
    by_cases e2 : s = j - 1
    · rw [if_pos e2] at hu; cases hu
      exact h j t x v (by omega) (by omega) h3 e hx hv
    · rw [if_neg e2] at hu
      by_cases e3 : s = j
      · rw [if_pos e3] at hu; cases hu
        exact h (j - 1) t y v (by omega) (by omega) h3 e hy hv
      · rw [if_neg e3] at hu
        exact h s t u v h1 h2 h3 e hu hv
/-! ### One element goes up, or down -/
structure ShU (X Y : List EvP) (a b k : Nat) : Prop where
  res : Res X Y a b
  lo : ∀ t, a ≤ t → t < k → Y[t]? = X[t + 1]?
  at_ : Y[k]? = X[a]?
  out : ∀ t, t < a ∨ k < t → Y[t]? = X[t]?
theorem ShU.start (X : List EvP) (a b : Nat) : ShU X X a b a := ⟨Res.refl X a b, fun t h1 h2 => by omega, rfl, fun _ _ => rfl⟩
theorem ShU.step {X Y : List EvP} {a b k : Nat} (h : ShU X Y a b k) (hk : a ≤ k ∧ k + 1 < b) {x y : EvP} (hx : Y[k]? = some x) (hy : Y[k + 1]? = some y) : ShU X ((Y.set k y).set (k + 1) x) a b (k + 1) where
  res := h.res.trans (swap_res hx hy (by omega) (by omega))
  lo := fun t h1 h2 => by
    rw [swap_get hx hy, if_neg (by omega)]
    by_cases e : t = k
    · rw [if_pos e, e, ← hy]; exact h.out _ (by omega)
    · rw [if_neg e]; exact h.lo t h1 (by omega)
  at_ := by rw [swap_get hx hy, if_pos rfl, ← hx]; exact h.at_
  out := fun t h1 => by rw [swap_get hx hy, if_neg (by omega), if_neg (by omega)]; exact h.out t (by omega)
theorem ShU.end_ {X Y : List EvP} {a b i : Nat} (hi : a < i ∧ i ≤ b) (h : ShU X Y a b (i - 1)) (hs : SR X (a + 1) b) {z : EvP} (hz : X[a]? = some z) (h1 : ∀ t x, a + 1 ≤ t → t < i → X[t]? = some x → ltZ x z) (h2 : ∀ t x, i ≤ t → t < b → X[t]? = some x → leZ z x) : SR Y a b := fun s t x y k1 k2 k3 hx hy => by
  by_cases e1 : t < i - 1
  · rw [h.lo t (by omega) e1] at hy
    rw [h.lo s k1 (by omega)] at hx
    exact hs (s + 1) (t + 1) x y (by omega) (by omega) (by omega) hx hy
  · by_cases e2 : t = i - 1
    · rw [e2, h.at_, hz] at hy; cases hy
      rw [h.lo s k1 (by omega)] at hx
      exact ltZ_le (h1 (s + 1) x (by omega) (by omega) hx)
    · rw [h.out t (by omega)] at hy
      by_cases e3 : s < i - 1
      · rw [h.lo s k1 e3] at hx
        exact hs (s + 1) t x y (by omega) (by omega) k3 hx hy
      · by_cases e4 : s = i - 1
        · rw [e4, h.at_, hz] at hx; cases hx
          exact h2 t y (by omega) k3 hy
        · rw [h.out s (by omega)] at hx
          exact hs s t x y (by omega) k2 k3 hx hy
structure ShD (X Y : List EvP) (a m k : Nat) : Prop where
  res : Res X Y a (m + 1)
  hi : ∀ t, k < t → t ≤ m → Y[t]? = X[t - 1]?
  at_ : Y[k]? = X[m]?
  out : ∀ t, t < k ∨ m < t → Y[t]? = X[t]?
theorem ShD.start (X : List EvP) (a m : Nat) : ShD X X a m m := ⟨Res.refl X a (m + 1), fun t h1 h2 => by omega, rfl, fun _ _ => rfl⟩
theorem ShD.step {X Y : List EvP} {a m k : Nat} (h : ShD X Y a m k) (hk : a < k ∧ k ≤ m) {x y : EvP} (hx : Y[k]? = some x) (hy : Y[k - 1]? = some y) : ShD X ((Y.set k y).set (k - 1) x) a m (k - 1) where
  res := h.res.trans (swap_res hx hy (by omega) (by omega))
  hi := fun t h1 h2 => by
    rw [swap_get hx hy, if_neg (by omega)]
    by_cases e : t = k
    · rw [if_pos e, e, ← hy]; exact h.out _ (by omega)
    · rw [if_neg e]; exact h.hi t (by omega) h2
  at_ := by rw [swap_get hx hy, if_pos rfl, ← hx]; exact h.at_
  out := fun t h1 => by rw [swap_get hx hy, if_neg (by omega), if_neg (by omega)]; exact h.out t (by omega)
theorem ShD.end_ {X Y : List EvP} {a m i : Nat} (hi : a ≤ i ∧ i ≤ m) (h : ShD X Y a m i) (hs : SR X a m) {z : EvP} (hz : X[m]? = some z) (h1 : ∀ t x, a ≤ t → t < i → X[t]? = some x → leZ x z) (h2 : ∀ t x, i ≤ t → t < m → X[t]? = some x → ltZ z x) : SR Y a (m + 1) := fun s t x y k1 k2 k3 hx hy => by
  by_cases e1 : t < i
  · rw [h.out t (by omega)] at hy
    rw [h.out s (by omega)] at hx
    exact hs s t x y k1 k2 (by omega) hx hy
  · by_cases e2 : t = i
    · rw [e2, h.at_, hz] at hy; cases hy
      rw [h.out s (by omega)] at hx
      exact h1 s x k1 (by omega) hx
    · rw [h.hi t (by omega) (by omega)] at hy
      by_cases e3 : s < i
      · rw [h.out s (by omega)] at hx
        exact hs s (t - 1) x y k1 (by omega) (by omega) hx hy
      · by_cases e4 : s = i
        · rw [e4, h.at_, hz] at hx; cases hx
          exact ltZ_le (h2 (t - 1) y (by omega) (by omega) hy)
        · rw [h.hi s (by omega) (by omega)] at hx
          exact hs (s - 1) (t - 1) x y (by omega) (by omega) (by omega) hx hy
/-! ### Search -/
/-- What is found while the first is sought that is not less than z. -/
structure FiU (X : List EvP) (z : EvP) (m b i j : Nat) : Prop where
  le : m ≤ i ∧ i ≤ j ∧ j ≤ b
  lo : ∀ t x, m ≤ t → t < i → X[t]? = some x → ltZ x z
  hi : ∀ t x, j ≤ t → t < b → X[t]? = some x → leZ z x
theorem FiU.right {X : List EvP} {z : EvP} {m b i j h : Nat} (f : FiU X z m b i j) (hs : SR X m b) (hh : i ≤ h ∧ h < j) {x : EvP} (hx : X[h]? = some x) (hl : ltZ x z) : FiU X z m b (h + 1) j := ⟨by have := f.le; omega, fun t y h1 h2 hy => by
  have := f.le
  exact leZ_lt (hs.le h1 (show t ≤ h by omega) (by omega) hy hx) hl, f.hi⟩
theorem FiU.left {X : List EvP} {z : EvP} {m b i j h : Nat} (f : FiU X z m b i j) (hs : SR X m b) (hh : i ≤ h ∧ h < j) {x : EvP} (hx : X[h]? = some x) (hl : ¬ ltZ x z) : FiU X z m b i h := ⟨by have := f.le; omega, f.lo, fun t y h1 h2 hy => by
  have := f.le
  exact leZ_trans hl (hs.le (show m ≤ h by omega) h1 h2 hx hy)⟩
/-- What is found while the first is sought that is greater than z. -/
structure FiD (X : List EvP) (z : EvP) (a m i j : Nat) : Prop where
  le : a ≤ i ∧ i ≤ j ∧ j ≤ m
  lo : ∀ t x, a ≤ t → t < i → X[t]? = some x → leZ x z
  hi : ∀ t x, j ≤ t → t < m → X[t]? = some x → ltZ z x
theorem FiD.right {X : List EvP} {z : EvP} {a m i j h : Nat} (f : FiD X z a m i j) (hs : SR X a m) (hh : i ≤ h ∧ h < j) {x : EvP} (hx : X[h]? = some x) (hl : ¬ ltZ z x) : FiD X z a m (h + 1) j := ⟨by have := f.le; omega, fun t y h1 h2 hy => by
  have := f.le
  exact leZ_trans (hs.le h1 (show t ≤ h by omega) (by omega) hy hx) hl, f.hi⟩
theorem FiD.left {X : List EvP} {z : EvP} {a m i j h : Nat} (f : FiD X z a m i j) (hs : SR X a m) (hh : i ≤ h ∧ h < j) {x : EvP} (hx : X[h]? = some x) (hl : ltZ z x) : FiD X z a m i h := ⟨by have := f.le; omega, f.lo, fun t y h1 h2 hy => by
  have := f.le
  exact ltZ_leZ hl (hs.le (show a ≤ h by omega) h1 h2 hx hy)⟩
/-- What is found while the place is sought where two ranges are cut as in a mirror. -/
structure FiM (X : List EvP) (a m b mid start r : Nat) : Prop where
  le : a ≤ start ∧ mid + m ≤ start + b ∧ start ≤ r ∧ r ≤ m ∧ r ≤ mid
  lo : ∀ c x y, a ≤ c → mid + m - b ≤ c → c < start → X[c]? = some x → X[mid + m - 1 - c]? = some y → leZ x y
  hi : ∀ c x y, r ≤ c → c < m → c < mid → X[c]? = some x → X[mid + m - 1 - c]? = some y → ltZ y x
theorem FiM.start {X : List EvP} {a m b mid start r : Nat} (hab : a < m ∧ m < b) (hmid : mid = (a + b) / 2) (h : (mid < m ∧ start = mid + m - b ∧ r = mid) ∨ (m ≤ mid ∧ start = a ∧ r = m)) : FiM X a m b mid start r := ⟨by omega, fun c x y h1 h2 h3 => by omega, fun c x y h1 h2 h3 => by omega⟩
theorem FiM.right {X : List EvP} {a m b mid start r c : Nat} (f : FiM X a m b mid start r) (h1 : SR X a m) (h2 : SR X m b) (hc : start ≤ c ∧ c < r) {x y : EvP} (hx : X[c]? = some x) (hy : X[mid + m - 1 - c]? = some y) (hl : ¬ ltZ y x) : FiM X a m b mid (c + 1) r := ⟨by have := f.le; omega, fun t u v k1 k2 k3 hu hv => by
  have := f.le
  exact leZ_trans (h1.le k1 (show t ≤ c by omega) (by omega) hu hx) (leZ_trans hl (h2.le (show m ≤ mid + m - 1 - c by omega) (show mid + m - 1 - c ≤ mid + m - 1 - t by omega) (by omega) hy hv)), f.hi⟩
theorem FiM.left {X : List EvP} {a m b mid start r c : Nat} (f : FiM X a m b mid start r) (h1 : SR X a m) (h2 : SR X m b) (hc : start ≤ c ∧ c < r) {x y : EvP} (hx : X[c]? = some x) (hy : X[mid + m - 1 - c]? = some y) (hl : ltZ y x) : FiM X a m b mid start c := ⟨by have := f.le; omega, f.lo, fun t u v k1 k2 k3 hu hv => by
  have := f.le
  exact ltZ_leZ (leZ_lt (h2.le (show m ≤ mid + m - 1 - t by omega) (show mid + m - 1 - t ≤ mid + m - 1 - c by omega) (by omega) hv hy) hl) (h1.le (show a ≤ c by omega) (show c ≤ t by omega) k2 hx hu)⟩
theorem FiM.end_ {X : List EvP} {a m b mid start : Nat} (f : FiM X a m b mid start start) : MidI X a m b mid (mid + m) start := ⟨fun c x y h1 h2 h3 hx hy => f.lo c x y h1 h2 h3 hx hy, fun c x y h1 h2 h3 hx hy => f.hi c x y h1 h2 h3 hx hy⟩
/-- Nothing is turned. -/
theorem RtI.none {X : List EvP} {a m b : Nat} (h : a ≤ m ∧ m ≤ b) (h2 : ¬ (a < m ∧ m < b)) : RtI X X a m b := ⟨List.Perm.refl _, fun t k1 k2 => by rw [show m = a by omega]; simp, fun t k1 k2 => by rw [show b = m by omega]; simp, fun _ _ => rfl⟩
/-! ### Blocks -/
/-- Blocks of k, from 0 on, are in order. -/
def BlK (X : List EvP) (k a : Nat) : Prop := ∀ i, i * k < a → SR X (i * k) (min (i * k + k) a)
end Go.SL
set_option linter.unusedVariables false
set_option linter.unusedSimpArgs false
namespace Go.SL
open Go Go.Proofs
abbrev cmV : Value := .func (.func 59) #[] #[]
abbrev oE (A : Option Addr) (c : Nat) (X : List EvP) : HP := osl evpR 29 A c X
theorem ev_at (g c : Nat) {L L0 : List HP} {te : TypeId} {j : Nat} {zs : List EvP} {z : EvP} (hz : zs[j]? = some z) [hf : FindO L (some ⟨g, 0, none⟩) c EvP evpR te zs L0] : AtL L g (0 + j * 8) (eventC z.1 z.2) := AtL.gives hf.g (by
  rw [Nat.zero_add]
  exact osl_at (A := some ⟨g, 0, none⟩) (R := evpR) hz L0)
theorem swapRange_spec {L : List HP} {g c n : Nat} {X : List EvP} (a b m : Nat) (hn : n = X.length) (hn2 : n ≤ 2000000000000000) (hab : a + m ≤ b) (hb : b + m ≤ n) : Fn Try.prog 111 #[.slice (some ⟨g, 0, none⟩) n c, .int .i64 (a : Int), .int .i64 (b : Int), .int .i64 (m : Int), cmV] (oE (some ⟨g, 0, none⟩) c X :: L) (fun v L' => ∃ Y, (v = .tuple #[] ∧ SwI X Y a b m) ∧ L' = oE (some ⟨g, 0, none⟩) c Y :: L) := by
  refine Fn_enter Try.func111 rfl rfl rfl rfl ?_
  refine T_region ?_
  refine TL_y rfl rfl (Y_assign rfl) ?_
  refine TL_nil ?_
  refine T_block ?_
  refine T_loopK (σ := List EvP × Nat) [0, 1, 2, 3] (fun s => SwI X s.1 a b s.2 ∧ s.2 ≤ m) (fun s kv => (10, .int .i64 (s.2 : Int)) :: kv) (fun s => osl evpR 29 (some ⟨g, 0, none⟩) c s.1 :: L) (fun s => m - s.2) ((X, 0)) rfl (⟨SwI.zero X a b, Nat.zero_le _⟩) (GivesTo.g) (sub_cons rfl (sub_cons rfl (sub_cons rfl (sub_cons rfl (sub_cons rfl (sub_nil)))))) ?_
  rintro ⟨Z, i⟩ ⟨hZ, hi⟩
  dsimp only at hZ hi ⊢
  have hl := hZ.perm.length_eq
  refine T_seq ?_
  refine T_region ?_
  refine TL_y rfl rfl (Y_move rfl) ?_
  refine TL_y rfl rfl (Y_move rfl) ?_
  refine TL_y rfl rfl (Y_lt rfl rfl) ?_
  refine TL_nil ?_
  refine T_if rfl (fun h13 => ?_) (fun h13 => ?_)
  · refine T_skip ?_
    refine thenS_normal ?_
    refine T_seq ?_
    refine T_block ?_
    obtain ⟨x, hx⟩ := getX (X := Z) (t := a + i) (by omega)
    obtain ⟨y, hy⟩ := getX (X := Z) (t := b + i) (by omega)
    refine T_evIs g c hx ?_
    refine T_evIs g c hy ?_
    refine T_rd_last [0, 0, 0, 6, 0, 0, 0, 96, 0, 0, 0, 1536, 3840, 7936, 0, 0, 0, 98304, 245760, 507904, 1048335, 2096911, 4194303, 8388607] (by kernel_rfl) (by decide +kernel) ?_
    refine RD_pair 13 19 (by decide) ?_ ?_
    · refine RD_leaf (L) [0, 0, 0, 6, 0, 0, 0, 96, 0, 0, 0, 1536, 3840, 7936, 0, 0, 0, 98304, 245760, 524032, 1048335, 2096911, 4194303, 8388607] [] [(0, true), (1, true), (2, true), (3, true), (4, true), (5, true), (6, true), (7, true), (8, true), (9, true), (10, true), (11, true), (12, true), (14, true), (15, true), (16, true), (17, true), (18, true), (13, false), (19, false), (20, true), (21, false), (22, true), (23, false)] (by decide +kernel) GivesTo.g ?_
      refine TF_y rfl rfl (Y_move rfl) ?_
      refine TF_y rfl rfl (Y_move rfl) ?_
      refine TF_y rfl rfl (Y_move rfl) ?_
      refine TF_y rfl rfl (Y_add rfl rfl (by omega)) ?_
      refine TF_name 19 (v' := .int .i64 ((a + i : Nat) : Int)) rfl (rfl) ?_
      refine TF_y rfl rfl (Y_move rfl) ?_
      refine TF_y rfl rfl (Y_move rfl) ?_
      refine TF_y rfl rfl (Y_move rfl) ?_
      refine TF_y rfl rfl (Y_add rfl rfl (by omega)) ?_
      refine TF_name 23 (v' := .int .i64 ((b + i : Nat) : Int)) rfl (rfl) ?_
      refine TF_y rfl rfl (Y_move rfl) ?_
      refine TF_y rfl rfl (Y_move rfl) ?_
      refine TF_y rfl rfl (Y_move rfl) ?_
      refine TF_y rfl rfl (Y_add rfl rfl (by omega)) ?_
      refine TF_name 27 (v' := .int .i64 ((b + i : Nat) : Int)) rfl (rfl) ?_
      refine TF_y rfl rfl (Y_index_n (R := evpR) (xs := Z) rfl rfl (by omega) hy) ?_
      refine TF_y rfl rfl (Y_move rfl) ?_
      refine TF_y rfl rfl (Y_move rfl) ?_
      refine TF_y rfl rfl (Y_move rfl) ?_
      refine TF_y rfl rfl (Y_add rfl rfl (by omega)) ?_
      refine TF_name 33 (v' := .int .i64 ((a + i : Nat) : Int)) rfl (rfl) ?_
      refine TF_y rfl rfl (Y_index_n (R := evpR) (xs := Z) rfl rfl (by omega) hx) ?_
      refine TF_anchor rfl ?_
      refine TL_y rfl rfl (Y_load_at_agg (vs := eventC y.1 y.2) rfl (ev_at g c hy) rfl) ?_
      refine TF_end GivesTo.g ?_
      refine TF_anchor rfl ?_
      refine TL_y rfl rfl (Y_load_at_agg (vs := eventC x.1 x.2) rfl (ev_at g c hx) rfl) ?_
      refine TF_end GivesTo.g ?_
      refine TF_y rfl rfl (Y_index_n (R := evpR) (xs := Z) rfl rfl (by omega) hx) ?_
      refine TF_anchor rfl ?_
      refine TL_evStore (g := g) (c := c) (zs := Z) (j := a + i) (z := y) rfl rfl (by omega) ?_
      refine TF_end GivesTo.g ?_
      refine TF_y rfl rfl (Y_index_n (R := evpR) (xs := Z) rfl rfl (by omega) hy) ?_
      refine TF_anchor rfl ?_
      refine TL_evStore (g := g) (c := c) (zs := Z.set (a + i) y) (j := b + i) (z := x) rfl rfl (by rw [List.length_set]; omega) ?_
      refine TF_end GivesTo.g ?_
      refine TF_nil ?_
      refine inB_normal ?_
      refine thenS_normal ?_
      refine T_region_last ?_
      refine TL_y rfl rfl (Y_move rfl) ?_
      refine TL_y rfl rfl (Y_add rfl rfl (by omega)) ?_
      refine TL_name 15 (v' := .int .i64 ((i + 1 : Nat) : Int)) rfl (rfl) ?_
      refine TL_y rfl rfl (Y_assign rfl) ?_
      refine TL_nil ?_
      refine thenS_normal ?_
      exact ⟨(((Z.set (a + i) y).set (b + i) x), i + 1), ⟨hZ.step (by omega) hx hy, by omega⟩, by omega, holds_to (sub_cons rfl (sub_cons rfl (sub_cons rfl (sub_cons rfl (sub_cons rfl (sub_nil)))))) GivesTo.g⟩
    · refine RD_leaf (L) [0, 0, 0, 6, 0, 0, 0, 96, 0, 0, 0, 1536, 3840, 1040128, 0, 0, 0, 98304, 245760, 507904, 1048335, 2096911, 4194303, 8388607] [] [(0, true), (1, true), (2, true), (3, true), (4, true), (5, true), (6, true), (7, true), (8, true), (9, true), (10, true), (11, true), (12, true), (14, true), (15, true), (16, true), (17, true), (18, true), (19, false), (13, false), (20, true), (21, false), (22, true), (23, false)] (by decide +kernel) GivesTo.g ?_
      refine TF_y rfl rfl (Y_move rfl) ?_
      refine TF_y rfl rfl (Y_move rfl) ?_
      refine TF_y rfl rfl (Y_move rfl) ?_
      refine TF_y rfl rfl (Y_add rfl rfl (by omega)) ?_
      refine TF_name 19 (v' := .int .i64 ((a + i : Nat) : Int)) rfl (rfl) ?_
      refine TF_y rfl rfl (Y_move rfl) ?_
      refine TF_y rfl rfl (Y_move rfl) ?_
      refine TF_y rfl rfl (Y_move rfl) ?_
      refine TF_y rfl rfl (Y_add rfl rfl (by omega)) ?_
      refine TF_name 23 (v' := .int .i64 ((b + i : Nat) : Int)) rfl (rfl) ?_
      refine TF_y rfl rfl (Y_move rfl) ?_
      refine TF_y rfl rfl (Y_move rfl) ?_
      refine TF_y rfl rfl (Y_move rfl) ?_
      refine TF_y rfl rfl (Y_add rfl rfl (by omega)) ?_
      refine TF_name 27 (v' := .int .i64 ((b + i : Nat) : Int)) rfl (rfl) ?_
      refine TF_y rfl rfl (Y_index_n (R := evpR) (xs := Z) rfl rfl (by omega) hy) ?_
      refine TF_y rfl rfl (Y_move rfl) ?_
      refine TF_y rfl rfl (Y_move rfl) ?_
      refine TF_y rfl rfl (Y_move rfl) ?_
      refine TF_y rfl rfl (Y_add rfl rfl (by omega)) ?_
      refine TF_name 33 (v' := .int .i64 ((a + i : Nat) : Int)) rfl (rfl) ?_
      refine TF_y rfl rfl (Y_index_n (R := evpR) (xs := Z) rfl rfl (by omega) hx) ?_
      refine TF_anchor rfl ?_
      refine TL_y rfl rfl (Y_load_at_agg (vs := eventC x.1 x.2) rfl (ev_at g c hx) rfl) ?_
      refine TF_end GivesTo.g ?_
      refine TF_anchor rfl ?_
      refine TL_y rfl rfl (Y_load_at_agg (vs := eventC y.1 y.2) rfl (ev_at g c hy) rfl) ?_
      refine TF_end GivesTo.g ?_
      refine TF_y rfl rfl (Y_index_n (R := evpR) (xs := Z) rfl rfl (by omega) hx) ?_
      refine TF_anchor rfl ?_
      refine TL_evStore (g := g) (c := c) (zs := Z) (j := a + i) (z := y) rfl rfl (by omega) ?_
      refine TF_end GivesTo.g ?_
      refine TF_y rfl rfl (Y_index_n (R := evpR) (xs := Z) rfl rfl (by omega) hy) ?_
      refine TF_anchor rfl ?_
      refine TL_evStore (g := g) (c := c) (zs := Z.set (a + i) y) (j := b + i) (z := x) rfl rfl (by rw [List.length_set]; omega) ?_
      refine TF_end GivesTo.g ?_
      refine TF_nil ?_
      refine inB_normal ?_
      refine thenS_normal ?_
      refine T_region_last ?_
      refine TL_y rfl rfl (Y_move rfl) ?_
      refine TL_y rfl rfl (Y_add rfl rfl (by omega)) ?_
      refine TL_name 15 (v' := .int .i64 ((i + 1 : Nat) : Int)) rfl (rfl) ?_
      refine TL_y rfl rfl (Y_assign rfl) ?_
      refine TL_nil ?_
      refine thenS_normal ?_
      exact ⟨(((Z.set (a + i) y).set (b + i) x), i + 1), ⟨hZ.step (by omega) hx hy, by omega⟩, by omega, holds_to (sub_cons rfl (sub_cons rfl (sub_cons rfl (sub_cons rfl (sub_cons rfl (sub_nil)))))) GivesTo.g⟩
  · refine T_exit ?_
    refine thenS_exit ?_
    refine thenS_exit ?_
    refine inB_hit ?_
    exact RetG_0 (.inr rfl) rfl GivesTo.g (⟨Z, ⟨rfl, by rw [show m = i by omega]; exact hZ⟩, rfl⟩)
theorem rotate_spec {L : List HP} {g c n : Nat} {X : List EvP} (a m b : Nat) (hn : n = X.length) (hn2 : n ≤ 2000000000000000) (h : a < m ∧ m < b ∧ b ≤ n) : Fn Try.prog 104 #[.slice (some ⟨g, 0, none⟩) n c, .int .i64 (a : Int), .int .i64 (m : Int), .int .i64 (b : Int), cmV] (oE (some ⟨g, 0, none⟩) c X :: L) (fun v L' => ∃ Y, (v = .tuple #[] ∧ RtI X Y a m b) ∧ L' = oE (some ⟨g, 0, none⟩) c Y :: L) := by
  refine Fn_enter Try.func104 rfl rfl rfl rfl ?_
  refine T_region ?_
  refine TL_y rfl rfl (Y_move rfl) ?_
  refine TL_y rfl rfl (Y_move rfl) ?_
  refine TL_y rfl rfl (Y_sub rfl rfl (by omega)) ?_
  refine TL_name 14 (v' := .int .i64 ((m - a : Nat) : Int)) rfl (congrArg (Value.int .i64) (by omega)) ?_
  refine TL_y rfl rfl (Y_assign rfl) ?_
  refine TL_nil ?_
  refine T_region ?_
  refine TL_y rfl rfl (Y_move rfl) ?_
  refine TL_y rfl rfl (Y_move rfl) ?_
  refine TL_y rfl rfl (Y_sub rfl rfl (by omega)) ?_
  refine TL_name 17 (v' := .int .i64 ((b - m : Nat) : Int)) rfl (congrArg (Value.int .i64) (by omega)) ?_
  refine TL_y rfl rfl (Y_assign rfl) ?_
  refine TL_nil ?_
  refine T_seq ?_
  refine T_block ?_
  refine T_loopK (σ := List EvP × Nat × Nat) [0, 2, 4] (fun s => RtL X s.1 a m b s.2.1 s.2.2) (fun s kv => (10, .int .i64 (s.2.1 : Int)) :: (11, .int .i64 (s.2.2 : Int)) :: kv) (fun s => osl evpR 29 (some ⟨g, 0, none⟩) c s.1 :: L) (fun s => s.2.1 + s.2.2) ((X, m - a, b - m)) rfl (RtL.start X ⟨h.1, h.2.1⟩) (GivesTo.g) (sub_cons rfl (sub_cons rfl (sub_cons rfl (sub_cons rfl (sub_cons rfl (sub_nil)))))) ?_
  rintro ⟨Z, i, j⟩ hZ
  dsimp only at hZ ⊢
  have hij := hZ.ij
  have hl := hZ.perm.length_eq
  refine T_seq ?_
  refine T_region ?_
  refine TL_y rfl rfl (Y_move rfl) ?_
  refine TL_y rfl rfl (Y_move rfl) ?_
  refine TL_y rfl rfl (Y_ne rfl rfl) ?_
  refine TL_nil ?_
  refine T_if rfl (fun h20 => ?_) (fun h20 => ?_)
  · refine T_skip ?_
    refine thenS_normal ?_
    refine T_block ?_
    refine T_region ?_
    refine TL_y rfl rfl (Y_move rfl) ?_
    refine TL_y rfl rfl (Y_move rfl) ?_
    refine TL_y rfl rfl (Y_gt rfl rfl) ?_
    refine TL_nil ?_
    refine T_if rfl (fun h23 => ?_) (fun h23 => ?_)
    · refine T_region ?_
      refine TL_y rfl rfl (Y_move rfl) ?_
      refine TL_y rfl rfl (Y_move rfl) ?_
      refine TL_y rfl rfl (Y_move rfl) ?_
      refine TL_y rfl rfl (Y_sub rfl rfl (by omega)) ?_
      refine TL_name 27 (v' := .int .i64 ((m - i : Nat) : Int)) rfl (congrArg (Value.int .i64) (by omega)) ?_
      refine TL_y rfl rfl (Y_move rfl) ?_
      refine TL_y rfl rfl (Y_move rfl) ?_
      refine TL_y rfl rfl (Y_move rfl) ?_
      refine TL_call rfl rfl (swapRange_spec (m - i) m j (by omega) hn2 (by omega) (by omega)) ?_
      rintro _ _ ⟨Y, ⟨rfl, hY⟩, rfl⟩
      refine TL_nil ?_
      refine T_region_last ?_
      refine TL_y rfl rfl (Y_move rfl) ?_
      refine TL_y rfl rfl (Y_move rfl) ?_
      refine TL_y rfl rfl (Y_sub rfl rfl (by omega)) ?_
      refine TL_name 34 (v' := .int .i64 ((i - j : Nat) : Int)) rfl (congrArg (Value.int .i64) (by omega)) ?_
      refine TL_y rfl rfl (Y_assign rfl) ?_
      refine TL_nil ?_
      refine inB_normal ?_
      refine thenS_normal ?_
      exact ⟨(Y, i - j, j), hZ.gt (by omega) hY, (by dsimp only; omega), holds_to (sub_cons rfl (sub_cons rfl (sub_cons rfl (sub_cons rfl (sub_cons rfl (sub_nil)))))) GivesTo.g⟩
    · refine T_region ?_
      refine TL_y rfl rfl (Y_move rfl) ?_
      refine TL_y rfl rfl (Y_move rfl) ?_
      refine TL_y rfl rfl (Y_move rfl) ?_
      refine TL_y rfl rfl (Y_sub rfl rfl (by omega)) ?_
      refine TL_name 38 (v' := .int .i64 ((m - i : Nat) : Int)) rfl (congrArg (Value.int .i64) (by omega)) ?_
      refine TL_y rfl rfl (Y_move rfl) ?_
      refine TL_y rfl rfl (Y_move rfl) ?_
      refine TL_y rfl rfl (Y_add rfl rfl (by omega)) ?_
      refine TL_name 41 (v' := .int .i64 ((m + j : Nat) : Int)) rfl (rfl) ?_
      refine TL_y rfl rfl (Y_move rfl) ?_
      refine TL_y rfl rfl (Y_sub rfl rfl (by omega)) ?_
      refine TL_name 43 (v' := .int .i64 ((m + j - i : Nat) : Int)) rfl (congrArg (Value.int .i64) (by omega)) ?_
      refine TL_y rfl rfl (Y_move rfl) ?_
      refine TL_y rfl rfl (Y_move rfl) ?_
      refine TL_call rfl rfl (swapRange_spec (m - i) (m + j - i) i (by omega) hn2 (by omega) (by omega)) ?_
      rintro _ _ ⟨Y, ⟨rfl, hY⟩, rfl⟩
      refine TL_nil ?_
      refine T_region_last ?_
      refine TL_y rfl rfl (Y_move rfl) ?_
      refine TL_y rfl rfl (Y_move rfl) ?_
      refine TL_y rfl rfl (Y_sub rfl rfl (by omega)) ?_
      refine TL_name 49 (v' := .int .i64 ((j - i : Nat) : Int)) rfl (congrArg (Value.int .i64) (by omega)) ?_
      refine TL_y rfl rfl (Y_assign rfl) ?_
      refine TL_nil ?_
      refine inB_normal ?_
      refine thenS_normal ?_
      exact ⟨(Y, i, j - i), hZ.lt (by omega) hY, (by dsimp only; omega), holds_to (sub_cons rfl (sub_cons rfl (sub_cons rfl (sub_cons rfl (sub_cons rfl (sub_nil)))))) GivesTo.g⟩
  · refine T_exit ?_
    refine thenS_exit ?_
    refine thenS_exit ?_
    refine inB_hit ?_
    refine thenS_normal ?_
    obtain rfl : i = j := (by omega)
    refine T_region_last ?_
    refine TL_y rfl rfl (Y_move rfl) ?_
    refine TL_y rfl rfl (Y_move rfl) ?_
    refine TL_y rfl rfl (Y_move rfl) ?_
    refine TL_y rfl rfl (Y_sub rfl rfl (by omega)) ?_
    refine TL_name 53 (v' := .int .i64 ((m - i : Nat) : Int)) rfl (congrArg (Value.int .i64) (by omega)) ?_
    refine TL_y rfl rfl (Y_move rfl) ?_
    refine TL_y rfl rfl (Y_move rfl) ?_
    refine TL_y rfl rfl (Y_move rfl) ?_
    refine TL_call rfl rfl (swapRange_spec (m - i) m i (by omega) hn2 (by omega) (by omega)) ?_
    rintro _ _ ⟨Y, ⟨rfl, hY⟩, rfl⟩
    refine TL_nil ?_
    exact RetG_0 (.inr rfl) rfl GivesTo.g (⟨Y, ⟨rfl, hZ.end_ hY⟩, rfl⟩)
theorem insertion_spec {L : List HP} {A : Option Addr} {c n : Nat} {X : List EvP} (a b : Nat) (hn : n = X.length) (hn2 : n ≤ 2000000000000000) (hb : b ≤ n) (ha : a ≤ n) : Fn Try.prog 89 #[.slice A n c, .int .i64 (a : Int), .int .i64 (b : Int), cmV] (oE A c X :: L) (fun v L' => ∃ Y, (v = .tuple #[] ∧ Res X Y a b ∧ SR Y a b) ∧ L' = oE A c Y :: L) := by
  refine Fn_enter Try.func89 rfl rfl rfl rfl ?_
  refine T_region ?_
  refine TL_y rfl rfl (Y_move rfl) ?_
  refine TL_y rfl rfl (Y_add rfl rfl (by omega)) ?_
  refine TL_name 11 (v' := .int .i64 ((a + 1 : Nat) : Int)) rfl (rfl) ?_
  refine TL_y rfl rfl (Y_assign rfl) ?_
  refine TL_nil ?_
  refine T_block ?_
  refine T_loopK (σ := List EvP × Nat) [0, 1, 2, 3] (fun s => Res X s.1 a b ∧ SR s.1 a s.2 ∧ a < s.2 ∧ (s.2 ≤ b ∨ s.2 = a + 1)) (fun s kv => (8, .int .i64 (s.2 : Int)) :: kv) (fun s => osl evpR 29 A c s.1 :: L) (fun s => b - s.2) ((X, a + 1)) rfl (⟨Res.refl X a b, SR.nil X (Nat.le_refl _), Nat.lt_succ_self _, .inr rfl⟩) (GivesTo.g) (sub_cons rfl (sub_cons rfl (sub_cons rfl (sub_cons rfl (sub_cons rfl (sub_nil)))))) ?_
  rintro ⟨Y, i⟩ ⟨hY, hs, hai, hib⟩
  dsimp only at hY hs hai hib ⊢
  have hlY := hY.len
  refine T_seq ?_
  refine T_region ?_
  refine TL_y rfl rfl (Y_move rfl) ?_
  refine TL_y rfl rfl (Y_move rfl) ?_
  refine TL_y rfl rfl (Y_lt rfl rfl) ?_
  refine TL_nil ?_
  refine T_if rfl (fun h14 => ?_) (fun h14 => ?_)
  · refine T_skip ?_
    refine thenS_normal ?_
    refine T_seq ?_
    refine T_block ?_
    obtain ⟨x0, hx0⟩ := getX (X := Y) (t := i) (by omega)
    refine T_oaddr A c hx0 fun g hA => ?_
    subst hA
    refine T_region ?_
    refine TL_y rfl rfl (Y_move rfl) ?_
    refine TL_y rfl rfl (Y_assign rfl) ?_
    refine TL_nil ?_
    refine T_block ?_
    refine T_loopK (σ := List EvP × Nat) [0, 1, 2, 3, 8] (fun s => Res X s.1 a b ∧ InsI s.1 a i s.2 ∧ a ≤ s.2 ∧ s.2 ≤ i) (fun s kv => (9, .int .i64 (s.2 : Int)) :: kv) (fun s => osl evpR 29 (some ⟨g, 0, none⟩) c s.1 :: L) (fun s => s.2) ((Y, i)) rfl (⟨hY, InsI.start hs, by omega, Nat.le_refl _⟩) (GivesTo.g) (sub_cons rfl (sub_cons rfl (sub_cons rfl (sub_cons rfl (sub_cons rfl (sub_cons rfl (sub_nil))))))) ?_
    rintro ⟨Z, j⟩ ⟨hZ, hI, haj, hji⟩
    dsimp only at hZ hI haj hji ⊢
    have hlZ := hZ.len
    obtain ⟨x, hx⟩ := getX (X := Z) (t := j) (by omega)
    obtain ⟨y, hy⟩ := getX (X := Z) (t := j - 1) (by omega)
    refine T_seq ?_
    refine T_region_draw (osl evpR 29 (some ⟨g, 0, none⟩) c Z :: L) [0, 0, 3, 7, 15, 15, 15, 111, 239, 15, 15, 1039, 3599, 7695, 16383, 32767, 65535] [] [(0, true), (1, true), (2, true), (3, true), (4, true), (5, true), (6, true), (7, true), (8, true), (9, true), (10, true), (11, true), (12, true), (13, true), (14, false), (15, true), (16, true)] (by kernel_rfl) (by decide +kernel) GivesTo.g ?_
    refine TF_y rfl rfl (Y_move rfl) ?_
    refine TF_y rfl rfl (Y_move rfl) ?_
    refine TF_y rfl rfl (Y_gt rfl rfl) ?_
    refine TF_y rfl rfl (Y_move rfl) ?_
    refine TF_splitd 21 rfl (fun h21 => ?_) (fun h21 => ?_)
    · refine TF_gy rfl rfl rfl rfl (Y_move rfl) ?_
      refine TF_gy rfl rfl rfl rfl (Y_move rfl) ?_
      refine TF_gy rfl rfl rfl rfl (Y_move rfl) ?_
      refine TF_gy rfl rfl rfl rfl (Y_index_n (R := evpR) (xs := Z) rfl rfl (by omega) hx) ?_
      refine TF_gy rfl rfl rfl rfl (Y_load_at_agg (vs := eventC x.1 x.2) rfl (ev_at g c hx) rfl) ?_
      refine TF_gy rfl rfl rfl rfl (Y_move rfl) ?_
      refine TF_gy rfl rfl rfl rfl (Y_move rfl) ?_
      refine TF_gy rfl rfl rfl rfl (Y_sub rfl rfl (by omega)) ?_
      refine TF_name 29 (v' := .int .i64 ((j - 1 : Nat) : Int)) rfl (congrArg (Value.int .i64) (by omega)) ?_
      refine TF_gy rfl rfl rfl rfl (Y_index_n (R := evpR) (xs := Z) rfl rfl (by omega) hy) ?_
      refine TF_gy rfl rfl rfl rfl (Y_load_at_agg (vs := eventC y.1 y.2) rfl (ev_at g c hy) rfl) ?_
      refine TF_anchor rfl ?_
      refine TL_grun rfl rfl ?_
      refine TL_call_fn rfl rfl rfl (merge1_spec x.1 y.1 x.2 y.2) ?_
      rintro _ _ ⟨rfl, rfl⟩
      refine TF_end GivesTo.g ?_
      refine TF_gy rfl rfl rfl rfl (Y_lt rfl rfl) ?_
      refine TF_y rfl rfl (Y_pick_t rfl rfl) ?_
      refine TF_nil ?_
      refine T_if rfl (fun h34 => ?_) (fun h34 => ?_)
      · refine T_skip ?_
        refine thenS_normal ?_
        refine T_seq ?_
        refine T_block ?_
        refine T_evIs g c hx ?_
        refine T_evIs g c hy ?_
        refine T_rd_last [0, 0, 0, 0, 8, 0, 0, 64, 224, 480, 0, 0, 3072, 7168, 16355, 32739, 65535, 131071] (by kernel_rfl) (by decide +kernel) ?_
        refine RD_pair 9 13 (by decide) ?_ ?_
        · refine RD_leaf (L) [0, 0, 0, 0, 8, 0, 0, 64, 224, 480, 0, 0, 3072, 8160, 16355, 32739, 65535, 131071] [] [(0, true), (1, true), (2, true), (3, true), (4, true), (5, true), (6, true), (7, true), (8, true), (10, true), (11, true), (12, true), (9, false), (13, false), (14, true), (15, false), (16, true), (17, false)] (by decide +kernel) GivesTo.g ?_
          refine TF_y rfl rfl (Y_move rfl) ?_
          refine TF_y rfl rfl (Y_move rfl) ?_
          refine TF_y rfl rfl (Y_move rfl) ?_
          refine TF_y rfl rfl (Y_move rfl) ?_
          refine TF_y rfl rfl (Y_sub rfl rfl (by omega)) ?_
          refine TF_name 41 (v' := .int .i64 ((j - 1 : Nat) : Int)) rfl (congrArg (Value.int .i64) (by omega)) ?_
          refine TF_y rfl rfl (Y_move rfl) ?_
          refine TF_y rfl rfl (Y_move rfl) ?_
          refine TF_y rfl rfl (Y_sub rfl rfl (by omega)) ?_
          refine TF_name 44 (v' := .int .i64 ((j - 1 : Nat) : Int)) rfl (congrArg (Value.int .i64) (by omega)) ?_
          refine TF_y rfl rfl (Y_index_n (R := evpR) (xs := Z) rfl rfl (by omega) hy) ?_
          refine TF_y rfl rfl (Y_move rfl) ?_
          refine TF_y rfl rfl (Y_move rfl) ?_
          refine TF_y rfl rfl (Y_index_n (R := evpR) (xs := Z) rfl rfl (by omega) hx) ?_
          refine TF_anchor rfl ?_
          refine TL_y rfl rfl (Y_load_at_agg (vs := eventC y.1 y.2) rfl (ev_at g c hy) rfl) ?_
          refine TF_end GivesTo.g ?_
          refine TF_anchor rfl ?_
          refine TL_y rfl rfl (Y_load_at_agg (vs := eventC x.1 x.2) rfl (ev_at g c hx) rfl) ?_
          refine TF_end GivesTo.g ?_
          refine TF_y rfl rfl (Y_index_n (R := evpR) (xs := Z) rfl rfl (by omega) hx) ?_
          refine TF_anchor rfl ?_
          refine TL_evStore (g := g) (c := c) (zs := Z) (j := j) (z := y) rfl rfl (by omega) ?_
          refine TF_end GivesTo.g ?_
          refine TF_y rfl rfl (Y_index_n (R := evpR) (xs := Z) rfl rfl (by omega) hy) ?_
          refine TF_anchor rfl ?_
          refine TL_evStore (g := g) (c := c) (zs := Z.set j y) (j := j - 1) (z := x) rfl rfl (by rw [List.length_set]; omega) ?_
          refine TF_end GivesTo.g ?_
          refine TF_nil ?_
          refine inB_normal ?_
          refine thenS_normal ?_
          refine T_region_last ?_
          refine TL_y rfl rfl (Y_move rfl) ?_
          refine TL_y rfl rfl (Y_sub rfl rfl (by omega)) ?_
          refine TL_name 36 (v' := .int .i64 ((j - 1 : Nat) : Int)) rfl (congrArg (Value.int .i64) (by omega)) ?_
          refine TL_y rfl rfl (Y_assign rfl) ?_
          refine TL_nil ?_
          refine thenS_normal ?_
          exact ⟨(((Z.set j y).set (j - 1) x), j - 1), ⟨hZ.trans (swap_res hx hy (by omega) (by omega)), hI.swap (by omega) hx hy h34, by omega, by omega⟩, by omega, holds_to (sub_cons rfl (sub_cons rfl (sub_cons rfl (sub_cons rfl (sub_cons rfl (sub_cons rfl (sub_nil))))))) GivesTo.g⟩
        · refine RD_leaf (L) [0, 0, 0, 0, 8, 0, 0, 64, 224, 15840, 0, 0, 3072, 7168, 16355, 32739, 65535, 131071] [] [(0, true), (1, true), (2, true), (3, true), (4, true), (5, true), (6, true), (7, true), (8, true), (10, true), (11, true), (12, true), (13, false), (9, false), (14, true), (15, false), (16, true), (17, false)] (by decide +kernel) GivesTo.g ?_
          refine TF_y rfl rfl (Y_move rfl) ?_
          refine TF_y rfl rfl (Y_move rfl) ?_
          refine TF_y rfl rfl (Y_move rfl) ?_
          refine TF_y rfl rfl (Y_move rfl) ?_
          refine TF_y rfl rfl (Y_sub rfl rfl (by omega)) ?_
          refine TF_name 41 (v' := .int .i64 ((j - 1 : Nat) : Int)) rfl (congrArg (Value.int .i64) (by omega)) ?_
          refine TF_y rfl rfl (Y_move rfl) ?_
          refine TF_y rfl rfl (Y_move rfl) ?_
          refine TF_y rfl rfl (Y_sub rfl rfl (by omega)) ?_
          refine TF_name 44 (v' := .int .i64 ((j - 1 : Nat) : Int)) rfl (congrArg (Value.int .i64) (by omega)) ?_
          refine TF_y rfl rfl (Y_index_n (R := evpR) (xs := Z) rfl rfl (by omega) hy) ?_
          refine TF_y rfl rfl (Y_move rfl) ?_
          refine TF_y rfl rfl (Y_move rfl) ?_
          refine TF_y rfl rfl (Y_index_n (R := evpR) (xs := Z) rfl rfl (by omega) hx) ?_
          refine TF_anchor rfl ?_
          refine TL_y rfl rfl (Y_load_at_agg (vs := eventC x.1 x.2) rfl (ev_at g c hx) rfl) ?_
          refine TF_end GivesTo.g ?_
          refine TF_anchor rfl ?_
          refine TL_y rfl rfl (Y_load_at_agg (vs := eventC y.1 y.2) rfl (ev_at g c hy) rfl) ?_
          refine TF_end GivesTo.g ?_
          refine TF_y rfl rfl (Y_index_n (R := evpR) (xs := Z) rfl rfl (by omega) hx) ?_
          refine TF_anchor rfl ?_
          refine TL_evStore (g := g) (c := c) (zs := Z) (j := j) (z := y) rfl rfl (by omega) ?_
          refine TF_end GivesTo.g ?_
          refine TF_y rfl rfl (Y_index_n (R := evpR) (xs := Z) rfl rfl (by omega) hy) ?_
          refine TF_anchor rfl ?_
          refine TL_evStore (g := g) (c := c) (zs := Z.set j y) (j := j - 1) (z := x) rfl rfl (by rw [List.length_set]; omega) ?_
          refine TF_end GivesTo.g ?_
          refine TF_nil ?_
          refine inB_normal ?_
          refine thenS_normal ?_
          refine T_region_last ?_
          refine TL_y rfl rfl (Y_move rfl) ?_
          refine TL_y rfl rfl (Y_sub rfl rfl (by omega)) ?_
          refine TL_name 36 (v' := .int .i64 ((j - 1 : Nat) : Int)) rfl (congrArg (Value.int .i64) (by omega)) ?_
          refine TL_y rfl rfl (Y_assign rfl) ?_
          refine TL_nil ?_
          refine thenS_normal ?_
          exact ⟨(((Z.set j y).set (j - 1) x), j - 1), ⟨hZ.trans (swap_res hx hy (by omega) (by omega)), hI.swap (by omega) hx hy h34, by omega, by omega⟩, by omega, holds_to (sub_cons rfl (sub_cons rfl (sub_cons rfl (sub_cons rfl (sub_cons rfl (sub_cons rfl (sub_nil))))))) GivesTo.g⟩
      · refine T_exit ?_
        refine thenS_exit ?_
        refine thenS_exit ?_
        refine inB_hit ?_
        refine inB_normal ?_
        refine thenS_normal ?_
        refine T_region_last ?_
        refine TL_y rfl rfl (Y_move rfl) ?_
        refine TL_y rfl rfl (Y_add rfl rfl (by omega)) ?_
        refine TL_name 16 (v' := .int .i64 ((i + 1 : Nat) : Int)) rfl (rfl) ?_
        refine TL_y rfl rfl (Y_assign rfl) ?_
        refine TL_nil ?_
        refine thenS_normal ?_
        exact ⟨(Z, i + 1), ⟨hZ, hI.stop (by omega) hx hy h34, by omega, by omega⟩, by omega, holds_to (sub_cons rfl (sub_cons rfl (sub_cons rfl (sub_cons rfl (sub_cons rfl (sub_nil)))))) GivesTo.g⟩
    · refine TF_gskip rfl rfl rfl rfl rfl ?_
      refine TF_gskip rfl rfl rfl rfl rfl ?_
      refine TF_gskip rfl rfl rfl rfl rfl ?_
      refine TF_gskip rfl rfl rfl rfl rfl ?_
      refine TF_gskip rfl rfl rfl rfl rfl ?_
      refine TF_gskip rfl rfl rfl rfl rfl ?_
      refine TF_gskip rfl rfl rfl rfl rfl ?_
      refine TF_gskip rfl rfl rfl rfl rfl ?_
      refine TF_gskip rfl rfl rfl rfl rfl ?_
      refine TF_gskip rfl rfl rfl rfl rfl ?_
      refine TF_anchor rfl ?_
      refine TL_gskip rfl rfl rfl rfl ?_
      refine TF_end GivesTo.g ?_
      refine TF_gskip rfl rfl rfl rfl rfl ?_
      refine TF_y rfl rfl (Y_pick_f rfl rfl) ?_
      refine TF_nil ?_
      refine T_cond_false rfl ?_
      refine T_exit ?_
      refine thenS_exit ?_
      refine thenS_exit ?_
      refine inB_hit ?_
      refine inB_normal ?_
      refine thenS_normal ?_
      refine T_region_last ?_
      refine TL_y rfl rfl (Y_move rfl) ?_
      refine TL_y rfl rfl (Y_add rfl rfl (by omega)) ?_
      refine TL_name 16 (v' := .int .i64 ((i + 1 : Nat) : Int)) rfl (rfl) ?_
      refine TL_y rfl rfl (Y_assign rfl) ?_
      refine TL_nil ?_
      refine thenS_normal ?_
      exact ⟨(Z, i + 1), ⟨hZ, (by obtain rfl : j = a := (by omega); exact hI.first), by omega, by omega⟩, by omega, holds_to (sub_cons rfl (sub_cons rfl (sub_cons rfl (sub_cons rfl (sub_cons rfl (sub_nil)))))) GivesTo.g⟩
  · refine T_exit ?_
    refine thenS_exit ?_
    refine thenS_exit ?_
    refine inB_hit ?_
    exact RetG_0 (.inr rfl) rfl GivesTo.g (⟨Y, ⟨rfl, hY, hs.sub (Nat.le_refl _) (by omega)⟩, rfl⟩)
end Go.SL
set_option linter.unusedVariables false
set_option linter.unusedSimpArgs false
namespace Go.SL
open Go Go.Proofs
theorem shr1 (x : Nat) : (x : Int).fdiv (2 ^ min (1 : Int).toNat IntKind.u64.bits) = ((x / 2 : Nat) : Int) := by
  rw [show (2 : Int) ^ min (1 : Int).toNat IntKind.u64.bits = ((2 : Nat) : Int) from rfl, Int.fdiv_eq_ediv_of_nonneg _ (by omega)]
  rfl
def SymC (k : Nat) : Prop := ∀ (L : List HP) (g c n : Nat) (X : List EvP) (a m b : Nat), b - a ≤ k → n = X.length → n ≤ 2000000000000000 → (a < m ∧ m < b ∧ b ≤ n) → SR X a m → SR X m b →
  Fn Try.prog 90 #[.slice (some ⟨g, 0, none⟩) n c, .int .i64 (a : Int), .int .i64 (m : Int), .int .i64 (b : Int), cmV] (oE (some ⟨g, 0, none⟩) c X :: L) (fun v L' => ∃ Y, (v = .tuple #[] ∧ Res X Y a b ∧ SR Y a b) ∧ L' = oE (some ⟨g, 0, none⟩) c Y :: L)
theorem symMerge_step {k : Nat} (ih : SymC k) {L : List HP} {g c n : Nat} {X : List EvP} (a m b : Nat) (hk : b - a ≤ k + 1) (hn : n = X.length) (hn2 : n ≤ 2000000000000000) (hab : a < m ∧ m < b ∧ b ≤ n) (h1 : SR X a m) (h2 : SR X m b) :
    Fn Try.prog 90 #[.slice (some ⟨g, 0, none⟩) n c, .int .i64 (a : Int), .int .i64 (m : Int), .int .i64 (b : Int), cmV] (oE (some ⟨g, 0, none⟩) c X :: L) (fun v L' => ∃ Y, (v = .tuple #[] ∧ Res X Y a b ∧ SR Y a b) ∧ L' = oE (some ⟨g, 0, none⟩) c Y :: L) := by
  refine Fn_enter Try.func90 rfl rfl rfl rfl ?_
  refine T_seq ?_
  refine T_region ?_
  refine TL_y rfl rfl (Y_move rfl) ?_
  refine TL_y rfl rfl (Y_move rfl) ?_
  refine TL_y rfl rfl (Y_sub rfl rfl (by omega)) ?_
  refine TL_y rfl rfl (Y_eq rfl rfl) ?_
  refine TL_nil ?_
  refine T_if rfl (fun h28 => ?_) (fun h28 => ?_)
  · obtain ⟨z, hz⟩ := getX (X := X) (t := a) (by omega)
    have hma : m = a + 1 := (by omega)
    refine T_region ?_
    refine TL_y rfl rfl (Y_move rfl) ?_
    refine TL_y rfl rfl (Y_assign rfl) ?_
    refine TL_nil ?_
    refine T_region ?_
    refine TL_y rfl rfl (Y_move rfl) ?_
    refine TL_y rfl rfl (Y_assign rfl) ?_
    refine TL_nil ?_
    refine T_seq ?_
    refine T_block ?_
    refine T_loopK (σ := Nat × Nat) [0, 1, 4] (fun s => FiU X z m b s.1 s.2) (fun s kv => (10, .int .i64 (s.1 : Int)) :: (11, .int .i64 (s.2 : Int)) :: kv) (fun s => osl evpR 29 (some ⟨g, 0, none⟩) c X :: L) (fun s => s.2 - s.1) ((m, b)) rfl (⟨(by dsimp only; omega), fun t x h3 h4 => absurd h4 (by dsimp only; omega), fun t x h3 h4 => absurd h4 (by dsimp only at h3; omega)⟩) (GivesTo.g) (sub_cons rfl (sub_cons rfl (sub_cons rfl (sub_cons rfl (sub_cons rfl (sub_nil)))))) ?_
    rintro ⟨i, j⟩ hF
    dsimp only at hF ⊢
    have hle := hF.le
    refine T_seq ?_
    refine T_region ?_
    refine TL_y rfl rfl (Y_move rfl) ?_
    refine TL_y rfl rfl (Y_move rfl) ?_
    refine TL_y rfl rfl (Y_lt rfl rfl) ?_
    refine TL_nil ?_
    refine T_if rfl (fun h33 => ?_) (fun h33 => ?_)
    · refine T_skip ?_
      refine thenS_normal ?_
      refine T_block ?_
      refine T_region ?_
      refine TL_y rfl rfl (Y_move rfl) ?_
      refine TL_y rfl rfl (Y_move rfl) ?_
      refine TL_y rfl rfl (Y_add rfl rfl (by omega)) ?_
      refine TL_name 36 (v' := .int .i64 ((i + j : Nat) : Int)) rfl (rfl) ?_
      refine TL_y rfl rfl (Y_conv_in rfl (IntWalk.u64_in _ (by omega))) ?_
      refine TL_y rfl rfl (Y_shr rfl rfl (by omega)) ?_
      refine TL_name 38 (v' := .int .u64 (((i + j) / 2 : Nat) : Int)) rfl (congrArg (Value.int .u64) (shr1 _)) ?_
      refine TL_y rfl rfl (Y_conv_in rfl (IntWalk.i64_in _ (by omega))) ?_
      refine TL_y rfl rfl (Y_assign rfl) ?_
      refine TL_nil ?_
      obtain ⟨x, hx⟩ := getX (X := X) (t := (i + j) / 2) (by omega)
      refine T_region_draw (osl evpR 29 (some ⟨g, 0, none⟩) c X :: L) [0, 0, 0, 6, 14, 0, 0, 96, 224, 511, 1023] [] [(0, true), (1, true), (2, true), (3, true), (4, true), (5, true), (6, true), (7, true), (8, true), (9, false), (10, true)] (by kernel_rfl) (by decide +kernel) GivesTo.g ?_
      refine TF_y rfl rfl (Y_move rfl) ?_
      refine TF_y rfl rfl (Y_move rfl) ?_
      refine TF_y rfl rfl (Y_move rfl) ?_
      refine TF_y rfl rfl (Y_index_n (R := evpR) (xs := X) rfl rfl (by omega) hx) ?_
      refine TF_y rfl rfl (Y_load_at_agg (vs := eventC x.1 x.2) rfl (ev_at g c hx) rfl) ?_
      refine TF_y rfl rfl (Y_move rfl) ?_
      refine TF_y rfl rfl (Y_move rfl) ?_
      refine TF_y rfl rfl (Y_index_n (R := evpR) (xs := X) rfl rfl (by omega) hz) ?_
      refine TF_y rfl rfl (Y_load_at_agg (vs := eventC z.1 z.2) rfl (ev_at g c hz) rfl) ?_
      refine TF_anchor rfl ?_
      refine TL_call_fn rfl rfl rfl (merge1_spec x.1 z.1 x.2 z.2) ?_
      rintro _ _ ⟨rfl, rfl⟩
      refine TF_end GivesTo.g ?_
      refine TF_y rfl rfl (Y_lt rfl rfl) ?_
      refine TF_nil ?_
      refine T_if rfl (fun h50 => ?_) (fun h50 => ?_)
      · refine T_region_last ?_
        refine TL_y rfl rfl (Y_move rfl) ?_
        refine TL_y rfl rfl (Y_add rfl rfl (by omega)) ?_
        refine TL_name 52 (v' := .int .i64 (((i + j) / 2 + 1 : Nat) : Int)) rfl (rfl) ?_
        refine TL_y rfl rfl (Y_assign rfl) ?_
        refine TL_nil ?_
        refine inB_normal ?_
        refine thenS_normal ?_
        exact ⟨((i + j) / 2 + 1, j), hF.right h2 (by omega) hx h50, (by dsimp only; omega), holds_to (sub_cons rfl (sub_cons rfl (sub_cons rfl (sub_cons rfl (sub_cons rfl (sub_nil)))))) GivesTo.g⟩
      · refine T_region_last ?_
        refine TL_y rfl rfl (Y_move rfl) ?_
        refine TL_y rfl rfl (Y_assign rfl) ?_
        refine TL_nil ?_
        refine inB_normal ?_
        refine thenS_normal ?_
        exact ⟨(i, (i + j) / 2), hF.left h2 (by omega) hx h50, (by dsimp only; omega), holds_to (sub_cons rfl (sub_cons rfl (sub_cons rfl (sub_cons rfl (sub_cons rfl (sub_nil)))))) GivesTo.g⟩
    · refine T_exit ?_
      refine thenS_exit ?_
      refine thenS_exit ?_
      refine inB_hit ?_
      refine thenS_normal ?_
      refine T_seq ?_
      obtain rfl : i = j := (by omega)
      refine T_region ?_
      refine TL_y rfl rfl (Y_move rfl) ?_
      refine TL_y rfl rfl (Y_assign rfl) ?_
      refine TL_nil ?_
      refine T_block ?_
      refine T_loopK (σ := List EvP × Nat) [0, 10] (fun s => ShU X s.1 a b s.2 ∧ a ≤ s.2 ∧ s.2 ≤ i - 1) (fun s kv => (13, .int .i64 (s.2 : Int)) :: kv) (fun s => osl evpR 29 (some ⟨g, 0, none⟩) c s.1 :: L) (fun s => i - s.2) ((X, a)) rfl (⟨ShU.start X a b, Nat.le_refl _, (by dsimp only; omega)⟩) (GivesTo.g) (sub_cons rfl (sub_cons rfl (sub_cons rfl (sub_nil)))) ?_
      rintro ⟨Y, k1⟩ ⟨hY, hk1, hk2⟩
      dsimp only at hY hk1 hk2 ⊢
      have hlY := hY.res.len
      refine T_seq ?_
      refine T_region ?_
      refine TL_y rfl rfl (Y_move rfl) ?_
      refine TL_y rfl rfl (Y_move rfl) ?_
      refine TL_y rfl rfl (Y_sub rfl rfl (by omega)) ?_
      refine TL_name 57 (v' := .int .i64 ((i - 1 : Nat) : Int)) rfl (congrArg (Value.int .i64) (by omega)) ?_
      refine TL_y rfl rfl (Y_lt rfl rfl) ?_
      refine TL_nil ?_
      refine T_if rfl (fun h58 => ?_) (fun h58 => ?_)
      · refine T_skip ?_
        refine thenS_normal ?_
        refine T_seq ?_
        refine T_block ?_
        obtain ⟨x, hx⟩ := getX (X := Y) (t := k1) (by omega)
        obtain ⟨y, hy⟩ := getX (X := Y) (t := k1 + 1) (by omega)
        refine T_evIs g c hx ?_
        refine T_evIs g c hy ?_
        refine T_rd_last [0, 0, 0, 0, 8, 0, 0, 64, 224, 480, 0, 0, 3072, 7168, 16355, 32739, 65535, 131071] (by kernel_rfl) (by decide +kernel) ?_
        refine RD_pair 9 13 (by decide) ?_ ?_
        · refine RD_leaf (L) [0, 0, 0, 0, 8, 0, 0, 64, 224, 480, 0, 0, 3072, 8160, 16355, 32739, 65535, 131071] [] [(0, true), (1, true), (2, true), (3, true), (4, true), (5, true), (6, true), (7, true), (8, true), (10, true), (11, true), (12, true), (9, false), (13, false), (14, true), (15, false), (16, true), (17, false)] (by decide +kernel) GivesTo.g ?_
          refine TF_y rfl rfl (Y_move rfl) ?_
          refine TF_y rfl rfl (Y_move rfl) ?_
          refine TF_y rfl rfl (Y_move rfl) ?_
          refine TF_y rfl rfl (Y_move rfl) ?_
          refine TF_y rfl rfl (Y_add rfl rfl (by omega)) ?_
          refine TF_name 65 (v' := .int .i64 ((k1 + 1 : Nat) : Int)) rfl (rfl) ?_
          refine TF_y rfl rfl (Y_move rfl) ?_
          refine TF_y rfl rfl (Y_move rfl) ?_
          refine TF_y rfl rfl (Y_add rfl rfl (by omega)) ?_
          refine TF_name 68 (v' := .int .i64 ((k1 + 1 : Nat) : Int)) rfl (rfl) ?_
          refine TF_y rfl rfl (Y_index_n (R := evpR) (xs := Y) rfl rfl (by omega) hy) ?_
          refine TF_y rfl rfl (Y_move rfl) ?_
          refine TF_y rfl rfl (Y_move rfl) ?_
          refine TF_y rfl rfl (Y_index_n (R := evpR) (xs := Y) rfl rfl (by omega) hx) ?_
          refine TF_anchor rfl ?_
          refine TL_y rfl rfl (Y_load_at_agg (vs := eventC y.1 y.2) rfl (ev_at g c hy) rfl) ?_
          refine TF_end GivesTo.g ?_
          refine TF_anchor rfl ?_
          refine TL_y rfl rfl (Y_load_at_agg (vs := eventC x.1 x.2) rfl (ev_at g c hx) rfl) ?_
          refine TF_end GivesTo.g ?_
          refine TF_y rfl rfl (Y_index_n (R := evpR) (xs := Y) rfl rfl (by omega) hx) ?_
          refine TF_anchor rfl ?_
          refine TL_evStore (g := g) (c := c) (zs := Y) (j := k1) (z := y) rfl rfl (by omega) ?_
          refine TF_end GivesTo.g ?_
          refine TF_y rfl rfl (Y_index_n (R := evpR) (xs := Y) rfl rfl (by omega) hy) ?_
          refine TF_anchor rfl ?_
          refine TL_evStore (g := g) (c := c) (zs := Y.set k1 y) (j := k1 + 1) (z := x) rfl rfl (by rw [List.length_set]; omega) ?_
          refine TF_end GivesTo.g ?_
          refine TF_nil ?_
          refine inB_normal ?_
          refine thenS_normal ?_
          refine T_region_last ?_
          refine TL_y rfl rfl (Y_move rfl) ?_
          refine TL_y rfl rfl (Y_add rfl rfl (by omega)) ?_
          refine TL_name 60 (v' := .int .i64 ((k1 + 1 : Nat) : Int)) rfl (rfl) ?_
          refine TL_y rfl rfl (Y_assign rfl) ?_
          refine TL_nil ?_
          refine thenS_normal ?_
          exact ⟨(((Y.set k1 y).set (k1 + 1) x), k1 + 1), ⟨hY.step (by omega) hx hy, (by dsimp only; omega), (by dsimp only; omega)⟩, (by dsimp only; omega), holds_to (sub_cons rfl (sub_cons rfl (sub_cons rfl (sub_nil)))) GivesTo.g⟩
        · refine RD_leaf (L) [0, 0, 0, 0, 8, 0, 0, 64, 224, 15840, 0, 0, 3072, 7168, 16355, 32739, 65535, 131071] [] [(0, true), (1, true), (2, true), (3, true), (4, true), (5, true), (6, true), (7, true), (8, true), (10, true), (11, true), (12, true), (13, false), (9, false), (14, true), (15, false), (16, true), (17, false)] (by decide +kernel) GivesTo.g ?_
          refine TF_y rfl rfl (Y_move rfl) ?_
          refine TF_y rfl rfl (Y_move rfl) ?_
          refine TF_y rfl rfl (Y_move rfl) ?_
          refine TF_y rfl rfl (Y_move rfl) ?_
          refine TF_y rfl rfl (Y_add rfl rfl (by omega)) ?_
          refine TF_name 65 (v' := .int .i64 ((k1 + 1 : Nat) : Int)) rfl (rfl) ?_
          refine TF_y rfl rfl (Y_move rfl) ?_
          refine TF_y rfl rfl (Y_move rfl) ?_
          refine TF_y rfl rfl (Y_add rfl rfl (by omega)) ?_
          refine TF_name 68 (v' := .int .i64 ((k1 + 1 : Nat) : Int)) rfl (rfl) ?_
          refine TF_y rfl rfl (Y_index_n (R := evpR) (xs := Y) rfl rfl (by omega) hy) ?_
          refine TF_y rfl rfl (Y_move rfl) ?_
          refine TF_y rfl rfl (Y_move rfl) ?_
          refine TF_y rfl rfl (Y_index_n (R := evpR) (xs := Y) rfl rfl (by omega) hx) ?_
          refine TF_anchor rfl ?_
          refine TL_y rfl rfl (Y_load_at_agg (vs := eventC x.1 x.2) rfl (ev_at g c hx) rfl) ?_
          refine TF_end GivesTo.g ?_
          refine TF_anchor rfl ?_
          refine TL_y rfl rfl (Y_load_at_agg (vs := eventC y.1 y.2) rfl (ev_at g c hy) rfl) ?_
          refine TF_end GivesTo.g ?_
          refine TF_y rfl rfl (Y_index_n (R := evpR) (xs := Y) rfl rfl (by omega) hx) ?_
          refine TF_anchor rfl ?_
          refine TL_evStore (g := g) (c := c) (zs := Y) (j := k1) (z := y) rfl rfl (by omega) ?_
          refine TF_end GivesTo.g ?_
          refine TF_y rfl rfl (Y_index_n (R := evpR) (xs := Y) rfl rfl (by omega) hy) ?_
          refine TF_anchor rfl ?_
          refine TL_evStore (g := g) (c := c) (zs := Y.set k1 y) (j := k1 + 1) (z := x) rfl rfl (by rw [List.length_set]; omega) ?_
          refine TF_end GivesTo.g ?_
          refine TF_nil ?_
          refine inB_normal ?_
          refine thenS_normal ?_
          refine T_region_last ?_
          refine TL_y rfl rfl (Y_move rfl) ?_
          refine TL_y rfl rfl (Y_add rfl rfl (by omega)) ?_
          refine TL_name 60 (v' := .int .i64 ((k1 + 1 : Nat) : Int)) rfl (rfl) ?_
          refine TL_y rfl rfl (Y_assign rfl) ?_
          refine TL_nil ?_
          refine thenS_normal ?_
          exact ⟨(((Y.set k1 y).set (k1 + 1) x), k1 + 1), ⟨hY.step (by omega) hx hy, (by dsimp only; omega), (by dsimp only; omega)⟩, (by dsimp only; omega), holds_to (sub_cons rfl (sub_cons rfl (sub_cons rfl (sub_nil)))) GivesTo.g⟩
      · refine T_exit ?_
        refine thenS_exit ?_
        refine thenS_exit ?_
        refine inB_hit ?_
        refine thenS_normal ?_
        refine T_ret ?_
        refine thenS_ret ?_
        exact RetG_0 (.inl rfl) rfl GivesTo.g (⟨Y, ⟨rfl, hY.res, ShU.end_ (i := i) (by omega) (by rw [show i - 1 = k1 by omega]; exact hY) (by rw [← hma]; exact h2) hz (fun t x h3 h4 hx => hF.lo t x (by omega) h4 hx) hF.hi⟩, rfl⟩)
  · refine T_skip ?_
    refine thenS_normal ?_
    refine T_seq ?_
    refine T_region ?_
    refine TL_y rfl rfl (Y_move rfl) ?_
    refine TL_y rfl rfl (Y_move rfl) ?_
    refine TL_y rfl rfl (Y_sub rfl rfl (by omega)) ?_
    refine TL_y rfl rfl (Y_eq rfl rfl) ?_
    refine TL_nil ?_
    refine T_if rfl (fun h80 => ?_) (fun h80 => ?_)
    · obtain ⟨z, hz⟩ := getX (X := X) (t := m) (by omega)
      have hmb : b = m + 1 := (by omega)
      refine T_region ?_
      refine TL_y rfl rfl (Y_move rfl) ?_
      refine TL_y rfl rfl (Y_assign rfl) ?_
      refine TL_nil ?_
      refine T_region ?_
      refine TL_y rfl rfl (Y_move rfl) ?_
      refine TL_y rfl rfl (Y_assign rfl) ?_
      refine TL_nil ?_
      refine T_seq ?_
      refine T_block ?_
      refine T_loopK (σ := Nat × Nat) [0, 2, 4] (fun s => FiD X z a m s.1 s.2) (fun s kv => (14, .int .i64 (s.1 : Int)) :: (15, .int .i64 (s.2 : Int)) :: kv) (fun s => osl evpR 29 (some ⟨g, 0, none⟩) c X :: L) (fun s => s.2 - s.1) ((a, m)) rfl (⟨(by dsimp only; omega), fun t x h3 h4 => absurd h4 (by dsimp only; omega), fun t x h3 h4 => absurd h4 (by dsimp only at h3; omega)⟩) (GivesTo.g) (sub_cons rfl (sub_cons rfl (sub_cons rfl (sub_cons rfl (sub_cons rfl (sub_nil)))))) ?_
      rintro ⟨i, j⟩ hF
      dsimp only at hF ⊢
      have hle := hF.le
      refine T_seq ?_
      refine T_region ?_
      refine TL_y rfl rfl (Y_move rfl) ?_
      refine TL_y rfl rfl (Y_move rfl) ?_
      refine TL_y rfl rfl (Y_lt rfl rfl) ?_
      refine TL_nil ?_
      refine T_if rfl (fun h85 => ?_) (fun h85 => ?_)
      · refine T_skip ?_
        refine thenS_normal ?_
        refine T_block ?_
        refine T_region ?_
        refine TL_y rfl rfl (Y_move rfl) ?_
        refine TL_y rfl rfl (Y_move rfl) ?_
        refine TL_y rfl rfl (Y_add rfl rfl (by omega)) ?_
        refine TL_name 88 (v' := .int .i64 ((i + j : Nat) : Int)) rfl (rfl) ?_
        refine TL_y rfl rfl (Y_conv_in rfl (IntWalk.u64_in _ (by omega))) ?_
        refine TL_y rfl rfl (Y_shr rfl rfl (by omega)) ?_
        refine TL_name 90 (v' := .int .u64 (((i + j) / 2 : Nat) : Int)) rfl (congrArg (Value.int .u64) (shr1 _)) ?_
        refine TL_y rfl rfl (Y_conv_in rfl (IntWalk.i64_in _ (by omega))) ?_
        refine TL_y rfl rfl (Y_assign rfl) ?_
        refine TL_nil ?_
        obtain ⟨x, hx⟩ := getX (X := X) (t := (i + j) / 2) (by omega)
        refine T_region_draw (osl evpR 29 (some ⟨g, 0, none⟩) c X :: L) [0, 0, 0, 6, 14, 0, 0, 96, 224, 511, 1023, 2047] [] [(0, true), (1, true), (2, true), (3, true), (4, true), (5, true), (6, true), (7, true), (8, true), (9, false), (10, true), (11, true)] (by kernel_rfl) (by decide +kernel) GivesTo.g ?_
        refine TF_y rfl rfl (Y_move rfl) ?_
        refine TF_y rfl rfl (Y_move rfl) ?_
        refine TF_y rfl rfl (Y_move rfl) ?_
        refine TF_y rfl rfl (Y_index_n (R := evpR) (xs := X) rfl rfl (by omega) hz) ?_
        refine TF_y rfl rfl (Y_load_at_agg (vs := eventC z.1 z.2) rfl (ev_at g c hz) rfl) ?_
        refine TF_y rfl rfl (Y_move rfl) ?_
        refine TF_y rfl rfl (Y_move rfl) ?_
        refine TF_y rfl rfl (Y_index_n (R := evpR) (xs := X) rfl rfl (by omega) hx) ?_
        refine TF_y rfl rfl (Y_load_at_agg (vs := eventC x.1 x.2) rfl (ev_at g c hx) rfl) ?_
        refine TF_anchor rfl ?_
        refine TL_call_fn rfl rfl rfl (merge1_spec z.1 x.1 z.2 x.2) ?_
        rintro _ _ ⟨rfl, rfl⟩
        refine TF_end GivesTo.g ?_
        refine TF_y rfl rfl (Y_lt rfl rfl) ?_
        refine TF_y rfl rfl (Y_not_d rfl) ?_
        refine TF_nil ?_
        refine T_if rfl (fun h103 => ?_) (fun h103 => ?_)
        · refine T_region_last ?_
          refine TL_y rfl rfl (Y_move rfl) ?_
          refine TL_y rfl rfl (Y_add rfl rfl (by omega)) ?_
          refine TL_name 105 (v' := .int .i64 (((i + j) / 2 + 1 : Nat) : Int)) rfl (rfl) ?_
          refine TL_y rfl rfl (Y_assign rfl) ?_
          refine TL_nil ?_
          refine inB_normal ?_
          refine thenS_normal ?_
          exact ⟨((i + j) / 2 + 1, j), hF.right h1 (by omega) hx h103, (by dsimp only; omega), holds_to (sub_cons rfl (sub_cons rfl (sub_cons rfl (sub_cons rfl (sub_cons rfl (sub_nil)))))) GivesTo.g⟩
        · refine T_region_last ?_
          refine TL_y rfl rfl (Y_move rfl) ?_
          refine TL_y rfl rfl (Y_assign rfl) ?_
          refine TL_nil ?_
          refine inB_normal ?_
          refine thenS_normal ?_
          exact ⟨(i, (i + j) / 2), hF.left h1 (by omega) hx (Classical.not_not.1 h103), (by dsimp only; omega), holds_to (sub_cons rfl (sub_cons rfl (sub_cons rfl (sub_cons rfl (sub_cons rfl (sub_nil)))))) GivesTo.g⟩
      · refine T_exit ?_
        refine thenS_exit ?_
        refine thenS_exit ?_
        refine inB_hit ?_
        refine thenS_normal ?_
        refine T_seq ?_
        obtain rfl : i = j := (by omega)
        refine T_region ?_
        refine TL_y rfl rfl (Y_move rfl) ?_
        refine TL_y rfl rfl (Y_assign rfl) ?_
        refine TL_nil ?_
        refine T_block ?_
        refine T_loopK (σ := List EvP × Nat) [0, 14] (fun s => ShD X s.1 a m s.2 ∧ i ≤ s.2 ∧ s.2 ≤ m) (fun s kv => (17, .int .i64 (s.2 : Int)) :: kv) (fun s => osl evpR 29 (some ⟨g, 0, none⟩) c s.1 :: L) (fun s => s.2) ((X, m)) rfl (⟨ShD.start X a m, (by dsimp only; omega), Nat.le_refl _⟩) (GivesTo.g) (sub_cons rfl (sub_cons rfl (sub_cons rfl (sub_nil)))) ?_
        rintro ⟨Y, k1⟩ ⟨hY, hk1, hk2⟩
        dsimp only at hY hk1 hk2 ⊢
        have hlY := hY.res.len
        refine T_seq ?_
        refine T_region ?_
        refine TL_y rfl rfl (Y_move rfl) ?_
        refine TL_y rfl rfl (Y_move rfl) ?_
        refine TL_y rfl rfl (Y_gt rfl rfl) ?_
        refine TL_nil ?_
        refine T_if rfl (fun h110 => ?_) (fun h110 => ?_)
        · refine T_skip ?_
          refine thenS_normal ?_
          refine T_seq ?_
          refine T_block ?_
          obtain ⟨x, hx⟩ := getX (X := Y) (t := k1) (by omega)
          obtain ⟨y, hy⟩ := getX (X := Y) (t := k1 - 1) (by omega)
          refine T_evIs g c hx ?_
          refine T_evIs g c hy ?_
          refine T_rd_last [0, 0, 0, 0, 8, 0, 0, 64, 224, 480, 0, 0, 3072, 7168, 16355, 32739, 65535, 131071] (by kernel_rfl) (by decide +kernel) ?_
          refine RD_pair 9 13 (by decide) ?_ ?_
          · refine RD_leaf (L) [0, 0, 0, 0, 8, 0, 0, 64, 224, 480, 0, 0, 3072, 8160, 16355, 32739, 65535, 131071] [] [(0, true), (1, true), (2, true), (3, true), (4, true), (5, true), (6, true), (7, true), (8, true), (10, true), (11, true), (12, true), (9, false), (13, false), (14, true), (15, false), (16, true), (17, false)] (by decide +kernel) GivesTo.g ?_
            refine TF_y rfl rfl (Y_move rfl) ?_
            refine TF_y rfl rfl (Y_move rfl) ?_
            refine TF_y rfl rfl (Y_move rfl) ?_
            refine TF_y rfl rfl (Y_move rfl) ?_
            refine TF_y rfl rfl (Y_sub rfl rfl (by omega)) ?_
            refine TF_name 117 (v' := .int .i64 ((k1 - 1 : Nat) : Int)) rfl (congrArg (Value.int .i64) (by omega)) ?_
            refine TF_y rfl rfl (Y_move rfl) ?_
            refine TF_y rfl rfl (Y_move rfl) ?_
            refine TF_y rfl rfl (Y_sub rfl rfl (by omega)) ?_
            refine TF_name 120 (v' := .int .i64 ((k1 - 1 : Nat) : Int)) rfl (congrArg (Value.int .i64) (by omega)) ?_
            refine TF_y rfl rfl (Y_index_n (R := evpR) (xs := Y) rfl rfl (by omega) hy) ?_
            refine TF_y rfl rfl (Y_move rfl) ?_
            refine TF_y rfl rfl (Y_move rfl) ?_
            refine TF_y rfl rfl (Y_index_n (R := evpR) (xs := Y) rfl rfl (by omega) hx) ?_
            refine TF_anchor rfl ?_
            refine TL_y rfl rfl (Y_load_at_agg (vs := eventC y.1 y.2) rfl (ev_at g c hy) rfl) ?_
            refine TF_end GivesTo.g ?_
            refine TF_anchor rfl ?_
            refine TL_y rfl rfl (Y_load_at_agg (vs := eventC x.1 x.2) rfl (ev_at g c hx) rfl) ?_
            refine TF_end GivesTo.g ?_
            refine TF_y rfl rfl (Y_index_n (R := evpR) (xs := Y) rfl rfl (by omega) hx) ?_
            refine TF_anchor rfl ?_
            refine TL_evStore (g := g) (c := c) (zs := Y) (j := k1) (z := y) rfl rfl (by omega) ?_
            refine TF_end GivesTo.g ?_
            refine TF_y rfl rfl (Y_index_n (R := evpR) (xs := Y) rfl rfl (by omega) hy) ?_
            refine TF_anchor rfl ?_
            refine TL_evStore (g := g) (c := c) (zs := Y.set k1 y) (j := k1 - 1) (z := x) rfl rfl (by rw [List.length_set]; omega) ?_
            refine TF_end GivesTo.g ?_
            refine TF_nil ?_
            refine inB_normal ?_
            refine thenS_normal ?_
            refine T_region_last ?_
            refine TL_y rfl rfl (Y_move rfl) ?_
            refine TL_y rfl rfl (Y_sub rfl rfl (by omega)) ?_
            refine TL_name 112 (v' := .int .i64 ((k1 - 1 : Nat) : Int)) rfl (congrArg (Value.int .i64) (by omega)) ?_
            refine TL_y rfl rfl (Y_assign rfl) ?_
            refine TL_nil ?_
            refine thenS_normal ?_
            exact ⟨(((Y.set k1 y).set (k1 - 1) x), k1 - 1), ⟨hY.step (by omega) hx hy, (by dsimp only; omega), (by dsimp only; omega)⟩, (by dsimp only; omega), holds_to (sub_cons rfl (sub_cons rfl (sub_cons rfl (sub_nil)))) GivesTo.g⟩
          · refine RD_leaf (L) [0, 0, 0, 0, 8, 0, 0, 64, 224, 15840, 0, 0, 3072, 7168, 16355, 32739, 65535, 131071] [] [(0, true), (1, true), (2, true), (3, true), (4, true), (5, true), (6, true), (7, true), (8, true), (10, true), (11, true), (12, true), (13, false), (9, false), (14, true), (15, false), (16, true), (17, false)] (by decide +kernel) GivesTo.g ?_
            refine TF_y rfl rfl (Y_move rfl) ?_
            refine TF_y rfl rfl (Y_move rfl) ?_
            refine TF_y rfl rfl (Y_move rfl) ?_
            refine TF_y rfl rfl (Y_move rfl) ?_
            refine TF_y rfl rfl (Y_sub rfl rfl (by omega)) ?_
            refine TF_name 117 (v' := .int .i64 ((k1 - 1 : Nat) : Int)) rfl (congrArg (Value.int .i64) (by omega)) ?_
            refine TF_y rfl rfl (Y_move rfl) ?_
            refine TF_y rfl rfl (Y_move rfl) ?_
            refine TF_y rfl rfl (Y_sub rfl rfl (by omega)) ?_
            refine TF_name 120 (v' := .int .i64 ((k1 - 1 : Nat) : Int)) rfl (congrArg (Value.int .i64) (by omega)) ?_
            refine TF_y rfl rfl (Y_index_n (R := evpR) (xs := Y) rfl rfl (by omega) hy) ?_
            refine TF_y rfl rfl (Y_move rfl) ?_
            refine TF_y rfl rfl (Y_move rfl) ?_
            refine TF_y rfl rfl (Y_index_n (R := evpR) (xs := Y) rfl rfl (by omega) hx) ?_
            refine TF_anchor rfl ?_
            refine TL_y rfl rfl (Y_load_at_agg (vs := eventC x.1 x.2) rfl (ev_at g c hx) rfl) ?_
            refine TF_end GivesTo.g ?_
            refine TF_anchor rfl ?_
            refine TL_y rfl rfl (Y_load_at_agg (vs := eventC y.1 y.2) rfl (ev_at g c hy) rfl) ?_
            refine TF_end GivesTo.g ?_
            refine TF_y rfl rfl (Y_index_n (R := evpR) (xs := Y) rfl rfl (by omega) hx) ?_
            refine TF_anchor rfl ?_
            refine TL_evStore (g := g) (c := c) (zs := Y) (j := k1) (z := y) rfl rfl (by omega) ?_
            refine TF_end GivesTo.g ?_
            refine TF_y rfl rfl (Y_index_n (R := evpR) (xs := Y) rfl rfl (by omega) hy) ?_
            refine TF_anchor rfl ?_
            refine TL_evStore (g := g) (c := c) (zs := Y.set k1 y) (j := k1 - 1) (z := x) rfl rfl (by rw [List.length_set]; omega) ?_
            refine TF_end GivesTo.g ?_
            refine TF_nil ?_
            refine inB_normal ?_
            refine thenS_normal ?_
            refine T_region_last ?_
            refine TL_y rfl rfl (Y_move rfl) ?_
            refine TL_y rfl rfl (Y_sub rfl rfl (by omega)) ?_
            refine TL_name 112 (v' := .int .i64 ((k1 - 1 : Nat) : Int)) rfl (congrArg (Value.int .i64) (by omega)) ?_
            refine TL_y rfl rfl (Y_assign rfl) ?_
            refine TL_nil ?_
            refine thenS_normal ?_
            exact ⟨(((Y.set k1 y).set (k1 - 1) x), k1 - 1), ⟨hY.step (by omega) hx hy, (by dsimp only; omega), (by dsimp only; omega)⟩, (by dsimp only; omega), holds_to (sub_cons rfl (sub_cons rfl (sub_cons rfl (sub_nil)))) GivesTo.g⟩
        · refine T_exit ?_
          refine thenS_exit ?_
          refine thenS_exit ?_
          refine inB_hit ?_
          refine thenS_normal ?_
          refine T_ret ?_
          refine thenS_ret ?_
          exact RetG_0 (.inl rfl) rfl GivesTo.g (⟨Y, ⟨rfl, (by rw [hmb]; exact hY.res), (by rw [hmb]; exact ShD.end_ (i := i) (by omega) (by rw [show i = k1 by omega]; exact hY) h1 hz hF.lo hF.hi)⟩, rfl⟩)
    · refine T_skip ?_
      refine thenS_normal ?_
      refine T_region ?_
      refine TL_y rfl rfl (Y_move rfl) ?_
      refine TL_y rfl rfl (Y_move rfl) ?_
      refine TL_y rfl rfl (Y_add rfl rfl (by omega)) ?_
      refine TL_name 131 (v' := .int .i64 ((a + b : Nat) : Int)) rfl (rfl) ?_
      refine TL_y rfl rfl (Y_conv_in rfl (IntWalk.u64_in _ (by omega))) ?_
      refine TL_y rfl rfl (Y_shr rfl rfl (by omega)) ?_
      refine TL_name 133 (v' := .int .u64 (((a + b) / 2 : Nat) : Int)) rfl (congrArg (Value.int .u64) (shr1 _)) ?_
      refine TL_y rfl rfl (Y_conv_in rfl (IntWalk.i64_in _ (by omega))) ?_
      refine TL_y rfl rfl (Y_assign rfl) ?_
      refine TL_nil ?_
      refine T_region ?_
      refine TL_y rfl rfl (Y_move rfl) ?_
      refine TL_y rfl rfl (Y_move rfl) ?_
      refine TL_y rfl rfl (Y_add rfl rfl (by omega)) ?_
      refine TL_name 137 (v' := .int .i64 (((a + b) / 2 + m : Nat) : Int)) rfl (rfl) ?_
      refine TL_y rfl rfl (Y_assign rfl) ?_
      refine TL_nil ?_
      refine T_region ?_
      refine TL_y rfl rfl (Y_assign rfl) ?_
      refine TL_y rfl rfl (Y_assign rfl) ?_
      refine TL_nil ?_
      refine T_seq ?_
      refine T_region ?_
      refine TL_y rfl rfl (Y_move rfl) ?_
      refine TL_y rfl rfl (Y_move rfl) ?_
      refine TL_y rfl rfl (Y_gt rfl rfl) ?_
      refine TL_nil ?_
      refine T_joinKT (σ := Nat × Nat) [0, 1, 2, 3, 4, 18, 19] (fun s => FiM X a m b ((a + b) / 2) s.1 s.2) (fun s kv => (20, .int .i64 (s.1 : Int)) :: (21, .int .i64 (s.2 : Int)) :: kv) (fun s => osl evpR 29 (some ⟨g, 0, none⟩) c X :: L) rfl ?_ ?_
      · refine T_if rfl (fun h140 => ?_) (fun h140 => ?_)
        · refine T_region ?_
          refine TL_y rfl rfl (Y_move rfl) ?_
          refine TL_y rfl rfl (Y_move rfl) ?_
          refine TL_y rfl rfl (Y_sub rfl rfl (by omega)) ?_
          refine TL_name 143 (v' := .int .i64 (((a + b) / 2 + m - b : Nat) : Int)) rfl (congrArg (Value.int .i64) (by omega)) ?_
          refine TL_y rfl rfl (Y_assign rfl) ?_
          refine TL_nil ?_
          refine T_region_last ?_
          refine TL_y rfl rfl (Y_move rfl) ?_
          refine TL_y rfl rfl (Y_assign rfl) ?_
          refine TL_nil ?_
          refine thenS_normal ?_
          exact ⟨((a + b) / 2 + m - b, (a + b) / 2), FiM.start (by omega) rfl (.inl ⟨by omega, rfl, rfl⟩), holds_to (sub_cons rfl (sub_cons rfl (sub_cons rfl (sub_cons rfl (sub_cons rfl (sub_cons rfl (sub_cons rfl (sub_cons rfl (sub_cons rfl (sub_nil)))))))))) GivesTo.g⟩
        · refine T_region ?_
          refine TL_y rfl rfl (Y_move rfl) ?_
          refine TL_y rfl rfl (Y_assign rfl) ?_
          refine TL_nil ?_
          refine T_region_last ?_
          refine TL_y rfl rfl (Y_move rfl) ?_
          refine TL_y rfl rfl (Y_assign rfl) ?_
          refine TL_nil ?_
          refine thenS_normal ?_
          exact ⟨(a, m), FiM.start (by omega) rfl (.inr ⟨by omega, rfl, rfl⟩), holds_to (sub_cons rfl (sub_cons rfl (sub_cons rfl (sub_cons rfl (sub_cons rfl (sub_cons rfl (sub_cons rfl (sub_cons rfl (sub_cons rfl (sub_nil)))))))))) GivesTo.g⟩
      · rintro ⟨st0, r0⟩ hM0
        refine T_region ?_
        refine TL_y rfl rfl (Y_move rfl) ?_
        refine TL_y rfl rfl (Y_sub rfl rfl (by omega)) ?_
        refine TL_name 148 (v' := .int .i64 (((a + b) / 2 + m - 1 : Nat) : Int)) rfl (congrArg (Value.int .i64) (by omega)) ?_
        refine TL_y rfl rfl (Y_assign rfl) ?_
        refine TL_nil ?_
        refine T_seq ?_
        refine T_block ?_
        refine T_loopK (σ := Nat × Nat) [0, 1, 2, 3, 4, 18, 19, 22] (fun s => FiM X a m b ((a + b) / 2) s.1 s.2) (fun s kv => (20, .int .i64 (s.1 : Int)) :: (21, .int .i64 (s.2 : Int)) :: kv) (fun s => osl evpR 29 (some ⟨g, 0, none⟩) c X :: L) (fun s => s.2 - s.1) ((st0, r0)) rfl (hM0) (GivesTo.g) (sub_cons rfl (sub_cons rfl (sub_cons rfl (sub_cons rfl (sub_cons rfl (sub_cons rfl (sub_cons rfl (sub_cons rfl (sub_cons rfl (sub_cons rfl (sub_nil))))))))))) ?_
        rintro ⟨st, r⟩ hM
        dsimp only at hM ⊢
        have hle := hM.le
        refine T_seq ?_
        refine T_region ?_
        refine TL_y rfl rfl (Y_move rfl) ?_
        refine TL_y rfl rfl (Y_move rfl) ?_
        refine TL_y rfl rfl (Y_lt rfl rfl) ?_
        refine TL_nil ?_
        refine T_if rfl (fun h151 => ?_) (fun h151 => ?_)
        · refine T_skip ?_
          refine thenS_normal ?_
          refine T_block ?_
          refine T_region ?_
          refine TL_y rfl rfl (Y_move rfl) ?_
          refine TL_y rfl rfl (Y_move rfl) ?_
          refine TL_y rfl rfl (Y_add rfl rfl (by omega)) ?_
          refine TL_name 154 (v' := .int .i64 ((st + r : Nat) : Int)) rfl (rfl) ?_
          refine TL_y rfl rfl (Y_conv_in rfl (IntWalk.u64_in _ (by omega))) ?_
          refine TL_y rfl rfl (Y_shr rfl rfl (by omega)) ?_
          refine TL_name 156 (v' := .int .u64 (((st + r) / 2 : Nat) : Int)) rfl (congrArg (Value.int .u64) (shr1 _)) ?_
          refine TL_y rfl rfl (Y_conv_in rfl (IntWalk.i64_in _ (by omega))) ?_
          refine TL_y rfl rfl (Y_assign rfl) ?_
          refine TL_nil ?_
          obtain ⟨x, hx⟩ := getX (X := X) (t := (st + r) / 2) (by omega)
          obtain ⟨y, hy⟩ := getX (X := X) (t := (a + b) / 2 + m - 1 - (st + r) / 2) (by omega)
          refine T_region_draw (osl evpR 29 (some ⟨g, 0, none⟩) c X :: L) [0, 0, 0, 0, 12, 30, 62, 0, 0, 384, 896, 2047, 4095, 8191] [] [(0, true), (1, true), (2, true), (3, true), (4, true), (5, true), (6, true), (7, true), (8, true), (9, true), (10, true), (11, false), (12, true), (13, true)] (by kernel_rfl) (by decide +kernel) GivesTo.g ?_
          refine TF_y rfl rfl (Y_move rfl) ?_
          refine TF_y rfl rfl (Y_move rfl) ?_
          refine TF_y rfl rfl (Y_move rfl) ?_
          refine TF_y rfl rfl (Y_move rfl) ?_
          refine TF_y rfl rfl (Y_sub rfl rfl (by omega)) ?_
          refine TF_name 162 (v' := .int .i64 (((a + b) / 2 + m - 1 - (st + r) / 2 : Nat) : Int)) rfl (congrArg (Value.int .i64) (by omega)) ?_
          refine TF_y rfl rfl (Y_index_n (R := evpR) (xs := X) rfl rfl (by omega) hy) ?_
          refine TF_y rfl rfl (Y_load_at_agg (vs := eventC y.1 y.2) rfl (ev_at g c hy) rfl) ?_
          refine TF_y rfl rfl (Y_move rfl) ?_
          refine TF_y rfl rfl (Y_move rfl) ?_
          refine TF_y rfl rfl (Y_index_n (R := evpR) (xs := X) rfl rfl (by omega) hx) ?_
          refine TF_y rfl rfl (Y_load_at_agg (vs := eventC x.1 x.2) rfl (ev_at g c hx) rfl) ?_
          refine TF_anchor rfl ?_
          refine TL_call_fn rfl rfl rfl (merge1_spec y.1 x.1 y.2 x.2) ?_
          rintro _ _ ⟨rfl, rfl⟩
          refine TF_end GivesTo.g ?_
          refine TF_y rfl rfl (Y_lt rfl rfl) ?_
          refine TF_y rfl rfl (Y_not_d rfl) ?_
          refine TF_nil ?_
          refine T_if rfl (fun h171 => ?_) (fun h171 => ?_)
          · refine T_region_last ?_
            refine TL_y rfl rfl (Y_move rfl) ?_
            refine TL_y rfl rfl (Y_add rfl rfl (by omega)) ?_
            refine TL_name 173 (v' := .int .i64 (((st + r) / 2 + 1 : Nat) : Int)) rfl (rfl) ?_
            refine TL_y rfl rfl (Y_assign rfl) ?_
            refine TL_nil ?_
            refine inB_normal ?_
            refine thenS_normal ?_
            exact ⟨((st + r) / 2 + 1, r), hM.right h1 h2 (by omega) hx hy h171, (by dsimp only; omega), holds_to (sub_cons rfl (sub_cons rfl (sub_cons rfl (sub_cons rfl (sub_cons rfl (sub_cons rfl (sub_cons rfl (sub_cons rfl (sub_cons rfl (sub_cons rfl (sub_nil))))))))))) GivesTo.g⟩
          · refine T_region_last ?_
            refine TL_y rfl rfl (Y_move rfl) ?_
            refine TL_y rfl rfl (Y_assign rfl) ?_
            refine TL_nil ?_
            refine inB_normal ?_
            refine thenS_normal ?_
            exact ⟨(st, (st + r) / 2), hM.left h1 h2 (by omega) hx hy (Classical.not_not.1 h171), (by dsimp only; omega), holds_to (sub_cons rfl (sub_cons rfl (sub_cons rfl (sub_cons rfl (sub_cons rfl (sub_cons rfl (sub_cons rfl (sub_cons rfl (sub_cons rfl (sub_cons rfl (sub_nil))))))))))) GivesTo.g⟩
        · refine T_exit ?_
          refine thenS_exit ?_
          refine thenS_exit ?_
          refine inB_hit ?_
          refine thenS_normal ?_
          obtain rfl : st = r := (by omega)
          have hMid := hM.end_
          refine T_region ?_
          refine TL_y rfl rfl (Y_move rfl) ?_
          refine TL_y rfl rfl (Y_move rfl) ?_
          refine TL_y rfl rfl (Y_sub rfl rfl (by omega)) ?_
          refine TL_name 177 (v' := .int .i64 (((a + b) / 2 + m - st : Nat) : Int)) rfl (congrArg (Value.int .i64) (by omega)) ?_
          refine TL_y rfl rfl (Y_assign rfl) ?_
          refine TL_nil ?_
          refine T_seq ?_
          refine T_region ?_
          refine TL_y rfl rfl (Y_move rfl) ?_
          refine TL_y rfl rfl (Y_move rfl) ?_
          refine TL_both 6 185 (st < m ∧ m < (a + b) / 2 + m - st) ?_ ?_
          · refine TL_y rfl rfl (Y_lt rfl rfl) ?_
            refine TL_y rfl rfl (Y_move rfl) ?_
            refine TL_splitd 181 rfl (fun h181 => ?_) (fun h181 => ?_)
            · refine TL_grun rfl rfl ?_
              refine TL_y rfl rfl (Y_move rfl) ?_
              refine TL_grun rfl rfl ?_
              refine TL_y rfl rfl (Y_move rfl) ?_
              refine TL_grun rfl rfl ?_
              refine TL_y rfl rfl (Y_lt rfl rfl) ?_
              refine TL_y rfl rfl (Y_pick_t rfl rfl) ?_
              refine TL_chain_end rfl ?_ (by repeat (first | exact sub_refl | refine sub_ext rfl ?_)) GivesTo.g
              exact congrArg Value.bool (decide_eq_decide.2 (by omega))
            · refine TL_gskip rfl rfl rfl rfl ?_
              refine TL_gskip rfl rfl rfl rfl ?_
              refine TL_gskip rfl rfl rfl rfl ?_
              refine TL_y rfl rfl (Y_pick_f rfl rfl) ?_
              refine TL_chain_end rfl ?_ (by repeat (first | exact sub_refl | refine sub_ext rfl ?_)) GivesTo.g
              exact congrArg Value.bool (decide_eq_false (by omega)).symm
          refine TL_nil ?_
          refine T_joinKT (σ := List EvP) [0, 1, 3, 4, 18, 20, 24] (fun Y => RtI X Y st m ((a + b) / 2 + m - st)) (fun Y kv => kv) (fun Y => osl evpR 29 (some ⟨g, 0, none⟩) c Y :: L) rfl ?_ ?_
          · refine T_if rfl (fun h185 => ?_) (fun h185 => ?_)
            · refine T_region_last ?_
              refine TL_y rfl rfl (Y_move rfl) ?_
              refine TL_y rfl rfl (Y_move rfl) ?_
              refine TL_y rfl rfl (Y_move rfl) ?_
              refine TL_y rfl rfl (Y_move rfl) ?_
              refine TL_y rfl rfl (Y_move rfl) ?_
              refine TL_call rfl rfl (rotate_spec st m ((a + b) / 2 + m - st) hn hn2 (by omega)) ?_
              rintro _ _ ⟨Y1, ⟨rfl, hY1⟩, rfl⟩
              refine TL_nil ?_
              refine thenS_normal ?_
              exact ⟨Y1, hY1, holds_to (sub_cons rfl (sub_cons rfl (sub_cons rfl (sub_cons rfl (sub_cons rfl (sub_cons rfl (sub_cons rfl (sub_nil)))))))) GivesTo.g⟩
            · refine T_skip ?_
              refine thenS_normal ?_
              exact ⟨X, RtI.none (by omega) h185, holds_to (sub_cons rfl (sub_cons rfl (sub_cons rfl (sub_cons rfl (sub_cons rfl (sub_cons rfl (sub_cons rfl (sub_nil)))))))) GivesTo.g⟩
          · intro Y hR
            refine T_seq ?_
            have hlY := hR.perm.length_eq
            obtain ⟨g1, g2, g3, g4, g5⟩ := halves (by omega) rfl (by omega) h1 h2 (by omega) hMid hR
            refine T_region ?_
            refine TL_y rfl rfl (Y_move rfl) ?_
            refine TL_y rfl rfl (Y_move rfl) ?_
            refine TL_both 6 199 (a < st ∧ st < (a + b) / 2) ?_ ?_
            · refine TL_y rfl rfl (Y_lt rfl rfl) ?_
              refine TL_y rfl rfl (Y_move rfl) ?_
              refine TL_splitd 195 rfl (fun h195 => ?_) (fun h195 => ?_)
              · refine TL_grun rfl rfl ?_
                refine TL_y rfl rfl (Y_move rfl) ?_
                refine TL_grun rfl rfl ?_
                refine TL_y rfl rfl (Y_move rfl) ?_
                refine TL_grun rfl rfl ?_
                refine TL_y rfl rfl (Y_lt rfl rfl) ?_
                refine TL_y rfl rfl (Y_pick_t rfl rfl) ?_
                refine TL_chain_end rfl ?_ (by repeat (first | exact sub_refl | refine sub_ext rfl ?_)) GivesTo.g
                exact congrArg Value.bool (decide_eq_decide.2 (by omega))
              · refine TL_gskip rfl rfl rfl rfl ?_
                refine TL_gskip rfl rfl rfl rfl ?_
                refine TL_gskip rfl rfl rfl rfl ?_
                refine TL_y rfl rfl (Y_pick_f rfl rfl) ?_
                refine TL_chain_end rfl ?_ (by repeat (first | exact sub_refl | refine sub_ext rfl ?_)) GivesTo.g
                exact congrArg Value.bool (decide_eq_false (by omega)).symm
            refine TL_nil ?_
            refine T_joinKT (σ := List EvP) [0, 3, 4, 18, 24] (fun Z => Res Y Z a ((a + b) / 2) ∧ SR Z a ((a + b) / 2)) (fun Z kv => kv) (fun Z => osl evpR 29 (some ⟨g, 0, none⟩) c Z :: L) rfl ?_ ?_
            · refine T_if rfl (fun h199 => ?_) (fun h199 => ?_)
              · refine T_region_last ?_
                refine TL_y rfl rfl (Y_move rfl) ?_
                refine TL_y rfl rfl (Y_move rfl) ?_
                refine TL_y rfl rfl (Y_move rfl) ?_
                refine TL_y rfl rfl (Y_move rfl) ?_
                refine TL_y rfl rfl (Y_move rfl) ?_
                refine TL_call rfl rfl (ih _ g c n Y a st ((a + b) / 2) (by omega) (by omega) hn2 (by omega) g1 g2) ?_
                rintro _ _ ⟨Z1, ⟨rfl, hz1, hz2⟩, rfl⟩
                refine TL_nil ?_
                refine thenS_normal ?_
                exact ⟨Z1, ⟨hz1, hz2⟩, holds_to (sub_cons rfl (sub_cons rfl (sub_cons rfl (sub_cons rfl (sub_cons rfl (sub_nil)))))) GivesTo.g⟩
              · refine T_skip ?_
                refine thenS_normal ?_
                exact ⟨Y, ⟨Res.refl _ _ _, (by rcases (show a = st ∨ st = (a + b) / 2 by omega) with e | e; exact e ▸ g2; exact e ▸ g1)⟩, holds_to (sub_cons rfl (sub_cons rfl (sub_cons rfl (sub_cons rfl (sub_cons rfl (sub_nil)))))) GivesTo.g⟩
            · rintro Z ⟨hZr, hZs⟩
              have hlZ := hZr.len
              have g3' := g3.same fun t k1 k2 => hZr.out t (.inr k1)
              have g4' := g4.same fun t k1 k2 => hZr.out t (.inr (by omega))
              have hXZ := ((hR.res (by omega)).mono (a' := a) (b' := b) (by omega) (by omega)).trans (hZr.mono (a' := a) (b' := b) (by omega) (by omega))
              have g6 := cross_left hZr g5
              refine T_region ?_
              refine TL_y rfl rfl (Y_move rfl) ?_
              refine TL_y rfl rfl (Y_move rfl) ?_
              refine TL_both 6 213 ((a + b) / 2 < (a + b) / 2 + m - st ∧ (a + b) / 2 + m - st < b) ?_ ?_
              · refine TL_y rfl rfl (Y_lt rfl rfl) ?_
                refine TL_y rfl rfl (Y_move rfl) ?_
                refine TL_splitd 209 rfl (fun h209 => ?_) (fun h209 => ?_)
                · refine TL_grun rfl rfl ?_
                  refine TL_y rfl rfl (Y_move rfl) ?_
                  refine TL_grun rfl rfl ?_
                  refine TL_y rfl rfl (Y_move rfl) ?_
                  refine TL_grun rfl rfl ?_
                  refine TL_y rfl rfl (Y_lt rfl rfl) ?_
                  refine TL_y rfl rfl (Y_pick_t rfl rfl) ?_
                  refine TL_chain_end rfl ?_ (by repeat (first | exact sub_refl | refine sub_ext rfl ?_)) GivesTo.g
                  exact congrArg Value.bool (decide_eq_decide.2 (by omega))
                · refine TL_gskip rfl rfl rfl rfl ?_
                  refine TL_gskip rfl rfl rfl rfl ?_
                  refine TL_gskip rfl rfl rfl rfl ?_
                  refine TL_y rfl rfl (Y_pick_f rfl rfl) ?_
                  refine TL_chain_end rfl ?_ (by repeat (first | exact sub_refl | refine sub_ext rfl ?_)) GivesTo.g
                  exact congrArg Value.bool (decide_eq_false (by omega)).symm
              refine TL_nil ?_
              refine T_if rfl (fun h213 => ?_) (fun h213 => ?_)
              · refine T_region_last ?_
                refine TL_y rfl rfl (Y_move rfl) ?_
                refine TL_y rfl rfl (Y_move rfl) ?_
                refine TL_y rfl rfl (Y_move rfl) ?_
                refine TL_y rfl rfl (Y_move rfl) ?_
                refine TL_y rfl rfl (Y_move rfl) ?_
                refine TL_call rfl rfl (ih _ g c n Z ((a + b) / 2) ((a + b) / 2 + m - st) b (by omega) (by omega) hn2 (by omega) g3' g4') ?_
                rintro _ _ ⟨W, ⟨rfl, hw1, hw2⟩, rfl⟩
                refine TL_nil ?_
                exact RetG_0 (.inr rfl) rfl GivesTo.g (⟨W, ⟨rfl, hXZ.trans (hw1.mono (by omega) (by omega)), join_halves (Y := X) (hZs.same fun t k1 k2 => hw1.out t (.inl k2)) hw2 (cross_right hw1 g6)⟩, rfl⟩)
              · refine T_skip ?_
                exact RetG_0 (.inr rfl) rfl GivesTo.g (⟨Z, ⟨rfl, hXZ, join_halves (Y := X) hZs (by rcases (show (a + b) / 2 = (a + b) / 2 + m - st ∨ (a + b) / 2 + m - st = b by omega) with e | e; exact (show SR Z ((a + b) / 2) b by rw [← e] at g4'; exact g4'); exact (show SR Z ((a + b) / 2) b by rw [e] at g3'; exact g3')) g6⟩, rfl⟩)
theorem symMerge_spec : ∀ k, SymC k
  | 0 => fun L g c n X a m b hk hn hn2 hab h1 h2 => absurd hab (by omega)
  | k + 1 => fun L g c n X a m b hk hn hn2 hab h1 h2 => symMerge_step (symMerge_spec k) a m b hk hn hn2 hab h1 h2
end Go.SL
set_option linter.unusedVariables false
set_option linter.unusedSimpArgs false
namespace Go.SL
open Go Go.Proofs
/-! ### Blocks, told plainly -/
def Bf (k : Nat) (X : List EvP) : Prop := ∀ q, SR X (q * k) (q * k + k)
theorem SR.out {X : List EvP} {a b : Nat} (h : X.length ≤ a) : SR X a b := fun s t x y h1 h2 h3 hx hy => by
  have := (List.getElem?_eq_some_iff.1 hx).1
  omega
structure Mx (Z : List EvP) (k q : Nat) : Prop where
  done : ∀ p, p < q → SR Z (p * (2 * k)) (p * (2 * k) + 2 * k)
  todo : ∀ p, 2 * q ≤ p → SR Z (p * k) (p * k + k)
theorem Mx.start {X : List EvP} {k : Nat} (h : Bf k X) : Mx X k 0 := ⟨fun p hp => by omega, fun p _ => h p⟩
theorem two_q (q k : Nat) : 2 * q * k = q * (2 * k) := by rw [← Nat.mul_assoc, Nat.mul_comm q 2]
theorem Mx.left {Z : List EvP} {k q : Nat} (h : Mx Z k q) : SR Z (q * (2 * k)) (q * (2 * k) + k) := by
  have := h.todo (2 * q) (Nat.le_refl _)
  rw [two_q] at this; exact this
theorem Mx.right {Z : List EvP} {k q : Nat} (h : Mx Z k q) : SR Z (q * (2 * k) + k) (q * (2 * k) + 2 * k) := by
  have := h.todo (2 * q + 1) (by omega)
  rw [Nat.succ_mul, two_q, show q * (2 * k) + k + k = q * (2 * k) + 2 * k by omega] at this; exact this
theorem mul_next {p q K : Nat} (h : p < q) : p * K + K ≤ q * K := by
  have := Nat.mul_le_mul_right K (show p + 1 ≤ q from h)
  rw [Nat.succ_mul] at this; exact this
theorem Mx.step {Z W : List EvP} {k q : Nat} (h : Mx Z k q) (hr : Res Z W (q * (2 * k)) (q * (2 * k) + 2 * k)) (hs : SR W (q * (2 * k)) (q * (2 * k) + 2 * k)) : Mx W k (q + 1) := ⟨fun p hp => by
  by_cases e : p = q
  · subst e; exact hs
  · have := mul_next (K := 2 * k) (show p < q by omega)
    exact (h.done p (by omega)).same fun t h1 h2 => hr.out t (.inl (by omega)), fun p hp => by
  have h1 := Nat.mul_le_mul_right k (show 2 * (q + 1) ≤ p from hp)
  rw [two_q, Nat.succ_mul] at h1
  exact (h.todo p (by omega)).same fun t h2 h3 => hr.out t (.inr (by omega))⟩
theorem Mx.last {Z W : List EvP} {k q n : Nat} (h : Mx Z k q) (hn : Z.length = n) (hq : n < q * (2 * k) + 2 * k) (hr : Res Z W (q * (2 * k)) n) (hs : SR W (q * (2 * k)) n) : Bf (2 * k) W := fun p => by
  have hl := hr.len
  rcases Nat.lt_trichotomy p q with e | e | e
  · have := mul_next (K := 2 * k) e
    exact (h.done p e).same fun t h1 h2 => hr.out t (.inl (by omega))
  · subst e; exact hs.beyond (by omega)
  · have := mul_next (K := 2 * k) e
    exact SR.out (by omega)
theorem Bf.last {Y W : List EvP} {q n : Nat} (h : ∀ p, p < q → SR Y (p * 20) (p * 20 + 20)) (hn : Y.length = n) (hq : n < q * 20 + 20) (hr : Res Y W (q * 20) n) (hs : SR W (q * 20) n) : Bf 20 W := fun p => by
  have hl := hr.len
  rcases Nat.lt_trichotomy p q with e | e | e
  · exact (h p e).same fun t h1 h2 => hr.out t (.inl (by omega))
  · subst e; exact hs.beyond (by omega)
  · exact SR.out (by omega)
theorem Bf.all {Y : List EvP} {k : Nat} (h : Bf k Y) (hk : Y.length ≤ k) : SR Y 0 Y.length := by
  have := h 0
  rw [Nat.zero_mul, Nat.zero_add] at this
  exact this.sub (Nat.le_refl _) hk
structure MxSt where
  Z : List EvP
  q : Nat
  a : Nat
  b : Nat
theorem stable_spec {L : List HP} {A : Option Addr} {c n : Nat} {X : List EvP} (hn : n = X.length) (hn2 : n ≤ 2000000000000000) : Fn Try.prog 80 #[.slice A n c, .int .i64 (n : Int), cmV] (oE A c X :: L) (fun v L' => ∃ Y, (v = .tuple #[] ∧ Y.Perm X ∧ SR Y 0 n) ∧ L' = oE A c Y :: L) := by
  refine Fn_enter Try.func80 rfl rfl rfl rfl ?_
  refine T_region ?_
  refine TL_y rfl rfl (Y_assign rfl) ?_
  refine TL_nil ?_
  refine T_region ?_
  refine TL_y rfl rfl (Y_move rfl) ?_
  refine TL_y rfl rfl (Y_assign rfl) ?_
  refine TL_y rfl rfl (Y_assign rfl) ?_
  refine TL_nil ?_
  refine T_seq ?_
  refine T_block ?_
  refine T_loopK (σ := MxSt) [0, 1, 2, 6] (fun s => Res X s.Z 0 n ∧ (∀ p, p < s.q → SR s.Z (p * 20) (p * 20 + 20)) ∧ s.a = s.q * 20 ∧ s.b = s.a + 20 ∧ s.a ≤ n) (fun s kv => (7, .int .i64 (s.a : Int)) :: (8, .int .i64 (s.b : Int)) :: kv) (fun s => osl evpR 29 A c s.Z :: L) (fun s => n - s.a) (⟨X, 0, 0, 20⟩) rfl (⟨Res.refl X 0 n, fun p hp => absurd hp (by dsimp only; omega), rfl, rfl, Nat.zero_le _⟩) (GivesTo.g) (sub_cons rfl (sub_cons rfl (sub_cons rfl (sub_cons rfl (sub_cons rfl (sub_cons rfl (sub_nil))))))) ?_
  rintro ⟨Z, q, a, b⟩ ⟨hZ, hs, ha, hb, han⟩
  dsimp only at hZ hs ha hb han ⊢
  have hlZ := hZ.len
  refine T_seq ?_
  refine T_region ?_
  refine TL_y rfl rfl (Y_move rfl) ?_
  refine TL_y rfl rfl (Y_move rfl) ?_
  refine TL_y rfl rfl (Y_le rfl rfl) ?_
  refine TL_nil ?_
  refine T_if rfl (fun h13 => ?_) (fun h13 => ?_)
  · refine T_skip ?_
    refine thenS_normal ?_
    refine T_block ?_
    refine T_region ?_
    refine TL_y rfl rfl (Y_move rfl) ?_
    refine TL_y rfl rfl (Y_move rfl) ?_
    refine TL_y rfl rfl (Y_move rfl) ?_
    refine TL_y rfl rfl (Y_move rfl) ?_
    refine TL_call rfl rfl (insertion_spec a b (by omega) hn2 (by omega) (by omega)) ?_
    rintro _ _ ⟨Y, ⟨rfl, hY1, hY2⟩, rfl⟩
    refine TL_nil ?_
    refine T_region ?_
    refine TL_y rfl rfl (Y_move rfl) ?_
    refine TL_y rfl rfl (Y_assign rfl) ?_
    refine TL_nil ?_
    refine T_region_last ?_
    refine TL_y rfl rfl (Y_move rfl) ?_
    refine TL_y rfl rfl (Y_move rfl) ?_
    refine TL_y rfl rfl (Y_add rfl rfl (by omega)) ?_
    refine TL_name 22 (v' := .int .i64 ((b + 20 : Nat) : Int)) rfl (rfl) ?_
    refine TL_y rfl rfl (Y_assign rfl) ?_
    refine TL_nil ?_
    refine inB_normal ?_
    refine thenS_normal ?_
    exact ⟨⟨Y, q + 1, b, b + 20⟩, ⟨hZ.trans (hY1.mono (by omega) (by omega)), fun p hp => (by dsimp only at hp ⊢; by_cases e : p = q; (subst e; rw [← ha, ← hb]; exact hY2); exact (hs p (by omega)).same fun t h1 h2 => hY1.out t (.inl (by omega))), (by dsimp only; omega), rfl, (by dsimp only; omega)⟩, (by dsimp only; omega), holds_to (sub_cons rfl (sub_cons rfl (sub_cons rfl (sub_cons rfl (sub_cons rfl (sub_cons rfl (sub_nil))))))) GivesTo.g⟩
  · refine T_exit ?_
    refine thenS_exit ?_
    refine thenS_exit ?_
    refine inB_hit ?_
    refine thenS_normal ?_
    refine T_region ?_
    refine TL_y rfl rfl (Y_move rfl) ?_
    refine TL_y rfl rfl (Y_move rfl) ?_
    refine TL_y rfl rfl (Y_move rfl) ?_
    refine TL_y rfl rfl (Y_move rfl) ?_
    refine TL_call rfl rfl (insertion_spec a n (by omega) hn2 (by omega) (by omega)) ?_
    rintro _ _ ⟨Y, ⟨rfl, hY1, hY2⟩, rfl⟩
    have hB0 : Bf 20 Y := Bf.last (q := q) (n := n) hs (by omega) (by omega) (by rw [← ha]; exact hY1) (by rw [← ha]; exact hY2)
    have hR0 : Res X Y 0 n := hZ.trans (hY1.mono (by omega) (by omega))
    refine TL_nil ?_
    refine T_block ?_
    refine T_loopK (σ := List EvP × Nat) [0, 1, 2] (fun s => Res X s.1 0 n ∧ Bf s.2 s.1 ∧ 20 ≤ s.2 ∧ (s.2 = 20 ∨ s.2 ≤ 2 * n)) (fun s kv => (6, .int .i64 (s.2 : Int)) :: kv) (fun s => osl evpR 29 A c s.1 :: L) (fun s => n - s.2) ((Y, 20)) rfl (⟨hR0, hB0, Nat.le_refl _, .inl rfl⟩) (GivesTo.g) (sub_cons rfl (sub_cons rfl (sub_cons rfl (sub_cons rfl (sub_nil))))) ?_
    rintro ⟨Y, k⟩ ⟨hY, hB, hk1, hk2⟩
    dsimp only at hY hB hk1 hk2 ⊢
    have hlY := hY.len
    refine T_seq ?_
    refine T_region ?_
    refine TL_y rfl rfl (Y_move rfl) ?_
    refine TL_y rfl rfl (Y_move rfl) ?_
    refine TL_y rfl rfl (Y_lt rfl rfl) ?_
    refine TL_nil ?_
    refine T_if rfl (fun h30 => ?_) (fun h30 => ?_)
    · refine T_skip ?_
      refine thenS_normal ?_
      refine T_block ?_
      obtain ⟨x0, hx0⟩ := getX (X := Y) (t := 0) (by omega)
      refine T_oaddr A c hx0 fun g hA => ?_
      subst hA
      refine T_region ?_
      refine TL_y rfl rfl (Y_move rfl) ?_
      refine TL_y rfl rfl (Y_mul rfl rfl (by omega)) ?_
      refine TL_name 32 (v' := .int .i64 ((2 * k : Nat) : Int)) rfl (rfl) ?_
      refine TL_y rfl rfl (Y_assign rfl) ?_
      refine TL_y rfl rfl (Y_assign rfl) ?_
      refine TL_nil ?_
      refine T_seq ?_
      refine T_block ?_
      refine T_loopK (σ := MxSt) [0, 1, 2, 6] (fun s => Res X s.Z 0 n ∧ Mx s.Z k s.q ∧ s.a = s.q * (2 * k) ∧ s.b = s.a + 2 * k ∧ s.a ≤ n) (fun s kv => (7, .int .i64 (s.a : Int)) :: (8, .int .i64 (s.b : Int)) :: kv) (fun s => osl evpR 29 (some ⟨g, 0, none⟩) c s.Z :: L) (fun s => n - s.a) (⟨Y, 0, 0, 2 * k⟩) rfl (⟨hY, Mx.start hB, by simp, by simp, Nat.zero_le _⟩) (GivesTo.g) (sub_cons rfl (sub_cons rfl (sub_cons rfl (sub_cons rfl (sub_cons rfl (sub_cons rfl (sub_nil))))))) ?_
      rintro ⟨Z, q, a, b⟩ ⟨hZ, hM, ha, hb, han⟩
      dsimp only at hZ hM ha hb han ⊢
      have hlZ := hZ.len
      have hl1 := hM.left
      have hl2 := hM.right
      rw [← ha] at hl1 hl2
      refine T_seq ?_
      refine T_region ?_
      refine TL_y rfl rfl (Y_move rfl) ?_
      refine TL_y rfl rfl (Y_move rfl) ?_
      refine TL_y rfl rfl (Y_le rfl rfl) ?_
      refine TL_nil ?_
      refine T_if rfl (fun h35 => ?_) (fun h35 => ?_)
      · refine T_skip ?_
        refine thenS_normal ?_
        refine T_block ?_
        refine T_region ?_
        refine TL_y rfl rfl (Y_move rfl) ?_
        refine TL_y rfl rfl (Y_move rfl) ?_
        refine TL_y rfl rfl (Y_move rfl) ?_
        refine TL_y rfl rfl (Y_move rfl) ?_
        refine TL_y rfl rfl (Y_add rfl rfl (by omega)) ?_
        refine TL_name 40 (v' := .int .i64 ((a + k : Nat) : Int)) rfl (rfl) ?_
        refine TL_y rfl rfl (Y_move rfl) ?_
        refine TL_y rfl rfl (Y_move rfl) ?_
        refine TL_call rfl rfl (symMerge_spec (b - a) L g c n Z a (a + k) b (Nat.le_refl _) (by omega) hn2 (by omega) hl1 (by rw [hb]; exact hl2)) ?_
        rintro _ _ ⟨W, ⟨rfl, hw1, hw2⟩, rfl⟩
        refine TL_nil ?_
        refine T_region ?_
        refine TL_y rfl rfl (Y_move rfl) ?_
        refine TL_y rfl rfl (Y_assign rfl) ?_
        refine TL_nil ?_
        refine T_region_last ?_
        refine TL_y rfl rfl (Y_move rfl) ?_
        refine TL_y rfl rfl (Y_move rfl) ?_
        refine TL_y rfl rfl (Y_mul rfl rfl (by omega)) ?_
        refine TL_name 47 (v' := .int .i64 ((2 * k : Nat) : Int)) rfl (rfl) ?_
        refine TL_y rfl rfl (Y_add rfl rfl (by omega)) ?_
        refine TL_name 48 (v' := .int .i64 ((b + 2 * k : Nat) : Int)) rfl (rfl) ?_
        refine TL_y rfl rfl (Y_assign rfl) ?_
        refine TL_nil ?_
        refine inB_normal ?_
        refine thenS_normal ?_
        exact ⟨⟨W, q + 1, b, b + 2 * k⟩, ⟨hZ.trans (hw1.mono (by omega) (by omega)), hM.step (by rw [← ha, ← hb]; exact hw1) (by rw [← ha, ← hb]; exact hw2), (by dsimp only; rw [Nat.succ_mul]; omega), rfl, (by dsimp only; omega)⟩, (by dsimp only; omega), holds_to (sub_cons rfl (sub_cons rfl (sub_cons rfl (sub_cons rfl (sub_cons rfl (sub_cons rfl (sub_nil))))))) GivesTo.g⟩
      · refine T_exit ?_
        refine thenS_exit ?_
        refine thenS_exit ?_
        refine inB_hit ?_
        refine thenS_normal ?_
        refine T_seq ?_
        refine T_region ?_
        refine TL_y rfl rfl (Y_move rfl) ?_
        refine TL_y rfl rfl (Y_move rfl) ?_
        refine TL_y rfl rfl (Y_add rfl rfl (by omega)) ?_
        refine TL_name 51 (v' := .int .i64 ((a + k : Nat) : Int)) rfl (rfl) ?_
        refine TL_y rfl rfl (Y_assign rfl) ?_
        refine TL_nil ?_
        refine T_region ?_
        refine TL_y rfl rfl (Y_move rfl) ?_
        refine TL_y rfl rfl (Y_move rfl) ?_
        refine TL_y rfl rfl (Y_lt rfl rfl) ?_
        refine TL_nil ?_
        refine T_joinKT (σ := List EvP) [0, 1, 2, 6] (fun W => Res X W 0 n ∧ Bf (2 * k) W) (fun W kv => kv) (fun W => osl evpR 29 (some ⟨g, 0, none⟩) c W :: L) rfl ?_ ?_
        · refine T_if rfl (fun h54 => ?_) (fun h54 => ?_)
          · refine T_region_last ?_
            refine TL_y rfl rfl (Y_move rfl) ?_
            refine TL_y rfl rfl (Y_move rfl) ?_
            refine TL_y rfl rfl (Y_move rfl) ?_
            refine TL_y rfl rfl (Y_move rfl) ?_
            refine TL_y rfl rfl (Y_move rfl) ?_
            refine TL_call rfl rfl (symMerge_spec (n - a) L g c n Z a (a + k) n (Nat.le_refl _) (by omega) hn2 (by omega) hl1 ((hl2.sub (Nat.le_refl _) (by omega)))) ?_
            rintro _ _ ⟨W, ⟨rfl, hw1, hw2⟩, rfl⟩
            refine TL_nil ?_
            refine thenS_normal ?_
            exact ⟨W, ⟨hZ.trans (hw1.mono (by omega) (by omega)), hM.last (n := n) (by omega) (by omega) (by rw [← ha]; exact hw1) (by rw [← ha]; exact hw2)⟩, holds_to (sub_cons rfl (sub_cons rfl (sub_cons rfl (sub_cons rfl (sub_nil))))) GivesTo.g⟩
          · refine T_skip ?_
            refine thenS_normal ?_
            exact ⟨Z, ⟨hZ, hM.last (n := n) (by omega) (by omega) (Res.refl _ _ _) (by rw [← ha]; exact hl1.sub (Nat.le_refl _) (by omega))⟩, holds_to (sub_cons rfl (sub_cons rfl (sub_cons rfl (sub_cons rfl (sub_nil))))) GivesTo.g⟩
        · rintro W ⟨hW1, hW2⟩
          refine T_region_last ?_
          refine TL_y rfl rfl (Y_move rfl) ?_
          refine TL_y rfl rfl (Y_mul rfl rfl (by omega)) ?_
          refine TL_name 62 (v' := .int .i64 ((2 * k : Nat) : Int)) rfl (congrArg (Value.int .i64) (by omega)) ?_
          refine TL_y rfl rfl (Y_assign rfl) ?_
          refine TL_nil ?_
          refine inB_normal ?_
          refine thenS_normal ?_
          exact ⟨(W, 2 * k), ⟨hW1, hW2, (by dsimp only; omega), .inr (by dsimp only; omega)⟩, (by dsimp only; omega), holds_to (sub_cons rfl (sub_cons rfl (sub_cons rfl (sub_cons rfl (sub_nil))))) GivesTo.g⟩
    · refine T_exit ?_
      refine thenS_exit ?_
      refine thenS_exit ?_
      refine inB_hit ?_
      exact RetG_0 (.inr rfl) rfl GivesTo.g (⟨Y, ⟨rfl, hY.perm, (by have := hB.all (by omega); rw [hlY, ← hn] at this; exact this)⟩, rfl⟩)
end Go.SL
set_option linter.unusedVariables false
set_option linter.unusedSimpArgs false
namespace Go.SL
open Go Go.Proofs
section
variable {P : Program} {E : Env} {L : List HP} {A : Option Addr} {c : Nat} {ty : TypeId} {α : Type} {R : Rep α}
theorem Y_cap {x : Operand} {t e : TypeId} {k : Nat} [ht : TyDesc P t (.slice e)] (hx : ev E x = some (.slice A k c)) : Yl P E L (.call { callee := .builtin .cap, args := #[x], argTypes := #[t] }) ty (.int .i64 (c : Int)) := fun n D W a w dst pos af g ha hs => by
  simp [execOp, resolve, invoke, builtin, Builtin.cap_, ha.ev hx, ht.run, goInt]
theorem osl_take {te : TypeId} {xs : List α} (m : Nat) : Gives (osl R te A c xs :: L) (osl R te A c (xs.take m) :: L) := fun M k ⟨h1, h2, hd, l1, l2, hp, hs⟩ => by
  refine ⟨h1, h2, hd, l1, l2, ⟨by rw [List.length_take]; have := hp.1; omega, ?_⟩, hs⟩
  rcases hp.2 with ⟨rfl, rfl⟩ | ⟨g, cur, rfl, hg, hsz, hl, hc, hx⟩
  · exact .inl ⟨rfl, by simp⟩
  · refine .inr ⟨g, cur, rfl, hg, hsz, by rw [List.length_take]; omega, hc, fun i x hi => ?_⟩
    have h3 := (List.getElem?_eq_some_iff.1 hi).1
    rw [List.length_take] at h3
    rw [List.getElem?_take_of_lt (by omega)] at hi
    exact hx i x hi
end
abbrev zeroE : EventD := ⟨(0, 0), [], ⟨#[]⟩, 0, ⟨#[]⟩, 0, false⟩
theorem zeroE_ok : eventOk zeroE := ⟨i64In_mk (by simp), i64In_mk (by simp), by simp, Nat.zero_le _, i64In_mk (by simp), Nat.zero_le _, i64In_mk (by simp)⟩
theorem zeroE_rep (M : Mem) : eventR.rep M zeroE (eventC zeroE (none, 0)) := (ex_rep (L := []) (u := zeroE) ((none : Option Addr), (0 : Nat)) (sep_sl slnil) zeroE_ok) M Mem.emp trivial
theorem grow_spec {L : List HP} (m : Nat) (hm : m ≤ 1466015503701) : Fn Try.prog 79 #[.slice none 0 0, .int .i64 (m : Int)] L (fun v L' => ∃ A c, v = .slice A 0 c ∧ L' = osl eventR 29 A c [] :: L) := by
  refine Fn_enter Try.func79 rfl rfl rfl rfl ?_
  refine T_region ?_
  refine TL_y rfl rfl (Y_assign rfl) ?_
  refine TL_nil ?_
  refine T_seq ?_
  refine T_region ?_
  refine TL_y rfl rfl (Y_move rfl) ?_
  refine TL_y rfl rfl (Y_lt rfl rfl) ?_
  refine TL_name 6 (v' := .bool false) rfl (congrArg Value.bool (decide_eq_false (by omega))) ?_
  refine TL_nil ?_
  refine T_cond_false rfl ?_
  refine T_skip ?_
  refine thenS_normal ?_
  refine T_seq ?_
  refine T_region ?_
  refine TL_y rfl rfl (Y_move rfl) ?_
  refine TL_y rfl rfl (Y_move rfl) ?_
  refine TL_y rfl rfl (Y_cap rfl) ?_
  refine TL_y rfl rfl (Y_move rfl) ?_
  refine TL_y rfl rfl (Y_len rfl) ?_
  refine TL_y rfl rfl (Y_sub rfl rfl (by omega)) ?_
  refine TL_y rfl rfl (Y_sub rfl rfl (by omega)) ?_
  refine TL_name 14 (v' := .int .i64 (m : Int)) rfl (congrArg (Value.int .i64) (by omega)) ?_
  refine TL_y rfl rfl (Y_assign rfl) ?_
  refine TL_nil ?_
  refine T_region ?_
  refine TL_y rfl rfl (Y_move rfl) ?_
  refine TL_y rfl rfl (Y_gt rfl rfl) ?_
  refine TL_nil ?_
  refine T_if rfl (fun h16 => ?_) (fun h16 => ?_)
  · refine T_region_last ?_
    refine TL_y rfl rfl (Y_move rfl) ?_
    refine TL_y rfl rfl (Y_move rfl) ?_
    refine TL_y rfl rfl (Y_cap rfl) ?_
    refine TL_y rfl rfl (Y_cut_h rfl rfl (by omega)) ?_
    refine TL_name 20 (v' := .slice none ([] : List EventD).length 0) rfl (rfl) ?_
    refine TL_y rfl rfl (Y_move rfl) ?_
    refine TL_gives (osl_nil eventR 29 none _) ?_
    refine TL_append_zeros (R := eventR) zeroE rfl rfl rfl rfl rfl zeroE_rep (by simp only [List.length_nil]; omega) ?_
    intro A22 c22
    refine TL_y rfl rfl (Y_move rfl) ?_
    refine TL_y rfl rfl (Y_len rfl) ?_
    refine TL_y rfl rfl (Y_cut_h rfl rfl (by omega)) ?_
    refine TL_name 25 (v' := .slice A22 0 c22) rfl (rfl) ?_
    refine TL_gives (osl_take 0) ?_
    rw [List.take_zero]
    refine TL_y rfl rfl (Y_assign rfl) ?_
    refine TL_nil ?_
    refine thenS_normal ?_
    refine T_region ?_
    refine TL_y rfl rfl (Y_move rfl) ?_
    refine TL_y rfl rfl (Y_assign rfl) ?_
    refine TL_nil ?_
    refine T_ret ?_
    exact RetG_1 (.inl rfl) rfl (ResV.tmp rfl) GivesTo.g (⟨A22, c22, rfl, rfl⟩)
  · refine T_skip ?_
    refine thenS_normal ?_
    refine T_region ?_
    refine TL_y rfl rfl (Y_move rfl) ?_
    refine TL_y rfl rfl (Y_assign rfl) ?_
    refine TL_nil ?_
    refine T_ret ?_
    refine RetQ.gives (osl_nil eventR 29 none _) ?_
    exact RetG_1 (.inl rfl) rfl (ResV.tmp rfl) GivesTo.g (⟨none, 0, rfl, rfl⟩)
structure CcSt where
  i : Nat
  A : Option Addr
  c : Nat
  z : List EventD
theorem concat_spec {L : List HP} {b : Nat} {A B : Option Addr} {c d : Nat} {tt : TypeId} {xs ys : List EventD} (hl : xs.length + ys.length ≤ 1466015503701) : Fn Try.prog 57 #[.slice (some ⟨b, 0, none⟩) 2 2] (cells b [.slice A xs.length c, .slice B ys.length d] tt :: sl eventR A c xs :: sl eventR B d ys :: L) (fun v L' => ∃ A' c', v = .slice A' (xs ++ ys).length c' ∧ L' = osl eventR 29 A' c' (xs ++ ys) :: sl eventR A c xs :: sl eventR B d ys :: L) := by
  refine Fn_enter Try.func57 rfl rfl rfl rfl ?_
  refine T_region ?_
  refine TL_y rfl rfl (Y_assign rfl) ?_
  refine TL_nil ?_
  refine T_region ?_
  refine TL_y rfl rfl (Y_assign rfl) ?_
  refine TL_nil ?_
  refine T_seq ?_
  refine T_region ?_
  refine TL_y rfl rfl (Y_move rfl) ?_
  refine TL_y rfl rfl (Y_len rfl) ?_
  refine TL_y rfl rfl (Y_move rfl) ?_
  refine TL_nil ?_
  refine T_block ?_
  refine T_loopK (σ := Nat × Nat) [0, 9, 10] (fun s => (s.1 = 0 ∧ s.2 = 0) ∨ (s.1 = 1 ∧ s.2 = xs.length) ∨ (s.1 = 2 ∧ s.2 = xs.length + ys.length)) (fun s kv => (11, .int .i64 (s.1 : Int)) :: (3, .int .i64 (s.2 : Int)) :: kv) (fun s => cells b [.slice A xs.length c, .slice B ys.length d] tt :: sl eventR A c xs :: sl eventR B d ys :: L) (fun s => 2 - s.1) ((0, 0)) rfl (.inl ⟨rfl, rfl⟩) (GivesTo.g) (sub_cons rfl (sub_cons rfl (sub_cons rfl (sub_cons rfl (sub_cons rfl (sub_nil)))))) ?_
  rintro ⟨i, z⟩ hI
  dsimp only at hI ⊢
  refine T_region ?_
  refine TL_y rfl rfl (Y_lt rfl rfl) ?_
  refine TL_nil ?_
  refine T_seq ?_
  refine T_if rfl (fun h12 => ?_) (fun h12 => ?_)
  · refine T_skip ?_
    refine thenS_normal ?_
    refine T_seq ?_
    refine T_block ?_
    rcases (show i = 0 ∨ i = 1 by omega) with h | h
    · subst h
      refine T_region ?_
      refine TL_y rfl rfl (Y_index_addr rfl rfl (by omega)) ?_
      refine TL_y rfl rfl (Y_load rfl rfl) ?_
      refine TL_y rfl rfl (Y_assign rfl) ?_
      refine TL_nil ?_
      refine T_region ?_
      refine TL_y rfl rfl (Y_move rfl) ?_
      refine TL_y rfl rfl (Y_move rfl) ?_
      refine TL_y rfl rfl (Y_len rfl) ?_
      refine TL_y rfl rfl (Y_add rfl rfl (by omega)) ?_
      refine TL_name 18 (v' := .int .i64 (xs.length : Int)) rfl (congrArg (Value.int .i64) (by omega)) ?_
      refine TL_y rfl rfl (Y_assign rfl) ?_
      refine TL_nil ?_
      refine T_region ?_
      refine TL_y rfl rfl (Y_move rfl) ?_
      refine TL_y rfl rfl (Y_lt rfl rfl) ?_
      refine TL_name 20 (v' := .bool false) rfl (congrArg Value.bool (decide_eq_false (by omega))) ?_
      refine TL_nil ?_
      refine T_cond_false rfl ?_
      refine T_skip ?_
      refine inB_normal ?_
      refine thenS_normal ?_
      refine T_region_last ?_
      refine TL_y rfl rfl (Y_add rfl rfl (by omega)) ?_
      refine TL_name 22 (v' := .int .i64 ((1 : Nat) : Int)) rfl (rfl) ?_
      refine TL_y rfl rfl (Y_move rfl) ?_
      refine TL_nil ?_
      refine thenS_normal ?_
      exact ⟨(1, xs.length), .inr (.inl ⟨rfl, rfl⟩), (by dsimp only; omega), holds_to (sub_cons rfl (sub_cons rfl (sub_cons rfl (sub_cons rfl (sub_cons rfl (sub_nil)))))) GivesTo.g⟩
    · subst h
      refine T_region ?_
      refine TL_y rfl rfl (Y_index_addr rfl rfl (by omega)) ?_
      refine TL_y rfl rfl (Y_load rfl rfl) ?_
      refine TL_y rfl rfl (Y_assign rfl) ?_
      refine TL_nil ?_
      refine T_region ?_
      refine TL_y rfl rfl (Y_move rfl) ?_
      refine TL_y rfl rfl (Y_move rfl) ?_
      refine TL_y rfl rfl (Y_len rfl) ?_
      refine TL_y rfl rfl (Y_add rfl rfl (by omega)) ?_
      refine TL_name 18 (v' := .int .i64 ((xs.length + ys.length : Nat) : Int)) rfl (congrArg (Value.int .i64) (by omega)) ?_
      refine TL_y rfl rfl (Y_assign rfl) ?_
      refine TL_nil ?_
      refine T_region ?_
      refine TL_y rfl rfl (Y_move rfl) ?_
      refine TL_y rfl rfl (Y_lt rfl rfl) ?_
      refine TL_name 20 (v' := .bool false) rfl (congrArg Value.bool (decide_eq_false (by omega))) ?_
      refine TL_nil ?_
      refine T_cond_false rfl ?_
      refine T_skip ?_
      refine inB_normal ?_
      refine thenS_normal ?_
      refine T_region_last ?_
      refine TL_y rfl rfl (Y_add rfl rfl (by omega)) ?_
      refine TL_name 22 (v' := .int .i64 ((2 : Nat) : Int)) rfl (rfl) ?_
      refine TL_y rfl rfl (Y_move rfl) ?_
      refine TL_nil ?_
      refine thenS_normal ?_
      exact ⟨(2, xs.length + ys.length), .inr (.inr ⟨rfl, rfl⟩), (by dsimp only; omega), holds_to (sub_cons rfl (sub_cons rfl (sub_cons rfl (sub_cons rfl (sub_cons rfl (sub_nil)))))) GivesTo.g⟩
  · refine T_exit ?_
    refine thenS_exit ?_
    refine thenS_exit ?_
    refine inB_hit ?_
    refine thenS_normal ?_
    refine T_region ?_
    refine TL_y rfl rfl (Y_move rfl) ?_
    refine TL_call rfl rfl (grow_spec z (by omega)) ?_
    rintro _ _ ⟨A24, c24, rfl, rfl⟩
    refine TL_y rfl rfl (Y_assign rfl) ?_
    refine TL_nil ?_
    refine T_seq ?_
    refine T_region ?_
    refine TL_y rfl rfl (Y_move rfl) ?_
    refine TL_y rfl rfl (Y_len rfl) ?_
    refine TL_y rfl rfl (Y_move rfl) ?_
    refine TL_nil ?_
    refine T_block ?_
    refine T_loopK (σ := CcSt) [25, 26] (fun s => (s.i = 0 ∧ s.z = []) ∨ (s.i = 1 ∧ s.z = xs) ∨ (s.i = 2 ∧ s.z = xs ++ ys)) (fun s kv => (27, .int .i64 (s.i : Int)) :: (6, .slice s.A s.z.length s.c) :: kv) (fun s => osl eventR 29 s.A s.c s.z :: cells b [.slice A xs.length c, .slice B ys.length d] tt :: sl eventR A c xs :: sl eventR B d ys :: L) (fun s => 2 - s.i) (⟨0, A24, c24, []⟩) rfl (.inl ⟨rfl, rfl⟩) (GivesTo.g) (sub_cons rfl (sub_cons rfl (sub_cons rfl (sub_cons rfl (sub_nil))))) ?_
    rintro ⟨i, X, cx, z⟩ hI
    dsimp only at hI ⊢
    refine T_region ?_
    refine TL_y rfl rfl (Y_lt rfl rfl) ?_
    refine TL_nil ?_
    refine T_seq ?_
    refine T_if rfl (fun h28 => ?_) (fun h28 => ?_)
    · refine T_skip ?_
      refine thenS_normal ?_
      refine T_seq ?_
      refine T_block ?_
      rcases (show (i = 0 ∧ z = []) ∨ (i = 1 ∧ z = xs) by rcases hI with h | h | h; exact .inl h; exact .inr h; omega) with ⟨rfl, rfl⟩ | ⟨rfl, rfl⟩
      · refine T_region ?_
        refine TL_y rfl rfl (Y_index_addr rfl rfl (by omega)) ?_
        refine TL_y rfl rfl (Y_load rfl rfl) ?_
        refine TL_y rfl rfl (Y_assign rfl) ?_
        refine TL_nil ?_
        refine T_region_last ?_
        refine TL_y rfl rfl (Y_move rfl) ?_
        refine TL_y rfl rfl (Y_move rfl) ?_
        refine TL_append rfl rfl rfl rfl rfl slk (by simp only [List.length_nil]; omega) ?_
        intro A33 c33
        refine TL_y rfl rfl (Y_assign rfl) ?_
        refine TL_nil ?_
        refine inB_normal ?_
        refine thenS_normal ?_
        refine T_region_last ?_
        refine TL_y rfl rfl (Y_add rfl rfl (by omega)) ?_
        refine TL_name 34 (v' := .int .i64 ((1 : Nat) : Int)) rfl (rfl) ?_
        refine TL_y rfl rfl (Y_move rfl) ?_
        refine TL_nil ?_
        refine thenS_normal ?_
        exact ⟨⟨1, A33, c33, [] ++ xs⟩, .inr (.inl ⟨rfl, rfl⟩), (by dsimp only; omega), holds_to (sub_cons rfl (sub_cons rfl (sub_cons rfl (sub_cons rfl (sub_nil))))) GivesTo.g⟩
      · refine T_region ?_
        refine TL_y rfl rfl (Y_index_addr rfl rfl (by omega)) ?_
        refine TL_y rfl rfl (Y_load rfl rfl) ?_
        refine TL_y rfl rfl (Y_assign rfl) ?_
        refine TL_nil ?_
        refine T_region_last ?_
        refine TL_y rfl rfl (Y_move rfl) ?_
        refine TL_y rfl rfl (Y_move rfl) ?_
        refine TL_append rfl rfl rfl rfl rfl slk (by omega) ?_
        intro A33 c33
        refine TL_y rfl rfl (Y_assign rfl) ?_
        refine TL_nil ?_
        refine inB_normal ?_
        refine thenS_normal ?_
        refine T_region_last ?_
        refine TL_y rfl rfl (Y_add rfl rfl (by omega)) ?_
        refine TL_name 34 (v' := .int .i64 ((2 : Nat) : Int)) rfl (rfl) ?_
        refine TL_y rfl rfl (Y_move rfl) ?_
        refine TL_nil ?_
        refine thenS_normal ?_
        exact ⟨⟨2, A33, c33, z ++ ys⟩, .inr (.inr ⟨rfl, rfl⟩), (by dsimp only; omega), holds_to (sub_cons rfl (sub_cons rfl (sub_cons rfl (sub_cons rfl (sub_nil))))) GivesTo.g⟩
    · refine T_exit ?_
      refine thenS_exit ?_
      refine thenS_exit ?_
      refine inB_hit ?_
      refine thenS_normal ?_
      refine T_region ?_
      refine TL_y rfl rfl (Y_move rfl) ?_
      refine TL_y rfl rfl (Y_assign rfl) ?_
      refine TL_nil ?_
      refine T_ret ?_
      obtain rfl : z = xs ++ ys := (by rcases hI with h | h | h; omega; omega; exact h.2)
      exact RetG_1 (.inl rfl) rfl (ResV.tmp rfl) GivesTo.g (⟨X, cx, rfl, rfl⟩)
theorem sortStable_spec {L : List HP} {A : Option Addr} {c n : Nat} {X : List EvP} (hn : n = X.length) (hn2 : n ≤ 2000000000000000) : Fn Try.prog 58 #[.slice A n c, cmV] (oE A c X :: L) (fun v L' => ∃ Y, (v = .tuple #[] ∧ Y.Perm X ∧ SR Y 0 n) ∧ L' = oE A c Y :: L) := by
  refine Fn_enter Try.func58 rfl rfl rfl rfl ?_
  refine T_region_last ?_
  refine TL_y rfl rfl (Y_move rfl) ?_
  refine TL_y rfl rfl (Y_move rfl) ?_
  refine TL_y rfl rfl (Y_len rfl) ?_
  refine TL_y rfl rfl (Y_move rfl) ?_
  refine TL_call rfl rfl (stable_spec hn hn2) ?_
  rintro _ _ ⟨Y, ⟨rfl, hp, hs⟩, rfl⟩
  refine TL_nil ?_
  exact RetG_0 (.inr rfl) rfl GivesTo.g (⟨Y, ⟨rfl, hp, hs⟩, rfl⟩)
/-- What Merge tells. -/
structure MergeC (xs ys zs : List EventD) : Prop where
  perm : zs.Perm (onceC (xs ++ ys))
  inc : zs.Pairwise fun x y => ¬ cmpE y x < 0
theorem mergeC_of {xs ys : List EventD} {zs Y : List EvP} (hz : zs.map Prod.fst = onceC (xs ++ ys)) (hp : Y.Perm zs) (hs : SR Y 0 (Y.map Prod.fst).length) : MergeC xs ys (Y.map Prod.fst) := ⟨by rw [← hz]; exact hp.map _, by
  rw [List.length_map] at hs
  rw [List.pairwise_map]
  refine List.pairwise_iff_getElem.2 fun i j hi hj hij => ?_
  exact hs i j _ _ (Nat.zero_le _) hij (by omega) (List.getElem?_eq_getElem hi) (List.getElem?_eq_getElem hj)⟩
theorem merge_spec {L : List HP} {A B : Option Addr} {c d : Nat} {xs ys : List EventD} (hk : SlK L eventR A c xs) (hk2 : SlK L eventR B d ys) (hl : xs.length + ys.length ≤ 1466015503701) : Fn Try.prog 33 #[.slice A xs.length c, .slice B ys.length d] L (fun v L' => ∃ A' c' zs, v = .slice A' zs.length c' ∧ L' = osl eventR 29 A' c' zs :: L ∧ MergeC xs ys zs) := by
  have hol := onceC_len (xs ++ ys)
  rw [List.length_append] at hol
  refine Fn_enter Try.func33 rfl rfl rfl rfl ?_
  refine T_gives hk2.lay ?_
  refine T_gives hk.tail.lay ?_
  refine T_region ?_
  refine TL_y rfl rfl (Y_assign rfl) ?_
  refine TL_nil ?_
  refine T_region ?_
  refine TL_y rfl rfl (Y_move rfl) ?_
  refine TL_y rfl rfl (Y_move rfl) ?_
  refine TL_build_slice rfl rfl rfl rfl rfl rfl ?_
  intro b8
  refine TL_call rfl rfl (concat_spec hl) ?_
  rintro _ _ ⟨A9, c9, rfl, rfl⟩
  refine TL_freeze_osl ?_
  refine TL_call rfl rfl (once_spec slk (by rw [List.length_append]; exact hl)) ?_
  rintro _ _ ⟨A10, c10, rfl, rfl⟩
  refine TL_y rfl rfl (Y_assign rfl) ?_
  refine TL_nil ?_
  refine T_region ?_
  refine TL_y rfl rfl (Y_move rfl) ?_
  refine TL_evp fun zs hz => ?_
  refine TL_call rfl rfl (sortStable_spec (by rw [← hz, List.length_map]) (by omega)) ?_
  rintro _ _ ⟨Y, ⟨rfl, hp, hs⟩, rfl⟩
  refine TL_gives evp_osl ?_
  refine TL_nil ?_
  refine T_region ?_
  refine TL_y rfl rfl (Y_move rfl) ?_
  refine TL_y rfl rfl (Y_assign rfl) ?_
  refine TL_nil ?_
  refine T_ret ?_
  rw [show (onceC (xs ++ ys)).length = (Y.map Prod.fst).length by rw [List.length_map, hp.length_eq, ← hz, List.length_map]] at *
  exact RetG_1 (.inl rfl) rfl (ResV.tmp rfl) GivesTo.g (⟨A10, c10, Y.map Prod.fst, rfl, rfl, mergeC_of hz hp hs⟩)
end Go.SL
