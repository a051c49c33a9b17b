/- Learner: the law that the prefix only grows. -/
import Derived.Test.YtfmkfpgplpfkhaaLrG
set_option linter.unusedVariables false
set_option linter.unusedSimpArgs false
namespace Go.SL
open Go Go.Proofs
def headE (l : List SlotD) : List EntryD := (l.take (pfx l)).map (·.2)
theorem headE_len {l : List SlotD} (h : LI l) : (headE l).length = pfx l := by
  have := h.spec.1
  simp [headE]; omega
theorem headE_at {l : List SlotD} (h : LI l) {i : Nat} (hi : i < pfx l) : ∃ e, (headE l)[i]? = some e ∧ getM l (i : Int) = some e ∧ (fromL l 0)[i]? = some ((i : Int), e) := by
  obtain ⟨e, he, hg, _⟩ := h.get_at hi
  refine ⟨e, by unfold headE; rw [List.getElem?_map, List.getElem?_take_of_lt hi, he]; rfl, hg, ?_⟩
  unfold fromL
  rw [show (max (0 : Int) 0).toNat = 0 from rfl, List.drop_zero, List.getElem?_take_of_lt hi, he]
theorem fromL_len {l : List SlotD} (h : LI l) : (fromL l 0).length = pfx l := by
  have := h.spec.1
  unfold fromL
  rw [show (max (0 : Int) 0).toNat = 0 from rfl, List.drop_zero, List.length_take]; omega
theorem put_get {l : List SlotD} (h : ND l) {k j : Int} {e u : EntryD} (hk : getM l k = none) (hj : getM l j = some u) : getM (putS l k e) j = some u := by
  rw [← getM_perm (putS_perm hk) (nd_put h k e), getM_cons, del_none hk]
  by_cases hc : k = j
  · rw [hc, hj] at hk; cases hk
  · simp [hc, hj]
theorem choose_get {l : List SlotD} (h : ND l) (k : Int) (e : EntryD) {j : Int} {u : EntryD} (hj : getM l j = some u) : getM (chooseS l k e).1 j = some u := by
  unfold chooseS
  split
  · exact hj
  · split
    · split <;> exact hj
    · rename_i hk
      split
      · exact hj
      · exact put_get h hk hj
theorem choose_pfx {l : List SlotD} (h : LI l) (k : Int) {e : EntryD} (he : orderOk' e.order) : pfx l ≤ pfx (chooseS l k e).1 := by
  have h2 := h.choose k he
  refine Nat.le_of_not_lt fun hlt => h2.gap ?_
  obtain ⟨u, _, hu, _⟩ := headE_at h hlt
  unfold hasK
  rw [choose_get (nd_inc h.inc) k e hu]; rfl
theorem choose_head {l : List SlotD} (h : LI l) (k : Int) {e : EntryD} (he : orderOk' e.order) : headE l = (headE (chooseS l k e).1).take (pfx l) := by
  have h2 := h.choose k he
  have hp := choose_pfx h k he
  apply List.ext_getElem?
  intro i
  by_cases hi : i < pfx l
  · obtain ⟨u, h3, h4, _⟩ := headE_at h hi
    obtain ⟨v, h5, h6, _⟩ := headE_at h2 (i := i) (by omega)
    rw [List.getElem?_take_of_lt hi, h3, h5]
    rw [choose_get (nd_inc h.inc) k e h4] at h6
    exact h6
  · rw [List.getElem?_eq_none (by rw [headE_len h]; omega), List.getElem?_eq_none (by rw [List.length_take]; omega)]
structure GrSt where
  k : Nat
  n : Nat
  hv : List EntryD
  A : Option Addr
  c : Nat
  le : n ≤ k
def grStep : LS GrSt → FromD → LS GrSt → Prop := fun s x s' => s'.1.k = s.1.k + 1 ∧ ((x.1 = (s.1.n : Int) ∧ ∀ e, s.1.hv[s.1.n]? = some e → e = x.2.1) → s'.2 = none ∧ s'.1.n = s.1.n + 1 ∧ s'.1.hv = if s.1.n < s.1.hv.length then s.1.hv else s.1.hv ++ [x.2.1])
theorem gr_runs {E : List EntryD} {h : Nat} {s s' : LS GrSt} {xs : List FromD} (hr : Runs grStep (fun s => !s.2.isNone) s xs s') : ∀ m, s.2 = none → s.1.n = m → s.1.hv = E.take (max m h) → h ≤ E.length → (∀ i x, xs[i]? = some x → x.1 = ((m + i : Nat) : Int) ∧ E[m + i]? = some x.2.1) → s'.2 = none ∧ s'.1.n = m + xs.length ∧ s'.1.hv = E.take (max (m + xs.length) h) := by
  have key : ∀ (s s1 : LS GrSt) (x : FromD) (m : Nat), grStep s x s1 → s.1.n = m → s.1.hv = E.take (max m h) → h ≤ E.length → x.1 = (m : Int) → E[m]? = some x.2.1 → s1.2 = none ∧ s1.1.n = m + 1 ∧ s1.1.hv = E.take (max (m + 1) h) := by
    intro s s1 x m hst hn hv hh hx hE
    have hlt := (List.getElem?_eq_some_iff.1 hE).1
    obtain ⟨a1, a2, a3⟩ := hst.2 ⟨by rw [hn]; exact hx, fun e he => by
      rw [hn, hv] at he
      have h1 := (List.getElem?_eq_some_iff.1 he).1
      rw [List.length_take] at h1
      rw [List.getElem?_take_of_lt (by omega), hE] at he
      exact (Option.some.inj he).symm⟩
    refine ⟨a1, by omega, ?_⟩
    rw [a3, hn, hv, List.length_take]
    by_cases hm : m < h
    · rw [if_pos (by omega), show max m h = max (m + 1) h by omega]
    · rw [if_neg (by omega), show max m h = m by omega, show max (m + 1) h = m + 1 by omega, List.take_add_one, hE]; rfl
  induction hr with
  | nil s => intro m h1 h2 h3 h4 h5; exact ⟨h1, by simpa using h2, by simpa using h3⟩
  | @halt s1 s2 x xs a b =>
    intro m h1 h2 h3 h4 h5
    obtain ⟨g1, g2⟩ := h5 0 x rfl
    obtain ⟨k1, _, _⟩ := key _ _ _ m a h2 h3 h4 g1 g2
    simp [k1] at b
  | @go s1 s2 s3 x xs a b c ih =>
    intro m h1 h2 h3 h4 h5
    obtain ⟨g1, g2⟩ := h5 0 x rfl
    obtain ⟨k1, k2, k3⟩ := key _ _ _ m a h2 h3 h4 g1 g2
    have := ih (m + 1) k1 k2 k3 h4 (fun i y hy => by have := h5 (i + 1) y (by simpa using hy); rwa [show m + 1 + i = m + (i + 1) by omega])
    rw [List.length_cons, show m + (xs.length + 1) = m + 1 + xs.length by omega]
    exact this
theorem from_at {l : List SlotD} (h : LI l) {xs : List FromD} (hp : xs.map fromP <+: fromL l 0) : ∀ i x, xs[i]? = some x → x.1 = ((0 + i : Nat) : Int) ∧ (headE l)[0 + i]? = some x.2.1 := fun i x hx => by
  obtain ⟨t, ht⟩ := hp
  have h1 : (fromL l 0)[i]? = some (fromP x) := by
    rw [← ht, List.getElem?_append_left (by simpa using (List.getElem?_eq_some_iff.1 hx).1), List.getElem?_map, hx]; rfl
  have hi : i < pfx l := by rw [← fromL_len h]; exact (List.getElem?_eq_some_iff.1 h1).1
  obtain ⟨e, h2, _, h3⟩ := headE_at h hi
  rw [h1] at h3
  have h4 := Option.some.inj h3
  have h5 : x.1 = (i : Int) := congrArg Prod.fst h4
  have h6 : x.2.1 = e := congrArg Prod.snd h4
  rw [Nat.zero_add, h5, h6, h2]
  exact ⟨rfl, rfl⟩
structure GwSt where
  i : Nat
  s : List SlotD
  A : Option Addr
  c : Nat
  bs : List Nat
theorem learnerGrows_walk {L : List HP} {A : Option Addr} {c : Nat} {ys : List SlotD} (hk : SlK L slotR A c ys) (hl : LLim ys) : Fn Try.prog 4 #[.slice A ys.length c] L (fun v L' => v = .bool true ∧ L' = L) := by
  have hl1 := hl.1
  refine Fn_enterM Try.func4 rfl rfl rfl rfl ?_
  refine T_gives hk.lay ?_
  refine T_gives owns_nil ?_
  refine T_region ?_
  refine TL_alloc rfl rfl ?_
  intro b2
  refine TL_nil ?_
  refine T_region ?_
  refine TL_call rfl rfl (lrNew_spec _) ?_
  rintro _ _ ⟨b9, rfl, rfl⟩
  refine TL_y rfl rfl (Y_assign rfl) ?_
  refine TL_nil ?_
  refine T_seq ?_
  refine T_region ?_
  refine TL_call rfl rfl (lives18_spec _) ?_
  rintro _ _ ⟨rfl, rfl⟩
  refine TL_name 10 (v' := .bool true) rfl (rfl) ?_
  refine TL_y rfl rfl (Y_not_t rfl) ?_
  refine TL_y rfl rfl (Y_move rfl) ?_
  refine TL_grun rfl rfl ?_
  refine TL_y rfl rfl (Y_move rfl) ?_
  refine TL_grun rfl rfl ?_
  refine TL_y rfl rfl (Y_equal rfl rfl (EqIs.ptr_nil)) ?_
  refine TL_name 14 (v' := .bool false) rfl (by simp) ?_
  refine TL_y rfl rfl (Y_pick_f rfl rfl) ?_
  refine TL_nil ?_
  refine T_cond_false rfl ?_
  refine T_skip ?_
  refine thenS_normal ?_
  refine T_region ?_
  refine TL_alloc rfl rfl ?_
  intro b4
  refine TL_nil ?_
  refine T_seq ?_
  refine T_region ?_
  refine TL_y rfl rfl (Y_assign rfl) ?_
  refine TL_nil ?_
  refine T_block ?_
  refine T_loopKD (σ := GwSt) [0, 2, 3, 4] (fun g => g.i ≤ ys.length ∧ g.i ≤ 2000) (fun g kv => (5, .int .i64 (g.i : Int)) :: kv) (fun g => owns g.bs :: lr b9 g.s :: cells b4 [.slice g.A (headE g.s).length g.c] 48 :: osl entryR 54 g.A g.c (headE g.s) :: cells b2 [.bool false] 4 :: sl slotR A c ys :: L) (fun g => (g.bs).map mark) (fun g => ys.length - g.i) (⟨0, [], none, 0, []⟩) rfl (⟨Nat.zero_le _, Nat.zero_le _⟩) ((osl_nil entryR 54 none _).trans (GivesTo.g (L' := owns [] :: lr b9 [] :: cells b4 [.slice none 0 0] 48 :: osl entryR 54 none 0 [] :: cells b2 [.bool false] 4 :: sl slotR A c ys :: L))) rfl (sub_cons rfl (sub_cons rfl (sub_cons rfl (sub_cons rfl (sub_cons rfl (sub_nil)))))) ?_
  rintro ⟨i, s, A1, c1, bs⟩ ⟨hi, hi2⟩
  dsimp only at hi hi2 ⊢
  refine T_seq ?_
  refine T_region ?_
  refine TL_y rfl rfl (Y_move rfl) ?_
  refine TL_y rfl rfl (Y_move rfl) ?_
  refine TL_y rfl rfl (Y_len rfl) ?_
  refine TL_y rfl rfl (Y_lt rfl rfl) ?_
  refine TL_y rfl rfl (Y_move rfl) ?_
  refine TL_splitd 20 rfl (fun h20 => ?_) (fun h20 => ?_)
  · refine TL_grun rfl rfl ?_
    refine TL_y rfl rfl (Y_move rfl) ?_
    refine TL_grun rfl rfl ?_
    refine TL_y rfl rfl (Y_lt rfl rfl) ?_
    refine TL_y rfl rfl (Y_pick_t rfl rfl) ?_
    refine TL_nil ?_
    refine T_if rfl (fun h23 => ?_) (fun h23 => ?_)
    · refine T_skip ?_
      refine thenS_normal ?_
      refine T_seq ?_
      refine T_block ?_
      obtain ⟨u, hu⟩ : ∃ u, ys[i]? = some u := ⟨_, List.getElem?_eq_getElem (by omega)⟩
      have hlu := hl.2 u (List.mem_of_getElem? hu)
      refine T_at (slk (A := A) (c := c)) hu fun bq oq lq haq => ?_
      refine T_ex fun pq okq => ?_
      simp only [List.cons_append, List.nil_append]
      refine T_pullk b9 ?_
      refine T_lrI fun hli => ?_
      have hli2 := hli.choose u.1 okq.2
      have hcp := choose_pfx hli u.1 okq.2
      have hch := choose_head hli u.1 okq.2
      refine T_region_draw _ [0, 0, 0, 6, 14, 30, 0, 0, 192, 448, 960, 2047] [11] [(0, true), (1, true), (2, true), (3, true), (4, true), (5, true), (6, true), (7, true), (8, true), (9, true), (10, true), (11, false)] (by kernel_rfl) (by decide +kernel) (Gives.refl _) ?_
      refine TF_y rfl rfl (Y_move rfl) ?_
      refine TF_y rfl rfl (Y_move rfl) ?_
      refine TF_y rfl rfl (Y_move rfl) ?_
      refine TF_y rfl rfl (Y_index_at rfl rfl (by omega) haq) ?_
      refine TF_y rfl rfl (Y_field_addr2 rfl) ?_
      refine TF_y rfl rfl (Y_load_row rfl rfl) ?_
      refine TF_y rfl rfl (Y_move rfl) ?_
      refine TF_y rfl rfl (Y_move rfl) ?_
      refine TF_y rfl rfl (Y_index_at rfl rfl (by omega) haq) ?_
      refine TF_y rfl rfl (Y_field_addr2 rfl) ?_
      refine TF_y rfl rfl (Y_load_row_agg (vs := entryC u.2 pq) rfl rfl) ?_
      refine TF_anchor rfl ?_
      refine TL_pullk b9 ?_
      refine TL_call rfl rfl (lrChoose_spec u.1 u.2 okq.1 okq.2 hlu sln) ?_
      rintro _ _ ⟨rfl, rfl⟩
      generalize hS : (chooseS s u.1 u.2).1 = S at hli2 hcp hch ⊢
      refine TF_end_tail rfl ?_
      refine TF_nil ?_
      refine T_region ?_
      refine TL_alloc rfl rfl ?_
      intro b6
      refine TL_store rfl rfl rfl rfl rfl rfl ?_
      refine TL_nil ?_
      refine T_seq ?_
      refine T_region ?_
      refine TL_y rfl rfl (Y_move rfl) ?_
      refine TL_call rfl rfl (lrFrom_spec 0) ?_
      rintro _ _ ⟨bl0, bs0, rfl, rfl⟩
      refine TL_y rfl rfl (Y_equal rfl rfl (EqIs.func_nil)) ?_
      refine TL_name 40 (v' := .bool false) rfl (rfl) ?_
      refine TL_nil ?_
      refine T_cond_false rfl ?_
      refine T_skip ?_
      refine thenS_normal ?_
      refine T_seq ?_
      refine T_region ?_
      refine TL_y rfl rfl (Y_move rfl) ?_
      refine TL_call rfl rfl (lrFrom_spec 0) ?_
      rintro _ _ ⟨bl, bsl, rfl, rfl⟩
      refine TL_nil ?_
      refine T_block ?_
      refine T_range_iter (fun g : GrSt => [cells b6 [.int .i64 (g.n : Int)] 3, cells b4 [.slice g.A g.hv.length g.c] 48, osl entryR 54 g.A g.c g.hv, cells b2 [.bool false] 4]) (grStep) (fun g : GrSt => g.k) (⟨0, 0, headE s, A1, c1, Nat.le_refl _⟩) rfl (from_iter (b := b9) (bl := bl) (bs := bsl) (l := S) (slot := 0) (by decide)) ((show Gives _ ([cells b6 [.int .i64 ((0 : Nat) : Int)] 3, cells b4 [.slice A1 (headE s).length c1] 48, osl entryR 54 A1 c1 (headE s), cells b2 [.bool false] 4] ++ ([lr b9 S, cells bl [.pointer (some ⟨b9, 0, none⟩)] 46, cells bsl [.int .i64 0] 3] ++ (owns bs :: sl slotR A c ys :: L))) from GivesTo.g (L' := cells b6 [.int .i64 ((0 : Nat) : Int)] 3 :: cells b4 [.slice A1 (headE s).length c1] 48 :: osl entryR 54 A1 c1 (headE s) :: cells b2 [.bool false] 4 :: lr b9 S :: cells bl [.pointer (some ⟨b9, 0, none⟩)] 46 :: cells bsl [.int .i64 0] 3 :: owns bs :: sl slotR A c ys :: L))) (by decide) (fun _ => rfl) rfl (fun s x s' h => h.1) (fun l900 b900 g x Lx hx hlt => ?_) (fun m900 xs g hseq hrun => ?_)
      · obtain ⟨kk, nn, hv, A3, c3, hle⟩ := g
        dsimp only at hlt ⊢
        simp only [List.cons_append, List.nil_append]
        refine T_gives (SlK.lay (SlK.of_gives GivesTo.g hx.2.2)) ?_
        try simp only [List.cons_append, List.nil_append]
        refine T_region ?_
        refine TL_y rfl rfl (Y_assign rfl) ?_
        refine TL_nil ?_
        refine T_region_last ?_
        refine TL_alloc rfl rfl ?_
        intro b8
        refine TL_store rfl rfl rfl rfl rfl rfl ?_
        refine TL_nil ?_
        refine ⟨rfl, _, FindHP.g, ?_⟩
        refine T_block ?_
        refine T_seq ?_
        refine Classical.byCases (p := nn < hv.length) (fun hnl => ?_) (fun hnl => ?_)
        · obtain ⟨e0, he0⟩ : ∃ e0, hv[nn]? = some e0 := ⟨_, List.getElem?_eq_getElem hnl⟩
          refine T_focus (A := A3) (c := c3) he0 fun g3 l3 hA3 hl3 => ?_
          subst hA3
          refine T_pull 1 rfl ?_
          refine T_isx (R := entryR) fun p0 hp0 ok0 => ?_
          subst hp0
          simp only [List.cons_append, List.nil_append]
          refine T_region_draw _ [0, 0, 3, 7, 15, 15, 47, 127, 255, 511, 511, 2047, 4095, 511, 16383, 32767, 65535, 131071] [] [(0, true), (1, true), (2, true), (3, true), (4, true), (5, true), (6, true), (7, true), (8, true), (9, true), (10, true), (11, true), (12, true), (13, true), (14, false), (15, true), (16, true), (17, true)] (by kernel_rfl) (by decide +kernel) (Gives.refl _) ?_
          refine TF_y rfl rfl (Y_move rfl) ?_
          refine TF_y rfl rfl (Y_load rfl rfl) ?_
          refine TF_y rfl rfl (Y_ne rfl rfl) ?_
          refine TF_y rfl rfl (Y_move rfl) ?_
          refine TF_splitd 48 rfl (fun h48 => ?_) (fun h48 => ?_)
          · refine TF_gskip rfl rfl rfl rfl rfl ?_
            refine TF_gskip rfl rfl rfl rfl rfl ?_
            refine TF_gskip rfl rfl rfl rfl rfl ?_
            refine TF_gskip rfl rfl rfl rfl rfl ?_
            refine TF_gskip rfl rfl rfl rfl rfl ?_
            refine TF_gskip_u rfl rfl rfl rfl ?_
            refine TF_gskip_u rfl rfl rfl rfl ?_
            refine TF_gskip_u rfl rfl rfl rfl ?_
            refine TF_gskip_u rfl rfl rfl rfl ?_
            refine TF_gskip_u rfl rfl rfl rfl ?_
            refine TF_anchor rfl ?_
            refine TL_gskip_u rfl rfl rfl ?_
            refine TF_end GivesTo.g ?_
            refine TF_gskip_u rfl rfl rfl rfl ?_
            refine TF_gskip rfl rfl rfl rfl rfl ?_
            refine TF_y rfl rfl (Y_pick_t rfl rfl) ?_
            refine TF_nil ?_
            refine T_cond_true rfl ?_
            refine T_unx (R := entryR) g3 e0 (ex_rep p0 (sep_sl slk) ok0) ?_
            rw [set_same he0]
            refine T_region ?_
            refine TL_store rfl rfl rfl rfl rfl rfl ?_
            refine TL_nil ?_
            refine T_ret ?_
            refine thenS_ret ?_
            refine inB_ret ?_
            exact ⟨⟨kk + 1, nn, hv, some ⟨g3, 0, none⟩, c3, by omega⟩, some .ret, rfl, ⟨rfl, fun h => absurd h.1 h48⟩, GivesTo.g⟩
          · refine TF_gy rfl rfl rfl rfl (Y_move rfl) ?_
            refine TF_gy rfl rfl rfl rfl (Y_load rfl rfl) ?_
            refine TF_gy rfl rfl rfl rfl (Y_len rfl) ?_
            refine TF_gy rfl rfl rfl rfl (Y_lt rfl rfl) ?_
            refine TF_name 52 (v' := .bool true) rfl (congrArg Value.bool (decide_eq_true (by omega))) ?_
            refine TF_gy rfl rfl rfl rfl (Y_move rfl) ?_
            refine TF_gy rfl rfl rfl rfl (Y_load rfl rfl) ?_
            refine TF_gy rfl rfl rfl rfl (Y_move rfl) ?_
            refine TF_name 55 (v' := .int .i64 (nn : Int)) rfl (by rw [Classical.not_not.1 h48]) ?_
            refine TF_gy rfl rfl rfl rfl (Y_index_x (R := entryR) (xs := hv) rfl rfl rfl he0) ?_
            refine TF_gy rfl rfl rfl rfl (Y_load_x_agg (vs := entryC e0 p0) rfl rfl) ?_
            refine TF_gy rfl rfl rfl rfl (Y_load_agg rfl rfl) ?_
            refine TF_anchor rfl ?_
            refine TL_grun rfl rfl ?_
            refine TL_call rfl rfl (sameEntry_spec e0 x.2.1 sln (SlN.of_gives GivesTo.g hx.2.2.n)) ?_
            rintro _ _ ⟨rfl, rfl⟩
            refine TF_end GivesTo.g ?_
            refine TF_gy rfl rfl rfl rfl (Y_not_d rfl) ?_
            refine TF_gy rfl rfl rfl rfl (Y_pick_t rfl rfl) ?_
            refine TF_y rfl rfl (Y_pick_f rfl rfl) ?_
            refine TF_nil ?_
            refine T_if rfl (fun h62 => ?_) (fun h62 => ?_)
            · refine T_unx (R := entryR) g3 e0 (ex_rep p0 (sep_sl slk) ok0) ?_
              rw [set_same he0]
              refine T_region ?_
              refine TL_store rfl rfl rfl rfl rfl rfl ?_
              refine TL_nil ?_
              refine T_ret ?_
              refine thenS_ret ?_
              refine inB_ret ?_
              exact ⟨⟨kk + 1, nn, hv, some ⟨g3, 0, none⟩, c3, by omega⟩, some .ret, rfl, ⟨rfl, fun h => absurd (h.2 e0 he0) h62⟩, GivesTo.g⟩
            · refine T_skip ?_
              refine thenS_normal ?_
              refine T_seq ?_
              refine T_unx (R := entryR) g3 e0 (ex_rep p0 (sep_sl slk) ok0) ?_
              rw [set_same he0]
              refine T_region ?_
              refine TL_y rfl rfl (Y_move rfl) ?_
              refine TL_y rfl rfl (Y_load rfl rfl) ?_
              refine TL_y rfl rfl (Y_len rfl) ?_
              refine TL_y rfl rfl (Y_ge rfl rfl) ?_
              refine TL_name 66 (v' := .bool false) rfl (congrArg Value.bool (decide_eq_false (by omega))) ?_
              refine TL_nil ?_
              refine T_cond_false rfl ?_
              refine T_skip ?_
              refine thenS_normal ?_
              refine T_region_last ?_
              refine TL_y rfl rfl (Y_load rfl rfl) ?_
              refine TL_y rfl rfl (Y_add rfl rfl (by omega)) ?_
              refine TL_name 72 (v' := .int .i64 ((nn + 1 : Nat) : Int)) rfl (rfl) ?_
              refine TL_store rfl rfl rfl rfl rfl rfl ?_
              refine TL_nil ?_
              refine inB_normal ?_
              exact ⟨⟨kk + 1, nn + 1, hv, some ⟨g3, 0, none⟩, c3, by omega⟩, none, rfl, ⟨rfl, fun _ => ⟨rfl, rfl, (if_pos hnl).symm⟩⟩, GivesTo.g⟩
        · refine T_region_draw _ [0, 0, 3, 7, 15, 15, 47, 127, 255, 511, 511, 2047, 4095, 511, 16383, 32767, 65535, 131071] [] [(0, true), (1, true), (2, true), (3, true), (4, true), (5, true), (6, true), (7, true), (8, true), (9, true), (10, true), (11, true), (12, true), (13, true), (14, false), (15, true), (16, true), (17, true)] (by kernel_rfl) (by decide +kernel) (Gives.refl _) ?_
          refine TF_y rfl rfl (Y_move rfl) ?_
          refine TF_y rfl rfl (Y_load rfl rfl) ?_
          refine TF_y rfl rfl (Y_ne rfl rfl) ?_
          refine TF_y rfl rfl (Y_move rfl) ?_
          refine TF_splitd 48 rfl (fun h48 => ?_) (fun h48 => ?_)
          · refine TF_gskip rfl rfl rfl rfl rfl ?_
            refine TF_gskip rfl rfl rfl rfl rfl ?_
            refine TF_gskip rfl rfl rfl rfl rfl ?_
            refine TF_gskip rfl rfl rfl rfl rfl ?_
            refine TF_gskip rfl rfl rfl rfl rfl ?_
            refine TF_gskip_u rfl rfl rfl rfl ?_
            refine TF_gskip_u rfl rfl rfl rfl ?_
            refine TF_gskip_u rfl rfl rfl rfl ?_
            refine TF_gskip_u rfl rfl rfl rfl ?_
            refine TF_gskip_u rfl rfl rfl rfl ?_
            refine TF_anchor rfl ?_
            refine TL_gskip_u rfl rfl rfl ?_
            refine TF_end GivesTo.g ?_
            refine TF_gskip_u rfl rfl rfl rfl ?_
            refine TF_gskip rfl rfl rfl rfl rfl ?_
            refine TF_y rfl rfl (Y_pick_t rfl rfl) ?_
            refine TF_nil ?_
            refine T_cond_true rfl ?_
            refine T_region ?_
            refine TL_store rfl rfl rfl rfl rfl rfl ?_
            refine TL_nil ?_
            refine T_ret ?_
            refine thenS_ret ?_
            refine inB_ret ?_
            exact ⟨⟨kk + 1, nn, hv, A3, c3, by omega⟩, some .ret, rfl, ⟨rfl, fun h => absurd h.1 h48⟩, GivesTo.g⟩
          · refine TF_gy rfl rfl rfl rfl (Y_move rfl) ?_
            refine TF_gy rfl rfl rfl rfl (Y_load rfl rfl) ?_
            refine TF_gy rfl rfl rfl rfl (Y_len rfl) ?_
            refine TF_gy rfl rfl rfl rfl (Y_lt rfl rfl) ?_
            refine TF_name 52 (v' := .bool false) rfl (congrArg Value.bool (decide_eq_false (by omega))) ?_
            refine TF_gy rfl rfl rfl rfl (Y_move rfl) ?_
            refine TF_gskip rfl rfl rfl rfl rfl ?_
            refine TF_gskip rfl rfl rfl rfl rfl ?_
            refine TF_gskip rfl rfl rfl rfl rfl ?_
            refine TF_gskip rfl rfl rfl rfl rfl ?_
            refine TF_gskip rfl rfl rfl rfl rfl ?_
            refine TF_anchor rfl ?_
            refine TL_gskip rfl rfl rfl rfl ?_
            refine TF_end GivesTo.g ?_
            refine TF_gskip rfl rfl rfl rfl rfl ?_
            refine TF_gy rfl rfl rfl rfl (Y_pick_f rfl rfl) ?_
            refine TF_y rfl rfl (Y_pick_f rfl rfl) ?_
            refine TF_nil ?_
            refine T_cond_false rfl ?_
            refine T_skip ?_
            refine thenS_normal ?_
            refine T_seq ?_
            refine T_region ?_
            refine TL_y rfl rfl (Y_move rfl) ?_
            refine TL_y rfl rfl (Y_load rfl rfl) ?_
            refine TL_y rfl rfl (Y_len rfl) ?_
            refine TL_y rfl rfl (Y_ge rfl rfl) ?_
            refine TL_name 66 (v' := .bool true) rfl (congrArg Value.bool (decide_eq_true (by omega))) ?_
            refine TL_nil ?_
            refine T_cond_true rfl ?_
            refine T_region_last ?_
            refine TL_y rfl rfl (Y_load rfl rfl) ?_
            refine TL_y rfl rfl (Y_load_agg rfl rfl) ?_
            refine TL_build_slice rfl rfl rfl rfl rfl rfl ?_
            intro b69
            refine TL_osl (k := 1) entryR [x.2.1] (entry_cells x.2.2 slk hx.2.1) rfl (by decide) ?_
            refine TL_freeze_osl ?_
            refine TL_name 69 (v' := .slice (some ⟨b69, 0, none⟩) [x.2.1].length 1) rfl rfl ?_
            refine TL_fact (Knows.of_gives (FindO.g (A := A3) (c := c3)) osl_len) (fun _ h => h) fun hvl => ?_
            simp only [maxEl] at hvl
            refine TL_append rfl rfl rfl rfl rfl slk (by simp only [List.length_cons, List.length_nil]; omega) ?_
            intro A70 c70
            refine TL_store rfl rfl rfl rfl rfl rfl ?_
            refine TL_nil ?_
            refine thenS_normal ?_
            refine T_region_last ?_
            refine TL_y rfl rfl (Y_load rfl rfl) ?_
            refine TL_y rfl rfl (Y_add rfl rfl (by omega)) ?_
            refine TL_name 72 (v' := .int .i64 ((nn + 1 : Nat) : Int)) rfl (rfl) ?_
            refine TL_store rfl rfl rfl rfl rfl rfl ?_
            refine TL_nil ?_
            refine inB_normal ?_
            exact ⟨⟨kk + 1, nn + 1, hv ++ [x.2.1], A70, c70, by omega⟩, none, rfl, ⟨rfl, fun _ => ⟨rfl, rfl, (if_neg hnl).symm⟩⟩, GivesTo.g⟩
      · obtain ⟨⟨k2, n2, hv2, A4, c4, hle2⟩, j⟩ := g
        obtain ⟨hj, hn2, hh2⟩ := gr_runs (E := headE S) (h := pfx s) hrun 0 rfl rfl (by rw [Nat.zero_max]; exact hch) (by rw [headE_len hli2]; exact hcp) (from_at hli2 hseq.2)
        dsimp only at hj hn2 hh2
        subst hj
        have hxl : xs.length = pfx S := by have := congrArg List.length (hseq.1 rfl); rwa [List.length_map, fromL_len hli2] at this
        have hE : hv2 = headE S := by rw [hh2, List.take_of_length_le (by rw [headE_len hli2]; omega)]
        have hN : n2 = pfx S := by omega
        clear hh2 hn2
        subst hE hN
        try simp only [List.cons_append, List.nil_append]
        refine behind_none ?_
        refine inB_normal ?_
        refine thenS_normal ?_
        refine T_owns m900 bs ?_
        refine T_region_draw _ [0, 0, 2, 7, 15, 31, 63, 31, 255, 511] [] [(0, true), (1, true), (2, true), (3, true), (4, true), (5, true), (7, true), (6, false), (8, true), (9, true)] (by kernel_rfl) (by decide +kernel) (Gives.refl _) ?_
        refine TF_y rfl rfl (Y_load rfl rfl) ?_
        refine TF_y rfl rfl (Y_load rfl rfl) ?_
        refine TF_y rfl rfl (Y_len rfl) ?_
        refine TF_y rfl rfl (Y_ne rfl rfl) ?_
        refine TF_name 76 (v' := .bool false) rfl (congrArg Value.bool (decide_eq_false (by rw [headE_len hli2]; simp))) ?_
        refine TF_y rfl rfl (Y_move rfl) ?_
        refine TF_gy rfl rfl rfl rfl (Y_move rfl) ?_
        refine TF_gy rfl rfl rfl rfl (Y_load rfl rfl) ?_
        refine TF_anchor rfl ?_
        refine TL_grun rfl rfl ?_
        refine TL_pullk b9 ?_
        refine TL_call rfl rfl (lrPrefix_spec) ?_
        rintro _ _ ⟨rfl, rfl⟩
        refine TF_end GivesTo.g ?_
        refine TF_gy rfl rfl rfl rfl (Y_ne rfl rfl) ?_
        refine TF_name 81 (v' := .bool false) rfl (congrArg Value.bool (decide_eq_false (by simp))) ?_
        refine TF_y rfl rfl (Y_pick_f rfl rfl) ?_
        refine TF_nil ?_
        refine T_cond_false rfl ?_
        refine T_skip ?_
        refine inB_normal ?_
        refine thenS_normal ?_
        refine T_region_last ?_
        refine TL_y rfl rfl (Y_move rfl) ?_
        refine TL_y rfl rfl (Y_add rfl rfl (by omega)) ?_
        refine TL_name 25 (v' := .int .i64 ((i + 1 : Nat) : Int)) rfl (rfl) ?_
        refine TL_y rfl rfl (Y_assign rfl) ?_
        refine TL_nil ?_
        refine thenS_normal ?_
        exact ⟨⟨i + 1, S, A4, c4, m900 :: bs⟩, ⟨by simp only; omega, by simp only; omega⟩, by simp only; omega, holds_to (sub_cons rfl (sub_cons rfl (sub_cons rfl (sub_cons rfl (sub_cons rfl (sub_nil)))))) GivesTo.g⟩
    · refine T_exit ?_
      refine thenS_exit ?_
      refine thenS_exit ?_
      refine inB_hit ?_
      refine thenS_normal ?_
      refine T_region ?_
      refine TL_store rfl rfl rfl rfl rfl rfl ?_
      refine TL_nil ?_
      refine T_ret ?_
      refine retMs ?_
      exact RetG_1 (.inl rfl) rfl (ResV.cell rfl rfl) GivesTo.g (⟨rfl, rfl⟩)
  · refine TL_gskip rfl rfl rfl rfl ?_
    refine TL_gskip rfl rfl rfl rfl ?_
    refine TL_y rfl rfl (Y_pick_f rfl rfl) ?_
    refine TL_nil ?_
    refine T_cond_false rfl ?_
    refine T_exit ?_
    refine thenS_exit ?_
    refine thenS_exit ?_
    refine inB_hit ?_
    refine thenS_normal ?_
    refine T_region ?_
    refine TL_store rfl rfl rfl rfl rfl rfl ?_
    refine TL_nil ?_
    refine T_ret ?_
    refine retMs ?_
    exact RetG_1 (.inl rfl) rfl (ResV.cell rfl rfl) GivesTo.g (⟨rfl, rfl⟩)
end Go.SL
