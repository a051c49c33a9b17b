/- Dots: version vectors. -/
import Derived.Test.YtooadkecmchpaaaDtA
import Derived.Test.YtooadkecmchpaaaSlX
import Derived.Test.YtooadkecmchpaaaIntsA
set_option linter.unusedVariables false
set_option linter.unusedSimpArgs false
namespace Go.SL
open Go Go.Proofs
abbrev dotC (d : DotD) : List Value := [.int .i64 d.1, .int .i64 d.2]
abbrev dotV (d : DotD) : Value := .agg (List.toArray (dotC d))
def dotOk (d : DotD) : Prop := intIn .i64 d.1 ∧ intIn .i64 d.2
def dotR : Rep DotD := ⟨2, fun _ a cs => cs = dotC a ∧ dotOk a, fun _ h => h, fun h => by rw [h.1]; rfl, fun h v hv => by rw [h.1] at hv; simp at hv; rcases hv with rfl | rfl <;> rfl⟩
instance : RepF dotR dotC := ⟨fun _ _ _ h => h.1⟩
theorem ofV_at {v : List Int} {i : Nat} {x : Int} (h : v[i]? = some x) : ofV v (i : Int) = x := by
  unfold ofV; rw [if_neg (by omega), Int.toNat_natCast, h]; rfl
theorem ofV_out {v : List Int} {o : Int} (h : o < 0 ∨ (v.length : Int) ≤ o) : ofV v o = 0 := by
  unfold ofV
  split
  · rfl
  · rw [List.getElem?_eq_none (by omega)]; rfl
theorem vvOf_spec {L : List HP} {A : Option Addr} {c : Nat} {xs : List Int} (hk : SlN L (intR .i64) A c xs) (o : Int) : Fn Try.prog 77 #[.slice A xs.length c, .int .i64 o] L (fun v L' => v = .int .i64 (ofV xs o) ∧ L' = L) := by
  refine Fn_enter Try.func77 rfl rfl rfl rfl ?_
  refine T_region ?_
  refine TL_y rfl rfl (Y_assign rfl) ?_
  refine TL_nil ?_
  refine T_seq ?_
  refine T_region ?_
  refine TL_y rfl rfl (Y_move rfl) ?_
  refine TL_y rfl rfl (Y_lt rfl rfl) ?_
  refine TL_both 6 12 (o < 0 ∨ (xs.length : Int) ≤ o) ?_ ?_
  · refine TL_y rfl rfl (Y_move rfl) ?_
    refine TL_splitd 7 rfl (fun h7 => ?_) (fun h7 => ?_)
    · refine TL_gskip rfl rfl rfl rfl ?_
      refine TL_gskip rfl rfl rfl rfl ?_
      refine TL_gskip rfl rfl rfl rfl ?_
      refine TL_gskip rfl rfl rfl rfl ?_
      refine TL_y rfl rfl (Y_pick_t rfl rfl) ?_
      refine TL_chain_end rfl ?_ (by repeat (first | exact sub_refl | refine sub_ext rfl ?_)) GivesTo.g
      exact congrArg Value.bool (decide_eq_true (by omega)).symm
    · refine TL_grun rfl rfl ?_
      refine TL_y rfl rfl (Y_move rfl) ?_
      refine TL_grun rfl rfl ?_
      refine TL_y rfl rfl (Y_move rfl) ?_
      refine TL_grun rfl rfl ?_
      refine TL_y rfl rfl (Y_len rfl) ?_
      refine TL_grun rfl rfl ?_
      refine TL_y rfl rfl (Y_ge rfl rfl) ?_
      refine TL_y rfl rfl (Y_pick_f rfl rfl) ?_
      refine TL_chain_end rfl ?_ (by repeat (first | exact sub_refl | refine sub_ext rfl ?_)) GivesTo.g
      exact congrArg Value.bool (decide_eq_decide.2 (by omega))
  refine TL_nil ?_
  refine T_if rfl (fun h12 => ?_) (fun h12 => ?_)
  · refine T_region ?_
    refine TL_y rfl rfl (Y_assign rfl) ?_
    refine TL_nil ?_
    refine T_ret ?_
    refine thenS_ret ?_
    exact RetG_1 (.inl rfl) rfl (ResV.tmp rfl) GivesTo.g (⟨by rw [ofV_out h12], rfl⟩)
  · refine T_skip ?_
    refine thenS_normal ?_
    obtain ⟨i, rfl⟩ : ∃ i : Nat, o = (i : Int) := ⟨o.toNat, by omega⟩
    obtain ⟨x, hx⟩ : ∃ x, xs[i]? = some x := ⟨_, List.getElem?_eq_getElem (by omega)⟩
    refine T_addr_n hk hx fun b1 o1 e1 => ?_
    subst e1
    refine T_region ?_
    refine TL_y rfl rfl (Y_move rfl) ?_
    refine TL_y rfl rfl (Y_move rfl) ?_
    refine TL_y rfl rfl (Y_index_n (R := intR .i64) (xs := xs) rfl rfl rfl hx) ?_
    refine TL_y rfl rfl (Y_load_n (q := 0) rfl hk hx rfl) ?_
    refine TL_y rfl rfl (Y_assign rfl) ?_
    refine TL_nil ?_
    refine T_ret ?_
    exact RetG_1 (.inl rfl) rfl (ResV.tmp rfl) GivesTo.g (⟨by rw [ofV_at hx], rfl⟩)
theorem vvHas_spec {L : List HP} {A : Option Addr} {c : Nat} {xs : List Int} (hk : SlN L (intR .i64) A c xs) (d : DotD) : Fn Try.prog 35 #[.slice A xs.length c, dotV d] L (fun v L' => v = .bool (decide (hasV xs d)) ∧ L' = L) := by
  refine Fn_enter Try.func35 rfl rfl rfl rfl ?_
  refine T_region ?_
  refine TL_box rfl rfl rfl ?_
  intro b3
  refine TL_y rfl rfl (Y_assign rfl) ?_
  refine TL_nil ?_
  refine T_region_draw _ [0, 1, 3, 7, 15, 31, 15, 15, 143, 463, 1023, 2047, 4095] [] [(0, true), (1, true), (2, true), (3, true), (4, true), (5, true), (6, true), (7, true), (8, true), (9, false), (10, true), (11, true), (12, true)] (by kernel_rfl) (by decide +kernel) (Gives.refl _) ?_
  refine TF_y rfl rfl (Y_field_addr rfl) ?_
  refine TF_y rfl rfl (Y_load rfl rfl) ?_
  refine TF_y rfl rfl (Y_gt rfl rfl) ?_
  refine TF_y rfl rfl (Y_move rfl) ?_
  refine TF_splitd 8 rfl (fun h8 => ?_) (fun h8 => ?_)
  · refine TF_gy rfl rfl rfl rfl (Y_field_addr rfl) ?_
    refine TF_gy rfl rfl rfl rfl (Y_load rfl rfl) ?_
    refine TF_gy rfl rfl rfl rfl (Y_move rfl) ?_
    refine TF_gy rfl rfl rfl rfl (Y_field_addr rfl) ?_
    refine TF_gy rfl rfl rfl rfl (Y_load rfl rfl) ?_
    refine TF_anchor rfl ?_
    refine TL_grun rfl rfl ?_
    refine TL_call rfl rfl (vvOf_spec hk.tail d.1) ?_
    rintro _ _ ⟨rfl, rfl⟩
    refine TF_end GivesTo.g ?_
    refine TF_gy rfl rfl rfl rfl (Y_le rfl rfl) ?_
    refine TF_y rfl rfl (Y_pick_t rfl rfl) ?_
    refine TF_y rfl rfl (Y_assign rfl) ?_
    refine TF_nil ?_
    refine T_ret ?_
    exact RetG_1 (.inl rfl) rfl (ResV.tmp rfl) GivesTo.g (⟨congrArg Value.bool (decide_eq_decide.2 ⟨fun h => ⟨by omega, h⟩, fun h => h.2⟩), rfl⟩)
  · refine TF_gskip rfl rfl rfl rfl rfl ?_
    refine TF_gskip rfl rfl rfl rfl rfl ?_
    refine TF_gskip rfl rfl rfl rfl rfl ?_
    refine TF_gskip rfl rfl rfl rfl rfl ?_
    refine TF_gskip rfl rfl rfl rfl rfl ?_
    refine TF_anchor rfl ?_
    refine TL_gskip rfl rfl rfl rfl ?_
    refine TF_end GivesTo.g ?_
    refine TF_gskip rfl rfl rfl rfl rfl ?_
    refine TF_y rfl rfl (Y_pick_f rfl rfl) ?_
    refine TF_y rfl rfl (Y_assign rfl) ?_
    refine TF_nil ?_
    refine T_ret ?_
    exact RetG_1 (.inl rfl) rfl (ResV.tmp rfl) GivesTo.g (⟨congrArg Value.bool (decide_eq_false fun h => by have := h.1; omega).symm, rfl⟩)
theorem vvPlain_spec {L : List HP} {A : Option Addr} {c : Nat} {xs : List Int} (hk : SlN L (intR .i64) A c xs) (hb : xs.length ≤ 17592186043904) : Fn Try.prog 61 #[.slice A xs.length c] L (fun v L' => ∃ A' c', v = .slice A' (plainV xs).length c' ∧ L' = osl (intR .i64) 3 A' c' (plainV xs) :: L) := by
  refine Fn_enter Try.func61 rfl rfl rfl rfl ?_
  refine hk.lens fun hl => ?_
  refine T_region ?_
  refine TL_y rfl rfl (Y_assign rfl) ?_
  refine TL_nil ?_
  refine T_region ?_
  refine TL_y rfl rfl (Y_move rfl) ?_
  refine TL_y rfl rfl (Y_len rfl) ?_
  refine TL_y rfl rfl (Y_assign rfl) ?_
  refine TL_nil ?_
  refine T_seq ?_
  refine T_block ?_
  refine T_loopK (σ := Nat) [0] (fun e => e ≤ xs.length ∧ ∀ x ∈ xs.drop e, x = 0) (fun e kv => (3, .int .i64 (e : Int)) :: kv) (fun e => L) (fun e => e) (xs.length) rfl (⟨Nat.le_refl _, by simp⟩) (GivesTo.g) (sub_cons rfl (sub_cons rfl (sub_nil))) ?_
  rintro e ⟨he, hz⟩
  refine T_seq ?_
  refine T_region ?_
  refine TL_y rfl rfl (Y_move rfl) ?_
  refine TL_y rfl rfl (Y_gt rfl rfl) ?_
  refine TL_y rfl rfl (Y_move rfl) ?_
  refine TL_splitd 8 rfl (fun h8 => ?_) (fun h8 => ?_)
  · refine TL_grun rfl rfl ?_
    refine TL_y rfl rfl (Y_move rfl) ?_
    refine TL_grun rfl rfl ?_
    refine TL_y rfl rfl (Y_move rfl) ?_
    refine TL_grun rfl rfl ?_
    obtain ⟨q, hq⟩ : ∃ q, xs[e - 1]? = some q := ⟨_, List.getElem?_eq_getElem (by omega)⟩
    refine TL_y rfl rfl (Y_sub rfl rfl (by omega)) ?_
    refine TL_name 11 (v' := .int .i64 ((e - 1 : Nat) : Int)) rfl (by congr 1; omega) ?_
    refine TL_grun rfl rfl ?_
    refine TL_index_n rfl rfl rfl rfl hk hq ?_
    intro bn12 on12 hA12 hk12
    have hu12 := hq
    refine TL_grun rfl rfl ?_
    refine TL_y rfl rfl (Y_load_n rfl hk12 hu12 rfl) ?_
    refine TL_grun rfl rfl ?_
    refine TL_y rfl rfl (Y_eq rfl rfl) ?_
    refine TL_y rfl rfl (Y_pick_t rfl rfl) ?_
    refine TL_nil ?_
    refine T_if rfl (fun h15 => ?_) (fun h15 => ?_)
    · refine T_skip ?_
      refine thenS_normal ?_
      refine T_block ?_
      refine T_region_last ?_
      refine TL_y rfl rfl (Y_move rfl) ?_
      refine TL_y rfl rfl (Y_sub rfl rfl (by omega)) ?_
      refine TL_name 17 (v' := .int .i64 ((e - 1 : Nat) : Int)) rfl (by congr 1; omega) ?_
      refine TL_y rfl rfl (Y_assign rfl) ?_
      refine TL_nil ?_
      refine inB_normal ?_
      refine thenS_normal ?_
      exact ⟨e - 1, ⟨by omega, by rw [show e - 1 = e - 1 from rfl, List.drop_eq_getElem_cons (show e - 1 < xs.length by omega), show e - 1 + 1 = e by omega]; intro x hx; rcases List.mem_cons.1 hx with rfl | hx; (have := (List.getElem?_eq_some_iff.1 hq).2; rw [this]; exact h15); exact hz x hx⟩, by omega, holds_to (sub_cons rfl (sub_cons rfl (sub_nil))) GivesTo.g⟩
    · refine T_exit ?_
      refine thenS_exit ?_
      refine thenS_exit ?_
      refine inB_hit ?_
      refine thenS_normal ?_
      have hp : plainV xs = xs.take e := plain_take he hz (.inr ⟨q, hq, h15⟩)
      have hle : (xs.take e).length = e := by rw [List.length_take]; omega
      refine T_region ?_
      refine TL_y rfl rfl (Y_move rfl) ?_
      refine TL_y rfl rfl (Y_move rfl) ?_
      refine TL_y rfl rfl (Y_move rfl) ?_
      refine TL_y rfl rfl (Y_cut_hm rfl rfl rfl (by omega)) ?_
      refine TL_name 21 (v' := .slice A (xs.take e).length (xs.take e).length) rfl (by rw [hle]; rfl) ?_
      refine TL_call rfl rfl (cloneN_spec ((hk.take e).cap) (by omega)) ?_
      rintro _ _ ⟨A22, c22, rfl, rfl⟩
      refine TL_y rfl rfl (Y_assign rfl) ?_
      refine TL_nil ?_
      refine T_ret ?_
      rw [hp]
      exact RetG_1 (.inl rfl) rfl (ResV.tmp rfl) GivesTo.g (⟨A22, c22, rfl, rfl⟩)
  · refine TL_gskip rfl rfl rfl rfl ?_
    refine TL_gskip rfl rfl rfl rfl ?_
    refine TL_gskip rfl rfl rfl rfl ?_
    refine TL_gskip rfl rfl rfl rfl ?_
    refine TL_gskip rfl rfl rfl rfl ?_
    refine TL_gskip rfl rfl rfl rfl ?_
    refine TL_y rfl rfl (Y_pick_f rfl rfl) ?_
    refine TL_name 15 (v' := .bool false) rfl (by simp) ?_
    refine TL_nil ?_
    refine T_cond_false rfl ?_
    refine T_exit ?_
    refine thenS_exit ?_
    refine thenS_exit ?_
    refine inB_hit ?_
    refine thenS_normal ?_
    have hp : plainV xs = xs.take e := plain_take he hz (.inl (by omega))
    have hle : (xs.take e).length = e := by rw [List.length_take]; omega
    refine T_region ?_
    refine TL_y rfl rfl (Y_move rfl) ?_
    refine TL_y rfl rfl (Y_move rfl) ?_
    refine TL_y rfl rfl (Y_move rfl) ?_
    refine TL_y rfl rfl (Y_cut_hm rfl rfl rfl (by omega)) ?_
    refine TL_name 21 (v' := .slice A (xs.take e).length (xs.take e).length) rfl (by rw [hle]; rfl) ?_
    refine TL_call rfl rfl (cloneN_spec ((hk.take e).cap) (by omega)) ?_
    rintro _ _ ⟨A22, c22, rfl, rfl⟩
    refine TL_y rfl rfl (Y_assign rfl) ?_
    refine TL_nil ?_
    refine T_ret ?_
    rw [hp]
    exact RetG_1 (.inl rfl) rfl (ResV.tmp rfl) GivesTo.g (⟨A22, c22, rfl, rfl⟩)
/-! ### The dots between two vectors -/
def betO (a b : List Int) (o : Nat) : List DotD := (List.range ((b[o]?).getD 0 - max (ofV a o) 0).toNat).map fun i : Nat => ((o : Int), max (ofV a o) 0 + 1 + (i : Int))
def betL (a b : List Int) : List DotD := (List.range b.length).flatMap (betO a b)
theorem betO_at {a b : List Int} {o j : Nat} (h : j < ((b[o]?).getD 0 - max (ofV a o) 0).toNat) : (betO a b o)[j]? = some ((o : Int), max (ofV a o) 0 + 1 + (j : Int)) := by simp [betO, h]
theorem betO_len {a b : List Int} {o : Nat} : (betO a b o).length = ((b[o]?).getD 0 - max (ofV a o) 0).toNat := by simp [betO]
abbrev betP (a b : List Int) (i : Nat) : List DotD := (List.range i).flatMap (betO a b)
theorem betP_succ (a b : List Int) (i : Nat) : betP a b (i + 1) = betP a b i ++ betO a b i := by simp [betP, List.range_succ, List.flatMap_append]
theorem betP_pre {a b : List Int} {i : Nat} (h : i ≤ b.length) : betP a b i <+: betL a b := by
  unfold betL betP
  rw [show b.length = i + (b.length - i) by omega, List.range_add, List.flatMap_append]
  exact List.prefix_append _ _
theorem flat_pre {β γ : Type} (f : β → List γ) {l1 l2 : List β} (h : l1 <+: l2) : l1.flatMap f <+: l2.flatMap f := by
  obtain ⟨t, rfl⟩ := h
  rw [List.flatMap_append]
  exact List.prefix_append _ _
theorem between_spec {L : List HP} {A B : Option Addr} {c d : Nat} {a b : List Int} (ha : SlN L (intR .i64) A c a) (hb : SlN L (intR .i64) B d b) (hla : a.length ≤ 17592186043904) (hlb : b.length ≤ 17592186043904) : Fn Try.prog 63 #[.slice A a.length c, .slice B b.length d] L (fun v L' => ∃ bx by_ X cx Y cy, v = .func (.func 102) #[] #[.pointer (some ⟨by_, 0, none⟩), .pointer (some ⟨bx, 0, none⟩)] ∧ L' = cells bx [.slice X a.length cx] 38 :: osl (intR .i64) 3 X cx a :: cells by_ [.slice Y b.length cy] 38 :: osl (intR .i64) 3 Y cy b :: L) := by
  refine Fn_enter Try.func63 rfl rfl rfl rfl ?_
  refine T_region ?_
  refine TL_y rfl rfl (Y_assign rfl) ?_
  refine TL_nil ?_
  refine T_region ?_
  refine TL_y rfl rfl (Y_move rfl) ?_
  refine TL_call rfl rfl (cloneN_spec ha hla) ?_
  rintro _ _ ⟨X, cx, rfl, rfl⟩
  refine TL_y rfl rfl (Y_move rfl) ?_
  refine TL_call rfl rfl (cloneN_spec hb.tail hlb) ?_
  rintro _ _ ⟨Y, cy, rfl, rfl⟩
  refine TL_alloc rfl rfl ?_
  intro b5
  refine TL_alloc rfl rfl ?_
  intro b6
  refine TL_store rfl rfl rfl rfl rfl rfl ?_
  refine TL_store rfl rfl rfl rfl rfl rfl ?_
  refine TL_nil ?_
  refine T_region ?_
  refine TL_y rfl rfl (Y_make_func rfl rfl) ?_
  refine TL_y rfl rfl (Y_assign rfl) ?_
  refine TL_nil ?_
  refine T_ret ?_
  exact RetG_1 (.inl rfl) rfl (ResV.tmp rfl) GivesTo.g (⟨b5, b6, X, cx, Y, cy, rfl, rfl⟩)
abbrev btL (bx by_ : Nat) (X : Option Addr) (cx : Nat) (Y : Option Addr) (cy : Nat) (a b : List Int) : List HP := [cells bx [.slice X a.length cx] 38, osl (intR .i64) 3 X cx a, cells by_ [.slice Y b.length cy] 38, osl (intR .i64) 3 Y cy b]
theorem between1_spec {bx by_ : Nat} {X Y : Option Addr} {cx cy : Nat} {a b : List Int}
    {τ : Type} {l : Nat} {C : τ → HP} {step : τ → DotD → τ → Prop} {stop : τ → Bool} {cnt : τ → Nat} {s0 : τ} {Lx : List HP} (h0 : stop s0 = false) (hc0 : cnt s0 = 0) (hcnt : ∀ s x s', step s x s' → cnt s' = cnt s + 1) (hy : YieldsC Try.prog l C (fun d : DotD => [dotV d]) dotOk step stop cnt (betL a b).length) :
    Fn Try.prog 102 #[.func (.yield l) #[] #[], .pointer (some ⟨by_, 0, none⟩), .pointer (some ⟨bx, 0, none⟩)] (con l (C s0) :: cells bx [.slice X a.length cx] 38 :: osl (intR .i64) 3 X cx a :: cells by_ [.slice Y b.length cy] 38 :: osl (intR .i64) 3 Y cy b :: Lx)
      (fun v L' => ∃ xs s', ((stop s' = false → xs = betL a b) ∧ xs <+: betL a b) ∧ Runs step stop s0 xs s' ∧ L' = con l (C s') :: cells bx [.slice X a.length cx] 38 :: osl (intR .i64) 3 X cx a :: cells by_ [.slice Y b.length cy] 38 :: osl (intR .i64) 3 Y cy b :: Lx) := by
  refine Fn_enter Try.func102 rfl rfl rfl rfl ?_
  refine (sln (A := Y) (c := cy) (xs := b)).lens fun hlb => ?_
  simp only [maxEl] at hlb
  refine T_region ?_
  refine TL_y rfl rfl (Y_load rfl rfl) ?_
  refine TL_y rfl rfl (Y_len rfl) ?_
  refine TL_y rfl rfl (Y_move rfl) ?_
  refine TL_nil ?_
  refine T_block ?_
  refine T_loopK (σ := Nat × τ) [0, 2, 7, 8] (fun g => g.1 ≤ b.length ∧ Runs step stop s0 (betP a b g.1) g.2 ∧ stop g.2 = false ∧ cnt g.2 = (betP a b g.1).length) (fun g kv => (9, .int .i64 (g.1 : Int)) :: kv) (fun g => con l (C g.2) :: cells bx [.slice X a.length cx] 38 :: osl (intR .i64) 3 X cx a :: cells by_ [.slice Y b.length cy] 38 :: osl (intR .i64) 3 Y cy b :: Lx) (fun g => b.length - g.1) ((0, s0)) rfl (⟨Nat.zero_le _, .nil _, h0, hc0⟩) (GivesTo.g) (sub_cons rfl (sub_cons rfl (sub_cons rfl (sub_cons rfl (sub_cons rfl (sub_nil)))))) ?_
  rintro ⟨i, st⟩ ⟨hi, hr, hs, hc⟩
  dsimp only at hi hr hs hc ⊢
  refine T_region ?_
  refine TL_y rfl rfl (Y_lt rfl rfl) ?_
  refine TL_nil ?_
  refine T_seq ?_
  refine T_if rfl (fun h10 => ?_) (fun h10 => ?_)
  · refine T_skip ?_
    refine thenS_normal ?_
    refine T_seq ?_
    refine T_block ?_
    refine T_region ?_
    refine TL_y rfl rfl (Y_move rfl) ?_
    obtain ⟨n, hn⟩ : ∃ n, b[i]? = some n := ⟨_, List.getElem?_eq_getElem (by omega)⟩
    refine TL_elem_fact (sln (A := Y) (c := cy) (xs := b)) hn (fun M l h => h.2) fun hn64 => ?_
    have hn64' := i64In hn64
    refine TL_index_n rfl rfl rfl (rfl) ((sln (A := Y) (c := cy) (xs := b))) (hn) ?_
    intro bn12 on12 hA12 hk12
    have hu12 := hn
    refine TL_y rfl rfl (Y_load_n rfl hk12 hu12 rfl) ?_
    refine TL_y rfl rfl (Y_assign rfl) ?_
    refine TL_y rfl rfl (Y_assign rfl) ?_
    refine TL_nil ?_
    refine T_region ?_
    refine TL_y rfl rfl (Y_load rfl rfl) ?_
    refine TL_y rfl rfl (Y_move rfl) ?_
    refine TL_call rfl rfl (vvOf_spec (sln (A := X) (c := cx) (xs := a)) (i : Int)) ?_
    rintro _ _ ⟨rfl, rfl⟩
    refine TL_y rfl rfl (Y_max rfl rfl) ?_
    obtain ⟨mx, hmx⟩ : ∃ mx : Int, mx = max (ofV a (i : Int)) 0 := ⟨_, rfl⟩
    rw [← hmx]
    have hbl : (betO a b i).length = (n - mx).toNat := by rw [betO_len, hn, hmx]; rfl
    refine TL_y rfl rfl (Y_assign rfl) ?_
    refine TL_nil ?_
    refine T_block ?_
    refine T_loopK (σ := Nat × τ) [0, 2, 4, 5, 7, 8, 9] (fun g => g.1 ≤ (betO a b i).length ∧ Runs step stop s0 (betP a b i ++ (betO a b i).take g.1) g.2 ∧ stop g.2 = false ∧ cnt g.2 = (betP a b i).length + g.1) (fun g kv => (6, .int .i64 (mx + (g.1 : Int))) :: kv) (fun g => con l (C g.2) :: cells bx [.slice X a.length cx] 38 :: osl (intR .i64) 3 X cx a :: cells by_ [.slice Y b.length cy] 38 :: osl (intR .i64) 3 Y cy b :: Lx) (fun g => (betO a b i).length - g.1) ((0, st)) rfl (⟨Nat.zero_le _, by simpa using hr, hs, hc⟩) (GivesTo.g) (sub_cons (by show some (Value.int .i64 mx) = some (Value.int .i64 (mx + ((0 : Nat) : Int))); simp) (sub_cons rfl (sub_cons rfl (sub_cons rfl (sub_cons rfl (sub_cons rfl (sub_cons rfl (sub_cons rfl (sub_nil))))))))) ?_
    rintro ⟨j, st2⟩ ⟨hj, hr2, hs2, hc2⟩
    dsimp only at hj hr2 hs2 hc2 ⊢
    refine T_seq ?_
    refine T_region ?_
    refine TL_y rfl rfl (Y_move rfl) ?_
    refine TL_y rfl rfl (Y_move rfl) ?_
    refine TL_y rfl rfl (Y_lt rfl rfl) ?_
    refine TL_nil ?_
    refine T_if rfl (fun h20 => ?_) (fun h20 => ?_)
    · refine T_skip ?_
      refine thenS_normal ?_
      refine T_seq ?_
      refine T_block ?_
      have hat : (betO a b i)[j]? = some ((i : Int), mx + 1 + (j : Int)) := by rw [betO_at (by rw [← betO_len]; omega), ← hmx]
      have hlt : (betP a b i).length + j < (betL a b).length := by have h1 := betP_pre (a := a) (b := b) (i := i + 1) (by omega); have h2 := h1.length_le; rw [betP_succ, List.length_append] at h2; omega
      refine T_region ?_
      refine TL_y rfl rfl (Y_move rfl) ?_
      refine TL_y rfl rfl (Y_move rfl) ?_
      refine TL_y rfl rfl (Y_move rfl) ?_
      refine TL_y rfl rfl (Y_add rfl rfl (by omega)) ?_
      refine TL_name 26 (v' := .int .i64 (mx + 1 + (j : Int))) rfl (by congr 1; omega) ?_
      refine TL_y rfl rfl (Y_build rfl rfl) ?_
      refine TL_pullk l ?_
      refine TL_yield rfl rfl rfl (hy st2 ((i : Int), mx + 1 + (j : Int)) _ hs2 ⟨i64In_mk (by omega), i64In_mk (by omega)⟩ (by omega)) ?_
      rintro _ _ ⟨s3, hst, rfl, rfl⟩
      have hr3 := hr2.snoc h0 hs2 hst
      rw [List.append_assoc, ← takeAt hat] at hr3
      refine TL_y rfl rfl (Y_not rfl) ?_
      refine TL_nil ?_
      refine T_cond rfl (fun h29 => ?_) (fun h29 => ?_)
      · have hs3 : stop s3 = true := by simpa using h29
        refine T_ret ?_
        refine inB_ret ?_
        refine thenS_ret ?_
        refine thenS_ret ?_
        refine inB_ret ?_
        refine inB_ret ?_
        refine thenS_ret ?_
        refine thenS_ret ?_
        refine inB_ret ?_
        have hpre : (betP a b i ++ (betO a b i).take (j + 1)) <+: betL a b := by refine List.IsPrefix.trans ?_ (betP_pre (a := a) (b := b) (i := i + 1) (by omega)); rw [betP_succ]; exact (List.prefix_append_right_inj _).2 (List.take_prefix _ _)
        exact RetG_0 (.inl rfl) rfl GivesTo.g (⟨_, s3, ⟨fun h => (by rw [hs3] at h; cases h), hpre⟩, hr3, rfl⟩)
      · have hs3 : stop s3 = false := by simpa using h29
        refine T_skip ?_
        refine inB_normal ?_
        refine thenS_normal ?_
        refine T_region_last ?_
        refine TL_y rfl rfl (Y_move rfl) ?_
        refine TL_y rfl rfl (Y_add rfl rfl (by omega)) ?_
        refine TL_name 22 (v' := .int .i64 (mx + ((j + 1 : Nat) : Int))) rfl (by congr 1; omega) ?_
        refine TL_y rfl rfl (Y_assign rfl) ?_
        refine TL_nil ?_
        refine thenS_normal ?_
        exact ⟨(j + 1, s3), ⟨by simp only; omega, hr3, hs3, by dsimp only; rw [hcnt _ _ _ hst, hc2]; omega⟩, by simp only; omega, holds_to (sub_cons rfl (sub_cons rfl (sub_cons rfl (sub_cons rfl (sub_cons rfl (sub_cons rfl (sub_cons rfl (sub_cons rfl (sub_nil))))))))) GivesTo.g⟩
    · refine T_exit ?_
      refine thenS_exit ?_
      refine thenS_exit ?_
      refine inB_hit ?_
      refine inB_normal ?_
      refine thenS_normal ?_
      have hje : j = (betO a b i).length := by omega
      subst hje
      rw [List.take_length, ← betP_succ] at hr2
      refine T_region_last ?_
      refine TL_y rfl rfl (Y_add rfl rfl (by omega)) ?_
      refine TL_name 30 (v' := .int .i64 ((i + 1 : Nat) : Int)) rfl (rfl) ?_
      refine TL_y rfl rfl (Y_move rfl) ?_
      refine TL_nil ?_
      refine thenS_normal ?_
      exact ⟨(i + 1, st2), ⟨by simp only; omega, hr2, hs2, by dsimp only; rw [hc2, betP_succ, List.length_append]⟩, by simp only; omega, holds_to (sub_cons rfl (sub_cons rfl (sub_cons rfl (sub_cons rfl (sub_cons rfl (sub_nil)))))) GivesTo.g⟩
  · refine T_exit ?_
    refine thenS_exit ?_
    refine thenS_exit ?_
    refine inB_hit ?_
    have hie : i = b.length := by omega
    subst hie
    exact RetG_0 (.inr rfl) rfl GivesTo.g (⟨_, st, ⟨fun _ => rfl, List.prefix_rfl⟩, hr, rfl⟩)
theorem between_iter {bx by_ : Nat} {X Y : Option Addr} {cx cy : Nat} {a b : List Int} : IterC Try.prog (.func (.func 102) #[] #[.pointer (some ⟨by_, 0, none⟩), .pointer (some ⟨bx, 0, none⟩)]) (fun d : DotD => [dotV d]) dotOk (betL a b).length (btL bx by_ X cx Y cy a b) (fun st xs => (st = false → xs = betL a b) ∧ xs <+: betL a b) :=
  ⟨_, [], [.pointer (some ⟨by_, 0, none⟩), .pointer (some ⟨bx, 0, none⟩)], rfl, inferInstance, fun τ l C step stop cnt s0 Lx h0 hc hcnt hy => (between1_spec h0 hc hcnt hy).cases_ fun v L' ⟨xs, s', a1, a2, a3⟩ => ⟨xs, s', a1, a2, a3⟩⟩
end Go.SL
