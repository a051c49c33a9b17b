/- Learner: the document's Missing; whether a learner is as it should be. -/
import Derived.Test.YtfmkfpgplpfkhaaLrS
import Derived.Test.YtfmkfpgplpfkhaaLrH
set_option linter.unusedVariables false
set_option linter.unusedSimpArgs false
namespace Go.SL
open Go Go.Proofs
abbrev rmO (l : List SlotD) (most : Int) (i : Nat) : List Int := missF (min most 4096) ((keysN l).take i) 0 []
abbrev rmN (l : List SlotD) (i : Nat) : Int := nextF ((keysN l).take i) 0
theorem rmO_len (l : List SlotD) (most : Int) (i : Nat) : (rmO l most i).length ≤ 4096 := missF_len (by omega) (by simp)
theorem rmN_in {l : List SlotD} (h : LI l) (i : Nat) : 0 ≤ rmN l i ∧ rmN l i ≤ 2147483648 := by
  unfold rmN nextF
  split
  · rename_i x hx
    have := h.keyIn x (List.mem_of_mem_take (List.mem_of_getLast? hx))
    omega
  · omega
section
variable {r : Option Nat} {n : Nat} {P : Program} {ops : Array Oper} {rest : List Oper} {K : St → Prop} {D : List Deferred} {E : Env} {L : List HP} {b : Nat} {l : List SlotD}
theorem TL_rl (h : ∀ A c', l.length ≤ c' ∧ l.length ≤ maxEl → TL r n P ops rest ⟨D, E, cells b [.slice A l.length c'] 72 :: osl slotR 56 A c' l :: L⟩ K) : TL r n P ops rest ⟨D, E, rl b l :: L⟩ K := TL_exH (f := rlF b l) fun p => TL_fact (Knows.tail osl_len) (fun _ h => h) (h p.1 p.2)
end
theorem refMissingL_spec {L : List HP} {b : Nat} {l : List SlotD} (hi : LI l) (most : Int) : Fn Try.prog 60 #[.pointer (some ⟨b, 0, none⟩), .int .i64 most] (rl b l :: L) (fun v L' => ∃ A c, v = .slice A (missingS l most).length c ∧ L' = osl (intR .i64) 3 A c (missingS l most) :: rl b l :: L) := by
  have hlen := hi.len
  refine Fn_enter Try.func60 rfl rfl rfl rfl ?_
  refine T_rl fun A c hlc => ?_
  refine T_region ?_
  refine TL_y rfl rfl (Y_assign rfl) ?_
  refine TL_nil ?_
  refine T_region ?_
  refine TL_y rfl rfl (Y_assign rfl) ?_
  refine TL_nil ?_
  refine T_seq ?_
  refine T_region ?_
  refine TL_y rfl rfl (Y_move rfl) ?_
  refine TL_y rfl rfl (Y_gt rfl rfl) ?_
  refine TL_nil ?_
  refine T_joinKT (σ := Unit) [0, 5] (fun u => True) (fun u kv => (1, .int .i64 (min most 4096)) :: kv) (fun u => cells b [.slice A l.length c] 72 :: osl slotR 56 A c l :: L) rfl ?_ ?_
  · refine T_if rfl (fun h9 => ?_) (fun h9 => ?_)
    · refine T_region_last ?_
      refine TL_y rfl rfl (Y_assign rfl) ?_
      refine TL_name 1 (v' := .int .i64 (min most 4096)) rfl (by congr 1; omega) ?_
      refine TL_nil ?_
      refine thenS_normal ?_
      exact ⟨(), trivial, holds_to (sub_cons rfl (sub_cons rfl (sub_cons rfl (sub_nil)))) GivesTo.g⟩
    · refine T_name 1 rfl (show Value.int .i64 most = .int .i64 (min most 4096) by congr 1; omega) ?_
      refine T_skip ?_
      refine thenS_normal ?_
      exact ⟨(), trivial, holds_to (sub_cons rfl (sub_cons rfl (sub_cons rfl (sub_nil)))) GivesTo.g⟩
  · intro u hu
    refine T_region ?_
    refine TL_y rfl rfl (Y_assign rfl) ?_
    refine TL_nil ?_
    refine T_seq ?_
    refine T_region ?_
    refine TL_y rfl rfl (Y_assign rfl) ?_
    refine TL_nil ?_
    refine T_block ?_
    refine T_loopK (σ := OutSt) [0, 1] (fun g => g.i ≤ l.length) (fun g kv => (7, .int .i64 (g.i : Int)) :: (6, .int .i64 (rmN l g.i)) :: (5, .slice g.A (rmO l most g.i).length g.c) :: kv) (fun g => osl (intR .i64) 3 g.A g.c (rmO l most g.i) :: cells b [.slice A l.length c] 72 :: osl slotR 56 A c l :: L) (fun g => l.length - g.i) (⟨0, none, 0⟩) rfl (Nat.zero_le _) (osl_nil (intR .i64) 3 none _) (sub_cons rfl (sub_cons rfl (sub_cons rfl (sub_cons rfl (sub_cons rfl (sub_nil)))))) ?_
    rintro ⟨i, A1, c1⟩ hil
    dsimp only at hil ⊢
    refine T_seq ?_
    refine T_region ?_
    refine TL_y rfl rfl (Y_move rfl) ?_
    refine TL_y rfl rfl (Y_move rfl) ?_
    refine TL_y rfl rfl (Y_nil_check rfl) ?_
    refine TL_y rfl rfl (Y_field_addr rfl) ?_
    refine TL_y rfl rfl (Y_load rfl rfl) ?_
    refine TL_y rfl rfl (Y_len rfl) ?_
    refine TL_y rfl rfl (Y_lt rfl rfl) ?_
    refine TL_nil ?_
    refine T_if rfl (fun h16 => ?_) (fun h16 => ?_)
    · obtain ⟨u2, hu2⟩ : ∃ u2, l[i]? = some u2 := ⟨_, List.getElem?_eq_getElem (by omega)⟩
      have hkin := hi.keys u2 (List.mem_of_getElem? hu2)
      have hkt : (keysN l)[i]? = some u2.1 := by simp [hu2]
      rw [show rmO l most i = rmO l most i ++ ints (rmN l i) 0 from (List.append_nil _).symm]
      refine T_skip ?_
      refine thenS_normal ?_
      refine T_seq ?_
      refine T_block ?_
      refine T_seq ?_
      refine T_block ?_
      refine T_loopK (σ := MisSt) [0, 1, 7] (fun g => g.j ≤ gapN (min most 4096) (rmN l i) u2.1 (rmO l most i).length) (fun g kv => (6, .int .i64 (rmN l i + (g.j : Int))) :: (5, .slice g.A (rmO l most i ++ ints (rmN l i) g.j).length g.c) :: kv) (fun g => osl (intR .i64) 3 g.A g.c (rmO l most i ++ ints (rmN l i) g.j) :: cells b [.slice A l.length c] 72 :: osl slotR 56 A c l :: L) (fun g => 4096 - g.j) (⟨0, A1, c1, 0⟩) rfl (Nat.zero_le _) (GivesTo.g) (sub_cons (by show some (Value.int .i64 (rmN l i)) = some (Value.int .i64 (rmN l i + ((0 : Nat) : Int))); simp) (sub_cons rfl (sub_cons rfl (sub_cons rfl (sub_cons rfl (sub_nil)))))) ?_
      rintro ⟨_, A2, c2, j⟩ hj
      dsimp only at hj ⊢
      have hmo := rmO_len l most i
      have hmn := rmN_in hi i
      have hg0 := hj
      unfold gapN at hg0
      refine T_seq ?_
      refine T_region ?_
      refine TL_y rfl rfl (Y_move rfl) ?_
      refine TL_y rfl rfl (Y_move rfl) ?_
      refine TL_y rfl rfl (Y_nil_check rfl) ?_
      refine TL_y rfl rfl (Y_field_addr rfl) ?_
      refine TL_y rfl rfl (Y_load rfl rfl) ?_
      refine TL_y rfl rfl (Y_move rfl) ?_
      refine TL_index_n rfl rfl rfl (rfl) ((sln (A := A) (c := c))) (hu2) ?_
      intro bn25 on25 hA25 hk25
      have hu25 := hu2
      refine TL_y rfl rfl (Y_field_addr2 rfl) ?_
      refine TL_y rfl rfl (Y_load_nx rfl hk25 hu25 (fun _ => rfl)) ?_
      refine TL_y rfl rfl (Y_lt rfl rfl) ?_
      refine TL_both 6 34 (j < gapN (min most 4096) (rmN l i) u2.1 (rmO l most i).length) ?_ ?_
      · refine TL_y rfl rfl (Y_move rfl) ?_
        refine TL_splitd 29 rfl (fun h29 => ?_) (fun h29 => ?_)
        · refine TL_grun rfl rfl ?_
          refine TL_y rfl rfl (Y_move rfl) ?_
          refine TL_grun rfl rfl ?_
          refine TL_y rfl rfl (Y_len rfl) ?_
          refine TL_grun rfl rfl ?_
          refine TL_y rfl rfl (Y_move rfl) ?_
          refine TL_grun rfl rfl ?_
          refine TL_y rfl rfl (Y_lt rfl rfl) ?_
          refine TL_y rfl rfl (Y_pick_t rfl rfl) ?_
          refine TL_chain_end rfl ?_ (by repeat (first | exact sub_refl | refine sub_ext rfl ?_)) GivesTo.g
          exact congrArg Value.bool (decide_eq_decide.2 (by unfold gapN; (try simp only [List.length_append, ints_len] at *); omega))
        · refine TL_gskip rfl rfl rfl rfl ?_
          refine TL_gskip rfl rfl rfl rfl ?_
          refine TL_gskip rfl rfl rfl rfl ?_
          refine TL_gskip rfl rfl rfl rfl ?_
          refine TL_y rfl rfl (Y_pick_f rfl rfl) ?_
          refine TL_chain_end rfl ?_ (by repeat (first | exact sub_refl | refine sub_ext rfl ?_)) GivesTo.g
          exact congrArg Value.bool (decide_eq_false (by unfold gapN; (try simp only [List.length_append, ints_len] at *); omega)).symm
      refine TL_nil ?_
      refine T_if rfl (fun h34 => ?_) (fun h34 => ?_)
      · refine T_skip ?_
        refine thenS_normal ?_
        refine T_block ?_
        refine T_region ?_
        refine TL_y rfl rfl (Y_move rfl) ?_
        refine TL_y rfl rfl (Y_move rfl) ?_
        refine TL_build_slice rfl rfl rfl rfl rfl rfl ?_
        intro b37
        refine TL_osl (k := 1) (intR .i64) [rmN l i + (j : Int)] (Knows.const fun M => ⟨[.int .i64 (rmN l i + (j : Int))], [], ⟨rfl, i64In_mk (by omega)⟩, rfl, rfl⟩) rfl (by decide) ?_
        refine TL_freeze_osl ?_
        refine TL_name 37 (v' := .slice (some ⟨b37, 0, none⟩) [rmN l i + (j : Int)].length 1) rfl rfl ?_
        refine TL_append rfl rfl rfl rfl rfl slk (by simp only [List.length_cons, List.length_nil, List.length_append, ints_len]; omega) ?_
        intro A38 c38
        rw [List.append_assoc, ← ints_succ]
        refine TL_y rfl rfl (Y_assign rfl) ?_
        refine TL_nil ?_
        refine T_region_last ?_
        refine TL_y rfl rfl (Y_move rfl) ?_
        refine TL_y rfl rfl (Y_add rfl rfl (by omega)) ?_
        refine TL_name 40 (v' := .int .i64 (rmN l i + ((j + 1 : Nat) : Int))) rfl (by congr 1; omega) ?_
        refine TL_y rfl rfl (Y_assign rfl) ?_
        refine TL_nil ?_
        refine inB_normal ?_
        refine thenS_normal ?_
        exact ⟨⟨0, A38, c38, j + 1⟩, (by simp only; omega), by simp only; unfold gapN at *; omega, holds_to (sub_cons rfl (sub_cons rfl (sub_cons rfl (sub_cons rfl (sub_cons rfl (sub_nil)))))) GivesTo.g⟩
      · refine T_exit ?_
        refine thenS_exit ?_
        refine thenS_exit ?_
        refine inB_hit ?_
        refine thenS_normal ?_
        have hj2 : j = gapN (min most 4096) (rmN l i) u2.1 (rmO l most i).length := by omega
        have e1 : rmO l most i ++ ints (rmN l i) j = rmO l most (i + 1) := by rw [hj2]; unfold rmO; rw [take_at hkt, missF_snoc']
        have e2 : rmN l (i + 1) = u2.1 + 1 := by unfold rmN; rw [take_at hkt, nextF_snoc]
        rw [e1]
        refine T_region_last ?_
        refine TL_y rfl rfl (Y_move rfl) ?_
        refine TL_y rfl rfl (Y_nil_check rfl) ?_
        refine TL_y rfl rfl (Y_field_addr rfl) ?_
        refine TL_y rfl rfl (Y_load rfl rfl) ?_
        refine TL_y rfl rfl (Y_move rfl) ?_
        refine TL_index_n rfl rfl rfl (rfl) ((sln (A := A) (c := c))) (hu2) ?_
        intro bn46 on46 hA46 hk46
        have hu46 := hu2
        refine TL_y rfl rfl (Y_field_addr2 rfl) ?_
        refine TL_y rfl rfl (Y_load_nx rfl hk46 hu46 (fun _ => rfl)) ?_
        refine TL_y rfl rfl (Y_add rfl rfl (by omega)) ?_
        refine TL_name 49 (v' := .int .i64 (rmN l (i + 1))) rfl (by rw [e2]) ?_
        refine TL_y rfl rfl (Y_assign rfl) ?_
        refine TL_nil ?_
        refine inB_normal ?_
        refine thenS_normal ?_
        refine T_region_last ?_
        refine TL_y rfl rfl (Y_move rfl) ?_
        refine TL_y rfl rfl (Y_add rfl rfl (by omega)) ?_
        refine TL_name 18 (v' := .int .i64 ((i + 1 : Nat) : Int)) rfl (rfl) ?_
        refine TL_y rfl rfl (Y_assign rfl) ?_
        refine TL_nil ?_
        refine thenS_normal ?_
        exact ⟨⟨i + 1, A2, c2⟩, (by simp only; omega), by simp only; omega, holds_to (sub_cons rfl (sub_cons rfl (sub_cons rfl (sub_cons rfl (sub_cons rfl (sub_nil)))))) GivesTo.g⟩
    · refine T_exit ?_
      refine thenS_exit ?_
      refine thenS_exit ?_
      refine inB_hit ?_
      refine thenS_normal ?_
      have e3 : rmO l most i = missingS l most := by unfold rmO missingS; rw [show (keysN l).take i = keysN l from List.take_of_length_le (by simp; omega), hi.miss_all]
      rw [e3]
      refine T_region ?_
      refine TL_y rfl rfl (Y_move rfl) ?_
      refine TL_y rfl rfl (Y_assign rfl) ?_
      refine TL_nil ?_
      refine T_ret ?_
      refine RetQ.gives (rl_close (A := A) (c := c) b l) ?_
      exact RetG_1 (.inl rfl) rfl (ResV.tmp rfl) GivesTo.g (⟨A1, c1, rfl, rfl⟩)
theorem from_at2 {l : List SlotD} (h : LI l) {slot : Int} {f : Nat} (hf : f = (max slot 0).toNat) {xs : List FromD} (hp : xs.map fromP <+: fromL l slot) : ∀ i x, xs[i]? = some x → x.1 = ((f + i : Nat) : Int) ∧ f + i < pfx l ∧ ∃ k, l[f + i]? = some (k, x.2.1) := fun i x hx => by
  obtain ⟨t, ht⟩ := hp
  have h1 : (fromL l slot)[i]? = some (fromP x) := by
    rw [← ht, List.getElem?_append_left (by simpa using (List.getElem?_eq_some_iff.1 hx).1), List.getElem?_map, hx]; rfl
  unfold fromL at h1
  rw [← hf, List.getElem?_drop] at h1
  have hlt := (List.getElem?_eq_some_iff.1 h1).1
  rw [List.length_take] at hlt
  rw [List.getElem?_take_of_lt (by omega)] at h1
  obtain ⟨e, h3⟩ := h.spec.2.1 (f + i) (by omega)
  rw [h1] at h3
  have h4 := Option.some.inj h3
  exact ⟨congrArg Prod.fst h4, by omega, _, h1⟩
theorem fromL_len2 {l : List SlotD} (h : LI l) {slot : Int} {f : Nat} (hf : f = (max slot 0).toNat) : (fromL l slot).length = pfx l - f := by
  have := h.spec.1
  unfold fromL
  rw [← hf, List.length_drop, List.length_take]; omega
structure LkSt where
  k : Nat
  n : Nat
  le : n ≤ k
def lkStep (f : Nat) (l : List SlotD) : LS LkSt → FromD → LS LkSt → Prop := fun s x s' => s'.1.k = s.1.k + 1 ∧ (f + s.1.n < pfx l ∧ x.1 = ((f + s.1.n : Nat) : Int) ∧ (∀ u, l[f + s.1.n]? = some u → u.2 = x.2.1) → s'.2 = none ∧ s'.1.n = s.1.n + 1)
theorem lk_runs {f : Nat} {l : List SlotD} {s s' : LS LkSt} {xs : List FromD} (hr : Runs (lkStep f l) (fun s => !s.2.isNone) s xs s') : ∀ m, s.2 = none → s.1.n = m → (∀ i x, xs[i]? = some x → x.1 = ((f + (m + i) : Nat) : Int) ∧ f + (m + i) < pfx l ∧ ∃ k, l[f + (m + i)]? = some (k, x.2.1)) → s'.2 = none ∧ s'.1.n = m + xs.length := by
  have key : ∀ (s s1 : LS LkSt) (x : FromD) (m : Nat), lkStep f l s x s1 → s.1.n = m → x.1 = ((f + m : Nat) : Int) → f + m < pfx l → (∃ k, l[f + m]? = some (k, x.2.1)) → s1.2 = none ∧ s1.1.n = m + 1 := by
    intro s s1 x m hst hn hx hlt hE
    obtain ⟨k, hE⟩ := hE
    obtain ⟨a1, a2⟩ := hst.2 ⟨by omega, by rw [hn]; exact hx, fun u hu => by rw [hn, hE] at hu; cases hu; rfl⟩
    exact ⟨a1, by omega⟩
  induction hr with
  | nil s => intro m h1 h2 _; exact ⟨h1, by simpa using h2⟩
  | @halt s1 s2 x xs a b =>
    intro m h1 h2 h5
    obtain ⟨g1, g2, g3⟩ := h5 0 x rfl
    obtain ⟨k1, _⟩ := key _ _ _ m a h2 g1 g2 g3
    simp [k1] at b
  | @go s1 s2 s3 x xs a b c ih =>
    intro m h1 h2 h5
    obtain ⟨g1, g2, g3⟩ := h5 0 x rfl
    obtain ⟨k1, k2⟩ := key _ _ _ m a h2 g1 g2 g3
    have := ih (m + 1) k1 k2 (fun i y hy => by have := h5 (i + 1) y (by simpa using hy); rwa [show m + 1 + i = m + (i + 1) by omega])
    rw [List.length_cons, show m + (xs.length + 1) = m + 1 + xs.length by omega]
    exact this
theorem looks18_spec {L : List HP} {b bx : Nat} {l : List SlotD} (slot most : Int) (hsl : intIn .i64 slot) : Fn Try.prog 36 #[.pointer (some ⟨b, 0, none⟩), .pointer (some ⟨bx, 0, none⟩), .int .i64 slot, .int .i64 most] (lr b l :: rl bx l :: L) (fun v L' => v = .bool true ∧ L' = lr b l :: rl bx l :: L) := by
  have hsl1 := i64In hsl
  obtain ⟨f, hf⟩ : ∃ f : Nat, f = (max slot 0).toNat := ⟨_, rfl⟩
  refine Fn_enterM Try.func36 rfl rfl rfl rfl ?_
  refine T_lrI fun hi => ?_
  have hlen := hi.len
  have hpl := hi.spec.1
  refine T_region ?_
  refine TL_box rfl rfl rfl ?_
  intro b5
  refine TL_alloc rfl rfl ?_
  intro b8
  refine TL_nil ?_
  refine T_region ?_
  refine TL_y rfl rfl (Y_move rfl) ?_
  refine TL_y rfl rfl (Y_move rfl) ?_
  refine TL_pullk b ?_
  refine TL_call rfl rfl (lrGet_spec slot hsl) ?_
  rintro _ _ ⟨q, rfl, hoq, rfl⟩
  refine TL_freeze_osl ?_
  refine TL_y rfl rfl (Y_move rfl) ?_
  refine TL_y rfl rfl (Y_extract rfl rfl) ?_
  refine TL_y rfl rfl (Y_extract rfl rfl) ?_
  refine TL_alloc rfl rfl ?_
  intro b9
  refine TL_store rfl rfl rfl rfl rfl rfl ?_
  refine TL_y rfl rfl (Y_assign rfl) ?_
  refine TL_nil ?_
  refine T_region ?_
  refine TL_y rfl rfl (Y_load rfl rfl) ?_
  refine TL_y rfl rfl (Y_move rfl) ?_
  refine TL_pullk bx ?_
  refine TL_call rfl rfl (refGetL_spec slot) ?_
  rintro _ _ ⟨q2, rfl, hoq2, rfl⟩
  refine TL_y rfl rfl (Y_move rfl) ?_
  refine TL_y rfl rfl (Y_extract rfl rfl) ?_
  refine TL_y rfl rfl (Y_extract rfl rfl) ?_
  refine TL_alloc rfl rfl ?_
  intro b11
  refine TL_store rfl rfl rfl rfl rfl rfl ?_
  refine TL_y rfl rfl (Y_assign rfl) ?_
  refine TL_nil ?_
  refine T_region ?_
  refine TL_y rfl rfl (Y_load rfl rfl) ?_
  refine TL_pullk bx ?_
  refine TL_call rfl rfl (refPrefixL_spec hi) ?_
  rintro _ _ ⟨rfl, rfl⟩
  refine TL_alloc rfl rfl ?_
  intro b13
  refine TL_store rfl rfl rfl rfl rfl rfl ?_
  refine TL_nil ?_
  refine T_seq ?_
  refine T_rd [0, 0, 3, 7, 15, 31, 31, 127, 255, 511, 1023, 2047, 1023, 8191, 16383, 32767, 65535, 131071, 65535, 327679, 851967, 1900543, 3997695, 8388607, 16777215, 33554431, 67108863, 134217727, 67108863, 536870911, 1073741823, 2147483647, 4294967295, 8589934591, 17179869183, 17179869183, 68719476735, 17179869183, 17179869183, 549755813887, 1099511627775, 2199023255551, 4398046511103] (by kernel_rfl) (by decide +kernel) ?_
  refine RD_pair 17 21 (by decide) ?_ ?_
  · refine RD_leaf (cells b5 [.pointer (some ⟨bx, 0, none⟩)] 70 :: cells b9 (entryC (getS l slot) q) 54 :: cells b11 (entryC (getS l slot) q2) 54 :: cells b13 [.int .i64 ((pfx l : Nat) : Int)] 3 :: []) [0, 0, 3, 7, 15, 31, 31, 127, 255, 511, 1023, 2047, 1023, 8191, 16383, 32767, 65535, 131071, 65535, 327679, 851967, 2097151, 4194303, 8388607, 16777215, 33554431, 67108863, 134217727, 67108863, 536870911, 1073741823, 2147483647, 4294967295, 8589934591, 17179869183, 17179869183, 68719476735, 17179869183, 17179869183, 549755813887, 1099511627775, 2199023255551, 4398046511103] [] [(0, true), (1, true), (2, false), (3, true), (4, true), (5, true), (6, true), (7, true), (8, true), (9, true), (10, true), (12, true), (11, false), (13, true), (14, true), (15, true), (16, true), (18, true), (19, true), (20, true), (17, false), (21, false), (22, true), (23, true), (24, true), (25, true), (26, true), (28, true), (27, false), (29, false), (30, false), (31, true), (32, true), (33, true), (34, true), (35, true), (37, true), (38, true), (36, false), (39, false), (40, false), (41, true), (42, true)] (by decide +kernel) GivesTo.g ?_
    refine TF_y rfl rfl (Y_load_agg rfl rfl) ?_
    refine TF_y rfl rfl (Y_load_agg rfl rfl) ?_
    refine TF_anchor rfl ?_
    refine TL_call rfl rfl (sameEntry_spec (getS l slot) (getS l slot) sln sln) ?_
    rintro _ _ ⟨rfl, rfl⟩
    refine TF_end GivesTo.g ?_
    refine TF_y rfl rfl (Y_not rfl) ?_
    refine TF_name 35 (v' := .bool false) rfl (congrArg Value.bool (by simp)) ?_
    refine TF_y rfl rfl (Y_move rfl) ?_
    refine TF_gy rfl rfl rfl rfl (Y_move rfl) ?_
    refine TF_gy rfl rfl rfl rfl (Y_move rfl) ?_
    refine TF_gy rfl rfl rfl rfl (Y_unequal rfl rfl (EqIs.bool)) ?_
    refine TF_name 39 (v' := .bool false) rfl (congrArg Value.bool (by simp)) ?_
    refine TF_y rfl rfl (Y_pick_f rfl rfl) ?_
    refine TF_y rfl rfl (Y_move rfl) ?_
    refine TF_gy rfl rfl rfl rfl (Y_move rfl) ?_
    refine TF_gy rfl rfl rfl rfl (Y_load rfl rfl) ?_
    refine TF_anchor rfl ?_
    refine TL_grun rfl rfl ?_
    refine TL_pullk b ?_
    refine TL_call rfl rfl (lrPrefix_spec) ?_
    rintro _ _ ⟨rfl, rfl⟩
    refine TF_end GivesTo.g ?_
    refine TF_gy rfl rfl rfl rfl (Y_ne rfl rfl) ?_
    refine TF_name 45 (v' := .bool false) rfl (congrArg Value.bool (by simp)) ?_
    refine TF_y rfl rfl (Y_pick_f rfl rfl) ?_
    refine TF_y rfl rfl (Y_move rfl) ?_
    refine TF_gy rfl rfl rfl rfl (Y_move rfl) ?_
    refine TF_gy rfl rfl rfl rfl (Y_load rfl rfl) ?_
    refine TF_gy rfl rfl rfl rfl (Y_nil_check rfl) ?_
    refine TF_gy rfl rfl rfl rfl (Y_field_addr rfl) ?_
    refine TF_anchor rfl ?_
    refine TL_grun rfl rfl ?_
    refine TL_pullk b ?_
    refine TL_call rfl rfl (lrLen_spec) ?_
    rintro _ _ ⟨rfl, rfl⟩
    refine TF_end GivesTo.g ?_
    refine TF_anchor rfl ?_
    refine TL_grun rfl rfl ?_
    refine TL_pullk bx ?_
    refine TL_rl fun A c hlc => ?_
    refine TL_y rfl rfl (Y_load rfl rfl) ?_
    refine TL_gives (rl_close (A := A) (c := c) bx l) ?_
    refine TF_end GivesTo.g ?_
    refine TF_gy rfl rfl rfl rfl (Y_len rfl) ?_
    refine TF_gy rfl rfl rfl rfl (Y_ne rfl rfl) ?_
    refine TF_name 55 (v' := .bool false) rfl (congrArg Value.bool (by simp)) ?_
    refine TF_y rfl rfl (Y_pick_f rfl rfl) ?_
    refine TF_y rfl rfl (Y_move rfl) ?_
    refine TF_gy rfl rfl rfl rfl (Y_move rfl) ?_
    refine TF_gy rfl rfl rfl rfl (Y_load rfl rfl) ?_
    refine TF_anchor rfl ?_
    refine TL_grun rfl rfl ?_
    refine TL_pullk b ?_
    refine TL_call rfl rfl (lrExtras_spec) ?_
    rintro _ _ ⟨A59, c59, rfl, rfl⟩
    refine TF_end GivesTo.g ?_
    refine TF_anchor rfl ?_
    refine TL_grun rfl rfl ?_
    refine TL_pullk bx ?_
    refine TL_call rfl rfl (refExtrasL_spec hi) ?_
    rintro _ _ ⟨A61, c61, rfl, rfl⟩
    refine TF_end GivesTo.g ?_
    refine TF_anchor rfl ?_
    refine TL_grun rfl rfl ?_
    refine TL_call rfl rfl (sameInts_spec sln sln) ?_
    rintro _ _ ⟨rfl, rfl⟩
    refine TF_end GivesTo.g ?_
    refine TF_gy rfl rfl rfl rfl (Y_not rfl) ?_
    refine TF_name 63 (v' := .bool false) rfl (congrArg Value.bool (by simp)) ?_
    refine TF_y rfl rfl (Y_pick_f rfl rfl) ?_
    refine TF_y rfl rfl (Y_move rfl) ?_
    refine TF_gy rfl rfl rfl rfl (Y_move rfl) ?_
    refine TF_gy rfl rfl rfl rfl (Y_move rfl) ?_
    refine TF_gy rfl rfl rfl rfl (Y_load rfl rfl) ?_
    refine TF_gy rfl rfl rfl rfl (Y_move rfl) ?_
    refine TF_anchor rfl ?_
    refine TL_grun rfl rfl ?_
    refine TL_pullk b ?_
    refine TL_call rfl rfl (lrMissing_spec most) ?_
    rintro _ _ ⟨A68, c68, rfl, rfl⟩
    refine TF_end GivesTo.g ?_
    refine TF_anchor rfl ?_
    refine TL_grun rfl rfl ?_
    refine TL_pullk bx ?_
    refine TL_call rfl rfl (refMissingL_spec hi most) ?_
    rintro _ _ ⟨A71, c71, rfl, rfl⟩
    refine TF_end GivesTo.g ?_
    refine TF_anchor rfl ?_
    refine TL_grun rfl rfl ?_
    refine TL_call rfl rfl (sameInts_spec sln sln) ?_
    rintro _ _ ⟨rfl, rfl⟩
    refine TF_end GivesTo.g ?_
    refine TF_gy rfl rfl rfl rfl (Y_not rfl) ?_
    refine TF_name 73 (v' := .bool false) rfl (congrArg Value.bool (by simp)) ?_
    refine TF_y rfl rfl (Y_pick_f rfl rfl) ?_
    refine TF_nil ?_
    refine thenS_normal ?_
    refine T_cond_false rfl ?_
    refine T_skip ?_
    refine thenS_normal ?_
    refine T_region ?_
    refine TL_y rfl rfl (Y_move rfl) ?_
    refine TL_y rfl rfl (Y_assign rfl) ?_
    refine TL_nil ?_
    refine T_seq ?_
    refine T_region ?_
    refine TL_y rfl rfl (Y_move rfl) ?_
    refine TL_y rfl rfl (Y_lt rfl rfl) ?_
    refine TL_nil ?_
    refine T_joinKT (σ := Unit) [0, 2, 5, 8, 13] (fun u => True) (fun u kv => (14, .int .i64 (f : Int)) :: kv) (fun u => lr b l :: rl bx l :: cells b5 [.pointer (some ⟨bx, 0, none⟩)] 70 :: cells b13 [.int .i64 ((pfx l : Nat) : Int)] 3 :: cells b8 [.bool false] 4 :: L) rfl ?_ ?_
    · refine T_if rfl (fun h77 => ?_) (fun h77 => ?_)
      · refine T_region_last ?_
        refine TL_y rfl rfl (Y_assign rfl) ?_
        refine TL_name 14 (v' := .int .i64 (f : Int)) rfl (by congr 1; omega) ?_
        refine TL_nil ?_
        refine thenS_normal ?_
        exact ⟨(), trivial, holds_to (sub_cons rfl (sub_cons rfl (sub_cons rfl (sub_cons rfl (sub_cons rfl (sub_cons rfl (sub_nil))))))) GivesTo.g⟩
      · refine T_name 14 rfl (show Value.int .i64 slot = .int .i64 (f : Int) by congr 1; omega) ?_
        refine T_skip ?_
        refine thenS_normal ?_
        exact ⟨(), trivial, holds_to (sub_cons rfl (sub_cons rfl (sub_cons rfl (sub_cons rfl (sub_cons rfl (sub_cons rfl (sub_nil))))))) GivesTo.g⟩
    · intro u hu
      refine T_region ?_
      refine TL_y rfl rfl (Y_move rfl) ?_
      refine TL_alloc rfl rfl ?_
      intro b15
      refine TL_store rfl rfl rfl rfl rfl rfl ?_
      refine TL_nil ?_
      refine T_seq ?_
      refine T_region ?_
      refine TL_y rfl rfl (Y_move rfl) ?_
      refine TL_y rfl rfl (Y_move rfl) ?_
      refine TL_call rfl rfl (lrFrom_spec slot) ?_
      rintro _ _ ⟨bl0, bs0, rfl, rfl⟩
      refine TL_y rfl rfl (Y_equal rfl rfl (EqIs.func_nil)) ?_
      refine TL_name 82 (v' := .bool false) rfl (rfl) ?_
      refine TL_nil ?_
      refine T_cond_false rfl ?_
      refine T_skip ?_
      refine thenS_normal ?_
      refine T_seq ?_
      refine T_region ?_
      refine TL_y rfl rfl (Y_move rfl) ?_
      refine TL_y rfl rfl (Y_move rfl) ?_
      refine TL_call rfl rfl (lrFrom_spec slot) ?_
      rintro _ _ ⟨bl, bsl, rfl, rfl⟩
      refine TL_nil ?_
      refine T_block ?_
      refine T_range_iter (fun g : LkSt => [cells b15 [.int .i64 ((f + g.n : Nat) : Int)] 3, cells b13 [.int .i64 ((pfx l : Nat) : Int)] 3, cells b5 [.pointer (some ⟨bx, 0, none⟩)] 70, rl bx l, cells b8 [.bool false] 4]) (lkStep f l) (fun g : LkSt => g.k) (⟨0, 0, Nat.le_refl _⟩) rfl (from_iter (b := b) (bl := bl) (bs := bsl) (l := l) (slot := slot) hsl) ((show Gives _ ([cells b15 [.int .i64 (f : Int)] 3, cells b13 [.int .i64 ((pfx l : Nat) : Int)] 3, cells b5 [.pointer (some ⟨bx, 0, none⟩)] 70, rl bx l, cells b8 [.bool false] 4] ++ ([lr b l, cells bl [.pointer (some ⟨b, 0, none⟩)] 46, cells bsl [.int .i64 slot] 3] ++ L)) from GivesTo.g (L' := cells b15 [.int .i64 (f : Int)] 3 :: cells b13 [.int .i64 ((pfx l : Nat) : Int)] 3 :: cells b5 [.pointer (some ⟨bx, 0, none⟩)] 70 :: rl bx l :: cells b8 [.bool false] 4 :: lr b l :: cells bl [.pointer (some ⟨b, 0, none⟩)] 46 :: cells bsl [.int .i64 slot] 3 :: L))) (by decide) (fun _ => rfl) rfl (fun s x s' h => h.1) (fun l900 b900 g x Lx hx hlt => ?_) (fun m900 xs g hseq hrun => ?_)
      · obtain ⟨kk, nn, hle⟩ := g
        dsimp only at hlt ⊢
        simp only [List.cons_append, List.nil_append]
        refine T_gives (SlK.lay (SlK.of_gives GivesTo.g hx.2.2)) ?_
        try simp only [List.cons_append, List.nil_append]
        refine T_region ?_
        refine TL_y rfl rfl (Y_assign rfl) ?_
        refine TL_nil ?_
        refine T_region_last ?_
        refine TL_alloc rfl rfl ?_
        intro b17
        refine TL_store rfl rfl rfl rfl rfl rfl ?_
        refine TL_nil ?_
        refine ⟨rfl, _, FindHP.g, ?_⟩
        refine T_block ?_
        refine T_seq ?_
        refine Classical.byCases (p := f + nn < pfx l) (fun hnl => ?_) (fun hnl => ?_)
        · refine T_pullk bx ?_
          refine T_rl fun A c hlc => ?_
          obtain ⟨u, hu⟩ : ∃ u, l[f + nn]? = some u := ⟨_, List.getElem?_eq_getElem (by omega)⟩
          refine T_focus (A := A) (c := c) hu fun g3 l3 hA3 hl3 => ?_
          subst hA3
          refine T_pull 1 rfl ?_
          refine T_isx (R := slotR) fun p0 hp0 ok0 => ?_
          subst hp0
          simp only [List.cons_append, List.nil_append]
          refine T_region_draw _ [0, 0, 3, 7, 15, 15, 63, 127, 255, 511, 511, 1535, 3583, 7679, 511, 32255, 65023, 130559, 262143, 524287, 1048575] [] [(0, true), (1, true), (2, true), (3, true), (4, true), (5, true), (6, true), (7, true), (8, true), (9, true), (10, true), (11, true), (12, true), (13, true), (14, true), (15, true), (16, true), (17, true), (18, false), (19, true), (20, true)] (by kernel_rfl) (by decide +kernel) (Gives.refl _) ?_
          refine TF_y rfl rfl (Y_load rfl rfl) ?_
          refine TF_y rfl rfl (Y_load rfl rfl) ?_
          refine TF_y rfl rfl (Y_ge rfl rfl) ?_
          refine TF_name 90 (v' := .bool false) rfl (congrArg Value.bool (decide_eq_false (by omega))) ?_
          refine TF_y rfl rfl (Y_move rfl) ?_
          refine TF_gy rfl rfl rfl rfl (Y_move rfl) ?_
          refine TF_gy rfl rfl rfl rfl (Y_load rfl rfl) ?_
          refine TF_gy rfl rfl rfl rfl (Y_ne rfl rfl) ?_
          refine TF_y rfl rfl (Y_pick_f rfl rfl) ?_
          refine TF_y rfl rfl (Y_move rfl) ?_
          refine TF_splitd 96 rfl (fun h96 => ?_) (fun h96 => ?_)
          · refine TF_gskip rfl rfl rfl rfl rfl ?_
            refine TF_gskip rfl rfl rfl rfl rfl ?_
            refine TF_gskip rfl rfl rfl rfl rfl ?_
            refine TF_gskip rfl rfl rfl rfl rfl ?_
            refine TF_gskip rfl rfl rfl rfl rfl ?_
            refine TF_gskip rfl rfl rfl rfl rfl ?_
            refine TF_gskip rfl rfl rfl rfl rfl ?_
            refine TF_gskip rfl rfl rfl rfl rfl ?_
            refine TF_gskip rfl rfl rfl rfl rfl ?_
            refine TF_anchor rfl ?_
            refine TL_gskip rfl rfl rfl rfl ?_
            refine TF_end GivesTo.g ?_
            refine TF_gskip rfl rfl rfl rfl rfl ?_
            refine TF_y rfl rfl (Y_pick_t rfl rfl) ?_
            refine TF_nil ?_
            refine T_cond_true rfl ?_
            refine T_unx (R := slotR) g3 u (slot_rep p0 slk ok0) ?_
            rw [set_same hu]
            refine T_gives (rl_close (A := some ⟨g3, 0, none⟩) (c := c) bx l) ?_
            refine T_region ?_
            refine TL_store rfl rfl rfl rfl rfl rfl ?_
            refine TL_nil ?_
            refine T_ret ?_
            refine thenS_ret ?_
            refine inB_ret ?_
            exact ⟨⟨kk + 1, nn, by omega⟩, some .ret, rfl, ⟨rfl, fun h => absurd h.2.1 h96⟩, GivesTo.g⟩
          · refine TF_gy rfl rfl rfl rfl (Y_load_agg rfl rfl) ?_
            refine TF_gy rfl rfl rfl rfl (Y_load rfl rfl) ?_
            refine TF_gy rfl rfl rfl rfl (Y_nil_check rfl) ?_
            refine TF_gy rfl rfl rfl rfl (Y_field_addr rfl) ?_
            refine TF_gy rfl rfl rfl rfl (Y_load rfl rfl) ?_
            refine TF_gy rfl rfl rfl rfl (Y_load rfl rfl) ?_
            refine TF_gy rfl rfl rfl rfl (Y_index_x (R := slotR) (xs := l) rfl rfl rfl hu) ?_
            refine TF_gy rfl rfl rfl rfl (Y_field_addr2 rfl) ?_
            refine TF_gy rfl rfl rfl rfl (Y_load_x_agg (vs := entryC u.2 p0) rfl rfl) ?_
            refine TF_anchor rfl ?_
            refine TL_grun rfl rfl ?_
            refine TL_call rfl rfl (sameEntry_spec x.2.1 u.2 (SlN.of_gives GivesTo.g hx.2.2.n) sln) ?_
            rintro _ _ ⟨rfl, rfl⟩
            refine TF_end GivesTo.g ?_
            refine TF_gy rfl rfl rfl rfl (Y_not_d rfl) ?_
            refine TF_y rfl rfl (Y_pick_f rfl rfl) ?_
            refine TF_nil ?_
            refine T_if rfl (fun h108 => ?_) (fun h108 => ?_)
            · refine T_unx (R := slotR) g3 u (slot_rep p0 slk ok0) ?_
              rw [set_same hu]
              refine T_gives (rl_close (A := some ⟨g3, 0, none⟩) (c := c) bx l) ?_
              refine T_region ?_
              refine TL_store rfl rfl rfl rfl rfl rfl ?_
              refine TL_nil ?_
              refine T_ret ?_
              refine thenS_ret ?_
              refine inB_ret ?_
              exact ⟨⟨kk + 1, nn, by omega⟩, some .ret, rfl, ⟨rfl, fun h => absurd (h.2.2 u hu).symm h108⟩, GivesTo.g⟩
            · refine T_skip ?_
              refine thenS_normal ?_
              refine T_unx (R := slotR) g3 u (slot_rep p0 slk ok0) ?_
              rw [set_same hu]
              refine T_gives (rl_close (A := some ⟨g3, 0, none⟩) (c := c) bx l) ?_
              refine T_region_last ?_
              refine TL_y rfl rfl (Y_load rfl rfl) ?_
              refine TL_y rfl rfl (Y_add rfl rfl (by omega)) ?_
              refine TL_name 110 (v' := .int .i64 ((f + (nn + 1) : Nat) : Int)) rfl (rfl) ?_
              refine TL_store rfl rfl rfl rfl rfl rfl ?_
              refine TL_nil ?_
              refine inB_normal ?_
              exact ⟨⟨kk + 1, nn + 1, by omega⟩, none, rfl, ⟨rfl, fun _ => ⟨rfl, rfl⟩⟩, GivesTo.g⟩
        · refine T_pullk bx ?_
          refine T_rl fun A c hlc => ?_
          refine T_region_draw _ [0, 0, 3, 7, 15, 15, 63, 127, 255, 511, 511, 1535, 3583, 7679, 511, 32255, 65023, 130559, 262143, 524287, 1048575] [] [(0, true), (1, true), (2, true), (3, true), (4, true), (5, true), (6, true), (7, true), (8, true), (9, true), (10, true), (11, true), (12, true), (13, true), (14, true), (15, true), (16, true), (17, true), (18, false), (19, true), (20, true)] (by kernel_rfl) (by decide +kernel) (Gives.refl _) ?_
          refine TF_y rfl rfl (Y_load rfl rfl) ?_
          refine TF_y rfl rfl (Y_load rfl rfl) ?_
          refine TF_y rfl rfl (Y_ge rfl rfl) ?_
          refine TF_name 90 (v' := .bool true) rfl (congrArg Value.bool (decide_eq_true (by omega))) ?_
          refine TF_y rfl rfl (Y_move rfl) ?_
          refine TF_gskip rfl rfl rfl rfl rfl ?_
          refine TF_gskip rfl rfl rfl rfl rfl ?_
          refine TF_gskip rfl rfl rfl rfl rfl ?_
          refine TF_y rfl rfl (Y_pick_t rfl rfl) ?_
          refine TF_y rfl rfl (Y_move rfl) ?_
          refine TF_gskip rfl rfl rfl rfl rfl ?_
          refine TF_gskip rfl rfl rfl rfl rfl ?_
          refine TF_gskip rfl rfl rfl rfl rfl ?_
          refine TF_gskip rfl rfl rfl rfl rfl ?_
          refine TF_gskip rfl rfl rfl rfl rfl ?_
          refine TF_gskip rfl rfl rfl rfl rfl ?_
          refine TF_gskip rfl rfl rfl rfl rfl ?_
          refine TF_gskip rfl rfl rfl rfl rfl ?_
          refine TF_gskip rfl rfl rfl rfl rfl ?_
          refine TF_anchor rfl ?_
          refine TL_gskip rfl rfl rfl rfl ?_
          refine TF_end GivesTo.g ?_
          refine TF_gskip rfl rfl rfl rfl rfl ?_
          refine TF_y rfl rfl (Y_pick_t rfl rfl) ?_
          refine TF_nil ?_
          refine T_cond_true rfl ?_
          refine T_gives (rl_close (A := A) (c := c) bx l) ?_
          refine T_region ?_
          refine TL_store rfl rfl rfl rfl rfl rfl ?_
          refine TL_nil ?_
          refine T_ret ?_
          refine thenS_ret ?_
          refine inB_ret ?_
          exact ⟨⟨kk + 1, nn, by omega⟩, some .ret, rfl, ⟨rfl, fun h => absurd h.1 hnl⟩, GivesTo.g⟩
      · obtain ⟨⟨k2, n2, hle2⟩, j⟩ := g
        obtain ⟨hj, hn2⟩ := lk_runs hrun 0 rfl rfl (fun i x hx => by have := from_at2 hi hf hseq.2 i x hx; rwa [Nat.zero_add])
        dsimp only at hj hn2
        subst hj
        have hxl : xs.length = pfx l - f := by have := congrArg List.length (hseq.1 rfl); rwa [List.length_map, fromL_len2 hi hf] at this
        try simp only [List.cons_append, List.nil_append]
        refine behind_none ?_
        refine inB_normal ?_
        refine thenS_normal ?_
        refine T_region ?_
        refine TL_y rfl rfl (Y_load rfl rfl) ?_
        refine TL_y rfl rfl (Y_load rfl rfl) ?_
        refine TL_y rfl rfl (Y_eq rfl rfl) ?_
        refine TL_y rfl rfl (Y_move rfl) ?_
        refine TL_splitd 114 rfl (fun h114 => ?_) (fun h114 => ?_)
        · refine TL_gskip rfl rfl rfl rfl ?_
          refine TL_gskip rfl rfl rfl rfl ?_
          refine TL_gskip rfl rfl rfl rfl ?_
          refine TL_gskip rfl rfl rfl rfl ?_
          refine TL_gskip_u rfl rfl rfl ?_
          refine TL_gskip_u rfl rfl rfl ?_
          refine TL_gskip_u rfl rfl rfl ?_
          refine TL_gskip rfl rfl rfl rfl ?_
          refine TL_y rfl rfl (Y_pick_t rfl rfl) ?_
          refine TL_store rfl rfl rfl rfl rfl rfl ?_
          refine TL_nil ?_
          refine T_ret ?_
          refine retM1 ?_
          exact RetG_1 (.inl rfl) rfl (ResV.cell rfl rfl) GivesTo.g (⟨rfl, rfl⟩)
        · refine TL_grun rfl rfl ?_
          refine TL_y rfl rfl (Y_move rfl) ?_
          refine TL_grun rfl rfl ?_
          refine TL_y rfl rfl (Y_load rfl rfl) ?_
          refine TL_grun rfl rfl ?_
          refine TL_y rfl rfl (Y_gt rfl rfl) ?_
          refine TL_name 117 (v' := .bool true) rfl (congrArg Value.bool (decide_eq_true (by omega))) ?_
          refine TL_grun rfl rfl ?_
          refine TL_y rfl rfl (Y_move rfl) ?_
          refine TL_grun rfl rfl ?_
          refine TL_y rfl rfl (Y_load rfl rfl) ?_
          refine TL_grun rfl rfl ?_
          refine TL_y rfl rfl (Y_move rfl) ?_
          refine TL_grun rfl rfl ?_
          refine TL_y rfl rfl (Y_eq rfl rfl) ?_
          refine TL_name 121 (v' := .bool true) rfl (congrArg Value.bool (decide_eq_true (by omega))) ?_
          refine TL_grun rfl rfl ?_
          refine TL_y rfl rfl (Y_pick_t rfl rfl) ?_
          refine TL_y rfl rfl (Y_pick_f rfl rfl) ?_
          refine TL_store rfl rfl rfl rfl rfl rfl ?_
          refine TL_nil ?_
          refine T_ret ?_
          refine retM1 ?_
          exact RetG_1 (.inl rfl) rfl (ResV.cell rfl rfl) GivesTo.g (⟨rfl, rfl⟩)
  · refine RD_leaf (cells b5 [.pointer (some ⟨bx, 0, none⟩)] 70 :: cells b9 (entryC (getS l slot) q) 54 :: cells b11 (entryC (getS l slot) q2) 54 :: cells b13 [.int .i64 ((pfx l : Nat) : Int)] 3 :: []) [0, 0, 3, 7, 15, 31, 31, 127, 255, 511, 1023, 2047, 1023, 8191, 16383, 32767, 65535, 4063231, 65535, 327679, 851967, 1900543, 3997695, 8388607, 16777215, 33554431, 67108863, 134217727, 67108863, 536870911, 1073741823, 2147483647, 4294967295, 8589934591, 17179869183, 17179869183, 68719476735, 17179869183, 17179869183, 549755813887, 1099511627775, 2199023255551, 4398046511103] [] [(0, true), (1, true), (2, false), (3, true), (4, true), (5, true), (6, true), (7, true), (8, true), (9, true), (10, true), (12, true), (11, false), (13, true), (14, true), (15, true), (16, true), (18, true), (19, true), (20, true), (21, false), (22, true), (17, false), (23, true), (24, true), (25, true), (26, true), (28, true), (27, false), (29, false), (30, false), (31, true), (32, true), (33, true), (34, true), (35, true), (37, true), (38, true), (36, false), (39, false), (40, false), (41, true), (42, true)] (by decide +kernel) GivesTo.g ?_
    refine TF_y rfl rfl (Y_load_agg rfl rfl) ?_
    refine TF_y rfl rfl (Y_load_agg rfl rfl) ?_
    refine TF_anchor rfl ?_
    refine TL_call rfl rfl (sameEntry_spec (getS l slot) (getS l slot) sln sln) ?_
    rintro _ _ ⟨rfl, rfl⟩
    refine TF_end GivesTo.g ?_
    refine TF_y rfl rfl (Y_not rfl) ?_
    refine TF_name 35 (v' := .bool false) rfl (congrArg Value.bool (by simp)) ?_
    refine TF_y rfl rfl (Y_move rfl) ?_
    refine TF_gy rfl rfl rfl rfl (Y_move rfl) ?_
    refine TF_gy rfl rfl rfl rfl (Y_move rfl) ?_
    refine TF_gy rfl rfl rfl rfl (Y_unequal rfl rfl (EqIs.bool)) ?_
    refine TF_name 39 (v' := .bool false) rfl (congrArg Value.bool (by simp)) ?_
    refine TF_y rfl rfl (Y_pick_f rfl rfl) ?_
    refine TF_y rfl rfl (Y_move rfl) ?_
    refine TF_gy rfl rfl rfl rfl (Y_move rfl) ?_
    refine TF_gy rfl rfl rfl rfl (Y_load rfl rfl) ?_
    refine TF_anchor rfl ?_
    refine TL_grun rfl rfl ?_
    refine TL_pullk b ?_
    refine TL_call rfl rfl (lrPrefix_spec) ?_
    rintro _ _ ⟨rfl, rfl⟩
    refine TF_end GivesTo.g ?_
    refine TF_gy rfl rfl rfl rfl (Y_ne rfl rfl) ?_
    refine TF_name 45 (v' := .bool false) rfl (congrArg Value.bool (by simp)) ?_
    refine TF_y rfl rfl (Y_pick_f rfl rfl) ?_
    refine TF_y rfl rfl (Y_move rfl) ?_
    refine TF_gy rfl rfl rfl rfl (Y_move rfl) ?_
    refine TF_gy rfl rfl rfl rfl (Y_load rfl rfl) ?_
    refine TF_gy rfl rfl rfl rfl (Y_nil_check rfl) ?_
    refine TF_gy rfl rfl rfl rfl (Y_field_addr rfl) ?_
    refine TF_anchor rfl ?_
    refine TL_grun rfl rfl ?_
    refine TL_pullk bx ?_
    refine TL_rl fun A c hlc => ?_
    refine TL_y rfl rfl (Y_load rfl rfl) ?_
    refine TL_gives (rl_close (A := A) (c := c) bx l) ?_
    refine TF_end GivesTo.g ?_
    refine TF_gy rfl rfl rfl rfl (Y_len rfl) ?_
    refine TF_anchor rfl ?_
    refine TL_grun rfl rfl ?_
    refine TL_pullk b ?_
    refine TL_call rfl rfl (lrLen_spec) ?_
    rintro _ _ ⟨rfl, rfl⟩
    refine TF_end GivesTo.g ?_
    refine TF_gy rfl rfl rfl rfl (Y_ne rfl rfl) ?_
    refine TF_name 55 (v' := .bool false) rfl (congrArg Value.bool (by simp)) ?_
    refine TF_y rfl rfl (Y_pick_f rfl rfl) ?_
    refine TF_y rfl rfl (Y_move rfl) ?_
    refine TF_gy rfl rfl rfl rfl (Y_move rfl) ?_
    refine TF_gy rfl rfl rfl rfl (Y_load rfl rfl) ?_
    refine TF_anchor rfl ?_
    refine TL_grun rfl rfl ?_
    refine TL_pullk b ?_
    refine TL_call rfl rfl (lrExtras_spec) ?_
    rintro _ _ ⟨A59, c59, rfl, rfl⟩
    refine TF_end GivesTo.g ?_
    refine TF_anchor rfl ?_
    refine TL_grun rfl rfl ?_
    refine TL_pullk bx ?_
    refine TL_call rfl rfl (refExtrasL_spec hi) ?_
    rintro _ _ ⟨A61, c61, rfl, rfl⟩
    refine TF_end GivesTo.g ?_
    refine TF_anchor rfl ?_
    refine TL_grun rfl rfl ?_
    refine TL_call rfl rfl (sameInts_spec sln sln) ?_
    rintro _ _ ⟨rfl, rfl⟩
    refine TF_end GivesTo.g ?_
    refine TF_gy rfl rfl rfl rfl (Y_not rfl) ?_
    refine TF_name 63 (v' := .bool false) rfl (congrArg Value.bool (by simp)) ?_
    refine TF_y rfl rfl (Y_pick_f rfl rfl) ?_
    refine TF_y rfl rfl (Y_move rfl) ?_
    refine TF_gy rfl rfl rfl rfl (Y_move rfl) ?_
    refine TF_gy rfl rfl rfl rfl (Y_move rfl) ?_
    refine TF_gy rfl rfl rfl rfl (Y_load rfl rfl) ?_
    refine TF_gy rfl rfl rfl rfl (Y_move rfl) ?_
    refine TF_anchor rfl ?_
    refine TL_grun rfl rfl ?_
    refine TL_pullk b ?_
    refine TL_call rfl rfl (lrMissing_spec most) ?_
    rintro _ _ ⟨A68, c68, rfl, rfl⟩
    refine TF_end GivesTo.g ?_
    refine TF_anchor rfl ?_
    refine TL_grun rfl rfl ?_
    refine TL_pullk bx ?_
    refine TL_call rfl rfl (refMissingL_spec hi most) ?_
    rintro _ _ ⟨A71, c71, rfl, rfl⟩
    refine TF_end GivesTo.g ?_
    refine TF_anchor rfl ?_
    refine TL_grun rfl rfl ?_
    refine TL_call rfl rfl (sameInts_spec sln sln) ?_
    rintro _ _ ⟨rfl, rfl⟩
    refine TF_end GivesTo.g ?_
    refine TF_gy rfl rfl rfl rfl (Y_not rfl) ?_
    refine TF_name 73 (v' := .bool false) rfl (congrArg Value.bool (by simp)) ?_
    refine TF_y rfl rfl (Y_pick_f rfl rfl) ?_
    refine TF_nil ?_
    refine thenS_normal ?_
    refine T_cond_false rfl ?_
    refine T_skip ?_
    refine thenS_normal ?_
    refine T_region ?_
    refine TL_y rfl rfl (Y_move rfl) ?_
    refine TL_y rfl rfl (Y_assign rfl) ?_
    refine TL_nil ?_
    refine T_seq ?_
    refine T_region ?_
    refine TL_y rfl rfl (Y_move rfl) ?_
    refine TL_y rfl rfl (Y_lt rfl rfl) ?_
    refine TL_nil ?_
    refine T_joinKT (σ := Unit) [0, 2, 5, 8, 13] (fun u => True) (fun u kv => (14, .int .i64 (f : Int)) :: kv) (fun u => lr b l :: rl bx l :: cells b5 [.pointer (some ⟨bx, 0, none⟩)] 70 :: cells b13 [.int .i64 ((pfx l : Nat) : Int)] 3 :: cells b8 [.bool false] 4 :: L) rfl ?_ ?_
    · refine T_if rfl (fun h77 => ?_) (fun h77 => ?_)
      · refine T_region_last ?_
        refine TL_y rfl rfl (Y_assign rfl) ?_
        refine TL_name 14 (v' := .int .i64 (f : Int)) rfl (by congr 1; omega) ?_
        refine TL_nil ?_
        refine thenS_normal ?_
        exact ⟨(), trivial, holds_to (sub_cons rfl (sub_cons rfl (sub_cons rfl (sub_cons rfl (sub_cons rfl (sub_cons rfl (sub_nil))))))) GivesTo.g⟩
      · refine T_name 14 rfl (show Value.int .i64 slot = .int .i64 (f : Int) by congr 1; omega) ?_
        refine T_skip ?_
        refine thenS_normal ?_
        exact ⟨(), trivial, holds_to (sub_cons rfl (sub_cons rfl (sub_cons rfl (sub_cons rfl (sub_cons rfl (sub_cons rfl (sub_nil))))))) GivesTo.g⟩
    · intro u hu
      refine T_region ?_
      refine TL_y rfl rfl (Y_move rfl) ?_
      refine TL_alloc rfl rfl ?_
      intro b15
      refine TL_store rfl rfl rfl rfl rfl rfl ?_
      refine TL_nil ?_
      refine T_seq ?_
      refine T_region ?_
      refine TL_y rfl rfl (Y_move rfl) ?_
      refine TL_y rfl rfl (Y_move rfl) ?_
      refine TL_call rfl rfl (lrFrom_spec slot) ?_
      rintro _ _ ⟨bl0, bs0, rfl, rfl⟩
      refine TL_y rfl rfl (Y_equal rfl rfl (EqIs.func_nil)) ?_
      refine TL_name 82 (v' := .bool false) rfl (rfl) ?_
      refine TL_nil ?_
      refine T_cond_false rfl ?_
      refine T_skip ?_
      refine thenS_normal ?_
      refine T_seq ?_
      refine T_region ?_
      refine TL_y rfl rfl (Y_move rfl) ?_
      refine TL_y rfl rfl (Y_move rfl) ?_
      refine TL_call rfl rfl (lrFrom_spec slot) ?_
      rintro _ _ ⟨bl, bsl, rfl, rfl⟩
      refine TL_nil ?_
      refine T_block ?_
      refine T_range_iter (fun g : LkSt => [cells b15 [.int .i64 ((f + g.n : Nat) : Int)] 3, cells b13 [.int .i64 ((pfx l : Nat) : Int)] 3, cells b5 [.pointer (some ⟨bx, 0, none⟩)] 70, rl bx l, cells b8 [.bool false] 4]) (lkStep f l) (fun g : LkSt => g.k) (⟨0, 0, Nat.le_refl _⟩) rfl (from_iter (b := b) (bl := bl) (bs := bsl) (l := l) (slot := slot) hsl) ((show Gives _ ([cells b15 [.int .i64 (f : Int)] 3, cells b13 [.int .i64 ((pfx l : Nat) : Int)] 3, cells b5 [.pointer (some ⟨bx, 0, none⟩)] 70, rl bx l, cells b8 [.bool false] 4] ++ ([lr b l, cells bl [.pointer (some ⟨b, 0, none⟩)] 46, cells bsl [.int .i64 slot] 3] ++ L)) from GivesTo.g (L' := cells b15 [.int .i64 (f : Int)] 3 :: cells b13 [.int .i64 ((pfx l : Nat) : Int)] 3 :: cells b5 [.pointer (some ⟨bx, 0, none⟩)] 70 :: rl bx l :: cells b8 [.bool false] 4 :: lr b l :: cells bl [.pointer (some ⟨b, 0, none⟩)] 46 :: cells bsl [.int .i64 slot] 3 :: L))) (by decide) (fun _ => rfl) rfl (fun s x s' h => h.1) (fun l900 b900 g x Lx hx hlt => ?_) (fun m900 xs g hseq hrun => ?_)
      · obtain ⟨kk, nn, hle⟩ := g
        dsimp only at hlt ⊢
        simp only [List.cons_append, List.nil_append]
        refine T_gives (SlK.lay (SlK.of_gives GivesTo.g hx.2.2)) ?_
        try simp only [List.cons_append, List.nil_append]
        refine T_region ?_
        refine TL_y rfl rfl (Y_assign rfl) ?_
        refine TL_nil ?_
        refine T_region_last ?_
        refine TL_alloc rfl rfl ?_
        intro b17
        refine TL_store rfl rfl rfl rfl rfl rfl ?_
        refine TL_nil ?_
        refine ⟨rfl, _, FindHP.g, ?_⟩
        refine T_block ?_
        refine T_seq ?_
        refine Classical.byCases (p := f + nn < pfx l) (fun hnl => ?_) (fun hnl => ?_)
        · refine T_pullk bx ?_
          refine T_rl fun A c hlc => ?_
          obtain ⟨u, hu⟩ : ∃ u, l[f + nn]? = some u := ⟨_, List.getElem?_eq_getElem (by omega)⟩
          refine T_focus (A := A) (c := c) hu fun g3 l3 hA3 hl3 => ?_
          subst hA3
          refine T_pull 1 rfl ?_
          refine T_isx (R := slotR) fun p0 hp0 ok0 => ?_
          subst hp0
          simp only [List.cons_append, List.nil_append]
          refine T_region_draw _ [0, 0, 3, 7, 15, 15, 63, 127, 255, 511, 511, 1535, 3583, 7679, 511, 32255, 65023, 130559, 262143, 524287, 1048575] [] [(0, true), (1, true), (2, true), (3, true), (4, true), (5, true), (6, true), (7, true), (8, true), (9, true), (10, true), (11, true), (12, true), (13, true), (14, true), (15, true), (16, true), (17, true), (18, false), (19, true), (20, true)] (by kernel_rfl) (by decide +kernel) (Gives.refl _) ?_
          refine TF_y rfl rfl (Y_load rfl rfl) ?_
          refine TF_y rfl rfl (Y_load rfl rfl) ?_
          refine TF_y rfl rfl (Y_ge rfl rfl) ?_
          refine TF_name 90 (v' := .bool false) rfl (congrArg Value.bool (decide_eq_false (by omega))) ?_
          refine TF_y rfl rfl (Y_move rfl) ?_
          refine TF_gy rfl rfl rfl rfl (Y_move rfl) ?_
          refine TF_gy rfl rfl rfl rfl (Y_load rfl rfl) ?_
          refine TF_gy rfl rfl rfl rfl (Y_ne rfl rfl) ?_
          refine TF_y rfl rfl (Y_pick_f rfl rfl) ?_
          refine TF_y rfl rfl (Y_move rfl) ?_
          refine TF_splitd 96 rfl (fun h96 => ?_) (fun h96 => ?_)
          · refine TF_gskip rfl rfl rfl rfl rfl ?_
            refine TF_gskip rfl rfl rfl rfl rfl ?_
            refine TF_gskip rfl rfl rfl rfl rfl ?_
            refine TF_gskip rfl rfl rfl rfl rfl ?_
            refine TF_gskip rfl rfl rfl rfl rfl ?_
            refine TF_gskip rfl rfl rfl rfl rfl ?_
            refine TF_gskip rfl rfl rfl rfl rfl ?_
            refine TF_gskip rfl rfl rfl rfl rfl ?_
            refine TF_gskip rfl rfl rfl rfl rfl ?_
            refine TF_anchor rfl ?_
            refine TL_gskip rfl rfl rfl rfl ?_
            refine TF_end GivesTo.g ?_
            refine TF_gskip rfl rfl rfl rfl rfl ?_
            refine TF_y rfl rfl (Y_pick_t rfl rfl) ?_
            refine TF_nil ?_
            refine T_cond_true rfl ?_
            refine T_unx (R := slotR) g3 u (slot_rep p0 slk ok0) ?_
            rw [set_same hu]
            refine T_gives (rl_close (A := some ⟨g3, 0, none⟩) (c := c) bx l) ?_
            refine T_region ?_
            refine TL_store rfl rfl rfl rfl rfl rfl ?_
            refine TL_nil ?_
            refine T_ret ?_
            refine thenS_ret ?_
            refine inB_ret ?_
            exact ⟨⟨kk + 1, nn, by omega⟩, some .ret, rfl, ⟨rfl, fun h => absurd h.2.1 h96⟩, GivesTo.g⟩
          · refine TF_gy rfl rfl rfl rfl (Y_load_agg rfl rfl) ?_
            refine TF_gy rfl rfl rfl rfl (Y_load rfl rfl) ?_
            refine TF_gy rfl rfl rfl rfl (Y_nil_check rfl) ?_
            refine TF_gy rfl rfl rfl rfl (Y_field_addr rfl) ?_
            refine TF_gy rfl rfl rfl rfl (Y_load rfl rfl) ?_
            refine TF_gy rfl rfl rfl rfl (Y_load rfl rfl) ?_
            refine TF_gy rfl rfl rfl rfl (Y_index_x (R := slotR) (xs := l) rfl rfl rfl hu) ?_
            refine TF_gy rfl rfl rfl rfl (Y_field_addr2 rfl) ?_
            refine TF_gy rfl rfl rfl rfl (Y_load_x_agg (vs := entryC u.2 p0) rfl rfl) ?_
            refine TF_anchor rfl ?_
            refine TL_grun rfl rfl ?_
            refine TL_call rfl rfl (sameEntry_spec x.2.1 u.2 (SlN.of_gives GivesTo.g hx.2.2.n) sln) ?_
            rintro _ _ ⟨rfl, rfl⟩
            refine TF_end GivesTo.g ?_
            refine TF_gy rfl rfl rfl rfl (Y_not_d rfl) ?_
            refine TF_y rfl rfl (Y_pick_f rfl rfl) ?_
            refine TF_nil ?_
            refine T_if rfl (fun h108 => ?_) (fun h108 => ?_)
            · refine T_unx (R := slotR) g3 u (slot_rep p0 slk ok0) ?_
              rw [set_same hu]
              refine T_gives (rl_close (A := some ⟨g3, 0, none⟩) (c := c) bx l) ?_
              refine T_region ?_
              refine TL_store rfl rfl rfl rfl rfl rfl ?_
              refine TL_nil ?_
              refine T_ret ?_
              refine thenS_ret ?_
              refine inB_ret ?_
              exact ⟨⟨kk + 1, nn, by omega⟩, some .ret, rfl, ⟨rfl, fun h => absurd (h.2.2 u hu).symm h108⟩, GivesTo.g⟩
            · refine T_skip ?_
              refine thenS_normal ?_
              refine T_unx (R := slotR) g3 u (slot_rep p0 slk ok0) ?_
              rw [set_same hu]
              refine T_gives (rl_close (A := some ⟨g3, 0, none⟩) (c := c) bx l) ?_
              refine T_region_last ?_
              refine TL_y rfl rfl (Y_load rfl rfl) ?_
              refine TL_y rfl rfl (Y_add rfl rfl (by omega)) ?_
              refine TL_name 110 (v' := .int .i64 ((f + (nn + 1) : Nat) : Int)) rfl (rfl) ?_
              refine TL_store rfl rfl rfl rfl rfl rfl ?_
              refine TL_nil ?_
              refine inB_normal ?_
              exact ⟨⟨kk + 1, nn + 1, by omega⟩, none, rfl, ⟨rfl, fun _ => ⟨rfl, rfl⟩⟩, GivesTo.g⟩
        · refine T_pullk bx ?_
          refine T_rl fun A c hlc => ?_
          refine T_region_draw _ [0, 0, 3, 7, 15, 15, 63, 127, 255, 511, 511, 1535, 3583, 7679, 511, 32255, 65023, 130559, 262143, 524287, 1048575] [] [(0, true), (1, true), (2, true), (3, true), (4, true), (5, true), (6, true), (7, true), (8, true), (9, true), (10, true), (11, true), (12, true), (13, true), (14, true), (15, true), (16, true), (17, true), (18, false), (19, true), (20, true)] (by kernel_rfl) (by decide +kernel) (Gives.refl _) ?_
          refine TF_y rfl rfl (Y_load rfl rfl) ?_
          refine TF_y rfl rfl (Y_load rfl rfl) ?_
          refine TF_y rfl rfl (Y_ge rfl rfl) ?_
          refine TF_name 90 (v' := .bool true) rfl (congrArg Value.bool (decide_eq_true (by omega))) ?_
          refine TF_y rfl rfl (Y_move rfl) ?_
          refine TF_gskip rfl rfl rfl rfl rfl ?_
          refine TF_gskip rfl rfl rfl rfl rfl ?_
          refine TF_gskip rfl rfl rfl rfl rfl ?_
          refine TF_y rfl rfl (Y_pick_t rfl rfl) ?_
          refine TF_y rfl rfl (Y_move rfl) ?_
          refine TF_gskip rfl rfl rfl rfl rfl ?_
          refine TF_gskip rfl rfl rfl rfl rfl ?_
          refine TF_gskip rfl rfl rfl rfl rfl ?_
          refine TF_gskip rfl rfl rfl rfl rfl ?_
          refine TF_gskip rfl rfl rfl rfl rfl ?_
          refine TF_gskip rfl rfl rfl rfl rfl ?_
          refine TF_gskip rfl rfl rfl rfl rfl ?_
          refine TF_gskip rfl rfl rfl rfl rfl ?_
          refine TF_gskip rfl rfl rfl rfl rfl ?_
          refine TF_anchor rfl ?_
          refine TL_gskip rfl rfl rfl rfl ?_
          refine TF_end GivesTo.g ?_
          refine TF_gskip rfl rfl rfl rfl rfl ?_
          refine TF_y rfl rfl (Y_pick_t rfl rfl) ?_
          refine TF_nil ?_
          refine T_cond_true rfl ?_
          refine T_gives (rl_close (A := A) (c := c) bx l) ?_
          refine T_region ?_
          refine TL_store rfl rfl rfl rfl rfl rfl ?_
          refine TL_nil ?_
          refine T_ret ?_
          refine thenS_ret ?_
          refine inB_ret ?_
          exact ⟨⟨kk + 1, nn, by omega⟩, some .ret, rfl, ⟨rfl, fun h => absurd h.1 hnl⟩, GivesTo.g⟩
      · obtain ⟨⟨k2, n2, hle2⟩, j⟩ := g
        obtain ⟨hj, hn2⟩ := lk_runs hrun 0 rfl rfl (fun i x hx => by have := from_at2 hi hf hseq.2 i x hx; rwa [Nat.zero_add])
        dsimp only at hj hn2
        subst hj
        have hxl : xs.length = pfx l - f := by have := congrArg List.length (hseq.1 rfl); rwa [List.length_map, fromL_len2 hi hf] at this
        try simp only [List.cons_append, List.nil_append]
        refine behind_none ?_
        refine inB_normal ?_
        refine thenS_normal ?_
        refine T_region ?_
        refine TL_y rfl rfl (Y_load rfl rfl) ?_
        refine TL_y rfl rfl (Y_load rfl rfl) ?_
        refine TL_y rfl rfl (Y_eq rfl rfl) ?_
        refine TL_y rfl rfl (Y_move rfl) ?_
        refine TL_splitd 114 rfl (fun h114 => ?_) (fun h114 => ?_)
        · refine TL_gskip rfl rfl rfl rfl ?_
          refine TL_gskip rfl rfl rfl rfl ?_
          refine TL_gskip rfl rfl rfl rfl ?_
          refine TL_gskip rfl rfl rfl rfl ?_
          refine TL_gskip_u rfl rfl rfl ?_
          refine TL_gskip_u rfl rfl rfl ?_
          refine TL_gskip_u rfl rfl rfl ?_
          refine TL_gskip rfl rfl rfl rfl ?_
          refine TL_y rfl rfl (Y_pick_t rfl rfl) ?_
          refine TL_store rfl rfl rfl rfl rfl rfl ?_
          refine TL_nil ?_
          refine T_ret ?_
          refine retM1 ?_
          exact RetG_1 (.inl rfl) rfl (ResV.cell rfl rfl) GivesTo.g (⟨rfl, rfl⟩)
        · refine TL_grun rfl rfl ?_
          refine TL_y rfl rfl (Y_move rfl) ?_
          refine TL_grun rfl rfl ?_
          refine TL_y rfl rfl (Y_load rfl rfl) ?_
          refine TL_grun rfl rfl ?_
          refine TL_y rfl rfl (Y_gt rfl rfl) ?_
          refine TL_name 117 (v' := .bool true) rfl (congrArg Value.bool (decide_eq_true (by omega))) ?_
          refine TL_grun rfl rfl ?_
          refine TL_y rfl rfl (Y_move rfl) ?_
          refine TL_grun rfl rfl ?_
          refine TL_y rfl rfl (Y_load rfl rfl) ?_
          refine TL_grun rfl rfl ?_
          refine TL_y rfl rfl (Y_move rfl) ?_
          refine TL_grun rfl rfl ?_
          refine TL_y rfl rfl (Y_eq rfl rfl) ?_
          refine TL_name 121 (v' := .bool true) rfl (congrArg Value.bool (decide_eq_true (by omega))) ?_
          refine TL_grun rfl rfl ?_
          refine TL_y rfl rfl (Y_pick_t rfl rfl) ?_
          refine TL_y rfl rfl (Y_pick_f rfl rfl) ?_
          refine TL_store rfl rfl rfl rfl rfl rfl ?_
          refine TL_nil ?_
          refine T_ret ?_
          refine retM1 ?_
          exact RetG_1 (.inl rfl) rfl (ResV.cell rfl rfl) GivesTo.g (⟨rfl, rfl⟩)
end Go.SL
