/- Seal: entries carried out again. -/
import Derived.Test.YtcpknfcckekhdaaSealRow
set_option linter.unusedVariables false
set_option linter.unusedSimpArgs false
namespace Go.SL
open Go Go.Proofs
/-- What was told of each entry. -/
def toldS (l : List EntryD) (i : Nat) : OrdD := match l[i]? with | some e => (doS (runS (l.take i)) e).2.1 | none => ord0
def tolds (l : List EntryD) (k : Nat) : List OrdD := (List.range k).map (toldS l)
theorem tolds_next (l : List EntryD) (k : Nat) : tolds l (k + 1) = tolds l k ++ [toldS l k] := by simp [tolds, List.range_succ]
theorem tolds_at {l : List EntryD} {k i : Nat} (h : i < k) : (tolds l k)[i]? = some (toldS l i) := by simp [tolds, List.getElem?_range h]
theorem toldS_at {l : List EntryD} {i : Nat} {e : EntryD} (h : l[i]? = some e) : toldS l i = (doS (runS (l.take i)) e).2.1 := by simp [toldS, h]
theorem runS_append (a b : List EntryD) : ∃ r, (runS (a ++ b)).os = (runS a).os ++ r := by
  have key : ∀ (b : List EntryD) s, ∃ r, (b.foldl (fun s e => (doS s e).1) s).os = s.os ++ r := by
    intro b; induction b with
    | nil => intro s; exact ⟨[], by simp⟩
    | cons e b ih =>
      intro s
      obtain ⟨r, hr⟩ := ih (doS s e).1
      rw [List.foldl_cons, hr]
      rcases doS_os s e with h | h
      · exact ⟨r, by rw [h]⟩
      · exact ⟨newS s.os e.order :: r, by rw [h]; simp⟩
  obtain ⟨r, hr⟩ := key b (runS a)
  exact ⟨r, by rw [← hr]; simp [runS, List.foldl_append]⟩
theorem tokS_append {a : List OrdD} {t : ByteArray} {o : OrdD} (h : tokS a t = some o) (r : List OrdD) : tokS (a ++ r) t = some o := by
  unfold tokS at h ⊢; rw [List.find?_append, h]; rfl
theorem doS_told {s : SM} {e : EntryD} (h : (doS s e).2.1.id ≠ 0) : rEntry e ∧ ¬ e.noop = true ∧ tokS (doS s e).1.os e.order.token = some (doS s e).2.1 := by
  revert h
  refine doS_cases s e (fun r => r.2.1.id ≠ 0 → rEntry e ∧ ¬ e.noop = true ∧ tokS r.1.os e.order.token = some r.2.1) ?_ ?_ ?_ ?_ ?_ ?_
  · intro _ h; exact absurd rfl h
  · intro _ _ h; exact absurd rfl h
  · intro h1 h2 o ho _; exact ⟨h1, h2, ho⟩
  · intro _ _ _ _ h; exact absurd rfl h
  · intro _ _ _ _ _ h; exact absurd rfl h
  · intro h1 h2 h3 _ _ _
    refine ⟨h1, h2, ?_⟩
    unfold tokS at h3 ⊢
    simp only
    rw [List.find?_append, h3]; simp [newS]
theorem doS_made {s : SM} {e : EntryD} (h : (doS s e).2.2.1 = true) : tokS s.os e.order.token = none ∧ (doS s e).2.2.2 = 0 ∧ (doS s e).1.os = s.os ++ [newS s.os e.order] ∧ (doS s e).2.1 = newS s.os e.order := by
  revert h
  refine doS_cases s e (fun r => r.2.2.1 = true → tokS s.os e.order.token = none ∧ r.2.2.2 = 0 ∧ r.1.os = s.os ++ [newS s.os e.order] ∧ r.2.1 = newS s.os e.order) ?_ ?_ ?_ ?_ ?_ ?_
  · intro _ h; cases h
  · intro _ _ h; cases h
  · intro _ _ _ _ h; cases h
  · intro _ _ _ _ h; cases h
  · intro _ _ _ _ _ h; cases h
  · intro _ _ h _ _ _; exact ⟨h, rfl, rfl, rfl⟩
theorem doS_unmade {s : SM} {e : EntryD} (h : (doS s e).2.2.1 = false) : (doS s e).1.os = s.os := by
  revert h
  refine doS_cases s e (fun r => r.2.2.1 = false → r.1.os = s.os) ?_ ?_ ?_ ?_ ?_ ?_ <;> intros <;> first | rfl | contradiction
theorem doS_found {s : SM} {e : EntryD} {o : OrdD} (h1 : rEntry e) (h2 : ¬ e.noop = true) (h : tokS s.os e.order.token = some o) : (doS s e).2.1 = o := by
  refine doS_cases s e (fun r => r.2.1 = o) ?_ ?_ ?_ ?_ ?_ ?_
  · intro k; exact absurd h1 k
  · intro _ k; exact absurd k h2
  · intro _ _ o' h'; rw [h] at h'; exact (Option.some.inj h').symm
  · intro _ _ k; rw [h] at k; cases k
  · intro _ _ k; rw [h] at k; cases k
  · intro _ _ k; rw [h] at k; cases k
/-- The entries again, behind all of them. -/
theorem again {l : List EntryD} {i : Nat} {e : EntryD} (h : l[i]? = some e) (hid : (toldS l i).id ≠ 0) : tokS (runS (l ++ l.take i)).os e.order.token = some (toldS l i) ∧ (doS (runS (l ++ l.take i)) e).2.1 = toldS l i := by
  rw [toldS_at h] at hid
  obtain ⟨h1, h2, h3⟩ := doS_told hid
  rw [← runS_next h] at h3
  obtain ⟨r, hr⟩ := runS_append (l.take (i + 1)) (l.drop (i + 1) ++ l.take i)
  rw [← List.append_assoc, List.take_append_drop] at hr
  have h4 := tokS_append h3 r
  rw [← hr] at h4
  rw [toldS_at h]
  exact ⟨h4, doS_found h1 h2 h4⟩
theorem runS_next2 {l : List EntryD} {i : Nat} {e : EntryD} (h : l[i]? = some e) : runS (l ++ l.take (i + 1)) = (doS (runS (l ++ l.take i)) e).1 := by
  rw [take_at h, ← List.append_assoc]; simp [runS, List.foldl_append]
theorem run_dn2 {l : List EntryD} {i : Nat} (hl : l.length ≤ 17592186044416) : intIn .i64 ((runS (l ++ l.take i)).dn + 1) := by
  have h := runS_dn (l ++ l.take i)
  rw [List.length_append, List.length_take] at h
  refine i64In_mk ?_; omega
def OksS (s : SM) : Prop := ∀ o ∈ s.os, ordOk o
theorem OksS.zero : OksS ⟨[], 0⟩ := fun o h => by cases h
theorem OksS.next {s : SM} (h : OksS s) (hl : s.os.length ≤ 65536) {e : EntryD} (he : orderOk' e.order) : OksS (doS s e).1 ∧ ordOk (doS s e).2.1 := by
  have hn : ordOk (newS s.os e.order) := ⟨i64In_mk (by show -9223372036854775808 ≤ ((s.os.length : Nat) : Int) + 1 ∧ ((s.os.length : Nat) : Int) + 1 ≤ 9223372036854775807; omega), he⟩
  refine doS_cases s e (fun r => OksS r.1 ∧ ordOk r.2.1) ?_ ?_ ?_ ?_ ?_ ?_
  · intro _; exact ⟨h, ord0_ok⟩
  · intro _ _; exact ⟨h, ord0_ok⟩
  · intro _ _ o ho; exact ⟨h, h o (List.mem_of_find?_eq_some ho)⟩
  · intro _ _ _ _; exact ⟨h, ord0_ok⟩
  · intro _ _ _ _ _; exact ⟨h, ord0_ok⟩
  · intro _ _ _ _ _
    refine ⟨fun o ho => ?_, hn⟩
    rcases List.mem_append.1 ho with h1 | h1
    · exact h o h1
    · simp at h1; subst h1; exact hn
theorem sealAgain_walk {L : List HP} {A : Option Addr} {c : Nat} {l : List EntryD} (hk : SlK L entryR A c l) (hl : SLimits l) (hl2 : l.length ≤ 1048576) : Fn Try.prog 3 #[.slice A l.length c] L (fun v L' => v = .bool true ∧ L' = L) := by
  have hl17 := hl.1
  refine Fn_enter Try.func3 rfl rfl rfl rfl ?_
  refine T_gives hk.lay ?_
  refine T_region ?_
  refine TL_y rfl rfl (Y_assign rfl) ?_
  refine TL_nil ?_
  refine T_region ?_
  refine TL_call rfl rfl (sealNew_spec _) ?_
  rintro _ _ ⟨b1, rfl, rfl⟩
  refine TL_y rfl rfl (Y_assign rfl) ?_
  refine TL_nil ?_
  refine T_seq ?_
  refine T_region ?_
  refine TL_call rfl rfl (lives19_spec _) ?_
  rintro _ _ ⟨rfl, rfl⟩
  refine TL_name 18 (v' := .bool true) rfl (rfl) ?_
  refine TL_y rfl rfl (Y_not_t rfl) ?_
  refine TL_y rfl rfl (Y_move rfl) ?_
  refine TL_grun rfl rfl ?_
  refine TL_y rfl rfl (Y_move rfl) ?_
  refine TL_grun rfl rfl ?_
  refine TL_y rfl rfl (Y_equal rfl rfl (EqIs.ptr_nil)) ?_
  refine TL_y rfl rfl (Y_pick_f rfl rfl) ?_
  refine TL_name 23 (v' := .bool false) rfl (by simp) ?_
  refine TL_nil ?_
  refine T_cond_false rfl ?_
  refine T_skip ?_
  refine thenS_normal ?_
  refine T_region ?_
  refine TL_y rfl rfl (Y_assign rfl) ?_
  refine TL_nil ?_
  refine T_seq ?_
  refine T_region ?_
  refine TL_y rfl rfl (Y_assign rfl) ?_
  refine TL_nil ?_
  refine T_block ?_
  refine T_loopK (σ := LpSt) [0, 3] (fun g => g.i ≤ l.length ∧ OksS (runS (l.take g.i))) (fun g kv => (5, .int .i64 (g.i : Int)) :: (4, .slice g.A (tolds l g.i).length g.c) :: kv) (fun g => osl ordR 29 g.A g.c (tolds l g.i) :: sm b1 (runS (l.take g.i)) :: sl entryR A c l :: L) (fun g => l.length - g.i) (⟨0, none, 0⟩) rfl (⟨Nat.zero_le _, OksS.zero⟩) (osl_nil _ _ _ _) (sub_cons rfl (sub_cons rfl (sub_cons rfl (sub_cons rfl (sub_nil))))) ?_
  rintro ⟨i, A2, c2⟩ ⟨hi, hks⟩
  dsimp only at hi hks ⊢
  refine T_seq ?_
  refine T_region ?_
  refine TL_y rfl rfl (Y_move rfl) ?_
  refine TL_y rfl rfl (Y_move rfl) ?_
  refine TL_y rfl rfl (Y_len rfl) ?_
  refine TL_y rfl rfl (Y_lt rfl rfl) ?_
  refine TL_nil ?_
  refine T_if rfl (fun h27 => ?_) (fun h27 => ?_)
  · refine T_skip ?_
    refine thenS_normal ?_
    refine T_seq ?_
    refine T_block ?_
    refine T_region ?_
    refine TL_y rfl rfl (Y_move rfl) ?_
    refine TL_y rfl rfl (Y_move rfl) ?_
    refine TL_y rfl rfl (Y_move rfl) ?_
    obtain ⟨u, hu⟩ : ∃ u, l[i]? = some u := ⟨_, List.getElem?_eq_getElem (by omega)⟩
    have hnx := runS_next hu
    have hto := toldS_at hu
    have h65 := (SOk.run (l.take i)).len
    refine TL_index_n rfl rfl rfl (rfl) (sln) (hu) ?_
    intro bn34 on34 hA34 hk34
    have hu34 := hu
    refine TL_load_nx rfl rfl hk34 hu34 (fun _ => rfl) ?_
    intro p35 ok35
    simp only [List.cons_append, List.nil_append]
    refine TL_pullk b1 ?_
    refine TL_call rfl rfl (sealDo_spec u ok35 slk (hl.2 u (List.mem_of_getElem? hu)) (run_dn1 hl17)) ?_
    rintro _ _ ⟨A36, c36, rfl, rfl⟩
    have hnk := hks.next h65 ok35
    rw [← hnx, ← hto] at hnk ⊢
    refine TL_y rfl rfl (Y_move rfl) ?_
    refine TL_y rfl rfl (Y_extract rfl rfl) ?_
    refine TL_y rfl rfl (Y_extract rfl rfl) ?_
    refine TL_y rfl rfl (Y_extract rfl rfl) ?_
    refine TL_alloc rfl rfl ?_
    intro b6
    refine TL_store rfl rfl rfl rfl rfl rfl ?_
    refine TL_y rfl rfl (Y_assign rfl) ?_
    refine TL_y rfl rfl (Y_assign rfl) ?_
    refine TL_nil ?_
    refine T_region_last ?_
    refine TL_y rfl rfl (Y_move rfl) ?_
    refine TL_y rfl rfl (Y_load_agg rfl rfl) ?_
    refine TL_build_slice rfl rfl rfl rfl rfl rfl ?_
    intro b42
    refine TL_osl (k := 1) ordR [toldS l i] (cells_one (ord_rep slk hnk.2)) rfl (by decide) ?_
    refine TL_freeze_osl ?_
    refine TL_name 42 (v' := .slice (some ⟨b42, 0, none⟩) [toldS l i].length 1) rfl rfl ?_
    refine TL_append rfl rfl rfl rfl rfl slk (by simp only [tolds, List.length_map, List.length_range, List.length_cons, List.length_nil]; omega) ?_
    intro A43 c43
    rw [← tolds_next]
    refine TL_y rfl rfl (Y_assign rfl) ?_
    refine TL_nil ?_
    refine inB_normal ?_
    refine thenS_normal ?_
    refine T_region_last ?_
    refine TL_y rfl rfl (Y_move rfl) ?_
    refine TL_y rfl rfl (Y_add rfl rfl (by omega)) ?_
    refine TL_name 29 (v' := .int .i64 ((i + 1 : Nat) : Int)) rfl (rfl) ?_
    refine TL_y rfl rfl (Y_assign rfl) ?_
    refine TL_nil ?_
    refine thenS_normal ?_
    exact ⟨⟨i + 1, A43, c43⟩, ⟨by simp only; omega, hnk.1⟩, by simp only; omega, holds_to (sub_cons rfl (sub_cons rfl (sub_cons rfl (sub_cons rfl (sub_nil))))) GivesTo.g⟩
  · refine T_exit ?_
    refine thenS_exit ?_
    refine thenS_exit ?_
    refine inB_hit ?_
    refine thenS_normal ?_
    obtain rfl : i = l.length := by omega
    rw [List.take_length]
    have hB65 := (SOk.run l).len
    have htl : (tolds l l.length).length = l.length := by simp [tolds]
    refine T_region ?_
    refine TL_y rfl rfl (Y_move rfl) ?_
    refine TL_pullk b1 ?_
    refine TL_call rfl rfl (sealOrders_spec) ?_
    rintro _ _ ⟨A45, c45, rfl, _, rfl⟩
    refine TL_freeze_osl ?_
    refine TL_pullo A2 c2 ?_
    refine TL_freeze_osl ?_
    refine TL_y rfl rfl (Y_assign rfl) ?_
    refine TL_nil ?_
    refine T_seq ?_
    refine T_region ?_
    refine TL_y rfl rfl (Y_assign rfl) ?_
    refine TL_nil ?_
    refine T_block ?_
    refine T_loopK (σ := Nat) [0, 3, 4, 9] (fun j => j ≤ l.length) (fun j kv => (10, .int .i64 (j : Int)) :: kv) (fun j => sl ordR A2 c2 (tolds l l.length) :: sl ordR A45 c45 (runS l).os :: sm b1 (runS (l ++ l.take j)) :: sl entryR A c l :: L) (fun j => l.length - j) (0) rfl (Nat.zero_le _) (by simp only [List.take_zero, List.append_nil]; exact GivesTo.g) (sub_cons rfl (sub_cons rfl (sub_cons rfl (sub_cons rfl (sub_cons rfl (sub_nil)))))) ?_
    intro j hj
    refine T_seq ?_
    refine T_region ?_
    refine TL_y rfl rfl (Y_move rfl) ?_
    refine TL_y rfl rfl (Y_move rfl) ?_
    refine TL_y rfl rfl (Y_len rfl) ?_
    refine TL_y rfl rfl (Y_lt rfl rfl) ?_
    refine TL_nil ?_
    refine T_if rfl (fun h49 => ?_) (fun h49 => ?_)
    · refine T_skip ?_
      refine thenS_normal ?_
      refine T_seq ?_
      refine T_block ?_
      refine T_region ?_
      refine TL_y rfl rfl (Y_move rfl) ?_
      refine TL_y rfl rfl (Y_move rfl) ?_
      refine TL_y rfl rfl (Y_move rfl) ?_
      obtain ⟨u, hu⟩ : ∃ u, l[j]? = some u := ⟨_, List.getElem?_eq_getElem (by omega)⟩
      have hnx := runS_next2 hu
      have hat := tolds_at (l := l) (k := l.length) (i := j) (by omega)
      have hag := again hu
      have hmd := doS_made (s := runS (l ++ l.take j)) (e := u)
      refine TL_index_n rfl rfl rfl (rfl) (sln) (hu) ?_
      intro bn56 on56 hA56 hk56
      have hu56 := hu
      refine TL_y rfl rfl (Y_field_addr2 rfl) ?_
      refine TL_y rfl rfl (Y_field_addr2 rfl) ?_
      refine TL_y rfl rfl (Y_load_nx rfl hk56 hu56 (fun _ => rfl)) ?_
      refine TL_elem_fact (p := orderOk' u.order) hk56 hu56 (fun M l h => by obtain ⟨p, _, _, q⟩ := h; exact q) fun okt => ?_
      refine TL_pullk b1 ?_
      refine TL_call rfl rfl (sealToken_spec u.order.token okt.1) ?_
      rintro _ _ ⟨A60, c60, rfl, rfl⟩
      refine TL_y rfl rfl (Y_move rfl) ?_
      refine TL_y rfl rfl (Y_extract rfl rfl) ?_
      refine TL_y rfl rfl (Y_extract rfl rfl) ?_
      refine TL_alloc rfl rfl ?_
      intro b11
      refine TL_store rfl rfl rfl rfl rfl rfl ?_
      refine TL_y rfl rfl (Y_assign rfl) ?_
      refine TL_nil ?_
      refine T_region ?_
      refine TL_y rfl rfl (Y_move rfl) ?_
      refine TL_y rfl rfl (Y_move rfl) ?_
      refine TL_y rfl rfl (Y_move rfl) ?_
      refine TL_index_n rfl rfl rfl (rfl) (sln) (hu) ?_
      intro bn67 on67 hA67 hk67
      have hu67 := hu
      refine TL_load_nx rfl rfl hk67 hu67 (fun _ => rfl) ?_
      intro p68 ok68
      simp only [List.cons_append, List.nil_append]
      refine TL_pullk b1 ?_
      refine TL_call rfl rfl (sealDo_spec u ok68 slk (hl.2 u (List.mem_of_getElem? hu)) (run_dn2 hl17)) ?_
      rintro _ _ ⟨A69, c69, rfl, rfl⟩
      rw [← hnx]
      refine TL_y rfl rfl (Y_move rfl) ?_
      refine TL_y rfl rfl (Y_extract rfl rfl) ?_
      refine TL_y rfl rfl (Y_extract rfl rfl) ?_
      refine TL_y rfl rfl (Y_extract rfl rfl) ?_
      refine TL_alloc rfl rfl ?_
      intro b13
      refine TL_store rfl rfl rfl rfl rfl rfl ?_
      refine TL_y rfl rfl (Y_assign rfl) ?_
      refine TL_y rfl rfl (Y_assign rfl) ?_
      refine TL_nil ?_
      refine T_seq ?_
      refine T_addr_n (sln (A := A2) (c := c2)) hat fun bq oq eq => ?_
      subst eq
      have hmf : (tokS (runS (l ++ l.take j)).os u.order.token).isSome = true → (doS (runS (l ++ l.take j)) u).2.2.1 = false := fun h => by cases e : (doS (runS (l ++ l.take j)) u).2.2.1 with | false => rfl | true => have := (hmd e).1; rw [this] at h; cases h
      refine T_region_draw _ [0, 1, 3, 7, 15, 15, 63, 127, 255, 511, 1023, 2047, 4095, 2047, 2047, 26623, 59391, 124927, 262143, 524287, 1048575, 2097151] [] [(0, true), (1, true), (2, true), (3, true), (4, true), (5, true), (6, true), (7, true), (8, true), (9, true), (10, true), (11, true), (12, true), (13, true), (14, true), (15, true), (16, true), (17, true), (18, true), (19, true), (20, true), (21, true)] (by kernel_rfl) (by decide +kernel) (Gives.refl _) ?_
      refine TF_y rfl rfl (Y_move rfl) ?_
      refine TF_y rfl rfl (Y_move rfl) ?_
      refine TF_split 74 rfl (fun h74 => ?_) (fun h74 => ?_)
      · refine TF_gy rfl rfl rfl rfl (Y_move rfl) ?_
        refine TF_gy rfl rfl rfl rfl (Y_move rfl) ?_
        refine TF_name 76 (v' := .bool false) rfl (congrArg Value.bool (hmf h74)) ?_
        refine TF_gy rfl rfl rfl rfl (Y_move rfl) ?_
        refine TF_gy rfl rfl rfl rfl (Y_move rfl) ?_
        refine TF_gy rfl rfl rfl rfl (Y_index_n (R := ordR) (xs := tolds l l.length) rfl rfl rfl hat) ?_
        refine TF_gy rfl rfl rfl rfl (Y_field_addr2 rfl) ?_
        refine TF_gy rfl rfl rfl rfl (Y_load_nx (q := 0) rfl (sln (R := ordR) (A := some ⟨bq, oq, none⟩) (c := c2) (xs := tolds l l.length)) hat (fun _ => rfl)) ?_
        refine TF_gy rfl rfl rfl rfl (Y_gt rfl rfl) ?_
        refine TF_gy rfl rfl rfl rfl (Y_move rfl) ?_
        refine TF_splitd 83 rfl (fun h83 => ?_) (fun h83 => ?_)
        · refine TF_gy rfl rfl rfl rfl (Y_field_addr rfl) ?_
          refine TF_gy rfl rfl rfl rfl (Y_load rfl rfl) ?_
          refine TF_gy rfl rfl rfl rfl (Y_move rfl) ?_
          refine TF_gy rfl rfl rfl rfl (Y_move rfl) ?_
          refine TF_gy rfl rfl rfl rfl (Y_index_n (R := ordR) (xs := tolds l l.length) rfl rfl rfl hat) ?_
          refine TF_gy rfl rfl rfl rfl (Y_field_addr2 rfl) ?_
          refine TF_gy rfl rfl rfl rfl (Y_load_nx (q := 0) rfl (sln (R := ordR) (A := some ⟨bq, oq, none⟩) (c := c2) (xs := tolds l l.length)) hat (fun _ => rfl)) ?_
          refine TF_gy rfl rfl rfl rfl (Y_ne rfl rfl) ?_
          refine TF_name 91 (v' := .bool false) rfl (congrArg Value.bool (decide_eq_false (by rw [(hag (by omega)).2]; simp))) ?_
          refine TF_gy rfl rfl rfl rfl (Y_pick_t rfl rfl) ?_
          refine TF_gy rfl rfl rfl rfl (Y_pick_f rfl rfl) ?_
          refine TF_y rfl rfl (Y_pick_t rfl rfl) ?_
          refine TF_nil ?_
          refine T_cond_false rfl ?_
          refine T_skip ?_
          refine thenS_normal ?_
          refine T_region ?_
          refine TL_y rfl rfl (Y_move rfl) ?_
          refine TL_y rfl rfl (Y_move rfl) ?_
          refine TL_split 96 rfl (fun h96 => ?_) (fun h96 => ?_)
          · refine TL_grun rfl rfl ?_
            refine TL_y rfl rfl (Y_move rfl) ?_
            refine TL_grun rfl rfl ?_
            refine TL_y rfl rfl (Y_ne rfl rfl) ?_
            refine TL_name 98 (v' := .bool false) rfl (congrArg Value.bool (decide_eq_false (by rw [(hmd h96).2.1]; simp))) ?_
            refine TL_grun rfl rfl ?_
            refine TL_y rfl rfl (Y_move rfl) ?_
            refine TL_grun rfl rfl ?_
            refine TL_y rfl rfl (Y_move rfl) ?_
            refine TL_grun rfl rfl ?_
            refine TL_y rfl rfl (Y_move rfl) ?_
            refine TL_grun rfl rfl ?_
            refine TL_y rfl rfl (Y_index_n (R := ordR) (xs := tolds l l.length) rfl rfl rfl hat) ?_
            refine TL_grun rfl rfl ?_
            refine TL_y rfl rfl (Y_field_addr2 rfl) ?_
            refine TL_grun rfl rfl ?_
            refine TL_y rfl rfl (Y_load_nx (q := 0) rfl (sln (R := ordR) (A := some ⟨bq, oq, none⟩) (c := c2) (xs := tolds l l.length)) hat (fun _ => rfl)) ?_
            refine TL_grun rfl rfl ?_
            refine TL_y rfl rfl (Y_ne rfl rfl) ?_
            refine TL_name 105 (v' := .bool false) rfl (congrArg Value.bool (decide_eq_false (fun hne => by have := (hag hne).1; rw [(hmd h96).1] at this; cases this))) ?_
            refine TL_grun rfl rfl ?_
            refine TL_y rfl rfl (Y_pick_f rfl rfl) ?_
            refine TL_y rfl rfl (Y_pick_t rfl rfl) ?_
            refine TL_nil ?_
            refine T_cond_false rfl ?_
            refine T_skip ?_
            refine inB_normal ?_
            refine thenS_normal ?_
            refine T_region_last ?_
            refine TL_y rfl rfl (Y_move rfl) ?_
            refine TL_y rfl rfl (Y_add rfl rfl (by omega)) ?_
            refine TL_name 51 (v' := .int .i64 ((j + 1 : Nat) : Int)) rfl (rfl) ?_
            refine TL_y rfl rfl (Y_assign rfl) ?_
            refine TL_nil ?_
            refine thenS_normal ?_
            exact ⟨j + 1, by omega, by omega, holds_to (sub_cons rfl (sub_cons rfl (sub_cons rfl (sub_cons rfl (sub_cons rfl (sub_nil)))))) GivesTo.g⟩
          · refine TL_gskip rfl rfl rfl rfl ?_
            refine TL_gskip rfl rfl rfl rfl ?_
            refine TL_gskip rfl rfl rfl rfl ?_
            refine TL_gskip_u rfl rfl rfl ?_
            refine TL_gskip_u rfl rfl rfl ?_
            refine TL_gskip_u rfl rfl rfl ?_
            refine TL_gskip_u rfl rfl rfl ?_
            refine TL_gskip_u rfl rfl rfl ?_
            refine TL_gskip_u rfl rfl rfl ?_
            refine TL_gskip rfl rfl rfl rfl ?_
            refine TL_y rfl rfl (Y_pick_f rfl rfl) ?_
            refine TL_nil ?_
            refine T_cond_false rfl ?_
            refine T_skip ?_
            refine inB_normal ?_
            refine thenS_normal ?_
            refine T_region_last ?_
            refine TL_y rfl rfl (Y_move rfl) ?_
            refine TL_y rfl rfl (Y_add rfl rfl (by omega)) ?_
            refine TL_name 51 (v' := .int .i64 ((j + 1 : Nat) : Int)) rfl (rfl) ?_
            refine TL_y rfl rfl (Y_assign rfl) ?_
            refine TL_nil ?_
            refine thenS_normal ?_
            exact ⟨j + 1, by omega, by omega, holds_to (sub_cons rfl (sub_cons rfl (sub_cons rfl (sub_cons rfl (sub_cons rfl (sub_nil)))))) GivesTo.g⟩
        · refine TF_gskip rfl rfl rfl rfl rfl ?_
          refine TF_gskip rfl rfl rfl rfl rfl ?_
          refine TF_gskip rfl rfl rfl rfl rfl ?_
          refine TF_gskip rfl rfl rfl rfl rfl ?_
          refine TF_gskip rfl rfl rfl rfl rfl ?_
          refine TF_gskip rfl rfl rfl rfl rfl ?_
          refine TF_gskip rfl rfl rfl rfl rfl ?_
          refine TF_gskip rfl rfl rfl rfl rfl ?_
          refine TF_gy rfl rfl rfl rfl (Y_pick_f rfl rfl) ?_
          refine TF_gy rfl rfl rfl rfl (Y_pick_f rfl rfl) ?_
          refine TF_y rfl rfl (Y_pick_t rfl rfl) ?_
          refine TF_nil ?_
          refine T_cond_false rfl ?_
          refine T_skip ?_
          refine thenS_normal ?_
          refine T_region ?_
          refine TL_y rfl rfl (Y_move rfl) ?_
          refine TL_y rfl rfl (Y_move rfl) ?_
          refine TL_split 96 rfl (fun h96 => ?_) (fun h96 => ?_)
          · refine TL_grun rfl rfl ?_
            refine TL_y rfl rfl (Y_move rfl) ?_
            refine TL_grun rfl rfl ?_
            refine TL_y rfl rfl (Y_ne rfl rfl) ?_
            refine TL_name 98 (v' := .bool false) rfl (congrArg Value.bool (decide_eq_false (by rw [(hmd h96).2.1]; simp))) ?_
            refine TL_grun rfl rfl ?_
            refine TL_y rfl rfl (Y_move rfl) ?_
            refine TL_grun rfl rfl ?_
            refine TL_y rfl rfl (Y_move rfl) ?_
            refine TL_grun rfl rfl ?_
            refine TL_y rfl rfl (Y_move rfl) ?_
            refine TL_grun rfl rfl ?_
            refine TL_y rfl rfl (Y_index_n (R := ordR) (xs := tolds l l.length) rfl rfl rfl hat) ?_
            refine TL_grun rfl rfl ?_
            refine TL_y rfl rfl (Y_field_addr2 rfl) ?_
            refine TL_grun rfl rfl ?_
            refine TL_y rfl rfl (Y_load_nx (q := 0) rfl (sln (R := ordR) (A := some ⟨bq, oq, none⟩) (c := c2) (xs := tolds l l.length)) hat (fun _ => rfl)) ?_
            refine TL_grun rfl rfl ?_
            refine TL_y rfl rfl (Y_ne rfl rfl) ?_
            refine TL_name 105 (v' := .bool false) rfl (congrArg Value.bool (decide_eq_false (fun hne => by have := (hag hne).1; rw [(hmd h96).1] at this; cases this))) ?_
            refine TL_grun rfl rfl ?_
            refine TL_y rfl rfl (Y_pick_f rfl rfl) ?_
            refine TL_y rfl rfl (Y_pick_t rfl rfl) ?_
            refine TL_nil ?_
            refine T_cond_false rfl ?_
            refine T_skip ?_
            refine inB_normal ?_
            refine thenS_normal ?_
            refine T_region_last ?_
            refine TL_y rfl rfl (Y_move rfl) ?_
            refine TL_y rfl rfl (Y_add rfl rfl (by omega)) ?_
            refine TL_name 51 (v' := .int .i64 ((j + 1 : Nat) : Int)) rfl (rfl) ?_
            refine TL_y rfl rfl (Y_assign rfl) ?_
            refine TL_nil ?_
            refine thenS_normal ?_
            exact ⟨j + 1, by omega, by omega, holds_to (sub_cons rfl (sub_cons rfl (sub_cons rfl (sub_cons rfl (sub_cons rfl (sub_nil)))))) GivesTo.g⟩
          · refine TL_gskip rfl rfl rfl rfl ?_
            refine TL_gskip rfl rfl rfl rfl ?_
            refine TL_gskip rfl rfl rfl rfl ?_
            refine TL_gskip_u rfl rfl rfl ?_
            refine TL_gskip_u rfl rfl rfl ?_
            refine TL_gskip_u rfl rfl rfl ?_
            refine TL_gskip_u rfl rfl rfl ?_
            refine TL_gskip_u rfl rfl rfl ?_
            refine TL_gskip_u rfl rfl rfl ?_
            refine TL_gskip rfl rfl rfl rfl ?_
            refine TL_y rfl rfl (Y_pick_f rfl rfl) ?_
            refine TL_nil ?_
            refine T_cond_false rfl ?_
            refine T_skip ?_
            refine inB_normal ?_
            refine thenS_normal ?_
            refine T_region_last ?_
            refine TL_y rfl rfl (Y_move rfl) ?_
            refine TL_y rfl rfl (Y_add rfl rfl (by omega)) ?_
            refine TL_name 51 (v' := .int .i64 ((j + 1 : Nat) : Int)) rfl (rfl) ?_
            refine TL_y rfl rfl (Y_assign rfl) ?_
            refine TL_nil ?_
            refine thenS_normal ?_
            exact ⟨j + 1, by omega, by omega, holds_to (sub_cons rfl (sub_cons rfl (sub_cons rfl (sub_cons rfl (sub_cons rfl (sub_nil)))))) GivesTo.g⟩
      · refine TF_gskip rfl rfl rfl rfl rfl ?_
        refine TF_gskip rfl rfl rfl rfl rfl ?_
        refine TF_gskip_u rfl rfl rfl rfl ?_
        refine TF_gskip_u rfl rfl rfl rfl ?_
        refine TF_gskip_u rfl rfl rfl rfl ?_
        refine TF_gskip_u rfl rfl rfl rfl ?_
        refine TF_gskip_u rfl rfl rfl rfl ?_
        refine TF_gskip_u rfl rfl rfl rfl ?_
        refine TF_gskip_u rfl rfl rfl rfl ?_
        refine TF_gskip_u rfl rfl rfl rfl ?_
        refine TF_gskip_u rfl rfl rfl rfl ?_
        refine TF_gskip_u rfl rfl rfl rfl ?_
        refine TF_gskip_u rfl rfl rfl rfl ?_
        refine TF_gskip_u rfl rfl rfl rfl ?_
        refine TF_gskip_u rfl rfl rfl rfl ?_
        refine TF_gskip_u rfl rfl rfl rfl ?_
        refine TF_gskip_u rfl rfl rfl rfl ?_
        refine TF_gskip_u rfl rfl rfl rfl ?_
        refine TF_gskip rfl rfl rfl rfl rfl ?_
        refine TF_y rfl rfl (Y_pick_f rfl rfl) ?_
        refine TF_nil ?_
        refine T_cond_false rfl ?_
        refine T_skip ?_
        refine thenS_normal ?_
        refine T_region ?_
        refine TL_y rfl rfl (Y_move rfl) ?_
        refine TL_y rfl rfl (Y_move rfl) ?_
        refine TL_split 96 rfl (fun h96 => ?_) (fun h96 => ?_)
        · refine TL_grun rfl rfl ?_
          refine TL_y rfl rfl (Y_move rfl) ?_
          refine TL_grun rfl rfl ?_
          refine TL_y rfl rfl (Y_ne rfl rfl) ?_
          refine TL_name 98 (v' := .bool false) rfl (congrArg Value.bool (decide_eq_false (by rw [(hmd h96).2.1]; simp))) ?_
          refine TL_grun rfl rfl ?_
          refine TL_y rfl rfl (Y_move rfl) ?_
          refine TL_grun rfl rfl ?_
          refine TL_y rfl rfl (Y_move rfl) ?_
          refine TL_grun rfl rfl ?_
          refine TL_y rfl rfl (Y_move rfl) ?_
          refine TL_grun rfl rfl ?_
          refine TL_y rfl rfl (Y_index_n (R := ordR) (xs := tolds l l.length) rfl rfl rfl hat) ?_
          refine TL_grun rfl rfl ?_
          refine TL_y rfl rfl (Y_field_addr2 rfl) ?_
          refine TL_grun rfl rfl ?_
          refine TL_y rfl rfl (Y_load_nx (q := 0) rfl (sln (R := ordR) (A := some ⟨bq, oq, none⟩) (c := c2) (xs := tolds l l.length)) hat (fun _ => rfl)) ?_
          refine TL_grun rfl rfl ?_
          refine TL_y rfl rfl (Y_ne rfl rfl) ?_
          refine TL_name 105 (v' := .bool false) rfl (congrArg Value.bool (decide_eq_false (fun hne => by have := (hag hne).1; rw [(hmd h96).1] at this; cases this))) ?_
          refine TL_grun rfl rfl ?_
          refine TL_y rfl rfl (Y_pick_f rfl rfl) ?_
          refine TL_y rfl rfl (Y_pick_t rfl rfl) ?_
          refine TL_nil ?_
          refine T_cond_false rfl ?_
          refine T_skip ?_
          refine inB_normal ?_
          refine thenS_normal ?_
          refine T_region_last ?_
          refine TL_y rfl rfl (Y_move rfl) ?_
          refine TL_y rfl rfl (Y_add rfl rfl (by omega)) ?_
          refine TL_name 51 (v' := .int .i64 ((j + 1 : Nat) : Int)) rfl (rfl) ?_
          refine TL_y rfl rfl (Y_assign rfl) ?_
          refine TL_nil ?_
          refine thenS_normal ?_
          exact ⟨j + 1, by omega, by omega, holds_to (sub_cons rfl (sub_cons rfl (sub_cons rfl (sub_cons rfl (sub_cons rfl (sub_nil)))))) GivesTo.g⟩
        · refine TL_gskip rfl rfl rfl rfl ?_
          refine TL_gskip rfl rfl rfl rfl ?_
          refine TL_gskip rfl rfl rfl rfl ?_
          refine TL_gskip_u rfl rfl rfl ?_
          refine TL_gskip_u rfl rfl rfl ?_
          refine TL_gskip_u rfl rfl rfl ?_
          refine TL_gskip_u rfl rfl rfl ?_
          refine TL_gskip_u rfl rfl rfl ?_
          refine TL_gskip_u rfl rfl rfl ?_
          refine TL_gskip rfl rfl rfl rfl ?_
          refine TL_y rfl rfl (Y_pick_f rfl rfl) ?_
          refine TL_nil ?_
          refine T_cond_false rfl ?_
          refine T_skip ?_
          refine inB_normal ?_
          refine thenS_normal ?_
          refine T_region_last ?_
          refine TL_y rfl rfl (Y_move rfl) ?_
          refine TL_y rfl rfl (Y_add rfl rfl (by omega)) ?_
          refine TL_name 51 (v' := .int .i64 ((j + 1 : Nat) : Int)) rfl (rfl) ?_
          refine TL_y rfl rfl (Y_assign rfl) ?_
          refine TL_nil ?_
          refine thenS_normal ?_
          exact ⟨j + 1, by omega, by omega, holds_to (sub_cons rfl (sub_cons rfl (sub_cons rfl (sub_cons rfl (sub_cons rfl (sub_nil)))))) GivesTo.g⟩
    · refine T_exit ?_
      refine thenS_exit ?_
      refine thenS_exit ?_
      refine inB_hit ?_
      refine thenS_normal ?_
      obtain rfl : j = l.length := by omega
      rw [List.take_length]
      obtain ⟨r, hr⟩ := runS_append l l
      have hpl : (runS l).os.length ≤ (runS (l ++ l)).os.length := by rw [hr]; simp
      refine T_region ?_
      refine TL_y rfl rfl (Y_move rfl) ?_
      refine TL_pullk b1 ?_
      refine TL_call rfl rfl (sealOrders_spec) ?_
      rintro _ _ ⟨A109, c109, rfl, _, rfl⟩
      refine TL_freeze_osl ?_
      refine SlK.lensL (slk (A := A109) (c := c109)) fun hl109 => ?_
      refine TL_y rfl rfl (Y_assign rfl) ?_
      refine TL_nil ?_
      refine T_region ?_
      refine TL_y rfl rfl (Y_move rfl) ?_
      refine TL_y rfl rfl (Y_len rfl) ?_
      refine TL_y rfl rfl (Y_move rfl) ?_
      refine TL_y rfl rfl (Y_len rfl) ?_
      refine TL_y rfl rfl (Y_ge rfl rfl) ?_
      refine TL_name 114 (v' := .bool true) rfl (congrArg Value.bool (decide_eq_true (by omega))) ?_
      refine TL_y rfl rfl (Y_move rfl) ?_
      refine TL_grun rfl rfl ?_
      refine TL_y rfl rfl (Y_move rfl) ?_
      refine TL_grun rfl rfl ?_
      refine TL_y rfl rfl (Y_move rfl) ?_
      refine TL_grun rfl rfl ?_
      refine TL_y rfl rfl (Y_len rfl) ?_
      refine TL_grun rfl rfl ?_
      refine TL_y rfl rfl (Y_cut_h rfl rfl (by omega)) ?_
      refine TL_name 119 (v' := .slice A109 ((runS (l ++ l)).os.take (runS l).os.length).length c109) rfl (by congr 1; rw [List.length_take]; omega) ?_
      refine TL_grun rfl rfl ?_
      refine TL_y rfl rfl (Y_move rfl) ?_
      refine TL_grun rfl rfl ?_
      refine TL_call rfl rfl (sameOrders_spec (xs := (runS (l ++ l)).os.take (runS l).os.length) (SlK.take slk _) slk) ?_
      rintro _ _ ⟨rfl, rfl⟩
      refine TL_name 121 (v' := .bool true) rfl (congrArg Value.bool (decide_eq_true (by rw [hr, List.take_left']; rfl))) ?_
      refine TL_y rfl rfl (Y_pick_t rfl rfl) ?_
      refine TL_y rfl rfl (Y_assign rfl) ?_
      refine TL_nil ?_
      refine T_ret ?_
      exact RetG_1 (.inl rfl) rfl (ResV.tmp rfl) GivesTo.g (⟨rfl, rfl⟩)
end Go.SL
