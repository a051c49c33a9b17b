/- The walk of the law on lists. -/
import Derived.Test.YtiiejjdkhekhmaaLawCodB
set_option linter.unusedVariables false
set_option linter.unusedSimpArgs false
namespace Go.SL
open Go Go.Proofs

def flat (l : List ByteArray) : List Int := (l.map txt).flatten
def tot (l : List ByteArray) : Nat := (l.map fun s => s.size + 1).sum
theorem flat_nil : flat [] = [] := rfl
theorem flat_cons (s : ByteArray) (l : List ByteArray) : flat (s :: l) = txt s ++ flat l := rfl
theorem flat_append (l m : List ByteArray) : flat (l ++ m) = flat l ++ flat m := by simp [flat]
theorem tot_cons (s : ByteArray) (l : List ByteArray) : tot (s :: l) = s.size + 1 + tot l := by simp [tot]
theorem txt_le {s : ByteArray} (h : s.size < 18446744073709551616) : (txt s).length ≤ 10 + s.size := by
  rw [txt_length]; have := grp_ten h; omega
theorem flat_len : ∀ {l : List ByteArray}, tot l ≤ 1048576 → (flat l).length ≤ 10 * tot l
  | [], _ => by simp [flat]
  | s :: l, h => by
    rw [tot_cons] at h
    have := flat_len (l := l) (by omega)
    have := txt_le (s := s) (by omega)
    rw [flat_cons, tot_cons, List.length_append]; omega
theorem tot_split : ∀ (l : List ByteArray) (i : Nat), tot (l.take i) + tot (l.drop i) = tot l
  | [], i => by simp [tot]
  | s :: l, 0 => by simp [tot]
  | s :: l, i + 1 => by
    have := tot_split l i
    simp only [List.take_succ_cons, List.drop_succ_cons, tot_cons]; omega
theorem tot_take (l : List ByteArray) (i : Nat) : tot (l.take i) ≤ tot l := by have := tot_split l i; omega
theorem flat_split (l : List ByteArray) (i : Nat) : flat (l.take i) ++ flat (l.drop i) = flat l := by rw [← flat_append, List.take_append_drop]
theorem tot_mem {l : List ByteArray} {i : Nat} {s : ByteArray} (h : l[i]? = some s) : s.size + 1 ≤ tot l := by
  have h1 := tot_split l i
  have h2 : l.drop i = s :: l.drop (i + 1) := by
    have hlt := (List.getElem?_eq_some_iff.1 h).1
    rw [List.drop_eq_getElem_cons hlt]
    congr 1
    have := (List.getElem?_eq_some_iff.1 h).2
    exact this
  rw [h2, tot_cons] at h1; omega
theorem tot_len (l : List ByteArray) : l.length ≤ tot l := by
  induction l with
  | nil => simp
  | cons s l ih => rw [tot_cons, List.length_cons]; omega
theorem drop_at {α : Type} {l : List α} {i : Nat} {s : α} (h : l[i]? = some s) : l.drop i = s :: l.drop (i + 1) := by
  have hlt := (List.getElem?_eq_some_iff.1 h).1
  rw [List.drop_eq_getElem_cons hlt]
  congr 1
  exact (List.getElem?_eq_some_iff.1 h).2
theorem take_at {α : Type} {l : List α} {i : Nat} {s : α} (h : l[i]? = some s) : l.take (i + 1) = l.take i ++ [s] := by rw [List.take_add_one, h]; rfl

theorem put_spec {L : List HP} {A : Option Addr} {c : Nat} {xs : List Int} (hk : SlK L (intR .u8) A c xs) (s : ByteArray) (hb : xs.length + 10 + s.size ≤ 140737488355328) : Fn Try.prog 28 #[.slice A xs.length c, .string s] L (fun v L' => ∃ A' c', v = .slice A' (xs ++ txt s).length c' ∧ L' = osl (intR .u8) 5 A' c' (xs ++ txt s) :: L) := by
  refine Fn_enter Try.func28 rfl rfl rfl rfl ?_
  refine T_region ?_
  refine TL_y rfl rfl (Y_assign rfl) ?_
  refine TL_nil ?_
  refine T_region ?_
  refine TL_y rfl rfl (Y_move rfl) ?_
  refine TL_y rfl rfl (Y_move rfl) ?_
  refine TL_call rfl rfl (text_spec hk s hb) ?_
  rintro _ _ ⟨A7, c7, rfl, rfl⟩
  refine TL_y rfl rfl (Y_assign rfl) ?_
  refine TL_nil ?_
  refine T_ret ?_
  exact RetG_1 (.inl rfl) rfl (ResV.tmp rfl) GivesTo.g (⟨A7, c7, rfl, rfl⟩)

structure AtSt where
  i : Nat
  A : Option Addr
  c : Nat
theorem list_spec {L : List HP} {A B : Option Addr} {c d : Nat} {xs : List Int} {l : List ByteArray} (hk : SlK L (intR .u8) A c xs) (hl : SlK L strR B d l) (hx : xs.length ≤ 1000000) (hb : tot l ≤ 1048576) : Fn Try.prog 27 #[.slice A xs.length c, .slice B l.length d, .func (.func 28) #[] #[]] L (fun v L' => ∃ A' c', v = .slice A' (xs ++ (grp l.length ++ flat l)).length c' ∧ L' = sl (intR .u8) A' c' (xs ++ (grp l.length ++ flat l)) :: L) := by
  have hlen := tot_len l
  have hg := grp_ten (x := l.length) (by omega)
  refine Fn_enter Try.func27 rfl rfl rfl rfl ?_
  refine T_region ?_
  refine TL_y rfl rfl (Y_assign rfl) ?_
  refine TL_nil ?_
  refine T_region ?_
  refine TL_y rfl rfl (Y_move rfl) ?_
  refine TL_y rfl rfl (Y_move rfl) ?_
  refine TL_y rfl rfl (Y_len rfl) ?_
  refine TL_y rfl rfl (Y_conv rfl) ?_
  refine TL_name 12 (v' := .int .u64 ((l.length : Nat) : Int)) rfl (by rw [u64_small (by omega)]) ?_
  refine TL_call rfl rfl (uint_spec hk l.length (by omega) (by omega)) ?_
  rintro _ _ ⟨A13, c13, rfl, rfl⟩
  refine TL_freeze_osl ?_
  refine TL_y rfl rfl (Y_assign rfl) ?_
  refine TL_nil ?_
  refine T_seq ?_
  refine T_region ?_
  refine TL_y rfl rfl (Y_move rfl) ?_
  refine TL_y rfl rfl (Y_len rfl) ?_
  refine TL_y rfl rfl (Y_move rfl) ?_
  refine TL_nil ?_
  refine T_block ?_
  refine T_loopK (σ := AtSt) [2, 14, 15] (fun g => g.i ≤ l.length) (fun g kv => (16, .int .i64 (g.i : Int)) :: (0, .slice g.A (xs ++ grp l.length ++ flat (l.take g.i)).length g.c) :: kv) (fun g => sl (intR .u8) g.A g.c (xs ++ grp l.length ++ flat (l.take g.i)) :: L) (fun g => l.length - g.i) (⟨0, A13, c13⟩) rfl (Nat.zero_le _) (by simp only [List.take_zero, flat_nil, List.append_nil]; exact GivesTo.g) (sub_cons rfl (sub_cons (by simp only [List.take_zero, flat_nil, List.append_nil]; rfl) (sub_cons rfl (sub_cons rfl (sub_cons rfl (sub_nil)))))) ?_
  rintro ⟨i, A2, c2⟩ hi
  dsimp only at hi ⊢
  refine T_region ?_
  refine TL_y rfl rfl (Y_lt rfl rfl) ?_
  refine TL_nil ?_
  refine T_seq ?_
  refine T_if rfl (fun h17 => ?_) (fun h17 => ?_)
  · refine T_skip ?_
    refine thenS_normal ?_
    refine T_seq ?_
    refine T_block ?_
    refine T_region ?_
    obtain ⟨s, hs⟩ : ∃ s, l[i]? = some s := ⟨_, List.getElem?_eq_getElem (by omega)⟩
    refine TL_index_strs rfl rfl rfl hl.tail hs ?_
    intro hi18 bi18 oi18
    refine TL_y rfl rfl (Y_load_row rfl rfl) ?_
    refine TL_y rfl rfl (Y_assign rfl) ?_
    refine TL_nil ?_
    refine T_region_last ?_
    refine TL_y rfl rfl (Y_move rfl) ?_
    refine TL_y rfl rfl (Y_move rfl) ?_
    refine TL_y rfl rfl (Y_move rfl) ?_
    have h1 := tot_mem hs
    have h2 := flat_len (l := l.take i) (by have := tot_take l i; omega)
    have h3 := tot_take l i
    refine TL_call_fn rfl rfl rfl (put_spec (xs := xs ++ grp l.length ++ flat (l.take i)) slk s (by simp only [List.length_append]; omega)) ?_
    rintro _ _ ⟨A23, c23, rfl, rfl⟩
    refine TL_freeze_osl ?_
    rw [show xs ++ grp l.length ++ flat (l.take i) ++ txt s = xs ++ grp l.length ++ flat (l.take (i + 1)) by rw [take_at hs, flat_append, flat_cons, flat_nil]; simp]
    refine TL_y rfl rfl (Y_assign rfl) ?_
    refine TL_nil ?_
    refine inB_normal ?_
    refine thenS_normal ?_
    refine T_region_last ?_
    refine TL_y rfl rfl (Y_add rfl rfl (by omega)) ?_
    refine TL_name 24 (v' := .int .i64 ((i + 1 : Nat) : Int)) rfl (rfl) ?_
    refine TL_y rfl rfl (Y_move rfl) ?_
    refine TL_nil ?_
    refine thenS_normal ?_
    exact ⟨⟨i + 1, A23, c23⟩, (by simp only; omega), by simp only; omega, holds_to (sub_cons rfl (sub_cons rfl (sub_cons rfl (sub_cons rfl (sub_cons rfl (sub_nil)))))) GivesTo.g⟩
  · refine T_exit ?_
    refine thenS_exit ?_
    refine thenS_exit ?_
    refine inB_hit ?_
    refine thenS_normal ?_
    refine T_region ?_
    refine TL_y rfl rfl (Y_move rfl) ?_
    refine TL_y rfl rfl (Y_assign rfl) ?_
    refine TL_nil ?_
    refine T_ret ?_
    have e : l.take i = l := List.take_of_length_le (by omega)
    rw [e, List.append_assoc]
    exact RetG_1 (.inl rfl) rfl (ResV.tmp rfl) GivesTo.g (⟨A2, c2, rfl, rfl⟩)

theorem get_spec {L : List HP} {A : Option Addr} {c ba bt : Nat} {xs : List Int} (hk : SlK L (intR .u8) A c xs) (a stop : Int) (ha : 0 ≤ a ∧ a ≤ 1048576) : Fn Try.prog 30 #[.slice A xs.length c, .pointer (some ⟨ba, 0, none⟩), .pointer (some ⟨bt, 0, none⟩)] (cells ba [.int .i64 a] 3 :: cells bt [.int .i64 stop] 3 :: L)
    (fun v L' => ∃ (s : ByteArray) (n e : Nat) (a' : Int), v = .tuple #[.string s, .int .i64 (n : Int), .int .i64 (e : Int)] ∧ L' = cells ba [.int .i64 a'] 3 :: cells bt [.int .i64 stop] 3 :: L ∧ ((a = stop ∧ n = 0 ∧ e = 5 ∧ a' = a) ∨ (a ≠ stop ∧ RdT xs 1099511627776 s n e ∧ a' = a + 1))) := by
  refine Fn_enter Try.func30 rfl rfl rfl rfl ?_
  refine T_region ?_
  refine TL_y rfl rfl (Y_assign rfl) ?_
  refine TL_y rfl rfl (Y_assign rfl) ?_
  refine TL_y rfl rfl (Y_assign rfl) ?_
  refine TL_nil ?_
  refine T_seq ?_
  refine T_region ?_
  refine TL_y rfl rfl (Y_load rfl rfl) ?_
  refine TL_y rfl rfl (Y_load rfl rfl) ?_
  refine TL_y rfl rfl (Y_eq rfl rfl) ?_
  refine TL_nil ?_
  refine T_if rfl (fun h9 => ?_) (fun h9 => ?_)
  · refine T_region ?_
    refine TL_y rfl rfl (Y_assign rfl) ?_
    refine TL_y rfl rfl (Y_assign rfl) ?_
    refine TL_y rfl rfl (Y_assign rfl) ?_
    refine TL_nil ?_
    refine T_ret ?_
    refine thenS_ret ?_
    exact RetG_3 (.inl rfl) rfl (ResV.tmp rfl) (ResV.tmp rfl) (ResV.tmp rfl) GivesTo.g (⟨⟨#[]⟩, 0, 5, a, rfl, rfl, .inl ⟨h9, rfl, rfl, rfl⟩⟩)
  · refine T_skip ?_
    refine thenS_normal ?_
    refine T_region ?_
    refine TL_y rfl rfl (Y_load rfl rfl) ?_
    refine TL_y rfl rfl (Y_add rfl rfl (by omega)) ?_
    refine TL_store rfl rfl rfl rfl rfl rfl ?_
    refine TL_nil ?_
    refine T_region ?_
    refine TL_y rfl rfl (Y_move rfl) ?_
    refine TL_call rfl rfl (readText_spec hk.tail.tail 1099511627776 (by decide)) ?_
    rintro _ _ ⟨⟨s, n, e, rfl, hr⟩, rfl⟩
    refine TL_y rfl rfl (Y_extract rfl rfl) ?_
    refine TL_y rfl rfl (Y_extract rfl rfl) ?_
    refine TL_y rfl rfl (Y_extract rfl rfl) ?_
    refine TL_y rfl rfl (Y_assign rfl) ?_
    refine TL_y rfl rfl (Y_assign rfl) ?_
    refine TL_y rfl rfl (Y_assign rfl) ?_
    refine TL_nil ?_
    refine T_ret ?_
    exact RetG_3 (.inl rfl) rfl (ResV.tmp rfl) (ResV.tmp rfl) (ResV.tmp rfl) GivesTo.g (⟨s, n, e, a + 1, rfl, rfl, .inr ⟨h9, hr, rfl⟩⟩)

/-- What reading a list comes to. -/
def LsRes (l : List ByteArray) (most stop : Int) (m : List ByteArray) (n e : Nat) (a : Int) : Prop :=
  (most < (l.length : Int) ∧ m = [] ∧ n = 0 ∧ e = 10) ∨ (¬ most < (l.length : Int) ∧ (0 ≤ stop ∧ stop < (l.length : Int)) ∧ m = [] ∧ n = 0 ∧ e = 5 ∧ a = stop) ∨ (¬ most < (l.length : Int) ∧ ¬ (0 ≤ stop ∧ stop < (l.length : Int)) ∧ m = l ∧ n = (grp l.length ++ flat l).length ∧ e = 0)
theorem rdT_txt {s : ByteArray} {r : List Int} {most : Int} (h : (s.size : Int) ≤ most) : RdT (txt s ++ r) most s (txt s).length 0 := .inl ⟨rfl, h, by simp, rfl, by simp⟩
theorem readList_spec {L : List HP} {A : Option Addr} {c ba bt : Nat} {l : List ByteArray} (hk : SlK L (intR .u8) A c (grp l.length ++ flat l)) (most stop : Int) (hm : intIn .i64 most) (hb : tot l ≤ 1048576) :
    Fn Try.prog 29 #[.slice A (grp l.length ++ flat l).length c, .int .i64 most, .func (.func 30) #[] #[.pointer (some ⟨ba, 0, none⟩), .pointer (some ⟨bt, 0, none⟩)]] (cells ba [.int .i64 0] 3 :: cells bt [.int .i64 stop] 3 :: L)
    (fun v L' => ∃ (m : List ByteArray) (A' : Option Addr) (c' n e : Nat) (a : Int), v = .tuple #[.slice A' m.length c', .int .i64 (n : Int), .int .i64 (e : Int)] ∧ L' = sl strR A' c' m :: cells ba [.int .i64 a] 3 :: cells bt [.int .i64 stop] 3 :: L ∧ LsRes l most stop m n e a) := by
  have hm' := i64In hm
  have hlen := tot_len l
  have hg := grp_ten (x := l.length) (by omega)
  refine Fn_enter Try.func29 rfl rfl rfl rfl ?_
  refine T_region ?_
  refine TL_y rfl rfl (Y_assign rfl) ?_
  refine TL_y rfl rfl (Y_assign rfl) ?_
  refine TL_y rfl rfl (Y_assign rfl) ?_
  refine TL_nil ?_
  refine T_region ?_
  refine TL_y rfl rfl (Y_move rfl) ?_
  refine TL_call rfl rfl (readUint_spec (hk.tail.tail)) ?_
  rintro _ _ ⟨⟨n, k, e, rfl, hr⟩, rfl⟩
  obtain ⟨rfl, rfl, rfl⟩ := rdU_unique hr (rdU_of_grp (x := l.length) (by omega) (flat l))
  refine TL_y rfl rfl (Y_move rfl) ?_
  refine TL_y rfl rfl (Y_extract rfl rfl) ?_
  refine TL_y rfl rfl (Y_extract rfl rfl) ?_
  refine TL_y rfl rfl (Y_extract rfl rfl) ?_
  refine TL_y rfl rfl (Y_assign rfl) ?_
  refine TL_y rfl rfl (Y_assign rfl) ?_
  refine TL_y rfl rfl (Y_assign rfl) ?_
  refine TL_nil ?_
  refine T_seq ?_
  refine T_region ?_
  refine TL_y rfl rfl (Y_move rfl) ?_
  refine TL_y rfl rfl (Y_ne rfl rfl) ?_
  refine TL_name 23 (v' := .bool false) rfl (congrArg Value.bool (by decide)) ?_
  refine TL_y rfl rfl (Y_move rfl) ?_
  refine TL_grun rfl rfl ?_
  refine TL_y rfl rfl (Y_move rfl) ?_
  refine TL_grun rfl rfl ?_
  refine TL_y rfl rfl (Y_lt rfl rfl) ?_
  refine TL_y rfl rfl (Y_pick_f rfl rfl) ?_
  refine TL_y rfl rfl (Y_move rfl) ?_
  refine TL_splitd 28 rfl (fun h28 => ?_) (fun h28 => ?_)
  · refine TL_gskip rfl rfl rfl rfl ?_
    refine TL_gskip rfl rfl rfl rfl ?_
    refine TL_gskip rfl rfl rfl rfl ?_
    refine TL_gskip rfl rfl rfl rfl ?_
    refine TL_y rfl rfl (Y_pick_t rfl rfl) ?_
    refine TL_nil ?_
    refine T_cond_true rfl ?_
    refine T_gives (SlK.lay (slnil (R := strR) (A := none) (c := 0))) ?_
    refine T_region ?_
    refine TL_y rfl rfl (Y_assign rfl) ?_
    refine TL_y rfl rfl (Y_assign rfl) ?_
    refine TL_y rfl rfl (Y_assign rfl) ?_
    refine TL_nil ?_
    refine T_ret ?_
    refine thenS_ret ?_
    exact RetG_3 (.inl rfl) rfl (ResV.tmp rfl) (ResV.tmp rfl) (ResV.tmp rfl) GivesTo.g (⟨[], none, 0, 0, 10, 0, rfl, rfl, .inl ⟨by omega, rfl, rfl, rfl⟩⟩)
  · refine TL_grun rfl rfl ?_
    refine TL_y rfl rfl (Y_move rfl) ?_
    refine TL_grun rfl rfl ?_
    refine TL_y rfl rfl (Y_move rfl) ?_
    refine TL_grun rfl rfl ?_
    refine TL_y rfl rfl (Y_conv rfl) ?_
    refine TL_name 31 (v' := .int .u64 most) rfl (by rw [show most = ((most.toNat : Nat) : Int) by omega, u64_small (by omega)]) ?_
    refine TL_grun rfl rfl ?_
    refine TL_y rfl rfl (Y_gt rfl rfl) ?_
    refine TL_y rfl rfl (Y_pick_f rfl rfl) ?_
    refine TL_nil ?_
    refine T_if rfl (fun h33 => ?_) (fun h33 => ?_)
    · refine T_gives (SlK.lay (slnil (R := strR) (A := none) (c := 0))) ?_
      refine T_region ?_
      refine TL_y rfl rfl (Y_assign rfl) ?_
      refine TL_y rfl rfl (Y_assign rfl) ?_
      refine TL_y rfl rfl (Y_assign rfl) ?_
      refine TL_nil ?_
      refine T_ret ?_
      refine thenS_ret ?_
      exact RetG_3 (.inl rfl) rfl (ResV.tmp rfl) (ResV.tmp rfl) (ResV.tmp rfl) GivesTo.g (⟨[], none, 0, 0, 10, 0, rfl, rfl, .inl ⟨by omega, rfl, rfl, rfl⟩⟩)
    · refine T_skip ?_
      refine thenS_normal ?_
      refine T_region ?_
      refine TL_y rfl rfl (Y_assign rfl) ?_
      refine TL_nil ?_
      refine T_seq ?_
      refine T_block ?_
      refine T_loopK (σ := AtSt) [0, 2] (fun g => g.i ≤ l.length ∧ ¬ (0 ≤ stop ∧ stop < (g.i : Int))) (fun g kv => (9, .int .u64 ((l.length - g.i : Nat) : Int)) :: (10, .int .i64 (((grp l.length ++ flat (l.take g.i)).length : Nat) : Int)) :: (12, .slice g.A (l.take g.i).length g.c) :: kv) (fun g => osl strR 9 g.A g.c (l.take g.i) :: cells ba [.int .i64 (g.i : Int)] 3 :: cells bt [.int .i64 stop] 3 :: L) (fun g => l.length - g.i) (⟨0, none, 0⟩) rfl (⟨Nat.zero_le _, by simp only; omega⟩) (osl_nil _ _ _ _) (sub_cons rfl (sub_cons (by simp only [List.take_zero, flat_nil, List.append_nil]; rfl) (sub_cons rfl (sub_cons rfl (sub_cons rfl (sub_nil)))))) ?_
      rintro ⟨i, A2, c2⟩ ⟨hi, hst⟩
      dsimp only at hi hst ⊢
      refine T_seq ?_
      refine T_region ?_
      refine TL_y rfl rfl (Y_move rfl) ?_
      refine TL_y rfl rfl (Y_gt rfl rfl) ?_
      refine TL_nil ?_
      refine T_if rfl (fun h35 => ?_) (fun h35 => ?_)
      · refine T_skip ?_
        refine thenS_normal ?_
        refine T_seq ?_
        refine T_block ?_
        refine T_region ?_
        refine TL_y rfl rfl (Y_move rfl) ?_
        refine TL_y rfl rfl (Y_move rfl) ?_
        refine TL_y rfl rfl (Y_move rfl) ?_
        obtain ⟨s, hs⟩ : ∃ s, l[i]? = some s := ⟨_, List.getElem?_eq_getElem (by omega)⟩
        have h1 := tot_mem hs
        have h3 := tot_take l i
        have h2 := flat_len (l := l.take i) (by omega)
        have hfl := flat_split l i
        have hfl2 : (flat (l.take i)).length + (flat (l.drop i)).length = (flat l).length := by rw [← hfl, List.length_append]
        have h5 := flat_len hb
        refine TL_y rfl rfl (Y_cut_l rfl rfl (by simp only [List.length_append]; omega)) ?_
        refine TL_name 42 (v' := .slice (cutA A (grp l.length ++ flat (l.take i)).length c 1) (flat (l.drop i)).length (c - (grp l.length ++ flat (l.take i)).length)) rfl (by simp only [List.length_append, Int.toNat_natCast]; congr 2; omega) ?_
        refine TL_pullc bt ?_
        refine TL_pullc ba ?_
        refine TL_call_fn rfl rfl rfl (get_spec (xs := flat (l.drop i)) (SlK.tail (SlK.drop_app (xs := grp l.length ++ flat (l.take i)) (by rw [List.append_assoc, hfl]; exact hk) rfl)) (i : Int) stop (by omega)) ?_
        rintro _ _ ⟨s2, n2, e2, a2, rfl, rfl, hr2⟩
        have hr3 : (i : Int) ≠ stop → s2 = s ∧ n2 = (txt s).length ∧ e2 = 0 ∧ a2 = ((i + 1 : Nat) : Int) := fun hne => by rcases hr2 with ⟨h, _⟩ | ⟨_, h, h'⟩; exact absurd h hne; rw [drop_at hs, flat_cons] at h; obtain ⟨e1, e2, e3⟩ := rdT_unique (by omega) h (rdT_txt (by omega)); exact ⟨e1, e2, e3, by omega⟩
        refine TL_y rfl rfl (Y_move rfl) ?_
        refine TL_y rfl rfl (Y_extract rfl rfl) ?_
        refine TL_y rfl rfl (Y_extract rfl rfl) ?_
        refine TL_y rfl rfl (Y_extract rfl rfl) ?_
        refine TL_y rfl rfl (Y_assign rfl) ?_
        refine TL_y rfl rfl (Y_assign rfl) ?_
        refine TL_y rfl rfl (Y_assign rfl) ?_
        refine TL_nil ?_
        refine T_seq ?_
        refine T_region ?_
        refine TL_y rfl rfl (Y_move rfl) ?_
        refine TL_y rfl rfl (Y_ne rfl rfl) ?_
        refine TL_nil ?_
        refine T_if rfl (fun h48 => ?_) (fun h48 => ?_)
        · have hse : (i : Int) = stop := Classical.byContradiction fun hne => by have := (hr3 hne).2.2.1; omega
          have hr4 : n2 = 0 ∧ e2 = 5 ∧ a2 = (i : Int) := by rcases hr2 with ⟨_, h⟩ | ⟨h, _⟩; exact h; exact absurd hse h
          obtain ⟨rfl, rfl, rfl⟩ := hr4
          refine T_gives (SlK.lay (slnil (R := strR) (A := none) (c := 0))) ?_
          refine T_region ?_
          refine TL_y rfl rfl (Y_move rfl) ?_
          refine TL_y rfl rfl (Y_assign rfl) ?_
          refine TL_y rfl rfl (Y_assign rfl) ?_
          refine TL_y rfl rfl (Y_assign rfl) ?_
          refine TL_nil ?_
          refine T_ret ?_
          refine thenS_ret ?_
          refine inB_ret ?_
          refine thenS_ret ?_
          refine thenS_ret ?_
          refine inB_ret ?_
          refine thenS_ret ?_
          exact RetG_3 (.inl rfl) rfl (ResV.tmp rfl) (ResV.tmp rfl) (ResV.tmp rfl) GivesTo.g (⟨[], none, 0, 0, 5, (i : Int), rfl, rfl, .inr (.inl ⟨by omega, by omega, rfl, rfl, rfl, hse⟩)⟩)
        · have hse : (i : Int) ≠ stop := fun hse => by rcases hr2 with ⟨_, _, h, _⟩ | ⟨h, _⟩; omega; exact h hse
          obtain ⟨rfl, rfl, rfl, rfl⟩ := hr3 hse
          have htl : (txt s2).length ≤ (flat (l.drop i)).length := by rw [drop_at hs, flat_cons, List.length_append]; omega
          refine T_skip ?_
          refine thenS_normal ?_
          refine T_seq ?_
          refine T_region ?_
          refine TL_y rfl rfl (Y_move rfl) ?_
          refine TL_y rfl rfl (Y_lt rfl rfl) ?_
          refine TL_name 51 (v' := .bool false) rfl (congrArg Value.bool (decide_eq_false (by omega))) ?_
          refine TL_y rfl rfl (Y_move rfl) ?_
          refine TL_grun rfl rfl ?_
          refine TL_y rfl rfl (Y_move rfl) ?_
          refine TL_grun rfl rfl ?_
          refine TL_y rfl rfl (Y_move rfl) ?_
          refine TL_grun rfl rfl ?_
          refine TL_y rfl rfl (Y_len rfl) ?_
          refine TL_grun rfl rfl ?_
          refine TL_y rfl rfl (Y_move rfl) ?_
          refine TL_grun rfl rfl ?_
          refine TL_y rfl rfl (Y_sub rfl rfl (by simp only [List.length_append]; omega)) ?_
          refine TL_grun rfl rfl ?_
          refine TL_y rfl rfl (Y_gt rfl rfl) ?_
          refine TL_name 58 (v' := .bool false) rfl (congrArg Value.bool (decide_eq_false (by simp only [List.length_append]; omega))) ?_
          refine TL_y rfl rfl (Y_pick_f rfl rfl) ?_
          refine TL_nil ?_
          refine T_cond_false rfl ?_
          refine T_skip ?_
          refine thenS_normal ?_
          refine T_region_last ?_
          refine TL_y rfl rfl (Y_move rfl) ?_
          refine TL_y rfl rfl (Y_move rfl) ?_
          refine TL_build_slice rfl rfl rfl rfl rfl rfl ?_
          intro b62
          refine TL_osl (k := 1) strR [s2] (Knows.const fun M => ⟨[.string s2], [], ⟨rfl, by simp only [maxEl]; omega⟩, rfl, rfl⟩) rfl (by decide) ?_
          refine TL_freeze_osl ?_
          refine TL_name 62 (v' := .slice (some ⟨b62, 0, none⟩) [s2].length 1) rfl rfl ?_
          refine TL_append rfl rfl rfl rfl rfl slk (by simp only [List.length_take, List.length_cons, List.length_nil]; omega) ?_
          intro A63 c63
          rw [← take_at hs]
          refine TL_y rfl rfl (Y_move rfl) ?_
          refine TL_y rfl rfl (Y_move rfl) ?_
          refine TL_y rfl rfl (Y_add rfl rfl (by simp only [List.length_append]; omega)) ?_
          refine TL_name 66 (v' := .int .i64 (((grp l.length ++ flat (l.take (i + 1))).length : Nat) : Int)) rfl (by rw [take_at hs, flat_append, flat_cons, flat_nil]; simp only [List.length_append, List.append_nil]; congr 1; omega) ?_
          refine TL_y rfl rfl (Y_assign rfl) ?_
          refine TL_y rfl rfl (Y_assign rfl) ?_
          refine TL_nil ?_
          refine inB_normal ?_
          refine thenS_normal ?_
          refine T_region_last ?_
          refine TL_y rfl rfl (Y_move rfl) ?_
          refine TL_y rfl rfl (Y_sub_w rfl rfl) ?_
          refine TL_name 37 (v' := .int .u64 ((l.length - (i + 1) : Nat) : Int)) rfl (by congr 1; rw [show ((l.length - i : Nat) : Int) - 1 = ((l.length - (i + 1) : Nat) : Int) by omega, u64_small (by omega)]) ?_
          refine TL_y rfl rfl (Y_assign rfl) ?_
          refine TL_nil ?_
          refine thenS_normal ?_
          exact ⟨⟨i + 1, A63, c63⟩, ⟨by simp only; omega, by simp only; omega⟩, by simp only; omega, holds_to (sub_cons rfl (sub_cons rfl (sub_cons rfl (sub_cons rfl (sub_cons rfl (sub_nil)))))) GivesTo.g⟩
      · refine T_exit ?_
        refine thenS_exit ?_
        refine thenS_exit ?_
        refine inB_hit ?_
        refine thenS_normal ?_
        have e : l.take i = l := List.take_of_length_le (by omega)
        rw [e]
        refine T_freeze_osl ?_
        refine T_region ?_
        refine TL_y rfl rfl (Y_move rfl) ?_
        refine TL_y rfl rfl (Y_move rfl) ?_
        refine TL_y rfl rfl (Y_assign rfl) ?_
        refine TL_y rfl rfl (Y_assign rfl) ?_
        refine TL_y rfl rfl (Y_assign rfl) ?_
        refine TL_nil ?_
        refine T_ret ?_
        exact RetG_3 (.inl rfl) rfl (ResV.tmp rfl) (ResV.tmp rfl) (ResV.tmp rfl) GivesTo.g (⟨l, A2, c2, _, 0, (i : Int), rfl, rfl, .inr (.inr ⟨by omega, by omega, rfl, rfl, rfl⟩)⟩)

theorem codecLists_walk {L : List HP} {A : Option Addr} {c : Nat} {l : List ByteArray} (hk : SlK L strR A c l) (most stop : Int) (hm : intIn .i64 most) (hb : tot l ≤ 1048576) :
    Fn Try.prog 6 #[.slice A l.length c, .int .i64 most, .int .i64 stop] L (fun v L' => v = .bool true ∧ L' = L) := by
  have hlen := tot_len l
  have hg := grp_ten (x := l.length) (by omega)
  have h5 := flat_len hb
  refine Fn_enter Try.func6 rfl rfl rfl rfl ?_
  refine T_gives hk.lay ?_
  refine T_region ?_
  refine TL_box rfl rfl rfl ?_
  intro b5
  refine TL_y rfl rfl (Y_assign rfl) ?_
  refine TL_nil ?_
  refine T_region ?_
  refine TL_build_slice rfl rfl rfl rfl rfl rfl ?_
  intro b15
  refine TL_osl (k := 1) (intR .u8) [9] (Knows.const fun M => cells_ints (k := .u8) (xs := [9]) (by decide) M) rfl (by decide) ?_
  refine TL_freeze_osl ?_
  refine TL_name 15 (v' := .slice (some ⟨b15, 0, none⟩) ([9] : List Int).length 1) rfl rfl ?_
  refine TL_y rfl rfl (Y_move rfl) ?_
  refine TL_call rfl rfl (list_spec (xs := [9]) slk slk (by decide) hb) ?_
  rintro _ _ ⟨A17, c17, rfl, rfl⟩
  refine TL_y rfl rfl (Y_assign rfl) ?_
  refine TL_nil ?_
  refine T_region ?_
  refine TL_build_slice rfl rfl rfl rfl rfl rfl ?_
  intro b18
  refine TL_osl (k := 1) (intR .u8) [9] (Knows.const fun M => cells_ints (k := .u8) (xs := [9]) (by decide) M) rfl (by decide) ?_
  refine TL_name 18 (v' := .slice (some ⟨b18, 0, none⟩) ([9] : List Int).length 1) rfl rfl ?_
  refine TL_y rfl rfl (Y_move rfl) ?_
  refine TL_y rfl rfl (Y_len rfl) ?_
  refine TL_y rfl rfl (Y_conv rfl) ?_
  refine TL_name 21 (v' := .int .u64 ((l.length : Nat) : Int)) rfl (by rw [u64_small (by omega)]) ?_
  refine TL_call rfl rfl (refUint_spec l.length (by omega) _) ?_
  rintro _ _ ⟨A22, c22, rfl, rfl⟩
  refine TL_freeze_osl ?_
  refine TL_append rfl rfl rfl rfl rfl slk (by (try simp only [List.length_append, List.length_cons, List.length_nil]); omega) ?_
  intro A23 c23
  refine TL_y rfl rfl (Y_assign rfl) ?_
  refine TL_nil ?_
  refine T_seq ?_
  refine T_region ?_
  refine TL_y rfl rfl (Y_assign rfl) ?_
  refine TL_nil ?_
  refine T_block ?_
  refine T_loopK (σ := AtSt) [0, 1, 5, 7] (fun g => g.i ≤ l.length) (fun g kv => (9, .int .i64 (g.i : Int)) :: (8, .slice g.A ([9] ++ grp l.length ++ flat (l.take g.i)).length g.c) :: kv) (fun g => osl (intR .u8) 5 g.A g.c ([9] ++ grp l.length ++ flat (l.take g.i)) :: sl (intR .u8) A17 c17 ([9] ++ (grp l.length ++ flat l)) :: cells b5 [.int .i64 stop] 3 :: sl strR A c l :: L) (fun g => l.length - g.i) (⟨0, A23, c23⟩) rfl (Nat.zero_le _) (by simp only [List.take_zero, flat_nil, List.append_nil]; exact GivesTo.g) (sub_cons rfl (sub_cons (by simp only [List.take_zero, flat_nil, List.append_nil]; rfl) (sub_cons rfl (sub_cons rfl (sub_cons rfl (sub_cons rfl (sub_nil))))))) ?_
  rintro ⟨i, A2, c2⟩ hi
  dsimp only at hi ⊢
  refine T_seq ?_
  refine T_region ?_
  refine TL_y rfl rfl (Y_move rfl) ?_
  refine TL_y rfl rfl (Y_move rfl) ?_
  refine TL_y rfl rfl (Y_len rfl) ?_
  refine TL_y rfl rfl (Y_lt rfl rfl) ?_
  refine TL_nil ?_
  refine T_if rfl (fun h27 => ?_) (fun h27 => ?_)
  · refine T_skip ?_
    refine thenS_normal ?_
    refine T_seq ?_
    refine T_block ?_
    refine T_region_last ?_
    refine TL_y rfl rfl (Y_move rfl) ?_
    refine TL_y rfl rfl (Y_move rfl) ?_
    refine TL_y rfl rfl (Y_move rfl) ?_
    obtain ⟨s, hs⟩ : ∃ s, l[i]? = some s := ⟨_, List.getElem?_eq_getElem (by omega)⟩
    have h1 := tot_mem hs
    have h3 := tot_take l i
    have h2 := flat_len (l := l.take i) (by omega)
    refine TL_index_strs rfl rfl rfl slk hs ?_
    intro hi33 bi33 oi33
    refine TL_y rfl rfl (Y_load_row rfl rfl) ?_
    refine TL_call rfl rfl (refText_spec _ s (by omega)) ?_
    rintro _ _ ⟨A35, c35, rfl, rfl⟩
    refine TL_freeze_osl ?_
    refine TL_append rfl rfl rfl rfl rfl slk (by have := txt_le (s := s) (by omega); simp only [List.length_append, List.length_cons, List.length_nil]; omega) ?_
    intro A36 c36
    rw [show [9] ++ grp l.length ++ flat (l.take i) ++ txt s = [9] ++ grp l.length ++ flat (l.take (i + 1)) by rw [take_at hs, flat_append, flat_cons, flat_nil]; simp]
    refine TL_y rfl rfl (Y_assign rfl) ?_
    refine TL_nil ?_
    refine inB_normal ?_
    refine thenS_normal ?_
    refine T_region_last ?_
    refine TL_y rfl rfl (Y_move rfl) ?_
    refine TL_y rfl rfl (Y_add rfl rfl (by omega)) ?_
    refine TL_name 29 (v' := .int .i64 ((i + 1 : Nat) : Int)) rfl (rfl) ?_
    refine TL_y rfl rfl (Y_assign rfl) ?_
    refine TL_nil ?_
    refine thenS_normal ?_
    exact ⟨⟨i + 1, A36, c36⟩, (by simp only; omega), by simp only; omega, holds_to (sub_cons rfl (sub_cons rfl (sub_cons rfl (sub_cons rfl (sub_cons rfl (sub_cons rfl (sub_nil))))))) GivesTo.g⟩
  · refine T_exit ?_
    refine thenS_exit ?_
    refine thenS_exit ?_
    refine inB_hit ?_
    refine thenS_normal ?_
    refine T_seq ?_
    have e : l.take i = l := List.take_of_length_le (by omega)
    rw [e, List.append_assoc]
    refine T_freeze_osl ?_
    refine T_region ?_
    refine TL_call rfl rfl (lives01_spec _) ?_
    rintro _ _ ⟨rfl, rfl⟩
    refine TL_name 37 (v' := .bool true) rfl (rfl) ?_
    refine TL_y rfl rfl (Y_not_t rfl) ?_
    refine TL_y rfl rfl (Y_move rfl) ?_
    refine TL_grun rfl rfl ?_
    refine TL_y rfl rfl (Y_move rfl) ?_
    refine TL_grun rfl rfl ?_
    refine TL_y rfl rfl (Y_bytes_str rfl slk) ?_
    refine TL_grun rfl rfl ?_
    refine TL_y rfl rfl (Y_move rfl) ?_
    refine TL_grun rfl rfl ?_
    refine TL_y rfl rfl (Y_bytes_str rfl slk) ?_
    refine TL_grun rfl rfl ?_
    refine TL_y rfl rfl (Y_str_ne rfl rfl) ?_
    refine TL_name 44 (v' := .bool false) rfl (congrArg Value.bool (by simp)) ?_
    refine TL_y rfl rfl (Y_pick_f rfl rfl) ?_
    refine TL_nil ?_
    refine T_cond_false rfl ?_
    refine T_skip ?_
    refine thenS_normal ?_
    refine T_region ?_
    refine TL_alloc rfl rfl ?_
    intro b10
    refine TL_store rfl rfl rfl rfl rfl rfl ?_
    refine TL_nil ?_
    refine T_region ?_
    refine TL_y rfl rfl (Y_move rfl) ?_
    refine TL_y rfl rfl (Y_cut_l rfl rfl (by simp; omega)) ?_
    refine TL_name 48 (v' := .slice (cutA A17 1 c17 1) (grp l.length ++ flat l).length (c17 - 1)) rfl (by simp) ?_
    refine TL_y rfl rfl (Y_move rfl) ?_
    refine TL_y rfl rfl (Y_make_func rfl rfl) ?_
    refine TL_pullc b5 ?_
    refine TL_pullc b10 ?_
    refine TL_call rfl rfl (readList_spec (SlK.drop_app (xs := [9]) slk rfl) most stop hm hb) ?_
    rintro _ _ ⟨m, A51, c51, n, e, a, rfl, rfl, hr⟩
    refine TL_y rfl rfl (Y_move rfl) ?_
    refine TL_y rfl rfl (Y_extract rfl rfl) ?_
    refine TL_y rfl rfl (Y_extract rfl rfl) ?_
    refine TL_y rfl rfl (Y_extract rfl rfl) ?_
    refine TL_y rfl rfl (Y_assign rfl) ?_
    refine TL_y rfl rfl (Y_assign rfl) ?_
    refine TL_y rfl rfl (Y_assign rfl) ?_
    refine TL_nil ?_
    refine T_seq ?_
    refine T_block ?_
    refine T_region ?_
    refine TL_y rfl rfl (Y_move rfl) ?_
    refine TL_y rfl rfl (Y_move rfl) ?_
    refine TL_y rfl rfl (Y_len rfl) ?_
    refine TL_y rfl rfl (Y_lt rfl rfl) ?_
    refine TL_y rfl rfl (Y_assign rfl) ?_
    refine TL_nil ?_
    refine T_if rfl (fun h55 => ?_) (fun h55 => ?_)
    · obtain ⟨rfl, rfl, rfl⟩ : m = [] ∧ n = 0 ∧ e = 10 := by rcases hr with ⟨_, h⟩ | ⟨h, _⟩ | ⟨h, _⟩; exact h; exact absurd h55 h; exact absurd h55 h
      refine T_region ?_
      refine TL_y rfl rfl (Y_move rfl) ?_
      refine TL_y rfl rfl (Y_len rfl) ?_
      refine TL_y rfl rfl (Y_eq rfl rfl) ?_
      refine TL_name 62 (v' := .bool true) rfl (congrArg Value.bool (by decide)) ?_
      refine TL_y rfl rfl (Y_move rfl) ?_
      refine TL_grun rfl rfl ?_
      refine TL_y rfl rfl (Y_move rfl) ?_
      refine TL_grun rfl rfl ?_
      refine TL_y rfl rfl (Y_eq rfl rfl) ?_
      refine TL_name 65 (v' := .bool true) rfl (congrArg Value.bool (by decide)) ?_
      refine TL_y rfl rfl (Y_pick_t rfl rfl) ?_
      refine TL_y rfl rfl (Y_move rfl) ?_
      refine TL_grun rfl rfl ?_
      refine TL_y rfl rfl (Y_move rfl) ?_
      refine TL_grun rfl rfl ?_
      refine TL_y rfl rfl (Y_eq rfl rfl) ?_
      refine TL_name 69 (v' := .bool true) rfl (congrArg Value.bool (by decide)) ?_
      refine TL_y rfl rfl (Y_pick_t rfl rfl) ?_
      refine TL_y rfl rfl (Y_assign rfl) ?_
      refine TL_nil ?_
      refine T_ret ?_
      refine inB_ret ?_
      refine thenS_ret ?_
      exact RetG_1 (.inl rfl) rfl (ResV.tmp rfl) GivesTo.g (⟨rfl, rfl⟩)
    · refine T_region ?_
      refine TL_y rfl rfl (Y_load rfl rfl) ?_
      refine TL_y rfl rfl (Y_ge rfl rfl) ?_
      refine TL_y rfl rfl (Y_move rfl) ?_
      refine TL_splitd 74 rfl (fun h74 => ?_) (fun h74 => ?_)
      · refine TL_grun rfl rfl ?_
        refine TL_y rfl rfl (Y_load rfl rfl) ?_
        refine TL_grun rfl rfl ?_
        refine TL_y rfl rfl (Y_move rfl) ?_
        refine TL_grun rfl rfl ?_
        refine TL_y rfl rfl (Y_len rfl) ?_
        refine TL_grun rfl rfl ?_
        refine TL_y rfl rfl (Y_lt rfl rfl) ?_
        refine TL_y rfl rfl (Y_pick_t rfl rfl) ?_
        refine TL_y rfl rfl (Y_assign rfl) ?_
        refine TL_nil ?_
        refine T_if rfl (fun h71 => ?_) (fun h71 => ?_)
        · obtain ⟨rfl, rfl, rfl, rfl⟩ : m = [] ∧ n = 0 ∧ e = 5 ∧ a = stop := by rcases hr with ⟨h, _⟩ | ⟨_, _, h⟩ | ⟨_, h, _⟩; exact absurd h h55; exact h; exact absurd ⟨h74, h71⟩ h
          refine T_region ?_
          refine TL_y rfl rfl (Y_move rfl) ?_
          refine TL_y rfl rfl (Y_len rfl) ?_
          refine TL_y rfl rfl (Y_eq rfl rfl) ?_
          refine TL_name 82 (v' := .bool true) rfl (congrArg Value.bool (by decide)) ?_
          refine TL_y rfl rfl (Y_move rfl) ?_
          refine TL_grun rfl rfl ?_
          refine TL_y rfl rfl (Y_move rfl) ?_
          refine TL_grun rfl rfl ?_
          refine TL_y rfl rfl (Y_eq rfl rfl) ?_
          refine TL_name 85 (v' := .bool true) rfl (congrArg Value.bool (by decide)) ?_
          refine TL_y rfl rfl (Y_pick_t rfl rfl) ?_
          refine TL_y rfl rfl (Y_move rfl) ?_
          refine TL_grun rfl rfl ?_
          refine TL_y rfl rfl (Y_move rfl) ?_
          refine TL_grun rfl rfl ?_
          refine TL_y rfl rfl (Y_eq rfl rfl) ?_
          refine TL_name 89 (v' := .bool true) rfl (congrArg Value.bool (by decide)) ?_
          refine TL_y rfl rfl (Y_pick_t rfl rfl) ?_
          refine TL_y rfl rfl (Y_move rfl) ?_
          refine TL_grun rfl rfl ?_
          refine TL_y rfl rfl (Y_load rfl rfl) ?_
          refine TL_grun rfl rfl ?_
          refine TL_y rfl rfl (Y_load rfl rfl) ?_
          refine TL_grun rfl rfl ?_
          refine TL_y rfl rfl (Y_eq rfl rfl) ?_
          refine TL_name 94 (v' := .bool true) rfl (congrArg Value.bool (by simp)) ?_
          refine TL_y rfl rfl (Y_pick_t rfl rfl) ?_
          refine TL_y rfl rfl (Y_assign rfl) ?_
          refine TL_nil ?_
          refine T_ret ?_
          refine inB_ret ?_
          refine thenS_ret ?_
          exact RetG_1 (.inl rfl) rfl (ResV.tmp rfl) GivesTo.g (⟨rfl, rfl⟩)
        · refine T_skip ?_
          refine inB_normal ?_
          refine thenS_normal ?_
          refine T_seq ?_
          obtain ⟨rfl, rfl, rfl⟩ : m = l ∧ n = (grp l.length ++ flat l).length ∧ e = 0 := by rcases hr with ⟨h, _⟩ | ⟨_, h, _⟩ | ⟨_, _, h⟩; exact absurd h h55; omega; exact h
          refine T_region ?_
          refine TL_y rfl rfl (Y_move rfl) ?_
          refine TL_y rfl rfl (Y_ne rfl rfl) ?_
          refine TL_name 97 (v' := .bool false) rfl (congrArg Value.bool (by decide)) ?_
          refine TL_y rfl rfl (Y_move rfl) ?_
          refine TL_grun rfl rfl ?_
          refine TL_y rfl rfl (Y_move rfl) ?_
          refine TL_grun rfl rfl ?_
          refine TL_y rfl rfl (Y_move rfl) ?_
          refine TL_grun rfl rfl ?_
          refine TL_y rfl rfl (Y_len rfl) ?_
          refine TL_grun rfl rfl ?_
          refine TL_y rfl rfl (Y_sub rfl rfl (by simp only [List.length_append, List.length_cons, List.length_nil]; omega)) ?_
          refine TL_grun rfl rfl ?_
          refine TL_y rfl rfl (Y_ne rfl rfl) ?_
          refine TL_name 103 (v' := .bool false) rfl (congrArg Value.bool (by simp only [List.length_append, List.length_cons, List.length_nil]; exact decide_eq_false (by omega))) ?_
          refine TL_y rfl rfl (Y_pick_f rfl rfl) ?_
          refine TL_y rfl rfl (Y_move rfl) ?_
          refine TL_grun rfl rfl ?_
          refine TL_y rfl rfl (Y_move rfl) ?_
          refine TL_grun rfl rfl ?_
          refine TL_y rfl rfl (Y_len rfl) ?_
          refine TL_grun rfl rfl ?_
          refine TL_y rfl rfl (Y_move rfl) ?_
          refine TL_grun rfl rfl ?_
          refine TL_y rfl rfl (Y_len rfl) ?_
          refine TL_grun rfl rfl ?_
          refine TL_y rfl rfl (Y_ne rfl rfl) ?_
          refine TL_name 110 (v' := .bool false) rfl (congrArg Value.bool (by simp)) ?_
          refine TL_y rfl rfl (Y_pick_f rfl rfl) ?_
          refine TL_nil ?_
          refine T_cond_false rfl ?_
          refine T_skip ?_
          refine thenS_normal ?_
          refine T_seq ?_
          refine T_region ?_
          refine TL_y rfl rfl (Y_assign rfl) ?_
          refine TL_nil ?_
          refine T_block ?_
          refine T_loopK (σ := Nat) [0, 11] (fun i => i ≤ m.length) (fun i kv => (14, .int .i64 (i : Int)) :: kv) (fun i => sl strR A51 c51 m :: sl strR A c m :: L) (fun i => m.length - i) (0) rfl (Nat.zero_le _) (GivesTo.g) (sub_cons rfl (sub_cons rfl (sub_cons rfl (sub_nil)))) ?_
          intro i hi
          refine T_seq ?_
          refine T_region ?_
          refine TL_y rfl rfl (Y_move rfl) ?_
          refine TL_y rfl rfl (Y_move rfl) ?_
          refine TL_y rfl rfl (Y_len rfl) ?_
          refine TL_y rfl rfl (Y_lt rfl rfl) ?_
          refine TL_nil ?_
          refine T_if rfl (fun h115 => ?_) (fun h115 => ?_)
          · refine T_skip ?_
            refine thenS_normal ?_
            refine T_seq ?_
            refine T_block ?_
            obtain ⟨s, hs⟩ : ∃ s, m[i]? = some s := ⟨_, List.getElem?_eq_getElem (by omega)⟩
            refine T_at_str (A := A51) (c := c51) slk hs fun b1 o1 hi1 ha1 => ?_
            refine T_at_str (A := A) (c := c) slk hs fun b2 o2 hi2 ha2 => ?_
            refine T_region_draw _ [0, 0, 3, 7, 0, 0, 48, 112, 255] [] [(0, true), (1, true), (2, true), (3, true), (4, true), (5, true), (6, true), (7, true), (8, true)] (by kernel_rfl) (by decide +kernel) (Gives.refl _) ?_
            refine TF_y rfl rfl (Y_move rfl) ?_
            refine TF_y rfl rfl (Y_move rfl) ?_
            refine TF_y rfl rfl (Y_index_at rfl rfl (by omega) ha1) ?_
            refine TF_y rfl rfl (Y_load_row rfl rfl) ?_
            refine TF_y rfl rfl (Y_move rfl) ?_
            refine TF_y rfl rfl (Y_move rfl) ?_
            refine TF_y rfl rfl (Y_index_at rfl rfl (by omega) ha2) ?_
            refine TF_y rfl rfl (Y_load_row rfl rfl) ?_
            refine TF_y rfl rfl (Y_str_ne rfl rfl) ?_
            refine TF_name 126 (v' := .bool false) rfl (congrArg Value.bool (by simp)) ?_
            refine TF_nil ?_
            refine T_cond_false rfl ?_
            refine T_skip ?_
            refine inB_normal ?_
            refine thenS_normal ?_
            refine T_region_last ?_
            refine TL_y rfl rfl (Y_move rfl) ?_
            refine TL_y rfl rfl (Y_add rfl rfl (by omega)) ?_
            refine TL_name 117 (v' := .int .i64 ((i + 1 : Nat) : Int)) rfl (rfl) ?_
            refine TL_y rfl rfl (Y_assign rfl) ?_
            refine TL_nil ?_
            refine thenS_normal ?_
            exact ⟨i + 1, (by omega), by omega, holds_to (sub_cons rfl (sub_cons rfl (sub_cons rfl (sub_nil)))) GivesTo.g⟩
          · refine T_exit ?_
            refine thenS_exit ?_
            refine thenS_exit ?_
            refine inB_hit ?_
            refine thenS_normal ?_
            refine T_region ?_
            refine TL_y rfl rfl (Y_assign rfl) ?_
            refine TL_nil ?_
            refine T_ret ?_
            exact RetG_1 (.inl rfl) rfl (ResV.tmp rfl) GivesTo.g (⟨rfl, rfl⟩)
      · refine TL_gskip rfl rfl rfl rfl ?_
        refine TL_gskip rfl rfl rfl rfl ?_
        refine TL_gskip rfl rfl rfl rfl ?_
        refine TL_gskip rfl rfl rfl rfl ?_
        refine TL_y rfl rfl (Y_pick_f rfl rfl) ?_
        refine TL_y rfl rfl (Y_assign rfl) ?_
        refine TL_nil ?_
        refine T_cond_false rfl ?_
        refine T_skip ?_
        refine inB_normal ?_
        refine thenS_normal ?_
        refine T_seq ?_
        obtain ⟨rfl, rfl, rfl⟩ : m = l ∧ n = (grp l.length ++ flat l).length ∧ e = 0 := by rcases hr with ⟨h, _⟩ | ⟨_, h, _⟩ | ⟨_, _, h⟩; exact absurd h h55; omega; exact h
        refine T_region ?_
        refine TL_y rfl rfl (Y_move rfl) ?_
        refine TL_y rfl rfl (Y_ne rfl rfl) ?_
        refine TL_name 97 (v' := .bool false) rfl (congrArg Value.bool (by decide)) ?_
        refine TL_y rfl rfl (Y_move rfl) ?_
        refine TL_grun rfl rfl ?_
        refine TL_y rfl rfl (Y_move rfl) ?_
        refine TL_grun rfl rfl ?_
        refine TL_y rfl rfl (Y_move rfl) ?_
        refine TL_grun rfl rfl ?_
        refine TL_y rfl rfl (Y_len rfl) ?_
        refine TL_grun rfl rfl ?_
        refine TL_y rfl rfl (Y_sub rfl rfl (by simp only [List.length_append, List.length_cons, List.length_nil]; omega)) ?_
        refine TL_grun rfl rfl ?_
        refine TL_y rfl rfl (Y_ne rfl rfl) ?_
        refine TL_name 103 (v' := .bool false) rfl (congrArg Value.bool (by simp only [List.length_append, List.length_cons, List.length_nil]; exact decide_eq_false (by omega))) ?_
        refine TL_y rfl rfl (Y_pick_f rfl rfl) ?_
        refine TL_y rfl rfl (Y_move rfl) ?_
        refine TL_grun rfl rfl ?_
        refine TL_y rfl rfl (Y_move rfl) ?_
        refine TL_grun rfl rfl ?_
        refine TL_y rfl rfl (Y_len rfl) ?_
        refine TL_grun rfl rfl ?_
        refine TL_y rfl rfl (Y_move rfl) ?_
        refine TL_grun rfl rfl ?_
        refine TL_y rfl rfl (Y_len rfl) ?_
        refine TL_grun rfl rfl ?_
        refine TL_y rfl rfl (Y_ne rfl rfl) ?_
        refine TL_name 110 (v' := .bool false) rfl (congrArg Value.bool (by simp)) ?_
        refine TL_y rfl rfl (Y_pick_f rfl rfl) ?_
        refine TL_nil ?_
        refine T_cond_false rfl ?_
        refine T_skip ?_
        refine thenS_normal ?_
        refine T_seq ?_
        refine T_region ?_
        refine TL_y rfl rfl (Y_assign rfl) ?_
        refine TL_nil ?_
        refine T_block ?_
        refine T_loopK (σ := Nat) [0, 11] (fun i => i ≤ m.length) (fun i kv => (14, .int .i64 (i : Int)) :: kv) (fun i => sl strR A51 c51 m :: sl strR A c m :: L) (fun i => m.length - i) (0) rfl (Nat.zero_le _) (GivesTo.g) (sub_cons rfl (sub_cons rfl (sub_cons rfl (sub_nil)))) ?_
        intro i hi
        refine T_seq ?_
        refine T_region ?_
        refine TL_y rfl rfl (Y_move rfl) ?_
        refine TL_y rfl rfl (Y_move rfl) ?_
        refine TL_y rfl rfl (Y_len rfl) ?_
        refine TL_y rfl rfl (Y_lt rfl rfl) ?_
        refine TL_nil ?_
        refine T_if rfl (fun h115 => ?_) (fun h115 => ?_)
        · refine T_skip ?_
          refine thenS_normal ?_
          refine T_seq ?_
          refine T_block ?_
          obtain ⟨s, hs⟩ : ∃ s, m[i]? = some s := ⟨_, List.getElem?_eq_getElem (by omega)⟩
          refine T_at_str (A := A51) (c := c51) slk hs fun b1 o1 hi1 ha1 => ?_
          refine T_at_str (A := A) (c := c) slk hs fun b2 o2 hi2 ha2 => ?_
          refine T_region_draw _ [0, 0, 3, 7, 0, 0, 48, 112, 255] [] [(0, true), (1, true), (2, true), (3, true), (4, true), (5, true), (6, true), (7, true), (8, true)] (by kernel_rfl) (by decide +kernel) (Gives.refl _) ?_
          refine TF_y rfl rfl (Y_move rfl) ?_
          refine TF_y rfl rfl (Y_move rfl) ?_
          refine TF_y rfl rfl (Y_index_at rfl rfl (by omega) ha1) ?_
          refine TF_y rfl rfl (Y_load_row rfl rfl) ?_
          refine TF_y rfl rfl (Y_move rfl) ?_
          refine TF_y rfl rfl (Y_move rfl) ?_
          refine TF_y rfl rfl (Y_index_at rfl rfl (by omega) ha2) ?_
          refine TF_y rfl rfl (Y_load_row rfl rfl) ?_
          refine TF_y rfl rfl (Y_str_ne rfl rfl) ?_
          refine TF_name 126 (v' := .bool false) rfl (congrArg Value.bool (by simp)) ?_
          refine TF_nil ?_
          refine T_cond_false rfl ?_
          refine T_skip ?_
          refine inB_normal ?_
          refine thenS_normal ?_
          refine T_region_last ?_
          refine TL_y rfl rfl (Y_move rfl) ?_
          refine TL_y rfl rfl (Y_add rfl rfl (by omega)) ?_
          refine TL_name 117 (v' := .int .i64 ((i + 1 : Nat) : Int)) rfl (rfl) ?_
          refine TL_y rfl rfl (Y_assign rfl) ?_
          refine TL_nil ?_
          refine thenS_normal ?_
          exact ⟨i + 1, (by omega), by omega, holds_to (sub_cons rfl (sub_cons rfl (sub_cons rfl (sub_nil)))) GivesTo.g⟩
        · refine T_exit ?_
          refine thenS_exit ?_
          refine thenS_exit ?_
          refine inB_hit ?_
          refine thenS_normal ?_
          refine T_region ?_
          refine TL_y rfl rfl (Y_assign rfl) ?_
          refine TL_nil ?_
          refine T_ret ?_
          exact RetG_1 (.inl rfl) rfl (ResV.tmp rfl) GivesTo.g (⟨rfl, rfl⟩)
end Go.SL
