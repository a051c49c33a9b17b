/- What the laws of this claim need, together: the logic, data in memory, the walks of functions. -/
import Derived.Test.YtajdgepnmbonaaaCmC
import Derived.Test.YtajdgepnmbonaaaRows
import Derived.WalkKit
import Derived.JoinedCond
import Derived.Deep.CondSized
set_option linter.unusedVariables false
set_option linter.unusedSimpArgs false
set_option linter.unusedVariables false
set_option linter.unusedSimpArgs false
namespace Go.SL
open Go Go.Proofs
/-! ### Told plainly: a set has one list that is in order -/
structure Sd (l zs : List EventD) : Prop where
  nd : zs.Nodup
  mem : ∀ e, e ∈ zs ↔ e ∈ l
  inc : zs.Pairwise fun x y => ¬ cmpE y x < 0
theorem MergeC.len {xs ys zs : List EventD} (h : MergeC xs ys zs) : zs.length ≤ xs.length + ys.length := by
  have := onceC_len (xs ++ ys)
  rw [List.length_append] at this
  rw [h.perm.length_eq]; exact this
theorem Sd.of {all xs ys zs : List EventD} (hR : RightC all) (hs : ∀ e ∈ xs ++ ys, e ∈ all) (h : MergeC xs ys zs) : Sd (xs ++ ys) zs := ⟨h.perm.nodup_iff.2 (onceC_nodup _), fun e => h.perm.mem_iff.trans (hR.sub hs).mem, h.inc⟩
theorem Sd.sub {all l zs : List EventD} (h : Sd l zs) (hs : ∀ e ∈ l, e ∈ all) : ∀ e ∈ zs, e ∈ all := fun e he => hs e ((h.mem e).1 he)
theorem app_sub {all xs ys : List EventD} (h1 : ∀ e ∈ xs, e ∈ all) (h2 : ∀ e ∈ ys, e ∈ all) : ∀ e ∈ xs ++ ys, e ∈ all := fun e he => (List.mem_append.1 he).elim (h1 e) (h2 e)
theorem Sd.ext {all l l' z z' : List EventD} (hR : RightC all) (hs : ∀ e ∈ l, e ∈ all) (h : Sd l z) (h' : Sd l' z') (he : ∀ e, e ∈ l ↔ e ∈ l') : z = z' := by
  refine (nodup_perm h.nd h'.nd fun e => (h.mem e).trans ((he e).trans (h'.mem e).symm)).eq_of_pairwise (fun a b ha hb h1 h2 => ?_) h.inc h'.inc
  refine hR.one a (hs a ((h.mem a).1 ha)) b (hs b ((he b).2 ((h'.mem b).1 hb))) ?_
  rw [cmpE_lt] at h1 h2
  exact Prod.ext (by omega) (by omega)
theorem goesC_same {l l' : List EventD} (he : ∀ e, e ∈ l ↔ e ∈ l') (x : EventD) : goesC l x ↔ goesC l' x := ⟨fun ⟨y, h1, h2⟩ => ⟨y, (he y).1 h1, h2⟩, fun ⟨y, h1, h2⟩ => ⟨y, (he y).2 h1, h2⟩⟩
theorem lineF_same {l l' : List EventD} (hR : RightC l) (he : ∀ e, e ∈ l ↔ e ∈ l') (cart sku : ByteArray) : lineF l cart sku = lineF l' cart sku :=
  lineF_by hR (countC_nodup l') (fun e => ((hR.sub (m := l') fun x hx => (he x).2 hx).count (e := e)).trans (and_congr (he e).symm (not_congr (goesC_same he e).symm))) cart sku
set_option maxHeartbeats 1000000 in
theorem cartMerges_walk {L : List HP} {A B C : Option Addr} {c d k : Nat} {xs ys zs : List EventD} (name : ByteArray) (hk : SlK L eventR A c xs) (hk2 : SlK L eventR B d ys) (hk3 : SlK L eventR C k zs) (hx : xs.length ≤ 1048576) (hy : ys.length ≤ 1048576) (hz : zs.length ≤ 1048576) : Fn Try.prog 11 #[.slice A xs.length c, .slice B ys.length d, .slice C zs.length k, .string name] L (fun v L' => v = .bool true ∧ L' = L) := by
  refine Fn_enter Try.func11 rfl rfl rfl rfl ?_
  refine T_gives hk3.lay ?_
  refine T_gives hk2.tail.lay ?_
  refine T_gives hk.tail.tail.lay ?_
  refine T_region ?_
  refine TL_y rfl rfl (Y_assign rfl) ?_
  refine TL_nil ?_
  refine T_seq ?_
  refine T_region ?_
  refine TL_call rfl rfl (lives11_spec _) ?_
  rintro _ _ ⟨rfl, rfl⟩
  refine TL_y rfl rfl (Y_not rfl) ?_
  refine TL_name 12 (v' := .bool false) rfl (rfl) ?_
  refine TL_nil ?_
  refine T_cond_false rfl ?_
  refine T_skip ?_
  refine thenS_normal ?_
  refine T_region ?_
  refine TL_build_slice rfl rfl rfl rfl rfl rfl ?_
  intro b13
  refine TL_osl (k := 0) eventR [] (Knows.const fun M => rfl) rfl (by simp) ?_
  refine TL_name 13 (v' := .slice (some ⟨b13, 0, none⟩) ([] : List EventD).length 0) rfl rfl ?_
  refine TL_y rfl rfl (Y_move rfl) ?_
  refine TL_append rfl rfl rfl rfl rfl slk (by simp only [List.length_nil]; omega) ?_
  intro A15 c15
  simp only [List.nil_append]
  refine TL_y rfl rfl (Y_move rfl) ?_
  refine TL_append rfl rfl rfl rfl rfl slk (by omega) ?_
  intro A17 c17
  refine TL_y rfl rfl (Y_move rfl) ?_
  refine TL_append rfl rfl rfl rfl rfl slk (by rw [List.length_append]; omega) ?_
  intro A19 c19
  refine TL_freeze_osl ?_
  refine TL_y rfl rfl (Y_assign rfl) ?_
  refine TL_nil ?_
  refine T_seq ?_
  refine Classical.byCases (p := RightC (xs ++ ys ++ zs)) (fun hR => ?_) (fun hR => ?_)
  · refine T_region ?_
    refine TL_y rfl rfl (Y_move rfl) ?_
    refine TL_call rfl rfl (right11_spec slk) ?_
    rintro _ _ ⟨⟨r, rfl, hr⟩, rfl⟩
    obtain rfl := hr.2 hR
    refine TL_y rfl rfl (Y_not rfl) ?_
    refine TL_name 22 (v' := .bool false) rfl (rfl) ?_
    refine TL_nil ?_
    refine T_cond_false rfl ?_
    refine T_skip ?_
    refine thenS_normal ?_
    have ax : ∀ e ∈ xs, e ∈ xs ++ ys ++ zs := (fun e he => by simp [he])
    have ay : ∀ e ∈ ys, e ∈ xs ++ ys ++ zs := (fun e he => by simp [he])
    have az : ∀ e ∈ zs, e ∈ xs ++ ys ++ zs := (fun e he => by simp [he])
    refine T_region ?_
    refine TL_y rfl rfl (Y_move rfl) ?_
    refine TL_y rfl rfl (Y_move rfl) ?_
    refine TL_call rfl rfl (merge_spec slk slk (by omega)) ?_
    rintro _ _ ⟨A25, c25, z25, rfl, rfl, h25⟩
    refine TL_freeze_osl ?_
    have l25 := h25.len
    have s25 := Sd.of hR (app_sub ax ay) h25
    have m25 := s25.sub (app_sub ax ay)
    refine TL_y rfl rfl (Y_assign rfl) ?_
    refine TL_nil ?_
    refine T_seq ?_
    refine T_region ?_
    refine TL_y rfl rfl (Y_move rfl) ?_
    refine TL_y rfl rfl (Y_move rfl) ?_
    refine TL_y rfl rfl (Y_move rfl) ?_
    refine TL_call rfl rfl (merge_spec slk slk (by omega)) ?_
    rintro _ _ ⟨A29, c29, z29, rfl, rfl, h29⟩
    refine TL_freeze_osl ?_
    have s29 := Sd.of hR (app_sub ay ax) h29
    refine TL_call rfl rfl (sameEvents_spec slk slk) ?_
    rintro _ _ ⟨rfl, rfl⟩
    refine TL_name 30 (v' := .bool true) rfl (congrArg Value.bool (decide_eq_true (Sd.ext hR (app_sub ax ay) s25 s29 fun e => by simp [or_comm]))) ?_
    refine TL_y rfl rfl (Y_not_t rfl) ?_
    refine TL_y rfl rfl (Y_move rfl) ?_
    refine TL_grun rfl rfl ?_
    refine TL_y rfl rfl (Y_move rfl) ?_
    refine TL_grun rfl rfl ?_
    refine TL_y rfl rfl (Y_move rfl) ?_
    refine TL_grun rfl rfl ?_
    refine TL_call rfl rfl (merge_spec slk slk (by omega)) ?_
    rintro _ _ ⟨A35, c35, z35, rfl, rfl, h35⟩
    refine TL_freeze_osl ?_
    have s35 := Sd.of hR (app_sub m25 az) h35
    refine TL_grun rfl rfl ?_
    refine TL_y rfl rfl (Y_move rfl) ?_
    refine TL_grun rfl rfl ?_
    refine TL_y rfl rfl (Y_move rfl) ?_
    refine TL_grun rfl rfl ?_
    refine TL_y rfl rfl (Y_move rfl) ?_
    refine TL_grun rfl rfl ?_
    refine TL_call rfl rfl (merge_spec slk slk (by omega)) ?_
    rintro _ _ ⟨A39, c39, z39, rfl, rfl, h39⟩
    refine TL_freeze_osl ?_
    have l39 := h39.len
    have s39 := Sd.of hR (app_sub ay az) h39
    have m39 := s39.sub (app_sub ay az)
    refine TL_grun rfl rfl ?_
    refine TL_call rfl rfl (merge_spec slk slk (by omega)) ?_
    rintro _ _ ⟨A40, c40, z40, rfl, rfl, h40⟩
    refine TL_freeze_osl ?_
    have s40 := Sd.of hR (app_sub ax m39) h40
    refine TL_grun rfl rfl ?_
    refine TL_call rfl rfl (sameEvents_spec slk slk) ?_
    rintro _ _ ⟨rfl, rfl⟩
    refine TL_name 41 (v' := .bool true) rfl (congrArg Value.bool (decide_eq_true (Sd.ext hR (app_sub m25 az) s35 s40 fun e => by simp [s25.mem, s39.mem, or_assoc]))) ?_
    refine TL_grun rfl rfl ?_
    refine TL_y rfl rfl (Y_not_t rfl) ?_
    refine TL_y rfl rfl (Y_pick_f rfl rfl) ?_
    refine TL_y rfl rfl (Y_move rfl) ?_
    refine TL_grun rfl rfl ?_
    refine TL_y rfl rfl (Y_move rfl) ?_
    refine TL_grun rfl rfl ?_
    refine TL_y rfl rfl (Y_move rfl) ?_
    refine TL_grun rfl rfl ?_
    refine TL_call rfl rfl (merge_spec slk slk (by omega)) ?_
    rintro _ _ ⟨A47, c47, z47, rfl, rfl, h47⟩
    refine TL_freeze_osl ?_
    have s47 := Sd.of hR (app_sub m25 m25) h47
    refine TL_grun rfl rfl ?_
    refine TL_y rfl rfl (Y_move rfl) ?_
    refine TL_grun rfl rfl ?_
    refine TL_call rfl rfl (sameEvents_spec slk slk) ?_
    rintro _ _ ⟨rfl, rfl⟩
    refine TL_name 49 (v' := .bool true) rfl (congrArg Value.bool (decide_eq_true (Sd.ext hR (app_sub m25 m25) s47 s25 fun e => by simp [s25.mem]))) ?_
    refine TL_grun rfl rfl ?_
    refine TL_y rfl rfl (Y_not_t rfl) ?_
    refine TL_y rfl rfl (Y_pick_f rfl rfl) ?_
    refine TL_y rfl rfl (Y_move rfl) ?_
    refine TL_grun rfl rfl ?_
    refine TL_y rfl rfl (Y_move rfl) ?_
    refine TL_grun rfl rfl ?_
    refine TL_y rfl rfl (Y_move rfl) ?_
    refine TL_grun rfl rfl ?_
    refine TL_call rfl rfl (merge_spec slk slk (by omega)) ?_
    rintro _ _ ⟨A55, c55, z55, rfl, rfl, h55⟩
    refine TL_freeze_osl ?_
    have s55 := Sd.of hR (app_sub m25 ax) h55
    refine TL_grun rfl rfl ?_
    refine TL_y rfl rfl (Y_move rfl) ?_
    refine TL_grun rfl rfl ?_
    refine TL_call rfl rfl (sameEvents_spec slk slk) ?_
    rintro _ _ ⟨rfl, rfl⟩
    refine TL_name 57 (v' := .bool true) rfl (congrArg Value.bool (decide_eq_true (Sd.ext hR (app_sub m25 ax) s55 s25 fun e => by simp only [List.mem_append, s25.mem]; exact ⟨fun h => h.elim id .inl, .inl⟩))) ?_
    refine TL_grun rfl rfl ?_
    refine TL_y rfl rfl (Y_not_t rfl) ?_
    refine TL_y rfl rfl (Y_pick_f rfl rfl) ?_
    refine TL_nil ?_
    refine T_cond_false rfl ?_
    refine T_skip ?_
    refine thenS_normal ?_
    refine T_region ?_
    refine TL_y rfl rfl (Y_move rfl) ?_
    refine TL_y rfl rfl (Y_move rfl) ?_
    refine TL_call rfl rfl (merge_spec slk slk (by omega)) ?_
    rintro _ _ ⟨A62, c62, z62, rfl, rfl, h62⟩
    refine TL_freeze_osl ?_
    have l62 := h62.len
    have s62 := Sd.of hR (app_sub m25 az) h62
    have m62 := s62.sub (app_sub m25 az)
    refine TL_y rfl rfl (Y_move rfl) ?_
    refine TL_call rfl rfl (lines_spec name slk (by omega) (hR.sub m62).qty) ?_
    rintro _ _ ⟨A64, c64, x64, rfl, rfl, hx64, hl64⟩
    refine TL_y rfl rfl (Y_move rfl) ?_
    refine TL_y rfl rfl (Y_move rfl) ?_
    refine TL_call rfl rfl (lines_spec name (slk (A := A19) (c := c19)) (by simp only [List.length_append]; omega) hR.qty) ?_
    rintro _ _ ⟨A67, c67, x67, rfl, rfl, hx67, hl67⟩
    refine TL_call rfl rfl (sameL_spec sln sln) ?_
    rintro _ _ ⟨rfl, rfl⟩
    refine TL_name 68 (v' := .bool true) rfl (congrArg Value.bool (decide_eq_true (hx64.ext hx67 fun q => lineF_same (hR.sub m62) (fun e => by simp [s62.mem, s25.mem, or_assoc]) name q))) ?_
    refine TL_y rfl rfl (Y_assign rfl) ?_
    refine TL_nil ?_
    refine T_ret ?_
    exact RetG_1 (.inl rfl) rfl (ResV.tmp rfl) GivesTo.g (⟨rfl, rfl⟩)
  · refine T_region ?_
    refine TL_y rfl rfl (Y_move rfl) ?_
    refine TL_call rfl rfl (right11_spec slk) ?_
    rintro _ _ ⟨⟨r, rfl, hr⟩, rfl⟩
    obtain rfl : r = false := by cases r; rfl; exact absurd (hr.1 rfl) hR
    refine TL_y rfl rfl (Y_not rfl) ?_
    refine TL_name 22 (v' := .bool true) rfl (rfl) ?_
    refine TL_nil ?_
    refine T_cond_true rfl ?_
    refine T_region ?_
    refine TL_y rfl rfl (Y_assign rfl) ?_
    refine TL_nil ?_
    refine T_ret ?_
    refine thenS_ret ?_
    exact RetG_1 (.inl rfl) rfl (ResV.tmp rfl) GivesTo.g (⟨rfl, rfl⟩)
end Go.SL
set_option linter.unusedVariables false
set_option linter.unusedSimpArgs false
namespace Go.SL
open Go Go.Proofs
end Go.SL
set_option linter.unusedVariables false
set_option linter.unusedSimpArgs false
namespace Go.SL
open Go Go.Proofs
abbrev orderV (x : OrderD) (q : Option Addr × Nat) : Value := .agg (List.toArray (orderC x q))
def selP (e : EventD) (x : OrderD) : Prop := x.cart = e.cart ∧ e.epoch ≤ x.epoch ∧ hasV x.cut e.dot
instance (e : EventD) (x : OrderD) : Decidable (selP e x) := by unfold selP; exact inferInstance
def belC (s : List OrderD) (e : EventD) : Option OrderD := s.find? fun x => decide (selP e x)
def belB (s : List OrderD) (e : EventD) : Bool := (belC s e).isSome
def belN (s : List OrderD) (e : EventD) : Int := match belC s e with
  | some x => x.epoch
  | none => 0
def epochC (s : List OrderD) (name : ByteArray) : Nat := s.countP fun x => decide (x.cart = name)
def CheckC (s : List OrderD) : Prop := ∀ i x, s[i]? = some x → rSeal x ∧ x.epoch = (epochC (s.take i) x.cart : Int)
def ordC12 (l : List EventD) (s : List OrderD) : List EventD := l.filter fun e => belB s e
def openC (l : List EventD) (s : List OrderD) : List EventD := l.filter fun e => !belB s e
def ordLC (l : List EventD) (s : List OrderD) (name : ByteArray) (ep : Int) : List EventD := l.filter fun e => belB s e && decide (belN s e = ep) && decide (e.cart = name)
def belowB (a b : List Int) : Bool := (List.range (max a.length b.length)).all fun i : Nat => decide (ofV a (i : Int) ≤ ofV b (i : Int))
def wholeC (applied : List Int) (s : List OrderD) (name : ByteArray) (ep : Int) : Bool := match s.find? fun x => decide (x.cart = name) && decide (x.epoch = ep) with
  | some x => belowB x.cut applied
  | none => false
/-! ### IndexFunc over seals -/
/-! ### where -/
end Go.SL
set_option linter.unusedVariables false
set_option linter.unusedSimpArgs false
namespace Go.SL
open Go Go.Proofs
abbrev wSpL (bb : Nat) (S : Option Addr) (cs : Nat) (s : List OrderD) : List HP := [cells bb [.slice S s.length cs] 43, sl orderR S cs s]
def wSp (bb : Nat) (S : Option Addr) (cs : Nat) (s : List OrderD) : HP := unS (wSpL bb S cs s)
abbrev wSp2L (b6 bb : Nat) (S : Option Addr) (cs : Nat) (s : List OrderD) : List HP := [cells b6 [.func (.func 51) #[] #[.pointer (some ⟨bb, 0, none⟩)]] 75, wSp bb S cs s]
def wSp2 (b6 bb : Nat) (S : Option Addr) (cs : Nat) (s : List OrderD) : HP := unS (wSp2L b6 bb S cs s)
abbrev wOrL (b5 b6 b7 : Nat) (S : Option Addr) (cs : Nat) (s : List OrderD) (name : ByteArray) (ep : Int) : List HP := [cells b5 [.slice S s.length cs] 43, cells b6 [.string name] 9, cells b7 [.int .i64 ep] 3, sl orderR S cs s]
def wOr (b5 b6 b7 : Nat) (S : Option Addr) (cs : Nat) (s : List OrderD) (name : ByteArray) (ep : Int) : HP := unS (wOrL b5 b6 b7 S cs s name ep)
/-! ### Whole -/
abbrev wWhL (b6 b7 : Nat) (name : ByteArray) (ep : Int) : List HP := [cells b6 [.string name] 9, cells b7 [.int .i64 ep] 3]
def wWh (b6 b7 : Nat) (name : ByteArray) (ep : Int) : HP := unS (wWhL b6 b7 name ep)
end Go.SL
set_option linter.unusedVariables false
set_option linter.unusedSimpArgs false
namespace Go.SL
open Go Go.Proofs
abbrev CheckT (s : List OrderD) (i : Nat) : Prop := ∀ j x, j < i → s[j]? = some x → rSeal x ∧ x.epoch = (epochC (s.take j) x.cart : Int)
theorem CheckT.step {s : List OrderD} {i : Nat} {x : OrderD} (h : CheckT s i) (hx : s[i]? = some x) (h1 : rSeal x) (h2 : x.epoch = (epochC (s.take i) x.cart : Int)) : CheckT s (i + 1) := fun j y hj hy => by
  by_cases e : j = i
  · subst e; rw [hx] at hy; cases hy; exact ⟨h1, h2⟩
  · exact h j y (by omega) hy
theorem CheckT.all {s : List OrderD} {i : Nat} (h : CheckT s i) (hi : s.length ≤ i) : CheckC s := fun j x hx => h j x (by have := (List.getElem?_eq_some_iff.1 hx).1; omega) hx
theorem CheckT.no {s : List OrderD} {i : Nat} {x : OrderD} (hx : s[i]? = some x) (h : ¬ (rSeal x ∧ x.epoch = (epochC (s.take i) x.cart : Int))) : ¬ CheckC s := fun hc => h (hc i x hx)
structure CkSt where
  i : Nat
  m : List (ByteArray × Int)
def ckR (s : List OrderD) (v : Value) : Prop := ∃ (n e : Int), v = .tuple #[.int .i64 n, .int .i64 e] ∧ ((e = 0 ∧ CheckC s) ∨ (e = 120 ∧ ¬ CheckC s))
/-! ### Each dot once -/
structure Once12 (l : List EventD) : Prop where
  qty : ∀ e ∈ l, 0 ≤ e.qty ∧ e.qty ≤ 1000
  dots : l.Pairwise fun a b => a.dot ≠ b.dot
theorem Once12.right {l : List EventD} (h : Once12 l) : RightC l := ⟨h.qty, fun a ha b hb hab => by
  obtain ⟨i, hi⟩ := List.getElem?_of_mem ha
  obtain ⟨j, hj⟩ := List.getElem?_of_mem hb
  have h1 := (List.getElem?_eq_some_iff.1 hi)
  have h2 := (List.getElem?_eq_some_iff.1 hj)
  have hp := List.pairwise_iff_getElem.1 h.dots
  rcases Nat.lt_trichotomy i j with hij | hij | hij
  · exact absurd (by rw [h1.2, h2.2]; exact hab) (hp i j h1.1 h2.1 hij)
  · subst hij; rw [hi] at hj; cases hj; rfl
  · exact absurd (by rw [h1.2, h2.2]; exact hab.symm) (hp j i h2.1 h1.1 hij)⟩
end Go.SL
set_option linter.unusedVariables false
set_option linter.unusedSimpArgs false
namespace Go.SL
open Go Go.Proofs
abbrev sc1 : OrderD := ⟨⟨#[116]⟩, ⟨#[99]⟩, 0, [1]⟩
abbrev sc2 : OrderD := ⟨⟨#[116]⟩, ⟨#[99]⟩, 1, []⟩
/-! ### Without seals -/
def othersC (s : List OrderD) (name : ByteArray) : List OrderD := s.filter fun x => !decide (x.cart = name)
end Go.SL
set_option linter.unusedVariables false
set_option linter.unusedSimpArgs false
namespace Go.SL
open Go Go.Proofs
/-! ### Plain -/
/-! ### Each event once -/
end Go.SL
set_option linter.unusedVariables false
set_option linter.unusedSimpArgs false
namespace Go.SL
open Go Go.Proofs
/-! ### An event outside all cuts -/
/-! ### An order that is whole -/
end Go.SL
set_option linter.unusedVariables false
namespace Go.SL
open Go Go.Proofs
theorem cells_i : Try.prog.cellsOf 3 = 1 := by kernel_rfl
theorem cells_b : Try.prog.cellsOf 4 = 1 := by kernel_rfl
theorem cells_s : Try.prog.cellsOf 9 = 1 := by kernel_rfl
theorem cells_li : Try.prog.cellsOf 27 = 1 := by kernel_rfl
theorem bytes_i : Try.prog.bytesOf 3 = 8 := by kernel_rfl
theorem sl_to {α : Type} {R : Rep α} {A : Option Addr} {c : Nat} {xs : List α} {M : Mem} (k : sliceAt M R A c xs) : Sep [sl R A c xs] M Mem.emp := ⟨Mem.emp, Mem.emp, Mem.emp_disj _, Mem.le_refl _, Mem.le_refl _, k, trivial⟩
theorem reads_ints : Reads Try.prog 27 (sliceR (intR .i64)) (fun xs => xs.length * 8 ≤ 140737488351232) (fun xs => xs.length + 1) := fun H enc W held fuel cs d ps h hw => by
  obtain ⟨xs, h1, h2, h3⟩ := reads_slice Try.underlying27 (R := intR .i64) (by kernel_rfl) (by decide) (by rw [bytes_i]; decide) (reads_int Try.underlying3) H enc W held fuel cs d ps h hw
  rw [bytes_i] at h2
  refine ⟨xs, h1, h2.1, fun B => Nat.le_trans ?_ (h3 B)⟩
  have q : xs.length ≤ (xs.map fun _ : Int => 1).sum := sum_ge (μ := fun _ : Int => 1) (fun _ => Nat.le_refl _) xs
  exact Nat.succ_le_succ q
def μSeal (x : OrderD) : Nat := x.token.size + x.cart.size + x.cut.length + 5
def μEntry (e : EntryD) : Nat := μSeal e.order + 2
end Go.SL
set_option linter.unusedVariables false
namespace Go.SL
open Go Go.Proofs
def pairR : Rep (Int × Int) := ⟨2, fun _ a cs => cs = [.int .i64 a.1, .int .i64 a.2] ∧ intIn .i64 a.1 ∧ intIn .i64 a.2, fun _ h => h, fun h => by rw [h.1]; rfl, fun h v hv => by rw [h.1] at hv; simp at hv; rcases hv with rfl | rfl <;> rfl⟩
theorem cells_dot : Try.prog.cellsOf 26 = 2 := by kernel_rfl
set_option maxRecDepth 100000 in
theorem reads_dot : Reads Try.prog 26 pairR (fun _ => True) (fun _ => 1) := fun H enc W held fuel cs d ps h hw => by
  obtain ⟨ds, n, rfl, hl, _, hf⟩ := reads_fields Try.underlying26 h hw
  rw [cells_dot] at hl
  match cs, hl with
  | [u, v], _ =>
  obtain ⟨d0, p0, _, h0, w0⟩ := hf 0 _ rfl
  obtain ⟨d1, p1, _, h1, w1⟩ := hf 1 _ rfl
  obtain ⟨x, ⟨e0, i0⟩, _⟩ := reads_int Try.underlying3 H enc W held n _ d0 p0 h0 w0
  obtain ⟨y, ⟨e1, i1⟩, _⟩ := reads_int Try.underlying3 H enc W held n _ d1 p1 h1 w1
  simp [cells_i] at e0 e1
  subst e0; subst e1
  exact ⟨(x, y), ⟨rfl, i0, i1⟩, trivial, fun B => B.one _⟩
def μEvent (e : EventD) : Nat := e.deps.length + e.cart.size + e.sku.size + 8
def μVoted (v : VotedD) : Nat := μEntry v.en + 3
def μMsg (m : MsgD) : Nat := μEntry m.en + (m.voted.map μVoted).sum + m.seen.length + (m.events.map μEvent).sum + 10
theorem cells_event : Try.prog.cellsOf 29 = 8 := by kernel_rfl
set_option maxRecDepth 100000 in
theorem reads_event : Reads Try.prog 29 eventR (fun _ => True) μEvent := fun H enc W held fuel cs d ps h hw => by
  obtain ⟨ds, n, rfl, hl, hdl, hf⟩ := reads_fields Try.underlying29 h hw
  rw [cells_event] at hl
  match cs, hl with
  | [u0, u1, u2, u3, u4, u5, u6, u7], _ =>
  obtain ⟨d0, p0, g0, h0, w0⟩ := hf 0 _ rfl
  obtain ⟨d1, p1, g1, h1, w1⟩ := hf 1 _ rfl
  obtain ⟨d2, p2, g2, h2, w2⟩ := hf 2 _ rfl
  obtain ⟨d3, p3, g3, h3, w3⟩ := hf 3 _ rfl
  obtain ⟨d4, p4, g4, h4, w4⟩ := hf 4 _ rfl
  obtain ⟨d5, p5, g5, h5, w5⟩ := hf 5 _ rfl
  obtain ⟨d6, p6, g6, h6, w6⟩ := hf 6 _ rfl
  obtain ⟨x0, ⟨e0, i0, j0⟩, _, m0⟩ := reads_dot H enc W held n _ d0 p0 h0 w0
  obtain ⟨x1, ⟨A1, c1, e1, i1⟩, k1, m1⟩ := reads_ints H enc W held n _ d1 p1 h1 w1
  obtain ⟨x2, ⟨e2, i2⟩, _, m2⟩ := reads_str Try.underlying9 H enc W held n _ d2 p2 h2 w2
  obtain ⟨x3, ⟨e3, i3⟩, _, m3⟩ := reads_int Try.underlying3 H enc W held n _ d3 p3 h3 w3
  obtain ⟨x4, ⟨e4, i4⟩, _, m4⟩ := reads_str Try.underlying9 H enc W held n _ d4 p4 h4 w4
  obtain ⟨x5, ⟨e5, i5⟩, _, m5⟩ := reads_int Try.underlying3 H enc W held n _ d5 p5 h5 w5
  obtain ⟨x6, e6, _, m6⟩ := reads_bool Try.underlying4 H enc W held n _ d6 p6 h6 w6
  simp [cells_dot] at e0
  obtain ⟨rfl, rfl⟩ := e0
  simp [cells_li] at e1
  subst e1
  simp [cells_s] at e2
  subst e2
  simp [cells_i] at e3
  subst e3
  simp [cells_s] at e4
  subst e4
  simp [cells_i] at e5
  subst e5
  simp [cells_b, boolR] at e6
  subst e6
  refine ⟨⟨x0, x1, x2, x3, x4, x5, x6⟩, ⟨(A1, c1), rfl, sl_to i1, i0, j0, by show x1.length ≤ _; omega, i2, i3, i4, i5⟩, trivial, fun B => ?_⟩
  refine Nat.le_trans ?_ (B.agg ds)
  match ds, hdl with
  | [a0, a1, a2, a3, a4, a5, a6], _ =>
  simp at g0 g1 g2 g3 g4 g5 g6
  subst g0
  subst g1
  subst g2
  subst g3
  subst g4
  subst g5
  subst g6
  have q0' : 1 ≤ B.f a0 := m0 B
  have q1' : x1.length + 1 ≤ B.f a1 := m1 B
  have q2' : x2.size + 1 ≤ B.f a2 := m2 B
  have q3' : 1 ≤ B.f a3 := m3 B
  have q4' : x4.size + 1 ≤ B.f a4 := m4 B
  have q5' : 1 ≤ B.f a5 := m5 B
  have q6' : 1 ≤ B.f a6 := m6 B
  simp only [List.map_cons, List.map_nil, List.sum_cons, List.sum_nil]
  show x1.length + x2.size + x4.size + 8 ≤ _
  omega
def msgR : Rep MsgD := exR 15 msgC (fun m p => [sl (intR .i64) p.cut.1 p.cut.2 m.en.order.cut, sl votedR p.voted.1 p.voted.2 m.voted, sl (intR .i64) p.seen.1 p.seen.2 m.seen, sl eventR p.events.1 p.events.2 m.events]) MsgOk (fun _ _ => rfl) (fun _ _ => rfl)
end Go.SL
set_option linter.unusedVariables false
namespace Go.SL
open Go Go.Proofs
abbrev sealR : Rep OrderD := orderR
end Go.SL
set_option linter.unusedVariables false
namespace Go.SL
open Go Go.Proofs
theorem events_len {l : List EventD} (h : (l.map μEvent).sum ≤ 1048576) : l.length ≤ 1048576 := by
  have := sum_ge (μ := μEvent) (fun x => by unfold μEvent; omega) l
  omega
end Go.SL
set_option linter.unusedVariables false
namespace Go.Proofs.Ytajdgepnmbonaaa
open Go.SL
theorem up_one {H : Type} (d : DataW H) : 1 ≤ Rows.uptoBulk d := by
  cases d with
  | lit l => cases l <;> simp [Rows.uptoBulk]
  | nil => simp [Rows.uptoBulk]
  | ptr d => simp [Rows.uptoBulk]
  | slice elems spare => simp [Rows.uptoBulk]
  | agg parts => simp [Rows.uptoBulk]
  | iface t d => simp [Rows.uptoBulk]
  | map entries => simp [Rows.uptoBulk]
  | held h => simp [Rows.uptoBulk]
theorem up_all {H : Type} : ∀ l : List (DataW H), Rows.uptoBulkAll l = (l.map Rows.uptoBulk).sum
  | [] => by simp [Rows.uptoBulkAll]
  | d :: l => by simp [Rows.uptoBulkAll, up_all l]
def upB {H : Type} : Bulk H := ⟨Rows.uptoBulk, up_one, fun b => by simp [Rows.uptoBulk], fun e s => by simp only [Rows.uptoBulk, up_all]; omega, fun ps => by simp only [Rows.uptoBulk, up_all]; omega, fun d => by simp only [Rows.uptoBulk]; omega⟩
theorem up_bound {H : Type} {l : List (DataW H)} (hk : Rows.uptoSmall H l = true) : (l.map upB.f).sum ≤ 1048576 := by
  have := of_decide_eq_true hk
  rwa [up_all] at this
end Go.Proofs.Ytajdgepnmbonaaa
