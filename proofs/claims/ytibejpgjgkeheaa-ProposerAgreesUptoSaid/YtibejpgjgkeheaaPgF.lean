/- What the laws of this claim need, together: the logic, data in memory, the walks of functions. -/
import Derived.Test.YtibejpgjgkeheaaPgE
set_option linter.unusedVariables false
set_option linter.unusedSimpArgs false
set_option linter.unusedVariables false
set_option linter.unusedSimpArgs false
namespace Go.SL
open Go Go.Proofs
instance : RepF ptrR (fun b => [.pointer (some ⟨b, 0, none⟩)]) := ⟨fun _ _ _ h => h⟩
def prHs (PB : List (Nat × PP)) : List HP := PB.map fun z => pr z.1 z.2
def acHs (AB : List (Nat × AccD)) : List HP := AB.map fun z => ac z.1 z.2
abbrev bs1 {α : Type} (l : List (Nat × α)) : List Nat := l.map Prod.fst
structure GrS where
  n : Int
  PB : List (Nat × PP)
  AB : List (Nat × AccD)
  bag : List MsgD
  ch : List VotedD
  pa : Option Addr
  pc : Nat
  aa : Option Addr
  ac : Nat
  ba : Option Addr
  bc : Nat
  ca : Option Addr
  cc : Nat
def GrS.pl (s : GrS) : GrD := ⟨s.n, s.PB.map Prod.snd, s.AB.map Prod.snd, s.bag, s.ch⟩
abbrev grC (s : GrS) : List Value := [.int .i64 s.n, .slice s.pa (bs1 s.PB).length s.pc, .slice s.aa (bs1 s.AB).length s.ac, .slice s.ba s.bag.length s.bc, .slice s.ca s.ch.length s.cc]
abbrev grL (b : Nat) (s : GrS) (L : List HP) : List HP := cells b (grC s) 99 :: osl ptrR 70 s.pa s.pc (bs1 s.PB) :: osl ptrR 35 s.aa s.ac (bs1 s.AB) :: osl msgR 44 s.ba s.bc s.bag :: osl votedR 50 s.ca s.cc s.ch :: allH (prHs s.PB) :: allH (acHs s.AB) :: L
def gr (b : Nat) (g : GrD) : HP := exH fun s : GrS => pure (s.pl = g) :: grL b s []
instance findK_gr {L : List HP} {b : Nat} {g : GrD} : FindK (gr b g :: L) b (gr b g) L := ⟨Gives.refl _⟩
section
variable {r : Option Nat} {n : Nat} {P : Program} {ops : Array Oper} {rest : List Oper} {K : St → Prop} {Q : Exit → St → Prop} {D : List Deferred} {E : Env} {L L1 L2 : List HP} {b : Nat} {g : GrD}
theorem gr_open {W w : World} (h : Sat W w (gr b g :: L)) : ∃ s : GrS, s.pl = g ∧ Sat W w (grL b s L) := by
  obtain ⟨s, hp⟩ := exH_open h
  obtain ⟨M, k, hd, hM, hk, h1, h2, hd', l1, l2, hq, hs⟩ := hp.ex
  exact ⟨s, hq, hp.gives (Gives.drop _ _)⟩
theorem T_gr {c : Code} (h : ∀ s : GrS, s.pl = g → T r n P c ⟨D, E, cells b (grC s) 99 :: osl ptrR 70 s.pa s.pc (bs1 s.PB) :: osl ptrR 35 s.aa s.ac (bs1 s.AB) :: osl msgR 44 s.ba s.bc s.bag :: osl votedR 50 s.ca s.cc s.ch :: allH (prHs s.PB) :: allH (acHs s.AB) :: L⟩ Q) : T r n P c ⟨D, E, gr b g :: L⟩ Q := fun W a w hh => by
  obtain ⟨s, h1, hs⟩ := gr_open hh.2
  exact h s h1 W a w ⟨hh.1, hs⟩
theorem gr_close {L3 L4 L5 L6 L7 : List HP} (b : Nat) (s : GrS) (g : GrD) [h1 : FindC L b (grC s) 99 L1] [h2 : FindHP L1 (osl ptrR 70 s.pa s.pc (bs1 s.PB)) L2] [h3 : FindHP L2 (osl ptrR 35 s.aa s.ac (bs1 s.AB)) L3] [h4 : FindHP L3 (osl msgR 44 s.ba s.bc s.bag) L4] [h5 : FindHP L4 (osl votedR 50 s.ca s.cc s.ch) L5] [h6 : FindHP L5 (allH (prHs s.PB)) L6] [h7 : FindHP L6 (allH (acHs s.AB)) L7] (hp : s.pl = g) : Gives L (gr b g :: L7) := by
  refine Gives.trans (h1.g.trans (Gives.cons _ (h2.g.trans (Gives.cons _ (h3.g.trans (Gives.cons _ (h4.g.trans (Gives.cons _ (h5.g.trans (Gives.cons _ (h6.g.trans (Gives.cons _ h7.g)))))))))))) ?_
  refine Gives.trans ?_ (exH_close (f := fun s : GrS => pure (s.pl = g) :: grL b s []) s)
  exact Gives.pure_intro hp
theorem prHs_at {PB : List (Nat × PP)} {k bp : Nat} {p : PP} (hz : PB[k]? = some (bp, p)) : (prHs PB)[k]? = some (pr bp p) := by simp [prHs, hz]
theorem acHs_at {AB : List (Nat × AccD)} {k ba : Nat} {a : AccD} (hz : AB[k]? = some (ba, a)) : (acHs AB)[k]? = some (ac ba a) := by simp [acHs, hz]
theorem T_prTake {c : Code} {PB : List (Nat × PP)} {k bp : Nat} {p : PP} (hz : PB[k]? = some (bp, p)) [h1 : FindHP L (allH (prHs PB)) L1] (h : T r n P c ⟨D, E, pr bp p :: allH ((prHs PB).set k hole) :: L1⟩ Q) : T r n P c ⟨D, E, L⟩ Q := T_gives (h1.g.trans (allH_take (prHs_at hz))) h
theorem T_acTake {c : Code} {AB : List (Nat × AccD)} {k ba : Nat} {a : AccD} (hz : AB[k]? = some (ba, a)) [h1 : FindHP L (allH (acHs AB)) L1] (h : T r n P c ⟨D, E, ac ba a :: allH ((acHs AB).set k hole) :: L1⟩ Q) : T r n P c ⟨D, E, L⟩ Q := T_gives (h1.g.trans (allH_take (acHs_at hz))) h
theorem prPut {PB : List (Nat × PP)} {k bp : Nat} {p : PP} (q : PP) (hz : PB[k]? = some (bp, p)) [h1 : FindHP L (pr bp q) L1] [h2 : FindHP L1 (allH ((prHs PB).set k hole)) L2] : Gives L (allH (prHs (PB.set k (bp, q))) :: L2) := by
  have := allH_put (q := pr bp q) (L := L2) (List.getElem?_eq_some_iff.1 (prHs_at hz)).1
  rw [show (prHs PB).set k (pr bp q) = prHs (PB.set k (bp, q)) by unfold prHs; rw [List.map_set]] at this
  exact (h1.g.trans (Gives.cons _ h2.g)).trans this
theorem acPut {AB : List (Nat × AccD)} {k ba : Nat} {a : AccD} (q : AccD) (hz : AB[k]? = some (ba, a)) [h1 : FindHP L (ac ba q) L1] [h2 : FindHP L1 (allH ((acHs AB).set k hole)) L2] : Gives L (allH (acHs (AB.set k (ba, q))) :: L2) := by
  have := allH_put (q := ac ba q) (L := L2) (List.getElem?_eq_some_iff.1 (acHs_at hz)).1
  rw [show (acHs AB).set k (ac ba q) = acHs (AB.set k (ba, q)) by unfold acHs; rw [List.map_set]] at this
  exact (h1.g.trans (Gives.cons _ h2.g)).trans this
theorem prSnoc (PB : List (Nat × PP)) (bp : Nat) (p : PP) [h1 : FindHP L (pr bp p) L1] [h2 : FindHP L1 (allH (prHs PB)) L2] : Gives L (allH (prHs (PB ++ [(bp, p)])) :: L2) := (h1.g.trans (Gives.cons _ h2.g)).trans (unS_snoc (f := fun z : Nat × PP => pr z.1 z.2) (bs := PB) (b := (bp, p)))
theorem acSnoc (AB : List (Nat × AccD)) (bp : Nat) (p : AccD) [h1 : FindHP L (ac bp p) L1] [h2 : FindHP L1 (allH (acHs AB)) L2] : Gives L (allH (acHs (AB ++ [(bp, p)])) :: L2) := (h1.g.trans (Gives.cons _ h2.g)).trans (unS_snoc (f := fun z : Nat × AccD => ac z.1 z.2) (bs := AB) (b := (bp, p)))
theorem bs1_set {α : Type} {l : List (Nat × α)} {k b : Nat} {x : α} (h : l[k]? = some (b, x)) (y : α) : bs1 (l.set k (b, y)) = bs1 l := by
  unfold bs1
  rw [List.map_set]
  exact set_self (by rw [List.getElem?_map, h]; rfl)
theorem snd_set {α : Type} {l : List (Nat × α)} {k b : Nat} (y : α) : (l.set k (b, y)).map Prod.snd = (l.map Prod.snd).set k y := by rw [List.map_set]
theorem pair_at {α : Type} {l : List (Nat × α)} {k : Nat} {x : α} (h : (l.map Prod.snd)[k]? = some x) : ∃ b, l[k]? = some (b, x) := by
  rw [List.getElem?_map] at h
  cases hl : l[k]? with
  | none => rw [hl] at h; cases h
  | some z => rw [hl] at h; cases h; exact ⟨z.1, rfl⟩
theorem fst_at {α : Type} {l : List (Nat × α)} {k b : Nat} {x : α} (h : l[k]? = some (b, x)) : (bs1 l)[k]? = some b := by
  unfold bs1; rw [List.getElem?_map, h]; rfl
end
structure StSt where
  i : Nat
  PB : List (Nat × PP)
  AB : List (Nat × AccD)
  pa : Option Addr
  pc : Nat
  aa : Option Addr
  ac : Nat
set_option maxHeartbeats 8000000 in
theorem start17_spec {L : List HP} (n : Nat) (hn : 1 ≤ n ∧ n ≤ 7) : Fn Try.prog 49 #[.int .i64 (n : Int)] L (fun v L' => ∃ b, v = .tuple #[.pointer (some ⟨b, 0, none⟩), .bool true] ∧ L' = gr b (GrNew n) :: L) := by
  refine Fn_enter Try.func49 rfl rfl rfl rfl ?_
  refine T_gives (slnil.lay (R := intR .i64) (A := none) (c := 0)) ?_
  refine T_region ?_
  refine TL_y rfl rfl (Y_assign rfl) ?_
  refine TL_y rfl rfl (Y_assign rfl) ?_
  refine TL_nil ?_
  refine T_region ?_
  refine TL_y rfl rfl (Y_move rfl) ?_
  refine TL_y rfl rfl (Y_build rfl rfl) ?_
  refine TL_box rfl rfl rfl ?_
  intro b12
  refine TL_y rfl rfl (Y_assign rfl) ?_
  refine TL_nil ?_
  refine T_seq ?_
  refine T_region ?_
  refine TL_y rfl rfl (Y_assign rfl) ?_
  refine TL_nil ?_
  refine T_block ?_
  refine T_loopK (σ := StSt) [0, 4] (fun g => g.i ≤ n ∧ g.PB.map Prod.snd = (List.range g.i).map (fun i : Nat => ppNew i n) ∧ g.AB.map Prod.snd = (List.range g.i).map (fun i : Nat => acNew i)) (fun g kv => (5, .int .i64 (g.i : Int)) :: kv) (fun g => cells b12 [.int .i64 (n : Int), .slice g.pa (bs1 g.PB).length g.pc, .slice g.aa (bs1 g.AB).length g.ac, .slice none 0 0, .slice none 0 0] 99 :: osl ptrR 70 g.pa g.pc (bs1 g.PB) :: osl ptrR 35 g.aa g.ac (bs1 g.AB) :: allH (prHs g.PB) :: allH (acHs g.AB) :: sl (intR .i64) none 0 [] :: L) (fun g => n - g.i) (⟨0, [], [], none, 0, none, 0⟩) rfl (⟨Nat.zero_le _, rfl, rfl⟩) ((Gives.cons _ (Gives.trans (Gives.trans (show Gives _ (allH (acHs []) :: _) from unS_close (L := ([] : List HP))) (Gives.trans (show Gives _ (allH (prHs []) :: _) from unS_close (L := ([] : List HP))) (Gives.trans (show Gives _ (osl ptrR 35 none 0 (bs1 ([] : List (Nat × AccD))) :: _) from osl_nil ptrR 35 none _) (show Gives _ (osl ptrR 70 none 0 (bs1 ([] : List (Nat × PP))) :: _) from osl_nil ptrR 70 none _)))) GivesTo.g))) (sub_cons rfl (sub_cons rfl (sub_cons rfl (sub_nil)))) ?_
  rintro ⟨i, PB, AB, pa, pc, aa, acc⟩ ⟨hin, hP, hA⟩
  dsimp only at hin hP hA ⊢
  have hPl : PB.length = i := (by have := congrArg List.length hP; simpa using this)
  have hAl : AB.length = i := (by have := congrArg List.length hA; simpa using this)
  refine T_seq ?_
  refine T_region ?_
  refine TL_y rfl rfl (Y_move rfl) ?_
  refine TL_y rfl rfl (Y_move rfl) ?_
  refine TL_y rfl rfl (Y_lt rfl rfl) ?_
  refine TL_nil ?_
  refine T_if rfl (fun h15 => ?_) (fun h15 => ?_)
  · refine T_skip ?_
    refine thenS_normal ?_
    refine T_seq ?_
    refine T_block ?_
    refine T_region ?_
    refine TL_y rfl rfl (Y_move rfl) ?_
    refine TL_y rfl rfl (Y_move rfl) ?_
    refine TL_call rfl rfl (prNew_ok (node := (i : Int)) (nodes := (n : Int)) (by omega) (by omega) _) ?_
    rintro _ _ ⟨bp, rfl, rfl⟩
    refine TL_y rfl rfl (Y_move rfl) ?_
    refine TL_y rfl rfl (Y_extract rfl rfl) ?_
    refine TL_y rfl rfl (Y_extract rfl rfl) ?_
    refine TL_y rfl rfl (Y_assign rfl) ?_
    refine TL_y rfl rfl (Y_assign rfl) ?_
    refine TL_nil ?_
    refine T_region ?_
    refine TL_y rfl rfl (Y_move rfl) ?_
    refine TL_call rfl rfl (acNew_ok (i : Int) (by omega) _) ?_
    rintro _ _ ⟨bq, rfl, rfl⟩
    refine TL_y rfl rfl (Y_move rfl) ?_
    refine TL_y rfl rfl (Y_extract rfl rfl) ?_
    refine TL_y rfl rfl (Y_extract rfl rfl) ?_
    refine TL_y rfl rfl (Y_assign rfl) ?_
    refine TL_y rfl rfl (Y_assign rfl) ?_
    refine TL_nil ?_
    refine T_seq ?_
    refine T_region ?_
    refine TL_y rfl rfl (Y_move rfl) ?_
    refine TL_y rfl rfl (Y_ne rfl rfl) ?_
    refine TL_name 30 (v' := .bool false) rfl (congrArg Value.bool (decide_eq_false (by decide))) ?_
    refine TL_y rfl rfl (Y_move rfl) ?_
    refine TL_grun rfl rfl ?_
    refine TL_y rfl rfl (Y_move rfl) ?_
    refine TL_grun rfl rfl ?_
    refine TL_y rfl rfl (Y_ne rfl rfl) ?_
    refine TL_name 33 (v' := .bool false) rfl (congrArg Value.bool (decide_eq_false (by decide))) ?_
    refine TL_y rfl rfl (Y_pick_f rfl rfl) ?_
    refine TL_y rfl rfl (Y_move rfl) ?_
    refine TL_grun rfl rfl ?_
    refine TL_y rfl rfl (Y_move rfl) ?_
    refine TL_grun rfl rfl ?_
    refine TL_y rfl rfl (Y_equal rfl rfl (EqIs.ptr_nil)) ?_
    refine TL_name 37 (v' := .bool false) rfl (by simp) ?_
    refine TL_y rfl rfl (Y_pick_f rfl rfl) ?_
    refine TL_y rfl rfl (Y_move rfl) ?_
    refine TL_grun rfl rfl ?_
    refine TL_y rfl rfl (Y_move rfl) ?_
    refine TL_grun rfl rfl ?_
    refine TL_y rfl rfl (Y_equal rfl rfl (EqIs.ptr_nil)) ?_
    refine TL_name 41 (v' := .bool false) rfl (by simp) ?_
    refine TL_y rfl rfl (Y_pick_f rfl rfl) ?_
    refine TL_nil ?_
    refine T_cond_false rfl ?_
    refine T_skip ?_
    refine thenS_normal ?_
    refine T_rd_last [0, 0, 0, 4, 12, 28, 0, 64, 252, 0, 512, 1536, 3584, 0, 8192, 32764, 65533, 131069, 262141, 524287, 1048575, 2097151] (by kernel_rfl) (by decide +kernel) ?_
    refine RD_pair 5 7 (by decide) ?_ ?_
    · refine RD_pair 5 12 (by decide) ?_ ?_
      · refine RD_pair 5 14 (by decide) ?_ ?_
        · refine RD_pair 7 12 (by decide) ?_ ?_
          · refine RD_pair 7 14 (by decide) ?_ ?_
            · refine RD_pair 8 12 (by decide) ?_ ?_
              · refine RD_pair 8 14 (by decide) ?_ ?_
                · refine RD_pair 12 14 (by decide) ?_ ?_
                  · refine RD_leaf (sl (intR .i64) none 0 [] :: []) [0, 0, 0, 4, 12, 28, 0, 124, 252, 0, 512, 1536, 4092, 0, 16380, 32764, 65533, 131069, 262141, 524287, 1048575, 2097151] [] [(0, true), (1, true), (2, true), (3, true), (4, true), (6, true), (9, true), (10, true), (11, true), (13, true), (5, false), (7, false), (8, false), (12, false), (14, false), (15, false), (16, true), (17, true), (18, false), (19, true), (20, true), (21, false)] (by decide +kernel) GivesTo.g ?_
                    refine TF_y rfl rfl (Y_move rfl) ?_
                    refine TF_y rfl rfl (Y_move rfl) ?_
                    refine TF_y rfl rfl (Y_move rfl) ?_
                    refine TF_y rfl rfl (Y_nil_check rfl) ?_
                    refine TF_y rfl rfl (Y_field_addr rfl) ?_
                    refine TF_y rfl rfl (Y_move rfl) ?_
                    refine TF_y rfl rfl (Y_move rfl) ?_
                    refine TF_y rfl rfl (Y_nil_check rfl) ?_
                    refine TF_y rfl rfl (Y_field_addr rfl) ?_
                    refine TF_y rfl rfl (Y_move rfl) ?_
                    refine TF_anchor rfl ?_
                    refine TL_y rfl rfl (Y_load rfl rfl) ?_
                    refine TF_end GivesTo.g ?_
                    refine TF_anchor rfl ?_
                    refine TL_build_slice rfl rfl rfl rfl rfl rfl ?_
                    intro b50
                    refine TL_osl (k := 1) ptrR [bp] (Knows.const fun M => ⟨[.pointer (some ⟨bp, 0, none⟩)], [], rfl, rfl, rfl⟩) rfl (by decide) ?_
                    refine TL_freeze_osl ?_
                    refine TL_name 50 (v' := .slice (some ⟨b50, 0, none⟩) [bp].length 1) rfl rfl ?_
                    refine TF_end GivesTo.g ?_
                    refine TF_anchor rfl ?_
                    refine TL_append rfl rfl rfl rfl rfl slk (by simp only [bs1, List.length_map, List.length_cons, List.length_nil]; omega) ?_
                    intro A51 c51
                    refine TF_end GivesTo.g ?_
                    refine TF_anchor rfl ?_
                    refine TL_y rfl rfl (Y_load rfl rfl) ?_
                    refine TF_end GivesTo.g ?_
                    refine TF_anchor rfl ?_
                    refine TL_build_slice rfl rfl rfl rfl rfl rfl ?_
                    intro b57
                    refine TL_osl (k := 1) ptrR [bq] (Knows.const fun M => ⟨[.pointer (some ⟨bq, 0, none⟩)], [], rfl, rfl, rfl⟩) rfl (by decide) ?_
                    refine TL_freeze_osl ?_
                    refine TL_name 57 (v' := .slice (some ⟨b57, 0, none⟩) [bq].length 1) rfl rfl ?_
                    refine TF_end GivesTo.g ?_
                    refine TF_anchor rfl ?_
                    refine TL_append rfl rfl rfl rfl rfl slk (by simp only [bs1, List.length_map, List.length_cons, List.length_nil]; omega) ?_
                    intro A58 c58
                    refine TF_end GivesTo.g ?_
                    refine TF_y rfl rfl (Y_nil_check rfl) ?_
                    refine TF_y rfl rfl (Y_field_addr rfl) ?_
                    refine TF_anchor rfl ?_
                    refine TL_store rfl rfl rfl rfl rfl rfl ?_
                    refine TF_end GivesTo.g ?_
                    refine TF_y rfl rfl (Y_nil_check rfl) ?_
                    refine TF_y rfl rfl (Y_field_addr rfl) ?_
                    refine TF_anchor rfl ?_
                    refine TL_store rfl rfl rfl rfl rfl rfl ?_
                    refine TF_end GivesTo.g ?_
                    refine TF_nil ?_
                    refine inB_normal ?_
                    refine thenS_normal ?_
                    refine T_region_last ?_
                    refine TL_y rfl rfl (Y_move rfl) ?_
                    refine TL_y rfl rfl (Y_add rfl rfl (by omega)) ?_
                    refine TL_name 17 (v' := .int .i64 ((i + 1 : Nat) : Int)) rfl (rfl) ?_
                    refine TL_y rfl rfl (Y_assign rfl) ?_
                    refine TL_nil ?_
                    refine thenS_normal ?_
                    rw [show bs1 PB ++ [bp] = bs1 (PB ++ [(bp, ppNew (i : Int) (n : Int))]) by simp [bs1], show bs1 AB ++ [bq] = bs1 (AB ++ [(bq, acNew (i : Int))]) by simp [bs1]]
                    exact ⟨⟨i + 1, PB ++ [(bp, ppNew (i : Int) (n : Int))], AB ++ [(bq, acNew (i : Int))], A51, c51, A58, c58⟩, ⟨by simp only; omega, by simp only [List.map_append, hP, List.range_succ, List.map_cons, List.map_nil], by simp only [List.map_append, hA, List.range_succ, List.map_cons, List.map_nil]⟩, (by simp only; omega), holds_to (sub_cons rfl (sub_cons rfl (sub_cons rfl (sub_nil)))) (Gives.trans (prSnoc PB bp (ppNew (i : Int) (n : Int))) (Gives.trans (acSnoc AB bq (acNew (i : Int))) GivesTo.g))⟩
                  · refine RD_leaf (sl (intR .i64) none 0 [] :: []) [0, 0, 0, 4, 12, 28, 0, 124, 252, 0, 512, 1536, 28668, 0, 8700, 32764, 65533, 131069, 262141, 524287, 1048575, 2097151] [] [(0, true), (1, true), (2, true), (3, true), (4, true), (6, true), (9, true), (10, true), (11, true), (13, true), (5, false), (7, false), (8, false), (14, false), (12, false), (15, false), (16, true), (17, true), (18, false), (19, true), (20, true), (21, false)] (by decide +kernel) GivesTo.g ?_
                    refine TF_y rfl rfl (Y_move rfl) ?_
                    refine TF_y rfl rfl (Y_move rfl) ?_
                    refine TF_y rfl rfl (Y_move rfl) ?_
                    refine TF_y rfl rfl (Y_nil_check rfl) ?_
                    refine TF_y rfl rfl (Y_field_addr rfl) ?_
                    refine TF_y rfl rfl (Y_move rfl) ?_
                    refine TF_y rfl rfl (Y_move rfl) ?_
                    refine TF_y rfl rfl (Y_nil_check rfl) ?_
                    refine TF_y rfl rfl (Y_field_addr rfl) ?_
                    refine TF_y rfl rfl (Y_move rfl) ?_
                    refine TF_anchor rfl ?_
                    refine TL_y rfl rfl (Y_load rfl rfl) ?_
                    refine TF_end GivesTo.g ?_
                    refine TF_anchor rfl ?_
                    refine TL_build_slice rfl rfl rfl rfl rfl rfl ?_
                    intro b50
                    refine TL_osl (k := 1) ptrR [bp] (Knows.const fun M => ⟨[.pointer (some ⟨bp, 0, none⟩)], [], rfl, rfl, rfl⟩) rfl (by decide) ?_
                    refine TL_freeze_osl ?_
                    refine TL_name 50 (v' := .slice (some ⟨b50, 0, none⟩) [bp].length 1) rfl rfl ?_
                    refine TF_end GivesTo.g ?_
                    refine TF_anchor rfl ?_
                    refine TL_append rfl rfl rfl rfl rfl slk (by simp only [bs1, List.length_map, List.length_cons, List.length_nil]; omega) ?_
                    intro A51 c51
                    refine TF_end GivesTo.g ?_
                    refine TF_anchor rfl ?_
                    refine TL_build_slice rfl rfl rfl rfl rfl rfl ?_
                    intro b57
                    refine TL_osl (k := 1) ptrR [bq] (Knows.const fun M => ⟨[.pointer (some ⟨bq, 0, none⟩)], [], rfl, rfl, rfl⟩) rfl (by decide) ?_
                    refine TL_freeze_osl ?_
                    refine TL_name 57 (v' := .slice (some ⟨b57, 0, none⟩) [bq].length 1) rfl rfl ?_
                    refine TF_end GivesTo.g ?_
                    refine TF_anchor rfl ?_
                    refine TL_y rfl rfl (Y_load rfl rfl) ?_
                    refine TF_end GivesTo.g ?_
                    refine TF_anchor rfl ?_
                    refine TL_append rfl rfl rfl rfl rfl slk (by simp only [bs1, List.length_map, List.length_cons, List.length_nil]; omega) ?_
                    intro A58 c58
                    refine TF_end GivesTo.g ?_
                    refine TF_y rfl rfl (Y_nil_check rfl) ?_
                    refine TF_y rfl rfl (Y_field_addr rfl) ?_
                    refine TF_anchor rfl ?_
                    refine TL_store rfl rfl rfl rfl rfl rfl ?_
                    refine TF_end GivesTo.g ?_
                    refine TF_y rfl rfl (Y_nil_check rfl) ?_
                    refine TF_y rfl rfl (Y_field_addr rfl) ?_
                    refine TF_anchor rfl ?_
                    refine TL_store rfl rfl rfl rfl rfl rfl ?_
                    refine TF_end GivesTo.g ?_
                    refine TF_nil ?_
                    refine inB_normal ?_
                    refine thenS_normal ?_
                    refine T_region_last ?_
                    refine TL_y rfl rfl (Y_move rfl) ?_
                    refine TL_y rfl rfl (Y_add rfl rfl (by omega)) ?_
                    refine TL_name 17 (v' := .int .i64 ((i + 1 : Nat) : Int)) rfl (rfl) ?_
                    refine TL_y rfl rfl (Y_assign rfl) ?_
                    refine TL_nil ?_
                    refine thenS_normal ?_
                    rw [show bs1 PB ++ [bp] = bs1 (PB ++ [(bp, ppNew (i : Int) (n : Int))]) by simp [bs1], show bs1 AB ++ [bq] = bs1 (AB ++ [(bq, acNew (i : Int))]) by simp [bs1]]
                    exact ⟨⟨i + 1, PB ++ [(bp, ppNew (i : Int) (n : Int))], AB ++ [(bq, acNew (i : Int))], A51, c51, A58, c58⟩, ⟨by simp only; omega, by simp only [List.map_append, hP, List.range_succ, List.map_cons, List.map_nil], by simp only [List.map_append, hA, List.range_succ, List.map_cons, List.map_nil]⟩, (by simp only; omega), holds_to (sub_cons rfl (sub_cons rfl (sub_cons rfl (sub_nil)))) (Gives.trans (prSnoc PB bp (ppNew (i : Int) (n : Int))) (Gives.trans (acSnoc AB bq (acNew (i : Int))) GivesTo.g))⟩
                · refine RD_leaf (sl (intR .i64) none 0 [] :: []) [0, 0, 0, 4, 12, 28, 0, 124, 24828, 0, 512, 1536, 28668, 0, 8444, 32764, 65533, 131069, 262141, 524287, 1048575, 2097151] [] [(0, true), (1, true), (2, true), (3, true), (4, true), (6, true), (9, true), (10, true), (11, true), (13, true), (5, false), (7, false), (14, false), (8, false), (12, false), (15, false), (16, true), (17, true), (18, false), (19, true), (20, true), (21, false)] (by decide +kernel) GivesTo.g ?_
                  refine TF_y rfl rfl (Y_move rfl) ?_
                  refine TF_y rfl rfl (Y_move rfl) ?_
                  refine TF_y rfl rfl (Y_move rfl) ?_
                  refine TF_y rfl rfl (Y_nil_check rfl) ?_
                  refine TF_y rfl rfl (Y_field_addr rfl) ?_
                  refine TF_y rfl rfl (Y_move rfl) ?_
                  refine TF_y rfl rfl (Y_move rfl) ?_
                  refine TF_y rfl rfl (Y_nil_check rfl) ?_
                  refine TF_y rfl rfl (Y_field_addr rfl) ?_
                  refine TF_y rfl rfl (Y_move rfl) ?_
                  refine TF_anchor rfl ?_
                  refine TL_y rfl rfl (Y_load rfl rfl) ?_
                  refine TF_end GivesTo.g ?_
                  refine TF_anchor rfl ?_
                  refine TL_build_slice rfl rfl rfl rfl rfl rfl ?_
                  intro b50
                  refine TL_osl (k := 1) ptrR [bp] (Knows.const fun M => ⟨[.pointer (some ⟨bp, 0, none⟩)], [], rfl, rfl, rfl⟩) rfl (by decide) ?_
                  refine TL_freeze_osl ?_
                  refine TL_name 50 (v' := .slice (some ⟨b50, 0, none⟩) [bp].length 1) rfl rfl ?_
                  refine TF_end GivesTo.g ?_
                  refine TF_anchor rfl ?_
                  refine TL_build_slice rfl rfl rfl rfl rfl rfl ?_
                  intro b57
                  refine TL_osl (k := 1) ptrR [bq] (Knows.const fun M => ⟨[.pointer (some ⟨bq, 0, none⟩)], [], rfl, rfl, rfl⟩) rfl (by decide) ?_
                  refine TL_freeze_osl ?_
                  refine TL_name 57 (v' := .slice (some ⟨b57, 0, none⟩) [bq].length 1) rfl rfl ?_
                  refine TF_end GivesTo.g ?_
                  refine TF_anchor rfl ?_
                  refine TL_append rfl rfl rfl rfl rfl slk (by simp only [bs1, List.length_map, List.length_cons, List.length_nil]; omega) ?_
                  intro A51 c51
                  refine TF_end GivesTo.g ?_
                  refine TF_anchor rfl ?_
                  refine TL_y rfl rfl (Y_load rfl rfl) ?_
                  refine TF_end GivesTo.g ?_
                  refine TF_anchor rfl ?_
                  refine TL_append rfl rfl rfl rfl rfl slk (by simp only [bs1, List.length_map, List.length_cons, List.length_nil]; omega) ?_
                  intro A58 c58
                  refine TF_end GivesTo.g ?_
                  refine TF_y rfl rfl (Y_nil_check rfl) ?_
                  refine TF_y rfl rfl (Y_field_addr rfl) ?_
                  refine TF_anchor rfl ?_
                  refine TL_store rfl rfl rfl rfl rfl rfl ?_
                  refine TF_end GivesTo.g ?_
                  refine TF_y rfl rfl (Y_nil_check rfl) ?_
                  refine TF_y rfl rfl (Y_field_addr rfl) ?_
                  refine TF_anchor rfl ?_
                  refine TL_store rfl rfl rfl rfl rfl rfl ?_
                  refine TF_end GivesTo.g ?_
                  refine TF_nil ?_
                  refine inB_normal ?_
                  refine thenS_normal ?_
                  refine T_region_last ?_
                  refine TL_y rfl rfl (Y_move rfl) ?_
                  refine TL_y rfl rfl (Y_add rfl rfl (by omega)) ?_
                  refine TL_name 17 (v' := .int .i64 ((i + 1 : Nat) : Int)) rfl (rfl) ?_
                  refine TL_y rfl rfl (Y_assign rfl) ?_
                  refine TL_nil ?_
                  refine thenS_normal ?_
                  rw [show bs1 PB ++ [bp] = bs1 (PB ++ [(bp, ppNew (i : Int) (n : Int))]) by simp [bs1], show bs1 AB ++ [bq] = bs1 (AB ++ [(bq, acNew (i : Int))]) by simp [bs1]]
                  exact ⟨⟨i + 1, PB ++ [(bp, ppNew (i : Int) (n : Int))], AB ++ [(bq, acNew (i : Int))], A51, c51, A58, c58⟩, ⟨by simp only; omega, by simp only [List.map_append, hP, List.range_succ, List.map_cons, List.map_nil], by simp only [List.map_append, hA, List.range_succ, List.map_cons, List.map_nil]⟩, (by simp only; omega), holds_to (sub_cons rfl (sub_cons rfl (sub_cons rfl (sub_nil)))) (Gives.trans (prSnoc PB bp (ppNew (i : Int) (n : Int))) (Gives.trans (acSnoc AB bq (acNew (i : Int))) GivesTo.g))⟩
              · refine RD_pair 8 14 (by decide) ?_ ?_
                · refine RD_leaf (sl (intR .i64) none 0 [] :: []) [0, 0, 0, 4, 12, 28, 0, 124, 7932, 0, 512, 1536, 3836, 0, 16380, 32764, 65533, 131069, 262141, 524287, 1048575, 2097151] [] [(0, true), (1, true), (2, true), (3, true), (4, true), (6, true), (9, true), (10, true), (11, true), (13, true), (5, false), (7, false), (12, false), (8, false), (14, false), (15, false), (16, true), (17, true), (18, false), (19, true), (20, true), (21, false)] (by decide +kernel) GivesTo.g ?_
                  refine TF_y rfl rfl (Y_move rfl) ?_
                  refine TF_y rfl rfl (Y_move rfl) ?_
                  refine TF_y rfl rfl (Y_move rfl) ?_
                  refine TF_y rfl rfl (Y_nil_check rfl) ?_
                  refine TF_y rfl rfl (Y_field_addr rfl) ?_
                  refine TF_y rfl rfl (Y_move rfl) ?_
                  refine TF_y rfl rfl (Y_move rfl) ?_
                  refine TF_y rfl rfl (Y_nil_check rfl) ?_
                  refine TF_y rfl rfl (Y_field_addr rfl) ?_
                  refine TF_y rfl rfl (Y_move rfl) ?_
                  refine TF_anchor rfl ?_
                  refine TL_y rfl rfl (Y_load rfl rfl) ?_
                  refine TF_end GivesTo.g ?_
                  refine TF_anchor rfl ?_
                  refine TL_build_slice rfl rfl rfl rfl rfl rfl ?_
                  intro b50
                  refine TL_osl (k := 1) ptrR [bp] (Knows.const fun M => ⟨[.pointer (some ⟨bp, 0, none⟩)], [], rfl, rfl, rfl⟩) rfl (by decide) ?_
                  refine TL_freeze_osl ?_
                  refine TL_name 50 (v' := .slice (some ⟨b50, 0, none⟩) [bp].length 1) rfl rfl ?_
                  refine TF_end GivesTo.g ?_
                  refine TF_anchor rfl ?_
                  refine TL_y rfl rfl (Y_load rfl rfl) ?_
                  refine TF_end GivesTo.g ?_
                  refine TF_anchor rfl ?_
                  refine TL_append rfl rfl rfl rfl rfl slk (by simp only [bs1, List.length_map, List.length_cons, List.length_nil]; omega) ?_
                  intro A51 c51
                  refine TF_end GivesTo.g ?_
                  refine TF_anchor rfl ?_
                  refine TL_build_slice rfl rfl rfl rfl rfl rfl ?_
                  intro b57
                  refine TL_osl (k := 1) ptrR [bq] (Knows.const fun M => ⟨[.pointer (some ⟨bq, 0, none⟩)], [], rfl, rfl, rfl⟩) rfl (by decide) ?_
                  refine TL_freeze_osl ?_
                  refine TL_name 57 (v' := .slice (some ⟨b57, 0, none⟩) [bq].length 1) rfl rfl ?_
                  refine TF_end GivesTo.g ?_
                  refine TF_anchor rfl ?_
                  refine TL_append rfl rfl rfl rfl rfl slk (by simp only [bs1, List.length_map, List.length_cons, List.length_nil]; omega) ?_
                  intro A58 c58
                  refine TF_end GivesTo.g ?_
                  refine TF_y rfl rfl (Y_nil_check rfl) ?_
                  refine TF_y rfl rfl (Y_field_addr rfl) ?_
                  refine TF_anchor rfl ?_
                  refine TL_store rfl rfl rfl rfl rfl rfl ?_
                  refine TF_end GivesTo.g ?_
                  refine TF_y rfl rfl (Y_nil_check rfl) ?_
                  refine TF_y rfl rfl (Y_field_addr rfl) ?_
                  refine TF_anchor rfl ?_
                  refine TL_store rfl rfl rfl rfl rfl rfl ?_
                  refine TF_end GivesTo.g ?_
                  refine TF_nil ?_
                  refine inB_normal ?_
                  refine thenS_normal ?_
                  refine T_region_last ?_
                  refine TL_y rfl rfl (Y_move rfl) ?_
                  refine TL_y rfl rfl (Y_add rfl rfl (by omega)) ?_
                  refine TL_name 17 (v' := .int .i64 ((i + 1 : Nat) : Int)) rfl (rfl) ?_
                  refine TL_y rfl rfl (Y_assign rfl) ?_
                  refine TL_nil ?_
                  refine thenS_normal ?_
                  rw [show bs1 PB ++ [bp] = bs1 (PB ++ [(bp, ppNew (i : Int) (n : Int))]) by simp [bs1], show bs1 AB ++ [bq] = bs1 (AB ++ [(bq, acNew (i : Int))]) by simp [bs1]]
                  exact ⟨⟨i + 1, PB ++ [(bp, ppNew (i : Int) (n : Int))], AB ++ [(bq, acNew (i : Int))], A51, c51, A58, c58⟩, ⟨by simp only; omega, by simp only [List.map_append, hP, List.range_succ, List.map_cons, List.map_nil], by simp only [List.map_append, hA, List.range_succ, List.map_cons, List.map_nil]⟩, (by simp only; omega), holds_to (sub_cons rfl (sub_cons rfl (sub_cons rfl (sub_nil)))) (Gives.trans (prSnoc PB bp (ppNew (i : Int) (n : Int))) (Gives.trans (acSnoc AB bq (acNew (i : Int))) GivesTo.g))⟩
                · refine RD_pair 12 14 (by decide) ?_ ?_
                  · refine RD_leaf (sl (intR .i64) none 0 [] :: []) [0, 0, 0, 4, 12, 28, 0, 124, 32508, 0, 512, 1536, 3836, 0, 16124, 32764, 65533, 131069, 262141, 524287, 1048575, 2097151] [] [(0, true), (1, true), (2, true), (3, true), (4, true), (6, true), (9, true), (10, true), (11, true), (13, true), (5, false), (7, false), (12, false), (14, false), (8, false), (15, false), (16, true), (17, true), (18, false), (19, true), (20, true), (21, false)] (by decide +kernel) GivesTo.g ?_
                    refine TF_y rfl rfl (Y_move rfl) ?_
                    refine TF_y rfl rfl (Y_move rfl) ?_
                    refine TF_y rfl rfl (Y_move rfl) ?_
                    refine TF_y rfl rfl (Y_nil_check rfl) ?_
                    refine TF_y rfl rfl (Y_field_addr rfl) ?_
                    refine TF_y rfl rfl (Y_move rfl) ?_
                    refine TF_y rfl rfl (Y_move rfl) ?_
                    refine TF_y rfl rfl (Y_nil_check rfl) ?_
                    refine TF_y rfl rfl (Y_field_addr rfl) ?_
                    refine TF_y rfl rfl (Y_move rfl) ?_
                    refine TF_anchor rfl ?_
                    refine TL_y rfl rfl (Y_load rfl rfl) ?_
                    refine TF_end GivesTo.g ?_
                    refine TF_anchor rfl ?_
                    refine TL_build_slice rfl rfl rfl rfl rfl rfl ?_
                    intro b50
                    refine TL_osl (k := 1) ptrR [bp] (Knows.const fun M => ⟨[.pointer (some ⟨bp, 0, none⟩)], [], rfl, rfl, rfl⟩) rfl (by decide) ?_
                    refine TL_freeze_osl ?_
                    refine TL_name 50 (v' := .slice (some ⟨b50, 0, none⟩) [bp].length 1) rfl rfl ?_
                    refine TF_end GivesTo.g ?_
                    refine TF_anchor rfl ?_
                    refine TL_y rfl rfl (Y_load rfl rfl) ?_
                    refine TF_end GivesTo.g ?_
                    refine TF_anchor rfl ?_
                    refine TL_build_slice rfl rfl rfl rfl rfl rfl ?_
                    intro b57
                    refine TL_osl (k := 1) ptrR [bq] (Knows.const fun M => ⟨[.pointer (some ⟨bq, 0, none⟩)], [], rfl, rfl, rfl⟩) rfl (by decide) ?_
                    refine TL_freeze_osl ?_
                    refine TL_name 57 (v' := .slice (some ⟨b57, 0, none⟩) [bq].length 1) rfl rfl ?_
                    refine TF_end GivesTo.g ?_
                    refine TF_anchor rfl ?_
                    refine TL_append rfl rfl rfl rfl rfl slk (by simp only [bs1, List.length_map, List.length_cons, List.length_nil]; omega) ?_
                    intro A51 c51
                    refine TF_end GivesTo.g ?_
                    refine TF_anchor rfl ?_
                    refine TL_append rfl rfl rfl rfl rfl slk (by simp only [bs1, List.length_map, List.length_cons, List.length_nil]; omega) ?_
                    intro A58 c58
                    refine TF_end GivesTo.g ?_
                    refine TF_y rfl rfl (Y_nil_check rfl) ?_
                    refine TF_y rfl rfl (Y_field_addr rfl) ?_
                    refine TF_anchor rfl ?_
                    refine TL_store rfl rfl rfl rfl rfl rfl ?_
                    refine TF_end GivesTo.g ?_
                    refine TF_y rfl rfl (Y_nil_check rfl) ?_
                    refine TF_y rfl rfl (Y_field_addr rfl) ?_
                    refine TF_anchor rfl ?_
                    refine TL_store rfl rfl rfl rfl rfl rfl ?_
                    refine TF_end GivesTo.g ?_
                    refine TF_nil ?_
                    refine inB_normal ?_
                    refine thenS_normal ?_
                    refine T_region_last ?_
                    refine TL_y rfl rfl (Y_move rfl) ?_
                    refine TL_y rfl rfl (Y_add rfl rfl (by omega)) ?_
                    refine TL_name 17 (v' := .int .i64 ((i + 1 : Nat) : Int)) rfl (rfl) ?_
                    refine TL_y rfl rfl (Y_assign rfl) ?_
                    refine TL_nil ?_
                    refine thenS_normal ?_
                    rw [show bs1 PB ++ [bp] = bs1 (PB ++ [(bp, ppNew (i : Int) (n : Int))]) by simp [bs1], show bs1 AB ++ [bq] = bs1 (AB ++ [(bq, acNew (i : Int))]) by simp [bs1]]
                    exact ⟨⟨i + 1, PB ++ [(bp, ppNew (i : Int) (n : Int))], AB ++ [(bq, acNew (i : Int))], A51, c51, A58, c58⟩, ⟨by simp only; omega, by simp only [List.map_append, hP, List.range_succ, List.map_cons, List.map_nil], by simp only [List.map_append, hA, List.range_succ, List.map_cons, List.map_nil]⟩, (by simp only; omega), holds_to (sub_cons rfl (sub_cons rfl (sub_cons rfl (sub_nil)))) (Gives.trans (prSnoc PB bp (ppNew (i : Int) (n : Int))) (Gives.trans (acSnoc AB bq (acNew (i : Int))) GivesTo.g))⟩
                  · refine RD_leaf (sl (intR .i64) none 0 [] :: []) [0, 0, 0, 4, 12, 28, 0, 124, 32508, 0, 512, 1536, 28412, 0, 8444, 32764, 65533, 131069, 262141, 524287, 1048575, 2097151] [] [(0, true), (1, true), (2, true), (3, true), (4, true), (6, true), (9, true), (10, true), (11, true), (13, true), (5, false), (7, false), (14, false), (12, false), (8, false), (15, false), (16, true), (17, true), (18, false), (19, true), (20, true), (21, false)] (by decide +kernel) GivesTo.g ?_
                    refine TF_y rfl rfl (Y_move rfl) ?_
                    refine TF_y rfl rfl (Y_move rfl) ?_
                    refine TF_y rfl rfl (Y_move rfl) ?_
                    refine TF_y rfl rfl (Y_nil_check rfl) ?_
                    refine TF_y rfl rfl (Y_field_addr rfl) ?_
                    refine TF_y rfl rfl (Y_move rfl) ?_
                    refine TF_y rfl rfl (Y_move rfl) ?_
                    refine TF_y rfl rfl (Y_nil_check rfl) ?_
                    refine TF_y rfl rfl (Y_field_addr rfl) ?_
                    refine TF_y rfl rfl (Y_move rfl) ?_
                    refine TF_anchor rfl ?_
                    refine TL_y rfl rfl (Y_load rfl rfl) ?_
                    refine TF_end GivesTo.g ?_
                    refine TF_anchor rfl ?_
                    refine TL_build_slice rfl rfl rfl rfl rfl rfl ?_
                    intro b50
                    refine TL_osl (k := 1) ptrR [bp] (Knows.const fun M => ⟨[.pointer (some ⟨bp, 0, none⟩)], [], rfl, rfl, rfl⟩) rfl (by decide) ?_
                    refine TL_freeze_osl ?_
                    refine TL_name 50 (v' := .slice (some ⟨b50, 0, none⟩) [bp].length 1) rfl rfl ?_
                    refine TF_end GivesTo.g ?_
                    refine TF_anchor rfl ?_
                    refine TL_build_slice rfl rfl rfl rfl rfl rfl ?_
                    intro b57
                    refine TL_osl (k := 1) ptrR [bq] (Knows.const fun M => ⟨[.pointer (some ⟨bq, 0, none⟩)], [], rfl, rfl, rfl⟩) rfl (by decide) ?_
                    refine TL_freeze_osl ?_
                    refine TL_name 57 (v' := .slice (some ⟨b57, 0, none⟩) [bq].length 1) rfl rfl ?_
                    refine TF_end GivesTo.g ?_
                    refine TF_anchor rfl ?_
                    refine TL_y rfl rfl (Y_load rfl rfl) ?_
                    refine TF_end GivesTo.g ?_
                    refine TF_anchor rfl ?_
                    refine TL_append rfl rfl rfl rfl rfl slk (by simp only [bs1, List.length_map, List.length_cons, List.length_nil]; omega) ?_
                    intro A51 c51
                    refine TF_end GivesTo.g ?_
                    refine TF_anchor rfl ?_
                    refine TL_append rfl rfl rfl rfl rfl slk (by simp only [bs1, List.length_map, List.length_cons, List.length_nil]; omega) ?_
                    intro A58 c58
                    refine TF_end GivesTo.g ?_
                    refine TF_y rfl rfl (Y_nil_check rfl) ?_
                    refine TF_y rfl rfl (Y_field_addr rfl) ?_
                    refine TF_anchor rfl ?_
                    refine TL_store rfl rfl rfl rfl rfl rfl ?_
                    refine TF_end GivesTo.g ?_
                    refine TF_y rfl rfl (Y_nil_check rfl) ?_
                    refine TF_y rfl rfl (Y_field_addr rfl) ?_
                    refine TF_anchor rfl ?_
                    refine TL_store rfl rfl rfl rfl rfl rfl ?_
                    refine TF_end GivesTo.g ?_
                    refine TF_nil ?_
                    refine inB_normal ?_
                    refine thenS_normal ?_
                    refine T_region_last ?_
                    refine TL_y rfl rfl (Y_move rfl) ?_
                    refine TL_y rfl rfl (Y_add rfl rfl (by omega)) ?_
                    refine TL_name 17 (v' := .int .i64 ((i + 1 : Nat) : Int)) rfl (rfl) ?_
                    refine TL_y rfl rfl (Y_assign rfl) ?_
                    refine TL_nil ?_
                    refine thenS_normal ?_
                    rw [show bs1 PB ++ [bp] = bs1 (PB ++ [(bp, ppNew (i : Int) (n : Int))]) by simp [bs1], show bs1 AB ++ [bq] = bs1 (AB ++ [(bq, acNew (i : Int))]) by simp [bs1]]
                    exact ⟨⟨i + 1, PB ++ [(bp, ppNew (i : Int) (n : Int))], AB ++ [(bq, acNew (i : Int))], A51, c51, A58, c58⟩, ⟨by simp only; omega, by simp only [List.map_append, hP, List.range_succ, List.map_cons, List.map_nil], by simp only [List.map_append, hA, List.range_succ, List.map_cons, List.map_nil]⟩, (by simp only; omega), holds_to (sub_cons rfl (sub_cons rfl (sub_cons rfl (sub_nil)))) (Gives.trans (prSnoc PB bp (ppNew (i : Int) (n : Int))) (Gives.trans (acSnoc AB bq (acNew (i : Int))) GivesTo.g))⟩
            · refine RD_pair 8 12 (by decide) ?_ ?_
              · refine RD_leaf (sl (intR .i64) none 0 [] :: []) [0, 0, 0, 4, 12, 28, 0, 24700, 24828, 0, 512, 1536, 28668, 0, 8252, 32764, 65533, 131069, 262141, 524287, 1048575, 2097151] [] [(0, true), (1, true), (2, true), (3, true), (4, true), (6, true), (9, true), (10, true), (11, true), (13, true), (5, false), (14, false), (7, false), (8, false), (12, false), (15, false), (16, true), (17, true), (18, false), (19, true), (20, true), (21, false)] (by decide +kernel) GivesTo.g ?_
                refine TF_y rfl rfl (Y_move rfl) ?_
                refine TF_y rfl rfl (Y_move rfl) ?_
                refine TF_y rfl rfl (Y_move rfl) ?_
                refine TF_y rfl rfl (Y_nil_check rfl) ?_
                refine TF_y rfl rfl (Y_field_addr rfl) ?_
                refine TF_y rfl rfl (Y_move rfl) ?_
                refine TF_y rfl rfl (Y_move rfl) ?_
                refine TF_y rfl rfl (Y_nil_check rfl) ?_
                refine TF_y rfl rfl (Y_field_addr rfl) ?_
                refine TF_y rfl rfl (Y_move rfl) ?_
                refine TF_anchor rfl ?_
                refine TL_y rfl rfl (Y_load rfl rfl) ?_
                refine TF_end GivesTo.g ?_
                refine TF_anchor rfl ?_
                refine TL_build_slice rfl rfl rfl rfl rfl rfl ?_
                intro b57
                refine TL_osl (k := 1) ptrR [bq] (Knows.const fun M => ⟨[.pointer (some ⟨bq, 0, none⟩)], [], rfl, rfl, rfl⟩) rfl (by decide) ?_
                refine TL_freeze_osl ?_
                refine TL_name 57 (v' := .slice (some ⟨b57, 0, none⟩) [bq].length 1) rfl rfl ?_
                refine TF_end GivesTo.g ?_
                refine TF_anchor rfl ?_
                refine TL_build_slice rfl rfl rfl rfl rfl rfl ?_
                intro b50
                refine TL_osl (k := 1) ptrR [bp] (Knows.const fun M => ⟨[.pointer (some ⟨bp, 0, none⟩)], [], rfl, rfl, rfl⟩) rfl (by decide) ?_
                refine TL_freeze_osl ?_
                refine TL_name 50 (v' := .slice (some ⟨b50, 0, none⟩) [bp].length 1) rfl rfl ?_
                refine TF_end GivesTo.g ?_
                refine TF_anchor rfl ?_
                refine TL_append rfl rfl rfl rfl rfl slk (by simp only [bs1, List.length_map, List.length_cons, List.length_nil]; omega) ?_
                intro A51 c51
                refine TF_end GivesTo.g ?_
                refine TF_anchor rfl ?_
                refine TL_y rfl rfl (Y_load rfl rfl) ?_
                refine TF_end GivesTo.g ?_
                refine TF_anchor rfl ?_
                refine TL_append rfl rfl rfl rfl rfl slk (by simp only [bs1, List.length_map, List.length_cons, List.length_nil]; omega) ?_
                intro A58 c58
                refine TF_end GivesTo.g ?_
                refine TF_y rfl rfl (Y_nil_check rfl) ?_
                refine TF_y rfl rfl (Y_field_addr rfl) ?_
                refine TF_anchor rfl ?_
                refine TL_store rfl rfl rfl rfl rfl rfl ?_
                refine TF_end GivesTo.g ?_
                refine TF_y rfl rfl (Y_nil_check rfl) ?_
                refine TF_y rfl rfl (Y_field_addr rfl) ?_
                refine TF_anchor rfl ?_
                refine TL_store rfl rfl rfl rfl rfl rfl ?_
                refine TF_end GivesTo.g ?_
                refine TF_nil ?_
                refine inB_normal ?_
                refine thenS_normal ?_
                refine T_region_last ?_
                refine TL_y rfl rfl (Y_move rfl) ?_
                refine TL_y rfl rfl (Y_add rfl rfl (by omega)) ?_
                refine TL_name 17 (v' := .int .i64 ((i + 1 : Nat) : Int)) rfl (rfl) ?_
                refine TL_y rfl rfl (Y_assign rfl) ?_
                refine TL_nil ?_
                refine thenS_normal ?_
                rw [show bs1 PB ++ [bp] = bs1 (PB ++ [(bp, ppNew (i : Int) (n : Int))]) by simp [bs1], show bs1 AB ++ [bq] = bs1 (AB ++ [(bq, acNew (i : Int))]) by simp [bs1]]
                exact ⟨⟨i + 1, PB ++ [(bp, ppNew (i : Int) (n : Int))], AB ++ [(bq, acNew (i : Int))], A51, c51, A58, c58⟩, ⟨by simp only; omega, by simp only [List.map_append, hP, List.range_succ, List.map_cons, List.map_nil], by simp only [List.map_append, hA, List.range_succ, List.map_cons, List.map_nil]⟩, (by simp only; omega), holds_to (sub_cons rfl (sub_cons rfl (sub_cons rfl (sub_nil)))) (Gives.trans (prSnoc PB bp (ppNew (i : Int) (n : Int))) (Gives.trans (acSnoc AB bq (acNew (i : Int))) GivesTo.g))⟩
              · refine RD_leaf (sl (intR .i64) none 0 [] :: []) [0, 0, 0, 4, 12, 28, 0, 24700, 32508, 0, 512, 1536, 28412, 0, 8252, 32764, 65533, 131069, 262141, 524287, 1048575, 2097151] [] [(0, true), (1, true), (2, true), (3, true), (4, true), (6, true), (9, true), (10, true), (11, true), (13, true), (5, false), (14, false), (7, false), (12, false), (8, false), (15, false), (16, true), (17, true), (18, false), (19, true), (20, true), (21, false)] (by decide +kernel) GivesTo.g ?_
                refine TF_y rfl rfl (Y_move rfl) ?_
                refine TF_y rfl rfl (Y_move rfl) ?_
                refine TF_y rfl rfl (Y_move rfl) ?_
                refine TF_y rfl rfl (Y_nil_check rfl) ?_
                refine TF_y rfl rfl (Y_field_addr rfl) ?_
                refine TF_y rfl rfl (Y_move rfl) ?_
                refine TF_y rfl rfl (Y_move rfl) ?_
                refine TF_y rfl rfl (Y_nil_check rfl) ?_
                refine TF_y rfl rfl (Y_field_addr rfl) ?_
                refine TF_y rfl rfl (Y_move rfl) ?_
                refine TF_anchor rfl ?_
                refine TL_y rfl rfl (Y_load rfl rfl) ?_
                refine TF_end GivesTo.g ?_
                refine TF_anchor rfl ?_
                refine TL_build_slice rfl rfl rfl rfl rfl rfl ?_
                intro b57
                refine TL_osl (k := 1) ptrR [bq] (Knows.const fun M => ⟨[.pointer (some ⟨bq, 0, none⟩)], [], rfl, rfl, rfl⟩) rfl (by decide) ?_
                refine TL_freeze_osl ?_
                refine TL_name 57 (v' := .slice (some ⟨b57, 0, none⟩) [bq].length 1) rfl rfl ?_
                refine TF_end GivesTo.g ?_
                refine TF_anchor rfl ?_
                refine TL_build_slice rfl rfl rfl rfl rfl rfl ?_
                intro b50
                refine TL_osl (k := 1) ptrR [bp] (Knows.const fun M => ⟨[.pointer (some ⟨bp, 0, none⟩)], [], rfl, rfl, rfl⟩) rfl (by decide) ?_
                refine TL_freeze_osl ?_
                refine TL_name 50 (v' := .slice (some ⟨b50, 0, none⟩) [bp].length 1) rfl rfl ?_
                refine TF_end GivesTo.g ?_
                refine TF_anchor rfl ?_
                refine TL_y rfl rfl (Y_load rfl rfl) ?_
                refine TF_end GivesTo.g ?_
                refine TF_anchor rfl ?_
                refine TL_append rfl rfl rfl rfl rfl slk (by simp only [bs1, List.length_map, List.length_cons, List.length_nil]; omega) ?_
                intro A51 c51
                refine TF_end GivesTo.g ?_
                refine TF_anchor rfl ?_
                refine TL_append rfl rfl rfl rfl rfl slk (by simp only [bs1, List.length_map, List.length_cons, List.length_nil]; omega) ?_
                intro A58 c58
                refine TF_end GivesTo.g ?_
                refine TF_y rfl rfl (Y_nil_check rfl) ?_
                refine TF_y rfl rfl (Y_field_addr rfl) ?_
                refine TF_anchor rfl ?_
                refine TL_store rfl rfl rfl rfl rfl rfl ?_
                refine TF_end GivesTo.g ?_
                refine TF_y rfl rfl (Y_nil_check rfl) ?_
                refine TF_y rfl rfl (Y_field_addr rfl) ?_
                refine TF_anchor rfl ?_
                refine TL_store rfl rfl rfl rfl rfl rfl ?_
                refine TF_end GivesTo.g ?_
                refine TF_nil ?_
                refine inB_normal ?_
                refine thenS_normal ?_
                refine T_region_last ?_
                refine TL_y rfl rfl (Y_move rfl) ?_
                refine TL_y rfl rfl (Y_add rfl rfl (by omega)) ?_
                refine TL_name 17 (v' := .int .i64 ((i + 1 : Nat) : Int)) rfl (rfl) ?_
                refine TL_y rfl rfl (Y_assign rfl) ?_
                refine TL_nil ?_
                refine thenS_normal ?_
                rw [show bs1 PB ++ [bp] = bs1 (PB ++ [(bp, ppNew (i : Int) (n : Int))]) by simp [bs1], show bs1 AB ++ [bq] = bs1 (AB ++ [(bq, acNew (i : Int))]) by simp [bs1]]
                exact ⟨⟨i + 1, PB ++ [(bp, ppNew (i : Int) (n : Int))], AB ++ [(bq, acNew (i : Int))], A51, c51, A58, c58⟩, ⟨by simp only; omega, by simp only [List.map_append, hP, List.range_succ, List.map_cons, List.map_nil], by simp only [List.map_append, hA, List.range_succ, List.map_cons, List.map_nil]⟩, (by simp only; omega), holds_to (sub_cons rfl (sub_cons rfl (sub_cons rfl (sub_nil)))) (Gives.trans (prSnoc PB bp (ppNew (i : Int) (n : Int))) (Gives.trans (acSnoc AB bq (acNew (i : Int))) GivesTo.g))⟩
          · refine RD_pair 7 14 (by decide) ?_ ?_
            · refine RD_pair 8 14 (by decide) ?_ ?_
              · refine RD_leaf (sl (intR .i64) none 0 [] :: []) [0, 0, 0, 4, 12, 28, 0, 7804, 7932, 0, 512, 1536, 3644, 0, 16380, 32764, 65533, 131069, 262141, 524287, 1048575, 2097151] [] [(0, true), (1, true), (2, true), (3, true), (4, true), (6, true), (9, true), (10, true), (11, true), (13, true), (5, false), (12, false), (7, false), (8, false), (14, false), (15, false), (16, true), (17, true), (18, false), (19, true), (20, true), (21, false)] (by decide +kernel) GivesTo.g ?_
                refine TF_y rfl rfl (Y_move rfl) ?_
                refine TF_y rfl rfl (Y_move rfl) ?_
                refine TF_y rfl rfl (Y_move rfl) ?_
                refine TF_y rfl rfl (Y_nil_check rfl) ?_
                refine TF_y rfl rfl (Y_field_addr rfl) ?_
                refine TF_y rfl rfl (Y_move rfl) ?_
                refine TF_y rfl rfl (Y_move rfl) ?_
                refine TF_y rfl rfl (Y_nil_check rfl) ?_
                refine TF_y rfl rfl (Y_field_addr rfl) ?_
                refine TF_y rfl rfl (Y_move rfl) ?_
                refine TF_anchor rfl ?_
                refine TL_y rfl rfl (Y_load rfl rfl) ?_
                refine TF_end GivesTo.g ?_
                refine TF_anchor rfl ?_
                refine TL_y rfl rfl (Y_load rfl rfl) ?_
                refine TF_end GivesTo.g ?_
                refine TF_anchor rfl ?_
                refine TL_build_slice rfl rfl rfl rfl rfl rfl ?_
                intro b50
                refine TL_osl (k := 1) ptrR [bp] (Knows.const fun M => ⟨[.pointer (some ⟨bp, 0, none⟩)], [], rfl, rfl, rfl⟩) rfl (by decide) ?_
                refine TL_freeze_osl ?_
                refine TL_name 50 (v' := .slice (some ⟨b50, 0, none⟩) [bp].length 1) rfl rfl ?_
                refine TF_end GivesTo.g ?_
                refine TF_anchor rfl ?_
                refine TL_append rfl rfl rfl rfl rfl slk (by simp only [bs1, List.length_map, List.length_cons, List.length_nil]; omega) ?_
                intro A51 c51
                refine TF_end GivesTo.g ?_
                refine TF_anchor rfl ?_
                refine TL_build_slice rfl rfl rfl rfl rfl rfl ?_
                intro b57
                refine TL_osl (k := 1) ptrR [bq] (Knows.const fun M => ⟨[.pointer (some ⟨bq, 0, none⟩)], [], rfl, rfl, rfl⟩) rfl (by decide) ?_
                refine TL_freeze_osl ?_
                refine TL_name 57 (v' := .slice (some ⟨b57, 0, none⟩) [bq].length 1) rfl rfl ?_
                refine TF_end GivesTo.g ?_
                refine TF_anchor rfl ?_
                refine TL_append rfl rfl rfl rfl rfl slk (by simp only [bs1, List.length_map, List.length_cons, List.length_nil]; omega) ?_
                intro A58 c58
                refine TF_end GivesTo.g ?_
                refine TF_y rfl rfl (Y_nil_check rfl) ?_
                refine TF_y rfl rfl (Y_field_addr rfl) ?_
                refine TF_anchor rfl ?_
                refine TL_store rfl rfl rfl rfl rfl rfl ?_
                refine TF_end GivesTo.g ?_
                refine TF_y rfl rfl (Y_nil_check rfl) ?_
                refine TF_y rfl rfl (Y_field_addr rfl) ?_
                refine TF_anchor rfl ?_
                refine TL_store rfl rfl rfl rfl rfl rfl ?_
                refine TF_end GivesTo.g ?_
                refine TF_nil ?_
                refine inB_normal ?_
                refine thenS_normal ?_
                refine T_region_last ?_
                refine TL_y rfl rfl (Y_move rfl) ?_
                refine TL_y rfl rfl (Y_add rfl rfl (by omega)) ?_
                refine TL_name 17 (v' := .int .i64 ((i + 1 : Nat) : Int)) rfl (rfl) ?_
                refine TL_y rfl rfl (Y_assign rfl) ?_
                refine TL_nil ?_
                refine thenS_normal ?_
                rw [show bs1 PB ++ [bp] = bs1 (PB ++ [(bp, ppNew (i : Int) (n : Int))]) by simp [bs1], show bs1 AB ++ [bq] = bs1 (AB ++ [(bq, acNew (i : Int))]) by simp [bs1]]
                exact ⟨⟨i + 1, PB ++ [(bp, ppNew (i : Int) (n : Int))], AB ++ [(bq, acNew (i : Int))], A51, c51, A58, c58⟩, ⟨by simp only; omega, by simp only [List.map_append, hP, List.range_succ, List.map_cons, List.map_nil], by simp only [List.map_append, hA, List.range_succ, List.map_cons, List.map_nil]⟩, (by simp only; omega), holds_to (sub_cons rfl (sub_cons rfl (sub_cons rfl (sub_nil)))) (Gives.trans (prSnoc PB bp (ppNew (i : Int) (n : Int))) (Gives.trans (acSnoc AB bq (acNew (i : Int))) GivesTo.g))⟩
              · refine RD_leaf (sl (intR .i64) none 0 [] :: []) [0, 0, 0, 4, 12, 28, 0, 7804, 32508, 0, 512, 1536, 3644, 0, 16124, 32764, 65533, 131069, 262141, 524287, 1048575, 2097151] [] [(0, true), (1, true), (2, true), (3, true), (4, true), (6, true), (9, true), (10, true), (11, true), (13, true), (5, false), (12, false), (7, false), (14, false), (8, false), (15, false), (16, true), (17, true), (18, false), (19, true), (20, true), (21, false)] (by decide +kernel) GivesTo.g ?_
                refine TF_y rfl rfl (Y_move rfl) ?_
                refine TF_y rfl rfl (Y_move rfl) ?_
                refine TF_y rfl rfl (Y_move rfl) ?_
                refine TF_y rfl rfl (Y_nil_check rfl) ?_
                refine TF_y rfl rfl (Y_field_addr rfl) ?_
                refine TF_y rfl rfl (Y_move rfl) ?_
                refine TF_y rfl rfl (Y_move rfl) ?_
                refine TF_y rfl rfl (Y_nil_check rfl) ?_
                refine TF_y rfl rfl (Y_field_addr rfl) ?_
                refine TF_y rfl rfl (Y_move rfl) ?_
                refine TF_anchor rfl ?_
                refine TL_y rfl rfl (Y_load rfl rfl) ?_
                refine TF_end GivesTo.g ?_
                refine TF_anchor rfl ?_
                refine TL_y rfl rfl (Y_load rfl rfl) ?_
                refine TF_end GivesTo.g ?_
                refine TF_anchor rfl ?_
                refine TL_build_slice rfl rfl rfl rfl rfl rfl ?_
                intro b50
                refine TL_osl (k := 1) ptrR [bp] (Knows.const fun M => ⟨[.pointer (some ⟨bp, 0, none⟩)], [], rfl, rfl, rfl⟩) rfl (by decide) ?_
                refine TL_freeze_osl ?_
                refine TL_name 50 (v' := .slice (some ⟨b50, 0, none⟩) [bp].length 1) rfl rfl ?_
                refine TF_end GivesTo.g ?_
                refine TF_anchor rfl ?_
                refine TL_build_slice rfl rfl rfl rfl rfl rfl ?_
                intro b57
                refine TL_osl (k := 1) ptrR [bq] (Knows.const fun M => ⟨[.pointer (some ⟨bq, 0, none⟩)], [], rfl, rfl, rfl⟩) rfl (by decide) ?_
                refine TL_freeze_osl ?_
                refine TL_name 57 (v' := .slice (some ⟨b57, 0, none⟩) [bq].length 1) rfl rfl ?_
                refine TF_end GivesTo.g ?_
                refine TF_anchor rfl ?_
                refine TL_append rfl rfl rfl rfl rfl slk (by simp only [bs1, List.length_map, List.length_cons, List.length_nil]; omega) ?_
                intro A51 c51
                refine TF_end GivesTo.g ?_
                refine TF_anchor rfl ?_
                refine TL_append rfl rfl rfl rfl rfl slk (by simp only [bs1, List.length_map, List.length_cons, List.length_nil]; omega) ?_
                intro A58 c58
                refine TF_end GivesTo.g ?_
                refine TF_y rfl rfl (Y_nil_check rfl) ?_
                refine TF_y rfl rfl (Y_field_addr rfl) ?_
                refine TF_anchor rfl ?_
                refine TL_store rfl rfl rfl rfl rfl rfl ?_
                refine TF_end GivesTo.g ?_
                refine TF_y rfl rfl (Y_nil_check rfl) ?_
                refine TF_y rfl rfl (Y_field_addr rfl) ?_
                refine TF_anchor rfl ?_
                refine TL_store rfl rfl rfl rfl rfl rfl ?_
                refine TF_end GivesTo.g ?_
                refine TF_nil ?_
                refine inB_normal ?_
                refine thenS_normal ?_
                refine T_region_last ?_
                refine TL_y rfl rfl (Y_move rfl) ?_
                refine TL_y rfl rfl (Y_add rfl rfl (by omega)) ?_
                refine TL_name 17 (v' := .int .i64 ((i + 1 : Nat) : Int)) rfl (rfl) ?_
                refine TL_y rfl rfl (Y_assign rfl) ?_
                refine TL_nil ?_
                refine thenS_normal ?_
                rw [show bs1 PB ++ [bp] = bs1 (PB ++ [(bp, ppNew (i : Int) (n : Int))]) by simp [bs1], show bs1 AB ++ [bq] = bs1 (AB ++ [(bq, acNew (i : Int))]) by simp [bs1]]
                exact ⟨⟨i + 1, PB ++ [(bp, ppNew (i : Int) (n : Int))], AB ++ [(bq, acNew (i : Int))], A51, c51, A58, c58⟩, ⟨by simp only; omega, by simp only [List.map_append, hP, List.range_succ, List.map_cons, List.map_nil], by simp only [List.map_append, hA, List.range_succ, List.map_cons, List.map_nil]⟩, (by simp only; omega), holds_to (sub_cons rfl (sub_cons rfl (sub_cons rfl (sub_nil)))) (Gives.trans (prSnoc PB bp (ppNew (i : Int) (n : Int))) (Gives.trans (acSnoc AB bq (acNew (i : Int))) GivesTo.g))⟩
            · refine RD_pair 12 14 (by decide) ?_ ?_
              · refine RD_leaf (sl (intR .i64) none 0 [] :: []) [0, 0, 0, 4, 12, 28, 0, 32380, 32508, 0, 512, 1536, 3644, 0, 15932, 32764, 65533, 131069, 262141, 524287, 1048575, 2097151] [] [(0, true), (1, true), (2, true), (3, true), (4, true), (6, true), (9, true), (10, true), (11, true), (13, true), (5, false), (12, false), (14, false), (7, false), (8, false), (15, false), (16, true), (17, true), (18, false), (19, true), (20, true), (21, false)] (by decide +kernel) GivesTo.g ?_
                refine TF_y rfl rfl (Y_move rfl) ?_
                refine TF_y rfl rfl (Y_move rfl) ?_
                refine TF_y rfl rfl (Y_move rfl) ?_
                refine TF_y rfl rfl (Y_nil_check rfl) ?_
                refine TF_y rfl rfl (Y_field_addr rfl) ?_
                refine TF_y rfl rfl (Y_move rfl) ?_
                refine TF_y rfl rfl (Y_move rfl) ?_
                refine TF_y rfl rfl (Y_nil_check rfl) ?_
                refine TF_y rfl rfl (Y_field_addr rfl) ?_
                refine TF_y rfl rfl (Y_move rfl) ?_
                refine TF_anchor rfl ?_
                refine TL_y rfl rfl (Y_load rfl rfl) ?_
                refine TF_end GivesTo.g ?_
                refine TF_anchor rfl ?_
                refine TL_y rfl rfl (Y_load rfl rfl) ?_
                refine TF_end GivesTo.g ?_
                refine TF_anchor rfl ?_
                refine TL_build_slice rfl rfl rfl rfl rfl rfl ?_
                intro b57
                refine TL_osl (k := 1) ptrR [bq] (Knows.const fun M => ⟨[.pointer (some ⟨bq, 0, none⟩)], [], rfl, rfl, rfl⟩) rfl (by decide) ?_
                refine TL_freeze_osl ?_
                refine TL_name 57 (v' := .slice (some ⟨b57, 0, none⟩) [bq].length 1) rfl rfl ?_
                refine TF_end GivesTo.g ?_
                refine TF_anchor rfl ?_
                refine TL_build_slice rfl rfl rfl rfl rfl rfl ?_
                intro b50
                refine TL_osl (k := 1) ptrR [bp] (Knows.const fun M => ⟨[.pointer (some ⟨bp, 0, none⟩)], [], rfl, rfl, rfl⟩) rfl (by decide) ?_
                refine TL_freeze_osl ?_
                refine TL_name 50 (v' := .slice (some ⟨b50, 0, none⟩) [bp].length 1) rfl rfl ?_
                refine TF_end GivesTo.g ?_
                refine TF_anchor rfl ?_
                refine TL_append rfl rfl rfl rfl rfl slk (by simp only [bs1, List.length_map, List.length_cons, List.length_nil]; omega) ?_
                intro A51 c51
                refine TF_end GivesTo.g ?_
                refine TF_anchor rfl ?_
                refine TL_append rfl rfl rfl rfl rfl slk (by simp only [bs1, List.length_map, List.length_cons, List.length_nil]; omega) ?_
                intro A58 c58
                refine TF_end GivesTo.g ?_
                refine TF_y rfl rfl (Y_nil_check rfl) ?_
                refine TF_y rfl rfl (Y_field_addr rfl) ?_
                refine TF_anchor rfl ?_
                refine TL_store rfl rfl rfl rfl rfl rfl ?_
                refine TF_end GivesTo.g ?_
                refine TF_y rfl rfl (Y_nil_check rfl) ?_
                refine TF_y rfl rfl (Y_field_addr rfl) ?_
                refine TF_anchor rfl ?_
                refine TL_store rfl rfl rfl rfl rfl rfl ?_
                refine TF_end GivesTo.g ?_
                refine TF_nil ?_
                refine inB_normal ?_
                refine thenS_normal ?_
                refine T_region_last ?_
                refine TL_y rfl rfl (Y_move rfl) ?_
                refine TL_y rfl rfl (Y_add rfl rfl (by omega)) ?_
                refine TL_name 17 (v' := .int .i64 ((i + 1 : Nat) : Int)) rfl (rfl) ?_
                refine TL_y rfl rfl (Y_assign rfl) ?_
                refine TL_nil ?_
                refine thenS_normal ?_
                rw [show bs1 PB ++ [bp] = bs1 (PB ++ [(bp, ppNew (i : Int) (n : Int))]) by simp [bs1], show bs1 AB ++ [bq] = bs1 (AB ++ [(bq, acNew (i : Int))]) by simp [bs1]]
                exact ⟨⟨i + 1, PB ++ [(bp, ppNew (i : Int) (n : Int))], AB ++ [(bq, acNew (i : Int))], A51, c51, A58, c58⟩, ⟨by simp only; omega, by simp only [List.map_append, hP, List.range_succ, List.map_cons, List.map_nil], by simp only [List.map_append, hA, List.range_succ, List.map_cons, List.map_nil]⟩, (by simp only; omega), holds_to (sub_cons rfl (sub_cons rfl (sub_cons rfl (sub_nil)))) (Gives.trans (prSnoc PB bp (ppNew (i : Int) (n : Int))) (Gives.trans (acSnoc AB bq (acNew (i : Int))) GivesTo.g))⟩
              · refine RD_leaf (sl (intR .i64) none 0 [] :: []) [0, 0, 0, 4, 12, 28, 0, 32380, 32508, 0, 512, 1536, 28220, 0, 8252, 32764, 65533, 131069, 262141, 524287, 1048575, 2097151] [] [(0, true), (1, true), (2, true), (3, true), (4, true), (6, true), (9, true), (10, true), (11, true), (13, true), (5, false), (14, false), (12, false), (7, false), (8, false), (15, false), (16, true), (17, true), (18, false), (19, true), (20, true), (21, false)] (by decide +kernel) GivesTo.g ?_
                refine TF_y rfl rfl (Y_move rfl) ?_
                refine TF_y rfl rfl (Y_move rfl) ?_
                refine TF_y rfl rfl (Y_move rfl) ?_
                refine TF_y rfl rfl (Y_nil_check rfl) ?_
                refine TF_y rfl rfl (Y_field_addr rfl) ?_
                refine TF_y rfl rfl (Y_move rfl) ?_
                refine TF_y rfl rfl (Y_move rfl) ?_
                refine TF_y rfl rfl (Y_nil_check rfl) ?_
                refine TF_y rfl rfl (Y_field_addr rfl) ?_
                refine TF_y rfl rfl (Y_move rfl) ?_
                refine TF_anchor rfl ?_
                refine TL_y rfl rfl (Y_load rfl rfl) ?_
                refine TF_end GivesTo.g ?_
                refine TF_anchor rfl ?_
                refine TL_build_slice rfl rfl rfl rfl rfl rfl ?_
                intro b57
                refine TL_osl (k := 1) ptrR [bq] (Knows.const fun M => ⟨[.pointer (some ⟨bq, 0, none⟩)], [], rfl, rfl, rfl⟩) rfl (by decide) ?_
                refine TL_freeze_osl ?_
                refine TL_name 57 (v' := .slice (some ⟨b57, 0, none⟩) [bq].length 1) rfl rfl ?_
                refine TF_end GivesTo.g ?_
                refine TF_anchor rfl ?_
                refine TL_y rfl rfl (Y_load rfl rfl) ?_
                refine TF_end GivesTo.g ?_
                refine TF_anchor rfl ?_
                refine TL_build_slice rfl rfl rfl rfl rfl rfl ?_
                intro b50
                refine TL_osl (k := 1) ptrR [bp] (Knows.const fun M => ⟨[.pointer (some ⟨bp, 0, none⟩)], [], rfl, rfl, rfl⟩) rfl (by decide) ?_
                refine TL_freeze_osl ?_
                refine TL_name 50 (v' := .slice (some ⟨b50, 0, none⟩) [bp].length 1) rfl rfl ?_
                refine TF_end GivesTo.g ?_
                refine TF_anchor rfl ?_
                refine TL_append rfl rfl rfl rfl rfl slk (by simp only [bs1, List.length_map, List.length_cons, List.length_nil]; omega) ?_
                intro A51 c51
                refine TF_end GivesTo.g ?_
                refine TF_anchor rfl ?_
                refine TL_append rfl rfl rfl rfl rfl slk (by simp only [bs1, List.length_map, List.length_cons, List.length_nil]; omega) ?_
                intro A58 c58
                refine TF_end GivesTo.g ?_
                refine TF_y rfl rfl (Y_nil_check rfl) ?_
                refine TF_y rfl rfl (Y_field_addr rfl) ?_
                refine TF_anchor rfl ?_
                refine TL_store rfl rfl rfl rfl rfl rfl ?_
                refine TF_end GivesTo.g ?_
                refine TF_y rfl rfl (Y_nil_check rfl) ?_
                refine TF_y rfl rfl (Y_field_addr rfl) ?_
                refine TF_anchor rfl ?_
                refine TL_store rfl rfl rfl rfl rfl rfl ?_
                refine TF_end GivesTo.g ?_
                refine TF_nil ?_
                refine inB_normal ?_
                refine thenS_normal ?_
                refine T_region_last ?_
                refine TL_y rfl rfl (Y_move rfl) ?_
                refine TL_y rfl rfl (Y_add rfl rfl (by omega)) ?_
                refine TL_name 17 (v' := .int .i64 ((i + 1 : Nat) : Int)) rfl (rfl) ?_
                refine TL_y rfl rfl (Y_assign rfl) ?_
                refine TL_nil ?_
                refine thenS_normal ?_
                rw [show bs1 PB ++ [bp] = bs1 (PB ++ [(bp, ppNew (i : Int) (n : Int))]) by simp [bs1], show bs1 AB ++ [bq] = bs1 (AB ++ [(bq, acNew (i : Int))]) by simp [bs1]]
                exact ⟨⟨i + 1, PB ++ [(bp, ppNew (i : Int) (n : Int))], AB ++ [(bq, acNew (i : Int))], A51, c51, A58, c58⟩, ⟨by simp only; omega, by simp only [List.map_append, hP, List.range_succ, List.map_cons, List.map_nil], by simp only [List.map_append, hA, List.range_succ, List.map_cons, List.map_nil]⟩, (by simp only; omega), holds_to (sub_cons rfl (sub_cons rfl (sub_cons rfl (sub_nil)))) (Gives.trans (prSnoc PB bp (ppNew (i : Int) (n : Int))) (Gives.trans (acSnoc AB bq (acNew (i : Int))) GivesTo.g))⟩
        · refine RD_pair 7 12 (by decide) ?_ ?_
          · refine RD_pair 8 12 (by decide) ?_ ?_
            · refine RD_leaf (sl (intR .i64) none 0 [] :: []) [0, 0, 0, 4, 12, 24604, 0, 24700, 24828, 0, 512, 1536, 28668, 0, 8192, 32764, 65533, 131069, 262141, 524287, 1048575, 2097151] [] [(0, true), (1, true), (2, true), (3, true), (4, true), (6, true), (9, true), (10, true), (11, true), (13, true), (14, false), (5, false), (7, false), (8, false), (12, false), (15, false), (16, true), (17, true), (18, false), (19, true), (20, true), (21, false)] (by decide +kernel) GivesTo.g ?_
              refine TF_y rfl rfl (Y_move rfl) ?_
              refine TF_y rfl rfl (Y_move rfl) ?_
              refine TF_y rfl rfl (Y_move rfl) ?_
              refine TF_y rfl rfl (Y_nil_check rfl) ?_
              refine TF_y rfl rfl (Y_field_addr rfl) ?_
              refine TF_y rfl rfl (Y_move rfl) ?_
              refine TF_y rfl rfl (Y_move rfl) ?_
              refine TF_y rfl rfl (Y_nil_check rfl) ?_
              refine TF_y rfl rfl (Y_field_addr rfl) ?_
              refine TF_y rfl rfl (Y_move rfl) ?_
              refine TF_anchor rfl ?_
              refine TL_build_slice rfl rfl rfl rfl rfl rfl ?_
              intro b57
              refine TL_osl (k := 1) ptrR [bq] (Knows.const fun M => ⟨[.pointer (some ⟨bq, 0, none⟩)], [], rfl, rfl, rfl⟩) rfl (by decide) ?_
              refine TL_freeze_osl ?_
              refine TL_name 57 (v' := .slice (some ⟨b57, 0, none⟩) [bq].length 1) rfl rfl ?_
              refine TF_end GivesTo.g ?_
              refine TF_anchor rfl ?_
              refine TL_y rfl rfl (Y_load rfl rfl) ?_
              refine TF_end GivesTo.g ?_
              refine TF_anchor rfl ?_
              refine TL_build_slice rfl rfl rfl rfl rfl rfl ?_
              intro b50
              refine TL_osl (k := 1) ptrR [bp] (Knows.const fun M => ⟨[.pointer (some ⟨bp, 0, none⟩)], [], rfl, rfl, rfl⟩) rfl (by decide) ?_
              refine TL_freeze_osl ?_
              refine TL_name 50 (v' := .slice (some ⟨b50, 0, none⟩) [bp].length 1) rfl rfl ?_
              refine TF_end GivesTo.g ?_
              refine TF_anchor rfl ?_
              refine TL_append rfl rfl rfl rfl rfl slk (by simp only [bs1, List.length_map, List.length_cons, List.length_nil]; omega) ?_
              intro A51 c51
              refine TF_end GivesTo.g ?_
              refine TF_anchor rfl ?_
              refine TL_y rfl rfl (Y_load rfl rfl) ?_
              refine TF_end GivesTo.g ?_
              refine TF_anchor rfl ?_
              refine TL_append rfl rfl rfl rfl rfl slk (by simp only [bs1, List.length_map, List.length_cons, List.length_nil]; omega) ?_
              intro A58 c58
              refine TF_end GivesTo.g ?_
              refine TF_y rfl rfl (Y_nil_check rfl) ?_
              refine TF_y rfl rfl (Y_field_addr rfl) ?_
              refine TF_anchor rfl ?_
              refine TL_store rfl rfl rfl rfl rfl rfl ?_
              refine TF_end GivesTo.g ?_
              refine TF_y rfl rfl (Y_nil_check rfl) ?_
              refine TF_y rfl rfl (Y_field_addr rfl) ?_
              refine TF_anchor rfl ?_
              refine TL_store rfl rfl rfl rfl rfl rfl ?_
              refine TF_end GivesTo.g ?_
              refine TF_nil ?_
              refine inB_normal ?_
              refine thenS_normal ?_
              refine T_region_last ?_
              refine TL_y rfl rfl (Y_move rfl) ?_
              refine TL_y rfl rfl (Y_add rfl rfl (by omega)) ?_
              refine TL_name 17 (v' := .int .i64 ((i + 1 : Nat) : Int)) rfl (rfl) ?_
              refine TL_y rfl rfl (Y_assign rfl) ?_
              refine TL_nil ?_
              refine thenS_normal ?_
              rw [show bs1 PB ++ [bp] = bs1 (PB ++ [(bp, ppNew (i : Int) (n : Int))]) by simp [bs1], show bs1 AB ++ [bq] = bs1 (AB ++ [(bq, acNew (i : Int))]) by simp [bs1]]
              exact ⟨⟨i + 1, PB ++ [(bp, ppNew (i : Int) (n : Int))], AB ++ [(bq, acNew (i : Int))], A51, c51, A58, c58⟩, ⟨by simp only; omega, by simp only [List.map_append, hP, List.range_succ, List.map_cons, List.map_nil], by simp only [List.map_append, hA, List.range_succ, List.map_cons, List.map_nil]⟩, (by simp only; omega), holds_to (sub_cons rfl (sub_cons rfl (sub_cons rfl (sub_nil)))) (Gives.trans (prSnoc PB bp (ppNew (i : Int) (n : Int))) (Gives.trans (acSnoc AB bq (acNew (i : Int))) GivesTo.g))⟩
            · refine RD_leaf (sl (intR .i64) none 0 [] :: []) [0, 0, 0, 4, 12, 24604, 0, 24700, 32508, 0, 512, 1536, 28412, 0, 8192, 32764, 65533, 131069, 262141, 524287, 1048575, 2097151] [] [(0, true), (1, true), (2, true), (3, true), (4, true), (6, true), (9, true), (10, true), (11, true), (13, true), (14, false), (5, false), (7, false), (12, false), (8, false), (15, false), (16, true), (17, true), (18, false), (19, true), (20, true), (21, false)] (by decide +kernel) GivesTo.g ?_
              refine TF_y rfl rfl (Y_move rfl) ?_
              refine TF_y rfl rfl (Y_move rfl) ?_
              refine TF_y rfl rfl (Y_move rfl) ?_
              refine TF_y rfl rfl (Y_nil_check rfl) ?_
              refine TF_y rfl rfl (Y_field_addr rfl) ?_
              refine TF_y rfl rfl (Y_move rfl) ?_
              refine TF_y rfl rfl (Y_move rfl) ?_
              refine TF_y rfl rfl (Y_nil_check rfl) ?_
              refine TF_y rfl rfl (Y_field_addr rfl) ?_
              refine TF_y rfl rfl (Y_move rfl) ?_
              refine TF_anchor rfl ?_
              refine TL_build_slice rfl rfl rfl rfl rfl rfl ?_
              intro b57
              refine TL_osl (k := 1) ptrR [bq] (Knows.const fun M => ⟨[.pointer (some ⟨bq, 0, none⟩)], [], rfl, rfl, rfl⟩) rfl (by decide) ?_
              refine TL_freeze_osl ?_
              refine TL_name 57 (v' := .slice (some ⟨b57, 0, none⟩) [bq].length 1) rfl rfl ?_
              refine TF_end GivesTo.g ?_
              refine TF_anchor rfl ?_
              refine TL_y rfl rfl (Y_load rfl rfl) ?_
              refine TF_end GivesTo.g ?_
              refine TF_anchor rfl ?_
              refine TL_build_slice rfl rfl rfl rfl rfl rfl ?_
              intro b50
              refine TL_osl (k := 1) ptrR [bp] (Knows.const fun M => ⟨[.pointer (some ⟨bp, 0, none⟩)], [], rfl, rfl, rfl⟩) rfl (by decide) ?_
              refine TL_freeze_osl ?_
              refine TL_name 50 (v' := .slice (some ⟨b50, 0, none⟩) [bp].length 1) rfl rfl ?_
              refine TF_end GivesTo.g ?_
              refine TF_anchor rfl ?_
              refine TL_y rfl rfl (Y_load rfl rfl) ?_
              refine TF_end GivesTo.g ?_
              refine TF_anchor rfl ?_
              refine TL_append rfl rfl rfl rfl rfl slk (by simp only [bs1, List.length_map, List.length_cons, List.length_nil]; omega) ?_
              intro A51 c51
              refine TF_end GivesTo.g ?_
              refine TF_anchor rfl ?_
              refine TL_append rfl rfl rfl rfl rfl slk (by simp only [bs1, List.length_map, List.length_cons, List.length_nil]; omega) ?_
              intro A58 c58
              refine TF_end GivesTo.g ?_
              refine TF_y rfl rfl (Y_nil_check rfl) ?_
              refine TF_y rfl rfl (Y_field_addr rfl) ?_
              refine TF_anchor rfl ?_
              refine TL_store rfl rfl rfl rfl rfl rfl ?_
              refine TF_end GivesTo.g ?_
              refine TF_y rfl rfl (Y_nil_check rfl) ?_
              refine TF_y rfl rfl (Y_field_addr rfl) ?_
              refine TF_anchor rfl ?_
              refine TL_store rfl rfl rfl rfl rfl rfl ?_
              refine TF_end GivesTo.g ?_
              refine TF_nil ?_
              refine inB_normal ?_
              refine thenS_normal ?_
              refine T_region_last ?_
              refine TL_y rfl rfl (Y_move rfl) ?_
              refine TL_y rfl rfl (Y_add rfl rfl (by omega)) ?_
              refine TL_name 17 (v' := .int .i64 ((i + 1 : Nat) : Int)) rfl (rfl) ?_
              refine TL_y rfl rfl (Y_assign rfl) ?_
              refine TL_nil ?_
              refine thenS_normal ?_
              rw [show bs1 PB ++ [bp] = bs1 (PB ++ [(bp, ppNew (i : Int) (n : Int))]) by simp [bs1], show bs1 AB ++ [bq] = bs1 (AB ++ [(bq, acNew (i : Int))]) by simp [bs1]]
              exact ⟨⟨i + 1, PB ++ [(bp, ppNew (i : Int) (n : Int))], AB ++ [(bq, acNew (i : Int))], A51, c51, A58, c58⟩, ⟨by simp only; omega, by simp only [List.map_append, hP, List.range_succ, List.map_cons, List.map_nil], by simp only [List.map_append, hA, List.range_succ, List.map_cons, List.map_nil]⟩, (by simp only; omega), holds_to (sub_cons rfl (sub_cons rfl (sub_cons rfl (sub_nil)))) (Gives.trans (prSnoc PB bp (ppNew (i : Int) (n : Int))) (Gives.trans (acSnoc AB bq (acNew (i : Int))) GivesTo.g))⟩
          · refine RD_leaf (sl (intR .i64) none 0 [] :: []) [0, 0, 0, 4, 12, 24604, 0, 32380, 32508, 0, 512, 1536, 28220, 0, 8192, 32764, 65533, 131069, 262141, 524287, 1048575, 2097151] [] [(0, true), (1, true), (2, true), (3, true), (4, true), (6, true), (9, true), (10, true), (11, true), (13, true), (14, false), (5, false), (12, false), (7, false), (8, false), (15, false), (16, true), (17, true), (18, false), (19, true), (20, true), (21, false)] (by decide +kernel) GivesTo.g ?_
            refine TF_y rfl rfl (Y_move rfl) ?_
            refine TF_y rfl rfl (Y_move rfl) ?_
            refine TF_y rfl rfl (Y_move rfl) ?_
            refine TF_y rfl rfl (Y_nil_check rfl) ?_
            refine TF_y rfl rfl (Y_field_addr rfl) ?_
            refine TF_y rfl rfl (Y_move rfl) ?_
            refine TF_y rfl rfl (Y_move rfl) ?_
            refine TF_y rfl rfl (Y_nil_check rfl) ?_
            refine TF_y rfl rfl (Y_field_addr rfl) ?_
            refine TF_y rfl rfl (Y_move rfl) ?_
            refine TF_anchor rfl ?_
            refine TL_build_slice rfl rfl rfl rfl rfl rfl ?_
            intro b57
            refine TL_osl (k := 1) ptrR [bq] (Knows.const fun M => ⟨[.pointer (some ⟨bq, 0, none⟩)], [], rfl, rfl, rfl⟩) rfl (by decide) ?_
            refine TL_freeze_osl ?_
            refine TL_name 57 (v' := .slice (some ⟨b57, 0, none⟩) [bq].length 1) rfl rfl ?_
            refine TF_end GivesTo.g ?_
            refine TF_anchor rfl ?_
            refine TL_y rfl rfl (Y_load rfl rfl) ?_
            refine TF_end GivesTo.g ?_
            refine TF_anchor rfl ?_
            refine TL_y rfl rfl (Y_load rfl rfl) ?_
            refine TF_end GivesTo.g ?_
            refine TF_anchor rfl ?_
            refine TL_build_slice rfl rfl rfl rfl rfl rfl ?_
            intro b50
            refine TL_osl (k := 1) ptrR [bp] (Knows.const fun M => ⟨[.pointer (some ⟨bp, 0, none⟩)], [], rfl, rfl, rfl⟩) rfl (by decide) ?_
            refine TL_freeze_osl ?_
            refine TL_name 50 (v' := .slice (some ⟨b50, 0, none⟩) [bp].length 1) rfl rfl ?_
            refine TF_end GivesTo.g ?_
            refine TF_anchor rfl ?_
            refine TL_append rfl rfl rfl rfl rfl slk (by simp only [bs1, List.length_map, List.length_cons, List.length_nil]; omega) ?_
            intro A51 c51
            refine TF_end GivesTo.g ?_
            refine TF_anchor rfl ?_
            refine TL_append rfl rfl rfl rfl rfl slk (by simp only [bs1, List.length_map, List.length_cons, List.length_nil]; omega) ?_
            intro A58 c58
            refine TF_end GivesTo.g ?_
            refine TF_y rfl rfl (Y_nil_check rfl) ?_
            refine TF_y rfl rfl (Y_field_addr rfl) ?_
            refine TF_anchor rfl ?_
            refine TL_store rfl rfl rfl rfl rfl rfl ?_
            refine TF_end GivesTo.g ?_
            refine TF_y rfl rfl (Y_nil_check rfl) ?_
            refine TF_y rfl rfl (Y_field_addr rfl) ?_
            refine TF_anchor rfl ?_
            refine TL_store rfl rfl rfl rfl rfl rfl ?_
            refine TF_end GivesTo.g ?_
            refine TF_nil ?_
            refine inB_normal ?_
            refine thenS_normal ?_
            refine T_region_last ?_
            refine TL_y rfl rfl (Y_move rfl) ?_
            refine TL_y rfl rfl (Y_add rfl rfl (by omega)) ?_
            refine TL_name 17 (v' := .int .i64 ((i + 1 : Nat) : Int)) rfl (rfl) ?_
            refine TL_y rfl rfl (Y_assign rfl) ?_
            refine TL_nil ?_
            refine thenS_normal ?_
            rw [show bs1 PB ++ [bp] = bs1 (PB ++ [(bp, ppNew (i : Int) (n : Int))]) by simp [bs1], show bs1 AB ++ [bq] = bs1 (AB ++ [(bq, acNew (i : Int))]) by simp [bs1]]
            exact ⟨⟨i + 1, PB ++ [(bp, ppNew (i : Int) (n : Int))], AB ++ [(bq, acNew (i : Int))], A51, c51, A58, c58⟩, ⟨by simp only; omega, by simp only [List.map_append, hP, List.range_succ, List.map_cons, List.map_nil], by simp only [List.map_append, hA, List.range_succ, List.map_cons, List.map_nil]⟩, (by simp only; omega), holds_to (sub_cons rfl (sub_cons rfl (sub_cons rfl (sub_nil)))) (Gives.trans (prSnoc PB bp (ppNew (i : Int) (n : Int))) (Gives.trans (acSnoc AB bq (acNew (i : Int))) GivesTo.g))⟩
      · refine RD_pair 5 14 (by decide) ?_ ?_
        · refine RD_pair 7 14 (by decide) ?_ ?_
          · refine RD_pair 8 14 (by decide) ?_ ?_
            · refine RD_leaf (sl (intR .i64) none 0 [] :: []) [0, 0, 0, 4, 12, 7708, 0, 7804, 7932, 0, 512, 1536, 3584, 0, 16380, 32764, 65533, 131069, 262141, 524287, 1048575, 2097151] [] [(0, true), (1, true), (2, true), (3, true), (4, true), (6, true), (9, true), (10, true), (11, true), (13, true), (12, false), (5, false), (7, false), (8, false), (14, false), (15, false), (16, true), (17, true), (18, false), (19, true), (20, true), (21, false)] (by decide +kernel) GivesTo.g ?_
              refine TF_y rfl rfl (Y_move rfl) ?_
              refine TF_y rfl rfl (Y_move rfl) ?_
              refine TF_y rfl rfl (Y_move rfl) ?_
              refine TF_y rfl rfl (Y_nil_check rfl) ?_
              refine TF_y rfl rfl (Y_field_addr rfl) ?_
              refine TF_y rfl rfl (Y_move rfl) ?_
              refine TF_y rfl rfl (Y_move rfl) ?_
              refine TF_y rfl rfl (Y_nil_check rfl) ?_
              refine TF_y rfl rfl (Y_field_addr rfl) ?_
              refine TF_y rfl rfl (Y_move rfl) ?_
              refine TF_anchor rfl ?_
              refine TL_y rfl rfl (Y_load rfl rfl) ?_
              refine TF_end GivesTo.g ?_
              refine TF_anchor rfl ?_
              refine TL_y rfl rfl (Y_load rfl rfl) ?_
              refine TF_end GivesTo.g ?_
              refine TF_anchor rfl ?_
              refine TL_build_slice rfl rfl rfl rfl rfl rfl ?_
              intro b50
              refine TL_osl (k := 1) ptrR [bp] (Knows.const fun M => ⟨[.pointer (some ⟨bp, 0, none⟩)], [], rfl, rfl, rfl⟩) rfl (by decide) ?_
              refine TL_freeze_osl ?_
              refine TL_name 50 (v' := .slice (some ⟨b50, 0, none⟩) [bp].length 1) rfl rfl ?_
              refine TF_end GivesTo.g ?_
              refine TF_anchor rfl ?_
              refine TL_append rfl rfl rfl rfl rfl slk (by simp only [bs1, List.length_map, List.length_cons, List.length_nil]; omega) ?_
              intro A51 c51
              refine TF_end GivesTo.g ?_
              refine TF_anchor rfl ?_
              refine TL_build_slice rfl rfl rfl rfl rfl rfl ?_
              intro b57
              refine TL_osl (k := 1) ptrR [bq] (Knows.const fun M => ⟨[.pointer (some ⟨bq, 0, none⟩)], [], rfl, rfl, rfl⟩) rfl (by decide) ?_
              refine TL_freeze_osl ?_
              refine TL_name 57 (v' := .slice (some ⟨b57, 0, none⟩) [bq].length 1) rfl rfl ?_
              refine TF_end GivesTo.g ?_
              refine TF_anchor rfl ?_
              refine TL_append rfl rfl rfl rfl rfl slk (by simp only [bs1, List.length_map, List.length_cons, List.length_nil]; omega) ?_
              intro A58 c58
              refine TF_end GivesTo.g ?_
              refine TF_y rfl rfl (Y_nil_check rfl) ?_
              refine TF_y rfl rfl (Y_field_addr rfl) ?_
              refine TF_anchor rfl ?_
              refine TL_store rfl rfl rfl rfl rfl rfl ?_
              refine TF_end GivesTo.g ?_
              refine TF_y rfl rfl (Y_nil_check rfl) ?_
              refine TF_y rfl rfl (Y_field_addr rfl) ?_
              refine TF_anchor rfl ?_
              refine TL_store rfl rfl rfl rfl rfl rfl ?_
              refine TF_end GivesTo.g ?_
              refine TF_nil ?_
              refine inB_normal ?_
              refine thenS_normal ?_
              refine T_region_last ?_
              refine TL_y rfl rfl (Y_move rfl) ?_
              refine TL_y rfl rfl (Y_add rfl rfl (by omega)) ?_
              refine TL_name 17 (v' := .int .i64 ((i + 1 : Nat) : Int)) rfl (rfl) ?_
              refine TL_y rfl rfl (Y_assign rfl) ?_
              refine TL_nil ?_
              refine thenS_normal ?_
              rw [show bs1 PB ++ [bp] = bs1 (PB ++ [(bp, ppNew (i : Int) (n : Int))]) by simp [bs1], show bs1 AB ++ [bq] = bs1 (AB ++ [(bq, acNew (i : Int))]) by simp [bs1]]
              exact ⟨⟨i + 1, PB ++ [(bp, ppNew (i : Int) (n : Int))], AB ++ [(bq, acNew (i : Int))], A51, c51, A58, c58⟩, ⟨by simp only; omega, by simp only [List.map_append, hP, List.range_succ, List.map_cons, List.map_nil], by simp only [List.map_append, hA, List.range_succ, List.map_cons, List.map_nil]⟩, (by simp only; omega), holds_to (sub_cons rfl (sub_cons rfl (sub_cons rfl (sub_nil)))) (Gives.trans (prSnoc PB bp (ppNew (i : Int) (n : Int))) (Gives.trans (acSnoc AB bq (acNew (i : Int))) GivesTo.g))⟩
            · refine RD_leaf (sl (intR .i64) none 0 [] :: []) [0, 0, 0, 4, 12, 7708, 0, 7804, 32508, 0, 512, 1536, 3584, 0, 16124, 32764, 65533, 131069, 262141, 524287, 1048575, 2097151] [] [(0, true), (1, true), (2, true), (3, true), (4, true), (6, true), (9, true), (10, true), (11, true), (13, true), (12, false), (5, false), (7, false), (14, false), (8, false), (15, false), (16, true), (17, true), (18, false), (19, true), (20, true), (21, false)] (by decide +kernel) GivesTo.g ?_
              refine TF_y rfl rfl (Y_move rfl) ?_
              refine TF_y rfl rfl (Y_move rfl) ?_
              refine TF_y rfl rfl (Y_move rfl) ?_
              refine TF_y rfl rfl (Y_nil_check rfl) ?_
              refine TF_y rfl rfl (Y_field_addr rfl) ?_
              refine TF_y rfl rfl (Y_move rfl) ?_
              refine TF_y rfl rfl (Y_move rfl) ?_
              refine TF_y rfl rfl (Y_nil_check rfl) ?_
              refine TF_y rfl rfl (Y_field_addr rfl) ?_
              refine TF_y rfl rfl (Y_move rfl) ?_
              refine TF_anchor rfl ?_
              refine TL_y rfl rfl (Y_load rfl rfl) ?_
              refine TF_end GivesTo.g ?_
              refine TF_anchor rfl ?_
              refine TL_y rfl rfl (Y_load rfl rfl) ?_
              refine TF_end GivesTo.g ?_
              refine TF_anchor rfl ?_
              refine TL_build_slice rfl rfl rfl rfl rfl rfl ?_
              intro b50
              refine TL_osl (k := 1) ptrR [bp] (Knows.const fun M => ⟨[.pointer (some ⟨bp, 0, none⟩)], [], rfl, rfl, rfl⟩) rfl (by decide) ?_
              refine TL_freeze_osl ?_
              refine TL_name 50 (v' := .slice (some ⟨b50, 0, none⟩) [bp].length 1) rfl rfl ?_
              refine TF_end GivesTo.g ?_
              refine TF_anchor rfl ?_
              refine TL_build_slice rfl rfl rfl rfl rfl rfl ?_
              intro b57
              refine TL_osl (k := 1) ptrR [bq] (Knows.const fun M => ⟨[.pointer (some ⟨bq, 0, none⟩)], [], rfl, rfl, rfl⟩) rfl (by decide) ?_
              refine TL_freeze_osl ?_
              refine TL_name 57 (v' := .slice (some ⟨b57, 0, none⟩) [bq].length 1) rfl rfl ?_
              refine TF_end GivesTo.g ?_
              refine TF_anchor rfl ?_
              refine TL_append rfl rfl rfl rfl rfl slk (by simp only [bs1, List.length_map, List.length_cons, List.length_nil]; omega) ?_
              intro A51 c51
              refine TF_end GivesTo.g ?_
              refine TF_anchor rfl ?_
              refine TL_append rfl rfl rfl rfl rfl slk (by simp only [bs1, List.length_map, List.length_cons, List.length_nil]; omega) ?_
              intro A58 c58
              refine TF_end GivesTo.g ?_
              refine TF_y rfl rfl (Y_nil_check rfl) ?_
              refine TF_y rfl rfl (Y_field_addr rfl) ?_
              refine TF_anchor rfl ?_
              refine TL_store rfl rfl rfl rfl rfl rfl ?_
              refine TF_end GivesTo.g ?_
              refine TF_y rfl rfl (Y_nil_check rfl) ?_
              refine TF_y rfl rfl (Y_field_addr rfl) ?_
              refine TF_anchor rfl ?_
              refine TL_store rfl rfl rfl rfl rfl rfl ?_
              refine TF_end GivesTo.g ?_
              refine TF_nil ?_
              refine inB_normal ?_
              refine thenS_normal ?_
              refine T_region_last ?_
              refine TL_y rfl rfl (Y_move rfl) ?_
              refine TL_y rfl rfl (Y_add rfl rfl (by omega)) ?_
              refine TL_name 17 (v' := .int .i64 ((i + 1 : Nat) : Int)) rfl (rfl) ?_
              refine TL_y rfl rfl (Y_assign rfl) ?_
              refine TL_nil ?_
              refine thenS_normal ?_
              rw [show bs1 PB ++ [bp] = bs1 (PB ++ [(bp, ppNew (i : Int) (n : Int))]) by simp [bs1], show bs1 AB ++ [bq] = bs1 (AB ++ [(bq, acNew (i : Int))]) by simp [bs1]]
              exact ⟨⟨i + 1, PB ++ [(bp, ppNew (i : Int) (n : Int))], AB ++ [(bq, acNew (i : Int))], A51, c51, A58, c58⟩, ⟨by simp only; omega, by simp only [List.map_append, hP, List.range_succ, List.map_cons, List.map_nil], by simp only [List.map_append, hA, List.range_succ, List.map_cons, List.map_nil]⟩, (by simp only; omega), holds_to (sub_cons rfl (sub_cons rfl (sub_cons rfl (sub_nil)))) (Gives.trans (prSnoc PB bp (ppNew (i : Int) (n : Int))) (Gives.trans (acSnoc AB bq (acNew (i : Int))) GivesTo.g))⟩
          · refine RD_leaf (sl (intR .i64) none 0 [] :: []) [0, 0, 0, 4, 12, 7708, 0, 32380, 32508, 0, 512, 1536, 3584, 0, 15932, 32764, 65533, 131069, 262141, 524287, 1048575, 2097151] [] [(0, true), (1, true), (2, true), (3, true), (4, true), (6, true), (9, true), (10, true), (11, true), (13, true), (12, false), (5, false), (14, false), (7, false), (8, false), (15, false), (16, true), (17, true), (18, false), (19, true), (20, true), (21, false)] (by decide +kernel) GivesTo.g ?_
            refine TF_y rfl rfl (Y_move rfl) ?_
            refine TF_y rfl rfl (Y_move rfl) ?_
            refine TF_y rfl rfl (Y_move rfl) ?_
            refine TF_y rfl rfl (Y_nil_check rfl) ?_
            refine TF_y rfl rfl (Y_field_addr rfl) ?_
            refine TF_y rfl rfl (Y_move rfl) ?_
            refine TF_y rfl rfl (Y_move rfl) ?_
            refine TF_y rfl rfl (Y_nil_check rfl) ?_
            refine TF_y rfl rfl (Y_field_addr rfl) ?_
            refine TF_y rfl rfl (Y_move rfl) ?_
            refine TF_anchor rfl ?_
            refine TL_y rfl rfl (Y_load rfl rfl) ?_
            refine TF_end GivesTo.g ?_
            refine TF_anchor rfl ?_
            refine TL_y rfl rfl (Y_load rfl rfl) ?_
            refine TF_end GivesTo.g ?_
            refine TF_anchor rfl ?_
            refine TL_build_slice rfl rfl rfl rfl rfl rfl ?_
            intro b57
            refine TL_osl (k := 1) ptrR [bq] (Knows.const fun M => ⟨[.pointer (some ⟨bq, 0, none⟩)], [], rfl, rfl, rfl⟩) rfl (by decide) ?_
            refine TL_freeze_osl ?_
            refine TL_name 57 (v' := .slice (some ⟨b57, 0, none⟩) [bq].length 1) rfl rfl ?_
            refine TF_end GivesTo.g ?_
            refine TF_anchor rfl ?_
            refine TL_build_slice rfl rfl rfl rfl rfl rfl ?_
            intro b50
            refine TL_osl (k := 1) ptrR [bp] (Knows.const fun M => ⟨[.pointer (some ⟨bp, 0, none⟩)], [], rfl, rfl, rfl⟩) rfl (by decide) ?_
            refine TL_freeze_osl ?_
            refine TL_name 50 (v' := .slice (some ⟨b50, 0, none⟩) [bp].length 1) rfl rfl ?_
            refine TF_end GivesTo.g ?_
            refine TF_anchor rfl ?_
            refine TL_append rfl rfl rfl rfl rfl slk (by simp only [bs1, List.length_map, List.length_cons, List.length_nil]; omega) ?_
            intro A51 c51
            refine TF_end GivesTo.g ?_
            refine TF_anchor rfl ?_
            refine TL_append rfl rfl rfl rfl rfl slk (by simp only [bs1, List.length_map, List.length_cons, List.length_nil]; omega) ?_
            intro A58 c58
            refine TF_end GivesTo.g ?_
            refine TF_y rfl rfl (Y_nil_check rfl) ?_
            refine TF_y rfl rfl (Y_field_addr rfl) ?_
            refine TF_anchor rfl ?_
            refine TL_store rfl rfl rfl rfl rfl rfl ?_
            refine TF_end GivesTo.g ?_
            refine TF_y rfl rfl (Y_nil_check rfl) ?_
            refine TF_y rfl rfl (Y_field_addr rfl) ?_
            refine TF_anchor rfl ?_
            refine TL_store rfl rfl rfl rfl rfl rfl ?_
            refine TF_end GivesTo.g ?_
            refine TF_nil ?_
            refine inB_normal ?_
            refine thenS_normal ?_
            refine T_region_last ?_
            refine TL_y rfl rfl (Y_move rfl) ?_
            refine TL_y rfl rfl (Y_add rfl rfl (by omega)) ?_
            refine TL_name 17 (v' := .int .i64 ((i + 1 : Nat) : Int)) rfl (rfl) ?_
            refine TL_y rfl rfl (Y_assign rfl) ?_
            refine TL_nil ?_
            refine thenS_normal ?_
            rw [show bs1 PB ++ [bp] = bs1 (PB ++ [(bp, ppNew (i : Int) (n : Int))]) by simp [bs1], show bs1 AB ++ [bq] = bs1 (AB ++ [(bq, acNew (i : Int))]) by simp [bs1]]
            exact ⟨⟨i + 1, PB ++ [(bp, ppNew (i : Int) (n : Int))], AB ++ [(bq, acNew (i : Int))], A51, c51, A58, c58⟩, ⟨by simp only; omega, by simp only [List.map_append, hP, List.range_succ, List.map_cons, List.map_nil], by simp only [List.map_append, hA, List.range_succ, List.map_cons, List.map_nil]⟩, (by simp only; omega), holds_to (sub_cons rfl (sub_cons rfl (sub_cons rfl (sub_nil)))) (Gives.trans (prSnoc PB bp (ppNew (i : Int) (n : Int))) (Gives.trans (acSnoc AB bq (acNew (i : Int))) GivesTo.g))⟩
        · refine RD_pair 12 14 (by decide) ?_ ?_
          · refine RD_leaf (sl (intR .i64) none 0 [] :: []) [0, 0, 0, 4, 12, 32284, 0, 32380, 32508, 0, 512, 1536, 3584, 0, 15872, 32764, 65533, 131069, 262141, 524287, 1048575, 2097151] [] [(0, true), (1, true), (2, true), (3, true), (4, true), (6, true), (9, true), (10, true), (11, true), (13, true), (12, false), (14, false), (5, false), (7, false), (8, false), (15, false), (16, true), (17, true), (18, false), (19, true), (20, true), (21, false)] (by decide +kernel) GivesTo.g ?_
            refine TF_y rfl rfl (Y_move rfl) ?_
            refine TF_y rfl rfl (Y_move rfl) ?_
            refine TF_y rfl rfl (Y_move rfl) ?_
            refine TF_y rfl rfl (Y_nil_check rfl) ?_
            refine TF_y rfl rfl (Y_field_addr rfl) ?_
            refine TF_y rfl rfl (Y_move rfl) ?_
            refine TF_y rfl rfl (Y_move rfl) ?_
            refine TF_y rfl rfl (Y_nil_check rfl) ?_
            refine TF_y rfl rfl (Y_field_addr rfl) ?_
            refine TF_y rfl rfl (Y_move rfl) ?_
            refine TF_anchor rfl ?_
            refine TL_y rfl rfl (Y_load rfl rfl) ?_
            refine TF_end GivesTo.g ?_
            refine TF_anchor rfl ?_
            refine TL_build_slice rfl rfl rfl rfl rfl rfl ?_
            intro b57
            refine TL_osl (k := 1) ptrR [bq] (Knows.const fun M => ⟨[.pointer (some ⟨bq, 0, none⟩)], [], rfl, rfl, rfl⟩) rfl (by decide) ?_
            refine TL_freeze_osl ?_
            refine TL_name 57 (v' := .slice (some ⟨b57, 0, none⟩) [bq].length 1) rfl rfl ?_
            refine TF_end GivesTo.g ?_
            refine TF_anchor rfl ?_
            refine TL_y rfl rfl (Y_load rfl rfl) ?_
            refine TF_end GivesTo.g ?_
            refine TF_anchor rfl ?_
            refine TL_build_slice rfl rfl rfl rfl rfl rfl ?_
            intro b50
            refine TL_osl (k := 1) ptrR [bp] (Knows.const fun M => ⟨[.pointer (some ⟨bp, 0, none⟩)], [], rfl, rfl, rfl⟩) rfl (by decide) ?_
            refine TL_freeze_osl ?_
            refine TL_name 50 (v' := .slice (some ⟨b50, 0, none⟩) [bp].length 1) rfl rfl ?_
            refine TF_end GivesTo.g ?_
            refine TF_anchor rfl ?_
            refine TL_append rfl rfl rfl rfl rfl slk (by simp only [bs1, List.length_map, List.length_cons, List.length_nil]; omega) ?_
            intro A51 c51
            refine TF_end GivesTo.g ?_
            refine TF_anchor rfl ?_
            refine TL_append rfl rfl rfl rfl rfl slk (by simp only [bs1, List.length_map, List.length_cons, List.length_nil]; omega) ?_
            intro A58 c58
            refine TF_end GivesTo.g ?_
            refine TF_y rfl rfl (Y_nil_check rfl) ?_
            refine TF_y rfl rfl (Y_field_addr rfl) ?_
            refine TF_anchor rfl ?_
            refine TL_store rfl rfl rfl rfl rfl rfl ?_
            refine TF_end GivesTo.g ?_
            refine TF_y rfl rfl (Y_nil_check rfl) ?_
            refine TF_y rfl rfl (Y_field_addr rfl) ?_
            refine TF_anchor rfl ?_
            refine TL_store rfl rfl rfl rfl rfl rfl ?_
            refine TF_end GivesTo.g ?_
            refine TF_nil ?_
            refine inB_normal ?_
            refine thenS_normal ?_
            refine T_region_last ?_
            refine TL_y rfl rfl (Y_move rfl) ?_
            refine TL_y rfl rfl (Y_add rfl rfl (by omega)) ?_
            refine TL_name 17 (v' := .int .i64 ((i + 1 : Nat) : Int)) rfl (rfl) ?_
            refine TL_y rfl rfl (Y_assign rfl) ?_
            refine TL_nil ?_
            refine thenS_normal ?_
            rw [show bs1 PB ++ [bp] = bs1 (PB ++ [(bp, ppNew (i : Int) (n : Int))]) by simp [bs1], show bs1 AB ++ [bq] = bs1 (AB ++ [(bq, acNew (i : Int))]) by simp [bs1]]
            exact ⟨⟨i + 1, PB ++ [(bp, ppNew (i : Int) (n : Int))], AB ++ [(bq, acNew (i : Int))], A51, c51, A58, c58⟩, ⟨by simp only; omega, by simp only [List.map_append, hP, List.range_succ, List.map_cons, List.map_nil], by simp only [List.map_append, hA, List.range_succ, List.map_cons, List.map_nil]⟩, (by simp only; omega), holds_to (sub_cons rfl (sub_cons rfl (sub_cons rfl (sub_nil)))) (Gives.trans (prSnoc PB bp (ppNew (i : Int) (n : Int))) (Gives.trans (acSnoc AB bq (acNew (i : Int))) GivesTo.g))⟩
          · refine RD_leaf (sl (intR .i64) none 0 [] :: []) [0, 0, 0, 4, 12, 32284, 0, 32380, 32508, 0, 512, 1536, 28160, 0, 8192, 32764, 65533, 131069, 262141, 524287, 1048575, 2097151] [] [(0, true), (1, true), (2, true), (3, true), (4, true), (6, true), (9, true), (10, true), (11, true), (13, true), (14, false), (12, false), (5, false), (7, false), (8, false), (15, false), (16, true), (17, true), (18, false), (19, true), (20, true), (21, false)] (by decide +kernel) GivesTo.g ?_
            refine TF_y rfl rfl (Y_move rfl) ?_
            refine TF_y rfl rfl (Y_move rfl) ?_
            refine TF_y rfl rfl (Y_move rfl) ?_
            refine TF_y rfl rfl (Y_nil_check rfl) ?_
            refine TF_y rfl rfl (Y_field_addr rfl) ?_
            refine TF_y rfl rfl (Y_move rfl) ?_
            refine TF_y rfl rfl (Y_move rfl) ?_
            refine TF_y rfl rfl (Y_nil_check rfl) ?_
            refine TF_y rfl rfl (Y_field_addr rfl) ?_
            refine TF_y rfl rfl (Y_move rfl) ?_
            refine TF_anchor rfl ?_
            refine TL_build_slice rfl rfl rfl rfl rfl rfl ?_
            intro b57
            refine TL_osl (k := 1) ptrR [bq] (Knows.const fun M => ⟨[.pointer (some ⟨bq, 0, none⟩)], [], rfl, rfl, rfl⟩) rfl (by decide) ?_
            refine TL_freeze_osl ?_
            refine TL_name 57 (v' := .slice (some ⟨b57, 0, none⟩) [bq].length 1) rfl rfl ?_
            refine TF_end GivesTo.g ?_
            refine TF_anchor rfl ?_
            refine TL_y rfl rfl (Y_load rfl rfl) ?_
            refine TF_end GivesTo.g ?_
            refine TF_anchor rfl ?_
            refine TL_y rfl rfl (Y_load rfl rfl) ?_
            refine TF_end GivesTo.g ?_
            refine TF_anchor rfl ?_
            refine TL_build_slice rfl rfl rfl rfl rfl rfl ?_
            intro b50
            refine TL_osl (k := 1) ptrR [bp] (Knows.const fun M => ⟨[.pointer (some ⟨bp, 0, none⟩)], [], rfl, rfl, rfl⟩) rfl (by decide) ?_
            refine TL_freeze_osl ?_
            refine TL_name 50 (v' := .slice (some ⟨b50, 0, none⟩) [bp].length 1) rfl rfl ?_
            refine TF_end GivesTo.g ?_
            refine TF_anchor rfl ?_
            refine TL_append rfl rfl rfl rfl rfl slk (by simp only [bs1, List.length_map, List.length_cons, List.length_nil]; omega) ?_
            intro A51 c51
            refine TF_end GivesTo.g ?_
            refine TF_anchor rfl ?_
            refine TL_append rfl rfl rfl rfl rfl slk (by simp only [bs1, List.length_map, List.length_cons, List.length_nil]; omega) ?_
            intro A58 c58
            refine TF_end GivesTo.g ?_
            refine TF_y rfl rfl (Y_nil_check rfl) ?_
            refine TF_y rfl rfl (Y_field_addr rfl) ?_
            refine TF_anchor rfl ?_
            refine TL_store rfl rfl rfl rfl rfl rfl ?_
            refine TF_end GivesTo.g ?_
            refine TF_y rfl rfl (Y_nil_check rfl) ?_
            refine TF_y rfl rfl (Y_field_addr rfl) ?_
            refine TF_anchor rfl ?_
            refine TL_store rfl rfl rfl rfl rfl rfl ?_
            refine TF_end GivesTo.g ?_
            refine TF_nil ?_
            refine inB_normal ?_
            refine thenS_normal ?_
            refine T_region_last ?_
            refine TL_y rfl rfl (Y_move rfl) ?_
            refine TL_y rfl rfl (Y_add rfl rfl (by omega)) ?_
            refine TL_name 17 (v' := .int .i64 ((i + 1 : Nat) : Int)) rfl (rfl) ?_
            refine TL_y rfl rfl (Y_assign rfl) ?_
            refine TL_nil ?_
            refine thenS_normal ?_
            rw [show bs1 PB ++ [bp] = bs1 (PB ++ [(bp, ppNew (i : Int) (n : Int))]) by simp [bs1], show bs1 AB ++ [bq] = bs1 (AB ++ [(bq, acNew (i : Int))]) by simp [bs1]]
            exact ⟨⟨i + 1, PB ++ [(bp, ppNew (i : Int) (n : Int))], AB ++ [(bq, acNew (i : Int))], A51, c51, A58, c58⟩, ⟨by simp only; omega, by simp only [List.map_append, hP, List.range_succ, List.map_cons, List.map_nil], by simp only [List.map_append, hA, List.range_succ, List.map_cons, List.map_nil]⟩, (by simp only; omega), holds_to (sub_cons rfl (sub_cons rfl (sub_cons rfl (sub_nil)))) (Gives.trans (prSnoc PB bp (ppNew (i : Int) (n : Int))) (Gives.trans (acSnoc AB bq (acNew (i : Int))) GivesTo.g))⟩
    · refine RD_pair 5 12 (by decide) ?_ ?_
      · refine RD_pair 5 14 (by decide) ?_ ?_
        · refine RD_pair 8 12 (by decide) ?_ ?_
          · refine RD_pair 8 14 (by decide) ?_ ?_
            · refine RD_pair 12 14 (by decide) ?_ ?_
              · refine RD_leaf (sl (intR .i64) none 0 [] :: []) [0, 0, 0, 4, 12, 220, 0, 64, 252, 0, 512, 1536, 4092, 0, 16380, 32764, 65533, 131069, 262141, 524287, 1048575, 2097151] [] [(0, true), (1, true), (2, true), (3, true), (4, true), (6, true), (9, true), (10, true), (11, true), (13, true), (7, false), (5, false), (8, false), (12, false), (14, false), (15, false), (16, true), (17, true), (18, false), (19, true), (20, true), (21, false)] (by decide +kernel) GivesTo.g ?_
                refine TF_y rfl rfl (Y_move rfl) ?_
                refine TF_y rfl rfl (Y_move rfl) ?_
                refine TF_y rfl rfl (Y_move rfl) ?_
                refine TF_y rfl rfl (Y_nil_check rfl) ?_
                refine TF_y rfl rfl (Y_field_addr rfl) ?_
                refine TF_y rfl rfl (Y_move rfl) ?_
                refine TF_y rfl rfl (Y_move rfl) ?_
                refine TF_y rfl rfl (Y_nil_check rfl) ?_
                refine TF_y rfl rfl (Y_field_addr rfl) ?_
                refine TF_y rfl rfl (Y_move rfl) ?_
                refine TF_anchor rfl ?_
                refine TL_build_slice rfl rfl rfl rfl rfl rfl ?_
                intro b50
                refine TL_osl (k := 1) ptrR [bp] (Knows.const fun M => ⟨[.pointer (some ⟨bp, 0, none⟩)], [], rfl, rfl, rfl⟩) rfl (by decide) ?_
                refine TL_freeze_osl ?_
                refine TL_name 50 (v' := .slice (some ⟨b50, 0, none⟩) [bp].length 1) rfl rfl ?_
                refine TF_end GivesTo.g ?_
                refine TF_anchor rfl ?_
                refine TL_y rfl rfl (Y_load rfl rfl) ?_
                refine TF_end GivesTo.g ?_
                refine TF_anchor rfl ?_
                refine TL_append rfl rfl rfl rfl rfl slk (by simp only [bs1, List.length_map, List.length_cons, List.length_nil]; omega) ?_
                intro A51 c51
                refine TF_end GivesTo.g ?_
                refine TF_anchor rfl ?_
                refine TL_y rfl rfl (Y_load rfl rfl) ?_
                refine TF_end GivesTo.g ?_
                refine TF_anchor rfl ?_
                refine TL_build_slice rfl rfl rfl rfl rfl rfl ?_
                intro b57
                refine TL_osl (k := 1) ptrR [bq] (Knows.const fun M => ⟨[.pointer (some ⟨bq, 0, none⟩)], [], rfl, rfl, rfl⟩) rfl (by decide) ?_
                refine TL_freeze_osl ?_
                refine TL_name 57 (v' := .slice (some ⟨b57, 0, none⟩) [bq].length 1) rfl rfl ?_
                refine TF_end GivesTo.g ?_
                refine TF_anchor rfl ?_
                refine TL_append rfl rfl rfl rfl rfl slk (by simp only [bs1, List.length_map, List.length_cons, List.length_nil]; omega) ?_
                intro A58 c58
                refine TF_end GivesTo.g ?_
                refine TF_y rfl rfl (Y_nil_check rfl) ?_
                refine TF_y rfl rfl (Y_field_addr rfl) ?_
                refine TF_anchor rfl ?_
                refine TL_store rfl rfl rfl rfl rfl rfl ?_
                refine TF_end GivesTo.g ?_
                refine TF_y rfl rfl (Y_nil_check rfl) ?_
                refine TF_y rfl rfl (Y_field_addr rfl) ?_
                refine TF_anchor rfl ?_
                refine TL_store rfl rfl rfl rfl rfl rfl ?_
                refine TF_end GivesTo.g ?_
                refine TF_nil ?_
                refine inB_normal ?_
                refine thenS_normal ?_
                refine T_region_last ?_
                refine TL_y rfl rfl (Y_move rfl) ?_
                refine TL_y rfl rfl (Y_add rfl rfl (by omega)) ?_
                refine TL_name 17 (v' := .int .i64 ((i + 1 : Nat) : Int)) rfl (rfl) ?_
                refine TL_y rfl rfl (Y_assign rfl) ?_
                refine TL_nil ?_
                refine thenS_normal ?_
                rw [show bs1 PB ++ [bp] = bs1 (PB ++ [(bp, ppNew (i : Int) (n : Int))]) by simp [bs1], show bs1 AB ++ [bq] = bs1 (AB ++ [(bq, acNew (i : Int))]) by simp [bs1]]
                exact ⟨⟨i + 1, PB ++ [(bp, ppNew (i : Int) (n : Int))], AB ++ [(bq, acNew (i : Int))], A51, c51, A58, c58⟩, ⟨by simp only; omega, by simp only [List.map_append, hP, List.range_succ, List.map_cons, List.map_nil], by simp only [List.map_append, hA, List.range_succ, List.map_cons, List.map_nil]⟩, (by simp only; omega), holds_to (sub_cons rfl (sub_cons rfl (sub_cons rfl (sub_nil)))) (Gives.trans (prSnoc PB bp (ppNew (i : Int) (n : Int))) (Gives.trans (acSnoc AB bq (acNew (i : Int))) GivesTo.g))⟩
              · refine RD_leaf (sl (intR .i64) none 0 [] :: []) [0, 0, 0, 4, 12, 220, 0, 64, 252, 0, 512, 1536, 28668, 0, 8700, 32764, 65533, 131069, 262141, 524287, 1048575, 2097151] [] [(0, true), (1, true), (2, true), (3, true), (4, true), (6, true), (9, true), (10, true), (11, true), (13, true), (7, false), (5, false), (8, false), (14, false), (12, false), (15, false), (16, true), (17, true), (18, false), (19, true), (20, true), (21, false)] (by decide +kernel) GivesTo.g ?_
                refine TF_y rfl rfl (Y_move rfl) ?_
                refine TF_y rfl rfl (Y_move rfl) ?_
                refine TF_y rfl rfl (Y_move rfl) ?_
                refine TF_y rfl rfl (Y_nil_check rfl) ?_
                refine TF_y rfl rfl (Y_field_addr rfl) ?_
                refine TF_y rfl rfl (Y_move rfl) ?_
                refine TF_y rfl rfl (Y_move rfl) ?_
                refine TF_y rfl rfl (Y_nil_check rfl) ?_
                refine TF_y rfl rfl (Y_field_addr rfl) ?_
                refine TF_y rfl rfl (Y_move rfl) ?_
                refine TF_anchor rfl ?_
                refine TL_build_slice rfl rfl rfl rfl rfl rfl ?_
                intro b50
                refine TL_osl (k := 1) ptrR [bp] (Knows.const fun M => ⟨[.pointer (some ⟨bp, 0, none⟩)], [], rfl, rfl, rfl⟩) rfl (by decide) ?_
                refine TL_freeze_osl ?_
                refine TL_name 50 (v' := .slice (some ⟨b50, 0, none⟩) [bp].length 1) rfl rfl ?_
                refine TF_end GivesTo.g ?_
                refine TF_anchor rfl ?_
                refine TL_y rfl rfl (Y_load rfl rfl) ?_
                refine TF_end GivesTo.g ?_
                refine TF_anchor rfl ?_
                refine TL_append rfl rfl rfl rfl rfl slk (by simp only [bs1, List.length_map, List.length_cons, List.length_nil]; omega) ?_
                intro A51 c51
                refine TF_end GivesTo.g ?_
                refine TF_anchor rfl ?_
                refine TL_build_slice rfl rfl rfl rfl rfl rfl ?_
                intro b57
                refine TL_osl (k := 1) ptrR [bq] (Knows.const fun M => ⟨[.pointer (some ⟨bq, 0, none⟩)], [], rfl, rfl, rfl⟩) rfl (by decide) ?_
                refine TL_freeze_osl ?_
                refine TL_name 57 (v' := .slice (some ⟨b57, 0, none⟩) [bq].length 1) rfl rfl ?_
                refine TF_end GivesTo.g ?_
                refine TF_anchor rfl ?_
                refine TL_y rfl rfl (Y_load rfl rfl) ?_
                refine TF_end GivesTo.g ?_
                refine TF_anchor rfl ?_
                refine TL_append rfl rfl rfl rfl rfl slk (by simp only [bs1, List.length_map, List.length_cons, List.length_nil]; omega) ?_
                intro A58 c58
                refine TF_end GivesTo.g ?_
                refine TF_y rfl rfl (Y_nil_check rfl) ?_
                refine TF_y rfl rfl (Y_field_addr rfl) ?_
                refine TF_anchor rfl ?_
                refine TL_store rfl rfl rfl rfl rfl rfl ?_
                refine TF_end GivesTo.g ?_
                refine TF_y rfl rfl (Y_nil_check rfl) ?_
                refine TF_y rfl rfl (Y_field_addr rfl) ?_
                refine TF_anchor rfl ?_
                refine TL_store rfl rfl rfl rfl rfl rfl ?_
                refine TF_end GivesTo.g ?_
                refine TF_nil ?_
                refine inB_normal ?_
                refine thenS_normal ?_
                refine T_region_last ?_
                refine TL_y rfl rfl (Y_move rfl) ?_
                refine TL_y rfl rfl (Y_add rfl rfl (by omega)) ?_
                refine TL_name 17 (v' := .int .i64 ((i + 1 : Nat) : Int)) rfl (rfl) ?_
                refine TL_y rfl rfl (Y_assign rfl) ?_
                refine TL_nil ?_
                refine thenS_normal ?_
                rw [show bs1 PB ++ [bp] = bs1 (PB ++ [(bp, ppNew (i : Int) (n : Int))]) by simp [bs1], show bs1 AB ++ [bq] = bs1 (AB ++ [(bq, acNew (i : Int))]) by simp [bs1]]
                exact ⟨⟨i + 1, PB ++ [(bp, ppNew (i : Int) (n : Int))], AB ++ [(bq, acNew (i : Int))], A51, c51, A58, c58⟩, ⟨by simp only; omega, by simp only [List.map_append, hP, List.range_succ, List.map_cons, List.map_nil], by simp only [List.map_append, hA, List.range_succ, List.map_cons, List.map_nil]⟩, (by simp only; omega), holds_to (sub_cons rfl (sub_cons rfl (sub_cons rfl (sub_nil)))) (Gives.trans (prSnoc PB bp (ppNew (i : Int) (n : Int))) (Gives.trans (acSnoc AB bq (acNew (i : Int))) GivesTo.g))⟩
            · refine RD_leaf (sl (intR .i64) none 0 [] :: []) [0, 0, 0, 4, 12, 220, 0, 64, 24828, 0, 512, 1536, 28668, 0, 8444, 32764, 65533, 131069, 262141, 524287, 1048575, 2097151] [] [(0, true), (1, true), (2, true), (3, true), (4, true), (6, true), (9, true), (10, true), (11, true), (13, true), (7, false), (5, false), (14, false), (8, false), (12, false), (15, false), (16, true), (17, true), (18, false), (19, true), (20, true), (21, false)] (by decide +kernel) GivesTo.g ?_
              refine TF_y rfl rfl (Y_move rfl) ?_
              refine TF_y rfl rfl (Y_move rfl) ?_
              refine TF_y rfl rfl (Y_move rfl) ?_
              refine TF_y rfl rfl (Y_nil_check rfl) ?_
              refine TF_y rfl rfl (Y_field_addr rfl) ?_
              refine TF_y rfl rfl (Y_move rfl) ?_
              refine TF_y rfl rfl (Y_move rfl) ?_
              refine TF_y rfl rfl (Y_nil_check rfl) ?_
              refine TF_y rfl rfl (Y_field_addr rfl) ?_
              refine TF_y rfl rfl (Y_move rfl) ?_
              refine TF_anchor rfl ?_
              refine TL_build_slice rfl rfl rfl rfl rfl rfl ?_
              intro b50
              refine TL_osl (k := 1) ptrR [bp] (Knows.const fun M => ⟨[.pointer (some ⟨bp, 0, none⟩)], [], rfl, rfl, rfl⟩) rfl (by decide) ?_
              refine TL_freeze_osl ?_
              refine TL_name 50 (v' := .slice (some ⟨b50, 0, none⟩) [bp].length 1) rfl rfl ?_
              refine TF_end GivesTo.g ?_
              refine TF_anchor rfl ?_
              refine TL_y rfl rfl (Y_load rfl rfl) ?_
              refine TF_end GivesTo.g ?_
              refine TF_anchor rfl ?_
              refine TL_build_slice rfl rfl rfl rfl rfl rfl ?_
              intro b57
              refine TL_osl (k := 1) ptrR [bq] (Knows.const fun M => ⟨[.pointer (some ⟨bq, 0, none⟩)], [], rfl, rfl, rfl⟩) rfl (by decide) ?_
              refine TL_freeze_osl ?_
              refine TL_name 57 (v' := .slice (some ⟨b57, 0, none⟩) [bq].length 1) rfl rfl ?_
              refine TF_end GivesTo.g ?_
              refine TF_anchor rfl ?_
              refine TL_append rfl rfl rfl rfl rfl slk (by simp only [bs1, List.length_map, List.length_cons, List.length_nil]; omega) ?_
              intro A51 c51
              refine TF_end GivesTo.g ?_
              refine TF_anchor rfl ?_
              refine TL_y rfl rfl (Y_load rfl rfl) ?_
              refine TF_end GivesTo.g ?_
              refine TF_anchor rfl ?_
              refine TL_append rfl rfl rfl rfl rfl slk (by simp only [bs1, List.length_map, List.length_cons, List.length_nil]; omega) ?_
              intro A58 c58
              refine TF_end GivesTo.g ?_
              refine TF_y rfl rfl (Y_nil_check rfl) ?_
              refine TF_y rfl rfl (Y_field_addr rfl) ?_
              refine TF_anchor rfl ?_
              refine TL_store rfl rfl rfl rfl rfl rfl ?_
              refine TF_end GivesTo.g ?_
              refine TF_y rfl rfl (Y_nil_check rfl) ?_
              refine TF_y rfl rfl (Y_field_addr rfl) ?_
              refine TF_anchor rfl ?_
              refine TL_store rfl rfl rfl rfl rfl rfl ?_
              refine TF_end GivesTo.g ?_
              refine TF_nil ?_
              refine inB_normal ?_
              refine thenS_normal ?_
              refine T_region_last ?_
              refine TL_y rfl rfl (Y_move rfl) ?_
              refine TL_y rfl rfl (Y_add rfl rfl (by omega)) ?_
              refine TL_name 17 (v' := .int .i64 ((i + 1 : Nat) : Int)) rfl (rfl) ?_
              refine TL_y rfl rfl (Y_assign rfl) ?_
              refine TL_nil ?_
              refine thenS_normal ?_
              rw [show bs1 PB ++ [bp] = bs1 (PB ++ [(bp, ppNew (i : Int) (n : Int))]) by simp [bs1], show bs1 AB ++ [bq] = bs1 (AB ++ [(bq, acNew (i : Int))]) by simp [bs1]]
              exact ⟨⟨i + 1, PB ++ [(bp, ppNew (i : Int) (n : Int))], AB ++ [(bq, acNew (i : Int))], A51, c51, A58, c58⟩, ⟨by simp only; omega, by simp only [List.map_append, hP, List.range_succ, List.map_cons, List.map_nil], by simp only [List.map_append, hA, List.range_succ, List.map_cons, List.map_nil]⟩, (by simp only; omega), holds_to (sub_cons rfl (sub_cons rfl (sub_cons rfl (sub_nil)))) (Gives.trans (prSnoc PB bp (ppNew (i : Int) (n : Int))) (Gives.trans (acSnoc AB bq (acNew (i : Int))) GivesTo.g))⟩
          · refine RD_pair 8 14 (by decide) ?_ ?_
            · refine RD_leaf (sl (intR .i64) none 0 [] :: []) [0, 0, 0, 4, 12, 220, 0, 64, 7932, 0, 512, 1536, 3836, 0, 16380, 32764, 65533, 131069, 262141, 524287, 1048575, 2097151] [] [(0, true), (1, true), (2, true), (3, true), (4, true), (6, true), (9, true), (10, true), (11, true), (13, true), (7, false), (5, false), (12, false), (8, false), (14, false), (15, false), (16, true), (17, true), (18, false), (19, true), (20, true), (21, false)] (by decide +kernel) GivesTo.g ?_
              refine TF_y rfl rfl (Y_move rfl) ?_
              refine TF_y rfl rfl (Y_move rfl) ?_
              refine TF_y rfl rfl (Y_move rfl) ?_
              refine TF_y rfl rfl (Y_nil_check rfl) ?_
              refine TF_y rfl rfl (Y_field_addr rfl) ?_
              refine TF_y rfl rfl (Y_move rfl) ?_
              refine TF_y rfl rfl (Y_move rfl) ?_
              refine TF_y rfl rfl (Y_nil_check rfl) ?_
              refine TF_y rfl rfl (Y_field_addr rfl) ?_
              refine TF_y rfl rfl (Y_move rfl) ?_
              refine TF_anchor rfl ?_
              refine TL_build_slice rfl rfl rfl rfl rfl rfl ?_
              intro b50
              refine TL_osl (k := 1) ptrR [bp] (Knows.const fun M => ⟨[.pointer (some ⟨bp, 0, none⟩)], [], rfl, rfl, rfl⟩) rfl (by decide) ?_
              refine TL_freeze_osl ?_
              refine TL_name 50 (v' := .slice (some ⟨b50, 0, none⟩) [bp].length 1) rfl rfl ?_
              refine TF_end GivesTo.g ?_
              refine TF_anchor rfl ?_
              refine TL_y rfl rfl (Y_load rfl rfl) ?_
              refine TF_end GivesTo.g ?_
              refine TF_anchor rfl ?_
              refine TL_y rfl rfl (Y_load rfl rfl) ?_
              refine TF_end GivesTo.g ?_
              refine TF_anchor rfl ?_
              refine TL_append rfl rfl rfl rfl rfl slk (by simp only [bs1, List.length_map, List.length_cons, List.length_nil]; omega) ?_
              intro A51 c51
              refine TF_end GivesTo.g ?_
              refine TF_anchor rfl ?_
              refine TL_build_slice rfl rfl rfl rfl rfl rfl ?_
              intro b57
              refine TL_osl (k := 1) ptrR [bq] (Knows.const fun M => ⟨[.pointer (some ⟨bq, 0, none⟩)], [], rfl, rfl, rfl⟩) rfl (by decide) ?_
              refine TL_freeze_osl ?_
              refine TL_name 57 (v' := .slice (some ⟨b57, 0, none⟩) [bq].length 1) rfl rfl ?_
              refine TF_end GivesTo.g ?_
              refine TF_anchor rfl ?_
              refine TL_append rfl rfl rfl rfl rfl slk (by simp only [bs1, List.length_map, List.length_cons, List.length_nil]; omega) ?_
              intro A58 c58
              refine TF_end GivesTo.g ?_
              refine TF_y rfl rfl (Y_nil_check rfl) ?_
              refine TF_y rfl rfl (Y_field_addr rfl) ?_
              refine TF_anchor rfl ?_
              refine TL_store rfl rfl rfl rfl rfl rfl ?_
              refine TF_end GivesTo.g ?_
              refine TF_y rfl rfl (Y_nil_check rfl) ?_
              refine TF_y rfl rfl (Y_field_addr rfl) ?_
              refine TF_anchor rfl ?_
              refine TL_store rfl rfl rfl rfl rfl rfl ?_
              refine TF_end GivesTo.g ?_
              refine TF_nil ?_
              refine inB_normal ?_
              refine thenS_normal ?_
              refine T_region_last ?_
              refine TL_y rfl rfl (Y_move rfl) ?_
              refine TL_y rfl rfl (Y_add rfl rfl (by omega)) ?_
              refine TL_name 17 (v' := .int .i64 ((i + 1 : Nat) : Int)) rfl (rfl) ?_
              refine TL_y rfl rfl (Y_assign rfl) ?_
              refine TL_nil ?_
              refine thenS_normal ?_
              rw [show bs1 PB ++ [bp] = bs1 (PB ++ [(bp, ppNew (i : Int) (n : Int))]) by simp [bs1], show bs1 AB ++ [bq] = bs1 (AB ++ [(bq, acNew (i : Int))]) by simp [bs1]]
              exact ⟨⟨i + 1, PB ++ [(bp, ppNew (i : Int) (n : Int))], AB ++ [(bq, acNew (i : Int))], A51, c51, A58, c58⟩, ⟨by simp only; omega, by simp only [List.map_append, hP, List.range_succ, List.map_cons, List.map_nil], by simp only [List.map_append, hA, List.range_succ, List.map_cons, List.map_nil]⟩, (by simp only; omega), holds_to (sub_cons rfl (sub_cons rfl (sub_cons rfl (sub_nil)))) (Gives.trans (prSnoc PB bp (ppNew (i : Int) (n : Int))) (Gives.trans (acSnoc AB bq (acNew (i : Int))) GivesTo.g))⟩
            · refine RD_pair 12 14 (by decide) ?_ ?_
              · refine RD_leaf (sl (intR .i64) none 0 [] :: []) [0, 0, 0, 4, 12, 220, 0, 64, 32508, 0, 512, 1536, 3836, 0, 16124, 32764, 65533, 131069, 262141, 524287, 1048575, 2097151] [] [(0, true), (1, true), (2, true), (3, true), (4, true), (6, true), (9, true), (10, true), (11, true), (13, true), (7, false), (5, false), (12, false), (14, false), (8, false), (15, false), (16, true), (17, true), (18, false), (19, true), (20, true), (21, false)] (by decide +kernel) GivesTo.g ?_
                refine TF_y rfl rfl (Y_move rfl) ?_
                refine TF_y rfl rfl (Y_move rfl) ?_
                refine TF_y rfl rfl (Y_move rfl) ?_
                refine TF_y rfl rfl (Y_nil_check rfl) ?_
                refine TF_y rfl rfl (Y_field_addr rfl) ?_
                refine TF_y rfl rfl (Y_move rfl) ?_
                refine TF_y rfl rfl (Y_move rfl) ?_
                refine TF_y rfl rfl (Y_nil_check rfl) ?_
                refine TF_y rfl rfl (Y_field_addr rfl) ?_
                refine TF_y rfl rfl (Y_move rfl) ?_
                refine TF_anchor rfl ?_
                refine TL_build_slice rfl rfl rfl rfl rfl rfl ?_
                intro b50
                refine TL_osl (k := 1) ptrR [bp] (Knows.const fun M => ⟨[.pointer (some ⟨bp, 0, none⟩)], [], rfl, rfl, rfl⟩) rfl (by decide) ?_
                refine TL_freeze_osl ?_
                refine TL_name 50 (v' := .slice (some ⟨b50, 0, none⟩) [bp].length 1) rfl rfl ?_
                refine TF_end GivesTo.g ?_
                refine TF_anchor rfl ?_
                refine TL_y rfl rfl (Y_load rfl rfl) ?_
                refine TF_end GivesTo.g ?_
                refine TF_anchor rfl ?_
                refine TL_y rfl rfl (Y_load rfl rfl) ?_
                refine TF_end GivesTo.g ?_
                refine TF_anchor rfl ?_
                refine TL_build_slice rfl rfl rfl rfl rfl rfl ?_
                intro b57
                refine TL_osl (k := 1) ptrR [bq] (Knows.const fun M => ⟨[.pointer (some ⟨bq, 0, none⟩)], [], rfl, rfl, rfl⟩) rfl (by decide) ?_
                refine TL_freeze_osl ?_
                refine TL_name 57 (v' := .slice (some ⟨b57, 0, none⟩) [bq].length 1) rfl rfl ?_
                refine TF_end GivesTo.g ?_
                refine TF_anchor rfl ?_
                refine TL_append rfl rfl rfl rfl rfl slk (by simp only [bs1, List.length_map, List.length_cons, List.length_nil]; omega) ?_
                intro A51 c51
                refine TF_end GivesTo.g ?_
                refine TF_anchor rfl ?_
                refine TL_append rfl rfl rfl rfl rfl slk (by simp only [bs1, List.length_map, List.length_cons, List.length_nil]; omega) ?_
                intro A58 c58
                refine TF_end GivesTo.g ?_
                refine TF_y rfl rfl (Y_nil_check rfl) ?_
                refine TF_y rfl rfl (Y_field_addr rfl) ?_
                refine TF_anchor rfl ?_
                refine TL_store rfl rfl rfl rfl rfl rfl ?_
                refine TF_end GivesTo.g ?_
                refine TF_y rfl rfl (Y_nil_check rfl) ?_
                refine TF_y rfl rfl (Y_field_addr rfl) ?_
                refine TF_anchor rfl ?_
                refine TL_store rfl rfl rfl rfl rfl rfl ?_
                refine TF_end GivesTo.g ?_
                refine TF_nil ?_
                refine inB_normal ?_
                refine thenS_normal ?_
                refine T_region_last ?_
                refine TL_y rfl rfl (Y_move rfl) ?_
                refine TL_y rfl rfl (Y_add rfl rfl (by omega)) ?_
                refine TL_name 17 (v' := .int .i64 ((i + 1 : Nat) : Int)) rfl (rfl) ?_
                refine TL_y rfl rfl (Y_assign rfl) ?_
                refine TL_nil ?_
                refine thenS_normal ?_
                rw [show bs1 PB ++ [bp] = bs1 (PB ++ [(bp, ppNew (i : Int) (n : Int))]) by simp [bs1], show bs1 AB ++ [bq] = bs1 (AB ++ [(bq, acNew (i : Int))]) by simp [bs1]]
                exact ⟨⟨i + 1, PB ++ [(bp, ppNew (i : Int) (n : Int))], AB ++ [(bq, acNew (i : Int))], A51, c51, A58, c58⟩, ⟨by simp only; omega, by simp only [List.map_append, hP, List.range_succ, List.map_cons, List.map_nil], by simp only [List.map_append, hA, List.range_succ, List.map_cons, List.map_nil]⟩, (by simp only; omega), holds_to (sub_cons rfl (sub_cons rfl (sub_cons rfl (sub_nil)))) (Gives.trans (prSnoc PB bp (ppNew (i : Int) (n : Int))) (Gives.trans (acSnoc AB bq (acNew (i : Int))) GivesTo.g))⟩
              · refine RD_leaf (sl (intR .i64) none 0 [] :: []) [0, 0, 0, 4, 12, 220, 0, 64, 32508, 0, 512, 1536, 28412, 0, 8444, 32764, 65533, 131069, 262141, 524287, 1048575, 2097151] [] [(0, true), (1, true), (2, true), (3, true), (4, true), (6, true), (9, true), (10, true), (11, true), (13, true), (7, false), (5, false), (14, false), (12, false), (8, false), (15, false), (16, true), (17, true), (18, false), (19, true), (20, true), (21, false)] (by decide +kernel) GivesTo.g ?_
                refine TF_y rfl rfl (Y_move rfl) ?_
                refine TF_y rfl rfl (Y_move rfl) ?_
                refine TF_y rfl rfl (Y_move rfl) ?_
                refine TF_y rfl rfl (Y_nil_check rfl) ?_
                refine TF_y rfl rfl (Y_field_addr rfl) ?_
                refine TF_y rfl rfl (Y_move rfl) ?_
                refine TF_y rfl rfl (Y_move rfl) ?_
                refine TF_y rfl rfl (Y_nil_check rfl) ?_
                refine TF_y rfl rfl (Y_field_addr rfl) ?_
                refine TF_y rfl rfl (Y_move rfl) ?_
                refine TF_anchor rfl ?_
                refine TL_build_slice rfl rfl rfl rfl rfl rfl ?_
                intro b50
                refine TL_osl (k := 1) ptrR [bp] (Knows.const fun M => ⟨[.pointer (some ⟨bp, 0, none⟩)], [], rfl, rfl, rfl⟩) rfl (by decide) ?_
                refine TL_freeze_osl ?_
                refine TL_name 50 (v' := .slice (some ⟨b50, 0, none⟩) [bp].length 1) rfl rfl ?_
                refine TF_end GivesTo.g ?_
                refine TF_anchor rfl ?_
                refine TL_y rfl rfl (Y_load rfl rfl) ?_
                refine TF_end GivesTo.g ?_
                refine TF_anchor rfl ?_
                refine TL_build_slice rfl rfl rfl rfl rfl rfl ?_
                intro b57
                refine TL_osl (k := 1) ptrR [bq] (Knows.const fun M => ⟨[.pointer (some ⟨bq, 0, none⟩)], [], rfl, rfl, rfl⟩) rfl (by decide) ?_
                refine TL_freeze_osl ?_
                refine TL_name 57 (v' := .slice (some ⟨b57, 0, none⟩) [bq].length 1) rfl rfl ?_
                refine TF_end GivesTo.g ?_
                refine TF_anchor rfl ?_
                refine TL_y rfl rfl (Y_load rfl rfl) ?_
                refine TF_end GivesTo.g ?_
                refine TF_anchor rfl ?_
                refine TL_append rfl rfl rfl rfl rfl slk (by simp only [bs1, List.length_map, List.length_cons, List.length_nil]; omega) ?_
                intro A51 c51
                refine TF_end GivesTo.g ?_
                refine TF_anchor rfl ?_
                refine TL_append rfl rfl rfl rfl rfl slk (by simp only [bs1, List.length_map, List.length_cons, List.length_nil]; omega) ?_
                intro A58 c58
                refine TF_end GivesTo.g ?_
                refine TF_y rfl rfl (Y_nil_check rfl) ?_
                refine TF_y rfl rfl (Y_field_addr rfl) ?_
                refine TF_anchor rfl ?_
                refine TL_store rfl rfl rfl rfl rfl rfl ?_
                refine TF_end GivesTo.g ?_
                refine TF_y rfl rfl (Y_nil_check rfl) ?_
                refine TF_y rfl rfl (Y_field_addr rfl) ?_
                refine TF_anchor rfl ?_
                refine TL_store rfl rfl rfl rfl rfl rfl ?_
                refine TF_end GivesTo.g ?_
                refine TF_nil ?_
                refine inB_normal ?_
                refine thenS_normal ?_
                refine T_region_last ?_
                refine TL_y rfl rfl (Y_move rfl) ?_
                refine TL_y rfl rfl (Y_add rfl rfl (by omega)) ?_
                refine TL_name 17 (v' := .int .i64 ((i + 1 : Nat) : Int)) rfl (rfl) ?_
                refine TL_y rfl rfl (Y_assign rfl) ?_
                refine TL_nil ?_
                refine thenS_normal ?_
                rw [show bs1 PB ++ [bp] = bs1 (PB ++ [(bp, ppNew (i : Int) (n : Int))]) by simp [bs1], show bs1 AB ++ [bq] = bs1 (AB ++ [(bq, acNew (i : Int))]) by simp [bs1]]
                exact ⟨⟨i + 1, PB ++ [(bp, ppNew (i : Int) (n : Int))], AB ++ [(bq, acNew (i : Int))], A51, c51, A58, c58⟩, ⟨by simp only; omega, by simp only [List.map_append, hP, List.range_succ, List.map_cons, List.map_nil], by simp only [List.map_append, hA, List.range_succ, List.map_cons, List.map_nil]⟩, (by simp only; omega), holds_to (sub_cons rfl (sub_cons rfl (sub_cons rfl (sub_nil)))) (Gives.trans (prSnoc PB bp (ppNew (i : Int) (n : Int))) (Gives.trans (acSnoc AB bq (acNew (i : Int))) GivesTo.g))⟩
        · refine RD_pair 7 14 (by decide) ?_ ?_
          · refine RD_pair 8 12 (by decide) ?_ ?_
            · refine RD_leaf (sl (intR .i64) none 0 [] :: []) [0, 0, 0, 4, 12, 24796, 0, 64, 24828, 0, 512, 1536, 28668, 0, 8384, 32764, 65533, 131069, 262141, 524287, 1048575, 2097151] [] [(0, true), (1, true), (2, true), (3, true), (4, true), (6, true), (9, true), (10, true), (11, true), (13, true), (7, false), (14, false), (5, false), (8, false), (12, false), (15, false), (16, true), (17, true), (18, false), (19, true), (20, true), (21, false)] (by decide +kernel) GivesTo.g ?_
              refine TF_y rfl rfl (Y_move rfl) ?_
              refine TF_y rfl rfl (Y_move rfl) ?_
              refine TF_y rfl rfl (Y_move rfl) ?_
              refine TF_y rfl rfl (Y_nil_check rfl) ?_
              refine TF_y rfl rfl (Y_field_addr rfl) ?_
              refine TF_y rfl rfl (Y_move rfl) ?_
              refine TF_y rfl rfl (Y_move rfl) ?_
              refine TF_y rfl rfl (Y_nil_check rfl) ?_
              refine TF_y rfl rfl (Y_field_addr rfl) ?_
              refine TF_y rfl rfl (Y_move rfl) ?_
              refine TF_anchor rfl ?_
              refine TL_build_slice rfl rfl rfl rfl rfl rfl ?_
              intro b50
              refine TL_osl (k := 1) ptrR [bp] (Knows.const fun M => ⟨[.pointer (some ⟨bp, 0, none⟩)], [], rfl, rfl, rfl⟩) rfl (by decide) ?_
              refine TL_freeze_osl ?_
              refine TL_name 50 (v' := .slice (some ⟨b50, 0, none⟩) [bp].length 1) rfl rfl ?_
              refine TF_end GivesTo.g ?_
              refine TF_anchor rfl ?_
              refine TL_build_slice rfl rfl rfl rfl rfl rfl ?_
              intro b57
              refine TL_osl (k := 1) ptrR [bq] (Knows.const fun M => ⟨[.pointer (some ⟨bq, 0, none⟩)], [], rfl, rfl, rfl⟩) rfl (by decide) ?_
              refine TL_freeze_osl ?_
              refine TL_name 57 (v' := .slice (some ⟨b57, 0, none⟩) [bq].length 1) rfl rfl ?_
              refine TF_end GivesTo.g ?_
              refine TF_anchor rfl ?_
              refine TL_y rfl rfl (Y_load rfl rfl) ?_
              refine TF_end GivesTo.g ?_
              refine TF_anchor rfl ?_
              refine TL_append rfl rfl rfl rfl rfl slk (by simp only [bs1, List.length_map, List.length_cons, List.length_nil]; omega) ?_
              intro A51 c51
              refine TF_end GivesTo.g ?_
              refine TF_anchor rfl ?_
              refine TL_y rfl rfl (Y_load rfl rfl) ?_
              refine TF_end GivesTo.g ?_
              refine TF_anchor rfl ?_
              refine TL_append rfl rfl rfl rfl rfl slk (by simp only [bs1, List.length_map, List.length_cons, List.length_nil]; omega) ?_
              intro A58 c58
              refine TF_end GivesTo.g ?_
              refine TF_y rfl rfl (Y_nil_check rfl) ?_
              refine TF_y rfl rfl (Y_field_addr rfl) ?_
              refine TF_anchor rfl ?_
              refine TL_store rfl rfl rfl rfl rfl rfl ?_
              refine TF_end GivesTo.g ?_
              refine TF_y rfl rfl (Y_nil_check rfl) ?_
              refine TF_y rfl rfl (Y_field_addr rfl) ?_
              refine TF_anchor rfl ?_
              refine TL_store rfl rfl rfl rfl rfl rfl ?_
              refine TF_end GivesTo.g ?_
              refine TF_nil ?_
              refine inB_normal ?_
              refine thenS_normal ?_
              refine T_region_last ?_
              refine TL_y rfl rfl (Y_move rfl) ?_
              refine TL_y rfl rfl (Y_add rfl rfl (by omega)) ?_
              refine TL_name 17 (v' := .int .i64 ((i + 1 : Nat) : Int)) rfl (rfl) ?_
              refine TL_y rfl rfl (Y_assign rfl) ?_
              refine TL_nil ?_
              refine thenS_normal ?_
              rw [show bs1 PB ++ [bp] = bs1 (PB ++ [(bp, ppNew (i : Int) (n : Int))]) by simp [bs1], show bs1 AB ++ [bq] = bs1 (AB ++ [(bq, acNew (i : Int))]) by simp [bs1]]
              exact ⟨⟨i + 1, PB ++ [(bp, ppNew (i : Int) (n : Int))], AB ++ [(bq, acNew (i : Int))], A51, c51, A58, c58⟩, ⟨by simp only; omega, by simp only [List.map_append, hP, List.range_succ, List.map_cons, List.map_nil], by simp only [List.map_append, hA, List.range_succ, List.map_cons, List.map_nil]⟩, (by simp only; omega), holds_to (sub_cons rfl (sub_cons rfl (sub_cons rfl (sub_nil)))) (Gives.trans (prSnoc PB bp (ppNew (i : Int) (n : Int))) (Gives.trans (acSnoc AB bq (acNew (i : Int))) GivesTo.g))⟩
            · refine RD_leaf (sl (intR .i64) none 0 [] :: []) [0, 0, 0, 4, 12, 24796, 0, 64, 32508, 0, 512, 1536, 28412, 0, 8384, 32764, 65533, 131069, 262141, 524287, 1048575, 2097151] [] [(0, true), (1, true), (2, true), (3, true), (4, true), (6, true), (9, true), (10, true), (11, true), (13, true), (7, false), (14, false), (5, false), (12, false), (8, false), (15, false), (16, true), (17, true), (18, false), (19, true), (20, true), (21, false)] (by decide +kernel) GivesTo.g ?_
              refine TF_y rfl rfl (Y_move rfl) ?_
              refine TF_y rfl rfl (Y_move rfl) ?_
              refine TF_y rfl rfl (Y_move rfl) ?_
              refine TF_y rfl rfl (Y_nil_check rfl) ?_
              refine TF_y rfl rfl (Y_field_addr rfl) ?_
              refine TF_y rfl rfl (Y_move rfl) ?_
              refine TF_y rfl rfl (Y_move rfl) ?_
              refine TF_y rfl rfl (Y_nil_check rfl) ?_
              refine TF_y rfl rfl (Y_field_addr rfl) ?_
              refine TF_y rfl rfl (Y_move rfl) ?_
              refine TF_anchor rfl ?_
              refine TL_build_slice rfl rfl rfl rfl rfl rfl ?_
              intro b50
              refine TL_osl (k := 1) ptrR [bp] (Knows.const fun M => ⟨[.pointer (some ⟨bp, 0, none⟩)], [], rfl, rfl, rfl⟩) rfl (by decide) ?_
              refine TL_freeze_osl ?_
              refine TL_name 50 (v' := .slice (some ⟨b50, 0, none⟩) [bp].length 1) rfl rfl ?_
              refine TF_end GivesTo.g ?_
              refine TF_anchor rfl ?_
              refine TL_build_slice rfl rfl rfl rfl rfl rfl ?_
              intro b57
              refine TL_osl (k := 1) ptrR [bq] (Knows.const fun M => ⟨[.pointer (some ⟨bq, 0, none⟩)], [], rfl, rfl, rfl⟩) rfl (by decide) ?_
              refine TL_freeze_osl ?_
              refine TL_name 57 (v' := .slice (some ⟨b57, 0, none⟩) [bq].length 1) rfl rfl ?_
              refine TF_end GivesTo.g ?_
              refine TF_anchor rfl ?_
              refine TL_y rfl rfl (Y_load rfl rfl) ?_
              refine TF_end GivesTo.g ?_
              refine TF_anchor rfl ?_
              refine TL_y rfl rfl (Y_load rfl rfl) ?_
              refine TF_end GivesTo.g ?_
              refine TF_anchor rfl ?_
              refine TL_append rfl rfl rfl rfl rfl slk (by simp only [bs1, List.length_map, List.length_cons, List.length_nil]; omega) ?_
              intro A51 c51
              refine TF_end GivesTo.g ?_
              refine TF_anchor rfl ?_
              refine TL_append rfl rfl rfl rfl rfl slk (by simp only [bs1, List.length_map, List.length_cons, List.length_nil]; omega) ?_
              intro A58 c58
              refine TF_end GivesTo.g ?_
              refine TF_y rfl rfl (Y_nil_check rfl) ?_
              refine TF_y rfl rfl (Y_field_addr rfl) ?_
              refine TF_anchor rfl ?_
              refine TL_store rfl rfl rfl rfl rfl rfl ?_
              refine TF_end GivesTo.g ?_
              refine TF_y rfl rfl (Y_nil_check rfl) ?_
              refine TF_y rfl rfl (Y_field_addr rfl) ?_
              refine TF_anchor rfl ?_
              refine TL_store rfl rfl rfl rfl rfl rfl ?_
              refine TF_end GivesTo.g ?_
              refine TF_nil ?_
              refine inB_normal ?_
              refine thenS_normal ?_
              refine T_region_last ?_
              refine TL_y rfl rfl (Y_move rfl) ?_
              refine TL_y rfl rfl (Y_add rfl rfl (by omega)) ?_
              refine TL_name 17 (v' := .int .i64 ((i + 1 : Nat) : Int)) rfl (rfl) ?_
              refine TL_y rfl rfl (Y_assign rfl) ?_
              refine TL_nil ?_
              refine thenS_normal ?_
              rw [show bs1 PB ++ [bp] = bs1 (PB ++ [(bp, ppNew (i : Int) (n : Int))]) by simp [bs1], show bs1 AB ++ [bq] = bs1 (AB ++ [(bq, acNew (i : Int))]) by simp [bs1]]
              exact ⟨⟨i + 1, PB ++ [(bp, ppNew (i : Int) (n : Int))], AB ++ [(bq, acNew (i : Int))], A51, c51, A58, c58⟩, ⟨by simp only; omega, by simp only [List.map_append, hP, List.range_succ, List.map_cons, List.map_nil], by simp only [List.map_append, hA, List.range_succ, List.map_cons, List.map_nil]⟩, (by simp only; omega), holds_to (sub_cons rfl (sub_cons rfl (sub_cons rfl (sub_nil)))) (Gives.trans (prSnoc PB bp (ppNew (i : Int) (n : Int))) (Gives.trans (acSnoc AB bq (acNew (i : Int))) GivesTo.g))⟩
          · refine RD_pair 8 12 (by decide) ?_ ?_
            · refine RD_leaf (sl (intR .i64) none 0 [] :: []) [0, 0, 0, 4, 12, 24796, 0, 24640, 24828, 0, 512, 1536, 28668, 0, 8192, 32764, 65533, 131069, 262141, 524287, 1048575, 2097151] [] [(0, true), (1, true), (2, true), (3, true), (4, true), (6, true), (9, true), (10, true), (11, true), (13, true), (14, false), (7, false), (5, false), (8, false), (12, false), (15, false), (16, true), (17, true), (18, false), (19, true), (20, true), (21, false)] (by decide +kernel) GivesTo.g ?_
              refine TF_y rfl rfl (Y_move rfl) ?_
              refine TF_y rfl rfl (Y_move rfl) ?_
              refine TF_y rfl rfl (Y_move rfl) ?_
              refine TF_y rfl rfl (Y_nil_check rfl) ?_
              refine TF_y rfl rfl (Y_field_addr rfl) ?_
              refine TF_y rfl rfl (Y_move rfl) ?_
              refine TF_y rfl rfl (Y_move rfl) ?_
              refine TF_y rfl rfl (Y_nil_check rfl) ?_
              refine TF_y rfl rfl (Y_field_addr rfl) ?_
              refine TF_y rfl rfl (Y_move rfl) ?_
              refine TF_anchor rfl ?_
              refine TL_build_slice rfl rfl rfl rfl rfl rfl ?_
              intro b57
              refine TL_osl (k := 1) ptrR [bq] (Knows.const fun M => ⟨[.pointer (some ⟨bq, 0, none⟩)], [], rfl, rfl, rfl⟩) rfl (by decide) ?_
              refine TL_freeze_osl ?_
              refine TL_name 57 (v' := .slice (some ⟨b57, 0, none⟩) [bq].length 1) rfl rfl ?_
              refine TF_end GivesTo.g ?_
              refine TF_anchor rfl ?_
              refine TL_build_slice rfl rfl rfl rfl rfl rfl ?_
              intro b50
              refine TL_osl (k := 1) ptrR [bp] (Knows.const fun M => ⟨[.pointer (some ⟨bp, 0, none⟩)], [], rfl, rfl, rfl⟩) rfl (by decide) ?_
              refine TL_freeze_osl ?_
              refine TL_name 50 (v' := .slice (some ⟨b50, 0, none⟩) [bp].length 1) rfl rfl ?_
              refine TF_end GivesTo.g ?_
              refine TF_anchor rfl ?_
              refine TL_y rfl rfl (Y_load rfl rfl) ?_
              refine TF_end GivesTo.g ?_
              refine TF_anchor rfl ?_
              refine TL_append rfl rfl rfl rfl rfl slk (by simp only [bs1, List.length_map, List.length_cons, List.length_nil]; omega) ?_
              intro A51 c51
              refine TF_end GivesTo.g ?_
              refine TF_anchor rfl ?_
              refine TL_y rfl rfl (Y_load rfl rfl) ?_
              refine TF_end GivesTo.g ?_
              refine TF_anchor rfl ?_
              refine TL_append rfl rfl rfl rfl rfl slk (by simp only [bs1, List.length_map, List.length_cons, List.length_nil]; omega) ?_
              intro A58 c58
              refine TF_end GivesTo.g ?_
              refine TF_y rfl rfl (Y_nil_check rfl) ?_
              refine TF_y rfl rfl (Y_field_addr rfl) ?_
              refine TF_anchor rfl ?_
              refine TL_store rfl rfl rfl rfl rfl rfl ?_
              refine TF_end GivesTo.g ?_
              refine TF_y rfl rfl (Y_nil_check rfl) ?_
              refine TF_y rfl rfl (Y_field_addr rfl) ?_
              refine TF_anchor rfl ?_
              refine TL_store rfl rfl rfl rfl rfl rfl ?_
              refine TF_end GivesTo.g ?_
              refine TF_nil ?_
              refine inB_normal ?_
              refine thenS_normal ?_
              refine T_region_last ?_
              refine TL_y rfl rfl (Y_move rfl) ?_
              refine TL_y rfl rfl (Y_add rfl rfl (by omega)) ?_
              refine TL_name 17 (v' := .int .i64 ((i + 1 : Nat) : Int)) rfl (rfl) ?_
              refine TL_y rfl rfl (Y_assign rfl) ?_
              refine TL_nil ?_
              refine thenS_normal ?_
              rw [show bs1 PB ++ [bp] = bs1 (PB ++ [(bp, ppNew (i : Int) (n : Int))]) by simp [bs1], show bs1 AB ++ [bq] = bs1 (AB ++ [(bq, acNew (i : Int))]) by simp [bs1]]
              exact ⟨⟨i + 1, PB ++ [(bp, ppNew (i : Int) (n : Int))], AB ++ [(bq, acNew (i : Int))], A51, c51, A58, c58⟩, ⟨by simp only; omega, by simp only [List.map_append, hP, List.range_succ, List.map_cons, List.map_nil], by simp only [List.map_append, hA, List.range_succ, List.map_cons, List.map_nil]⟩, (by simp only; omega), holds_to (sub_cons rfl (sub_cons rfl (sub_cons rfl (sub_nil)))) (Gives.trans (prSnoc PB bp (ppNew (i : Int) (n : Int))) (Gives.trans (acSnoc AB bq (acNew (i : Int))) GivesTo.g))⟩
            · refine RD_leaf (sl (intR .i64) none 0 [] :: []) [0, 0, 0, 4, 12, 24796, 0, 24640, 32508, 0, 512, 1536, 28412, 0, 8192, 32764, 65533, 131069, 262141, 524287, 1048575, 2097151] [] [(0, true), (1, true), (2, true), (3, true), (4, true), (6, true), (9, true), (10, true), (11, true), (13, true), (14, false), (7, false), (5, false), (12, false), (8, false), (15, false), (16, true), (17, true), (18, false), (19, true), (20, true), (21, false)] (by decide +kernel) GivesTo.g ?_
              refine TF_y rfl rfl (Y_move rfl) ?_
              refine TF_y rfl rfl (Y_move rfl) ?_
              refine TF_y rfl rfl (Y_move rfl) ?_
              refine TF_y rfl rfl (Y_nil_check rfl) ?_
              refine TF_y rfl rfl (Y_field_addr rfl) ?_
              refine TF_y rfl rfl (Y_move rfl) ?_
              refine TF_y rfl rfl (Y_move rfl) ?_
              refine TF_y rfl rfl (Y_nil_check rfl) ?_
              refine TF_y rfl rfl (Y_field_addr rfl) ?_
              refine TF_y rfl rfl (Y_move rfl) ?_
              refine TF_anchor rfl ?_
              refine TL_build_slice rfl rfl rfl rfl rfl rfl ?_
              intro b57
              refine TL_osl (k := 1) ptrR [bq] (Knows.const fun M => ⟨[.pointer (some ⟨bq, 0, none⟩)], [], rfl, rfl, rfl⟩) rfl (by decide) ?_
              refine TL_freeze_osl ?_
              refine TL_name 57 (v' := .slice (some ⟨b57, 0, none⟩) [bq].length 1) rfl rfl ?_
              refine TF_end GivesTo.g ?_
              refine TF_anchor rfl ?_
              refine TL_build_slice rfl rfl rfl rfl rfl rfl ?_
              intro b50
              refine TL_osl (k := 1) ptrR [bp] (Knows.const fun M => ⟨[.pointer (some ⟨bp, 0, none⟩)], [], rfl, rfl, rfl⟩) rfl (by decide) ?_
              refine TL_freeze_osl ?_
              refine TL_name 50 (v' := .slice (some ⟨b50, 0, none⟩) [bp].length 1) rfl rfl ?_
              refine TF_end GivesTo.g ?_
              refine TF_anchor rfl ?_
              refine TL_y rfl rfl (Y_load rfl rfl) ?_
              refine TF_end GivesTo.g ?_
              refine TF_anchor rfl ?_
              refine TL_y rfl rfl (Y_load rfl rfl) ?_
              refine TF_end GivesTo.g ?_
              refine TF_anchor rfl ?_
              refine TL_append rfl rfl rfl rfl rfl slk (by simp only [bs1, List.length_map, List.length_cons, List.length_nil]; omega) ?_
              intro A51 c51
              refine TF_end GivesTo.g ?_
              refine TF_anchor rfl ?_
              refine TL_append rfl rfl rfl rfl rfl slk (by simp only [bs1, List.length_map, List.length_cons, List.length_nil]; omega) ?_
              intro A58 c58
              refine TF_end GivesTo.g ?_
              refine TF_y rfl rfl (Y_nil_check rfl) ?_
              refine TF_y rfl rfl (Y_field_addr rfl) ?_
              refine TF_anchor rfl ?_
              refine TL_store rfl rfl rfl rfl rfl rfl ?_
              refine TF_end GivesTo.g ?_
              refine TF_y rfl rfl (Y_nil_check rfl) ?_
              refine TF_y rfl rfl (Y_field_addr rfl) ?_
              refine TF_anchor rfl ?_
              refine TL_store rfl rfl rfl rfl rfl rfl ?_
              refine TF_end GivesTo.g ?_
              refine TF_nil ?_
              refine inB_normal ?_
              refine thenS_normal ?_
              refine T_region_last ?_
              refine TL_y rfl rfl (Y_move rfl) ?_
              refine TL_y rfl rfl (Y_add rfl rfl (by omega)) ?_
              refine TL_name 17 (v' := .int .i64 ((i + 1 : Nat) : Int)) rfl (rfl) ?_
              refine TL_y rfl rfl (Y_assign rfl) ?_
              refine TL_nil ?_
              refine thenS_normal ?_
              rw [show bs1 PB ++ [bp] = bs1 (PB ++ [(bp, ppNew (i : Int) (n : Int))]) by simp [bs1], show bs1 AB ++ [bq] = bs1 (AB ++ [(bq, acNew (i : Int))]) by simp [bs1]]
              exact ⟨⟨i + 1, PB ++ [(bp, ppNew (i : Int) (n : Int))], AB ++ [(bq, acNew (i : Int))], A51, c51, A58, c58⟩, ⟨by simp only; omega, by simp only [List.map_append, hP, List.range_succ, List.map_cons, List.map_nil], by simp only [List.map_append, hA, List.range_succ, List.map_cons, List.map_nil]⟩, (by simp only; omega), holds_to (sub_cons rfl (sub_cons rfl (sub_cons rfl (sub_nil)))) (Gives.trans (prSnoc PB bp (ppNew (i : Int) (n : Int))) (Gives.trans (acSnoc AB bq (acNew (i : Int))) GivesTo.g))⟩
      · refine RD_pair 5 14 (by decide) ?_ ?_
        · refine RD_pair 7 12 (by decide) ?_ ?_
          · refine RD_pair 8 14 (by decide) ?_ ?_
            · refine RD_leaf (sl (intR .i64) none 0 [] :: []) [0, 0, 0, 4, 12, 7900, 0, 64, 7932, 0, 512, 1536, 3776, 0, 16380, 32764, 65533, 131069, 262141, 524287, 1048575, 2097151] [] [(0, true), (1, true), (2, true), (3, true), (4, true), (6, true), (9, true), (10, true), (11, true), (13, true), (7, false), (12, false), (5, false), (8, false), (14, false), (15, false), (16, true), (17, true), (18, false), (19, true), (20, true), (21, false)] (by decide +kernel) GivesTo.g ?_
              refine TF_y rfl rfl (Y_move rfl) ?_
              refine TF_y rfl rfl (Y_move rfl) ?_
              refine TF_y rfl rfl (Y_move rfl) ?_
              refine TF_y rfl rfl (Y_nil_check rfl) ?_
              refine TF_y rfl rfl (Y_field_addr rfl) ?_
              refine TF_y rfl rfl (Y_move rfl) ?_
              refine TF_y rfl rfl (Y_move rfl) ?_
              refine TF_y rfl rfl (Y_nil_check rfl) ?_
              refine TF_y rfl rfl (Y_field_addr rfl) ?_
              refine TF_y rfl rfl (Y_move rfl) ?_
              refine TF_anchor rfl ?_
              refine TL_build_slice rfl rfl rfl rfl rfl rfl ?_
              intro b50
              refine TL_osl (k := 1) ptrR [bp] (Knows.const fun M => ⟨[.pointer (some ⟨bp, 0, none⟩)], [], rfl, rfl, rfl⟩) rfl (by decide) ?_
              refine TL_freeze_osl ?_
              refine TL_name 50 (v' := .slice (some ⟨b50, 0, none⟩) [bp].length 1) rfl rfl ?_
              refine TF_end GivesTo.g ?_
              refine TF_anchor rfl ?_
              refine TL_y rfl rfl (Y_load rfl rfl) ?_
              refine TF_end GivesTo.g ?_
              refine TF_anchor rfl ?_
              refine TL_y rfl rfl (Y_load rfl rfl) ?_
              refine TF_end GivesTo.g ?_
              refine TF_anchor rfl ?_
              refine TL_append rfl rfl rfl rfl rfl slk (by simp only [bs1, List.length_map, List.length_cons, List.length_nil]; omega) ?_
              intro A51 c51
              refine TF_end GivesTo.g ?_
              refine TF_anchor rfl ?_
              refine TL_build_slice rfl rfl rfl rfl rfl rfl ?_
              intro b57
              refine TL_osl (k := 1) ptrR [bq] (Knows.const fun M => ⟨[.pointer (some ⟨bq, 0, none⟩)], [], rfl, rfl, rfl⟩) rfl (by decide) ?_
              refine TL_freeze_osl ?_
              refine TL_name 57 (v' := .slice (some ⟨b57, 0, none⟩) [bq].length 1) rfl rfl ?_
              refine TF_end GivesTo.g ?_
              refine TF_anchor rfl ?_
              refine TL_append rfl rfl rfl rfl rfl slk (by simp only [bs1, List.length_map, List.length_cons, List.length_nil]; omega) ?_
              intro A58 c58
              refine TF_end GivesTo.g ?_
              refine TF_y rfl rfl (Y_nil_check rfl) ?_
              refine TF_y rfl rfl (Y_field_addr rfl) ?_
              refine TF_anchor rfl ?_
              refine TL_store rfl rfl rfl rfl rfl rfl ?_
              refine TF_end GivesTo.g ?_
              refine TF_y rfl rfl (Y_nil_check rfl) ?_
              refine TF_y rfl rfl (Y_field_addr rfl) ?_
              refine TF_anchor rfl ?_
              refine TL_store rfl rfl rfl rfl rfl rfl ?_
              refine TF_end GivesTo.g ?_
              refine TF_nil ?_
              refine inB_normal ?_
              refine thenS_normal ?_
              refine T_region_last ?_
              refine TL_y rfl rfl (Y_move rfl) ?_
              refine TL_y rfl rfl (Y_add rfl rfl (by omega)) ?_
              refine TL_name 17 (v' := .int .i64 ((i + 1 : Nat) : Int)) rfl (rfl) ?_
              refine TL_y rfl rfl (Y_assign rfl) ?_
              refine TL_nil ?_
              refine thenS_normal ?_
              rw [show bs1 PB ++ [bp] = bs1 (PB ++ [(bp, ppNew (i : Int) (n : Int))]) by simp [bs1], show bs1 AB ++ [bq] = bs1 (AB ++ [(bq, acNew (i : Int))]) by simp [bs1]]
              exact ⟨⟨i + 1, PB ++ [(bp, ppNew (i : Int) (n : Int))], AB ++ [(bq, acNew (i : Int))], A51, c51, A58, c58⟩, ⟨by simp only; omega, by simp only [List.map_append, hP, List.range_succ, List.map_cons, List.map_nil], by simp only [List.map_append, hA, List.range_succ, List.map_cons, List.map_nil]⟩, (by simp only; omega), holds_to (sub_cons rfl (sub_cons rfl (sub_cons rfl (sub_nil)))) (Gives.trans (prSnoc PB bp (ppNew (i : Int) (n : Int))) (Gives.trans (acSnoc AB bq (acNew (i : Int))) GivesTo.g))⟩
            · refine RD_leaf (sl (intR .i64) none 0 [] :: []) [0, 0, 0, 4, 12, 7900, 0, 64, 32508, 0, 512, 1536, 3776, 0, 16124, 32764, 65533, 131069, 262141, 524287, 1048575, 2097151] [] [(0, true), (1, true), (2, true), (3, true), (4, true), (6, true), (9, true), (10, true), (11, true), (13, true), (7, false), (12, false), (5, false), (14, false), (8, false), (15, false), (16, true), (17, true), (18, false), (19, true), (20, true), (21, false)] (by decide +kernel) GivesTo.g ?_
              refine TF_y rfl rfl (Y_move rfl) ?_
              refine TF_y rfl rfl (Y_move rfl) ?_
              refine TF_y rfl rfl (Y_move rfl) ?_
              refine TF_y rfl rfl (Y_nil_check rfl) ?_
              refine TF_y rfl rfl (Y_field_addr rfl) ?_
              refine TF_y rfl rfl (Y_move rfl) ?_
              refine TF_y rfl rfl (Y_move rfl) ?_
              refine TF_y rfl rfl (Y_nil_check rfl) ?_
              refine TF_y rfl rfl (Y_field_addr rfl) ?_
              refine TF_y rfl rfl (Y_move rfl) ?_
              refine TF_anchor rfl ?_
              refine TL_build_slice rfl rfl rfl rfl rfl rfl ?_
              intro b50
              refine TL_osl (k := 1) ptrR [bp] (Knows.const fun M => ⟨[.pointer (some ⟨bp, 0, none⟩)], [], rfl, rfl, rfl⟩) rfl (by decide) ?_
              refine TL_freeze_osl ?_
              refine TL_name 50 (v' := .slice (some ⟨b50, 0, none⟩) [bp].length 1) rfl rfl ?_
              refine TF_end GivesTo.g ?_
              refine TF_anchor rfl ?_
              refine TL_y rfl rfl (Y_load rfl rfl) ?_
              refine TF_end GivesTo.g ?_
              refine TF_anchor rfl ?_
              refine TL_y rfl rfl (Y_load rfl rfl) ?_
              refine TF_end GivesTo.g ?_
              refine TF_anchor rfl ?_
              refine TL_build_slice rfl rfl rfl rfl rfl rfl ?_
              intro b57
              refine TL_osl (k := 1) ptrR [bq] (Knows.const fun M => ⟨[.pointer (some ⟨bq, 0, none⟩)], [], rfl, rfl, rfl⟩) rfl (by decide) ?_
              refine TL_freeze_osl ?_
              refine TL_name 57 (v' := .slice (some ⟨b57, 0, none⟩) [bq].length 1) rfl rfl ?_
              refine TF_end GivesTo.g ?_
              refine TF_anchor rfl ?_
              refine TL_append rfl rfl rfl rfl rfl slk (by simp only [bs1, List.length_map, List.length_cons, List.length_nil]; omega) ?_
              intro A51 c51
              refine TF_end GivesTo.g ?_
              refine TF_anchor rfl ?_
              refine TL_append rfl rfl rfl rfl rfl slk (by simp only [bs1, List.length_map, List.length_cons, List.length_nil]; omega) ?_
              intro A58 c58
              refine TF_end GivesTo.g ?_
              refine TF_y rfl rfl (Y_nil_check rfl) ?_
              refine TF_y rfl rfl (Y_field_addr rfl) ?_
              refine TF_anchor rfl ?_
              refine TL_store rfl rfl rfl rfl rfl rfl ?_
              refine TF_end GivesTo.g ?_
              refine TF_y rfl rfl (Y_nil_check rfl) ?_
              refine TF_y rfl rfl (Y_field_addr rfl) ?_
              refine TF_anchor rfl ?_
              refine TL_store rfl rfl rfl rfl rfl rfl ?_
              refine TF_end GivesTo.g ?_
              refine TF_nil ?_
              refine inB_normal ?_
              refine thenS_normal ?_
              refine T_region_last ?_
              refine TL_y rfl rfl (Y_move rfl) ?_
              refine TL_y rfl rfl (Y_add rfl rfl (by omega)) ?_
              refine TL_name 17 (v' := .int .i64 ((i + 1 : Nat) : Int)) rfl (rfl) ?_
              refine TL_y rfl rfl (Y_assign rfl) ?_
              refine TL_nil ?_
              refine thenS_normal ?_
              rw [show bs1 PB ++ [bp] = bs1 (PB ++ [(bp, ppNew (i : Int) (n : Int))]) by simp [bs1], show bs1 AB ++ [bq] = bs1 (AB ++ [(bq, acNew (i : Int))]) by simp [bs1]]
              exact ⟨⟨i + 1, PB ++ [(bp, ppNew (i : Int) (n : Int))], AB ++ [(bq, acNew (i : Int))], A51, c51, A58, c58⟩, ⟨by simp only; omega, by simp only [List.map_append, hP, List.range_succ, List.map_cons, List.map_nil], by simp only [List.map_append, hA, List.range_succ, List.map_cons, List.map_nil]⟩, (by simp only; omega), holds_to (sub_cons rfl (sub_cons rfl (sub_cons rfl (sub_nil)))) (Gives.trans (prSnoc PB bp (ppNew (i : Int) (n : Int))) (Gives.trans (acSnoc AB bq (acNew (i : Int))) GivesTo.g))⟩
          · refine RD_pair 8 14 (by decide) ?_ ?_
            · refine RD_leaf (sl (intR .i64) none 0 [] :: []) [0, 0, 0, 4, 12, 7900, 0, 7744, 7932, 0, 512, 1536, 3584, 0, 16380, 32764, 65533, 131069, 262141, 524287, 1048575, 2097151] [] [(0, true), (1, true), (2, true), (3, true), (4, true), (6, true), (9, true), (10, true), (11, true), (13, true), (12, false), (7, false), (5, false), (8, false), (14, false), (15, false), (16, true), (17, true), (18, false), (19, true), (20, true), (21, false)] (by decide +kernel) GivesTo.g ?_
              refine TF_y rfl rfl (Y_move rfl) ?_
              refine TF_y rfl rfl (Y_move rfl) ?_
              refine TF_y rfl rfl (Y_move rfl) ?_
              refine TF_y rfl rfl (Y_nil_check rfl) ?_
              refine TF_y rfl rfl (Y_field_addr rfl) ?_
              refine TF_y rfl rfl (Y_move rfl) ?_
              refine TF_y rfl rfl (Y_move rfl) ?_
              refine TF_y rfl rfl (Y_nil_check rfl) ?_
              refine TF_y rfl rfl (Y_field_addr rfl) ?_
              refine TF_y rfl rfl (Y_move rfl) ?_
              refine TF_anchor rfl ?_
              refine TL_y rfl rfl (Y_load rfl rfl) ?_
              refine TF_end GivesTo.g ?_
              refine TF_anchor rfl ?_
              refine TL_build_slice rfl rfl rfl rfl rfl rfl ?_
              intro b50
              refine TL_osl (k := 1) ptrR [bp] (Knows.const fun M => ⟨[.pointer (some ⟨bp, 0, none⟩)], [], rfl, rfl, rfl⟩) rfl (by decide) ?_
              refine TL_freeze_osl ?_
              refine TL_name 50 (v' := .slice (some ⟨b50, 0, none⟩) [bp].length 1) rfl rfl ?_
              refine TF_end GivesTo.g ?_
              refine TF_anchor rfl ?_
              refine TL_y rfl rfl (Y_load rfl rfl) ?_
              refine TF_end GivesTo.g ?_
              refine TF_anchor rfl ?_
              refine TL_append rfl rfl rfl rfl rfl slk (by simp only [bs1, List.length_map, List.length_cons, List.length_nil]; omega) ?_
              intro A51 c51
              refine TF_end GivesTo.g ?_
              refine TF_anchor rfl ?_
              refine TL_build_slice rfl rfl rfl rfl rfl rfl ?_
              intro b57
              refine TL_osl (k := 1) ptrR [bq] (Knows.const fun M => ⟨[.pointer (some ⟨bq, 0, none⟩)], [], rfl, rfl, rfl⟩) rfl (by decide) ?_
              refine TL_freeze_osl ?_
              refine TL_name 57 (v' := .slice (some ⟨b57, 0, none⟩) [bq].length 1) rfl rfl ?_
              refine TF_end GivesTo.g ?_
              refine TF_anchor rfl ?_
              refine TL_append rfl rfl rfl rfl rfl slk (by simp only [bs1, List.length_map, List.length_cons, List.length_nil]; omega) ?_
              intro A58 c58
              refine TF_end GivesTo.g ?_
              refine TF_y rfl rfl (Y_nil_check rfl) ?_
              refine TF_y rfl rfl (Y_field_addr rfl) ?_
              refine TF_anchor rfl ?_
              refine TL_store rfl rfl rfl rfl rfl rfl ?_
              refine TF_end GivesTo.g ?_
              refine TF_y rfl rfl (Y_nil_check rfl) ?_
              refine TF_y rfl rfl (Y_field_addr rfl) ?_
              refine TF_anchor rfl ?_
              refine TL_store rfl rfl rfl rfl rfl rfl ?_
              refine TF_end GivesTo.g ?_
              refine TF_nil ?_
              refine inB_normal ?_
              refine thenS_normal ?_
              refine T_region_last ?_
              refine TL_y rfl rfl (Y_move rfl) ?_
              refine TL_y rfl rfl (Y_add rfl rfl (by omega)) ?_
              refine TL_name 17 (v' := .int .i64 ((i + 1 : Nat) : Int)) rfl (rfl) ?_
              refine TL_y rfl rfl (Y_assign rfl) ?_
              refine TL_nil ?_
              refine thenS_normal ?_
              rw [show bs1 PB ++ [bp] = bs1 (PB ++ [(bp, ppNew (i : Int) (n : Int))]) by simp [bs1], show bs1 AB ++ [bq] = bs1 (AB ++ [(bq, acNew (i : Int))]) by simp [bs1]]
              exact ⟨⟨i + 1, PB ++ [(bp, ppNew (i : Int) (n : Int))], AB ++ [(bq, acNew (i : Int))], A51, c51, A58, c58⟩, ⟨by simp only; omega, by simp only [List.map_append, hP, List.range_succ, List.map_cons, List.map_nil], by simp only [List.map_append, hA, List.range_succ, List.map_cons, List.map_nil]⟩, (by simp only; omega), holds_to (sub_cons rfl (sub_cons rfl (sub_cons rfl (sub_nil)))) (Gives.trans (prSnoc PB bp (ppNew (i : Int) (n : Int))) (Gives.trans (acSnoc AB bq (acNew (i : Int))) GivesTo.g))⟩
            · refine RD_leaf (sl (intR .i64) none 0 [] :: []) [0, 0, 0, 4, 12, 7900, 0, 7744, 32508, 0, 512, 1536, 3584, 0, 16124, 32764, 65533, 131069, 262141, 524287, 1048575, 2097151] [] [(0, true), (1, true), (2, true), (3, true), (4, true), (6, true), (9, true), (10, true), (11, true), (13, true), (12, false), (7, false), (5, false), (14, false), (8, false), (15, false), (16, true), (17, true), (18, false), (19, true), (20, true), (21, false)] (by decide +kernel) GivesTo.g ?_
              refine TF_y rfl rfl (Y_move rfl) ?_
              refine TF_y rfl rfl (Y_move rfl) ?_
              refine TF_y rfl rfl (Y_move rfl) ?_
              refine TF_y rfl rfl (Y_nil_check rfl) ?_
              refine TF_y rfl rfl (Y_field_addr rfl) ?_
              refine TF_y rfl rfl (Y_move rfl) ?_
              refine TF_y rfl rfl (Y_move rfl) ?_
              refine TF_y rfl rfl (Y_nil_check rfl) ?_
              refine TF_y rfl rfl (Y_field_addr rfl) ?_
              refine TF_y rfl rfl (Y_move rfl) ?_
              refine TF_anchor rfl ?_
              refine TL_y rfl rfl (Y_load rfl rfl) ?_
              refine TF_end GivesTo.g ?_
              refine TF_anchor rfl ?_
              refine TL_build_slice rfl rfl rfl rfl rfl rfl ?_
              intro b50
              refine TL_osl (k := 1) ptrR [bp] (Knows.const fun M => ⟨[.pointer (some ⟨bp, 0, none⟩)], [], rfl, rfl, rfl⟩) rfl (by decide) ?_
              refine TL_freeze_osl ?_
              refine TL_name 50 (v' := .slice (some ⟨b50, 0, none⟩) [bp].length 1) rfl rfl ?_
              refine TF_end GivesTo.g ?_
              refine TF_anchor rfl ?_
              refine TL_y rfl rfl (Y_load rfl rfl) ?_
              refine TF_end GivesTo.g ?_
              refine TF_anchor rfl ?_
              refine TL_build_slice rfl rfl rfl rfl rfl rfl ?_
              intro b57
              refine TL_osl (k := 1) ptrR [bq] (Knows.const fun M => ⟨[.pointer (some ⟨bq, 0, none⟩)], [], rfl, rfl, rfl⟩) rfl (by decide) ?_
              refine TL_freeze_osl ?_
              refine TL_name 57 (v' := .slice (some ⟨b57, 0, none⟩) [bq].length 1) rfl rfl ?_
              refine TF_end GivesTo.g ?_
              refine TF_anchor rfl ?_
              refine TL_append rfl rfl rfl rfl rfl slk (by simp only [bs1, List.length_map, List.length_cons, List.length_nil]; omega) ?_
              intro A51 c51
              refine TF_end GivesTo.g ?_
              refine TF_anchor rfl ?_
              refine TL_append rfl rfl rfl rfl rfl slk (by simp only [bs1, List.length_map, List.length_cons, List.length_nil]; omega) ?_
              intro A58 c58
              refine TF_end GivesTo.g ?_
              refine TF_y rfl rfl (Y_nil_check rfl) ?_
              refine TF_y rfl rfl (Y_field_addr rfl) ?_
              refine TF_anchor rfl ?_
              refine TL_store rfl rfl rfl rfl rfl rfl ?_
              refine TF_end GivesTo.g ?_
              refine TF_y rfl rfl (Y_nil_check rfl) ?_
              refine TF_y rfl rfl (Y_field_addr rfl) ?_
              refine TF_anchor rfl ?_
              refine TL_store rfl rfl rfl rfl rfl rfl ?_
              refine TF_end GivesTo.g ?_
              refine TF_nil ?_
              refine inB_normal ?_
              refine thenS_normal ?_
              refine T_region_last ?_
              refine TL_y rfl rfl (Y_move rfl) ?_
              refine TL_y rfl rfl (Y_add rfl rfl (by omega)) ?_
              refine TL_name 17 (v' := .int .i64 ((i + 1 : Nat) : Int)) rfl (rfl) ?_
              refine TL_y rfl rfl (Y_assign rfl) ?_
              refine TL_nil ?_
              refine thenS_normal ?_
              rw [show bs1 PB ++ [bp] = bs1 (PB ++ [(bp, ppNew (i : Int) (n : Int))]) by simp [bs1], show bs1 AB ++ [bq] = bs1 (AB ++ [(bq, acNew (i : Int))]) by simp [bs1]]
              exact ⟨⟨i + 1, PB ++ [(bp, ppNew (i : Int) (n : Int))], AB ++ [(bq, acNew (i : Int))], A51, c51, A58, c58⟩, ⟨by simp only; omega, by simp only [List.map_append, hP, List.range_succ, List.map_cons, List.map_nil], by simp only [List.map_append, hA, List.range_succ, List.map_cons, List.map_nil]⟩, (by simp only; omega), holds_to (sub_cons rfl (sub_cons rfl (sub_cons rfl (sub_nil)))) (Gives.trans (prSnoc PB bp (ppNew (i : Int) (n : Int))) (Gives.trans (acSnoc AB bq (acNew (i : Int))) GivesTo.g))⟩
        · refine RD_pair 7 12 (by decide) ?_ ?_
          · refine RD_pair 7 14 (by decide) ?_ ?_
            · refine RD_pair 12 14 (by decide) ?_ ?_
              · refine RD_leaf (sl (intR .i64) none 0 [] :: []) [0, 0, 0, 4, 12, 32476, 0, 64, 32508, 0, 512, 1536, 3776, 0, 16064, 32764, 65533, 131069, 262141, 524287, 1048575, 2097151] [] [(0, true), (1, true), (2, true), (3, true), (4, true), (6, true), (9, true), (10, true), (11, true), (13, true), (7, false), (12, false), (14, false), (5, false), (8, false), (15, false), (16, true), (17, true), (18, false), (19, true), (20, true), (21, false)] (by decide +kernel) GivesTo.g ?_
                refine TF_y rfl rfl (Y_move rfl) ?_
                refine TF_y rfl rfl (Y_move rfl) ?_
                refine TF_y rfl rfl (Y_move rfl) ?_
                refine TF_y rfl rfl (Y_nil_check rfl) ?_
                refine TF_y rfl rfl (Y_field_addr rfl) ?_
                refine TF_y rfl rfl (Y_move rfl) ?_
                refine TF_y rfl rfl (Y_move rfl) ?_
                refine TF_y rfl rfl (Y_nil_check rfl) ?_
                refine TF_y rfl rfl (Y_field_addr rfl) ?_
                refine TF_y rfl rfl (Y_move rfl) ?_
                refine TF_anchor rfl ?_
                refine TL_build_slice rfl rfl rfl rfl rfl rfl ?_
                intro b50
                refine TL_osl (k := 1) ptrR [bp] (Knows.const fun M => ⟨[.pointer (some ⟨bp, 0, none⟩)], [], rfl, rfl, rfl⟩) rfl (by decide) ?_
                refine TL_freeze_osl ?_
                refine TL_name 50 (v' := .slice (some ⟨b50, 0, none⟩) [bp].length 1) rfl rfl ?_
                refine TF_end GivesTo.g ?_
                refine TF_anchor rfl ?_
                refine TL_y rfl rfl (Y_load rfl rfl) ?_
                refine TF_end GivesTo.g ?_
                refine TF_anchor rfl ?_
                refine TL_build_slice rfl rfl rfl rfl rfl rfl ?_
                intro b57
                refine TL_osl (k := 1) ptrR [bq] (Knows.const fun M => ⟨[.pointer (some ⟨bq, 0, none⟩)], [], rfl, rfl, rfl⟩) rfl (by decide) ?_
                refine TL_freeze_osl ?_
                refine TL_name 57 (v' := .slice (some ⟨b57, 0, none⟩) [bq].length 1) rfl rfl ?_
                refine TF_end GivesTo.g ?_
                refine TF_anchor rfl ?_
                refine TL_y rfl rfl (Y_load rfl rfl) ?_
                refine TF_end GivesTo.g ?_
                refine TF_anchor rfl ?_
                refine TL_append rfl rfl rfl rfl rfl slk (by simp only [bs1, List.length_map, List.length_cons, List.length_nil]; omega) ?_
                intro A51 c51
                refine TF_end GivesTo.g ?_
                refine TF_anchor rfl ?_
                refine TL_append rfl rfl rfl rfl rfl slk (by simp only [bs1, List.length_map, List.length_cons, List.length_nil]; omega) ?_
                intro A58 c58
                refine TF_end GivesTo.g ?_
                refine TF_y rfl rfl (Y_nil_check rfl) ?_
                refine TF_y rfl rfl (Y_field_addr rfl) ?_
                refine TF_anchor rfl ?_
                refine TL_store rfl rfl rfl rfl rfl rfl ?_
                refine TF_end GivesTo.g ?_
                refine TF_y rfl rfl (Y_nil_check rfl) ?_
                refine TF_y rfl rfl (Y_field_addr rfl) ?_
                refine TF_anchor rfl ?_
                refine TL_store rfl rfl rfl rfl rfl rfl ?_
                refine TF_end GivesTo.g ?_
                refine TF_nil ?_
                refine inB_normal ?_
                refine thenS_normal ?_
                refine T_region_last ?_
                refine TL_y rfl rfl (Y_move rfl) ?_
                refine TL_y rfl rfl (Y_add rfl rfl (by omega)) ?_
                refine TL_name 17 (v' := .int .i64 ((i + 1 : Nat) : Int)) rfl (rfl) ?_
                refine TL_y rfl rfl (Y_assign rfl) ?_
                refine TL_nil ?_
                refine thenS_normal ?_
                rw [show bs1 PB ++ [bp] = bs1 (PB ++ [(bp, ppNew (i : Int) (n : Int))]) by simp [bs1], show bs1 AB ++ [bq] = bs1 (AB ++ [(bq, acNew (i : Int))]) by simp [bs1]]
                exact ⟨⟨i + 1, PB ++ [(bp, ppNew (i : Int) (n : Int))], AB ++ [(bq, acNew (i : Int))], A51, c51, A58, c58⟩, ⟨by simp only; omega, by simp only [List.map_append, hP, List.range_succ, List.map_cons, List.map_nil], by simp only [List.map_append, hA, List.range_succ, List.map_cons, List.map_nil]⟩, (by simp only; omega), holds_to (sub_cons rfl (sub_cons rfl (sub_cons rfl (sub_nil)))) (Gives.trans (prSnoc PB bp (ppNew (i : Int) (n : Int))) (Gives.trans (acSnoc AB bq (acNew (i : Int))) GivesTo.g))⟩
              · refine RD_leaf (sl (intR .i64) none 0 [] :: []) [0, 0, 0, 4, 12, 32476, 0, 64, 32508, 0, 512, 1536, 28352, 0, 8384, 32764, 65533, 131069, 262141, 524287, 1048575, 2097151] [] [(0, true), (1, true), (2, true), (3, true), (4, true), (6, true), (9, true), (10, true), (11, true), (13, true), (7, false), (14, false), (12, false), (5, false), (8, false), (15, false), (16, true), (17, true), (18, false), (19, true), (20, true), (21, false)] (by decide +kernel) GivesTo.g ?_
                refine TF_y rfl rfl (Y_move rfl) ?_
                refine TF_y rfl rfl (Y_move rfl) ?_
                refine TF_y rfl rfl (Y_move rfl) ?_
                refine TF_y rfl rfl (Y_nil_check rfl) ?_
                refine TF_y rfl rfl (Y_field_addr rfl) ?_
                refine TF_y rfl rfl (Y_move rfl) ?_
                refine TF_y rfl rfl (Y_move rfl) ?_
                refine TF_y rfl rfl (Y_nil_check rfl) ?_
                refine TF_y rfl rfl (Y_field_addr rfl) ?_
                refine TF_y rfl rfl (Y_move rfl) ?_
                refine TF_anchor rfl ?_
                refine TL_build_slice rfl rfl rfl rfl rfl rfl ?_
                intro b50
                refine TL_osl (k := 1) ptrR [bp] (Knows.const fun M => ⟨[.pointer (some ⟨bp, 0, none⟩)], [], rfl, rfl, rfl⟩) rfl (by decide) ?_
                refine TL_freeze_osl ?_
                refine TL_name 50 (v' := .slice (some ⟨b50, 0, none⟩) [bp].length 1) rfl rfl ?_
                refine TF_end GivesTo.g ?_
                refine TF_anchor rfl ?_
                refine TL_build_slice rfl rfl rfl rfl rfl rfl ?_
                intro b57
                refine TL_osl (k := 1) ptrR [bq] (Knows.const fun M => ⟨[.pointer (some ⟨bq, 0, none⟩)], [], rfl, rfl, rfl⟩) rfl (by decide) ?_
                refine TL_freeze_osl ?_
                refine TL_name 57 (v' := .slice (some ⟨b57, 0, none⟩) [bq].length 1) rfl rfl ?_
                refine TF_end GivesTo.g ?_
                refine TF_anchor rfl ?_
                refine TL_y rfl rfl (Y_load rfl rfl) ?_
                refine TF_end GivesTo.g ?_
                refine TF_anchor rfl ?_
                refine TL_y rfl rfl (Y_load rfl rfl) ?_
                refine TF_end GivesTo.g ?_
                refine TF_anchor rfl ?_
                refine TL_append rfl rfl rfl rfl rfl slk (by simp only [bs1, List.length_map, List.length_cons, List.length_nil]; omega) ?_
                intro A51 c51
                refine TF_end GivesTo.g ?_
                refine TF_anchor rfl ?_
                refine TL_append rfl rfl rfl rfl rfl slk (by simp only [bs1, List.length_map, List.length_cons, List.length_nil]; omega) ?_
                intro A58 c58
                refine TF_end GivesTo.g ?_
                refine TF_y rfl rfl (Y_nil_check rfl) ?_
                refine TF_y rfl rfl (Y_field_addr rfl) ?_
                refine TF_anchor rfl ?_
                refine TL_store rfl rfl rfl rfl rfl rfl ?_
                refine TF_end GivesTo.g ?_
                refine TF_y rfl rfl (Y_nil_check rfl) ?_
                refine TF_y rfl rfl (Y_field_addr rfl) ?_
                refine TF_anchor rfl ?_
                refine TL_store rfl rfl rfl rfl rfl rfl ?_
                refine TF_end GivesTo.g ?_
                refine TF_nil ?_
                refine inB_normal ?_
                refine thenS_normal ?_
                refine T_region_last ?_
                refine TL_y rfl rfl (Y_move rfl) ?_
                refine TL_y rfl rfl (Y_add rfl rfl (by omega)) ?_
                refine TL_name 17 (v' := .int .i64 ((i + 1 : Nat) : Int)) rfl (rfl) ?_
                refine TL_y rfl rfl (Y_assign rfl) ?_
                refine TL_nil ?_
                refine thenS_normal ?_
                rw [show bs1 PB ++ [bp] = bs1 (PB ++ [(bp, ppNew (i : Int) (n : Int))]) by simp [bs1], show bs1 AB ++ [bq] = bs1 (AB ++ [(bq, acNew (i : Int))]) by simp [bs1]]
                exact ⟨⟨i + 1, PB ++ [(bp, ppNew (i : Int) (n : Int))], AB ++ [(bq, acNew (i : Int))], A51, c51, A58, c58⟩, ⟨by simp only; omega, by simp only [List.map_append, hP, List.range_succ, List.map_cons, List.map_nil], by simp only [List.map_append, hA, List.range_succ, List.map_cons, List.map_nil]⟩, (by simp only; omega), holds_to (sub_cons rfl (sub_cons rfl (sub_cons rfl (sub_nil)))) (Gives.trans (prSnoc PB bp (ppNew (i : Int) (n : Int))) (Gives.trans (acSnoc AB bq (acNew (i : Int))) GivesTo.g))⟩
            · refine RD_leaf (sl (intR .i64) none 0 [] :: []) [0, 0, 0, 4, 12, 32476, 0, 24640, 32508, 0, 512, 1536, 28352, 0, 8192, 32764, 65533, 131069, 262141, 524287, 1048575, 2097151] [] [(0, true), (1, true), (2, true), (3, true), (4, true), (6, true), (9, true), (10, true), (11, true), (13, true), (14, false), (7, false), (12, false), (5, false), (8, false), (15, false), (16, true), (17, true), (18, false), (19, true), (20, true), (21, false)] (by decide +kernel) GivesTo.g ?_
              refine TF_y rfl rfl (Y_move rfl) ?_
              refine TF_y rfl rfl (Y_move rfl) ?_
              refine TF_y rfl rfl (Y_move rfl) ?_
              refine TF_y rfl rfl (Y_nil_check rfl) ?_
              refine TF_y rfl rfl (Y_field_addr rfl) ?_
              refine TF_y rfl rfl (Y_move rfl) ?_
              refine TF_y rfl rfl (Y_move rfl) ?_
              refine TF_y rfl rfl (Y_nil_check rfl) ?_
              refine TF_y rfl rfl (Y_field_addr rfl) ?_
              refine TF_y rfl rfl (Y_move rfl) ?_
              refine TF_anchor rfl ?_
              refine TL_build_slice rfl rfl rfl rfl rfl rfl ?_
              intro b57
              refine TL_osl (k := 1) ptrR [bq] (Knows.const fun M => ⟨[.pointer (some ⟨bq, 0, none⟩)], [], rfl, rfl, rfl⟩) rfl (by decide) ?_
              refine TL_freeze_osl ?_
              refine TL_name 57 (v' := .slice (some ⟨b57, 0, none⟩) [bq].length 1) rfl rfl ?_
              refine TF_end GivesTo.g ?_
              refine TF_anchor rfl ?_
              refine TL_build_slice rfl rfl rfl rfl rfl rfl ?_
              intro b50
              refine TL_osl (k := 1) ptrR [bp] (Knows.const fun M => ⟨[.pointer (some ⟨bp, 0, none⟩)], [], rfl, rfl, rfl⟩) rfl (by decide) ?_
              refine TL_freeze_osl ?_
              refine TL_name 50 (v' := .slice (some ⟨b50, 0, none⟩) [bp].length 1) rfl rfl ?_
              refine TF_end GivesTo.g ?_
              refine TF_anchor rfl ?_
              refine TL_y rfl rfl (Y_load rfl rfl) ?_
              refine TF_end GivesTo.g ?_
              refine TF_anchor rfl ?_
              refine TL_y rfl rfl (Y_load rfl rfl) ?_
              refine TF_end GivesTo.g ?_
              refine TF_anchor rfl ?_
              refine TL_append rfl rfl rfl rfl rfl slk (by simp only [bs1, List.length_map, List.length_cons, List.length_nil]; omega) ?_
              intro A51 c51
              refine TF_end GivesTo.g ?_
              refine TF_anchor rfl ?_
              refine TL_append rfl rfl rfl rfl rfl slk (by simp only [bs1, List.length_map, List.length_cons, List.length_nil]; omega) ?_
              intro A58 c58
              refine TF_end GivesTo.g ?_
              refine TF_y rfl rfl (Y_nil_check rfl) ?_
              refine TF_y rfl rfl (Y_field_addr rfl) ?_
              refine TF_anchor rfl ?_
              refine TL_store rfl rfl rfl rfl rfl rfl ?_
              refine TF_end GivesTo.g ?_
              refine TF_y rfl rfl (Y_nil_check rfl) ?_
              refine TF_y rfl rfl (Y_field_addr rfl) ?_
              refine TF_anchor rfl ?_
              refine TL_store rfl rfl rfl rfl rfl rfl ?_
              refine TF_end GivesTo.g ?_
              refine TF_nil ?_
              refine inB_normal ?_
              refine thenS_normal ?_
              refine T_region_last ?_
              refine TL_y rfl rfl (Y_move rfl) ?_
              refine TL_y rfl rfl (Y_add rfl rfl (by omega)) ?_
              refine TL_name 17 (v' := .int .i64 ((i + 1 : Nat) : Int)) rfl (rfl) ?_
              refine TL_y rfl rfl (Y_assign rfl) ?_
              refine TL_nil ?_
              refine thenS_normal ?_
              rw [show bs1 PB ++ [bp] = bs1 (PB ++ [(bp, ppNew (i : Int) (n : Int))]) by simp [bs1], show bs1 AB ++ [bq] = bs1 (AB ++ [(bq, acNew (i : Int))]) by simp [bs1]]
              exact ⟨⟨i + 1, PB ++ [(bp, ppNew (i : Int) (n : Int))], AB ++ [(bq, acNew (i : Int))], A51, c51, A58, c58⟩, ⟨by simp only; omega, by simp only [List.map_append, hP, List.range_succ, List.map_cons, List.map_nil], by simp only [List.map_append, hA, List.range_succ, List.map_cons, List.map_nil]⟩, (by simp only; omega), holds_to (sub_cons rfl (sub_cons rfl (sub_cons rfl (sub_nil)))) (Gives.trans (prSnoc PB bp (ppNew (i : Int) (n : Int))) (Gives.trans (acSnoc AB bq (acNew (i : Int))) GivesTo.g))⟩
          · refine RD_pair 7 14 (by decide) ?_ ?_
            · refine RD_leaf (sl (intR .i64) none 0 [] :: []) [0, 0, 0, 4, 12, 32476, 0, 7744, 32508, 0, 512, 1536, 3584, 0, 16064, 32764, 65533, 131069, 262141, 524287, 1048575, 2097151] [] [(0, true), (1, true), (2, true), (3, true), (4, true), (6, true), (9, true), (10, true), (11, true), (13, true), (12, false), (7, false), (14, false), (5, false), (8, false), (15, false), (16, true), (17, true), (18, false), (19, true), (20, true), (21, false)] (by decide +kernel) GivesTo.g ?_
              refine TF_y rfl rfl (Y_move rfl) ?_
              refine TF_y rfl rfl (Y_move rfl) ?_
              refine TF_y rfl rfl (Y_move rfl) ?_
              refine TF_y rfl rfl (Y_nil_check rfl) ?_
              refine TF_y rfl rfl (Y_field_addr rfl) ?_
              refine TF_y rfl rfl (Y_move rfl) ?_
              refine TF_y rfl rfl (Y_move rfl) ?_
              refine TF_y rfl rfl (Y_nil_check rfl) ?_
              refine TF_y rfl rfl (Y_field_addr rfl) ?_
              refine TF_y rfl rfl (Y_move rfl) ?_
              refine TF_anchor rfl ?_
              refine TL_y rfl rfl (Y_load rfl rfl) ?_
              refine TF_end GivesTo.g ?_
              refine TF_anchor rfl ?_
              refine TL_build_slice rfl rfl rfl rfl rfl rfl ?_
              intro b50
              refine TL_osl (k := 1) ptrR [bp] (Knows.const fun M => ⟨[.pointer (some ⟨bp, 0, none⟩)], [], rfl, rfl, rfl⟩) rfl (by decide) ?_
              refine TL_freeze_osl ?_
              refine TL_name 50 (v' := .slice (some ⟨b50, 0, none⟩) [bp].length 1) rfl rfl ?_
              refine TF_end GivesTo.g ?_
              refine TF_anchor rfl ?_
              refine TL_build_slice rfl rfl rfl rfl rfl rfl ?_
              intro b57
              refine TL_osl (k := 1) ptrR [bq] (Knows.const fun M => ⟨[.pointer (some ⟨bq, 0, none⟩)], [], rfl, rfl, rfl⟩) rfl (by decide) ?_
              refine TL_freeze_osl ?_
              refine TL_name 57 (v' := .slice (some ⟨b57, 0, none⟩) [bq].length 1) rfl rfl ?_
              refine TF_end GivesTo.g ?_
              refine TF_anchor rfl ?_
              refine TL_y rfl rfl (Y_load rfl rfl) ?_
              refine TF_end GivesTo.g ?_
              refine TF_anchor rfl ?_
              refine TL_append rfl rfl rfl rfl rfl slk (by simp only [bs1, List.length_map, List.length_cons, List.length_nil]; omega) ?_
              intro A51 c51
              refine TF_end GivesTo.g ?_
              refine TF_anchor rfl ?_
              refine TL_append rfl rfl rfl rfl rfl slk (by simp only [bs1, List.length_map, List.length_cons, List.length_nil]; omega) ?_
              intro A58 c58
              refine TF_end GivesTo.g ?_
              refine TF_y rfl rfl (Y_nil_check rfl) ?_
              refine TF_y rfl rfl (Y_field_addr rfl) ?_
              refine TF_anchor rfl ?_
              refine TL_store rfl rfl rfl rfl rfl rfl ?_
              refine TF_end GivesTo.g ?_
              refine TF_y rfl rfl (Y_nil_check rfl) ?_
              refine TF_y rfl rfl (Y_field_addr rfl) ?_
              refine TF_anchor rfl ?_
              refine TL_store rfl rfl rfl rfl rfl rfl ?_
              refine TF_end GivesTo.g ?_
              refine TF_nil ?_
              refine inB_normal ?_
              refine thenS_normal ?_
              refine T_region_last ?_
              refine TL_y rfl rfl (Y_move rfl) ?_
              refine TL_y rfl rfl (Y_add rfl rfl (by omega)) ?_
              refine TL_name 17 (v' := .int .i64 ((i + 1 : Nat) : Int)) rfl (rfl) ?_
              refine TL_y rfl rfl (Y_assign rfl) ?_
              refine TL_nil ?_
              refine thenS_normal ?_
              rw [show bs1 PB ++ [bp] = bs1 (PB ++ [(bp, ppNew (i : Int) (n : Int))]) by simp [bs1], show bs1 AB ++ [bq] = bs1 (AB ++ [(bq, acNew (i : Int))]) by simp [bs1]]
              exact ⟨⟨i + 1, PB ++ [(bp, ppNew (i : Int) (n : Int))], AB ++ [(bq, acNew (i : Int))], A51, c51, A58, c58⟩, ⟨by simp only; omega, by simp only [List.map_append, hP, List.range_succ, List.map_cons, List.map_nil], by simp only [List.map_append, hA, List.range_succ, List.map_cons, List.map_nil]⟩, (by simp only; omega), holds_to (sub_cons rfl (sub_cons rfl (sub_cons rfl (sub_nil)))) (Gives.trans (prSnoc PB bp (ppNew (i : Int) (n : Int))) (Gives.trans (acSnoc AB bq (acNew (i : Int))) GivesTo.g))⟩
            · refine RD_pair 12 14 (by decide) ?_ ?_
              · refine RD_leaf (sl (intR .i64) none 0 [] :: []) [0, 0, 0, 4, 12, 32476, 0, 32320, 32508, 0, 512, 1536, 3584, 0, 15872, 32764, 65533, 131069, 262141, 524287, 1048575, 2097151] [] [(0, true), (1, true), (2, true), (3, true), (4, true), (6, true), (9, true), (10, true), (11, true), (13, true), (12, false), (14, false), (7, false), (5, false), (8, false), (15, false), (16, true), (17, true), (18, false), (19, true), (20, true), (21, false)] (by decide +kernel) GivesTo.g ?_
                refine TF_y rfl rfl (Y_move rfl) ?_
                refine TF_y rfl rfl (Y_move rfl) ?_
                refine TF_y rfl rfl (Y_move rfl) ?_
                refine TF_y rfl rfl (Y_nil_check rfl) ?_
                refine TF_y rfl rfl (Y_field_addr rfl) ?_
                refine TF_y rfl rfl (Y_move rfl) ?_
                refine TF_y rfl rfl (Y_move rfl) ?_
                refine TF_y rfl rfl (Y_nil_check rfl) ?_
                refine TF_y rfl rfl (Y_field_addr rfl) ?_
                refine TF_y rfl rfl (Y_move rfl) ?_
                refine TF_anchor rfl ?_
                refine TL_y rfl rfl (Y_load rfl rfl) ?_
                refine TF_end GivesTo.g ?_
                refine TF_anchor rfl ?_
                refine TL_build_slice rfl rfl rfl rfl rfl rfl ?_
                intro b57
                refine TL_osl (k := 1) ptrR [bq] (Knows.const fun M => ⟨[.pointer (some ⟨bq, 0, none⟩)], [], rfl, rfl, rfl⟩) rfl (by decide) ?_
                refine TL_freeze_osl ?_
                refine TL_name 57 (v' := .slice (some ⟨b57, 0, none⟩) [bq].length 1) rfl rfl ?_
                refine TF_end GivesTo.g ?_
                refine TF_anchor rfl ?_
                refine TL_build_slice rfl rfl rfl rfl rfl rfl ?_
                intro b50
                refine TL_osl (k := 1) ptrR [bp] (Knows.const fun M => ⟨[.pointer (some ⟨bp, 0, none⟩)], [], rfl, rfl, rfl⟩) rfl (by decide) ?_
                refine TL_freeze_osl ?_
                refine TL_name 50 (v' := .slice (some ⟨b50, 0, none⟩) [bp].length 1) rfl rfl ?_
                refine TF_end GivesTo.g ?_
                refine TF_anchor rfl ?_
                refine TL_y rfl rfl (Y_load rfl rfl) ?_
                refine TF_end GivesTo.g ?_
                refine TF_anchor rfl ?_
                refine TL_append rfl rfl rfl rfl rfl slk (by simp only [bs1, List.length_map, List.length_cons, List.length_nil]; omega) ?_
                intro A51 c51
                refine TF_end GivesTo.g ?_
                refine TF_anchor rfl ?_
                refine TL_append rfl rfl rfl rfl rfl slk (by simp only [bs1, List.length_map, List.length_cons, List.length_nil]; omega) ?_
                intro A58 c58
                refine TF_end GivesTo.g ?_
                refine TF_y rfl rfl (Y_nil_check rfl) ?_
                refine TF_y rfl rfl (Y_field_addr rfl) ?_
                refine TF_anchor rfl ?_
                refine TL_store rfl rfl rfl rfl rfl rfl ?_
                refine TF_end GivesTo.g ?_
                refine TF_y rfl rfl (Y_nil_check rfl) ?_
                refine TF_y rfl rfl (Y_field_addr rfl) ?_
                refine TF_anchor rfl ?_
                refine TL_store rfl rfl rfl rfl rfl rfl ?_
                refine TF_end GivesTo.g ?_
                refine TF_nil ?_
                refine inB_normal ?_
                refine thenS_normal ?_
                refine T_region_last ?_
                refine TL_y rfl rfl (Y_move rfl) ?_
                refine TL_y rfl rfl (Y_add rfl rfl (by omega)) ?_
                refine TL_name 17 (v' := .int .i64 ((i + 1 : Nat) : Int)) rfl (rfl) ?_
                refine TL_y rfl rfl (Y_assign rfl) ?_
                refine TL_nil ?_
                refine thenS_normal ?_
                rw [show bs1 PB ++ [bp] = bs1 (PB ++ [(bp, ppNew (i : Int) (n : Int))]) by simp [bs1], show bs1 AB ++ [bq] = bs1 (AB ++ [(bq, acNew (i : Int))]) by simp [bs1]]
                exact ⟨⟨i + 1, PB ++ [(bp, ppNew (i : Int) (n : Int))], AB ++ [(bq, acNew (i : Int))], A51, c51, A58, c58⟩, ⟨by simp only; omega, by simp only [List.map_append, hP, List.range_succ, List.map_cons, List.map_nil], by simp only [List.map_append, hA, List.range_succ, List.map_cons, List.map_nil]⟩, (by simp only; omega), holds_to (sub_cons rfl (sub_cons rfl (sub_cons rfl (sub_nil)))) (Gives.trans (prSnoc PB bp (ppNew (i : Int) (n : Int))) (Gives.trans (acSnoc AB bq (acNew (i : Int))) GivesTo.g))⟩
              · refine RD_leaf (sl (intR .i64) none 0 [] :: []) [0, 0, 0, 4, 12, 32476, 0, 32320, 32508, 0, 512, 1536, 28160, 0, 8192, 32764, 65533, 131069, 262141, 524287, 1048575, 2097151] [] [(0, true), (1, true), (2, true), (3, true), (4, true), (6, true), (9, true), (10, true), (11, true), (13, true), (14, false), (12, false), (7, false), (5, false), (8, false), (15, false), (16, true), (17, true), (18, false), (19, true), (20, true), (21, false)] (by decide +kernel) GivesTo.g ?_
                refine TF_y rfl rfl (Y_move rfl) ?_
                refine TF_y rfl rfl (Y_move rfl) ?_
                refine TF_y rfl rfl (Y_move rfl) ?_
                refine TF_y rfl rfl (Y_nil_check rfl) ?_
                refine TF_y rfl rfl (Y_field_addr rfl) ?_
                refine TF_y rfl rfl (Y_move rfl) ?_
                refine TF_y rfl rfl (Y_move rfl) ?_
                refine TF_y rfl rfl (Y_nil_check rfl) ?_
                refine TF_y rfl rfl (Y_field_addr rfl) ?_
                refine TF_y rfl rfl (Y_move rfl) ?_
                refine TF_anchor rfl ?_
                refine TL_build_slice rfl rfl rfl rfl rfl rfl ?_
                intro b57
                refine TL_osl (k := 1) ptrR [bq] (Knows.const fun M => ⟨[.pointer (some ⟨bq, 0, none⟩)], [], rfl, rfl, rfl⟩) rfl (by decide) ?_
                refine TL_freeze_osl ?_
                refine TL_name 57 (v' := .slice (some ⟨b57, 0, none⟩) [bq].length 1) rfl rfl ?_
                refine TF_end GivesTo.g ?_
                refine TF_anchor rfl ?_
                refine TL_y rfl rfl (Y_load rfl rfl) ?_
                refine TF_end GivesTo.g ?_
                refine TF_anchor rfl ?_
                refine TL_build_slice rfl rfl rfl rfl rfl rfl ?_
                intro b50
                refine TL_osl (k := 1) ptrR [bp] (Knows.const fun M => ⟨[.pointer (some ⟨bp, 0, none⟩)], [], rfl, rfl, rfl⟩) rfl (by decide) ?_
                refine TL_freeze_osl ?_
                refine TL_name 50 (v' := .slice (some ⟨b50, 0, none⟩) [bp].length 1) rfl rfl ?_
                refine TF_end GivesTo.g ?_
                refine TF_anchor rfl ?_
                refine TL_y rfl rfl (Y_load rfl rfl) ?_
                refine TF_end GivesTo.g ?_
                refine TF_anchor rfl ?_
                refine TL_append rfl rfl rfl rfl rfl slk (by simp only [bs1, List.length_map, List.length_cons, List.length_nil]; omega) ?_
                intro A51 c51
                refine TF_end GivesTo.g ?_
                refine TF_anchor rfl ?_
                refine TL_append rfl rfl rfl rfl rfl slk (by simp only [bs1, List.length_map, List.length_cons, List.length_nil]; omega) ?_
                intro A58 c58
                refine TF_end GivesTo.g ?_
                refine TF_y rfl rfl (Y_nil_check rfl) ?_
                refine TF_y rfl rfl (Y_field_addr rfl) ?_
                refine TF_anchor rfl ?_
                refine TL_store rfl rfl rfl rfl rfl rfl ?_
                refine TF_end GivesTo.g ?_
                refine TF_y rfl rfl (Y_nil_check rfl) ?_
                refine TF_y rfl rfl (Y_field_addr rfl) ?_
                refine TF_anchor rfl ?_
                refine TL_store rfl rfl rfl rfl rfl rfl ?_
                refine TF_end GivesTo.g ?_
                refine TF_nil ?_
                refine inB_normal ?_
                refine thenS_normal ?_
                refine T_region_last ?_
                refine TL_y rfl rfl (Y_move rfl) ?_
                refine TL_y rfl rfl (Y_add rfl rfl (by omega)) ?_
                refine TL_name 17 (v' := .int .i64 ((i + 1 : Nat) : Int)) rfl (rfl) ?_
                refine TL_y rfl rfl (Y_assign rfl) ?_
                refine TL_nil ?_
                refine thenS_normal ?_
                rw [show bs1 PB ++ [bp] = bs1 (PB ++ [(bp, ppNew (i : Int) (n : Int))]) by simp [bs1], show bs1 AB ++ [bq] = bs1 (AB ++ [(bq, acNew (i : Int))]) by simp [bs1]]
                exact ⟨⟨i + 1, PB ++ [(bp, ppNew (i : Int) (n : Int))], AB ++ [(bq, acNew (i : Int))], A51, c51, A58, c58⟩, ⟨by simp only; omega, by simp only [List.map_append, hP, List.range_succ, List.map_cons, List.map_nil], by simp only [List.map_append, hA, List.range_succ, List.map_cons, List.map_nil]⟩, (by simp only; omega), holds_to (sub_cons rfl (sub_cons rfl (sub_cons rfl (sub_nil)))) (Gives.trans (prSnoc PB bp (ppNew (i : Int) (n : Int))) (Gives.trans (acSnoc AB bq (acNew (i : Int))) GivesTo.g))⟩
  · refine T_exit ?_
    refine thenS_exit ?_
    refine thenS_exit ?_
    refine inB_hit ?_
    refine thenS_normal ?_
    refine T_region ?_
    refine TL_y rfl rfl (Y_move rfl) ?_
    refine TL_y rfl rfl (Y_assign rfl) ?_
    refine TL_y rfl rfl (Y_assign rfl) ?_
    refine TL_nil ?_
    refine T_ret ?_
    obtain rfl : i = n := by omega
    refine RetQ.gives (osl_nil msgR 44 none _) ?_
    refine RetQ.gives (osl_nil votedR 50 none _) ?_
    refine RetQ.gives (gr_close b12 ⟨(i : Int), PB, AB, [], [], pa, pc, aa, acc, none, 0, none, 0⟩ (GrNew i) (by unfold GrS.pl GrNew; rw [hP, hA])) ?_
    exact RetG_2 (.inl rfl) rfl (ResV.tmp rfl) (ResV.tmp rfl) GivesTo.g (⟨b12, rfl, rfl⟩)
def placeI (len : Nat) (at_ : Int) : Int := if len = 0 then -1 else at_ % (len : Int)
theorem tm_fix (a : Int) {n : Int} (hn : 0 < n) : (a.tmod n < 0 → a.tmod n + n = a % n) ∧ (¬ a.tmod n < 0 → a.tmod n = a % n) := by
  have h1 := tm_two a hn
  have h2 := Int.emod_nonneg a (show n ≠ 0 by omega)
  have h3 := Int.emod_lt_of_pos a hn
  exact ⟨fun h => by omega, fun h => by omega⟩
theorem place_spec {L : List HP} {b : Nat} {g : GrD} (at_ : Int) (hat : intIn .i64 at_) (hb : g.bag.length ≤ 536870912) : Fn Try.prog 91 #[.pointer (some ⟨b, 0, none⟩), .int .i64 at_] (gr b g :: L) (fun v L' => v = .int .i64 (placeI g.bag.length at_) ∧ L' = gr b g :: L) := by
  refine Fn_enter Try.func91 rfl rfl rfl rfl ?_
  refine T_region ?_
  refine TL_y rfl rfl (Y_assign rfl) ?_
  refine TL_nil ?_
  refine T_seq ?_
  refine T_gr fun s hs => ?_
  subst hs
  have hb2 : s.bag.length ≤ 536870912 := hb
  have hlq : s.pl.bag.length = s.bag.length := rfl
  refine T_region ?_
  refine TL_y rfl rfl (Y_move rfl) ?_
  refine TL_y rfl rfl (Y_nil_check rfl) ?_
  refine TL_y rfl rfl (Y_field_addr rfl) ?_
  refine TL_y rfl rfl (Y_load rfl rfl) ?_
  refine TL_y rfl rfl (Y_len rfl) ?_
  refine TL_y rfl rfl (Y_eq rfl rfl) ?_
  refine TL_nil ?_
  refine T_if rfl (fun h11 => ?_) (fun h11 => ?_)
  · refine T_region ?_
    refine TL_y rfl rfl (Y_assign rfl) ?_
    refine TL_nil ?_
    refine T_ret ?_
    refine thenS_ret ?_
    have he : placeI s.pl.bag.length at_ = -1 := by unfold placeI; rw [if_pos (by omega)]
    rw [he]
    refine RetQ.gives (gr_close b s _ rfl) ?_
    exact RetG_1 (.inl rfl) rfl (ResV.tmp rfl) GivesTo.g (⟨rfl, rfl⟩)
  · refine T_skip ?_
    refine thenS_normal ?_
    refine T_region ?_
    refine TL_y rfl rfl (Y_move rfl) ?_
    refine TL_y rfl rfl (Y_move rfl) ?_
    refine TL_y rfl rfl (Y_nil_check rfl) ?_
    refine TL_y rfl rfl (Y_field_addr rfl) ?_
    refine TL_y rfl rfl (Y_load rfl rfl) ?_
    refine TL_y rfl rfl (Y_len rfl) ?_
    refine TL_y rfl rfl (Y_rem rfl rfl (by omega)) ?_
    refine TL_y rfl rfl (Y_assign rfl) ?_
    refine TL_nil ?_
    refine T_seq ?_
    have hf := tm_fix at_ (n := (s.bag.length : Int)) (by omega)
    have htb := tm_bound at_ (n := (s.bag.length : Int)) (by omega)
    refine T_region ?_
    refine TL_y rfl rfl (Y_move rfl) ?_
    refine TL_y rfl rfl (Y_lt rfl rfl) ?_
    refine TL_nil ?_
    refine T_if rfl (fun h20 => ?_) (fun h20 => ?_)
    · refine T_region_last ?_
      refine TL_y rfl rfl (Y_move rfl) ?_
      refine TL_y rfl rfl (Y_move rfl) ?_
      refine TL_y rfl rfl (Y_nil_check rfl) ?_
      refine TL_y rfl rfl (Y_field_addr rfl) ?_
      refine TL_y rfl rfl (Y_load rfl rfl) ?_
      refine TL_y rfl rfl (Y_len rfl) ?_
      refine TL_y rfl rfl (Y_add rfl rfl (by omega)) ?_
      refine TL_y rfl rfl (Y_assign rfl) ?_
      refine TL_nil ?_
      refine thenS_normal ?_
      refine T_region ?_
      refine TL_y rfl rfl (Y_move rfl) ?_
      refine TL_y rfl rfl (Y_assign rfl) ?_
      refine TL_nil ?_
      refine T_ret ?_
      have he : placeI s.pl.bag.length at_ = at_.tmod (s.bag.length : Int) + (s.bag.length : Int) := by unfold placeI; rw [if_neg (by omega), hf.1 h20, hlq]
      rw [he]
      refine RetQ.gives (gr_close b s _ rfl) ?_
      exact RetG_1 (.inl rfl) rfl (ResV.tmp rfl) GivesTo.g (⟨rfl, rfl⟩)
    · refine T_skip ?_
      refine thenS_normal ?_
      refine T_region ?_
      refine TL_y rfl rfl (Y_move rfl) ?_
      refine TL_y rfl rfl (Y_assign rfl) ?_
      refine TL_nil ?_
      refine T_ret ?_
      have he : placeI s.pl.bag.length at_ = at_.tmod (s.bag.length : Int) := by unfold placeI; rw [if_neg (by omega), hf.2 h20, hlq]
      rw [he]
      refine RetQ.gives (gr_close b s _ rfl) ?_
      exact RetG_1 (.inl rfl) rfl (ResV.tmp rfl) GivesTo.g (⟨rfl, rfl⟩)
end Go.SL
