/- What the laws of this claim need, together: the logic, data in memory, the walks of functions. -/
import Derived.Test.YtibejpgjgkeheaaPgF
import Derived.Test.YtibejpgjgkeheaaRows
import Derived.WalkKit
import Derived.JoinedCond
import Derived.Deep.CondSized
set_option linter.unusedVariables false
set_option linter.unusedSimpArgs false
set_option linter.unusedVariables false
set_option linter.unusedSimpArgs false
namespace Go.SL
open Go Go.Proofs
theorem repA_ok {a : AccD} {m : MsgD} (ha : AI a) (hx : MsgOk m) (hm : mineA a m) : MsgOk (repA a m) := by
  have hr := mine_msg hm
  have hn := ha.node
  have hp := rBal_in ha.prom
  have hk : ∀ (k : Int) (bal : Int × Int) (vs : List VotedD), intIn .i64 k → intIn .i64 bal.1 → intIn .i64 bal.2 → MsgOk (repM a m k bal vs) := fun k bal vs h1 h2 h3 => ⟨h1, i64In_mk (by show _ ≤ a.node ∧ a.node ≤ _; omega), hx.frm, h2, h3, hx.slot, noopOk, i64_0'⟩
  unfold repA
  rw [if_pos hm]
  split
  · exact hk _ _ _ (i64In_mk (by decide)) hp.1 hp.2
  · split
    · exact hk _ _ _ (i64In_mk (by decide)) hx.b1 hx.b2
    · exact hk _ _ _ (i64In_mk (by decide)) hx.b1 hx.b2
structure CmSt where
  i : Nat
  A : Option Addr
  c : Nat
set_option maxHeartbeats 4000000 in
theorem comes_spec {L : List HP} {b : Nat} {g : GrD} {k : Nat} {p : PP} {a : AccD} (m : MsgD) (q : MsgP) (hx : MsgOk m) (hk : MsgK L m q) (hc : cMsg m ≤ 140737488355328) (ht : m.to_ = (k : Int)) (hkn : (k : Int) < g.n) (hp : g.P[k]? = some p) (ha : g.A[k]? = some a) (hb : g.bag.length ≤ 536870912) (hch : g.ch.length ≤ 536870912) (hsafe : ∀ v ∈ (onP p m).2.2, ¬ mineA a m → ∀ u ∈ g.ch, u.slot = v.slot → u.en = v.en) : Fn Try.prog 51 #[.pointer (some ⟨b, 0, none⟩), .agg (List.toArray (msgC m q))] (gr b g :: L) (fun v L' => v = .bool true ∧ L' = gr b (comesG g k p a m) :: L) := by
  refine Fn_enter Try.func51 rfl rfl rfl rfl ?_
  refine T_region ?_
  refine TL_box rfl rfl rfl ?_
  intro b3
  refine TL_y rfl rfl (Y_assign rfl) ?_
  refine TL_nil ?_
  refine T_seq ?_
  refine T_pullk b ?_
  refine T_gr fun s hs => ?_
  obtain ⟨n, PB, AB, bag, ch, pa, pc, aa, acc, ba, bc, ca, cc⟩ := s
  subst hs
  obtain ⟨bq, hza⟩ := pair_at (l := AB) ha
  obtain ⟨bp, hzp⟩ := pair_at (l := PB) hp
  have hua := fst_at hza
  have hup := fst_at hzp
  have hkn2 : (k : Int) < n := hkn
  have hb2 : bag.length ≤ 536870912 := hb
  have hch2 : ch.length ≤ 536870912 := hch
  have hsafe2 : ∀ v ∈ (onP p m).2.2, ¬ mineA a m → ∀ u ∈ ch, u.slot = v.slot → u.en = v.en := hsafe
  dsimp only
  refine T_region_draw _ [0, 1, 3, 7, 15, 31, 15, 79, 207, 463, 1023, 2047] [] [(0, true), (1, true), (2, true), (3, true), (4, true), (5, true), (6, true), (7, true), (8, true), (9, true), (10, true), (11, true)] (by kernel_rfl) (by decide +kernel) (Gives.refl _) ?_
  refine TF_y rfl rfl (Y_field_addr rfl) ?_
  refine TF_y rfl rfl (Y_load rfl rfl) ?_
  refine TF_y rfl rfl (Y_lt rfl rfl) ?_
  refine TF_name 14 (v' := .bool false) rfl (congrArg Value.bool (decide_eq_false (by omega))) ?_
  refine TF_y rfl rfl (Y_move rfl) ?_
  refine TF_gy rfl rfl rfl rfl (Y_field_addr rfl) ?_
  refine TF_gy rfl rfl rfl rfl (Y_load rfl rfl) ?_
  refine TF_gy rfl rfl rfl rfl (Y_move rfl) ?_
  refine TF_gy rfl rfl rfl rfl (Y_nil_check rfl) ?_
  refine TF_gy rfl rfl rfl rfl (Y_field_addr rfl) ?_
  refine TF_gy rfl rfl rfl rfl (Y_load rfl rfl) ?_
  refine TF_gy rfl rfl rfl rfl (Y_ge rfl rfl) ?_
  refine TF_name 22 (v' := .bool false) rfl (congrArg Value.bool (decide_eq_false (show ¬ (n ≤ m.to_) from by omega))) ?_
  refine TF_y rfl rfl (Y_pick_f rfl rfl) ?_
  refine TF_nil ?_
  refine T_cond_false rfl ?_
  refine T_skip ?_
  refine thenS_normal ?_
  refine T_addr_n (sln (A := aa) (c := acc) (R := ptrR)) hua fun bl ol el => ?_
  subst el
  refine T_acTake hza ?_
  refine T_acI fun hai => ?_
  refine T_rd [0, 1, 3, 7, 0, 16, 63, 127, 0, 511, 1023, 2047, 2047, 2047, 0, 20479, 57343, 131071] (by kernel_rfl) (by decide +kernel) ?_
  refine RD_pair 9 14 (by decide) ?_ ?_
  · refine RD_leaf (cells b (grC ⟨n, PB, AB, bag, ch, pa, pc, some ⟨bl, ol, none⟩, acc, ba, bc, ca, cc⟩) 99 :: osl ptrR 35 (some ⟨bl, ol, none⟩) acc (bs1 AB) :: cells b3 (msgC m q) 44 :: []) [0, 1, 3, 7, 0, 16, 63, 127, 0, 511, 1023, 2047, 2047, 2047, 1023, 20479, 57343, 131071] [] [(0, true), (1, true), (2, true), (3, true), (4, true), (5, true), (6, true), (7, true), (8, true), (9, false), (10, true), (11, true), (12, true), (13, true), (14, false), (15, false), (16, true), (17, true)] (by decide +kernel) GivesTo.g ?_
    refine TF_y rfl rfl (Y_move rfl) ?_
    refine TF_y rfl rfl (Y_nil_check rfl) ?_
    refine TF_y rfl rfl (Y_field_addr rfl) ?_
    refine TF_y rfl rfl (Y_load rfl rfl) ?_
    refine TF_y rfl rfl (Y_field_addr rfl) ?_
    refine TF_y rfl rfl (Y_load rfl rfl) ?_
    refine TF_name 30 (v' := .int .i64 (k : Int)) rfl (by rw [ht]) ?_
    refine TF_y rfl rfl (Y_index_n (R := ptrR) (xs := bs1 AB) rfl rfl rfl hua) ?_
    refine TF_y rfl rfl (Y_load_n (R := ptrR) (c := acc) (xs := bs1 AB) (q := 0) rfl sln hua rfl) ?_
    refine TF_y rfl rfl (Y_load_agg rfl rfl) ?_
    refine TF_anchor rfl ?_
    refine TL_pullk bq ?_
    refine TL_call rfl rfl (acOn_spec m q hx (MsgK.of_gives GivesTo.g hk) hc) ?_
    rintro _ _ ⟨q34, rfl, rfl⟩
    refine TF_end GivesTo.g ?_
    refine TF_y rfl rfl (Y_move rfl) ?_
    refine TF_y rfl rfl (Y_extract rfl rfl) ?_
    refine TF_y rfl rfl (Y_extract rfl rfl) ?_
    refine TF_y rfl rfl (Y_extract rfl rfl) ?_
    refine TF_anchor rfl ?_
    refine TL_alloc rfl rfl ?_
    intro b5
    refine TF_end GivesTo.g ?_
    refine TF_anchor rfl ?_
    refine TL_store rfl rfl rfl rfl rfl rfl ?_
    refine TF_end GivesTo.g ?_
    refine TF_y rfl rfl (Y_assign rfl) ?_
    refine TF_y rfl rfl (Y_assign rfl) ?_
    refine TF_nil ?_
    refine thenS_normal ?_
    refine T_seq ?_
    refine T_region ?_
    refine TL_y rfl rfl (Y_move rfl) ?_
    refine TL_nil ?_
    refine T_if rfl (fun h38 => ?_) (fun h38 => ?_)
    · refine T_region_draw (cells b (grC ⟨n, PB, AB, bag, ch, pa, pc, some ⟨bl, ol, none⟩, acc, ba, bc, ca, cc⟩) 99 :: cells b5 (msgC (repA a m) q34) 44 :: []) [0, 0, 2, 6, 14, 0, 32, 126, 255, 511, 1023] [10] [(0, true), (1, true), (2, true), (3, true), (4, true), (5, true), (6, false), (7, false), (8, true), (9, true), (10, false)] (by kernel_rfl) (by decide +kernel) GivesTo.g ?_
      refine TF_y rfl rfl (Y_move rfl) ?_
      refine TF_y rfl rfl (Y_move rfl) ?_
      refine TF_y rfl rfl (Y_nil_check rfl) ?_
      refine TF_y rfl rfl (Y_field_addr rfl) ?_
      refine TF_y rfl rfl (Y_load rfl rfl) ?_
      refine TF_y rfl rfl (Y_load_agg rfl rfl) ?_
      refine TF_anchor rfl ?_
      refine TL_build_slice rfl rfl rfl rfl rfl rfl ?_
      intro b45
      refine TL_osl (k := 1) msgR [repA a m] (cells_one' (ex_rep q34 (sep_msg ⟨slk, slk, slk, slk⟩) (repA_ok hai hx h38))) rfl (by decide) ?_
      refine TL_freeze_osl ?_
      refine TL_name 45 (v' := .slice (some ⟨b45, 0, none⟩) [repA a m].length 1) rfl rfl ?_
      refine TF_end GivesTo.g ?_
      refine TF_anchor rfl ?_
      refine TL_append rfl rfl rfl rfl rfl slk (by simp only [List.length_cons, List.length_nil]; omega) ?_
      intro A46 c46
      refine TF_end GivesTo.g ?_
      refine TF_y rfl rfl (Y_nil_check rfl) ?_
      refine TF_y rfl rfl (Y_field_addr rfl) ?_
      refine TF_anchor rfl ?_
      refine TL_store rfl rfl rfl rfl rfl rfl ?_
      refine TF_end_tail rfl ?_
      refine TF_nil ?_
      refine T_region ?_
      refine TL_y rfl rfl (Y_assign rfl) ?_
      refine TL_nil ?_
      refine T_ret ?_
      refine thenS_ret ?_
      rw [← bs1_set hza (stA a m)]
      refine RetQ.gives (acPut (stA a m) hza) ?_
      refine RetQ.gives (gr_close b ⟨n, PB, AB.set k (bq, stA a m), bag ++ [repA a m], ch, pa, pc, some ⟨bl, ol, none⟩, acc, A46, c46, ca, cc⟩ (comesG (GrS.pl ⟨n, PB, AB, bag, ch, pa, pc, some ⟨bl, ol, none⟩, acc, ba, bc, ca, cc⟩) k p a m) (by unfold comesG; rw [if_pos h38]; unfold comesA GrS.pl; dsimp only; rw [snd_set])) ?_
      exact RetG_1 (.inl rfl) rfl (ResV.tmp rfl) GivesTo.g (⟨rfl, rfl⟩)
    · refine T_skip ?_
      refine thenS_normal ?_
      have hst : stA a m = a := (by unfold stA; rw [if_neg (fun h => h38 h.1)])
      rw [hst]
      refine T_gives (acPut a hza) ?_
      rw [set_self hza]
      refine T_addr_n (sln (A := pa) (c := pc) (R := ptrR)) hup fun bz oz ez => ?_
      subst ez
      refine T_prTake hzp ?_
      refine T_prI fun hpi => ?_
      have hon := onP_node hpi m
      refine T_region_draw (cells b (grC ⟨n, PB, AB, bag, ch, some ⟨bz, oz, none⟩, pc, some ⟨bl, ol, none⟩, acc, ba, bc, ca, cc⟩) 99 :: osl ptrR 70 (some ⟨bz, oz, none⟩) pc (bs1 PB) :: cells b3 (msgC m q) 44 :: []) [0, 1, 3, 7, 0, 16, 63, 127, 0, 511, 1023, 2047, 2047, 4095, 16383] [] [(0, true), (1, true), (2, true), (3, true), (4, true), (5, true), (6, true), (7, true), (8, true), (9, false), (10, true), (11, true), (12, true), (13, true), (14, true)] (by kernel_rfl) (by decide +kernel) GivesTo.g ?_
      refine TF_y rfl rfl (Y_move rfl) ?_
      refine TF_y rfl rfl (Y_nil_check rfl) ?_
      refine TF_y rfl rfl (Y_field_addr rfl) ?_
      refine TF_y rfl rfl (Y_load rfl rfl) ?_
      refine TF_y rfl rfl (Y_field_addr rfl) ?_
      refine TF_y rfl rfl (Y_load rfl rfl) ?_
      refine TF_name 55 (v' := .int .i64 (k : Int)) rfl (by rw [ht]) ?_
      refine TF_y rfl rfl (Y_index_n (R := ptrR) (xs := bs1 PB) rfl rfl rfl hup) ?_
      refine TF_y rfl rfl (Y_load_n (R := ptrR) (c := pc) (xs := bs1 PB) (q := 0) rfl sln hup rfl) ?_
      refine TF_y rfl rfl (Y_load_agg rfl rfl) ?_
      refine TF_anchor rfl ?_
      refine TL_pullk bp ?_
      refine TL_call rfl rfl (prOn_spec m q hx (MsgK.of_gives GivesTo.g hk) hc) ?_
      rintro _ _ ⟨Ao, co, Ac, cco, rfl, rfl⟩
      refine TL_freeze_osl ?_
      refine TF_end GivesTo.g ?_
      refine TF_y rfl rfl (Y_move rfl) ?_
      refine TF_y rfl rfl (Y_extract rfl rfl) ?_
      refine TF_y rfl rfl (Y_extract rfl rfl) ?_
      refine TF_y rfl rfl (Y_assign rfl) ?_
      refine TF_y rfl rfl (Y_assign rfl) ?_
      refine TF_nil ?_
      refine T_region ?_
      refine TL_y rfl rfl (Y_move rfl) ?_
      refine TL_y rfl rfl (Y_move rfl) ?_
      refine TL_y rfl rfl (Y_nil_check rfl) ?_
      refine TL_y rfl rfl (Y_field_addr rfl) ?_
      refine TL_y rfl rfl (Y_load rfl rfl) ?_
      refine TL_y rfl rfl (Y_move rfl) ?_
      refine TL_append rfl rfl rfl rfl rfl slk (by (try simp only [List.length_append, List.length_cons, List.length_nil]); omega) ?_
      intro A68 c68
      refine TL_y rfl rfl (Y_nil_check rfl) ?_
      refine TL_y rfl rfl (Y_field_addr rfl) ?_
      refine TL_store rfl rfl rfl rfl rfl rfl ?_
      refine TL_nil ?_
      refine T_seq ?_
      rw [← bs1_set hzp (onP p m).1]
      refine T_gives (prPut (onP p m).1 hzp) ?_
      refine T_region ?_
      refine TL_y rfl rfl (Y_assign rfl) ?_
      refine TL_nil ?_
      refine T_block ?_
      refine T_loopK (σ := CmSt) [0, 9] (fun g => g.i ≤ (onP p m).2.2.length) (fun g kv => (10, .int .i64 (g.i : Int)) :: kv) (fun g => cells b (grC ⟨n, PB.set k (bp, (onP p m).1), AB, bag ++ (onP p m).2.1, ch ++ (onP p m).2.2.take g.i, some ⟨bz, oz, none⟩, pc, some ⟨bl, ol, none⟩, acc, A68, c68, g.A, g.c⟩) 99 :: osl votedR 50 g.A g.c (ch ++ (onP p m).2.2.take g.i) :: osl votedR 50 Ac cco (onP p m).2.2 :: osl ptrR 70 (some ⟨bz, oz, none⟩) pc (bs1 (PB.set k (bp, (onP p m).1))) :: osl ptrR 35 (some ⟨bl, ol, none⟩) acc (bs1 AB) :: osl msgR 44 A68 c68 (bag ++ (onP p m).2.1) :: allH (prHs (PB.set k (bp, (onP p m).1))) :: allH (acHs AB) :: L) (fun g => (onP p m).2.2.length - g.i) (⟨0, ca, cc⟩) rfl (Nat.zero_le _) ((by rw [List.take_zero, List.append_nil]; exact GivesTo.g)) (sub_cons rfl (sub_cons rfl (sub_cons rfl (sub_nil)))) ?_
      rintro ⟨i, ca2, cc2⟩ hil
      dsimp only at hil ⊢
      refine T_seq ?_
      refine T_region ?_
      refine TL_y rfl rfl (Y_move rfl) ?_
      refine TL_y rfl rfl (Y_move rfl) ?_
      refine TL_y rfl rfl (Y_len rfl) ?_
      refine TL_y rfl rfl (Y_lt rfl rfl) ?_
      refine TL_nil ?_
      refine T_if rfl (fun h74 => ?_) (fun h74 => ?_)
      · refine T_skip ?_
        refine thenS_normal ?_
        refine T_seq ?_
        refine T_block ?_
        refine T_seq ?_
        obtain ⟨v, hv⟩ : ∃ v, (onP p m).2.2[i]? = some v := ⟨_, List.getElem?_eq_getElem (by omega)⟩
        have hvm := List.mem_of_getElem? hv
        have hi0 : i = 0 := (by omega)
        have htk := takeAt hv
        refine T_addr_n (sln (A := Ac) (c := cco)) hv fun bv ov ev => ?_
        subst ev
        refine T_region ?_
        refine TL_y rfl rfl (Y_assign rfl) ?_
        refine TL_nil ?_
        refine T_block ?_
        refine T_loopK (σ := Nat) [0, 9, 10] (fun j => j ≤ (ch ++ (onP p m).2.2.take i).length) (fun j kv => (11, .int .i64 (j : Int)) :: kv) (fun j => cells b (grC ⟨n, PB.set k (bp, (onP p m).1), AB, bag ++ (onP p m).2.1, ch ++ (onP p m).2.2.take i, some ⟨bz, oz, none⟩, pc, some ⟨bl, ol, none⟩, acc, A68, c68, ca2, cc2⟩) 99 :: osl votedR 50 ca2 cc2 (ch ++ (onP p m).2.2.take i) :: osl votedR 50 (some ⟨bv, ov, none⟩) cco (onP p m).2.2 :: osl ptrR 70 (some ⟨bz, oz, none⟩) pc (bs1 (PB.set k (bp, (onP p m).1))) :: osl ptrR 35 (some ⟨bl, ol, none⟩) acc (bs1 AB) :: osl msgR 44 A68 c68 (bag ++ (onP p m).2.1) :: allH (prHs (PB.set k (bp, (onP p m).1))) :: allH (acHs AB) :: L) (fun j => (ch ++ (onP p m).2.2.take i).length - j) (0) rfl (Nat.zero_le _) (GivesTo.g) (sub_cons rfl (sub_cons rfl (sub_cons rfl (sub_cons rfl (sub_nil))))) ?_
        intro j hjl
        have hcl : (ch ++ (onP p m).2.2.take i).length = ch.length := (by rw [hi0]; simp)
        refine T_seq ?_
        refine T_region ?_
        refine TL_y rfl rfl (Y_move rfl) ?_
        refine TL_y rfl rfl (Y_move rfl) ?_
        refine TL_y rfl rfl (Y_nil_check rfl) ?_
        refine TL_y rfl rfl (Y_field_addr rfl) ?_
        refine TL_y rfl rfl (Y_load rfl rfl) ?_
        refine TL_y rfl rfl (Y_len rfl) ?_
        refine TL_name 82 (v' := .int .i64 (((ch ++ (onP p m).2.2.take i).length : Nat) : Int)) rfl (rfl) ?_
        refine TL_y rfl rfl (Y_lt rfl rfl) ?_
        refine TL_nil ?_
        refine T_if rfl (fun h83 => ?_) (fun h83 => ?_)
        · refine T_skip ?_
          refine thenS_normal ?_
          refine T_seq ?_
          refine T_block ?_
          obtain ⟨u, hu⟩ : ∃ u, (ch ++ (onP p m).2.2.take i)[j]? = some u := ⟨_, List.getElem?_eq_getElem (by omega)⟩
          have hum : u ∈ ch := (by have := List.mem_of_getElem? hu; rw [hi0] at this; simpa using this)
          have hsu := hsafe2 v hvm h38 u hum
          refine T_addr_n (sln (A := ca2) (c := cc2)) hu fun bu ou eu => ?_
          subst eu
          refine T_rd [0, 1, 3, 7, 0, 31, 63, 127, 0, 0, 768, 1792, 3840, 8191, 16383, 32767, 65535, 131071, 262143, 32767, 1048575, 2097151, 4194303, 32767, 32767, 25198591, 58753023, 125861887, 268435455, 536870911, 1073741823] (by kernel_rfl) (by decide +kernel) ?_
          refine RD_pair 22 27 (by decide) ?_ ?_
          · refine RD_leaf (cells b (grC ⟨n, PB.set k (bp, (onP p m).1), AB, bag ++ (onP p m).2.1, ch ++ (onP p m).2.2.take i, some ⟨bz, oz, none⟩, pc, some ⟨bl, ol, none⟩, acc, A68, c68, some ⟨bu, ou, none⟩, cc2⟩) 99 :: osl votedR 50 (some ⟨bu, ou, none⟩) cc2 (ch ++ (onP p m).2.2.take i) :: osl votedR 50 (some ⟨bv, ov, none⟩) cco (onP p m).2.2 :: []) [0, 1, 3, 7, 0, 31, 63, 127, 0, 0, 768, 1792, 3840, 8191, 16383, 32767, 65535, 131071, 262143, 32767, 1048575, 2097151, 4194303, 32767, 32767, 25198591, 58753023, 134217727, 268435455, 536870911, 1073741823] [] [(0, true), (1, true), (2, true), (3, true), (4, true), (5, true), (6, true), (7, true), (8, true), (9, true), (10, true), (11, true), (12, true), (13, true), (14, true), (15, true), (16, true), (17, true), (18, true), (19, true), (20, true), (21, true), (23, true), (24, true), (25, true), (26, true), (22, false), (27, false), (28, false), (29, true), (30, true)] (by decide +kernel) GivesTo.g ?_
            refine TF_y rfl rfl (Y_move rfl) ?_
            refine TF_y rfl rfl (Y_nil_check rfl) ?_
            refine TF_y rfl rfl (Y_field_addr rfl) ?_
            refine TF_y rfl rfl (Y_load rfl rfl) ?_
            refine TF_y rfl rfl (Y_move rfl) ?_
            refine TF_y rfl rfl (Y_index_n (R := votedR) (xs := ch ++ (onP p m).2.2.take i) rfl rfl rfl hu) ?_
            refine TF_y rfl rfl (Y_field_addr2 rfl) ?_
            refine TF_y rfl rfl (Y_load_nx (xs := ch ++ (onP p m).2.2.take i) (u := u) (v := .int .i64 u.slot) rfl (sln (c := cc2)) hu (fun _ ↦ rfl)) ?_
            refine TF_y rfl rfl (Y_move rfl) ?_
            refine TF_y rfl rfl (Y_move rfl) ?_
            refine TF_y rfl rfl (Y_index_n (R := votedR) (xs := (onP p m).2.2) rfl rfl rfl hv) ?_
            refine TF_y rfl rfl (Y_field_addr2 rfl) ?_
            refine TF_y rfl rfl (Y_load_nx (xs := (onP p m).2.2) (u := v) (v := .int .i64 v.slot) rfl (sln (c := cco)) hv (fun _ ↦ rfl)) ?_
            refine TF_y rfl rfl (Y_eq rfl rfl) ?_
            refine TF_y rfl rfl (Y_move rfl) ?_
            refine TF_splitd 100 rfl (fun h100 => ?_) (fun h100 => ?_)
            · refine TF_gy rfl rfl rfl rfl (Y_move rfl) ?_
              refine TF_gy rfl rfl rfl rfl (Y_nil_check rfl) ?_
              refine TF_gy rfl rfl rfl rfl (Y_field_addr rfl) ?_
              refine TF_gy rfl rfl rfl rfl (Y_load rfl rfl) ?_
              refine TF_gy rfl rfl rfl rfl (Y_move rfl) ?_
              refine TF_gy rfl rfl rfl rfl (Y_index_n (R := votedR) (xs := ch ++ (onP p m).2.2.take i) rfl rfl rfl hu) ?_
              refine TF_gy rfl rfl rfl rfl (Y_field_addr2 rfl) ?_
              refine TF_gy rfl rfl rfl rfl (Y_move rfl) ?_
              refine TF_gy rfl rfl rfl rfl (Y_move rfl) ?_
              refine TF_gy rfl rfl rfl rfl (Y_index_n (R := votedR) (xs := (onP p m).2.2) rfl rfl rfl hv) ?_
              refine TF_gy rfl rfl rfl rfl (Y_field_addr2 rfl) ?_
              refine TF_anchor rfl ?_
              refine TL_grun rfl rfl ?_
              refine TL_load_nx (xs := ch ++ (onP p m).2.2.take i) rfl rfl (sln (c := cc2)) hu (fun _ => rfl) ?_
              intro p108 ok108
              simp only [List.cons_append, List.nil_append]
              refine TF_end GivesTo.g ?_
              refine TF_anchor rfl ?_
              refine TL_grun rfl rfl ?_
              refine TL_load_nx (xs := (onP p m).2.2) rfl rfl (sln (c := cco)) hv (fun _ => rfl) ?_
              intro p113 ok113
              simp only [List.cons_append, List.nil_append]
              refine TF_end GivesTo.g ?_
              refine TF_anchor rfl ?_
              refine TL_grun rfl rfl ?_
              refine TL_call rfl rfl (sameEntry_spec u.en v.en (A := p108.1) (c := p108.2) (B := p113.1) (d := p113.2) sln sln) ?_
              rintro _ _ ⟨rfl, rfl⟩
              refine TL_name 114 (v' := .bool true) rfl (congrArg Value.bool (decide_eq_true (hsu h100))) ?_
              refine TF_end GivesTo.g ?_
              refine TF_gy rfl rfl rfl rfl (Y_not_t rfl) ?_
              refine TF_y rfl rfl (Y_pick_t rfl rfl) ?_
              refine TF_nil ?_
              refine thenS_normal ?_
              refine T_cond_false rfl ?_
              refine T_skip ?_
              refine inB_normal ?_
              refine thenS_normal ?_
              refine T_region_last ?_
              refine TL_y rfl rfl (Y_move rfl) ?_
              refine TL_y rfl rfl (Y_add rfl rfl (by omega)) ?_
              refine TL_name 85 (v' := .int .i64 ((j + 1 : Nat) : Int)) rfl (rfl) ?_
              refine TL_y rfl rfl (Y_assign rfl) ?_
              refine TL_nil ?_
              refine thenS_normal ?_
              exact ⟨j + 1, (by omega), by omega, holds_to (sub_cons rfl (sub_cons rfl (sub_cons rfl (sub_cons rfl (sub_nil))))) GivesTo.g⟩
            · refine TF_gskip rfl rfl rfl rfl rfl ?_
              refine TF_gskip rfl rfl rfl rfl rfl ?_
              refine TF_gskip rfl rfl rfl rfl rfl ?_
              refine TF_gskip rfl rfl rfl rfl rfl ?_
              refine TF_gskip rfl rfl rfl rfl rfl ?_
              refine TF_gskip rfl rfl rfl rfl rfl ?_
              refine TF_gskip rfl rfl rfl rfl rfl ?_
              refine TF_gskip rfl rfl rfl rfl rfl ?_
              refine TF_gskip rfl rfl rfl rfl rfl ?_
              refine TF_gskip rfl rfl rfl rfl rfl ?_
              refine TF_gskip rfl rfl rfl rfl rfl ?_
              refine TF_anchor rfl ?_
              refine TL_gskip rfl rfl rfl rfl ?_
              refine TF_end GivesTo.g ?_
              refine TF_anchor rfl ?_
              refine TL_gskip rfl rfl rfl rfl ?_
              refine TF_end GivesTo.g ?_
              refine TF_anchor rfl ?_
              refine TL_gskip rfl rfl rfl rfl ?_
              refine TF_end GivesTo.g ?_
              refine TF_gskip rfl rfl rfl rfl rfl ?_
              refine TF_y rfl rfl (Y_pick_f rfl rfl) ?_
              refine TF_nil ?_
              refine thenS_normal ?_
              refine T_cond_false rfl ?_
              refine T_skip ?_
              refine inB_normal ?_
              refine thenS_normal ?_
              refine T_region_last ?_
              refine TL_y rfl rfl (Y_move rfl) ?_
              refine TL_y rfl rfl (Y_add rfl rfl (by omega)) ?_
              refine TL_name 85 (v' := .int .i64 ((j + 1 : Nat) : Int)) rfl (rfl) ?_
              refine TL_y rfl rfl (Y_assign rfl) ?_
              refine TL_nil ?_
              refine thenS_normal ?_
              exact ⟨j + 1, (by omega), by omega, holds_to (sub_cons rfl (sub_cons rfl (sub_cons rfl (sub_cons rfl (sub_nil))))) GivesTo.g⟩
          · refine RD_leaf (cells b (grC ⟨n, PB.set k (bp, (onP p m).1), AB, bag ++ (onP p m).2.1, ch ++ (onP p m).2.2.take i, some ⟨bz, oz, none⟩, pc, some ⟨bl, ol, none⟩, acc, A68, c68, some ⟨bu, ou, none⟩, cc2⟩) 99 :: osl votedR 50 (some ⟨bu, ou, none⟩) cc2 (ch ++ (onP p m).2.2.take i) :: osl votedR 50 (some ⟨bv, ov, none⟩) cco (onP p m).2.2 :: []) [0, 1, 3, 7, 0, 31, 63, 127, 0, 0, 768, 1792, 3840, 8191, 16383, 32767, 65535, 131071, 262143, 32767, 1048575, 2097151, 264241151, 32767, 32767, 25198591, 58753023, 125861887, 268435455, 536870911, 1073741823] [] [(0, true), (1, true), (2, true), (3, true), (4, true), (5, true), (6, true), (7, true), (8, true), (9, true), (10, true), (11, true), (12, true), (13, true), (14, true), (15, true), (16, true), (17, true), (18, true), (19, true), (20, true), (21, true), (23, true), (24, true), (25, true), (26, true), (27, false), (22, false), (28, false), (29, true), (30, true)] (by decide +kernel) GivesTo.g ?_
            refine TF_y rfl rfl (Y_move rfl) ?_
            refine TF_y rfl rfl (Y_nil_check rfl) ?_
            refine TF_y rfl rfl (Y_field_addr rfl) ?_
            refine TF_y rfl rfl (Y_load rfl rfl) ?_
            refine TF_y rfl rfl (Y_move rfl) ?_
            refine TF_y rfl rfl (Y_index_n (R := votedR) (xs := ch ++ (onP p m).2.2.take i) rfl rfl rfl hu) ?_
            refine TF_y rfl rfl (Y_field_addr2 rfl) ?_
            refine TF_y rfl rfl (Y_load_nx (xs := ch ++ (onP p m).2.2.take i) (u := u) (v := .int .i64 u.slot) rfl (sln (c := cc2)) hu (fun _ ↦ rfl)) ?_
            refine TF_y rfl rfl (Y_move rfl) ?_
            refine TF_y rfl rfl (Y_move rfl) ?_
            refine TF_y rfl rfl (Y_index_n (R := votedR) (xs := (onP p m).2.2) rfl rfl rfl hv) ?_
            refine TF_y rfl rfl (Y_field_addr2 rfl) ?_
            refine TF_y rfl rfl (Y_load_nx (xs := (onP p m).2.2) (u := v) (v := .int .i64 v.slot) rfl (sln (c := cco)) hv (fun _ ↦ rfl)) ?_
            refine TF_y rfl rfl (Y_eq rfl rfl) ?_
            refine TF_y rfl rfl (Y_move rfl) ?_
            refine TF_splitd 100 rfl (fun h100 => ?_) (fun h100 => ?_)
            · refine TF_gy rfl rfl rfl rfl (Y_move rfl) ?_
              refine TF_gy rfl rfl rfl rfl (Y_nil_check rfl) ?_
              refine TF_gy rfl rfl rfl rfl (Y_field_addr rfl) ?_
              refine TF_gy rfl rfl rfl rfl (Y_load rfl rfl) ?_
              refine TF_gy rfl rfl rfl rfl (Y_move rfl) ?_
              refine TF_gy rfl rfl rfl rfl (Y_index_n (R := votedR) (xs := ch ++ (onP p m).2.2.take i) rfl rfl rfl hu) ?_
              refine TF_gy rfl rfl rfl rfl (Y_field_addr2 rfl) ?_
              refine TF_gy rfl rfl rfl rfl (Y_move rfl) ?_
              refine TF_gy rfl rfl rfl rfl (Y_move rfl) ?_
              refine TF_gy rfl rfl rfl rfl (Y_index_n (R := votedR) (xs := (onP p m).2.2) rfl rfl rfl hv) ?_
              refine TF_gy rfl rfl rfl rfl (Y_field_addr2 rfl) ?_
              refine TF_anchor rfl ?_
              refine TL_grun rfl rfl ?_
              refine TL_load_nx (xs := (onP p m).2.2) rfl rfl (sln (c := cco)) hv (fun _ => rfl) ?_
              intro p113 ok113
              simp only [List.cons_append, List.nil_append]
              refine TF_end GivesTo.g ?_
              refine TF_anchor rfl ?_
              refine TL_grun rfl rfl ?_
              refine TL_load_nx (xs := ch ++ (onP p m).2.2.take i) rfl rfl (sln (c := cc2)) hu (fun _ => rfl) ?_
              intro p108 ok108
              simp only [List.cons_append, List.nil_append]
              refine TF_end GivesTo.g ?_
              refine TF_anchor rfl ?_
              refine TL_grun rfl rfl ?_
              refine TL_call rfl rfl (sameEntry_spec u.en v.en (A := p108.1) (c := p108.2) (B := p113.1) (d := p113.2) sln sln) ?_
              rintro _ _ ⟨rfl, rfl⟩
              refine TL_name 114 (v' := .bool true) rfl (congrArg Value.bool (decide_eq_true (hsu h100))) ?_
              refine TF_end GivesTo.g ?_
              refine TF_gy rfl rfl rfl rfl (Y_not_t rfl) ?_
              refine TF_y rfl rfl (Y_pick_t rfl rfl) ?_
              refine TF_nil ?_
              refine thenS_normal ?_
              refine T_cond_false rfl ?_
              refine T_skip ?_
              refine inB_normal ?_
              refine thenS_normal ?_
              refine T_region_last ?_
              refine TL_y rfl rfl (Y_move rfl) ?_
              refine TL_y rfl rfl (Y_add rfl rfl (by omega)) ?_
              refine TL_name 85 (v' := .int .i64 ((j + 1 : Nat) : Int)) rfl (rfl) ?_
              refine TL_y rfl rfl (Y_assign rfl) ?_
              refine TL_nil ?_
              refine thenS_normal ?_
              exact ⟨j + 1, (by omega), by omega, holds_to (sub_cons rfl (sub_cons rfl (sub_cons rfl (sub_cons rfl (sub_nil))))) GivesTo.g⟩
            · refine TF_gskip rfl rfl rfl rfl rfl ?_
              refine TF_gskip rfl rfl rfl rfl rfl ?_
              refine TF_gskip rfl rfl rfl rfl rfl ?_
              refine TF_gskip rfl rfl rfl rfl rfl ?_
              refine TF_gskip rfl rfl rfl rfl rfl ?_
              refine TF_gskip rfl rfl rfl rfl rfl ?_
              refine TF_gskip rfl rfl rfl rfl rfl ?_
              refine TF_gskip rfl rfl rfl rfl rfl ?_
              refine TF_gskip rfl rfl rfl rfl rfl ?_
              refine TF_gskip rfl rfl rfl rfl rfl ?_
              refine TF_gskip rfl rfl rfl rfl rfl ?_
              refine TF_anchor rfl ?_
              refine TL_gskip rfl rfl rfl rfl ?_
              refine TF_end GivesTo.g ?_
              refine TF_anchor rfl ?_
              refine TL_gskip rfl rfl rfl rfl ?_
              refine TF_end GivesTo.g ?_
              refine TF_anchor rfl ?_
              refine TL_gskip rfl rfl rfl rfl ?_
              refine TF_end GivesTo.g ?_
              refine TF_gskip rfl rfl rfl rfl rfl ?_
              refine TF_y rfl rfl (Y_pick_f rfl rfl) ?_
              refine TF_nil ?_
              refine thenS_normal ?_
              refine T_cond_false rfl ?_
              refine T_skip ?_
              refine inB_normal ?_
              refine thenS_normal ?_
              refine T_region_last ?_
              refine TL_y rfl rfl (Y_move rfl) ?_
              refine TL_y rfl rfl (Y_add rfl rfl (by omega)) ?_
              refine TL_name 85 (v' := .int .i64 ((j + 1 : Nat) : Int)) rfl (rfl) ?_
              refine TL_y rfl rfl (Y_assign rfl) ?_
              refine TL_nil ?_
              refine thenS_normal ?_
              exact ⟨j + 1, (by omega), by omega, holds_to (sub_cons rfl (sub_cons rfl (sub_cons rfl (sub_cons rfl (sub_nil))))) GivesTo.g⟩
        · refine T_exit ?_
          refine thenS_exit ?_
          refine thenS_exit ?_
          refine inB_hit ?_
          refine thenS_normal ?_
          refine T_region_draw_last (cells b (grC ⟨n, PB.set k (bp, (onP p m).1), AB, bag ++ (onP p m).2.1, ch ++ (onP p m).2.2.take i, some ⟨bz, oz, none⟩, pc, some ⟨bl, ol, none⟩, acc, A68, c68, ca2, cc2⟩) 99 :: osl votedR 50 (some ⟨bv, ov, none⟩) cco (onP p m).2.2 :: []) [0, 0, 2, 6, 14, 0, 0, 96, 224, 480, 1022, 2047, 4095, 8191] [13] [(0, true), (1, true), (2, true), (3, true), (4, true), (5, true), (6, true), (7, true), (8, false), (9, false), (10, false), (11, true), (12, true), (13, false)] (by kernel_rfl) (by decide +kernel) GivesTo.g ?_
          refine TF_y rfl rfl (Y_move rfl) ?_
          refine TF_y rfl rfl (Y_move rfl) ?_
          refine TF_y rfl rfl (Y_nil_check rfl) ?_
          refine TF_y rfl rfl (Y_field_addr rfl) ?_
          refine TF_y rfl rfl (Y_load rfl rfl) ?_
          refine TF_name 121 (v' := .slice ca2 (ch ++ (onP p m).2.2.take i).length cc2) rfl (rfl) ?_
          refine TF_y rfl rfl (Y_move rfl) ?_
          refine TF_y rfl rfl (Y_move rfl) ?_
          refine TF_y rfl rfl (Y_index_n (R := votedR) (xs := (onP p m).2.2) rfl rfl rfl hv) ?_
          refine TF_anchor rfl ?_
          refine TL_load_nx (xs := (onP p m).2.2) rfl rfl (sln (c := cco)) hv (fun _ => rfl) ?_
          intro p125 ok125
          simp only [List.cons_append, List.nil_append]
          refine TF_end GivesTo.g ?_
          refine TF_anchor rfl ?_
          refine TL_build_slice rfl rfl rfl rfl rfl rfl ?_
          intro b126
          refine TL_osl (k := 1) votedR [v] (cells_one' (ex_rep p125 (sep_sl slk) ok125)) rfl (by decide) ?_
          refine TL_freeze_osl ?_
          refine TL_name 126 (v' := .slice (some ⟨b126, 0, none⟩) [v].length 1) rfl rfl ?_
          refine TF_end GivesTo.g ?_
          refine TF_anchor rfl ?_
          refine TL_append rfl rfl rfl rfl rfl slk (by simp only [List.length_cons, List.length_nil]; omega) ?_
          intro A127 c127
          rw [List.append_assoc, ← htk]
          refine TF_end GivesTo.g ?_
          refine TF_y rfl rfl (Y_nil_check rfl) ?_
          refine TF_y rfl rfl (Y_field_addr rfl) ?_
          refine TF_anchor rfl ?_
          refine TL_store rfl rfl rfl rfl rfl rfl ?_
          refine TF_end_tail rfl ?_
          refine TF_nil ?_
          refine inB_normal ?_
          refine thenS_normal ?_
          refine T_region_last ?_
          refine TL_y rfl rfl (Y_move rfl) ?_
          refine TL_y rfl rfl (Y_add rfl rfl (by omega)) ?_
          refine TL_name 76 (v' := .int .i64 ((i + 1 : Nat) : Int)) rfl (rfl) ?_
          refine TL_y rfl rfl (Y_assign rfl) ?_
          refine TL_nil ?_
          refine thenS_normal ?_
          exact ⟨⟨i + 1, A127, c127⟩, (by simp only; omega), by simp only; omega, holds_to (sub_cons rfl (sub_cons rfl (sub_cons rfl (sub_nil)))) GivesTo.g⟩
      · refine T_exit ?_
        refine thenS_exit ?_
        refine thenS_exit ?_
        refine inB_hit ?_
        refine thenS_normal ?_
        refine T_region ?_
        refine TL_y rfl rfl (Y_assign rfl) ?_
        refine TL_nil ?_
        refine T_ret ?_
        rw [List.take_of_length_le (show (onP p m).2.2.length ≤ i by omega)]
        refine RetQ.gives (gr_close b ⟨n, PB.set k (bp, (onP p m).1), AB, bag ++ (onP p m).2.1, ch ++ (onP p m).2.2, some ⟨bz, oz, none⟩, pc, some ⟨bl, ol, none⟩, acc, A68, c68, ca2, cc2⟩ (comesG (GrS.pl ⟨n, PB, AB, bag, ch, some ⟨bz, oz, none⟩, pc, some ⟨bl, ol, none⟩, acc, ba, bc, ca, cc⟩) k p a m) (by unfold comesG; rw [if_neg h38]; unfold comesP GrS.pl; dsimp only; rw [snd_set])) ?_
        exact RetG_1 (.inl rfl) rfl (ResV.tmp rfl) GivesTo.g (⟨rfl, rfl⟩)
  · refine RD_leaf (cells b (grC ⟨n, PB, AB, bag, ch, pa, pc, some ⟨bl, ol, none⟩, acc, ba, bc, ca, cc⟩) 99 :: osl ptrR 35 (some ⟨bl, ol, none⟩) acc (bs1 AB) :: cells b3 (msgC m q) 44 :: []) [0, 1, 3, 7, 0, 16, 63, 127, 0, 16895, 17407, 18431, 18431, 18431, 0, 20479, 57343, 131071] [] [(0, true), (1, true), (2, true), (3, true), (4, true), (5, true), (6, true), (7, true), (8, true), (14, false), (9, false), (10, true), (11, true), (12, true), (13, true), (15, false), (16, true), (17, true)] (by decide +kernel) GivesTo.g ?_
    refine TF_y rfl rfl (Y_move rfl) ?_
    refine TF_y rfl rfl (Y_nil_check rfl) ?_
    refine TF_y rfl rfl (Y_field_addr rfl) ?_
    refine TF_y rfl rfl (Y_load rfl rfl) ?_
    refine TF_y rfl rfl (Y_field_addr rfl) ?_
    refine TF_y rfl rfl (Y_load rfl rfl) ?_
    refine TF_name 30 (v' := .int .i64 (k : Int)) rfl (by rw [ht]) ?_
    refine TF_y rfl rfl (Y_index_n (R := ptrR) (xs := bs1 AB) rfl rfl rfl hua) ?_
    refine TF_y rfl rfl (Y_load_n (R := ptrR) (c := acc) (xs := bs1 AB) (q := 0) rfl sln hua rfl) ?_
    refine TF_y rfl rfl (Y_load_agg rfl rfl) ?_
    refine TF_anchor rfl ?_
    refine TL_alloc rfl rfl ?_
    intro b5
    refine TF_end GivesTo.g ?_
    refine TF_anchor rfl ?_
    refine TL_pullk bq ?_
    refine TL_call rfl rfl (acOn_spec m q hx (MsgK.of_gives GivesTo.g hk) hc) ?_
    rintro _ _ ⟨q34, rfl, rfl⟩
    refine TF_end GivesTo.g ?_
    refine TF_y rfl rfl (Y_move rfl) ?_
    refine TF_y rfl rfl (Y_extract rfl rfl) ?_
    refine TF_y rfl rfl (Y_extract rfl rfl) ?_
    refine TF_y rfl rfl (Y_extract rfl rfl) ?_
    refine TF_anchor rfl ?_
    refine TL_store rfl rfl rfl rfl rfl rfl ?_
    refine TF_end GivesTo.g ?_
    refine TF_y rfl rfl (Y_assign rfl) ?_
    refine TF_y rfl rfl (Y_assign rfl) ?_
    refine TF_nil ?_
    refine thenS_normal ?_
    refine T_seq ?_
    refine T_region ?_
    refine TL_y rfl rfl (Y_move rfl) ?_
    refine TL_nil ?_
    refine T_if rfl (fun h38 => ?_) (fun h38 => ?_)
    · refine T_region_draw (cells b (grC ⟨n, PB, AB, bag, ch, pa, pc, some ⟨bl, ol, none⟩, acc, ba, bc, ca, cc⟩) 99 :: cells b5 (msgC (repA a m) q34) 44 :: []) [0, 0, 2, 6, 14, 0, 32, 126, 255, 511, 1023] [10] [(0, true), (1, true), (2, true), (3, true), (4, true), (5, true), (6, false), (7, false), (8, true), (9, true), (10, false)] (by kernel_rfl) (by decide +kernel) GivesTo.g ?_
      refine TF_y rfl rfl (Y_move rfl) ?_
      refine TF_y rfl rfl (Y_move rfl) ?_
      refine TF_y rfl rfl (Y_nil_check rfl) ?_
      refine TF_y rfl rfl (Y_field_addr rfl) ?_
      refine TF_y rfl rfl (Y_load rfl rfl) ?_
      refine TF_y rfl rfl (Y_load_agg rfl rfl) ?_
      refine TF_anchor rfl ?_
      refine TL_build_slice rfl rfl rfl rfl rfl rfl ?_
      intro b45
      refine TL_osl (k := 1) msgR [repA a m] (cells_one' (ex_rep q34 (sep_msg ⟨slk, slk, slk, slk⟩) (repA_ok hai hx h38))) rfl (by decide) ?_
      refine TL_freeze_osl ?_
      refine TL_name 45 (v' := .slice (some ⟨b45, 0, none⟩) [repA a m].length 1) rfl rfl ?_
      refine TF_end GivesTo.g ?_
      refine TF_anchor rfl ?_
      refine TL_append rfl rfl rfl rfl rfl slk (by simp only [List.length_cons, List.length_nil]; omega) ?_
      intro A46 c46
      refine TF_end GivesTo.g ?_
      refine TF_y rfl rfl (Y_nil_check rfl) ?_
      refine TF_y rfl rfl (Y_field_addr rfl) ?_
      refine TF_anchor rfl ?_
      refine TL_store rfl rfl rfl rfl rfl rfl ?_
      refine TF_end_tail rfl ?_
      refine TF_nil ?_
      refine T_region ?_
      refine TL_y rfl rfl (Y_assign rfl) ?_
      refine TL_nil ?_
      refine T_ret ?_
      refine thenS_ret ?_
      rw [← bs1_set hza (stA a m)]
      refine RetQ.gives (acPut (stA a m) hza) ?_
      refine RetQ.gives (gr_close b ⟨n, PB, AB.set k (bq, stA a m), bag ++ [repA a m], ch, pa, pc, some ⟨bl, ol, none⟩, acc, A46, c46, ca, cc⟩ (comesG (GrS.pl ⟨n, PB, AB, bag, ch, pa, pc, some ⟨bl, ol, none⟩, acc, ba, bc, ca, cc⟩) k p a m) (by unfold comesG; rw [if_pos h38]; unfold comesA GrS.pl; dsimp only; rw [snd_set])) ?_
      exact RetG_1 (.inl rfl) rfl (ResV.tmp rfl) GivesTo.g (⟨rfl, rfl⟩)
    · refine T_skip ?_
      refine thenS_normal ?_
      have hst : stA a m = a := (by unfold stA; rw [if_neg (fun h => h38 h.1)])
      rw [hst]
      refine T_gives (acPut a hza) ?_
      rw [set_self hza]
      refine T_addr_n (sln (A := pa) (c := pc) (R := ptrR)) hup fun bz oz ez => ?_
      subst ez
      refine T_prTake hzp ?_
      refine T_prI fun hpi => ?_
      have hon := onP_node hpi m
      refine T_region_draw (cells b (grC ⟨n, PB, AB, bag, ch, some ⟨bz, oz, none⟩, pc, some ⟨bl, ol, none⟩, acc, ba, bc, ca, cc⟩) 99 :: osl ptrR 70 (some ⟨bz, oz, none⟩) pc (bs1 PB) :: cells b3 (msgC m q) 44 :: []) [0, 1, 3, 7, 0, 16, 63, 127, 0, 511, 1023, 2047, 2047, 4095, 16383] [] [(0, true), (1, true), (2, true), (3, true), (4, true), (5, true), (6, true), (7, true), (8, true), (9, false), (10, true), (11, true), (12, true), (13, true), (14, true)] (by kernel_rfl) (by decide +kernel) GivesTo.g ?_
      refine TF_y rfl rfl (Y_move rfl) ?_
      refine TF_y rfl rfl (Y_nil_check rfl) ?_
      refine TF_y rfl rfl (Y_field_addr rfl) ?_
      refine TF_y rfl rfl (Y_load rfl rfl) ?_
      refine TF_y rfl rfl (Y_field_addr rfl) ?_
      refine TF_y rfl rfl (Y_load rfl rfl) ?_
      refine TF_name 55 (v' := .int .i64 (k : Int)) rfl (by rw [ht]) ?_
      refine TF_y rfl rfl (Y_index_n (R := ptrR) (xs := bs1 PB) rfl rfl rfl hup) ?_
      refine TF_y rfl rfl (Y_load_n (R := ptrR) (c := pc) (xs := bs1 PB) (q := 0) rfl sln hup rfl) ?_
      refine TF_y rfl rfl (Y_load_agg rfl rfl) ?_
      refine TF_anchor rfl ?_
      refine TL_pullk bp ?_
      refine TL_call rfl rfl (prOn_spec m q hx (MsgK.of_gives GivesTo.g hk) hc) ?_
      rintro _ _ ⟨Ao, co, Ac, cco, rfl, rfl⟩
      refine TL_freeze_osl ?_
      refine TF_end GivesTo.g ?_
      refine TF_y rfl rfl (Y_move rfl) ?_
      refine TF_y rfl rfl (Y_extract rfl rfl) ?_
      refine TF_y rfl rfl (Y_extract rfl rfl) ?_
      refine TF_y rfl rfl (Y_assign rfl) ?_
      refine TF_y rfl rfl (Y_assign rfl) ?_
      refine TF_nil ?_
      refine T_region ?_
      refine TL_y rfl rfl (Y_move rfl) ?_
      refine TL_y rfl rfl (Y_move rfl) ?_
      refine TL_y rfl rfl (Y_nil_check rfl) ?_
      refine TL_y rfl rfl (Y_field_addr rfl) ?_
      refine TL_y rfl rfl (Y_load rfl rfl) ?_
      refine TL_y rfl rfl (Y_move rfl) ?_
      refine TL_append rfl rfl rfl rfl rfl slk (by (try simp only [List.length_append, List.length_cons, List.length_nil]); omega) ?_
      intro A68 c68
      refine TL_y rfl rfl (Y_nil_check rfl) ?_
      refine TL_y rfl rfl (Y_field_addr rfl) ?_
      refine TL_store rfl rfl rfl rfl rfl rfl ?_
      refine TL_nil ?_
      refine T_seq ?_
      rw [← bs1_set hzp (onP p m).1]
      refine T_gives (prPut (onP p m).1 hzp) ?_
      refine T_region ?_
      refine TL_y rfl rfl (Y_assign rfl) ?_
      refine TL_nil ?_
      refine T_block ?_
      refine T_loopK (σ := CmSt) [0, 9] (fun g => g.i ≤ (onP p m).2.2.length) (fun g kv => (10, .int .i64 (g.i : Int)) :: kv) (fun g => cells b (grC ⟨n, PB.set k (bp, (onP p m).1), AB, bag ++ (onP p m).2.1, ch ++ (onP p m).2.2.take g.i, some ⟨bz, oz, none⟩, pc, some ⟨bl, ol, none⟩, acc, A68, c68, g.A, g.c⟩) 99 :: osl votedR 50 g.A g.c (ch ++ (onP p m).2.2.take g.i) :: osl votedR 50 Ac cco (onP p m).2.2 :: osl ptrR 70 (some ⟨bz, oz, none⟩) pc (bs1 (PB.set k (bp, (onP p m).1))) :: osl ptrR 35 (some ⟨bl, ol, none⟩) acc (bs1 AB) :: osl msgR 44 A68 c68 (bag ++ (onP p m).2.1) :: allH (prHs (PB.set k (bp, (onP p m).1))) :: allH (acHs AB) :: L) (fun g => (onP p m).2.2.length - g.i) (⟨0, ca, cc⟩) rfl (Nat.zero_le _) ((by rw [List.take_zero, List.append_nil]; exact GivesTo.g)) (sub_cons rfl (sub_cons rfl (sub_cons rfl (sub_nil)))) ?_
      rintro ⟨i, ca2, cc2⟩ hil
      dsimp only at hil ⊢
      refine T_seq ?_
      refine T_region ?_
      refine TL_y rfl rfl (Y_move rfl) ?_
      refine TL_y rfl rfl (Y_move rfl) ?_
      refine TL_y rfl rfl (Y_len rfl) ?_
      refine TL_y rfl rfl (Y_lt rfl rfl) ?_
      refine TL_nil ?_
      refine T_if rfl (fun h74 => ?_) (fun h74 => ?_)
      · refine T_skip ?_
        refine thenS_normal ?_
        refine T_seq ?_
        refine T_block ?_
        refine T_seq ?_
        obtain ⟨v, hv⟩ : ∃ v, (onP p m).2.2[i]? = some v := ⟨_, List.getElem?_eq_getElem (by omega)⟩
        have hvm := List.mem_of_getElem? hv
        have hi0 : i = 0 := (by omega)
        have htk := takeAt hv
        refine T_addr_n (sln (A := Ac) (c := cco)) hv fun bv ov ev => ?_
        subst ev
        refine T_region ?_
        refine TL_y rfl rfl (Y_assign rfl) ?_
        refine TL_nil ?_
        refine T_block ?_
        refine T_loopK (σ := Nat) [0, 9, 10] (fun j => j ≤ (ch ++ (onP p m).2.2.take i).length) (fun j kv => (11, .int .i64 (j : Int)) :: kv) (fun j => cells b (grC ⟨n, PB.set k (bp, (onP p m).1), AB, bag ++ (onP p m).2.1, ch ++ (onP p m).2.2.take i, some ⟨bz, oz, none⟩, pc, some ⟨bl, ol, none⟩, acc, A68, c68, ca2, cc2⟩) 99 :: osl votedR 50 ca2 cc2 (ch ++ (onP p m).2.2.take i) :: osl votedR 50 (some ⟨bv, ov, none⟩) cco (onP p m).2.2 :: osl ptrR 70 (some ⟨bz, oz, none⟩) pc (bs1 (PB.set k (bp, (onP p m).1))) :: osl ptrR 35 (some ⟨bl, ol, none⟩) acc (bs1 AB) :: osl msgR 44 A68 c68 (bag ++ (onP p m).2.1) :: allH (prHs (PB.set k (bp, (onP p m).1))) :: allH (acHs AB) :: L) (fun j => (ch ++ (onP p m).2.2.take i).length - j) (0) rfl (Nat.zero_le _) (GivesTo.g) (sub_cons rfl (sub_cons rfl (sub_cons rfl (sub_cons rfl (sub_nil))))) ?_
        intro j hjl
        have hcl : (ch ++ (onP p m).2.2.take i).length = ch.length := (by rw [hi0]; simp)
        refine T_seq ?_
        refine T_region ?_
        refine TL_y rfl rfl (Y_move rfl) ?_
        refine TL_y rfl rfl (Y_move rfl) ?_
        refine TL_y rfl rfl (Y_nil_check rfl) ?_
        refine TL_y rfl rfl (Y_field_addr rfl) ?_
        refine TL_y rfl rfl (Y_load rfl rfl) ?_
        refine TL_y rfl rfl (Y_len rfl) ?_
        refine TL_name 82 (v' := .int .i64 (((ch ++ (onP p m).2.2.take i).length : Nat) : Int)) rfl (rfl) ?_
        refine TL_y rfl rfl (Y_lt rfl rfl) ?_
        refine TL_nil ?_
        refine T_if rfl (fun h83 => ?_) (fun h83 => ?_)
        · refine T_skip ?_
          refine thenS_normal ?_
          refine T_seq ?_
          refine T_block ?_
          obtain ⟨u, hu⟩ : ∃ u, (ch ++ (onP p m).2.2.take i)[j]? = some u := ⟨_, List.getElem?_eq_getElem (by omega)⟩
          have hum : u ∈ ch := (by have := List.mem_of_getElem? hu; rw [hi0] at this; simpa using this)
          have hsu := hsafe2 v hvm h38 u hum
          refine T_addr_n (sln (A := ca2) (c := cc2)) hu fun bu ou eu => ?_
          subst eu
          refine T_rd [0, 1, 3, 7, 0, 31, 63, 127, 0, 0, 768, 1792, 3840, 8191, 16383, 32767, 65535, 131071, 262143, 32767, 1048575, 2097151, 4194303, 32767, 32767, 25198591, 58753023, 125861887, 268435455, 536870911, 1073741823] (by kernel_rfl) (by decide +kernel) ?_
          refine RD_pair 22 27 (by decide) ?_ ?_
          · refine RD_leaf (cells b (grC ⟨n, PB.set k (bp, (onP p m).1), AB, bag ++ (onP p m).2.1, ch ++ (onP p m).2.2.take i, some ⟨bz, oz, none⟩, pc, some ⟨bl, ol, none⟩, acc, A68, c68, some ⟨bu, ou, none⟩, cc2⟩) 99 :: osl votedR 50 (some ⟨bu, ou, none⟩) cc2 (ch ++ (onP p m).2.2.take i) :: osl votedR 50 (some ⟨bv, ov, none⟩) cco (onP p m).2.2 :: []) [0, 1, 3, 7, 0, 31, 63, 127, 0, 0, 768, 1792, 3840, 8191, 16383, 32767, 65535, 131071, 262143, 32767, 1048575, 2097151, 4194303, 32767, 32767, 25198591, 58753023, 134217727, 268435455, 536870911, 1073741823] [] [(0, true), (1, true), (2, true), (3, true), (4, true), (5, true), (6, true), (7, true), (8, true), (9, true), (10, true), (11, true), (12, true), (13, true), (14, true), (15, true), (16, true), (17, true), (18, true), (19, true), (20, true), (21, true), (23, true), (24, true), (25, true), (26, true), (22, false), (27, false), (28, false), (29, true), (30, true)] (by decide +kernel) GivesTo.g ?_
            refine TF_y rfl rfl (Y_move rfl) ?_
            refine TF_y rfl rfl (Y_nil_check rfl) ?_
            refine TF_y rfl rfl (Y_field_addr rfl) ?_
            refine TF_y rfl rfl (Y_load rfl rfl) ?_
            refine TF_y rfl rfl (Y_move rfl) ?_
            refine TF_y rfl rfl (Y_index_n (R := votedR) (xs := ch ++ (onP p m).2.2.take i) rfl rfl rfl hu) ?_
            refine TF_y rfl rfl (Y_field_addr2 rfl) ?_
            refine TF_y rfl rfl (Y_load_nx (xs := ch ++ (onP p m).2.2.take i) (u := u) (v := .int .i64 u.slot) rfl (sln (c := cc2)) hu (fun _ ↦ rfl)) ?_
            refine TF_y rfl rfl (Y_move rfl) ?_
            refine TF_y rfl rfl (Y_move rfl) ?_
            refine TF_y rfl rfl (Y_index_n (R := votedR) (xs := (onP p m).2.2) rfl rfl rfl hv) ?_
            refine TF_y rfl rfl (Y_field_addr2 rfl) ?_
            refine TF_y rfl rfl (Y_load_nx (xs := (onP p m).2.2) (u := v) (v := .int .i64 v.slot) rfl (sln (c := cco)) hv (fun _ ↦ rfl)) ?_
            refine TF_y rfl rfl (Y_eq rfl rfl) ?_
            refine TF_y rfl rfl (Y_move rfl) ?_
            refine TF_splitd 100 rfl (fun h100 => ?_) (fun h100 => ?_)
            · refine TF_gy rfl rfl rfl rfl (Y_move rfl) ?_
              refine TF_gy rfl rfl rfl rfl (Y_nil_check rfl) ?_
              refine TF_gy rfl rfl rfl rfl (Y_field_addr rfl) ?_
              refine TF_gy rfl rfl rfl rfl (Y_load rfl rfl) ?_
              refine TF_gy rfl rfl rfl rfl (Y_move rfl) ?_
              refine TF_gy rfl rfl rfl rfl (Y_index_n (R := votedR) (xs := ch ++ (onP p m).2.2.take i) rfl rfl rfl hu) ?_
              refine TF_gy rfl rfl rfl rfl (Y_field_addr2 rfl) ?_
              refine TF_gy rfl rfl rfl rfl (Y_move rfl) ?_
              refine TF_gy rfl rfl rfl rfl (Y_move rfl) ?_
              refine TF_gy rfl rfl rfl rfl (Y_index_n (R := votedR) (xs := (onP p m).2.2) rfl rfl rfl hv) ?_
              refine TF_gy rfl rfl rfl rfl (Y_field_addr2 rfl) ?_
              refine TF_anchor rfl ?_
              refine TL_grun rfl rfl ?_
              refine TL_load_nx (xs := ch ++ (onP p m).2.2.take i) rfl rfl (sln (c := cc2)) hu (fun _ => rfl) ?_
              intro p108 ok108
              simp only [List.cons_append, List.nil_append]
              refine TF_end GivesTo.g ?_
              refine TF_anchor rfl ?_
              refine TL_grun rfl rfl ?_
              refine TL_load_nx (xs := (onP p m).2.2) rfl rfl (sln (c := cco)) hv (fun _ => rfl) ?_
              intro p113 ok113
              simp only [List.cons_append, List.nil_append]
              refine TF_end GivesTo.g ?_
              refine TF_anchor rfl ?_
              refine TL_grun rfl rfl ?_
              refine TL_call rfl rfl (sameEntry_spec u.en v.en (A := p108.1) (c := p108.2) (B := p113.1) (d := p113.2) sln sln) ?_
              rintro _ _ ⟨rfl, rfl⟩
              refine TL_name 114 (v' := .bool true) rfl (congrArg Value.bool (decide_eq_true (hsu h100))) ?_
              refine TF_end GivesTo.g ?_
              refine TF_gy rfl rfl rfl rfl (Y_not_t rfl) ?_
              refine TF_y rfl rfl (Y_pick_t rfl rfl) ?_
              refine TF_nil ?_
              refine thenS_normal ?_
              refine T_cond_false rfl ?_
              refine T_skip ?_
              refine inB_normal ?_
              refine thenS_normal ?_
              refine T_region_last ?_
              refine TL_y rfl rfl (Y_move rfl) ?_
              refine TL_y rfl rfl (Y_add rfl rfl (by omega)) ?_
              refine TL_name 85 (v' := .int .i64 ((j + 1 : Nat) : Int)) rfl (rfl) ?_
              refine TL_y rfl rfl (Y_assign rfl) ?_
              refine TL_nil ?_
              refine thenS_normal ?_
              exact ⟨j + 1, (by omega), by omega, holds_to (sub_cons rfl (sub_cons rfl (sub_cons rfl (sub_cons rfl (sub_nil))))) GivesTo.g⟩
            · refine TF_gskip rfl rfl rfl rfl rfl ?_
              refine TF_gskip rfl rfl rfl rfl rfl ?_
              refine TF_gskip rfl rfl rfl rfl rfl ?_
              refine TF_gskip rfl rfl rfl rfl rfl ?_
              refine TF_gskip rfl rfl rfl rfl rfl ?_
              refine TF_gskip rfl rfl rfl rfl rfl ?_
              refine TF_gskip rfl rfl rfl rfl rfl ?_
              refine TF_gskip rfl rfl rfl rfl rfl ?_
              refine TF_gskip rfl rfl rfl rfl rfl ?_
              refine TF_gskip rfl rfl rfl rfl rfl ?_
              refine TF_gskip rfl rfl rfl rfl rfl ?_
              refine TF_anchor rfl ?_
              refine TL_gskip rfl rfl rfl rfl ?_
              refine TF_end GivesTo.g ?_
              refine TF_anchor rfl ?_
              refine TL_gskip rfl rfl rfl rfl ?_
              refine TF_end GivesTo.g ?_
              refine TF_anchor rfl ?_
              refine TL_gskip rfl rfl rfl rfl ?_
              refine TF_end GivesTo.g ?_
              refine TF_gskip rfl rfl rfl rfl rfl ?_
              refine TF_y rfl rfl (Y_pick_f rfl rfl) ?_
              refine TF_nil ?_
              refine thenS_normal ?_
              refine T_cond_false rfl ?_
              refine T_skip ?_
              refine inB_normal ?_
              refine thenS_normal ?_
              refine T_region_last ?_
              refine TL_y rfl rfl (Y_move rfl) ?_
              refine TL_y rfl rfl (Y_add rfl rfl (by omega)) ?_
              refine TL_name 85 (v' := .int .i64 ((j + 1 : Nat) : Int)) rfl (rfl) ?_
              refine TL_y rfl rfl (Y_assign rfl) ?_
              refine TL_nil ?_
              refine thenS_normal ?_
              exact ⟨j + 1, (by omega), by omega, holds_to (sub_cons rfl (sub_cons rfl (sub_cons rfl (sub_cons rfl (sub_nil))))) GivesTo.g⟩
          · refine RD_leaf (cells b (grC ⟨n, PB.set k (bp, (onP p m).1), AB, bag ++ (onP p m).2.1, ch ++ (onP p m).2.2.take i, some ⟨bz, oz, none⟩, pc, some ⟨bl, ol, none⟩, acc, A68, c68, some ⟨bu, ou, none⟩, cc2⟩) 99 :: osl votedR 50 (some ⟨bu, ou, none⟩) cc2 (ch ++ (onP p m).2.2.take i) :: osl votedR 50 (some ⟨bv, ov, none⟩) cco (onP p m).2.2 :: []) [0, 1, 3, 7, 0, 31, 63, 127, 0, 0, 768, 1792, 3840, 8191, 16383, 32767, 65535, 131071, 262143, 32767, 1048575, 2097151, 264241151, 32767, 32767, 25198591, 58753023, 125861887, 268435455, 536870911, 1073741823] [] [(0, true), (1, true), (2, true), (3, true), (4, true), (5, true), (6, true), (7, true), (8, true), (9, true), (10, true), (11, true), (12, true), (13, true), (14, true), (15, true), (16, true), (17, true), (18, true), (19, true), (20, true), (21, true), (23, true), (24, true), (25, true), (26, true), (27, false), (22, false), (28, false), (29, true), (30, true)] (by decide +kernel) GivesTo.g ?_
            refine TF_y rfl rfl (Y_move rfl) ?_
            refine TF_y rfl rfl (Y_nil_check rfl) ?_
            refine TF_y rfl rfl (Y_field_addr rfl) ?_
            refine TF_y rfl rfl (Y_load rfl rfl) ?_
            refine TF_y rfl rfl (Y_move rfl) ?_
            refine TF_y rfl rfl (Y_index_n (R := votedR) (xs := ch ++ (onP p m).2.2.take i) rfl rfl rfl hu) ?_
            refine TF_y rfl rfl (Y_field_addr2 rfl) ?_
            refine TF_y rfl rfl (Y_load_nx (xs := ch ++ (onP p m).2.2.take i) (u := u) (v := .int .i64 u.slot) rfl (sln (c := cc2)) hu (fun _ ↦ rfl)) ?_
            refine TF_y rfl rfl (Y_move rfl) ?_
            refine TF_y rfl rfl (Y_move rfl) ?_
            refine TF_y rfl rfl (Y_index_n (R := votedR) (xs := (onP p m).2.2) rfl rfl rfl hv) ?_
            refine TF_y rfl rfl (Y_field_addr2 rfl) ?_
            refine TF_y rfl rfl (Y_load_nx (xs := (onP p m).2.2) (u := v) (v := .int .i64 v.slot) rfl (sln (c := cco)) hv (fun _ ↦ rfl)) ?_
            refine TF_y rfl rfl (Y_eq rfl rfl) ?_
            refine TF_y rfl rfl (Y_move rfl) ?_
            refine TF_splitd 100 rfl (fun h100 => ?_) (fun h100 => ?_)
            · refine TF_gy rfl rfl rfl rfl (Y_move rfl) ?_
              refine TF_gy rfl rfl rfl rfl (Y_nil_check rfl) ?_
              refine TF_gy rfl rfl rfl rfl (Y_field_addr rfl) ?_
              refine TF_gy rfl rfl rfl rfl (Y_load rfl rfl) ?_
              refine TF_gy rfl rfl rfl rfl (Y_move rfl) ?_
              refine TF_gy rfl rfl rfl rfl (Y_index_n (R := votedR) (xs := ch ++ (onP p m).2.2.take i) rfl rfl rfl hu) ?_
              refine TF_gy rfl rfl rfl rfl (Y_field_addr2 rfl) ?_
              refine TF_gy rfl rfl rfl rfl (Y_move rfl) ?_
              refine TF_gy rfl rfl rfl rfl (Y_move rfl) ?_
              refine TF_gy rfl rfl rfl rfl (Y_index_n (R := votedR) (xs := (onP p m).2.2) rfl rfl rfl hv) ?_
              refine TF_gy rfl rfl rfl rfl (Y_field_addr2 rfl) ?_
              refine TF_anchor rfl ?_
              refine TL_grun rfl rfl ?_
              refine TL_load_nx (xs := (onP p m).2.2) rfl rfl (sln (c := cco)) hv (fun _ => rfl) ?_
              intro p113 ok113
              simp only [List.cons_append, List.nil_append]
              refine TF_end GivesTo.g ?_
              refine TF_anchor rfl ?_
              refine TL_grun rfl rfl ?_
              refine TL_load_nx (xs := ch ++ (onP p m).2.2.take i) rfl rfl (sln (c := cc2)) hu (fun _ => rfl) ?_
              intro p108 ok108
              simp only [List.cons_append, List.nil_append]
              refine TF_end GivesTo.g ?_
              refine TF_anchor rfl ?_
              refine TL_grun rfl rfl ?_
              refine TL_call rfl rfl (sameEntry_spec u.en v.en (A := p108.1) (c := p108.2) (B := p113.1) (d := p113.2) sln sln) ?_
              rintro _ _ ⟨rfl, rfl⟩
              refine TL_name 114 (v' := .bool true) rfl (congrArg Value.bool (decide_eq_true (hsu h100))) ?_
              refine TF_end GivesTo.g ?_
              refine TF_gy rfl rfl rfl rfl (Y_not_t rfl) ?_
              refine TF_y rfl rfl (Y_pick_t rfl rfl) ?_
              refine TF_nil ?_
              refine thenS_normal ?_
              refine T_cond_false rfl ?_
              refine T_skip ?_
              refine inB_normal ?_
              refine thenS_normal ?_
              refine T_region_last ?_
              refine TL_y rfl rfl (Y_move rfl) ?_
              refine TL_y rfl rfl (Y_add rfl rfl (by omega)) ?_
              refine TL_name 85 (v' := .int .i64 ((j + 1 : Nat) : Int)) rfl (rfl) ?_
              refine TL_y rfl rfl (Y_assign rfl) ?_
              refine TL_nil ?_
              refine thenS_normal ?_
              exact ⟨j + 1, (by omega), by omega, holds_to (sub_cons rfl (sub_cons rfl (sub_cons rfl (sub_cons rfl (sub_nil))))) GivesTo.g⟩
            · refine TF_gskip rfl rfl rfl rfl rfl ?_
              refine TF_gskip rfl rfl rfl rfl rfl ?_
              refine TF_gskip rfl rfl rfl rfl rfl ?_
              refine TF_gskip rfl rfl rfl rfl rfl ?_
              refine TF_gskip rfl rfl rfl rfl rfl ?_
              refine TF_gskip rfl rfl rfl rfl rfl ?_
              refine TF_gskip rfl rfl rfl rfl rfl ?_
              refine TF_gskip rfl rfl rfl rfl rfl ?_
              refine TF_gskip rfl rfl rfl rfl rfl ?_
              refine TF_gskip rfl rfl rfl rfl rfl ?_
              refine TF_gskip rfl rfl rfl rfl rfl ?_
              refine TF_anchor rfl ?_
              refine TL_gskip rfl rfl rfl rfl ?_
              refine TF_end GivesTo.g ?_
              refine TF_anchor rfl ?_
              refine TL_gskip rfl rfl rfl rfl ?_
              refine TF_end GivesTo.g ?_
              refine TF_anchor rfl ?_
              refine TL_gskip rfl rfl rfl rfl ?_
              refine TF_end GivesTo.g ?_
              refine TF_gskip rfl rfl rfl rfl rfl ?_
              refine TF_y rfl rfl (Y_pick_f rfl rfl) ?_
              refine TF_nil ?_
              refine thenS_normal ?_
              refine T_cond_false rfl ?_
              refine T_skip ?_
              refine inB_normal ?_
              refine thenS_normal ?_
              refine T_region_last ?_
              refine TL_y rfl rfl (Y_move rfl) ?_
              refine TL_y rfl rfl (Y_add rfl rfl (by omega)) ?_
              refine TL_name 85 (v' := .int .i64 ((j + 1 : Nat) : Int)) rfl (rfl) ?_
              refine TL_y rfl rfl (Y_assign rfl) ?_
              refine TL_nil ?_
              refine thenS_normal ?_
              exact ⟨j + 1, (by omega), by omega, holds_to (sub_cons rfl (sub_cons rfl (sub_cons rfl (sub_cons rfl (sub_nil))))) GivesTo.g⟩
        · refine T_exit ?_
          refine thenS_exit ?_
          refine thenS_exit ?_
          refine inB_hit ?_
          refine thenS_normal ?_
          refine T_region_draw_last (cells b (grC ⟨n, PB.set k (bp, (onP p m).1), AB, bag ++ (onP p m).2.1, ch ++ (onP p m).2.2.take i, some ⟨bz, oz, none⟩, pc, some ⟨bl, ol, none⟩, acc, A68, c68, ca2, cc2⟩) 99 :: osl votedR 50 (some ⟨bv, ov, none⟩) cco (onP p m).2.2 :: []) [0, 0, 2, 6, 14, 0, 0, 96, 224, 480, 1022, 2047, 4095, 8191] [13] [(0, true), (1, true), (2, true), (3, true), (4, true), (5, true), (6, true), (7, true), (8, false), (9, false), (10, false), (11, true), (12, true), (13, false)] (by kernel_rfl) (by decide +kernel) GivesTo.g ?_
          refine TF_y rfl rfl (Y_move rfl) ?_
          refine TF_y rfl rfl (Y_move rfl) ?_
          refine TF_y rfl rfl (Y_nil_check rfl) ?_
          refine TF_y rfl rfl (Y_field_addr rfl) ?_
          refine TF_y rfl rfl (Y_load rfl rfl) ?_
          refine TF_name 121 (v' := .slice ca2 (ch ++ (onP p m).2.2.take i).length cc2) rfl (rfl) ?_
          refine TF_y rfl rfl (Y_move rfl) ?_
          refine TF_y rfl rfl (Y_move rfl) ?_
          refine TF_y rfl rfl (Y_index_n (R := votedR) (xs := (onP p m).2.2) rfl rfl rfl hv) ?_
          refine TF_anchor rfl ?_
          refine TL_load_nx (xs := (onP p m).2.2) rfl rfl (sln (c := cco)) hv (fun _ => rfl) ?_
          intro p125 ok125
          simp only [List.cons_append, List.nil_append]
          refine TF_end GivesTo.g ?_
          refine TF_anchor rfl ?_
          refine TL_build_slice rfl rfl rfl rfl rfl rfl ?_
          intro b126
          refine TL_osl (k := 1) votedR [v] (cells_one' (ex_rep p125 (sep_sl slk) ok125)) rfl (by decide) ?_
          refine TL_freeze_osl ?_
          refine TL_name 126 (v' := .slice (some ⟨b126, 0, none⟩) [v].length 1) rfl rfl ?_
          refine TF_end GivesTo.g ?_
          refine TF_anchor rfl ?_
          refine TL_append rfl rfl rfl rfl rfl slk (by simp only [List.length_cons, List.length_nil]; omega) ?_
          intro A127 c127
          rw [List.append_assoc, ← htk]
          refine TF_end GivesTo.g ?_
          refine TF_y rfl rfl (Y_nil_check rfl) ?_
          refine TF_y rfl rfl (Y_field_addr rfl) ?_
          refine TF_anchor rfl ?_
          refine TL_store rfl rfl rfl rfl rfl rfl ?_
          refine TF_end_tail rfl ?_
          refine TF_nil ?_
          refine inB_normal ?_
          refine thenS_normal ?_
          refine T_region_last ?_
          refine TL_y rfl rfl (Y_move rfl) ?_
          refine TL_y rfl rfl (Y_add rfl rfl (by omega)) ?_
          refine TL_name 76 (v' := .int .i64 ((i + 1 : Nat) : Int)) rfl (rfl) ?_
          refine TL_y rfl rfl (Y_assign rfl) ?_
          refine TL_nil ?_
          refine thenS_normal ?_
          exact ⟨⟨i + 1, A127, c127⟩, (by simp only; omega), by simp only; omega, holds_to (sub_cons rfl (sub_cons rfl (sub_cons rfl (sub_nil)))) GivesTo.g⟩
      · refine T_exit ?_
        refine thenS_exit ?_
        refine thenS_exit ?_
        refine inB_hit ?_
        refine thenS_normal ?_
        refine T_region ?_
        refine TL_y rfl rfl (Y_assign rfl) ?_
        refine TL_nil ?_
        refine T_ret ?_
        rw [List.take_of_length_le (show (onP p m).2.2.length ≤ i by omega)]
        refine RetQ.gives (gr_close b ⟨n, PB.set k (bp, (onP p m).1), AB, bag ++ (onP p m).2.1, ch ++ (onP p m).2.2, some ⟨bz, oz, none⟩, pc, some ⟨bl, ol, none⟩, acc, A68, c68, ca2, cc2⟩ (comesG (GrS.pl ⟨n, PB, AB, bag, ch, some ⟨bz, oz, none⟩, pc, some ⟨bl, ol, none⟩, acc, ba, bc, ca, cc⟩) k p a m) (by unfold comesG; rw [if_neg h38]; unfold comesP GrS.pl; dsimp only; rw [snd_set])) ?_
        exact RetG_1 (.inl rfl) rfl (ResV.tmp rfl) GivesTo.g (⟨rfl, rfl⟩)
end Go.SL
set_option linter.unusedVariables false
set_option linter.unusedSimpArgs false
namespace Go.SL
open Go Go.Proofs
structure MoveD where
  kind : Int
  node : Int
  at_ : Int
  en : EntryD
abbrev moveC (v : MoveD) (p : Option Addr × Nat) : List Value := [.int .i64 v.kind, .int .i64 v.node, .int .i64 v.at_, .bool v.en.noop, .string v.en.order.token, .string v.en.order.cart, .int .i64 v.en.order.epoch, .slice p.1 v.en.order.cut.length p.2]
def moveOk (v : MoveD) : Prop := intIn .i64 v.kind ∧ intIn .i64 v.node ∧ intIn .i64 v.at_ ∧ orderOk' v.en.order
section
variable {r : Option Nat} {n : Nat} {P : Program} {Q : Exit → St → Prop} {D : List Deferred} {E : Env} {L L0 : List HP} {b : Nat} {g : GrD}
theorem Y_gr {ty : TypeId} {op : Op} {v : Value} [hf : FindK L b (gr b g) L0] (h : ∀ s : GrS, s.pl = g → Yl P E (cells b (grC s) 99 :: L0) op ty v) : Yl P E L op ty v := fun n D W a w dst pos af gd ha hs => by
  obtain ⟨s, h1, hs'⟩ := gr_open (hs.gives hf.g)
  exact h s h1 n D W a w dst pos af gd ha (hs'.gives (Gives.cons _ ((Gives.drop _ _).trans ((Gives.drop _ _).trans ((Gives.drop _ _).trans ((Gives.drop _ _).trans ((Gives.drop _ _).trans (Gives.drop _ _))))))))
theorem gr_PI {W w : World} (h : Sat W w (gr b g :: L)) : ∀ p ∈ g.P, PI p := fun p hp => by
  obtain ⟨s, h1, hs⟩ := gr_open h
  subst h1
  obtain ⟨k, hk⟩ := List.getElem?_of_mem hp
  obtain ⟨bp, hz⟩ := pair_at (l := s.PB) hk
  have h2 := hs.gives ((Gives.drop _ _).trans ((Gives.drop _ _).trans ((Gives.drop _ _).trans ((Gives.drop _ _).trans (Gives.drop _ _)))))
  have h3 := h2.gives (allH_take (prHs_at hz))
  obtain ⟨_, _, h4, _⟩ := pr_open h3
  exact h4
theorem Fn_grI {f : FuncId} {args : Array Value} {Φ : Value → List HP → Prop} (h : (∀ p ∈ g.P, PI p) → Fn P f args (gr b g :: L) Φ) : Fn P f args (gr b g :: L) Φ := fun W w hh => h (gr_PI hh) W w hh
theorem T_grI {c : Code} (h : (∀ p ∈ g.P, PI p) → T r n P c ⟨D, E, gr b g :: L⟩ Q) : T r n P c ⟨D, E, gr b g :: L⟩ Q := fun W a w hh => h (gr_PI hh.2) W a w hh
end
def grSet (g : GrD) (k : Nat) (q : PP) (out : List MsgD) : GrD := { g with P := g.P.set k q, bag := g.bag ++ out }
theorem does_start {L : List HP} {b : Nat} {g : GrD} {k : Nat} {p : PP} {a : AccD} {A : Option Addr} {c : Nat} (v : MoveD) (hv : moveOk v) (hkind : v.kind = 1) (hn : 1 ≤ g.n ∧ g.n ≤ 7) (hk : v.node % g.n = (k : Int)) (hp : g.P[k]? = some p) (ha : g.A[k]? = some a) (hb : g.bag.length ≤ 536870912) (hpi : PI p) : Fn Try.prog 50 #[.pointer (some ⟨b, 0, none⟩), .agg (List.toArray (moveC v (A, c)))] (gr b g :: L) (fun r L' => r = .bool true ∧ L' = gr b (grSet g k (startP p a.prom 0) (startO p a.prom 0)) :: L) := by
  refine Fn_enter Try.func50 rfl rfl rfl rfl ?_
  have hf := tm_fix v.node (n := g.n) (by omega)
  have htb := tm_bound v.node (n := g.n) (by omega)
  refine T_region ?_
  refine TL_box rfl rfl rfl ?_
  intro b3
  refine TL_y rfl rfl (Y_assign rfl) ?_
  refine TL_nil ?_
  refine T_region_draw _ [0, 1, 0, 4, 12, 28, 63, 127] [] [(0, true), (1, true), (2, true), (3, true), (4, true), (5, true), (6, true), (7, true)] (by kernel_rfl) (by decide +kernel) (Gives.refl _) ?_
  refine TF_y rfl rfl (Y_field_addr rfl) ?_
  refine TF_y rfl rfl (Y_load rfl rfl) ?_
  refine TF_y rfl rfl (Y_move rfl) ?_
  refine TF_y rfl rfl (Y_nil_check rfl) ?_
  refine TF_y rfl rfl (Y_field_addr rfl) ?_
  refine TF_y rfl rfl (Y_gr (b := b) (v := .int .i64 g.n) fun s hs ↦ (Y_load rfl rfl).val (by rw [← hs]; rfl)) ?_
  refine TF_y rfl rfl (Y_rem rfl rfl (by omega)) ?_
  refine TF_y rfl rfl (Y_assign rfl) ?_
  refine TF_nil ?_
  refine T_seq ?_
  refine T_region ?_
  refine TL_y rfl rfl (Y_move rfl) ?_
  refine TL_y rfl rfl (Y_lt rfl rfl) ?_
  refine TL_nil ?_
  refine T_joinKT (σ := Unit) [0, 3] (fun u => True) (fun u kv => (5, .int .i64 (k : Int)) :: kv) (fun u => cells b3 (moveC v (A, c)) 95 :: gr b g :: L) rfl ?_ ?_
  · refine T_if rfl (fun h23 => ?_) (fun h23 => ?_)
    · refine T_region_last ?_
      refine TL_y rfl rfl (Y_move rfl) ?_
      refine TL_y rfl rfl (Y_move rfl) ?_
      refine TL_y rfl rfl (Y_nil_check rfl) ?_
      refine TL_y rfl rfl (Y_field_addr rfl) ?_
      refine TL_y rfl rfl (Y_gr (b := b) (v := .int .i64 g.n) fun s hs ↦ (Y_load rfl rfl).val (by rw [← hs]; rfl)) ?_
      refine TL_y rfl rfl (Y_add rfl rfl (by omega)) ?_
      refine TL_y rfl rfl (Y_assign rfl) ?_
      refine TL_name 5 (v' := .int .i64 (k : Int)) rfl (by rw [← hk, ← hf.1 h23]) ?_
      refine TL_nil ?_
      refine thenS_normal ?_
      exact ⟨(), trivial, holds_to (sub_cons rfl (sub_cons rfl (sub_cons rfl (sub_nil)))) GivesTo.g⟩
    · refine T_name 5 (v' := .int .i64 (k : Int)) rfl (by rw [← hk, ← hf.2 h23]) ?_
      refine T_skip ?_
      refine thenS_normal ?_
      exact ⟨(), trivial, holds_to (sub_cons rfl (sub_cons rfl (sub_cons rfl (sub_nil)))) GivesTo.g⟩
  · intro u hu
    refine T_region ?_
    refine TL_y rfl rfl (Y_move rfl) ?_
    refine TL_y rfl rfl (Y_field_addr rfl) ?_
    refine TL_y rfl rfl (Y_load rfl rfl) ?_
    refine TL_pullk b ?_
    refine TL_call rfl rfl (place_spec v.at_ hv.2.2.1 hb) ?_
    rintro _ _ ⟨rfl, rfl⟩
    refine TL_y rfl rfl (Y_assign rfl) ?_
    refine TL_nil ?_
    refine T_seq ?_
    refine T_region ?_
    refine TL_y rfl rfl (Y_field_addr rfl) ?_
    refine TL_y rfl rfl (Y_load rfl rfl) ?_
    refine TL_nil ?_
    refine T_block ?_
    refine T_region ?_
    refine TL_y rfl rfl (Y_eq rfl rfl) ?_
    refine TL_name 37 (v' := .bool true) rfl (congrArg Value.bool (decide_eq_true hkind)) ?_
    refine TL_y rfl rfl (Y_assign rfl) ?_
    refine TL_nil ?_
    refine T_cond_true rfl ?_
    refine T_pullk b ?_
    refine T_gr fun s hs => ?_
    obtain ⟨n, PB, AB, bag, ch, pa, pc, aa, acc, ba, bc, ca, cc⟩ := s
    subst hs
    obtain ⟨bq, hza⟩ := pair_at (l := AB) ha
    obtain ⟨bp, hzp⟩ := pair_at (l := PB) hp
    have hua := fst_at hza
    have hup := fst_at hzp
    have hb2 : bag.length ≤ 536870912 := hb
    have hol := startO_len hpi a.prom 0
    dsimp only
    refine T_addr_n (sln (A := aa) (c := acc) (R := ptrR)) hua fun bl ol el => ?_
    subst el
    refine T_addr_n (sln (A := pa) (c := pc) (R := ptrR)) hup fun bz oz ez => ?_
    subst ez
    refine T_acTake hza ?_
    refine T_prTake hzp ?_
    refine T_region_draw (cells b (grC ⟨n, PB, AB, bag, ch, some ⟨bz, oz, none⟩, pc, some ⟨bl, ol, none⟩, acc, ba, bc, ca, cc⟩) 99 :: osl ptrR 70 (some ⟨bz, oz, none⟩) pc (bs1 PB) :: osl ptrR 35 (some ⟨bl, ol, none⟩) acc (bs1 AB) :: []) [0, 1, 3, 7, 0, 31, 63, 0, 128, 384, 896, 0, 3968, 8064, 16256, 32767, 65535, 131071, 131071, 262143, 1048575] [] [(0, true), (1, true), (2, true), (3, true), (4, true), (5, true), (6, true), (7, true), (8, true), (9, true), (10, true), (11, true), (12, true), (13, true), (14, false), (15, false), (16, true), (17, true), (18, true), (19, true), (20, true)] (by kernel_rfl) (by decide +kernel) GivesTo.g ?_
    refine TF_y rfl rfl (Y_move rfl) ?_
    refine TF_y rfl rfl (Y_nil_check rfl) ?_
    refine TF_y rfl rfl (Y_field_addr rfl) ?_
    refine TF_y rfl rfl (Y_load rfl rfl) ?_
    refine TF_y rfl rfl (Y_move rfl) ?_
    refine TF_y rfl rfl (Y_index_n (R := ptrR) (xs := bs1 PB) rfl rfl rfl hup) ?_
    refine TF_y rfl rfl (Y_load_n (R := ptrR) (c := pc) (xs := bs1 PB) (q := 0) rfl sln hup rfl) ?_
    refine TF_y rfl rfl (Y_move rfl) ?_
    refine TF_y rfl rfl (Y_nil_check rfl) ?_
    refine TF_y rfl rfl (Y_field_addr rfl) ?_
    refine TF_y rfl rfl (Y_load rfl rfl) ?_
    refine TF_y rfl rfl (Y_move rfl) ?_
    refine TF_y rfl rfl (Y_index_n (R := ptrR) (xs := bs1 AB) rfl rfl rfl hua) ?_
    refine TF_y rfl rfl (Y_load_n (R := ptrR) (c := acc) (xs := bs1 AB) (q := 0) rfl sln hua rfl) ?_
    refine TF_anchor rfl ?_
    refine TL_pullk bq ?_
    refine TL_call rfl rfl (acPromised_spec) ?_
    rintro _ _ ⟨rfl, rfl⟩
    refine TF_end GivesTo.g ?_
    refine TF_anchor rfl ?_
    refine TL_pullk bp ?_
    refine TL_call rfl rfl (prStart_spec a.prom 0) ?_
    rintro _ _ ⟨Ao, co, rfl, rfl⟩
    refine TL_freeze_osl ?_
    refine TF_end GivesTo.g ?_
    refine TF_y rfl rfl (Y_move rfl) ?_
    refine TF_y rfl rfl (Y_extract rfl rfl) ?_
    refine TF_y rfl rfl (Y_extract rfl rfl) ?_
    refine TF_y rfl rfl (Y_assign rfl) ?_
    refine TF_y rfl rfl (Y_assign rfl) ?_
    refine TF_nil ?_
    refine T_region_last ?_
    refine TL_y rfl rfl (Y_move rfl) ?_
    refine TL_y rfl rfl (Y_move rfl) ?_
    refine TL_y rfl rfl (Y_nil_check rfl) ?_
    refine TL_y rfl rfl (Y_field_addr rfl) ?_
    refine TL_y rfl rfl (Y_load rfl rfl) ?_
    refine TL_y rfl rfl (Y_move rfl) ?_
    refine TL_append rfl rfl rfl rfl rfl slk (by (try simp only [List.length_append, List.length_cons, List.length_nil]); omega) ?_
    intro A63 c63
    refine TL_y rfl rfl (Y_nil_check rfl) ?_
    refine TL_y rfl rfl (Y_field_addr rfl) ?_
    refine TL_store rfl rfl rfl rfl rfl rfl ?_
    refine TL_nil ?_
    refine inB_normal ?_
    refine thenS_normal ?_
    refine T_region ?_
    refine TL_y rfl rfl (Y_assign rfl) ?_
    refine TL_nil ?_
    refine T_ret ?_
    refine RetQ.gives (acPut a hza) ?_
    rw [set_self hza]
    rw [← bs1_set hzp (startP p a.prom 0)]
    refine RetQ.gives (prPut (startP p a.prom 0) hzp) ?_
    refine RetQ.gives (gr_close b ⟨n, PB.set k (bp, startP p a.prom 0), AB, bag ++ startO p a.prom 0, ch, some ⟨bz, oz, none⟩, pc, some ⟨bl, ol, none⟩, acc, A63, c63, ca, cc⟩ (grSet (GrS.pl ⟨n, PB, AB, bag, ch, some ⟨bz, oz, none⟩, pc, some ⟨bl, ol, none⟩, acc, ba, bc, ca, cc⟩) k (startP p a.prom 0) (startO p a.prom 0)) (by unfold grSet GrS.pl; dsimp only; rw [snd_set])) ?_
    exact RetG_1 (.inl rfl) rfl (ResV.tmp rfl) GivesTo.g (⟨rfl, rfl⟩)
theorem does_propose {L : List HP} {b : Nat} {g : GrD} {k : Nat} {p : PP} {A : Option Addr} {c : Nat} (v : MoveD) (hv : moveOk v) (hkind : v.kind = 2) (hn : 1 ≤ g.n ∧ g.n ≤ 7) (hk : v.node % g.n = (k : Int)) (hp : g.P[k]? = some p) (hb : g.bag.length ≤ 536870912) (hpi : PI p) (hcut : SlK L (intR .i64) A c v.en.order.cut) (hc : cSeal v.en.order ≤ 140737488355000) : Fn Try.prog 50 #[.pointer (some ⟨b, 0, none⟩), .agg (List.toArray (moveC v (A, c)))] (gr b g :: L) (fun r L' => r = .bool true ∧ L' = gr b (grSet g k (propP p v.en) (propO p v.en)) :: L) := by
  refine Fn_enter Try.func50 rfl rfl rfl rfl ?_
  have hf := tm_fix v.node (n := g.n) (by omega)
  have htb := tm_bound v.node (n := g.n) (by omega)
  refine T_region ?_
  refine TL_box rfl rfl rfl ?_
  intro b3
  refine TL_y rfl rfl (Y_assign rfl) ?_
  refine TL_nil ?_
  refine T_region_draw _ [0, 1, 0, 4, 12, 28, 63, 127] [] [(0, true), (1, true), (2, true), (3, true), (4, true), (5, true), (6, true), (7, true)] (by kernel_rfl) (by decide +kernel) (Gives.refl _) ?_
  refine TF_y rfl rfl (Y_field_addr rfl) ?_
  refine TF_y rfl rfl (Y_load rfl rfl) ?_
  refine TF_y rfl rfl (Y_move rfl) ?_
  refine TF_y rfl rfl (Y_nil_check rfl) ?_
  refine TF_y rfl rfl (Y_field_addr rfl) ?_
  refine TF_y rfl rfl (Y_gr (b := b) (v := .int .i64 g.n) fun s hs ↦ (Y_load rfl rfl).val (by rw [← hs]; rfl)) ?_
  refine TF_y rfl rfl (Y_rem rfl rfl (by omega)) ?_
  refine TF_y rfl rfl (Y_assign rfl) ?_
  refine TF_nil ?_
  refine T_seq ?_
  refine T_region ?_
  refine TL_y rfl rfl (Y_move rfl) ?_
  refine TL_y rfl rfl (Y_lt rfl rfl) ?_
  refine TL_nil ?_
  refine T_joinKT (σ := Unit) [0, 3] (fun u => True) (fun u kv => (5, .int .i64 (k : Int)) :: kv) (fun u => cells b3 (moveC v (A, c)) 95 :: gr b g :: L) rfl ?_ ?_
  · refine T_if rfl (fun h23 => ?_) (fun h23 => ?_)
    · refine T_region_last ?_
      refine TL_y rfl rfl (Y_move rfl) ?_
      refine TL_y rfl rfl (Y_move rfl) ?_
      refine TL_y rfl rfl (Y_nil_check rfl) ?_
      refine TL_y rfl rfl (Y_field_addr rfl) ?_
      refine TL_y rfl rfl (Y_gr (b := b) (v := .int .i64 g.n) fun s hs ↦ (Y_load rfl rfl).val (by rw [← hs]; rfl)) ?_
      refine TL_y rfl rfl (Y_add rfl rfl (by omega)) ?_
      refine TL_y rfl rfl (Y_assign rfl) ?_
      refine TL_name 5 (v' := .int .i64 (k : Int)) rfl (by rw [← hk, ← hf.1 h23]) ?_
      refine TL_nil ?_
      refine thenS_normal ?_
      exact ⟨(), trivial, holds_to (sub_cons rfl (sub_cons rfl (sub_cons rfl (sub_nil)))) GivesTo.g⟩
    · refine T_name 5 (v' := .int .i64 (k : Int)) rfl (by rw [← hk, ← hf.2 h23]) ?_
      refine T_skip ?_
      refine thenS_normal ?_
      exact ⟨(), trivial, holds_to (sub_cons rfl (sub_cons rfl (sub_cons rfl (sub_nil)))) GivesTo.g⟩
  · intro u hu
    refine T_region ?_
    refine TL_y rfl rfl (Y_move rfl) ?_
    refine TL_y rfl rfl (Y_field_addr rfl) ?_
    refine TL_y rfl rfl (Y_load rfl rfl) ?_
    refine TL_pullk b ?_
    refine TL_call rfl rfl (place_spec v.at_ hv.2.2.1 hb) ?_
    rintro _ _ ⟨rfl, rfl⟩
    refine TL_y rfl rfl (Y_assign rfl) ?_
    refine TL_nil ?_
    refine T_seq ?_
    refine T_region ?_
    refine TL_y rfl rfl (Y_field_addr rfl) ?_
    refine TL_y rfl rfl (Y_load rfl rfl) ?_
    refine TL_nil ?_
    refine T_block ?_
    refine T_region ?_
    refine TL_y rfl rfl (Y_eq rfl rfl) ?_
    refine TL_name 37 (v' := .bool false) rfl (congrArg Value.bool (decide_eq_false (by omega))) ?_
    refine TL_y rfl rfl (Y_assign rfl) ?_
    refine TL_nil ?_
    refine T_cond_false rfl ?_
    refine T_region ?_
    refine TL_y rfl rfl (Y_eq rfl rfl) ?_
    refine TL_name 67 (v' := .bool true) rfl (congrArg Value.bool (decide_eq_true hkind)) ?_
    refine TL_y rfl rfl (Y_assign rfl) ?_
    refine TL_nil ?_
    refine T_cond_true rfl ?_
    refine T_pullk b ?_
    refine T_gr fun s hs => ?_
    obtain ⟨n, PB, AB, bag, ch, pa, pc, aa, acc, ba, bc, ca, cc⟩ := s
    subst hs
    obtain ⟨bp, hzp⟩ := pair_at (l := PB) hp
    have hup := fst_at hzp
    have hb2 : bag.length ≤ 536870912 := hb
    have hol := propO_len hpi v.en
    dsimp only
    refine T_addr_n (sln (A := pa) (c := pc) (R := ptrR)) hup fun bz oz ez => ?_
    subst ez
    refine T_prTake hzp ?_
    refine T_region_draw (cells b (grC ⟨n, PB, AB, bag, ch, some ⟨bz, oz, none⟩, pc, aa, acc, ba, bc, ca, cc⟩) 99 :: osl ptrR 70 (some ⟨bz, oz, none⟩) pc (bs1 PB) :: cells b3 (moveC v (A, c)) 95 :: []) [0, 1, 3, 7, 0, 31, 63, 0, 128, 511, 1023, 2047, 2047, 2047, 4095, 24575, 65535] [] [(0, true), (1, true), (2, true), (3, true), (4, true), (5, true), (6, true), (7, true), (8, true), (9, false), (10, true), (11, true), (12, true), (13, true), (14, true), (15, true), (16, true)] (by kernel_rfl) (by decide +kernel) GivesTo.g ?_
    refine TF_y rfl rfl (Y_move rfl) ?_
    refine TF_y rfl rfl (Y_nil_check rfl) ?_
    refine TF_y rfl rfl (Y_field_addr rfl) ?_
    refine TF_y rfl rfl (Y_load rfl rfl) ?_
    refine TF_y rfl rfl (Y_move rfl) ?_
    refine TF_y rfl rfl (Y_index_n (R := ptrR) (xs := bs1 PB) rfl rfl rfl hup) ?_
    refine TF_y rfl rfl (Y_load_n (R := ptrR) (c := pc) (xs := bs1 PB) (q := 0) rfl sln hup rfl) ?_
    refine TF_y rfl rfl (Y_field_addr rfl) ?_
    refine TF_y rfl rfl (Y_load_agg rfl rfl) ?_
    refine TF_anchor rfl ?_
    refine TL_pullk bp ?_
    refine TL_call rfl rfl (prPropo_spec (A := A) (c := c) v.en hv.2.2.2 (SlK.of_gives GivesTo.g hcut) hc) ?_
    rintro _ _ ⟨Ao, co, rfl, rfl⟩
    refine TL_freeze_osl ?_
    refine TF_end GivesTo.g ?_
    refine TF_y rfl rfl (Y_move rfl) ?_
    refine TF_y rfl rfl (Y_extract rfl rfl) ?_
    refine TF_y rfl rfl (Y_extract rfl rfl) ?_
    refine TF_y rfl rfl (Y_extract rfl rfl) ?_
    refine TF_y rfl rfl (Y_assign rfl) ?_
    refine TF_y rfl rfl (Y_assign rfl) ?_
    refine TF_y rfl rfl (Y_assign rfl) ?_
    refine TF_nil ?_
    refine T_region_last ?_
    refine TL_y rfl rfl (Y_move rfl) ?_
    refine TL_y rfl rfl (Y_move rfl) ?_
    refine TL_y rfl rfl (Y_nil_check rfl) ?_
    refine TL_y rfl rfl (Y_field_addr rfl) ?_
    refine TL_y rfl rfl (Y_load rfl rfl) ?_
    refine TL_y rfl rfl (Y_move rfl) ?_
    refine TL_append rfl rfl rfl rfl rfl slk (by (try simp only [List.length_append, List.length_cons, List.length_nil]); omega) ?_
    intro A88 c88
    refine TL_y rfl rfl (Y_nil_check rfl) ?_
    refine TL_y rfl rfl (Y_field_addr rfl) ?_
    refine TL_store rfl rfl rfl rfl rfl rfl ?_
    refine TL_nil ?_
    refine inB_normal ?_
    refine thenS_normal ?_
    refine T_region ?_
    refine TL_y rfl rfl (Y_assign rfl) ?_
    refine TL_nil ?_
    refine T_ret ?_
    rw [← bs1_set hzp (propP p v.en)]
    refine RetQ.gives (prPut (propP p v.en) hzp) ?_
    refine RetQ.gives (gr_close b ⟨n, PB.set k (bp, propP p v.en), AB, bag ++ propO p v.en, ch, some ⟨bz, oz, none⟩, pc, aa, acc, A88, c88, ca, cc⟩ (grSet (GrS.pl ⟨n, PB, AB, bag, ch, some ⟨bz, oz, none⟩, pc, aa, acc, ba, bc, ca, cc⟩) k (propP p v.en) (propO p v.en)) (by unfold grSet GrS.pl; dsimp only; rw [snd_set])) ?_
    exact RetG_1 (.inl rfl) rfl (ResV.tmp rfl) GivesTo.g (⟨rfl, rfl⟩)
end Go.SL
set_option linter.unusedVariables false
set_option linter.unusedSimpArgs false
namespace Go.SL
open Go Go.Proofs
def grBag (g : GrD) (bag : List MsgD) : GrD := { g with bag := bag }
def cutB (bag : List MsgD) (j : Nat) : List MsgD := bag.take j ++ bag.drop (j + 1)
theorem placeI_in (len : Nat) (at_ : Int) : (len = 0 ∧ placeI len at_ = -1) ∨ ∃ j : Nat, placeI len at_ = j ∧ j < len := by
  unfold placeI
  by_cases h : len = 0
  · exact .inl ⟨h, by rw [if_pos h]⟩
  · have h2 := Int.emod_nonneg at_ (show (len : Int) ≠ 0 by omega)
    have h3 := Int.emod_lt_of_pos at_ (show (0 : Int) < len by omega)
    refine .inr ⟨(at_ % (len : Int)).toNat, ?_, by omega⟩
    rw [if_neg h]; omega
theorem does_none {L : List HP} {b : Nat} {g : GrD} {A : Option Addr} {c : Nat} (v : MoveD) (hv : moveOk v) (hkind : v.kind = 3 ∨ v.kind = 4) (hn : 1 ≤ g.n ∧ g.n ≤ 7) (he : g.bag.length = 0) : Fn Try.prog 50 #[.pointer (some ⟨b, 0, none⟩), .agg (List.toArray (moveC v (A, c)))] (gr b g :: L) (fun r L' => r = .bool true ∧ L' = gr b g :: L) := by
  have hpl : placeI g.bag.length v.at_ = -1 := by unfold placeI; rw [if_pos he]
  refine Fn_enter Try.func50 rfl rfl rfl rfl ?_
  have hf := tm_fix v.node (n := g.n) (by omega)
  have htb := tm_bound v.node (n := g.n) (by omega)
  refine T_region ?_
  refine TL_box rfl rfl rfl ?_
  intro b3
  refine TL_y rfl rfl (Y_assign rfl) ?_
  refine TL_nil ?_
  refine T_region_draw _ [0, 1, 0, 4, 12, 28, 63, 127] [] [(0, true), (1, true), (2, true), (3, true), (4, true), (5, true), (6, true), (7, true)] (by kernel_rfl) (by decide +kernel) (Gives.refl _) ?_
  refine TF_y rfl rfl (Y_field_addr rfl) ?_
  refine TF_y rfl rfl (Y_load rfl rfl) ?_
  refine TF_y rfl rfl (Y_move rfl) ?_
  refine TF_y rfl rfl (Y_nil_check rfl) ?_
  refine TF_y rfl rfl (Y_field_addr rfl) ?_
  refine TF_y rfl rfl (Y_gr (b := b) (v := .int .i64 g.n) fun s hs ↦ (Y_load rfl rfl).val (by rw [← hs]; rfl)) ?_
  refine TF_y rfl rfl (Y_rem rfl rfl (by omega)) ?_
  refine TF_y rfl rfl (Y_assign rfl) ?_
  refine TF_nil ?_
  refine T_seq ?_
  refine T_region ?_
  refine TL_y rfl rfl (Y_move rfl) ?_
  refine TL_y rfl rfl (Y_lt rfl rfl) ?_
  refine TL_nil ?_
  refine T_joinKT (σ := Unit) [0, 3] (fun u => True) (fun u kv => (5, .int .i64 (v.node % g.n)) :: kv) (fun u => cells b3 (moveC v (A, c)) 95 :: gr b g :: L) rfl ?_ ?_
  · refine T_if rfl (fun h23 => ?_) (fun h23 => ?_)
    · refine T_region_last ?_
      refine TL_y rfl rfl (Y_move rfl) ?_
      refine TL_y rfl rfl (Y_move rfl) ?_
      refine TL_y rfl rfl (Y_nil_check rfl) ?_
      refine TL_y rfl rfl (Y_field_addr rfl) ?_
      refine TL_y rfl rfl (Y_gr (b := b) (v := .int .i64 g.n) fun s hs ↦ (Y_load rfl rfl).val (by rw [← hs]; rfl)) ?_
      refine TL_y rfl rfl (Y_add rfl rfl (by omega)) ?_
      refine TL_y rfl rfl (Y_assign rfl) ?_
      refine TL_name 5 (v' := .int .i64 (v.node % g.n)) rfl (by rw [← hf.1 h23]) ?_
      refine TL_nil ?_
      refine thenS_normal ?_
      exact ⟨(), trivial, holds_to (sub_cons rfl (sub_cons rfl (sub_cons rfl (sub_nil)))) GivesTo.g⟩
    · refine T_name 5 (v' := .int .i64 (v.node % g.n)) rfl (by rw [← hf.2 h23]) ?_
      refine T_skip ?_
      refine thenS_normal ?_
      exact ⟨(), trivial, holds_to (sub_cons rfl (sub_cons rfl (sub_cons rfl (sub_nil)))) GivesTo.g⟩
  · intro u hu
    refine T_region ?_
    refine TL_y rfl rfl (Y_move rfl) ?_
    refine TL_y rfl rfl (Y_field_addr rfl) ?_
    refine TL_y rfl rfl (Y_load rfl rfl) ?_
    refine TL_pullk b ?_
    refine TL_call rfl rfl (place_spec v.at_ hv.2.2.1 (by omega)) ?_
    rintro _ _ ⟨rfl, rfl⟩
    refine TL_y rfl rfl (Y_assign rfl) ?_
    refine TL_nil ?_
    refine T_seq ?_
    refine T_region ?_
    refine TL_y rfl rfl (Y_field_addr rfl) ?_
    refine TL_y rfl rfl (Y_load rfl rfl) ?_
    refine TL_nil ?_
    refine T_block ?_
    refine T_region ?_
    refine TL_y rfl rfl (Y_eq rfl rfl) ?_
    refine TL_name 37 (v' := .bool false) rfl (congrArg Value.bool (decide_eq_false (by omega))) ?_
    refine TL_y rfl rfl (Y_assign rfl) ?_
    refine TL_nil ?_
    refine T_cond_false rfl ?_
    refine T_region ?_
    refine TL_y rfl rfl (Y_eq rfl rfl) ?_
    refine TL_name 67 (v' := .bool false) rfl (congrArg Value.bool (decide_eq_false (by omega))) ?_
    refine TL_y rfl rfl (Y_assign rfl) ?_
    refine TL_nil ?_
    refine T_cond_false rfl ?_
    refine T_seq ?_
    rcases hkind with hkind | hkind
    · refine T_region ?_
      refine TL_y rfl rfl (Y_eq rfl rfl) ?_
      refine TL_name 92 (v' := .bool true) rfl (congrArg Value.bool (decide_eq_true hkind)) ?_
      refine TL_y rfl rfl (Y_assign rfl) ?_
      refine TL_nil ?_
      refine T_cond_true rfl ?_
      refine T_skip ?_
      refine thenS_normal ?_
      refine T_cond_true rfl ?_
      refine T_seq ?_
      refine T_region ?_
      refine TL_y rfl rfl (Y_move rfl) ?_
      refine TL_y rfl rfl (Y_lt rfl rfl) ?_
      refine TL_name 95 (v' := .bool true) rfl (congrArg Value.bool (decide_eq_true (by omega))) ?_
      refine TL_nil ?_
      refine T_cond_true rfl ?_
      refine T_region ?_
      refine TL_y rfl rfl (Y_assign rfl) ?_
      refine TL_nil ?_
      refine T_ret ?_
      refine thenS_ret ?_
      refine inB_ret ?_
      refine thenS_ret ?_
      exact RetG_1 (.inl rfl) rfl (ResV.tmp rfl) GivesTo.g (⟨rfl, rfl⟩)
    · refine T_region ?_
      refine TL_y rfl rfl (Y_eq rfl rfl) ?_
      refine TL_name 92 (v' := .bool false) rfl (congrArg Value.bool (decide_eq_false (by omega))) ?_
      refine TL_y rfl rfl (Y_assign rfl) ?_
      refine TL_nil ?_
      refine T_cond_false rfl ?_
      refine T_region_last ?_
      refine TL_y rfl rfl (Y_eq rfl rfl) ?_
      refine TL_name 93 (v' := .bool true) rfl (congrArg Value.bool (decide_eq_true hkind)) ?_
      refine TL_y rfl rfl (Y_assign rfl) ?_
      refine TL_nil ?_
      refine thenS_normal ?_
      refine T_cond_true rfl ?_
      refine T_seq ?_
      refine T_region ?_
      refine TL_y rfl rfl (Y_move rfl) ?_
      refine TL_y rfl rfl (Y_lt rfl rfl) ?_
      refine TL_name 95 (v' := .bool true) rfl (congrArg Value.bool (decide_eq_true (by omega))) ?_
      refine TL_nil ?_
      refine T_cond_true rfl ?_
      refine T_region ?_
      refine TL_y rfl rfl (Y_assign rfl) ?_
      refine TL_nil ?_
      refine T_ret ?_
      refine thenS_ret ?_
      refine inB_ret ?_
      refine thenS_ret ?_
      exact RetG_1 (.inl rfl) rfl (ResV.tmp rfl) GivesTo.g (⟨rfl, rfl⟩)
theorem does_lost {L : List HP} {b : Nat} {g : GrD} {A : Option Addr} {c : Nat} {j : Nat} {x : MsgD} (v : MoveD) (hv : moveOk v) (hkind : v.kind = 4) (hn : 1 ≤ g.n ∧ g.n ≤ 7) (hb : g.bag.length ≤ 536870912) (hpl : placeI g.bag.length v.at_ = (j : Int)) (hxj : g.bag[j]? = some x) : Fn Try.prog 50 #[.pointer (some ⟨b, 0, none⟩), .agg (List.toArray (moveC v (A, c)))] (gr b g :: L) (fun r L' => r = .bool true ∧ L' = gr b (grBag g (cutB g.bag j)) :: L) := by
  refine Fn_enter Try.func50 rfl rfl rfl rfl ?_
  have hf := tm_fix v.node (n := g.n) (by omega)
  have htb := tm_bound v.node (n := g.n) (by omega)
  refine T_region ?_
  refine TL_box rfl rfl rfl ?_
  intro b3
  refine TL_y rfl rfl (Y_assign rfl) ?_
  refine TL_nil ?_
  refine T_region_draw _ [0, 1, 0, 4, 12, 28, 63, 127] [] [(0, true), (1, true), (2, true), (3, true), (4, true), (5, true), (6, true), (7, true)] (by kernel_rfl) (by decide +kernel) (Gives.refl _) ?_
  refine TF_y rfl rfl (Y_field_addr rfl) ?_
  refine TF_y rfl rfl (Y_load rfl rfl) ?_
  refine TF_y rfl rfl (Y_move rfl) ?_
  refine TF_y rfl rfl (Y_nil_check rfl) ?_
  refine TF_y rfl rfl (Y_field_addr rfl) ?_
  refine TF_y rfl rfl (Y_gr (b := b) (v := .int .i64 g.n) fun s hs ↦ (Y_load rfl rfl).val (by rw [← hs]; rfl)) ?_
  refine TF_y rfl rfl (Y_rem rfl rfl (by omega)) ?_
  refine TF_y rfl rfl (Y_assign rfl) ?_
  refine TF_nil ?_
  refine T_seq ?_
  refine T_region ?_
  refine TL_y rfl rfl (Y_move rfl) ?_
  refine TL_y rfl rfl (Y_lt rfl rfl) ?_
  refine TL_nil ?_
  refine T_joinKT (σ := Unit) [0, 3] (fun u => True) (fun u kv => (5, .int .i64 (v.node % g.n)) :: kv) (fun u => cells b3 (moveC v (A, c)) 95 :: gr b g :: L) rfl ?_ ?_
  · refine T_if rfl (fun h23 => ?_) (fun h23 => ?_)
    · refine T_region_last ?_
      refine TL_y rfl rfl (Y_move rfl) ?_
      refine TL_y rfl rfl (Y_move rfl) ?_
      refine TL_y rfl rfl (Y_nil_check rfl) ?_
      refine TL_y rfl rfl (Y_field_addr rfl) ?_
      refine TL_y rfl rfl (Y_gr (b := b) (v := .int .i64 g.n) fun s hs ↦ (Y_load rfl rfl).val (by rw [← hs]; rfl)) ?_
      refine TL_y rfl rfl (Y_add rfl rfl (by omega)) ?_
      refine TL_y rfl rfl (Y_assign rfl) ?_
      refine TL_name 5 (v' := .int .i64 (v.node % g.n)) rfl (by rw [← hf.1 h23]) ?_
      refine TL_nil ?_
      refine thenS_normal ?_
      exact ⟨(), trivial, holds_to (sub_cons rfl (sub_cons rfl (sub_cons rfl (sub_nil)))) GivesTo.g⟩
    · refine T_name 5 (v' := .int .i64 (v.node % g.n)) rfl (by rw [← hf.2 h23]) ?_
      refine T_skip ?_
      refine thenS_normal ?_
      exact ⟨(), trivial, holds_to (sub_cons rfl (sub_cons rfl (sub_cons rfl (sub_nil)))) GivesTo.g⟩
  · intro u hu
    refine T_region ?_
    refine TL_y rfl rfl (Y_move rfl) ?_
    refine TL_y rfl rfl (Y_field_addr rfl) ?_
    refine TL_y rfl rfl (Y_load rfl rfl) ?_
    refine TL_pullk b ?_
    refine TL_call rfl rfl (place_spec v.at_ hv.2.2.1 hb) ?_
    rintro _ _ ⟨rfl, rfl⟩
    refine TL_name 33 (v' := .int .i64 (j : Int)) rfl (by rw [hpl]) ?_
    refine TL_y rfl rfl (Y_assign rfl) ?_
    refine TL_nil ?_
    refine T_seq ?_
    refine T_region ?_
    refine TL_y rfl rfl (Y_field_addr rfl) ?_
    refine TL_y rfl rfl (Y_load rfl rfl) ?_
    refine TL_nil ?_
    refine T_block ?_
    refine T_region ?_
    refine TL_y rfl rfl (Y_eq rfl rfl) ?_
    refine TL_name 37 (v' := .bool false) rfl (congrArg Value.bool (decide_eq_false (by omega))) ?_
    refine TL_y rfl rfl (Y_assign rfl) ?_
    refine TL_nil ?_
    refine T_cond_false rfl ?_
    refine T_region ?_
    refine TL_y rfl rfl (Y_eq rfl rfl) ?_
    refine TL_name 67 (v' := .bool false) rfl (congrArg Value.bool (decide_eq_false (by omega))) ?_
    refine TL_y rfl rfl (Y_assign rfl) ?_
    refine TL_nil ?_
    refine T_cond_false rfl ?_
    refine T_seq ?_
    refine T_region ?_
    refine TL_y rfl rfl (Y_eq rfl rfl) ?_
    refine TL_name 92 (v' := .bool false) rfl (congrArg Value.bool (decide_eq_false (by omega))) ?_
    refine TL_y rfl rfl (Y_assign rfl) ?_
    refine TL_nil ?_
    refine T_cond_false rfl ?_
    refine T_region_last ?_
    refine TL_y rfl rfl (Y_eq rfl rfl) ?_
    refine TL_name 93 (v' := .bool true) rfl (congrArg Value.bool (decide_eq_true hkind)) ?_
    refine TL_y rfl rfl (Y_assign rfl) ?_
    refine TL_nil ?_
    refine thenS_normal ?_
    refine T_cond_true rfl ?_
    refine T_seq ?_
    refine T_region ?_
    refine TL_y rfl rfl (Y_move rfl) ?_
    refine TL_y rfl rfl (Y_lt rfl rfl) ?_
    refine TL_name 95 (v' := .bool false) rfl (congrArg Value.bool (decide_eq_false (by omega))) ?_
    refine TL_nil ?_
    refine T_cond_false rfl ?_
    refine T_skip ?_
    refine thenS_normal ?_
    refine T_pullk b ?_
    refine T_gr fun s hs => ?_
    obtain ⟨n, PB, AB, bag, ch, pa, pc, aa, acc, ba, bc, ca, cc⟩ := s
    subst hs
    have hb2 : bag.length ≤ 536870912 := hb
    have hxj2 : bag[j]? = some x := hxj
    have hjl := (List.getElem?_eq_some_iff.1 hxj2).1
    refine SlN.lens (sln (A := ba) (c := bc) (R := msgR) (xs := bag)) fun hlx => ?_
    dsimp only
    refine T_addr_n (sln (A := ba) (c := bc)) hxj2 fun bl ol el => ?_
    subst el
    refine T_region ?_
    refine TL_y rfl rfl (Y_move rfl) ?_
    refine TL_y rfl rfl (Y_nil_check rfl) ?_
    refine TL_y rfl rfl (Y_field_addr rfl) ?_
    refine TL_y rfl rfl (Y_load rfl rfl) ?_
    refine TL_y rfl rfl (Y_move rfl) ?_
    refine TL_y rfl rfl (Y_index_n (R := msgR) (xs := bag) rfl rfl rfl hxj2) ?_
    refine TL_load_nx (xs := bag) (q := 0) rfl rfl (sln (c := bc)) hxj2 (fun _ => rfl) ?_
    intro p102 ok102
    simp only [List.cons_append, List.nil_append]
    refine TL_alloc rfl rfl ?_
    intro b12
    refine TL_store rfl rfl rfl rfl rfl rfl ?_
    refine TL_nil ?_
    refine T_region_draw (cells b (grC ⟨n, PB, AB, bag, ch, pa, pc, aa, acc, some ⟨bl, ol, none⟩, bc, ca, cc⟩) 99 :: []) [0, 0, 0, 4, 12, 28, 0, 124, 254, 0, 512, 1536, 3584, 0, 8192, 32256, 65534, 131071, 262143, 524287] [19] [(0, true), (2, true), (3, true), (4, true), (5, true), (6, true), (7, true), (9, true), (10, true), (11, true), (12, true), (13, true), (14, true), (15, true), (1, false), (8, false), (16, false), (17, true), (18, true), (19, false)] (by kernel_rfl) (by decide +kernel) GivesTo.g ?_
    refine TF_y rfl rfl (Y_move rfl) ?_
    refine TF_y rfl rfl (Y_move rfl) ?_
    refine TF_y rfl rfl (Y_nil_check rfl) ?_
    refine TF_y rfl rfl (Y_field_addr rfl) ?_
    refine TF_y rfl rfl (Y_load rfl rfl) ?_
    refine TF_name 108 (v' := .slice (some ⟨bl, ol, none⟩) bag.length bc) rfl (rfl) ?_
    refine TF_y rfl rfl (Y_move rfl) ?_
    refine TF_y rfl rfl (Y_cut_h rfl rfl (by omega)) ?_
    refine TF_name 110 (v' := .slice (some ⟨bl, ol, none⟩) (bag.take j).length bc) rfl (by congr 1; rw [List.length_take]; omega) ?_
    refine TF_y rfl rfl (Y_move rfl) ?_
    refine TF_y rfl rfl (Y_nil_check rfl) ?_
    refine TF_y rfl rfl (Y_field_addr rfl) ?_
    refine TF_y rfl rfl (Y_load rfl rfl) ?_
    refine TF_name 115 (v' := .slice (some ⟨bl, ol, none⟩) bag.length bc) rfl (rfl) ?_
    refine TF_y rfl rfl (Y_move rfl) ?_
    refine TF_y rfl rfl (Y_add rfl rfl (by omega)) ?_
    refine TF_name 117 (v' := .int .i64 ((j + 1 : Nat) : Int)) rfl (rfl) ?_
    refine TF_y rfl rfl (Y_cut_l rfl rfl (by omega)) ?_
    refine TF_name 118 (v' := .slice (cutA (some ⟨bl, ol, none⟩) (j + 1) bc msgR.sz) (bag.drop (j + 1)).length (bc - (j + 1))) rfl (by rw [List.length_drop]; rfl) ?_
    refine TF_anchor rfl ?_
    refine TL_build_slice rfl rfl rfl rfl rfl rfl ?_
    intro b104
    refine TL_osl (k := 0) msgR [] (Knows.const fun M => rfl) rfl (by simp) ?_
    refine TL_name 104 (v' := .slice (some ⟨b104, 0, none⟩) ([] : List MsgD).length 0) rfl rfl ?_
    refine TF_end GivesTo.g ?_
    refine TF_anchor rfl ?_
    refine TL_append_n (R := msgR) rfl rfl rfl rfl rfl ((sln (A := some ⟨bl, ol, none⟩) (c := bc) (xs := bag)).take j) (by simp only [List.length_nil, List.length_take]; omega) ?_
    intro A111 c111
    simp only [List.nil_append]
    refine TF_end GivesTo.g ?_
    refine TF_anchor rfl ?_
    refine TL_append_n (R := msgR) rfl rfl rfl rfl rfl ((sln (A := some ⟨bl, ol, none⟩) (c := bc) (xs := bag)).dropc (show j + 1 ≤ bag.length by omega) hlx.1) (by simp only [List.length_take, List.length_drop]; omega) ?_
    intro A119 c119
    rw [show bag.take j ++ bag.drop (j + 1) = cutB bag j from rfl]
    refine TF_end GivesTo.g ?_
    refine TF_y rfl rfl (Y_nil_check rfl) ?_
    refine TF_y rfl rfl (Y_field_addr rfl) ?_
    refine TF_anchor rfl ?_
    refine TL_store rfl rfl rfl rfl rfl rfl ?_
    refine TF_end_tail rfl ?_
    refine TF_nil ?_
    refine T_gives (gr_close b ⟨n, PB, AB, cutB bag j, ch, pa, pc, aa, acc, A119, c119, ca, cc⟩ (grBag (GrS.pl ⟨n, PB, AB, bag, ch, pa, pc, aa, acc, some ⟨bl, ol, none⟩, bc, ca, cc⟩) (cutB (GrS.pl ⟨n, PB, AB, bag, ch, pa, pc, aa, acc, some ⟨bl, ol, none⟩, bc, ca, cc⟩).bag j)) rfl) ?_
    refine T_region ?_
    refine TL_y rfl rfl (Y_field_addr rfl) ?_
    refine TL_y rfl rfl (Y_load rfl rfl) ?_
    refine TL_y rfl rfl (Y_eq rfl rfl) ?_
    refine TL_name 124 (v' := .bool true) rfl (congrArg Value.bool (decide_eq_true hkind)) ?_
    refine TL_y rfl rfl (Y_move rfl) ?_
    refine TL_gskip rfl rfl rfl rfl ?_
    refine TL_gskip rfl rfl rfl rfl ?_
    refine TL_gskip rfl rfl rfl rfl ?_
    refine TL_y rfl rfl (Y_pick_t rfl rfl) ?_
    refine TL_y rfl rfl (Y_assign rfl) ?_
    refine TL_nil ?_
    refine T_ret ?_
    refine inB_ret ?_
    refine thenS_ret ?_
    exact RetG_1 (.inl rfl) rfl (ResV.tmp rfl) GivesTo.g (⟨rfl, rfl⟩)
theorem does_comes {L : List HP} {b : Nat} {g : GrD} {A : Option Addr} {c : Nat} {j k : Nat} {x : MsgD} {p : PP} {a : AccD} (v : MoveD) (hv : moveOk v) (hkind : v.kind = 3) (hn : 1 ≤ g.n ∧ g.n ≤ 7) (hb : g.bag.length ≤ 536870912) (hch : g.ch.length ≤ 536870912) (hpl : placeI g.bag.length v.at_ = (j : Int)) (hxj : g.bag[j]? = some x) (hc : cMsg x ≤ 140737488355328) (ht : x.to_ = (k : Int)) (hkn : (k : Int) < g.n) (hp : g.P[k]? = some p) (ha : g.A[k]? = some a) (hsafe : ∀ v ∈ (onP p x).2.2, ¬ mineA a x → ∀ u ∈ g.ch, u.slot = v.slot → u.en = v.en) : Fn Try.prog 50 #[.pointer (some ⟨b, 0, none⟩), .agg (List.toArray (moveC v (A, c)))] (gr b g :: L) (fun r L' => r = .bool true ∧ L' = gr b (comesG (grBag g (cutB g.bag j)) k p a x) :: L) := by
  refine Fn_enter Try.func50 rfl rfl rfl rfl ?_
  have hf := tm_fix v.node (n := g.n) (by omega)
  have htb := tm_bound v.node (n := g.n) (by omega)
  refine T_region ?_
  refine TL_box rfl rfl rfl ?_
  intro b3
  refine TL_y rfl rfl (Y_assign rfl) ?_
  refine TL_nil ?_
  refine T_region_draw _ [0, 1, 0, 4, 12, 28, 63, 127] [] [(0, true), (1, true), (2, true), (3, true), (4, true), (5, true), (6, true), (7, true)] (by kernel_rfl) (by decide +kernel) (Gives.refl _) ?_
  refine TF_y rfl rfl (Y_field_addr rfl) ?_
  refine TF_y rfl rfl (Y_load rfl rfl) ?_
  refine TF_y rfl rfl (Y_move rfl) ?_
  refine TF_y rfl rfl (Y_nil_check rfl) ?_
  refine TF_y rfl rfl (Y_field_addr rfl) ?_
  refine TF_y rfl rfl (Y_gr (b := b) (v := .int .i64 g.n) fun s hs ↦ (Y_load rfl rfl).val (by rw [← hs]; rfl)) ?_
  refine TF_y rfl rfl (Y_rem rfl rfl (by omega)) ?_
  refine TF_y rfl rfl (Y_assign rfl) ?_
  refine TF_nil ?_
  refine T_seq ?_
  refine T_region ?_
  refine TL_y rfl rfl (Y_move rfl) ?_
  refine TL_y rfl rfl (Y_lt rfl rfl) ?_
  refine TL_nil ?_
  refine T_joinKT (σ := Unit) [0, 3] (fun u => True) (fun u kv => (5, .int .i64 (v.node % g.n)) :: kv) (fun u => cells b3 (moveC v (A, c)) 95 :: gr b g :: L) rfl ?_ ?_
  · refine T_if rfl (fun h23 => ?_) (fun h23 => ?_)
    · refine T_region_last ?_
      refine TL_y rfl rfl (Y_move rfl) ?_
      refine TL_y rfl rfl (Y_move rfl) ?_
      refine TL_y rfl rfl (Y_nil_check rfl) ?_
      refine TL_y rfl rfl (Y_field_addr rfl) ?_
      refine TL_y rfl rfl (Y_gr (b := b) (v := .int .i64 g.n) fun s hs ↦ (Y_load rfl rfl).val (by rw [← hs]; rfl)) ?_
      refine TL_y rfl rfl (Y_add rfl rfl (by omega)) ?_
      refine TL_y rfl rfl (Y_assign rfl) ?_
      refine TL_name 5 (v' := .int .i64 (v.node % g.n)) rfl (by rw [← hf.1 h23]) ?_
      refine TL_nil ?_
      refine thenS_normal ?_
      exact ⟨(), trivial, holds_to (sub_cons rfl (sub_cons rfl (sub_cons rfl (sub_nil)))) GivesTo.g⟩
    · refine T_name 5 (v' := .int .i64 (v.node % g.n)) rfl (by rw [← hf.2 h23]) ?_
      refine T_skip ?_
      refine thenS_normal ?_
      exact ⟨(), trivial, holds_to (sub_cons rfl (sub_cons rfl (sub_cons rfl (sub_nil)))) GivesTo.g⟩
  · intro u hu
    refine T_region ?_
    refine TL_y rfl rfl (Y_move rfl) ?_
    refine TL_y rfl rfl (Y_field_addr rfl) ?_
    refine TL_y rfl rfl (Y_load rfl rfl) ?_
    refine TL_pullk b ?_
    refine TL_call rfl rfl (place_spec v.at_ hv.2.2.1 hb) ?_
    rintro _ _ ⟨rfl, rfl⟩
    refine TL_name 33 (v' := .int .i64 (j : Int)) rfl (by rw [hpl]) ?_
    refine TL_y rfl rfl (Y_assign rfl) ?_
    refine TL_nil ?_
    refine T_seq ?_
    refine T_region ?_
    refine TL_y rfl rfl (Y_field_addr rfl) ?_
    refine TL_y rfl rfl (Y_load rfl rfl) ?_
    refine TL_nil ?_
    refine T_block ?_
    refine T_region ?_
    refine TL_y rfl rfl (Y_eq rfl rfl) ?_
    refine TL_name 37 (v' := .bool false) rfl (congrArg Value.bool (decide_eq_false (by omega))) ?_
    refine TL_y rfl rfl (Y_assign rfl) ?_
    refine TL_nil ?_
    refine T_cond_false rfl ?_
    refine T_region ?_
    refine TL_y rfl rfl (Y_eq rfl rfl) ?_
    refine TL_name 67 (v' := .bool false) rfl (congrArg Value.bool (decide_eq_false (by omega))) ?_
    refine TL_y rfl rfl (Y_assign rfl) ?_
    refine TL_nil ?_
    refine T_cond_false rfl ?_
    refine T_seq ?_
    refine T_region ?_
    refine TL_y rfl rfl (Y_eq rfl rfl) ?_
    refine TL_name 92 (v' := .bool true) rfl (congrArg Value.bool (decide_eq_true hkind)) ?_
    refine TL_y rfl rfl (Y_assign rfl) ?_
    refine TL_nil ?_
    refine T_cond_true rfl ?_
    refine T_skip ?_
    refine thenS_normal ?_
    refine T_cond_true rfl ?_
    refine T_seq ?_
    refine T_region ?_
    refine TL_y rfl rfl (Y_move rfl) ?_
    refine TL_y rfl rfl (Y_lt rfl rfl) ?_
    refine TL_name 95 (v' := .bool false) rfl (congrArg Value.bool (decide_eq_false (by omega))) ?_
    refine TL_nil ?_
    refine T_cond_false rfl ?_
    refine T_skip ?_
    refine thenS_normal ?_
    refine T_pullk b ?_
    refine T_gr fun s hs => ?_
    obtain ⟨n, PB, AB, bag, ch, pa, pc, aa, acc, ba, bc, ca, cc⟩ := s
    subst hs
    have hb2 : bag.length ≤ 536870912 := hb
    have hxj2 : bag[j]? = some x := hxj
    have hjl := (List.getElem?_eq_some_iff.1 hxj2).1
    refine SlN.lens (sln (A := ba) (c := bc) (R := msgR) (xs := bag)) fun hlx => ?_
    dsimp only
    refine T_addr_n (sln (A := ba) (c := bc)) hxj2 fun bl ol el => ?_
    subst el
    refine T_region ?_
    refine TL_y rfl rfl (Y_move rfl) ?_
    refine TL_y rfl rfl (Y_nil_check rfl) ?_
    refine TL_y rfl rfl (Y_field_addr rfl) ?_
    refine TL_y rfl rfl (Y_load rfl rfl) ?_
    refine TL_y rfl rfl (Y_move rfl) ?_
    refine TL_y rfl rfl (Y_index_n (R := msgR) (xs := bag) rfl rfl rfl hxj2) ?_
    refine TL_load_nx (xs := bag) (q := 0) rfl rfl (sln (c := bc)) hxj2 (fun _ => rfl) ?_
    intro p102 ok102
    simp only [List.cons_append, List.nil_append]
    refine TL_alloc rfl rfl ?_
    intro b12
    refine TL_store rfl rfl rfl rfl rfl rfl ?_
    refine TL_nil ?_
    refine T_region_draw (cells b (grC ⟨n, PB, AB, bag, ch, pa, pc, aa, acc, some ⟨bl, ol, none⟩, bc, ca, cc⟩) 99 :: []) [0, 0, 0, 4, 12, 28, 0, 124, 254, 0, 512, 1536, 3584, 0, 8192, 32256, 65534, 131071, 262143, 524287] [19] [(0, true), (2, true), (3, true), (4, true), (5, true), (6, true), (7, true), (9, true), (10, true), (11, true), (12, true), (13, true), (14, true), (15, true), (1, false), (8, false), (16, false), (17, true), (18, true), (19, false)] (by kernel_rfl) (by decide +kernel) GivesTo.g ?_
    refine TF_y rfl rfl (Y_move rfl) ?_
    refine TF_y rfl rfl (Y_move rfl) ?_
    refine TF_y rfl rfl (Y_nil_check rfl) ?_
    refine TF_y rfl rfl (Y_field_addr rfl) ?_
    refine TF_y rfl rfl (Y_load rfl rfl) ?_
    refine TF_name 108 (v' := .slice (some ⟨bl, ol, none⟩) bag.length bc) rfl (rfl) ?_
    refine TF_y rfl rfl (Y_move rfl) ?_
    refine TF_y rfl rfl (Y_cut_h rfl rfl (by omega)) ?_
    refine TF_name 110 (v' := .slice (some ⟨bl, ol, none⟩) (bag.take j).length bc) rfl (by congr 1; rw [List.length_take]; omega) ?_
    refine TF_y rfl rfl (Y_move rfl) ?_
    refine TF_y rfl rfl (Y_nil_check rfl) ?_
    refine TF_y rfl rfl (Y_field_addr rfl) ?_
    refine TF_y rfl rfl (Y_load rfl rfl) ?_
    refine TF_name 115 (v' := .slice (some ⟨bl, ol, none⟩) bag.length bc) rfl (rfl) ?_
    refine TF_y rfl rfl (Y_move rfl) ?_
    refine TF_y rfl rfl (Y_add rfl rfl (by omega)) ?_
    refine TF_name 117 (v' := .int .i64 ((j + 1 : Nat) : Int)) rfl (rfl) ?_
    refine TF_y rfl rfl (Y_cut_l rfl rfl (by omega)) ?_
    refine TF_name 118 (v' := .slice (cutA (some ⟨bl, ol, none⟩) (j + 1) bc msgR.sz) (bag.drop (j + 1)).length (bc - (j + 1))) rfl (by rw [List.length_drop]; rfl) ?_
    refine TF_anchor rfl ?_
    refine TL_build_slice rfl rfl rfl rfl rfl rfl ?_
    intro b104
    refine TL_osl (k := 0) msgR [] (Knows.const fun M => rfl) rfl (by simp) ?_
    refine TL_name 104 (v' := .slice (some ⟨b104, 0, none⟩) ([] : List MsgD).length 0) rfl rfl ?_
    refine TF_end GivesTo.g ?_
    refine TF_anchor rfl ?_
    refine TL_append_n (R := msgR) rfl rfl rfl rfl rfl ((sln (A := some ⟨bl, ol, none⟩) (c := bc) (xs := bag)).take j) (by simp only [List.length_nil, List.length_take]; omega) ?_
    intro A111 c111
    simp only [List.nil_append]
    refine TF_end GivesTo.g ?_
    refine TF_anchor rfl ?_
    refine TL_append_n (R := msgR) rfl rfl rfl rfl rfl ((sln (A := some ⟨bl, ol, none⟩) (c := bc) (xs := bag)).dropc (show j + 1 ≤ bag.length by omega) hlx.1) (by simp only [List.length_take, List.length_drop]; omega) ?_
    intro A119 c119
    rw [show bag.take j ++ bag.drop (j + 1) = cutB bag j from rfl]
    refine TF_end GivesTo.g ?_
    refine TF_y rfl rfl (Y_nil_check rfl) ?_
    refine TF_y rfl rfl (Y_field_addr rfl) ?_
    refine TF_anchor rfl ?_
    refine TL_store rfl rfl rfl rfl rfl rfl ?_
    refine TF_end_tail rfl ?_
    refine TF_nil ?_
    refine T_gives (gr_close b ⟨n, PB, AB, cutB bag j, ch, pa, pc, aa, acc, A119, c119, ca, cc⟩ (grBag (GrS.pl ⟨n, PB, AB, bag, ch, pa, pc, aa, acc, some ⟨bl, ol, none⟩, bc, ca, cc⟩) (cutB (GrS.pl ⟨n, PB, AB, bag, ch, pa, pc, aa, acc, some ⟨bl, ol, none⟩, bc, ca, cc⟩).bag j)) rfl) ?_
    have hcb : (cutB bag j).length ≤ 536870912 := by unfold cutB; rw [List.length_append, List.length_take, List.length_drop]; omega
    refine T_region ?_
    refine TL_y rfl rfl (Y_field_addr rfl) ?_
    refine TL_y rfl rfl (Y_load rfl rfl) ?_
    refine TL_y rfl rfl (Y_eq rfl rfl) ?_
    refine TL_name 124 (v' := .bool false) rfl (congrArg Value.bool (decide_eq_false (by omega))) ?_
    refine TL_y rfl rfl (Y_move rfl) ?_
    refine TL_grun rfl rfl ?_
    refine TL_y rfl rfl (Y_move rfl) ?_
    refine TL_grun rfl rfl ?_
    refine TL_y rfl rfl (Y_load_agg rfl rfl) ?_
    refine TL_grun rfl rfl ?_
    refine TL_pullk b ?_
    refine TL_call rfl rfl (comes_spec x p102 ok102 ⟨slk, slk, slk, slk⟩ hc ht hkn hp ha hcb hch hsafe) ?_
    rintro _ _ ⟨rfl, rfl⟩
    refine TL_y rfl rfl (Y_pick_f rfl rfl) ?_
    refine TL_y rfl rfl (Y_assign rfl) ?_
    refine TL_nil ?_
    refine T_ret ?_
    refine inB_ret ?_
    refine thenS_ret ?_
    exact RetG_1 (.inl rfl) rfl (ResV.tmp rfl) GivesTo.g (⟨rfl, rfl⟩)
end Go.SL
set_option linter.unusedVariables false
set_option linter.unusedSimpArgs false
namespace Go.SL
open Go Go.Proofs
theorem prPut2 {L L1 L2 : List HP} {PB : List (Nat × PP)} {k bp : Nat} {p : PP} (bn : Nat) (q : PP) (hz : PB[k]? = some (bp, p)) [h1 : FindHP L (pr bn q) L1] [h2 : FindHP L1 (allH ((prHs PB).set k hole)) L2] : Gives L (allH (prHs (PB.set k (bn, q))) :: L2) := by
  have := allH_put (q := pr bn q) (L := L2) (List.getElem?_eq_some_iff.1 (prHs_at hz)).1
  rw [show (prHs PB).set k (pr bn q) = prHs (PB.set k (bn, q)) by unfold prHs; rw [List.map_set]] at this
  exact (h1.g.trans (Gives.cons _ h2.g)).trans this
theorem T_prDrop {r : Option Nat} {n : Nat} {P : Program} {Q : Exit → St → Prop} {D : List Deferred} {E : Env} {L L1 : List HP} {c : Code} {PB : List (Nat × PP)} {k bp : Nat} {p : PP} (hz : PB[k]? = some (bp, p)) [h1 : FindHP L (allH (prHs PB)) L1] (h : T r n P c ⟨D, E, allH ((prHs PB).set k hole) :: L1⟩ Q) : T r n P c ⟨D, E, L⟩ Q := T_gives (h1.g.trans ((allH_take (prHs_at hz)).trans (Gives.drop _ _))) h
theorem does_other {L : List HP} {b : Nat} {g : GrD} {A : Option Addr} {c : Nat} (v : MoveD) (hv : moveOk v) (hkind : v.kind < 1 ∨ 7 < v.kind) (hn : 1 ≤ g.n ∧ g.n ≤ 7) (hb : g.bag.length ≤ 536870912) : Fn Try.prog 50 #[.pointer (some ⟨b, 0, none⟩), .agg (List.toArray (moveC v (A, c)))] (gr b g :: L) (fun r L' => r = .bool true ∧ L' = gr b g :: L) := by
  refine Fn_enter Try.func50 rfl rfl rfl rfl ?_
  have hf := tm_fix v.node (n := g.n) (by omega)
  have htb := tm_bound v.node (n := g.n) (by omega)
  refine T_region ?_
  refine TL_box rfl rfl rfl ?_
  intro b3
  refine TL_y rfl rfl (Y_assign rfl) ?_
  refine TL_nil ?_
  refine T_region_draw _ [0, 1, 0, 4, 12, 28, 63, 127] [] [(0, true), (1, true), (2, true), (3, true), (4, true), (5, true), (6, true), (7, true)] (by kernel_rfl) (by decide +kernel) (Gives.refl _) ?_
  refine TF_y rfl rfl (Y_field_addr rfl) ?_
  refine TF_y rfl rfl (Y_load rfl rfl) ?_
  refine TF_y rfl rfl (Y_move rfl) ?_
  refine TF_y rfl rfl (Y_nil_check rfl) ?_
  refine TF_y rfl rfl (Y_field_addr rfl) ?_
  refine TF_y rfl rfl (Y_gr (b := b) (v := .int .i64 g.n) fun s hs ↦ (Y_load rfl rfl).val (by rw [← hs]; rfl)) ?_
  refine TF_y rfl rfl (Y_rem rfl rfl (by omega)) ?_
  refine TF_y rfl rfl (Y_assign rfl) ?_
  refine TF_nil ?_
  refine T_seq ?_
  refine T_region ?_
  refine TL_y rfl rfl (Y_move rfl) ?_
  refine TL_y rfl rfl (Y_lt rfl rfl) ?_
  refine TL_nil ?_
  refine T_joinKT (σ := Unit) [0, 3] (fun u => True) (fun u kv => (5, .int .i64 (v.node % g.n)) :: kv) (fun u => cells b3 (moveC v (A, c)) 95 :: gr b g :: L) rfl ?_ ?_
  · refine T_if rfl (fun h23 => ?_) (fun h23 => ?_)
    · refine T_region_last ?_
      refine TL_y rfl rfl (Y_move rfl) ?_
      refine TL_y rfl rfl (Y_move rfl) ?_
      refine TL_y rfl rfl (Y_nil_check rfl) ?_
      refine TL_y rfl rfl (Y_field_addr rfl) ?_
      refine TL_y rfl rfl (Y_gr (b := b) (v := .int .i64 g.n) fun s hs ↦ (Y_load rfl rfl).val (by rw [← hs]; rfl)) ?_
      refine TL_y rfl rfl (Y_add rfl rfl (by omega)) ?_
      refine TL_y rfl rfl (Y_assign rfl) ?_
      refine TL_name 5 (v' := .int .i64 (v.node % g.n)) rfl (by rw [← hf.1 h23]) ?_
      refine TL_nil ?_
      refine thenS_normal ?_
      exact ⟨(), trivial, holds_to (sub_cons rfl (sub_cons rfl (sub_cons rfl (sub_nil)))) GivesTo.g⟩
    · refine T_name 5 (v' := .int .i64 (v.node % g.n)) rfl (by rw [← hf.2 h23]) ?_
      refine T_skip ?_
      refine thenS_normal ?_
      exact ⟨(), trivial, holds_to (sub_cons rfl (sub_cons rfl (sub_cons rfl (sub_nil)))) GivesTo.g⟩
  · intro u hu
    refine T_region ?_
    refine TL_y rfl rfl (Y_move rfl) ?_
    refine TL_y rfl rfl (Y_field_addr rfl) ?_
    refine TL_y rfl rfl (Y_load rfl rfl) ?_
    refine TL_pullk b ?_
    refine TL_call rfl rfl (place_spec v.at_ hv.2.2.1 hb) ?_
    rintro _ _ ⟨rfl, rfl⟩
    refine TL_y rfl rfl (Y_assign rfl) ?_
    refine TL_nil ?_
    refine T_seq ?_
    refine T_region ?_
    refine TL_y rfl rfl (Y_field_addr rfl) ?_
    refine TL_y rfl rfl (Y_load rfl rfl) ?_
    refine TL_nil ?_
    refine T_block ?_
    refine T_region ?_
    refine TL_y rfl rfl (Y_eq rfl rfl) ?_
    refine TL_name 37 (v' := .bool false) rfl (congrArg Value.bool (decide_eq_false (by omega))) ?_
    refine TL_y rfl rfl (Y_assign rfl) ?_
    refine TL_nil ?_
    refine T_cond_false rfl ?_
    refine T_region ?_
    refine TL_y rfl rfl (Y_eq rfl rfl) ?_
    refine TL_name 67 (v' := .bool false) rfl (congrArg Value.bool (decide_eq_false (by omega))) ?_
    refine TL_y rfl rfl (Y_assign rfl) ?_
    refine TL_nil ?_
    refine T_cond_false rfl ?_
    refine T_seq ?_
    refine T_region ?_
    refine TL_y rfl rfl (Y_eq rfl rfl) ?_
    refine TL_name 92 (v' := .bool false) rfl (congrArg Value.bool (decide_eq_false (by omega))) ?_
    refine TL_y rfl rfl (Y_assign rfl) ?_
    refine TL_nil ?_
    refine T_cond_false rfl ?_
    refine T_region_last ?_
    refine TL_y rfl rfl (Y_eq rfl rfl) ?_
    refine TL_name 93 (v' := .bool false) rfl (congrArg Value.bool (decide_eq_false (by omega))) ?_
    refine TL_y rfl rfl (Y_assign rfl) ?_
    refine TL_nil ?_
    refine thenS_normal ?_
    refine T_cond_false rfl ?_
    refine T_region ?_
    refine TL_y rfl rfl (Y_eq rfl rfl) ?_
    refine TL_name 131 (v' := .bool false) rfl (congrArg Value.bool (decide_eq_false (by omega))) ?_
    refine TL_y rfl rfl (Y_assign rfl) ?_
    refine TL_nil ?_
    refine T_cond_false rfl ?_
    refine T_region ?_
    refine TL_y rfl rfl (Y_eq rfl rfl) ?_
    refine TL_name 159 (v' := .bool false) rfl (congrArg Value.bool (decide_eq_false (by omega))) ?_
    refine TL_y rfl rfl (Y_assign rfl) ?_
    refine TL_nil ?_
    refine T_cond_false rfl ?_
    refine T_region ?_
    refine TL_y rfl rfl (Y_eq rfl rfl) ?_
    refine TL_name 183 (v' := .bool false) rfl (congrArg Value.bool (decide_eq_false (by omega))) ?_
    refine TL_y rfl rfl (Y_assign rfl) ?_
    refine TL_nil ?_
    refine T_cond_false rfl ?_
    refine T_skip ?_
    refine inB_normal ?_
    refine thenS_normal ?_
    refine T_region ?_
    refine TL_y rfl rfl (Y_assign rfl) ?_
    refine TL_nil ?_
    refine T_ret ?_
    exact RetG_1 (.inl rfl) rfl (ResV.tmp rfl) GivesTo.g (⟨rfl, rfl⟩)
theorem does_dup {L : List HP} {b : Nat} {g : GrD} {A : Option Addr} {c : Nat} (v : MoveD) (hv : moveOk v) (hkind : v.kind = 5) (hn : 1 ≤ g.n ∧ g.n ≤ 7) (hb : g.bag.length ≤ 536870912) : Fn Try.prog 50 #[.pointer (some ⟨b, 0, none⟩), .agg (List.toArray (moveC v (A, c)))] (gr b g :: L) (fun r L' => ∃ bag, r = .bool true ∧ (∀ m ∈ bag, m ∈ g.bag) ∧ bag.length ≤ g.bag.length + 1 ∧ L' = gr b (grBag g bag) :: L) := by
  refine Fn_enter Try.func50 rfl rfl rfl rfl ?_
  have hf := tm_fix v.node (n := g.n) (by omega)
  have htb := tm_bound v.node (n := g.n) (by omega)
  refine T_region ?_
  refine TL_box rfl rfl rfl ?_
  intro b3
  refine TL_y rfl rfl (Y_assign rfl) ?_
  refine TL_nil ?_
  refine T_region_draw _ [0, 1, 0, 4, 12, 28, 63, 127] [] [(0, true), (1, true), (2, true), (3, true), (4, true), (5, true), (6, true), (7, true)] (by kernel_rfl) (by decide +kernel) (Gives.refl _) ?_
  refine TF_y rfl rfl (Y_field_addr rfl) ?_
  refine TF_y rfl rfl (Y_load rfl rfl) ?_
  refine TF_y rfl rfl (Y_move rfl) ?_
  refine TF_y rfl rfl (Y_nil_check rfl) ?_
  refine TF_y rfl rfl (Y_field_addr rfl) ?_
  refine TF_y rfl rfl (Y_gr (b := b) (v := .int .i64 g.n) fun s hs ↦ (Y_load rfl rfl).val (by rw [← hs]; rfl)) ?_
  refine TF_y rfl rfl (Y_rem rfl rfl (by omega)) ?_
  refine TF_y rfl rfl (Y_assign rfl) ?_
  refine TF_nil ?_
  refine T_seq ?_
  refine T_region ?_
  refine TL_y rfl rfl (Y_move rfl) ?_
  refine TL_y rfl rfl (Y_lt rfl rfl) ?_
  refine TL_nil ?_
  refine T_joinKT (σ := Unit) [0, 3] (fun u => True) (fun u kv => (5, .int .i64 (v.node % g.n)) :: kv) (fun u => cells b3 (moveC v (A, c)) 95 :: gr b g :: L) rfl ?_ ?_
  · refine T_if rfl (fun h23 => ?_) (fun h23 => ?_)
    · refine T_region_last ?_
      refine TL_y rfl rfl (Y_move rfl) ?_
      refine TL_y rfl rfl (Y_move rfl) ?_
      refine TL_y rfl rfl (Y_nil_check rfl) ?_
      refine TL_y rfl rfl (Y_field_addr rfl) ?_
      refine TL_y rfl rfl (Y_gr (b := b) (v := .int .i64 g.n) fun s hs ↦ (Y_load rfl rfl).val (by rw [← hs]; rfl)) ?_
      refine TL_y rfl rfl (Y_add rfl rfl (by omega)) ?_
      refine TL_y rfl rfl (Y_assign rfl) ?_
      refine TL_name 5 (v' := .int .i64 (v.node % g.n)) rfl (by rw [← hf.1 h23]) ?_
      refine TL_nil ?_
      refine thenS_normal ?_
      exact ⟨(), trivial, holds_to (sub_cons rfl (sub_cons rfl (sub_cons rfl (sub_nil)))) GivesTo.g⟩
    · refine T_name 5 (v' := .int .i64 (v.node % g.n)) rfl (by rw [← hf.2 h23]) ?_
      refine T_skip ?_
      refine thenS_normal ?_
      exact ⟨(), trivial, holds_to (sub_cons rfl (sub_cons rfl (sub_cons rfl (sub_nil)))) GivesTo.g⟩
  · intro u hu
    refine T_region ?_
    refine TL_y rfl rfl (Y_move rfl) ?_
    refine TL_y rfl rfl (Y_field_addr rfl) ?_
    refine TL_y rfl rfl (Y_load rfl rfl) ?_
    refine TL_pullk b ?_
    refine TL_call rfl rfl (place_spec v.at_ hv.2.2.1 hb) ?_
    rintro _ _ ⟨rfl, rfl⟩
    refine TL_y rfl rfl (Y_assign rfl) ?_
    refine TL_nil ?_
    refine T_seq ?_
    refine T_region ?_
    refine TL_y rfl rfl (Y_field_addr rfl) ?_
    refine TL_y rfl rfl (Y_load rfl rfl) ?_
    refine TL_nil ?_
    refine T_block ?_
    refine T_region ?_
    refine TL_y rfl rfl (Y_eq rfl rfl) ?_
    refine TL_name 37 (v' := .bool false) rfl (congrArg Value.bool (decide_eq_false (by omega))) ?_
    refine TL_y rfl rfl (Y_assign rfl) ?_
    refine TL_nil ?_
    refine T_cond_false rfl ?_
    refine T_region ?_
    refine TL_y rfl rfl (Y_eq rfl rfl) ?_
    refine TL_name 67 (v' := .bool false) rfl (congrArg Value.bool (decide_eq_false (by omega))) ?_
    refine TL_y rfl rfl (Y_assign rfl) ?_
    refine TL_nil ?_
    refine T_cond_false rfl ?_
    refine T_seq ?_
    refine T_region ?_
    refine TL_y rfl rfl (Y_eq rfl rfl) ?_
    refine TL_name 92 (v' := .bool false) rfl (congrArg Value.bool (decide_eq_false (by omega))) ?_
    refine TL_y rfl rfl (Y_assign rfl) ?_
    refine TL_nil ?_
    refine T_cond_false rfl ?_
    refine T_region_last ?_
    refine TL_y rfl rfl (Y_eq rfl rfl) ?_
    refine TL_name 93 (v' := .bool false) rfl (congrArg Value.bool (decide_eq_false (by omega))) ?_
    refine TL_y rfl rfl (Y_assign rfl) ?_
    refine TL_nil ?_
    refine thenS_normal ?_
    refine T_cond_false rfl ?_
    refine T_region ?_
    refine TL_y rfl rfl (Y_eq rfl rfl) ?_
    refine TL_name 131 (v' := .bool true) rfl (congrArg Value.bool (decide_eq_true hkind)) ?_
    refine TL_y rfl rfl (Y_assign rfl) ?_
    refine TL_nil ?_
    refine T_cond_true rfl ?_
    rcases placeI_in g.bag.length v.at_ with ⟨h0, hm1⟩ | ⟨j, hj, hjl⟩
    · refine T_pullk b ?_
      refine T_gr fun s hs => ?_
      obtain ⟨n, PB, AB, bag, ch, pa, pc, aa, acc, ba, bc, ca, cc⟩ := s
      subst hs
      have hb2 : bag.length ≤ 536870912 := hb
      dsimp only
      refine T_region ?_
      refine TL_y rfl rfl (Y_move rfl) ?_
      refine TL_y rfl rfl (Y_ge rfl rfl) ?_
      refine TL_name 133 (v' := .bool false) rfl (congrArg Value.bool (decide_eq_false (by omega))) ?_
      refine TL_y rfl rfl (Y_move rfl) ?_
      refine TL_gskip rfl rfl rfl rfl ?_
      refine TL_gskip rfl rfl rfl rfl ?_
      refine TL_gskip rfl rfl rfl rfl ?_
      refine TL_gskip rfl rfl rfl rfl ?_
      refine TL_gskip rfl rfl rfl rfl ?_
      refine TL_gskip rfl rfl rfl rfl ?_
      refine TL_y rfl rfl (Y_pick_f rfl rfl) ?_
      refine TL_nil ?_
      refine T_cond_false rfl ?_
      refine T_skip ?_
      refine inB_normal ?_
      refine thenS_normal ?_
      refine T_region ?_
      refine TL_y rfl rfl (Y_assign rfl) ?_
      refine TL_nil ?_
      refine T_ret ?_
      refine RetQ.gives (gr_close b ⟨n, PB, AB, bag, ch, pa, pc, aa, acc, ba, bc, ca, cc⟩ (grBag (GrS.pl ⟨n, PB, AB, bag, ch, pa, pc, aa, acc, ba, bc, ca, cc⟩) bag) rfl) ?_
      exact RetG_1 (.inl rfl) rfl (ResV.tmp rfl) GivesTo.g (⟨bag, rfl, fun m hm => hm, Nat.le_succ _, rfl⟩)
    · refine T_pullk b ?_
      refine T_gr fun s hs => ?_
      obtain ⟨n, PB, AB, bag, ch, pa, pc, aa, acc, ba, bc, ca, cc⟩ := s
      subst hs
      have hb2 : bag.length ≤ 536870912 := hb
      dsimp only
      refine T_region ?_
      refine TL_y rfl rfl (Y_move rfl) ?_
      refine TL_y rfl rfl (Y_ge rfl rfl) ?_
      refine TL_name 133 (v' := .bool true) rfl (congrArg Value.bool (decide_eq_true (by omega))) ?_
      refine TL_y rfl rfl (Y_move rfl) ?_
      refine TL_grun rfl rfl ?_
      refine TL_y rfl rfl (Y_move rfl) ?_
      refine TL_grun rfl rfl ?_
      refine TL_y rfl rfl (Y_nil_check rfl) ?_
      refine TL_grun rfl rfl ?_
      refine TL_y rfl rfl (Y_field_addr rfl) ?_
      refine TL_grun rfl rfl ?_
      refine TL_y rfl rfl (Y_load rfl rfl) ?_
      refine TL_grun rfl rfl ?_
      refine TL_y rfl rfl (Y_len rfl) ?_
      refine TL_grun rfl rfl ?_
      refine TL_y rfl rfl (Y_lt rfl rfl) ?_
      refine TL_y rfl rfl (Y_pick_t rfl rfl) ?_
      refine TL_nil ?_
      refine T_if rfl (fun h141 => ?_) (fun h141 => ?_)
      · have hjl2 : j < bag.length := hjl
        obtain ⟨x, hxj⟩ : ∃ x, bag[j]? = some x := ⟨_, List.getElem?_eq_getElem hjl2⟩
        refine T_addr_n (sln (A := ba) (c := bc)) hxj fun bl ol el => ?_
        subst el
        refine T_name 6 (v' := .int .i64 (j : Int)) rfl (by rw [hj]) ?_
        refine T_region_draw_last (cells b (grC ⟨n, PB, AB, bag, ch, pa, pc, aa, acc, some ⟨bl, ol, none⟩, bc, ca, cc⟩) 99 :: []) [0, 0, 2, 6, 14, 0, 32, 96, 224, 0, 992, 2016, 4064, 8190, 16383, 32767, 65535] [16] [(0, true), (1, true), (2, true), (3, true), (4, true), (5, true), (6, true), (7, true), (8, true), (9, true), (10, true), (11, false), (12, false), (13, false), (14, true), (15, true), (16, false)] (by kernel_rfl) (by decide +kernel) GivesTo.g ?_
        refine TF_y rfl rfl (Y_move rfl) ?_
        refine TF_y rfl rfl (Y_move rfl) ?_
        refine TF_y rfl rfl (Y_nil_check rfl) ?_
        refine TF_y rfl rfl (Y_field_addr rfl) ?_
        refine TF_y rfl rfl (Y_load rfl rfl) ?_
        refine TF_name 146 (v' := .slice (some ⟨bl, ol, none⟩) bag.length bc) rfl (rfl) ?_
        refine TF_y rfl rfl (Y_move rfl) ?_
        refine TF_y rfl rfl (Y_nil_check rfl) ?_
        refine TF_y rfl rfl (Y_field_addr rfl) ?_
        refine TF_y rfl rfl (Y_load rfl rfl) ?_
        refine TF_name 150 (v' := .slice (some ⟨bl, ol, none⟩) bag.length bc) rfl (rfl) ?_
        refine TF_y rfl rfl (Y_move rfl) ?_
        refine TF_y rfl rfl (Y_index_n (R := msgR) (xs := bag) rfl rfl rfl hxj) ?_
        refine TF_anchor rfl ?_
        refine TL_load_nx (xs := bag) (q := 0) rfl rfl (sln (c := bc)) hxj (fun _ => rfl) ?_
        intro p153 ok153
        simp only [List.cons_append, List.nil_append]
        refine TF_end GivesTo.g ?_
        refine TF_anchor rfl ?_
        refine TL_build_slice rfl rfl rfl rfl rfl rfl ?_
        intro b154
        refine TL_osl (k := 1) msgR [x] (cells_one' (ex_rep p153 (sep_msg ⟨slk, slk, slk, slk⟩) ok153)) rfl (by decide) ?_
        refine TL_freeze_osl ?_
        refine TL_name 154 (v' := .slice (some ⟨b154, 0, none⟩) [x].length 1) rfl rfl ?_
        refine TF_end GivesTo.g ?_
        refine TF_anchor rfl ?_
        refine TL_append rfl rfl rfl rfl rfl slk (by simp only [List.length_cons, List.length_nil]; omega) ?_
        intro A155 c155
        refine TF_end GivesTo.g ?_
        refine TF_y rfl rfl (Y_nil_check rfl) ?_
        refine TF_y rfl rfl (Y_field_addr rfl) ?_
        refine TF_anchor rfl ?_
        refine TL_store rfl rfl rfl rfl rfl rfl ?_
        refine TF_end_tail rfl ?_
        refine TF_nil ?_
        refine inB_normal ?_
        refine thenS_normal ?_
        refine T_region ?_
        refine TL_y rfl rfl (Y_assign rfl) ?_
        refine TL_nil ?_
        refine T_ret ?_
        refine RetQ.gives (gr_close b ⟨n, PB, AB, bag ++ [x], ch, pa, pc, aa, acc, A155, c155, ca, cc⟩ (grBag (GrS.pl ⟨n, PB, AB, bag, ch, pa, pc, aa, acc, some ⟨bl, ol, none⟩, bc, ca, cc⟩) (bag ++ [x])) rfl) ?_
        exact RetG_1 (.inl rfl) rfl (ResV.tmp rfl) GivesTo.g (⟨bag ++ [x], rfl, fun m hm => (by rcases List.mem_append.1 hm with h | h; (exact h); (rw [List.mem_singleton.1 h]; exact List.mem_of_getElem? hxj)), by rw [List.length_append]; exact Nat.le_refl _, rfl⟩)
      · refine T_skip ?_
        refine inB_normal ?_
        refine thenS_normal ?_
        refine T_region ?_
        refine TL_y rfl rfl (Y_assign rfl) ?_
        refine TL_nil ?_
        refine T_ret ?_
        refine RetQ.gives (gr_close b ⟨n, PB, AB, bag, ch, pa, pc, aa, acc, ba, bc, ca, cc⟩ (grBag (GrS.pl ⟨n, PB, AB, bag, ch, pa, pc, aa, acc, ba, bc, ca, cc⟩) bag) rfl) ?_
        exact RetG_1 (.inl rfl) rfl (ResV.tmp rfl) GivesTo.g (⟨bag, rfl, fun m hm => hm, Nat.le_succ _, rfl⟩)
def grPut (g : GrD) (k : Nat) (q : PP) : GrD := { g with P := g.P.set k q }
theorem does_crash {L : List HP} {b : Nat} {g : GrD} {k : Nat} {p : PP} {A : Option Addr} {c : Nat} (v : MoveD) (hv : moveOk v) (hkind : v.kind = 6) (hn : 1 ≤ g.n ∧ g.n ≤ 7) (hb : g.bag.length ≤ 536870912) (hk : v.node % g.n = (k : Int)) (hkn : (k : Int) < g.n) (hp : g.P[k]? = some p) : Fn Try.prog 50 #[.pointer (some ⟨b, 0, none⟩), .agg (List.toArray (moveC v (A, c)))] (gr b g :: L) (fun r L' => r = .bool true ∧ L' = gr b (grPut g k (ppNew k g.n)) :: L) := by
  refine Fn_enter Try.func50 rfl rfl rfl rfl ?_
  have hf := tm_fix v.node (n := g.n) (by omega)
  have htb := tm_bound v.node (n := g.n) (by omega)
  refine T_region ?_
  refine TL_box rfl rfl rfl ?_
  intro b3
  refine TL_y rfl rfl (Y_assign rfl) ?_
  refine TL_nil ?_
  refine T_region_draw _ [0, 1, 0, 4, 12, 28, 63, 127] [] [(0, true), (1, true), (2, true), (3, true), (4, true), (5, true), (6, true), (7, true)] (by kernel_rfl) (by decide +kernel) (Gives.refl _) ?_
  refine TF_y rfl rfl (Y_field_addr rfl) ?_
  refine TF_y rfl rfl (Y_load rfl rfl) ?_
  refine TF_y rfl rfl (Y_move rfl) ?_
  refine TF_y rfl rfl (Y_nil_check rfl) ?_
  refine TF_y rfl rfl (Y_field_addr rfl) ?_
  refine TF_y rfl rfl (Y_gr (b := b) (v := .int .i64 g.n) fun s hs ↦ (Y_load rfl rfl).val (by rw [← hs]; rfl)) ?_
  refine TF_y rfl rfl (Y_rem rfl rfl (by omega)) ?_
  refine TF_y rfl rfl (Y_assign rfl) ?_
  refine TF_nil ?_
  refine T_seq ?_
  refine T_region ?_
  refine TL_y rfl rfl (Y_move rfl) ?_
  refine TL_y rfl rfl (Y_lt rfl rfl) ?_
  refine TL_nil ?_
  refine T_joinKT (σ := Unit) [0, 3] (fun u => True) (fun u kv => (5, .int .i64 ((k : Int))) :: kv) (fun u => cells b3 (moveC v (A, c)) 95 :: gr b g :: L) rfl ?_ ?_
  · refine T_if rfl (fun h23 => ?_) (fun h23 => ?_)
    · refine T_region_last ?_
      refine TL_y rfl rfl (Y_move rfl) ?_
      refine TL_y rfl rfl (Y_move rfl) ?_
      refine TL_y rfl rfl (Y_nil_check rfl) ?_
      refine TL_y rfl rfl (Y_field_addr rfl) ?_
      refine TL_y rfl rfl (Y_gr (b := b) (v := .int .i64 g.n) fun s hs ↦ (Y_load rfl rfl).val (by rw [← hs]; rfl)) ?_
      refine TL_y rfl rfl (Y_add rfl rfl (by omega)) ?_
      refine TL_y rfl rfl (Y_assign rfl) ?_
      refine TL_name 5 (v' := .int .i64 ((k : Int))) rfl (by rw [← hk, ← hf.1 h23]) ?_
      refine TL_nil ?_
      refine thenS_normal ?_
      exact ⟨(), trivial, holds_to (sub_cons rfl (sub_cons rfl (sub_cons rfl (sub_nil)))) GivesTo.g⟩
    · refine T_name 5 (v' := .int .i64 ((k : Int))) rfl (by rw [← hk, ← hf.2 h23]) ?_
      refine T_skip ?_
      refine thenS_normal ?_
      exact ⟨(), trivial, holds_to (sub_cons rfl (sub_cons rfl (sub_cons rfl (sub_nil)))) GivesTo.g⟩
  · intro u hu
    refine T_region ?_
    refine TL_y rfl rfl (Y_move rfl) ?_
    refine TL_y rfl rfl (Y_field_addr rfl) ?_
    refine TL_y rfl rfl (Y_load rfl rfl) ?_
    refine TL_pullk b ?_
    refine TL_call rfl rfl (place_spec v.at_ hv.2.2.1 hb) ?_
    rintro _ _ ⟨rfl, rfl⟩
    refine TL_y rfl rfl (Y_assign rfl) ?_
    refine TL_nil ?_
    refine T_seq ?_
    refine T_region ?_
    refine TL_y rfl rfl (Y_field_addr rfl) ?_
    refine TL_y rfl rfl (Y_load rfl rfl) ?_
    refine TL_nil ?_
    refine T_block ?_
    refine T_region ?_
    refine TL_y rfl rfl (Y_eq rfl rfl) ?_
    refine TL_name 37 (v' := .bool false) rfl (congrArg Value.bool (decide_eq_false (by omega))) ?_
    refine TL_y rfl rfl (Y_assign rfl) ?_
    refine TL_nil ?_
    refine T_cond_false rfl ?_
    refine T_region ?_
    refine TL_y rfl rfl (Y_eq rfl rfl) ?_
    refine TL_name 67 (v' := .bool false) rfl (congrArg Value.bool (decide_eq_false (by omega))) ?_
    refine TL_y rfl rfl (Y_assign rfl) ?_
    refine TL_nil ?_
    refine T_cond_false rfl ?_
    refine T_seq ?_
    refine T_region ?_
    refine TL_y rfl rfl (Y_eq rfl rfl) ?_
    refine TL_name 92 (v' := .bool false) rfl (congrArg Value.bool (decide_eq_false (by omega))) ?_
    refine TL_y rfl rfl (Y_assign rfl) ?_
    refine TL_nil ?_
    refine T_cond_false rfl ?_
    refine T_region_last ?_
    refine TL_y rfl rfl (Y_eq rfl rfl) ?_
    refine TL_name 93 (v' := .bool false) rfl (congrArg Value.bool (decide_eq_false (by omega))) ?_
    refine TL_y rfl rfl (Y_assign rfl) ?_
    refine TL_nil ?_
    refine thenS_normal ?_
    refine T_cond_false rfl ?_
    refine T_region ?_
    refine TL_y rfl rfl (Y_eq rfl rfl) ?_
    refine TL_name 131 (v' := .bool false) rfl (congrArg Value.bool (decide_eq_false (by omega))) ?_
    refine TL_y rfl rfl (Y_assign rfl) ?_
    refine TL_nil ?_
    refine T_cond_false rfl ?_
    refine T_region ?_
    refine TL_y rfl rfl (Y_eq rfl rfl) ?_
    refine TL_name 159 (v' := .bool true) rfl (congrArg Value.bool (decide_eq_true hkind)) ?_
    refine TL_y rfl rfl (Y_assign rfl) ?_
    refine TL_nil ?_
    refine T_cond_true rfl ?_
    refine T_region ?_
    refine TL_y rfl rfl (Y_move rfl) ?_
    refine TL_y rfl rfl (Y_move rfl) ?_
    refine TL_y rfl rfl (Y_nil_check rfl) ?_
    refine TL_y rfl rfl (Y_field_addr rfl) ?_
    refine TL_y rfl rfl (Y_gr (b := b) (v := .int .i64 g.n) fun s hs ↦ (Y_load rfl rfl).val (by rw [← hs]; rfl)) ?_
    refine TL_call rfl rfl (prNew_ok (node := (k : Int)) (nodes := g.n) hn ⟨by omega, hkn⟩ _) ?_
    rintro _ _ ⟨bw, rfl, rfl⟩
    refine TL_y rfl rfl (Y_move rfl) ?_
    refine TL_y rfl rfl (Y_extract rfl rfl) ?_
    refine TL_y rfl rfl (Y_extract rfl rfl) ?_
    refine TL_y rfl rfl (Y_assign rfl) ?_
    refine TL_y rfl rfl (Y_assign rfl) ?_
    refine TL_nil ?_
    refine T_seq ?_
    refine T_region ?_
    refine TL_y rfl rfl (Y_move rfl) ?_
    refine TL_y rfl rfl (Y_ne rfl rfl) ?_
    refine TL_name 170 (v' := .bool false) rfl (congrArg Value.bool (decide_eq_false (by decide))) ?_
    refine TL_y rfl rfl (Y_move rfl) ?_
    refine TL_grun rfl rfl ?_
    refine TL_y rfl rfl (Y_move rfl) ?_
    refine TL_grun rfl rfl ?_
    refine TL_y rfl rfl (Y_equal rfl rfl (EqIs.ptr_nil)) ?_
    refine TL_name 173 (v' := .bool false) rfl (by simp) ?_
    refine TL_y rfl rfl (Y_pick_f rfl rfl) ?_
    refine TL_nil ?_
    refine T_cond_false rfl ?_
    refine T_skip ?_
    refine thenS_normal ?_
    refine T_pullk b ?_
    refine T_gr fun s hs => ?_
    obtain ⟨n, PB, AB, bag, ch, pa, pc, aa, acc, ba, bc, ca, cc⟩ := s
    subst hs
    have hb2 : bag.length ≤ 536870912 := hb
    obtain ⟨bp, hzp⟩ := pair_at (l := PB) hp
    have hup := fst_at hzp
    dsimp only
    refine T_focus (A := pa) (c := pc) (R := ptrR) hup fun gz lz eA hl => ?_
    subst eA
    obtain ⟨v0, rfl⟩ := len_one hl
    refine T_region_last ?_
    refine TL_y rfl rfl (Y_move rfl) ?_
    refine TL_y rfl rfl (Y_nil_check rfl) ?_
    refine TL_y rfl rfl (Y_field_addr rfl) ?_
    refine TL_y rfl rfl (Y_load rfl rfl) ?_
    refine TL_y rfl rfl (Y_move rfl) ?_
    refine TL_y rfl rfl (Y_move rfl) ?_
    refine TL_y rfl rfl (Y_index_x (R := ptrR) (xs := bs1 PB) rfl rfl rfl hup) ?_
    refine TL_store_x rfl rfl rfl rfl rfl rfl ?_
    refine TL_nil ?_
    refine inB_normal ?_
    refine thenS_normal ?_
    refine T_unx (R := ptrR) gz bw (Knows.const fun M => rfl) ?_
    refine T_prDrop hzp ?_
    have e1 : (bs1 PB).set k bw = bs1 (PB.set k (bw, ppNew (k : Int) (GrS.pl ⟨n, PB, AB, bag, ch, some ⟨gz, 0, none⟩, pc, aa, acc, ba, bc, ca, cc⟩).n)) := (by unfold bs1; rw [List.map_set])
    have e2 : (bs1 PB).length = (bs1 (PB.set k (bw, ppNew (k : Int) (GrS.pl ⟨n, PB, AB, bag, ch, some ⟨gz, 0, none⟩, pc, aa, acc, ba, bc, ca, cc⟩).n))).length := (by simp [bs1])
    rw [e1]
    simp only [grC]
    rw [e2]
    refine T_region ?_
    refine TL_y rfl rfl (Y_assign rfl) ?_
    refine TL_nil ?_
    refine T_ret ?_
    refine RetQ.gives (prPut2 bw (ppNew (k : Int) (GrS.pl ⟨n, PB, AB, bag, ch, some ⟨gz, 0, none⟩, pc, aa, acc, ba, bc, ca, cc⟩).n) hzp) ?_
    refine RetQ.gives (gr_close b ⟨n, PB.set k (bw, ppNew (k : Int) (GrS.pl ⟨n, PB, AB, bag, ch, some ⟨gz, 0, none⟩, pc, aa, acc, ba, bc, ca, cc⟩).n), AB, bag, ch, some ⟨gz, 0, none⟩, pc, aa, acc, ba, bc, ca, cc⟩ (grPut (GrS.pl ⟨n, PB, AB, bag, ch, some ⟨gz, 0, none⟩, pc, aa, acc, ba, bc, ca, cc⟩) k (ppNew (k : Int) (GrS.pl ⟨n, PB, AB, bag, ch, some ⟨gz, 0, none⟩, pc, aa, acc, ba, bc, ca, cc⟩).n)) (by unfold grPut GrS.pl; dsimp only; rw [snd_set])) ?_
    exact RetG_1 (.inl rfl) rfl (ResV.tmp rfl) GivesTo.g (⟨rfl, rfl⟩)
theorem does_again {L : List HP} {b : Nat} {g : GrD} {k : Nat} {p : PP} {A : Option Addr} {c : Nat} (v : MoveD) (hv : moveOk v) (hkind : v.kind = 7) (hn : 1 ≤ g.n ∧ g.n ≤ 7) (hb : g.bag.length ≤ 536870912) (hk : v.node % g.n = (k : Int)) (hp : g.P[k]? = some p) (hpi : PI p) : Fn Try.prog 50 #[.pointer (some ⟨b, 0, none⟩), .agg (List.toArray (moveC v (A, c)))] (gr b g :: L) (fun r L' => ∃ out, r = .bool true ∧ (out = [] ∨ out = againO p) ∧ L' = gr b (grBag g (g.bag ++ out)) :: L) := by
  refine Fn_enter Try.func50 rfl rfl rfl rfl ?_
  have hf := tm_fix v.node (n := g.n) (by omega)
  have htb := tm_bound v.node (n := g.n) (by omega)
  refine T_region ?_
  refine TL_box rfl rfl rfl ?_
  intro b3
  refine TL_y rfl rfl (Y_assign rfl) ?_
  refine TL_nil ?_
  refine T_region_draw _ [0, 1, 0, 4, 12, 28, 63, 127] [] [(0, true), (1, true), (2, true), (3, true), (4, true), (5, true), (6, true), (7, true)] (by kernel_rfl) (by decide +kernel) (Gives.refl _) ?_
  refine TF_y rfl rfl (Y_field_addr rfl) ?_
  refine TF_y rfl rfl (Y_load rfl rfl) ?_
  refine TF_y rfl rfl (Y_move rfl) ?_
  refine TF_y rfl rfl (Y_nil_check rfl) ?_
  refine TF_y rfl rfl (Y_field_addr rfl) ?_
  refine TF_y rfl rfl (Y_gr (b := b) (v := .int .i64 g.n) fun s hs ↦ (Y_load rfl rfl).val (by rw [← hs]; rfl)) ?_
  refine TF_y rfl rfl (Y_rem rfl rfl (by omega)) ?_
  refine TF_y rfl rfl (Y_assign rfl) ?_
  refine TF_nil ?_
  refine T_seq ?_
  refine T_region ?_
  refine TL_y rfl rfl (Y_move rfl) ?_
  refine TL_y rfl rfl (Y_lt rfl rfl) ?_
  refine TL_nil ?_
  refine T_joinKT (σ := Unit) [0, 3] (fun u => True) (fun u kv => (5, .int .i64 ((k : Int))) :: kv) (fun u => cells b3 (moveC v (A, c)) 95 :: gr b g :: L) rfl ?_ ?_
  · refine T_if rfl (fun h23 => ?_) (fun h23 => ?_)
    · refine T_region_last ?_
      refine TL_y rfl rfl (Y_move rfl) ?_
      refine TL_y rfl rfl (Y_move rfl) ?_
      refine TL_y rfl rfl (Y_nil_check rfl) ?_
      refine TL_y rfl rfl (Y_field_addr rfl) ?_
      refine TL_y rfl rfl (Y_gr (b := b) (v := .int .i64 g.n) fun s hs ↦ (Y_load rfl rfl).val (by rw [← hs]; rfl)) ?_
      refine TL_y rfl rfl (Y_add rfl rfl (by omega)) ?_
      refine TL_y rfl rfl (Y_assign rfl) ?_
      refine TL_name 5 (v' := .int .i64 ((k : Int))) rfl (by rw [← hk, ← hf.1 h23]) ?_
      refine TL_nil ?_
      refine thenS_normal ?_
      exact ⟨(), trivial, holds_to (sub_cons rfl (sub_cons rfl (sub_cons rfl (sub_nil)))) GivesTo.g⟩
    · refine T_name 5 (v' := .int .i64 ((k : Int))) rfl (by rw [← hk, ← hf.2 h23]) ?_
      refine T_skip ?_
      refine thenS_normal ?_
      exact ⟨(), trivial, holds_to (sub_cons rfl (sub_cons rfl (sub_cons rfl (sub_nil)))) GivesTo.g⟩
  · intro u hu
    refine T_region ?_
    refine TL_y rfl rfl (Y_move rfl) ?_
    refine TL_y rfl rfl (Y_field_addr rfl) ?_
    refine TL_y rfl rfl (Y_load rfl rfl) ?_
    refine TL_pullk b ?_
    refine TL_call rfl rfl (place_spec v.at_ hv.2.2.1 hb) ?_
    rintro _ _ ⟨rfl, rfl⟩
    refine TL_y rfl rfl (Y_assign rfl) ?_
    refine TL_nil ?_
    refine T_seq ?_
    refine T_region ?_
    refine TL_y rfl rfl (Y_field_addr rfl) ?_
    refine TL_y rfl rfl (Y_load rfl rfl) ?_
    refine TL_nil ?_
    refine T_block ?_
    refine T_region ?_
    refine TL_y rfl rfl (Y_eq rfl rfl) ?_
    refine TL_name 37 (v' := .bool false) rfl (congrArg Value.bool (decide_eq_false (by omega))) ?_
    refine TL_y rfl rfl (Y_assign rfl) ?_
    refine TL_nil ?_
    refine T_cond_false rfl ?_
    refine T_region ?_
    refine TL_y rfl rfl (Y_eq rfl rfl) ?_
    refine TL_name 67 (v' := .bool false) rfl (congrArg Value.bool (decide_eq_false (by omega))) ?_
    refine TL_y rfl rfl (Y_assign rfl) ?_
    refine TL_nil ?_
    refine T_cond_false rfl ?_
    refine T_seq ?_
    refine T_region ?_
    refine TL_y rfl rfl (Y_eq rfl rfl) ?_
    refine TL_name 92 (v' := .bool false) rfl (congrArg Value.bool (decide_eq_false (by omega))) ?_
    refine TL_y rfl rfl (Y_assign rfl) ?_
    refine TL_nil ?_
    refine T_cond_false rfl ?_
    refine T_region_last ?_
    refine TL_y rfl rfl (Y_eq rfl rfl) ?_
    refine TL_name 93 (v' := .bool false) rfl (congrArg Value.bool (decide_eq_false (by omega))) ?_
    refine TL_y rfl rfl (Y_assign rfl) ?_
    refine TL_nil ?_
    refine thenS_normal ?_
    refine T_cond_false rfl ?_
    refine T_region ?_
    refine TL_y rfl rfl (Y_eq rfl rfl) ?_
    refine TL_name 131 (v' := .bool false) rfl (congrArg Value.bool (decide_eq_false (by omega))) ?_
    refine TL_y rfl rfl (Y_assign rfl) ?_
    refine TL_nil ?_
    refine T_cond_false rfl ?_
    refine T_region ?_
    refine TL_y rfl rfl (Y_eq rfl rfl) ?_
    refine TL_name 159 (v' := .bool false) rfl (congrArg Value.bool (decide_eq_false (by omega))) ?_
    refine TL_y rfl rfl (Y_assign rfl) ?_
    refine TL_nil ?_
    refine T_cond_false rfl ?_
    refine T_region ?_
    refine TL_y rfl rfl (Y_eq rfl rfl) ?_
    refine TL_name 183 (v' := .bool true) rfl (congrArg Value.bool (decide_eq_true hkind)) ?_
    refine TL_y rfl rfl (Y_assign rfl) ?_
    refine TL_nil ?_
    refine T_cond_true rfl ?_
    refine T_pullk b ?_
    refine T_gr fun s hs => ?_
    obtain ⟨n, PB, AB, bag, ch, pa, pc, aa, acc, ba, bc, ca, cc⟩ := s
    subst hs
    have hb2 : bag.length ≤ 536870912 := hb
    obtain ⟨bp, hzp⟩ := pair_at (l := PB) hp
    have hup := fst_at hzp
    have hol := againO_len hpi
    dsimp only
    refine T_addr_n (sln (A := pa) (c := pc) (R := ptrR)) hup fun bz oz ez => ?_
    subst ez
    refine T_region ?_
    refine TL_y rfl rfl (Y_move rfl) ?_
    refine TL_y rfl rfl (Y_nil_check rfl) ?_
    refine TL_y rfl rfl (Y_field_addr rfl) ?_
    refine TL_y rfl rfl (Y_load rfl rfl) ?_
    refine TL_y rfl rfl (Y_len rfl) ?_
    refine TL_y rfl rfl (Y_lt rfl rfl) ?_
    refine TL_nil ?_
    refine T_if rfl (fun h189 => ?_) (fun h189 => ?_)
    · refine T_prTake hzp ?_
      refine T_region_draw_last (cells b (grC ⟨n, PB, AB, bag, ch, some ⟨bz, oz, none⟩, pc, aa, acc, ba, bc, ca, cc⟩) 99 :: osl ptrR 70 (some ⟨bz, oz, none⟩) pc (bs1 PB) :: []) [0, 0, 2, 6, 14, 0, 32, 96, 224, 0, 992, 2016, 4064, 8190, 16383, 32767, 65535] [16] [(0, true), (1, true), (2, true), (3, true), (4, true), (5, true), (6, true), (7, true), (8, true), (9, true), (10, true), (11, true), (12, false), (13, false), (14, true), (15, true), (16, false)] (by kernel_rfl) (by decide +kernel) GivesTo.g ?_
      refine TF_y rfl rfl (Y_move rfl) ?_
      refine TF_y rfl rfl (Y_move rfl) ?_
      refine TF_y rfl rfl (Y_nil_check rfl) ?_
      refine TF_y rfl rfl (Y_field_addr rfl) ?_
      refine TF_y rfl rfl (Y_load rfl rfl) ?_
      refine TF_name 194 (v' := .slice ba bag.length bc) rfl (rfl) ?_
      refine TF_y rfl rfl (Y_move rfl) ?_
      refine TF_y rfl rfl (Y_nil_check rfl) ?_
      refine TF_y rfl rfl (Y_field_addr rfl) ?_
      refine TF_y rfl rfl (Y_load rfl rfl) ?_
      refine TF_y rfl rfl (Y_move rfl) ?_
      refine TF_y rfl rfl (Y_index_n (R := ptrR) (xs := bs1 PB) rfl rfl rfl hup) ?_
      refine TF_y rfl rfl (Y_load_n (R := ptrR) (c := pc) (xs := bs1 PB) (q := 0) rfl sln hup rfl) ?_
      refine TF_anchor rfl ?_
      refine TL_pullk bp ?_
      refine TL_call rfl rfl (prAgain_spec) ?_
      rintro _ _ ⟨Ao, co, rfl, rfl⟩
      refine TL_freeze_osl ?_
      refine TF_end GivesTo.g ?_
      refine TF_anchor rfl ?_
      refine TL_append rfl rfl rfl rfl rfl slk (by (try simp only [List.length_append, List.length_cons, List.length_nil]); omega) ?_
      intro A203 c203
      refine TF_end GivesTo.g ?_
      refine TF_y rfl rfl (Y_nil_check rfl) ?_
      refine TF_y rfl rfl (Y_field_addr rfl) ?_
      refine TF_anchor rfl ?_
      refine TL_store rfl rfl rfl rfl rfl rfl ?_
      refine TF_end_tail rfl ?_
      refine TF_nil ?_
      refine inB_normal ?_
      refine thenS_normal ?_
      refine T_region ?_
      refine TL_y rfl rfl (Y_assign rfl) ?_
      refine TL_nil ?_
      refine T_ret ?_
      refine RetQ.gives (prPut p hzp) ?_
      rw [set_self hzp]
      refine RetQ.gives (gr_close b ⟨n, PB, AB, bag ++ againO p, ch, some ⟨bz, oz, none⟩, pc, aa, acc, A203, c203, ca, cc⟩ (grBag (GrS.pl ⟨n, PB, AB, bag, ch, some ⟨bz, oz, none⟩, pc, aa, acc, ba, bc, ca, cc⟩) ((GrS.pl ⟨n, PB, AB, bag, ch, some ⟨bz, oz, none⟩, pc, aa, acc, ba, bc, ca, cc⟩).bag ++ againO p)) rfl) ?_
      exact RetG_1 (.inl rfl) rfl (ResV.tmp rfl) GivesTo.g (⟨againO p, rfl, .inr rfl, rfl⟩)
    · refine T_skip ?_
      refine inB_normal ?_
      refine thenS_normal ?_
      refine T_region ?_
      refine TL_y rfl rfl (Y_assign rfl) ?_
      refine TL_nil ?_
      refine T_ret ?_
      refine RetQ.gives (gr_close b ⟨n, PB, AB, bag, ch, some ⟨bz, oz, none⟩, pc, aa, acc, ba, bc, ca, cc⟩ (grBag (GrS.pl ⟨n, PB, AB, bag, ch, some ⟨bz, oz, none⟩, pc, aa, acc, ba, bc, ca, cc⟩) ((GrS.pl ⟨n, PB, AB, bag, ch, some ⟨bz, oz, none⟩, pc, aa, acc, ba, bc, ca, cc⟩).bag ++ [])) (by unfold grBag GrS.pl; simp)) ?_
      exact RetG_1 (.inl rfl) rfl (ResV.tmp rfl) GivesTo.g (⟨[], rfl, .inl rfl, rfl⟩)
end Go.SL
set_option linter.unusedVariables false
set_option linter.unusedSimpArgs false
namespace Go.SL
open Go Go.Proofs
theorem GrI.n7 {X : Gh} {g : GrD} {pend : Int × Int → Prop} (h : GrI X g pend) : 1 ≤ g.n ∧ g.n ≤ 7 := by rw [h.n]; exact h.gi.n
theorem GrI.pAt {X : Gh} {g : GrD} {pend : Int × Int → Prop} (h : GrI X g pend) {k : Nat} (hk : (k : Int) < g.n) : ∃ p, g.P[k]? = some p := ⟨_, List.getElem?_eq_getElem (by have := h.lp; have := h.n; omega)⟩
theorem GrI.aAt {X : Gh} {g : GrD} {pend : Int × Int → Prop} (h : GrI X g pend) {k : Nat} (hk : (k : Int) < g.n) : ∃ a, g.A[k]? = some a := ⟨_, List.getElem?_eq_getElem (by have := h.la; have := h.n; omega)⟩
theorem node_in {n nd : Int} (hn : 1 ≤ n) : ∃ k : Nat, nd % n = (k : Int) ∧ (k : Int) < n := by
  have h2 := Int.emod_nonneg nd (show n ≠ 0 by omega)
  have h3 := Int.emod_lt_of_pos nd (show 0 < n by omega)
  exact ⟨(nd % n).toNat, by omega, by omega⟩
theorem cutB_mem {bag : List MsgD} {j : Nat} {m : MsgD} (h : m ∈ cutB bag j) : m ∈ bag := by
  unfold cutB at h
  rcases List.mem_append.1 h with h | h
  · exact List.mem_of_mem_take h
  · exact List.mem_of_mem_drop h
theorem cutB_len (bag : List MsgD) (j : Nat) : (cutB bag j).length ≤ bag.length := by
  unfold cutB; rw [List.length_append, List.length_take, List.length_drop]; omega
theorem comesG_len {g : GrD} {k : Nat} {p : PP} {a : AccD} {m : MsgD} (hi : PI p) : (comesG g k p a m).n = g.n ∧ (comesG g k p a m).bag.length ≤ g.bag.length + 28672 ∧ (comesG g k p a m).ch.length ≤ g.ch.length + 1 := by
  have := onP_node hi m
  unfold comesG
  split
  · unfold comesA; simp
  · unfold comesP; simp; omega
theorem GrI.nodes {X : Gh} {g : GrD} {pend : Int × Int → Prop} (h : GrI X g pend) {k : Nat} (hk : (k : Int) < g.n) : isV X.n k := by rw [← h.n]; unfold isV; omega
/-- What a walk of a move leaves. -/
def DoesI (g g' : GrD) : Prop := (∃ Y, GrI Y g' none2) ∧ g'.n = g.n ∧ g'.bag.length ≤ g.bag.length + 28673 ∧ g'.ch.length ≤ g.ch.length + 1
theorem does_inv {L : List HP} {b : Nat} {X : Gh} {g : GrD} {A : Option Addr} {c : Nat} (hI : GrI X g none2) (v : MoveD) (hv : moveOk v) (hkind : v.kind ≠ 1) (hb : g.bag.length ≤ 536870912) (hch : g.ch.length ≤ 536870912) (hcut : SlK L (intR .i64) A c v.en.order.cut) (hc : cSeal v.en.order ≤ 140737488355000) : Fn Try.prog 50 #[.pointer (some ⟨b, 0, none⟩), .agg (List.toArray (moveC v (A, c)))] (gr b g :: L) (fun r L' => ∃ g', r = .bool true ∧ DoesI g g' ∧ L' = gr b g' :: L) := by
  refine Fn_grI fun hpi => ?_
  have hn := hI.n7
  obtain ⟨k, hk, hkn⟩ := node_in (nd := v.node) hn.1
  obtain ⟨p, hp⟩ := hI.pAt hkn
  have hi := hpi p (List.mem_of_getElem? hp)
  have hV := hI.nodes hkn
  by_cases h2 : v.kind = 2
  · refine (does_propose v hv h2 hn hk hp hb hi hcut hc).cases_ fun r L' ⟨e1, e2⟩ => ⟨_, e1, ?_, e2⟩
    obtain ⟨Y, hY⟩ := px_propo hI.gi hV (hI.p k p hp) hi v.en
    have hG := hI.step (ch := []) hp hY (fun v hv => by cases hv)
    rw [List.append_nil] at hG
    refine ⟨⟨Y, hG⟩, rfl, ?_, Nat.le_succ _⟩
    have := propO_len hi v.en
    show (g.bag ++ propO p v.en).length ≤ _
    rw [List.length_append]; omega
  by_cases h34 : v.kind = 3 ∨ v.kind = 4
  · rcases placeI_in g.bag.length v.at_ with ⟨h0, _⟩ | ⟨j, hj, hjl⟩
    · exact (does_none v hv h34 hn h0).cases_ fun r L' ⟨e1, e2⟩ => ⟨_, e1, ⟨⟨X, hI⟩, rfl, by omega, by omega⟩, e2⟩
    · obtain ⟨x, hx⟩ : ∃ x, g.bag[j]? = some x := ⟨_, List.getElem?_eq_getElem hjl⟩
      have hxm := List.mem_of_getElem? hx
      have hM := hI.m x hxm
      have hcl := cutB_len g.bag j
      have hIc : GrI X (grBag g (cutB g.bag j)) none2 := hI.bag fun m hm => hI.m m (cutB_mem hm)
      rcases h34 with h3 | h4
      · have hto := hM.to_
        obtain ⟨k2, hk2⟩ : ∃ k2 : Nat, x.to_ = (k2 : Int) := ⟨x.to_.toNat, by unfold isV at hto; omega⟩
        have hk2n : (k2 : Int) < g.n := by rw [hI.n, ← hk2]; exact hto.2
        obtain ⟨p2, hp2⟩ := hI.pAt hk2n
        obtain ⟨a2, ha2⟩ := hI.aAt hk2n
        have hi2 := hpi p2 (List.mem_of_getElem? hp2)
        have hcm : cMsg x ≤ 140737488355328 := Nat.le_trans (cMsg_right hM.right hM.seen hM.events) (by decide)
        obtain ⟨Y, hY, hsafe, _⟩ := comes_inv hIc hp2 ha2 hi2 hM (rMsg_ok hM.right) (hI.nodes hk2n)
        refine (does_comes v hv h3 hn hb hch hj hx hcm hk2 hk2n hp2 ha2 hsafe).cases_ fun r L' ⟨e1, e2⟩ => ⟨_, e1, ?_, e2⟩
        have hlen := comesG_len (g := grBag g (cutB g.bag j)) (k := k2) (a := a2) (m := x) hi2
        refine ⟨⟨Y, hY⟩, hlen.1, ?_, hlen.2.2⟩
        have := hlen.2.1
        have e : (grBag g (cutB g.bag j)).bag.length = (cutB g.bag j).length := rfl
        omega
      · refine (does_lost v hv h4 hn hb hj hx).cases_ fun r L' ⟨e1, e2⟩ => ⟨_, e1, ⟨⟨X, hIc⟩, rfl, ?_, Nat.le_succ _⟩, e2⟩
        show (cutB g.bag j).length ≤ _
        omega
  by_cases h5 : v.kind = 5
  · refine (does_dup v hv h5 hn hb).cases_ fun r L' ⟨bag, e1, e2, e3, e4⟩ => ⟨_, e1, ⟨⟨X, hI.bag fun m hm => hI.m m (e2 m hm)⟩, rfl, ?_, Nat.le_succ _⟩, e4⟩
    show bag.length ≤ _
    omega
  by_cases h6 : v.kind = 6
  · exact (does_crash v hv h6 hn hb hk hkn hp).cases_ fun r L' ⟨e1, e2⟩ => ⟨_, e1, ⟨⟨X, hI.crash k⟩, rfl, by show g.bag.length ≤ _; omega, Nat.le_succ _⟩, e2⟩
  by_cases h7 : v.kind = 7
  · refine (does_again v hv h7 hn hb hk hp hi).cases_ fun r L' ⟨out, e1, e2, e3⟩ => ⟨_, e1, ?_, e3⟩
    have hm : ∀ m ∈ out, MInv X m := by
      rcases e2 with rfl | rfl
      · intro m hm; cases hm
      · exact px_again hI.gi hV (hI.p k p hp) hi
    have hl : out.length ≤ 28672 := by
      rcases e2 with rfl | rfl
      · exact Nat.zero_le _
      · exact againO_len hi
    refine ⟨⟨X, hI.bag fun m hm' => (List.mem_append.1 hm').elim (hI.m m) (hm m)⟩, rfl, ?_, Nat.le_succ _⟩
    show (g.bag ++ out).length ≤ _
    rw [List.length_append]; omega
  · exact (does_other v hv (by omega) hn hb).cases_ fun r L' ⟨e1, e2⟩ => ⟨_, e1, ⟨⟨X, hI⟩, rfl, by omega, by omega⟩, e2⟩
/-! ### A node that begins hears of it at once -/
theorem prep_at {p : PP} (ht : p.told = no7) {j : Nat} (hj : (j : Int) < p.nodes) : (prepM p)[j]? = some (toM (prepB p) p.node (j : Int)) := by
  unfold prepM allM allK
  have e : (List.range p.nodes.toNat).filter (fun i : Nat => !decide (hasV p.told p.nodes (i : Int))) = List.range p.nodes.toNat := List.filter_eq_self.2 fun i _ => by rw [ht]; simpa using hasV_no
  rw [e, List.getElem?_map, List.getElem?_range (by omega)]
  rfl
theorem prep_len {p : PP} (ht : p.told = no7) : (prepM p).length = p.nodes.toNat := by
  unfold prepM allM allK
  have e : (List.range p.nodes.toNat).filter (fun i : Nat => !decide (hasV p.told p.nodes (i : Int))) = List.range p.nodes.toNat := List.filter_eq_self.2 fun i _ => by rw [ht]; simpa using hasV_no
  rw [e]; simp
theorem startO_at {p : PP} {floor : Int × Int} (he : startE p floor 0 = 0) : startO p floor 0 = prepM (startP p floor 0) ∧ (startP p floor 0).told = no7 := by
  unfold startO startP
  rw [if_pos he, if_pos he]
  exact ⟨rfl, rfl⟩
abbrev ownM (p : PP) (k : Nat) : MsgD := toM (prepB p) p.node (k : Int)
/-- The state when a node began. -/
abbrev bgG (g : GrD) (k : Nat) (p : PP) (a : AccD) : GrD := grSet g k (startP p a.prom 0) (startO p a.prom 0)
noncomputable abbrev ownG (g : GrD) (k : Nat) (p : PP) (a : AccD) : GrD := comesG (grBag (bgG g k p a) (cutB (bgG g k p a).bag (g.bag.length + k))) k (startP p a.prom 0) a (ownM (startP p a.prom 0) k)
structure BgI (g : GrD) (k : Nat) (p : PP) (a : AccD) : Prop where
  at_ : ∀ j : Nat, (j : Int) < g.n → (bgG g k p a).bag[g.bag.length + j]? = some (toM (prepB (startP p a.prom 0)) (startP p a.prom 0).node (j : Int))
  len : ((bgG g k p a).bag.length : Int) = g.bag.length + g.n
  ok : MsgOk (ownM (startP p a.prom 0) k)
  cm : cMsg (ownM (startP p a.prom 0) k) ≤ 140737488355328
  pk : (bgG g k p a).P[k]? = some (startP p a.prom 0)
  safe : ∀ v ∈ (onP (startP p a.prom 0) (ownM (startP p a.prom 0) k)).2.2, ¬ mineA a (ownM (startP p a.prom 0) k) → ∀ u ∈ g.ch, u.slot = v.slot → u.en = v.en
  inv : DoesI g (ownG g k p a)
theorem bg_inv {X : Gh} {g : GrD} (hI : GrI X g none2) {k : Nat} {p : PP} {a : AccD} (hkn : (k : Int) < g.n) (hp : g.P[k]? = some p) (ha : g.A[k]? = some a) (hi : PI p) (he : startE p a.prom 0 = 0) : BgI g k p a := by
  have hV := hI.nodes hkn
  have hn := hI.n7
  obtain ⟨h1, h2, h3⟩ := hI.start hp ha hi hV he
  obtain ⟨e1, e2⟩ := startO_at he
  have hnd := startP_node p a.prom 0
  have hpn : (startP p a.prom 0).nodes = g.n := by rw [hnd.2, (hI.p k p hp).nodes, hI.n]
  have hpi := startP_I hi he
  have hat : ∀ j : Nat, (j : Int) < g.n → (bgG g k p a).bag[g.bag.length + j]? = some (toM (prepB (startP p a.prom 0)) (startP p a.prom 0).node (j : Int)) := fun j hj => by
    show (g.bag ++ startO p a.prom 0)[g.bag.length + j]? = _
    rw [List.getElem?_append_right (by omega), Nat.add_sub_cancel_left, e1]
    exact prep_at e2 (by rw [hpn]; exact hj)
  have hM : MInv (stG X (startP p a.prom 0).bal) (ownM (startP p a.prom 0) k) := h1.m _ (List.mem_of_getElem? (hat k hkn))
  have hpk : (bgG g k p a).P[k]? = some (startP p a.prom 0) := by
    show (g.P.set k _)[k]? = _
    rw [List.getElem?_set, if_pos rfl, if_pos (List.getElem?_eq_some_iff.1 hp).1]
  have hc1 : GrI (stG X (startP p a.prom 0).bal) (grBag (bgG g k p a) (cutB (bgG g k p a).bag (g.bag.length + k))) (fun b => b = (startP p a.prom 0).bal) := h1.bag fun m hm => h1.m m (cutB_mem hm)
  obtain ⟨Y, hY, hsafe, hprom⟩ := comes_inv hc1 hpk ha hpi hM (rMsg_ok hM.right) hV
  have hown := own_mine hM (h1.a k a ha) rfl rfl rfl h3
  have hlen : ((bgG g k p a).bag.length : Int) = g.bag.length + g.n := by
    show ((g.bag ++ startO p a.prom 0).length : Int) = _
    rw [List.length_append, e1, prep_len e2, hpn]; omega
  refine ⟨hat, hlen, rMsg_ok hM.right, Nat.le_trans (cMsg_right hM.right hM.seen hM.events) (by decide), hpk, hsafe, ⟨⟨Y, hY.clear fun b hb => ?_⟩, ?_⟩⟩
  · subst hb
    rw [h2, hprom hown.1 hown.2]; exact leB_refl _
  · have hl := comesG_len (g := grBag (bgG g k p a) (cutB (bgG g k p a).bag (g.bag.length + k))) (k := k) (a := a) (m := ownM (startP p a.prom 0) k) hpi
    have hcl := cutB_len (bgG g k p a).bag (g.bag.length + k)
    have e : (grBag (bgG g k p a) (cutB (bgG g k p a).bag (g.bag.length + k))).bag.length = (cutB (bgG g k p a).bag (g.bag.length + k)).length := rfl
    have hG : ownG g k p a = comesA (grBag (bgG g k p a) (cutB (bgG g k p a).bag (g.bag.length + k))) k a (ownM (startP p a.prom 0) k) := if_pos hown.1
    refine ⟨hl.1, ?_, hl.2.2⟩
    rw [hG]
    show (cutB (bgG g k p a).bag (g.bag.length + k) ++ [_]).length ≤ _
    rw [List.length_append, List.length_singleton]
    omega
theorem bg_none {X : Gh} {g : GrD} (hI : GrI X g none2) {k : Nat} {p : PP} {a : AccD} (hp : g.P[k]? = some p) (he : startE p a.prom 0 ≠ 0) : bgG g k p a = g := by
  have e1 : startO p a.prom 0 = [] := by unfold startO; rw [if_neg he]
  have e2 : startP p a.prom 0 = p := by unfold startP; rw [if_neg he]
  unfold bgG grSet
  rw [e1, e2, List.append_nil, set_same hp]
end Go.SL
set_option linter.unusedVariables false
set_option linter.unusedSimpArgs false
namespace Go.SL
open Go Go.Proofs
def moveR : Rep MoveD := exR 8 moveC (fun v p => [sl (intR .i64) p.1 p.2 v.en.order.cut]) moveOk (fun _ _ => rfl) (fun _ _ => rfl)
instance : IsEx moveR (Option Addr × Nat) 8 moveC (fun v p => [sl (intR .i64) p.1 p.2 v.en.order.cut]) moveOk := ⟨_, _, rfl⟩
def μMove (v : MoveD) : Nat := μEntry v.en + 3
theorem cells_move : Try.prog.cellsOf 95 = 8 := by kernel_rfl
set_option maxRecDepth 100000 in
theorem reads_move : Reads Try.prog 95 moveR (fun _ => True) μMove := fun H enc W held fuel cs d ps h hw => by
  obtain ⟨ds, n, rfl, hl, hdl, hf⟩ := reads_fields Try.underlying95 h hw
  rw [cells_move] at hl
  match cs, hl with
  | [u0, u1, u2, u3, u4, u5, u6, u7], _ =>
  obtain ⟨d0, p0, g0, h0, w0⟩ := hf 0 _ rfl
  obtain ⟨d1, p1, g1, h1, w1⟩ := hf 1 _ rfl
  obtain ⟨d2, p2, g2, h2, w2⟩ := hf 2 _ rfl
  obtain ⟨d3, p3, g3, h3, w3⟩ := hf 3 _ rfl
  obtain ⟨x0, ⟨e0, i0⟩, _, m0⟩ := reads_int Try.underlying3 H enc W held n _ d0 p0 h0 w0
  obtain ⟨x1, ⟨e1, i1⟩, _, m1⟩ := reads_int Try.underlying3 H enc W held n _ d1 p1 h1 w1
  obtain ⟨x2, ⟨e2, i2⟩, _, m2⟩ := reads_int Try.underlying3 H enc W held n _ d2 p2 h2 w2
  obtain ⟨x3, ⟨q3, e3, s3, ok3⟩, _, m3⟩ := reads_entry H enc W held n _ d3 p3 h3 w3
  simp [cells_i] at e0 e1 e2
  subst e0; subst e1; subst e2
  simp [cells_ent] at e3
  obtain ⟨rfl, rfl, rfl, rfl, rfl⟩ := e3
  refine ⟨⟨x0, x1, x2, x3⟩, ⟨q3, rfl, s3, i0, i1, i2, ok3⟩, trivial, fun B => ?_⟩
  refine Nat.le_trans ?_ (B.agg ds)
  match ds, hdl with
  | [a0, a1, a2, a3], _ =>
  simp at g0 g1 g2 g3
  subst g0; subst g1; subst g2; subst g3
  have q0' : 1 ≤ B.f a0 := m0 B
  have q1' : 1 ≤ B.f a1 := m1 B
  have q2' : 1 ≤ B.f a2 := m2 B
  have q3' : μEntry x3 ≤ B.f a3 := m3 B
  simp only [List.map_cons, List.map_nil, List.sum_cons, List.sum_nil]
  show μEntry x3 + 3 ≤ _
  omega
structure AgG where
  i : Nat
  g : GrD
structure AgI (N : Nat) (l : List MoveD) (s : AgG) : Prop where
  i : s.i ≤ l.length
  i5 : s.i ≤ 5000
  inv : ∃ X, GrI X s.g none2
  n : s.g.n = N
  bag : s.g.bag.length ≤ 28673 * s.i
  ch : s.g.ch.length ≤ s.i
theorem AgI.next {N : Nat} {l : List MoveD} {i : Nat} {g g' : GrD} (h : AgI N l ⟨i, g⟩) (hi : i < l.length) (h5 : i < 5000) (k : DoesI g g') : AgI N l ⟨i + 1, g'⟩ := by
  obtain ⟨k1, k2, k3, k4⟩ := k
  have h1 := h.bag; have h2 := h.ch
  dsimp only at h1 h2
  exact ⟨by show i + 1 ≤ _; omega, by show i + 1 ≤ _; omega, k1, k2.trans h.n, by show g'.bag.length ≤ 28673 * (i + 1); omega, by show g'.ch.length ≤ i + 1; omega⟩
set_option maxHeartbeats 8000000 in
theorem proposerAgrees_walk {L : List HP} {A : Option Addr} {c : Nat} {l : List MoveD} (nodes : Int) (hnd : intIn .i64 nodes) (hk : SlK L moveR A c l) (hb : ∀ v ∈ l, cSeal v.en.order ≤ 140737488355000) (hl : l.length ≤ 281474976710656) : Fn Try.prog 13 #[.int .i64 nodes, .slice A l.length c] L (fun v L' => v = .bool true ∧ L' = L) := by
  obtain ⟨N, hN⟩ : ∃ N : Nat, N = (nodes.tmod 7).natAbs + 1 := ⟨_, rfl⟩
  have htb := tm_bound nodes (n := 7) (by decide)
  have hN7 : 1 ≤ N ∧ N ≤ 7 := by omega
  refine Fn_enter Try.func13 rfl rfl rfl rfl ?_
  refine T_gives hk.lay ?_
  refine T_region ?_
  refine TL_y rfl rfl (Y_assign rfl) ?_
  refine TL_nil ?_
  refine T_region ?_
  refine TL_y rfl rfl (Y_move rfl) ?_
  refine TL_y rfl rfl (Y_rem rfl rfl (by decide)) ?_
  refine TL_y rfl rfl (Y_assign rfl) ?_
  refine TL_nil ?_
  refine T_seq ?_
  refine T_region ?_
  refine TL_y rfl rfl (Y_move rfl) ?_
  refine TL_y rfl rfl (Y_lt rfl rfl) ?_
  refine TL_nil ?_
  refine T_joinKT (σ := Unit) [1] (fun u => True) (fun u kv => (5, .int .i64 ((N : Int) - 1)) :: kv) (fun u => sl moveR A c l :: L) rfl ?_ ?_
  · refine T_if rfl (fun h16 => ?_) (fun h16 => ?_)
    · refine T_region_last ?_
      refine TL_y rfl rfl (Y_move rfl) ?_
      refine TL_y rfl rfl (Y_neg rfl (by omega)) ?_
      refine TL_y rfl rfl (Y_assign rfl) ?_
      refine TL_name 5 (v' := .int .i64 ((N : Int) - 1)) rfl (by congr 1; omega) ?_
      refine TL_nil ?_
      refine thenS_normal ?_
      exact ⟨(), trivial, holds_to (sub_cons rfl (sub_cons rfl (sub_nil))) GivesTo.g⟩
    · refine T_name 5 (v' := .int .i64 ((N : Int) - 1)) rfl (by congr 1; omega) ?_
      refine T_skip ?_
      refine thenS_normal ?_
      exact ⟨(), trivial, holds_to (sub_cons rfl (sub_cons rfl (sub_nil))) GivesTo.g⟩
  · intro u hu
    refine T_region ?_
    refine TL_y rfl rfl (Y_move rfl) ?_
    refine TL_y rfl rfl (Y_add rfl rfl (by omega)) ?_
    refine TL_name 21 (v' := .int .i64 (N : Int)) rfl (by congr 1; omega) ?_
    refine TL_call rfl rfl (start17_spec N hN7) ?_
    rintro _ _ ⟨bg, rfl, rfl⟩
    refine TL_y rfl rfl (Y_move rfl) ?_
    refine TL_y rfl rfl (Y_extract rfl rfl) ?_
    refine TL_y rfl rfl (Y_extract rfl rfl) ?_
    refine TL_y rfl rfl (Y_assign rfl) ?_
    refine TL_y rfl rfl (Y_assign rfl) ?_
    refine TL_nil ?_
    refine T_seq ?_
    refine T_region ?_
    refine TL_call rfl rfl (lives17_spec _) ?_
    rintro _ _ ⟨rfl, rfl⟩
    refine TL_name 25 (v' := .bool true) rfl (rfl) ?_
    refine TL_y rfl rfl (Y_not_t rfl) ?_
    refine TL_y rfl rfl (Y_move rfl) ?_
    refine TL_grun rfl rfl ?_
    refine TL_y rfl rfl (Y_move rfl) ?_
    refine TL_grun rfl rfl ?_
    refine TL_y rfl rfl (Y_not rfl) ?_
    refine TL_name 29 (v' := .bool false) rfl (rfl) ?_
    refine TL_y rfl rfl (Y_pick_f rfl rfl) ?_
    refine TL_nil ?_
    refine T_cond_false rfl ?_
    refine T_skip ?_
    refine thenS_normal ?_
    refine T_seq ?_
    refine T_region ?_
    refine TL_y rfl rfl (Y_assign rfl) ?_
    refine TL_nil ?_
    refine T_block ?_
    refine T_loopK (σ := AgG) [1, 6] (fun s => AgI N l s) (fun s kv => (8, .int .i64 (s.i : Int)) :: kv) (fun s => gr bg s.g :: sl moveR A c l :: L) (fun s => l.length - s.i) (⟨0, GrNew N⟩) rfl (⟨Nat.zero_le _, Nat.zero_le _, ⟨_, start_inv hN7⟩, rfl, Nat.zero_le _, Nat.zero_le _⟩) (GivesTo.g) (sub_cons rfl (sub_cons rfl (sub_cons rfl (sub_nil)))) ?_
    rintro ⟨i, g⟩ hI0
    dsimp only
    obtain ⟨X, hI⟩ := hI0.inv
    have hil : i ≤ l.length := hI0.i
    have hi5 : i ≤ 5000 := hI0.i5
    have hgb : g.bag.length ≤ 28673 * i := hI0.bag
    have hgc : g.ch.length ≤ i := hI0.ch
    have hn7 := hI.n7
    dsimp only at hI hn7
    refine T_seq ?_
    refine T_region ?_
    refine TL_y rfl rfl (Y_move rfl) ?_
    refine TL_y rfl rfl (Y_move rfl) ?_
    refine TL_y rfl rfl (Y_len rfl) ?_
    refine TL_y rfl rfl (Y_lt rfl rfl) ?_
    refine TL_y rfl rfl (Y_move rfl) ?_
    refine TL_splitd 35 rfl (fun h35 => ?_) (fun h35 => ?_)
    · refine TL_grun rfl rfl ?_
      refine TL_y rfl rfl (Y_move rfl) ?_
      refine TL_grun rfl rfl ?_
      refine TL_y rfl rfl (Y_lt rfl rfl) ?_
      refine TL_y rfl rfl (Y_pick_t rfl rfl) ?_
      refine TL_nil ?_
      refine T_if rfl (fun h38 => ?_) (fun h38 => ?_)
      · refine T_skip ?_
        refine thenS_normal ?_
        refine T_seq ?_
        refine T_block ?_
        refine T_seq ?_
        obtain ⟨v, hv⟩ : ∃ v, l[i]? = some v := ⟨_, List.getElem?_eq_getElem (by omega)⟩
        have hvb := hb v (List.mem_of_getElem? hv)
        refine T_addr_n (sln (A := A) (c := c)) hv fun bq oq eq => ?_
        subst eq
        refine T_region ?_
        refine TL_y rfl rfl (Y_move rfl) ?_
        refine TL_y rfl rfl (Y_move rfl) ?_
        refine TL_y rfl rfl (Y_index_n (R := moveR) (xs := l) rfl rfl rfl hv) ?_
        refine TL_y rfl rfl (Y_field_addr2 rfl) ?_
        refine TL_y rfl rfl (Y_load_nx (xs := l) (u := v) (v := .int .i64 v.kind) rfl (sln (c := c)) hv (fun _ ↦ rfl)) ?_
        refine TL_y rfl rfl (Y_eq rfl rfl) ?_
        refine TL_nil ?_
        refine T_if rfl (fun h46 => ?_) (fun h46 => ?_)
        · obtain ⟨k, hkv, hkn⟩ := node_in (nd := v.node) hn7.1
          obtain ⟨p, hp⟩ := hI.pAt hkn
          obtain ⟨a, ha⟩ := hI.aAt hkn
          have hf := tm_fix v.node (n := g.n) (by omega)
          have htv := tm_bound v.node (n := g.n) (by omega)
          refine T_pullk bg ?_
          refine T_grI fun hpis => ?_
          have hpi := hpis p (List.mem_of_getElem? hp)
          refine T_region_draw _ [0, 0, 3, 7, 15, 0, 32, 96, 224, 511, 1023] [] [(0, true), (1, true), (2, true), (3, true), (4, true), (5, true), (6, true), (7, true), (8, true), (9, true), (10, true)] (by kernel_rfl) (by decide +kernel) (Gives.refl _) ?_
          refine TF_y rfl rfl (Y_move rfl) ?_
          refine TF_y rfl rfl (Y_move rfl) ?_
          refine TF_y rfl rfl (Y_index_n (R := moveR) (xs := l) rfl rfl rfl hv) ?_
          refine TF_y rfl rfl (Y_field_addr2 rfl) ?_
          refine TF_y rfl rfl (Y_load_nx (xs := l) (u := v) (v := .int .i64 v.node) rfl (sln (c := c)) hv (fun _ ↦ rfl)) ?_
          refine TF_y rfl rfl (Y_move rfl) ?_
          refine TF_y rfl rfl (Y_nil_check rfl) ?_
          refine TF_y rfl rfl (Y_field_addr rfl) ?_
          refine TF_y rfl rfl (Y_gr (b := bg) (v := .int .i64 g.n) fun s hs ↦ (Y_load rfl rfl).val (by rw [← hs]; rfl)) ?_
          refine TF_y rfl rfl (Y_rem rfl rfl (by omega)) ?_
          refine TF_y rfl rfl (Y_assign rfl) ?_
          refine TF_nil ?_
          refine T_seq ?_
          refine T_region ?_
          refine TL_y rfl rfl (Y_move rfl) ?_
          refine TL_y rfl rfl (Y_lt rfl rfl) ?_
          refine TL_nil ?_
          refine T_joinKT (σ := Unit) [1, 6, 8] (fun u => True) (fun u kv => (9, .int .i64 (k : Int)) :: kv) (fun u => gr bg g :: sl moveR (some ⟨bq, oq, none⟩) c l :: L) rfl ?_ ?_
          · refine T_if rfl (fun h58 => ?_) (fun h58 => ?_)
            · refine T_region_last ?_
              refine TL_y rfl rfl (Y_move rfl) ?_
              refine TL_y rfl rfl (Y_move rfl) ?_
              refine TL_y rfl rfl (Y_nil_check rfl) ?_
              refine TL_y rfl rfl (Y_field_addr rfl) ?_
              refine TL_y rfl rfl (Y_gr (b := bg) (v := .int .i64 g.n) fun s hs ↦ (Y_load rfl rfl).val (by rw [← hs]; rfl)) ?_
              refine TL_y rfl rfl (Y_add rfl rfl (by omega)) ?_
              refine TL_y rfl rfl (Y_assign rfl) ?_
              refine TL_name 9 (v' := .int .i64 (k : Int)) rfl (by rw [← hkv, ← hf.1 h58]) ?_
              refine TL_nil ?_
              refine thenS_normal ?_
              exact ⟨(), trivial, holds_to (sub_cons rfl (sub_cons rfl (sub_cons rfl (sub_cons rfl (sub_nil))))) GivesTo.g⟩
            · refine T_name 9 (v' := .int .i64 (k : Int)) rfl (by rw [← hkv, ← hf.2 h58]) ?_
              refine T_skip ?_
              refine thenS_normal ?_
              exact ⟨(), trivial, holds_to (sub_cons rfl (sub_cons rfl (sub_cons rfl (sub_cons rfl (sub_nil))))) GivesTo.g⟩
          · intro u hu
            refine T_gr fun s hs => ?_
            refine T_region ?_
            refine TL_y rfl rfl (Y_move rfl) ?_
            refine TL_y rfl rfl (Y_nil_check rfl) ?_
            refine TL_y rfl rfl (Y_field_addr rfl) ?_
            refine TL_y rfl rfl (Y_load rfl rfl) ?_
            refine TL_y rfl rfl (Y_len rfl) ?_
            refine TL_name 69 (v' := .int .i64 (g.bag.length : Int)) rfl (by rw [← hs]; rfl) ?_
            refine TL_y rfl rfl (Y_assign rfl) ?_
            refine TL_nil ?_
            refine T_seq ?_
            refine T_gives (gr_close bg s g hs) ?_
            refine T_region ?_
            refine TL_y rfl rfl (Y_move rfl) ?_
            refine TL_y rfl rfl (Y_move rfl) ?_
            refine TL_y rfl rfl (Y_move rfl) ?_
            refine TL_y rfl rfl (Y_index_n (R := moveR) (xs := l) rfl rfl rfl hv) ?_
            refine TL_load_nx (xs := l) (q := 0) rfl rfl (sln (c := c)) hv (fun _ => rfl) ?_
            intro p74 ok74
            simp only [List.cons_append, List.nil_append]
            refine TL_pullk bg ?_
            refine TL_call rfl rfl (does_start v ok74 h46 hn7 hkv hp ha (by omega) hpi) ?_
            rintro _ _ ⟨rfl, rfl⟩
            refine TL_name 75 (v' := .bool true) rfl (rfl) ?_
            have hbn := bg_none hI (p := p) (a := a) hp
            refine TL_y rfl rfl (Y_not_t rfl) ?_
            refine TL_nil ?_
            refine T_cond_false rfl ?_
            refine T_skip ?_
            refine thenS_normal ?_
            refine T_seq ?_
            by_cases he : startE p a.prom 0 = 0
            · have hB := bg_inv hI hkn hp ha hpi he
              have hBl := hB.len
              refine T_region ?_
              refine TL_y rfl rfl (Y_move rfl) ?_
              refine TL_y rfl rfl (Y_assign rfl) ?_
              refine TL_nil ?_
              refine T_block ?_
              refine T_loopK (σ := Nat) [1, 6, 8, 9] (fun z => g.bag.length ≤ z ∧ z ≤ g.bag.length + k) (fun z kv => (11, .int .i64 (z : Int)) :: kv) (fun z => gr bg (bgG g k p a) :: sl moveR (some ⟨bq, oq, none⟩) c l :: L) (fun z => g.bag.length + k + 1 - z) (g.bag.length) rfl (⟨Nat.le_refl _, Nat.le_add_right _ _⟩) (GivesTo.g) (sub_cons rfl (sub_cons rfl (sub_cons rfl (sub_cons rfl (sub_cons rfl (sub_nil)))))) ?_
              rintro z ⟨hz1, hz2⟩
              refine T_seq ?_
              refine T_gr fun s hs => ?_
              refine T_region ?_
              refine TL_y rfl rfl (Y_move rfl) ?_
              refine TL_y rfl rfl (Y_move rfl) ?_
              refine TL_y rfl rfl (Y_nil_check rfl) ?_
              refine TL_y rfl rfl (Y_field_addr rfl) ?_
              refine TL_y rfl rfl (Y_load rfl rfl) ?_
              refine TL_y rfl rfl (Y_len rfl) ?_
              refine TL_name 83 (v' := .int .i64 ((bgG g k p a).bag.length : Int)) rfl (by rw [← hs]; rfl) ?_
              refine TL_y rfl rfl (Y_lt rfl rfl) ?_
              refine TL_name 84 (v' := .bool true) rfl (congrArg Value.bool (decide_eq_true (by omega))) ?_
              refine TL_nil ?_
              refine T_cond_true rfl ?_
              refine T_skip ?_
              refine thenS_normal ?_
              refine T_seq ?_
              refine T_block ?_
              obtain ⟨j, rfl⟩ : ∃ j, z = g.bag.length + j := ⟨z - g.bag.length, by omega⟩
              have hxj := hB.at_ j (by omega)
              have hsb : s.bag = (bgG g k p a).bag := (by rw [← hs]; rfl)
              rw [← hsb] at hxj
              obtain ⟨n, PB, AB, bag, ch, pa, pc, aa, acc, ba, bc, ca, cc⟩ := s
              dsimp only at hxj hsb
              refine SlN.lens (sln (A := ba) (c := bc) (R := msgR) (xs := bag)) fun hlx => ?_
              refine T_addr_n (sln (A := ba) (c := bc) (R := msgR)) hxj fun bl ol el => ?_
              subst el
              refine T_region ?_
              refine TL_y rfl rfl (Y_move rfl) ?_
              refine TL_y rfl rfl (Y_nil_check rfl) ?_
              refine TL_y rfl rfl (Y_field_addr rfl) ?_
              refine TL_y rfl rfl (Y_load rfl rfl) ?_
              refine TL_y rfl rfl (Y_move rfl) ?_
              refine TL_y rfl rfl (Y_index_n (R := msgR) (xs := bag) rfl rfl rfl hxj) ?_
              refine TL_y rfl rfl (Y_field_addr2 rfl) ?_
              refine TL_y rfl rfl (Y_load_nx (xs := bag) (u := toM (prepB (startP p a.prom 0)) (startP p a.prom 0).node (j : Int)) (v := .int .i64 (j : Int)) rfl (sln (c := bc)) hxj (fun _ ↦ rfl)) ?_
              refine TL_y rfl rfl (Y_move rfl) ?_
              refine TL_y rfl rfl (Y_eq rfl rfl) ?_
              refine TL_y rfl rfl (Y_move rfl) ?_
              refine TL_splitd 97 rfl (fun h97 => ?_) (fun h97 => ?_)
              · refine TL_grun rfl rfl ?_
                refine TL_y rfl rfl (Y_move rfl) ?_
                refine TL_grun rfl rfl ?_
                refine TL_y rfl rfl (Y_nil_check rfl) ?_
                refine TL_grun rfl rfl ?_
                refine TL_y rfl rfl (Y_field_addr rfl) ?_
                refine TL_grun rfl rfl ?_
                refine TL_y rfl rfl (Y_load rfl rfl) ?_
                refine TL_grun rfl rfl ?_
                refine TL_y rfl rfl (Y_move rfl) ?_
                refine TL_grun rfl rfl ?_
                refine TL_y rfl rfl (Y_index_n (R := msgR) (xs := bag) rfl rfl rfl hxj) ?_
                refine TL_grun rfl rfl ?_
                refine TL_y rfl rfl (Y_field_addr2 rfl) ?_
                refine TL_grun rfl rfl ?_
                refine TL_y rfl rfl (Y_load_nx (xs := bag) (u := toM (prepB (startP p a.prom 0)) (startP p a.prom 0).node (j : Int)) (v := .int .i64 1) rfl (sln (c := bc)) hxj (fun _ ↦ rfl)) ?_
                refine TL_grun rfl rfl ?_
                refine TL_y rfl rfl (Y_eq rfl rfl) ?_
                refine TL_name 106 (v' := .bool true) rfl (congrArg Value.bool (decide_eq_true rfl)) ?_
                refine TL_y rfl rfl (Y_pick_t rfl rfl) ?_
                refine TL_nil ?_
                refine T_cond_true rfl ?_
                obtain rfl : j = k := (by omega)
                refine T_region ?_
                refine TL_y rfl rfl (Y_move rfl) ?_
                refine TL_y rfl rfl (Y_nil_check rfl) ?_
                refine TL_y rfl rfl (Y_field_addr rfl) ?_
                refine TL_y rfl rfl (Y_load rfl rfl) ?_
                refine TL_y rfl rfl (Y_move rfl) ?_
                refine TL_y rfl rfl (Y_index_n (R := msgR) (xs := bag) rfl rfl rfl hxj) ?_
                refine TL_load_nx (xs := bag) (q := 0) rfl rfl (sln (c := bc)) hxj (fun _ => rfl) ?_
                intro p114 ok114
                simp only [List.cons_append, List.nil_append]
                refine TL_alloc rfl rfl ?_
                intro b12
                refine TL_store rfl rfl rfl rfl rfl rfl ?_
                refine TL_nil ?_
                have hbl : bag.length ≤ 536870912 := (by rw [hsb]; omega)
                have hjl := (List.getElem?_eq_some_iff.1 hxj).1
                refine T_region_draw (cells bg (grC ⟨n, PB, AB, bag, ch, pa, pc, aa, acc, some ⟨bl, ol, none⟩, bc, ca, cc⟩) 99 :: []) [0, 0, 0, 4, 12, 28, 0, 124, 254, 0, 512, 1536, 3584, 0, 8192, 32256, 65534, 131071, 262143, 524287] [19] [(0, true), (2, true), (3, true), (4, true), (5, true), (6, true), (7, true), (9, true), (10, true), (11, true), (12, true), (13, true), (14, true), (15, true), (1, false), (8, false), (16, false), (17, true), (18, true), (19, false)] (by kernel_rfl) (by decide +kernel) GivesTo.g ?_
                refine TF_y rfl rfl (Y_move rfl) ?_
                refine TF_y rfl rfl (Y_move rfl) ?_
                refine TF_y rfl rfl (Y_nil_check rfl) ?_
                refine TF_y rfl rfl (Y_field_addr rfl) ?_
                refine TF_y rfl rfl (Y_load rfl rfl) ?_
                refine TF_name 120 (v' := .slice (some ⟨bl, ol, none⟩) bag.length bc) rfl (rfl) ?_
                refine TF_y rfl rfl (Y_move rfl) ?_
                refine TF_y rfl rfl (Y_cut_h rfl rfl (by omega)) ?_
                refine TF_name 122 (v' := .slice (some ⟨bl, ol, none⟩) (bag.take (g.bag.length + j)).length bc) rfl (by congr 1; rw [List.length_take]; omega) ?_
                refine TF_y rfl rfl (Y_move rfl) ?_
                refine TF_y rfl rfl (Y_nil_check rfl) ?_
                refine TF_y rfl rfl (Y_field_addr rfl) ?_
                refine TF_y rfl rfl (Y_load rfl rfl) ?_
                refine TF_name 127 (v' := .slice (some ⟨bl, ol, none⟩) bag.length bc) rfl (rfl) ?_
                refine TF_y rfl rfl (Y_move rfl) ?_
                refine TF_y rfl rfl (Y_add rfl rfl (by omega)) ?_
                refine TF_name 129 (v' := .int .i64 ((g.bag.length + j + 1 : Nat) : Int)) rfl (rfl) ?_
                refine TF_y rfl rfl (Y_cut_l rfl rfl (by omega)) ?_
                refine TF_name 130 (v' := .slice (cutA (some ⟨bl, ol, none⟩) (g.bag.length + j + 1) bc msgR.sz) (bag.drop (g.bag.length + j + 1)).length (bc - (g.bag.length + j + 1))) rfl (by rw [List.length_drop]; rfl) ?_
                refine TF_anchor rfl ?_
                refine TL_build_slice rfl rfl rfl rfl rfl rfl ?_
                intro b116
                refine TL_osl (k := 0) msgR [] (Knows.const fun M => rfl) rfl (by simp) ?_
                refine TL_name 116 (v' := .slice (some ⟨b116, 0, none⟩) ([] : List MsgD).length 0) rfl rfl ?_
                refine TF_end GivesTo.g ?_
                refine TF_anchor rfl ?_
                refine TL_append_n (R := msgR) rfl rfl rfl rfl rfl ((sln (A := some ⟨bl, ol, none⟩) (c := bc) (xs := bag)).take (g.bag.length + j)) (by simp only [List.length_nil, List.length_take]; omega) ?_
                intro A123 c123
                simp only [List.nil_append]
                refine TF_end GivesTo.g ?_
                refine TF_anchor rfl ?_
                refine TL_append_n (R := msgR) rfl rfl rfl rfl rfl ((sln (A := some ⟨bl, ol, none⟩) (c := bc) (xs := bag)).dropc (show g.bag.length + j + 1 ≤ bag.length by omega) hlx.1) (by simp only [List.length_take, List.length_drop]; omega) ?_
                intro A131 c131
                rw [show bag.take (g.bag.length + j) ++ bag.drop (g.bag.length + j + 1) = cutB bag (g.bag.length + j) from rfl]
                refine TF_end GivesTo.g ?_
                refine TF_y rfl rfl (Y_nil_check rfl) ?_
                refine TF_y rfl rfl (Y_field_addr rfl) ?_
                refine TF_anchor rfl ?_
                refine TL_store rfl rfl rfl rfl rfl rfl ?_
                refine TF_end_tail rfl ?_
                refine TF_nil ?_
                refine T_seq ?_
                have hcb := cutB_len bag (g.bag.length + j)
                refine T_gives (gr_close bg ⟨n, PB, AB, cutB bag (g.bag.length + j), ch, pa, pc, aa, acc, A131, c131, ca, cc⟩ (grBag (bgG g j p a) (cutB (bgG g j p a).bag (g.bag.length + j))) (by rw [← hs]; rfl)) ?_
                refine T_region ?_
                refine TL_y rfl rfl (Y_move rfl) ?_
                refine TL_y rfl rfl (Y_load_agg rfl rfl) ?_
                refine TL_pullk bg ?_
                refine TL_call rfl rfl (comes_spec (p := startP p a.prom 0) (a := a) (ownM (startP p a.prom 0) j) p114 hB.ok ⟨slk, slk, slk, slk⟩ hB.cm rfl hkn hB.pk ha (by show (cutB (bgG g j p a).bag (g.bag.length + j)).length ≤ _; rw [← hsb]; omega) (by show g.ch.length ≤ _; omega) hB.safe) ?_
                rintro _ _ ⟨rfl, rfl⟩
                refine TL_name 136 (v' := .bool true) rfl (rfl) ?_
                refine TL_y rfl rfl (Y_not_t rfl) ?_
                refine TL_nil ?_
                refine T_cond_false rfl ?_
                refine T_skip ?_
                refine thenS_normal ?_
                refine T_exit ?_
                refine inB_miss rfl ?_
                refine thenS_exit ?_
                refine thenS_exit ?_
                refine inB_hit ?_
                refine thenS_normal ?_
                refine T_exit ?_
                refine thenS_exit ?_
                refine inB_hit ?_
                refine thenS_normal ?_
                refine T_region_last ?_
                refine TL_y rfl rfl (Y_move rfl) ?_
                refine TL_y rfl rfl (Y_add rfl rfl (by omega)) ?_
                refine TL_name 40 (v' := .int .i64 ((i + 1 : Nat) : Int)) rfl (rfl) ?_
                refine TL_y rfl rfl (Y_assign rfl) ?_
                refine TL_nil ?_
                refine thenS_normal ?_
                exact ⟨⟨i + 1, ownG g j p a⟩, hI0.next (by omega) (by omega) hB.inv, by simp only; omega, holds_to (sub_cons rfl (sub_cons rfl (sub_cons rfl (sub_nil)))) GivesTo.g⟩
              · refine TL_gskip rfl rfl rfl rfl ?_
                refine TL_gskip rfl rfl rfl rfl ?_
                refine TL_gskip rfl rfl rfl rfl ?_
                refine TL_gskip rfl rfl rfl rfl ?_
                refine TL_gskip rfl rfl rfl rfl ?_
                refine TL_gskip rfl rfl rfl rfl ?_
                refine TL_gskip rfl rfl rfl rfl ?_
                refine TL_gskip rfl rfl rfl rfl ?_
                refine TL_gskip rfl rfl rfl rfl ?_
                refine TL_y rfl rfl (Y_pick_f rfl rfl) ?_
                refine TL_nil ?_
                refine T_cond_false rfl ?_
                refine T_skip ?_
                refine inB_normal ?_
                refine thenS_normal ?_
                refine T_region_last ?_
                refine TL_y rfl rfl (Y_move rfl) ?_
                refine TL_y rfl rfl (Y_add rfl rfl (by omega)) ?_
                refine TL_name 86 (v' := .int .i64 ((g.bag.length + j + 1 : Nat) : Int)) rfl (rfl) ?_
                refine TL_y rfl rfl (Y_assign rfl) ?_
                refine TL_nil ?_
                refine thenS_normal ?_
                have hjk : j ≠ k := fun e => h97 (by rw [e])
                exact ⟨g.bag.length + j + 1, (by omega), (by omega), holds_to (sub_cons rfl (sub_cons rfl (sub_cons rfl (sub_cons rfl (sub_cons rfl (sub_nil)))))) (Gives.trans (gr_close bg ⟨n, PB, AB, bag, ch, pa, pc, aa, acc, some ⟨bl, ol, none⟩, bc, ca, cc⟩ (bgG g k p a) hs) GivesTo.g)⟩
            · rw [show grSet g k (startP p a.prom 0) (startO p a.prom 0) = g from hbn he]
              refine T_region ?_
              refine TL_y rfl rfl (Y_move rfl) ?_
              refine TL_y rfl rfl (Y_assign rfl) ?_
              refine TL_nil ?_
              refine T_block ?_
              refine T_loopK (σ := Unit) [1, 6, 8, 9] (fun z => True) (fun z kv => (11, .int .i64 (g.bag.length : Int)) :: kv) (fun z => gr bg g :: sl moveR (some ⟨bq, oq, none⟩) c l :: L) (fun z => 0) (()) rfl (trivial) (GivesTo.g) (sub_cons rfl (sub_cons rfl (sub_cons rfl (sub_cons rfl (sub_cons rfl (sub_nil)))))) ?_
              intro z hz
              refine T_seq ?_
              refine T_gr fun s hs => ?_
              refine T_region ?_
              refine TL_y rfl rfl (Y_move rfl) ?_
              refine TL_y rfl rfl (Y_move rfl) ?_
              refine TL_y rfl rfl (Y_nil_check rfl) ?_
              refine TL_y rfl rfl (Y_field_addr rfl) ?_
              refine TL_y rfl rfl (Y_load rfl rfl) ?_
              refine TL_y rfl rfl (Y_len rfl) ?_
              refine TL_name 83 (v' := .int .i64 (g.bag.length : Int)) rfl (by rw [← hs]; rfl) ?_
              refine TL_y rfl rfl (Y_lt rfl rfl) ?_
              refine TL_name 84 (v' := .bool false) rfl (congrArg Value.bool (decide_eq_false (by omega))) ?_
              refine TL_nil ?_
              refine T_cond_false rfl ?_
              refine T_exit ?_
              refine thenS_exit ?_
              refine thenS_exit ?_
              refine inB_hit ?_
              refine thenS_normal ?_
              refine T_exit ?_
              refine thenS_exit ?_
              refine inB_hit ?_
              refine thenS_normal ?_
              refine T_region_last ?_
              refine TL_y rfl rfl (Y_move rfl) ?_
              refine TL_y rfl rfl (Y_add rfl rfl (by omega)) ?_
              refine TL_name 40 (v' := .int .i64 ((i + 1 : Nat) : Int)) rfl (rfl) ?_
              refine TL_y rfl rfl (Y_assign rfl) ?_
              refine TL_nil ?_
              refine thenS_normal ?_
              exact ⟨⟨i + 1, g⟩, hI0.next (by omega) (by omega) ⟨⟨X, hI⟩, rfl, by omega, by omega⟩, (by simp only; omega), holds_to (sub_cons rfl (sub_cons rfl (sub_cons rfl (sub_nil)))) (Gives.trans (gr_close bg s g hs) GivesTo.g)⟩
        · refine T_skip ?_
          refine thenS_normal ?_
          refine T_region ?_
          refine TL_y rfl rfl (Y_move rfl) ?_
          refine TL_y rfl rfl (Y_move rfl) ?_
          refine TL_y rfl rfl (Y_move rfl) ?_
          refine TL_y rfl rfl (Y_index_n (R := moveR) (xs := l) rfl rfl rfl hv) ?_
          refine TL_load_nx (xs := l) (q := 0) rfl rfl (sln (c := c)) hv (fun _ => rfl) ?_
          intro p142 ok142
          simp only [List.cons_append, List.nil_append]
          refine TL_pullk bg ?_
          refine TL_call rfl rfl (does_inv hI v ok142 h46 (by omega) (by omega) slk hvb) ?_
          rintro _ _ ⟨g', rfl, hD, rfl⟩
          refine TL_name 143 (v' := .bool true) rfl (rfl) ?_
          refine TL_y rfl rfl (Y_not_t rfl) ?_
          refine TL_nil ?_
          refine T_cond_false rfl ?_
          refine T_skip ?_
          refine inB_normal ?_
          refine thenS_normal ?_
          refine T_region_last ?_
          refine TL_y rfl rfl (Y_move rfl) ?_
          refine TL_y rfl rfl (Y_add rfl rfl (by omega)) ?_
          refine TL_name 40 (v' := .int .i64 ((i + 1 : Nat) : Int)) rfl (rfl) ?_
          refine TL_y rfl rfl (Y_assign rfl) ?_
          refine TL_nil ?_
          refine thenS_normal ?_
          exact ⟨⟨i + 1, g'⟩, hI0.next (by omega) (by omega) hD, by simp only; omega, holds_to (sub_cons rfl (sub_cons rfl (sub_cons rfl (sub_nil)))) GivesTo.g⟩
      · refine T_exit ?_
        refine thenS_exit ?_
        refine thenS_exit ?_
        refine inB_hit ?_
        refine thenS_normal ?_
        refine T_region ?_
        refine TL_y rfl rfl (Y_assign rfl) ?_
        refine TL_nil ?_
        refine T_ret ?_
        exact RetG_1 (.inl rfl) rfl (ResV.tmp rfl) GivesTo.g (⟨rfl, rfl⟩)
    · refine TL_gskip rfl rfl rfl rfl ?_
      refine TL_gskip rfl rfl rfl rfl ?_
      refine TL_y rfl rfl (Y_pick_f rfl rfl) ?_
      refine TL_nil ?_
      refine T_cond_false rfl ?_
      refine T_exit ?_
      refine thenS_exit ?_
      refine thenS_exit ?_
      refine inB_hit ?_
      refine thenS_normal ?_
      refine T_region ?_
      refine TL_y rfl rfl (Y_assign rfl) ?_
      refine TL_nil ?_
      refine T_ret ?_
      exact RetG_1 (.inl rfl) rfl (ResV.tmp rfl) GivesTo.g (⟨rfl, rfl⟩)
end Go.SL
set_option linter.unusedVariables false
namespace Go.SL
open Go Go.Proofs
theorem msum_mem {α : Type} {μ : α → Nat} : ∀ {l : List α} {x : α}, x ∈ l → μ x ≤ (l.map μ).sum
  | y :: l, x, h => by
    rw [List.map_cons, List.sum_cons]
    rcases List.mem_cons.1 h with rfl | h
    · omega
    · have := msum_mem (μ := μ) h; omega
end Go.SL
set_option linter.unusedVariables false
namespace Go.SL
open Go Go.Proofs
end Go.SL
set_option linter.unusedVariables false
namespace Go.Proofs.Ytibejpgjgkeheaa
open Go.SL
theorem up_one {H : Type} (d : DataW H) : 1 ≤ Rows.uptoBulk d := by
  cases d with
  | lit l => cases l <;> simp [Rows.uptoBulk]
  | nil => simp [Rows.uptoBulk]
  | ptr d => simp [Rows.uptoBulk]
  | slice elems spare => simp [Rows.uptoBulk]
  | agg parts => simp [Rows.uptoBulk]
  | iface t d => simp [Rows.uptoBulk]
  | map entries => simp [Rows.uptoBulk]
  | held h => simp [Rows.uptoBulk]
theorem up_all {H : Type} : ∀ l : List (DataW H), Rows.uptoBulkAll l = (l.map Rows.uptoBulk).sum
  | [] => by simp [Rows.uptoBulkAll]
  | d :: l => by simp [Rows.uptoBulkAll, up_all l]
def upB {H : Type} : Bulk H := ⟨Rows.uptoBulk, up_one, fun b => by simp [Rows.uptoBulk], fun e s => by simp only [Rows.uptoBulk, up_all]; omega, fun ps => by simp only [Rows.uptoBulk, up_all]; omega, fun d => by simp only [Rows.uptoBulk]; omega⟩
theorem up_bound {H : Type} {l : List (DataW H)} (hk : Rows.uptoSmall H l = true) : (l.map upB.f).sum ≤ 1048576 := by
  have := of_decide_eq_true hk
  rwa [up_all] at this
end Go.Proofs.Ytibejpgjgkeheaa
