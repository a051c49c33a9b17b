/- What the laws of this claim need, together: the logic, data in memory, the walks of functions. -/
import Derived.Test.YtibejpgjgkeheaaPmF
set_option linter.unusedVariables false
set_option linter.unusedSimpArgs false
set_option linter.unusedVariables false
set_option linter.unusedSimpArgs false
namespace Go.SL
open Go Go.Proofs
theorem startP_node (p : PP) (floor : Int × Int) (slot : Int) : (startP p floor slot).node = p.node ∧ (startP p floor slot).nodes = p.nodes := by unfold startP; split <;> exact ⟨rfl, rfl⟩
theorem propP_node (p : PP) (e : EntryD) : (propP p e).node = p.node ∧ (propP p e).nodes = p.nodes := by unfold propP; split <;> exact ⟨rfl, rfl⟩
theorem leadP_node {p : PP} (h : p.F = []) : (leadP p).1.node = p.node ∧ (leadP p).1.nodes = p.nodes := by
  unfold leadP; split
  · exact ⟨rfl, rfl⟩
  · have := leadK_F h p.kept (mostP p - p.frm + 1).toNat
    exact ⟨this.node, this.nodes⟩
theorem promP_node {p : PP} (hi : PI p) (m : MsgD) : (promP p m).1.node = p.node ∧ (promP p m).1.nodes = p.nodes := by
  unfold promP; split
  · rename_i ho
    split
    · have := leadP_node (p := tellP p m) (hi.ph1 ho.1)
      exact this
    · exact ⟨rfl, rfl⟩
  · exact ⟨rfl, rfl⟩
theorem accP_node (p : PP) (m : MsgD) : (accP p m).1.node = p.node ∧ (accP p m).1.nodes = p.nodes ∧ (accP p m).2.length ≤ 1 := by
  unfold accP; split
  · split
    · exact ⟨rfl, rfl, Nat.zero_le _⟩
    · split
      · exact ⟨rfl, rfl, Nat.le_refl _⟩
      · exact ⟨rfl, rfl, Nat.zero_le _⟩
  · exact ⟨rfl, rfl, Nat.zero_le _⟩
theorem leadP_len {p : PP} (hi : PI p) (h : p.phase = 1) : (leadP p).2.length ≤ 28672 := by
  unfold leadP; split
  · exact Nat.zero_le _
  · have := leadK_len p p.kept hi.nodes.2 (hi.ph1 h) (mostP p - p.frm + 1).toNat
    have : (mostP p - p.frm + 1).toNat ≤ 4096 := by omega
    omega
theorem promP_len {p : PP} (hi : PI p) {m : MsgD} (hm : rMsg m) : (promP p m).2.length ≤ 28672 := by
  unfold promP; split
  · rename_i ho
    split
    · exact leadP_len (tellP_I hi ho hm) ho.1
    · exact Nat.zero_le _
  · exact Nat.zero_le _
theorem onP_node {p : PP} (hi : PI p) (m : MsgD) : (onP p m).1.node = p.node ∧ (onP p m).1.nodes = p.nodes ∧ (onP p m).2.1.length ≤ 28672 ∧ (onP p m).2.2.length ≤ 1 := by
  unfold onP
  split
  · exact ⟨rfl, rfl, Nat.zero_le _, Nat.zero_le _⟩
  · rename_i hm
    have hr := (out_msg (Classical.not_not.1 hm).2.2).1
    split
    · have := promP_node hi m
      exact ⟨this.1, this.2, promP_len hi hr, Nat.zero_le _⟩
    · split
      · have := accP_node p m
        exact ⟨this.1, this.2.1, Nat.zero_le _, this.2.2⟩
      · split
        · refine ⟨?_, ?_, Nat.zero_le _, Nat.zero_le _⟩ <;> (unfold nackP; split <;> rfl)
        · exact ⟨rfl, rfl, Nat.zero_le _, Nat.zero_le _⟩
theorem prepM_len {p : PP} (hn : p.nodes ≤ 7) : (prepM p).length ≤ 7 := by
  have := allK_len p.node p.nodes (prepB p) p.told p.nodes.toNat
  unfold prepM allM
  omega
theorem startO_len {p : PP} (hi : PI p) (floor : Int × Int) (slot : Int) : (startO p floor slot).length ≤ 28672 := by
  unfold startO; split
  · have := prepM_len (p := startP p floor slot) (by rw [(startP_node p floor slot).2]; exact hi.nodes.2)
    omega
  · exact Nat.zero_le _
theorem propO_len {p : PP} (hi : PI p) (e : EntryD) : (propO p e).length ≤ 28672 := by
  unfold propO; split
  · have := putO_len p p.next e hi.nodes.2; omega
  · exact Nat.zero_le _
theorem againO_len {p : PP} (hi : PI p) : (againO p).length ≤ 28672 := by
  unfold againO; split
  · have := prepM_len hi.nodes.2; omega
  · have := accsK_len (p := p) hi.nodes.2 p.F.reverse.length (Nat.le_refl _)
    unfold accsK at this
    rw [List.take_length, List.length_reverse] at this
    have := hi.len
    omega
noncomputable instance (said : List MsgD) (b : Int × Int) (s : Int) (e : EntryD) : Decidable (SP said b s e) := Classical.propDecidable _
theorem SP_snoc {said : List MsgD} {n : Nat} {u : MsgD} (h : said[n]? = some u) {b : Int × Int} {s : Int} {e : EntryD} : SP (said.take (n + 1)) b s e ↔ SP (said.take n) b s e ∨ (u.kind = 3 ∧ u.bal = b ∧ u.slot = s ∧ u.en = e) := by
  rw [takeAt h, SP_app]
  refine or_congr Iff.rfl ⟨fun ⟨m, hm, k⟩ => by rw [List.mem_singleton] at hm; subst hm; exact k, fun k => ⟨u, List.mem_singleton.2 rfl, k⟩⟩
structure OnSt where
  i : Nat
  p : PP
  last : Int × Int
  said : List MsgD
  A : Option Addr
  c : Nat
structure OrSt where
  p : PP
  last : Int × Int
  out : List MsgD
  A : Option Addr
  c : Nat
  ch : List VotedD
  B : Option Addr
  d : Nat
structure OrI (node nodes : Int) (said : List MsgD) (j : OrSt) : Prop where
  inv : OInv j.p j.last (said ++ j.out)
  outs : ∀ m ∈ j.out, m.bal = j.last ∧ m.frm = node ∧ 0 ≤ m.to_ ∧ m.to_ < nodes
  known : ∀ v ∈ j.ch, SP (said ++ j.out) v.bal v.slot v.en
  node : j.p.node = node
  nodes : j.p.nodes = nodes
  len : j.out.length ≤ 28672
  one : j.ch.length ≤ 1
abbrev balC (b : Int × Int) : List Value := [.int .i64 b.1, .int .i64 b.2]
theorem proposerOnce_bad {L : List HP} {A : Option Addr} {c : Nat} {l : List OpD17} (node nodes : Int) (hbad : ¬ ((1 ≤ nodes ∧ nodes ≤ 7) ∧ (0 ≤ node ∧ node < nodes))) : Fn Try.prog 11 #[.int .i64 node, .int .i64 nodes, .slice A l.length c] L (fun v L' => v = .bool true ∧ L' = L) := by
  refine Fn_enter Try.func11 rfl rfl rfl rfl ?_
  refine T_gives (slnil.lay (R := intR .i64) (A := none) (c := 0)) ?_
  refine T_region ?_
  refine TL_y rfl rfl (Y_assign rfl) ?_
  refine TL_nil ?_
  refine T_region ?_
  refine TL_y rfl rfl (Y_move rfl) ?_
  refine TL_y rfl rfl (Y_move rfl) ?_
  refine TL_call rfl rfl (prNew_bad hbad _) ?_
  rintro _ _ ⟨rfl, rfl⟩
  refine TL_y rfl rfl (Y_move rfl) ?_
  refine TL_y rfl rfl (Y_extract rfl rfl) ?_
  refine TL_y rfl rfl (Y_extract rfl rfl) ?_
  refine TL_y rfl rfl (Y_assign rfl) ?_
  refine TL_y rfl rfl (Y_assign rfl) ?_
  refine TL_nil ?_
  refine T_seq ?_
  refine T_region ?_
  refine TL_call rfl rfl (lives17_spec _) ?_
  rintro _ _ ⟨rfl, rfl⟩
  refine TL_name 25 (v' := .bool true) rfl (rfl) ?_
  refine TL_y rfl rfl (Y_not_t rfl) ?_
  refine TL_nil ?_
  refine T_cond_false rfl ?_
  refine T_skip ?_
  refine thenS_normal ?_
  refine T_seq ?_
  refine T_region ?_
  refine TL_y rfl rfl (Y_move rfl) ?_
  refine TL_y rfl rfl (Y_ne rfl rfl) ?_
  refine TL_name 28 (v' := .bool true) rfl (congrArg Value.bool (decide_eq_true (by decide))) ?_
  refine TL_y rfl rfl (Y_move rfl) ?_
  refine TL_gskip rfl rfl rfl rfl ?_
  refine TL_gskip rfl rfl rfl rfl ?_
  refine TL_y rfl rfl (Y_pick_t rfl rfl) ?_
  refine TL_nil ?_
  refine T_cond_true rfl ?_
  refine T_region ?_
  refine TL_y rfl rfl (Y_move rfl) ?_
  refine TL_y rfl rfl (Y_eq rfl rfl) ?_
  refine TL_name 34 (v' := .bool true) rfl (congrArg Value.bool (decide_eq_true rfl)) ?_
  refine TL_y rfl rfl (Y_move rfl) ?_
  refine TL_grun rfl rfl ?_
  refine TL_y rfl rfl (Y_move rfl) ?_
  refine TL_grun rfl rfl ?_
  refine TL_y rfl rfl (Y_equal rfl rfl (EqIs.ptr_nil)) ?_
  refine TL_name 37 (v' := .bool true) rfl (by simp) ?_
  refine TL_y rfl rfl (Y_pick_t rfl rfl) ?_
  refine TL_y rfl rfl (Y_assign rfl) ?_
  refine TL_nil ?_
  refine T_ret ?_
  refine thenS_ret ?_
  exact RetG_1 (.inl rfl) rfl (ResV.tmp rfl) GivesTo.g (⟨rfl, rfl⟩)
set_option maxHeartbeats 4000000 in
theorem proposerOnce_ok {L : List HP} {A0 : Option Addr} {c0 : Nat} {l : List OpD17} (node nodes : Int) (h1 : 1 ≤ nodes ∧ nodes ≤ 7) (h2 : 0 ≤ node ∧ node < nodes) (hk : SlK L opR A0 c0 l) (hb : ∀ o ∈ l, cMsg o.msg ≤ 140737488355328 ∧ cSeal o.en.order ≤ 140737488355000) (hl : l.length ≤ 281474976710656) : Fn Try.prog 11 #[.int .i64 node, .int .i64 nodes, .slice A0 l.length c0] L (fun v L' => v = .bool true ∧ L' = L) := by
  refine Fn_enter Try.func11 rfl rfl rfl rfl ?_
  refine T_gives hk.lay ?_
  refine T_region ?_
  refine TL_y rfl rfl (Y_assign rfl) ?_
  refine TL_nil ?_
  refine T_region ?_
  refine TL_y rfl rfl (Y_move rfl) ?_
  refine TL_y rfl rfl (Y_move rfl) ?_
  refine TL_call rfl rfl (prNew_ok h1 h2 _) ?_
  rintro _ _ ⟨b22, rfl, rfl⟩
  refine TL_y rfl rfl (Y_move rfl) ?_
  refine TL_y rfl rfl (Y_extract rfl rfl) ?_
  refine TL_y rfl rfl (Y_extract rfl rfl) ?_
  refine TL_y rfl rfl (Y_assign rfl) ?_
  refine TL_y rfl rfl (Y_assign rfl) ?_
  refine TL_nil ?_
  refine T_seq ?_
  refine T_region ?_
  refine TL_call rfl rfl (lives17_spec _) ?_
  rintro _ _ ⟨rfl, rfl⟩
  refine TL_name 25 (v' := .bool true) rfl (rfl) ?_
  refine TL_y rfl rfl (Y_not_t rfl) ?_
  refine TL_nil ?_
  refine T_cond_false rfl ?_
  refine T_skip ?_
  refine thenS_normal ?_
  refine T_seq ?_
  refine T_region ?_
  refine TL_y rfl rfl (Y_move rfl) ?_
  refine TL_y rfl rfl (Y_ne rfl rfl) ?_
  refine TL_name 28 (v' := .bool false) rfl (congrArg Value.bool (decide_eq_false (by decide))) ?_
  refine TL_y rfl rfl (Y_move rfl) ?_
  refine TL_grun rfl rfl ?_
  refine TL_y rfl rfl (Y_move rfl) ?_
  refine TL_grun rfl rfl ?_
  refine TL_y rfl rfl (Y_equal rfl rfl (EqIs.ptr_nil)) ?_
  refine TL_name 31 (v' := .bool false) rfl (by simp) ?_
  refine TL_y rfl rfl (Y_pick_f rfl rfl) ?_
  refine TL_nil ?_
  refine T_cond_false rfl ?_
  refine T_skip ?_
  refine thenS_normal ?_
  refine T_region ?_
  refine TL_y rfl rfl (Y_assign rfl) ?_
  refine TL_nil ?_
  refine T_region ?_
  refine TL_y rfl rfl (Y_build rfl rfl) ?_
  refine TL_alloc rfl rfl ?_
  intro b10
  refine TL_store rfl rfl rfl rfl rfl rfl ?_
  refine TL_nil ?_
  refine T_seq ?_
  refine T_region ?_
  refine TL_y rfl rfl (Y_assign rfl) ?_
  refine TL_nil ?_
  refine T_block ?_
  refine T_loopK (σ := OnSt) [0, 1, 2, 7, 10] (fun g => g.i ≤ l.length ∧ OInv g.p g.last g.said ∧ g.p.node = node ∧ g.p.nodes = nodes ∧ g.said.length ≤ 40000) (fun g kv => (11, .int .i64 (g.i : Int)) :: (9, .slice g.A g.said.length g.c) :: kv) (fun g => osl msgR 44 g.A g.c g.said :: pr b22 g.p :: cells b10 (balC g.last) 40 :: sl opR A0 c0 l :: L) (fun g => l.length - g.i) (⟨0, ppNew node nodes, (0, 0), [], none, 0⟩) rfl (⟨Nat.zero_le _, OInv.new node nodes, rfl, rfl, Nat.zero_le _⟩) (Gives.trans (osl_nil msgR 44 none _) (Gives.cons _ GivesTo.g)) (sub_cons rfl (sub_cons rfl (sub_cons rfl (sub_cons rfl (sub_cons rfl (sub_cons rfl (sub_cons rfl (sub_nil)))))))) ?_
  rintro ⟨i, p, last, said, A, c⟩ ⟨hil, hO, hnd, hns, hsl⟩
  dsimp only at hil hO hnd hns hsl ⊢
  refine T_seq ?_
  refine T_region ?_
  refine TL_y rfl rfl (Y_move rfl) ?_
  refine TL_y rfl rfl (Y_move rfl) ?_
  refine TL_y rfl rfl (Y_len rfl) ?_
  refine TL_y rfl rfl (Y_lt rfl rfl) ?_
  refine TL_y rfl rfl (Y_move rfl) ?_
  refine TL_splitd 44 rfl (fun h44 => ?_) (fun h44 => ?_)
  · refine TL_grun rfl rfl ?_
    refine TL_y rfl rfl (Y_move rfl) ?_
    refine TL_grun rfl rfl ?_
    refine TL_y rfl rfl (Y_len rfl) ?_
    refine TL_grun rfl rfl ?_
    refine TL_y rfl rfl (Y_lt rfl rfl) ?_
    refine TL_y rfl rfl (Y_pick_t rfl rfl) ?_
    refine TL_nil ?_
    refine T_if rfl (fun h48 => ?_) (fun h48 => ?_)
    · refine T_skip ?_
      refine thenS_normal ?_
      refine T_seq ?_
      refine T_block ?_
      refine T_region ?_
      refine TL_y rfl rfl (Y_assign rfl) ?_
      refine TL_nil ?_
      refine T_region ?_
      refine TL_y rfl rfl (Y_assign rfl) ?_
      refine TL_nil ?_
      refine T_seq ?_
      obtain ⟨o, ho⟩ : ∃ o, l[i]? = some o := ⟨_, List.getElem?_eq_getElem (by omega)⟩
      have hob := hb o (List.mem_of_getElem? ho)
      refine T_pullk b22 ?_
      refine T_prI fun hi => ?_
      refine T_addr_n (sln (A := A0) (c := c0)) ho fun bq oq eq => ?_
      subst eq
      refine T_region ?_
      refine TL_y rfl rfl (Y_move rfl) ?_
      refine TL_y rfl rfl (Y_move rfl) ?_
      refine TL_y rfl rfl (Y_index_n (R := opR) (xs := l) rfl rfl rfl ho) ?_
      refine TL_y rfl rfl (Y_field_addr2 rfl) ?_
      refine TL_y rfl rfl (Y_load_nx (xs := l) (u := o) (v := .int .i64 o.kind) rfl (sln (c := c0)) ho (fun _ ↦ rfl)) ?_
      refine TL_nil ?_
      refine T_joinKT (σ := OrSt) [0, 1, 2, 7, 9, 10, 11] (fun j => OrI node nodes said j) (fun j kv => (12, .slice j.A j.out.length j.c) :: (13, .slice j.B j.ch.length j.d) :: kv) (fun j => osl msgR 44 j.A j.c j.out :: osl votedR 50 j.B j.d j.ch :: pr b22 j.p :: cells b10 (balC j.last) 40 :: osl msgR 44 A c said :: sl opR (some ⟨bq, oq, none⟩) c0 l :: L) rfl ?_ ?_
      · refine T_block ?_
        refine T_region ?_
        refine TL_y rfl rfl (Y_eq rfl rfl) ?_
        refine TL_y rfl rfl (Y_assign rfl) ?_
        refine TL_nil ?_
        refine T_if rfl (fun h56 => ?_) (fun h56 => ?_)
        · refine T_region_draw (sl opR (some ⟨bq, oq, none⟩) c0 l :: []) [0, 0, 0, 6, 14, 30, 0, 0, 192, 448, 960, 2047, 4095, 8191, 8191, 16383, 65535] [] [(0, true), (1, true), (2, true), (3, true), (4, true), (5, true), (6, true), (7, true), (8, true), (9, true), (10, true), (11, false), (12, true), (13, true), (14, true), (15, true), (16, true)] (by kernel_rfl) (by decide +kernel) GivesTo.g ?_
          refine TF_y rfl rfl (Y_move rfl) ?_
          refine TF_y rfl rfl (Y_move rfl) ?_
          refine TF_y rfl rfl (Y_move rfl) ?_
          refine TF_y rfl rfl (Y_index_n (R := opR) (xs := l) rfl rfl rfl ho) ?_
          refine TF_y rfl rfl (Y_field_addr2 rfl) ?_
          refine TF_y rfl rfl (Y_load_nxa (xs := l) (u := o) (vs := [.int .i64 o.bal.1, .int .i64 o.bal.2]) rfl (sln (c := c0)) ho (fun _ ↦ rfl)) ?_
          refine TF_y rfl rfl (Y_move rfl) ?_
          refine TF_y rfl rfl (Y_move rfl) ?_
          refine TF_y rfl rfl (Y_index_n (R := opR) (xs := l) rfl rfl rfl ho) ?_
          refine TF_y rfl rfl (Y_field_addr2 rfl) ?_
          refine TF_y rfl rfl (Y_load_nx (xs := l) (u := o) (v := .int .i64 o.slot) rfl (sln (c := c0)) ho (fun _ ↦ rfl)) ?_
          refine TF_anchor rfl ?_
          refine TL_pullk b22 ?_
          refine TL_call rfl rfl (prStart_spec o.bal o.slot) ?_
          rintro _ _ ⟨A70, c70, rfl, rfl⟩
          refine TF_end GivesTo.g ?_
          refine TF_y rfl rfl (Y_move rfl) ?_
          refine TF_y rfl rfl (Y_extract rfl rfl) ?_
          refine TF_y rfl rfl (Y_extract rfl rfl) ?_
          refine TF_y rfl rfl (Y_assign rfl) ?_
          refine TF_y rfl rfl (Y_assign rfl) ?_
          refine TF_nil ?_
          refine T_region ?_
          refine TL_y rfl rfl (Y_move rfl) ?_
          refine TL_y rfl rfl (Y_eq rfl rfl) ?_
          refine TL_nil ?_
          refine T_if rfl (fun h74 => ?_) (fun h74 => ?_)
          · have hst := hO.start hi h74
            have hg1 := cmp_gtB.2 hst.2.2.1
            have hg2 := cmp_gtB.2 hst.2.2.2
            refine T_seq ?_
            refine T_region_draw (pr b22 (startP p o.bal o.slot) :: cells b10 (balC last) 40 :: sl opR (some ⟨bq, oq, none⟩) c0 l :: []) [0, 1, 0, 7, 15, 31, 63, 127, 63, 63, 831, 1855, 3903, 8191, 16383, 32767] [] [(0, true), (2, true), (1, false), (3, false), (4, true), (5, true), (6, true), (8, true), (9, true), (10, true), (11, true), (12, true), (7, false), (13, false), (14, true), (15, true)] (by kernel_rfl) (by decide +kernel) GivesTo.g ?_
            refine TF_y rfl rfl (Y_move rfl) ?_
            refine TF_y rfl rfl (Y_load_agg rfl rfl) ?_
            refine TF_anchor rfl ?_
            refine TL_pullk b22 ?_
            refine TL_call rfl rfl (prBallot_spec) ?_
            rintro _ _ ⟨rfl, rfl⟩
            refine TF_end GivesTo.g ?_
            refine TF_anchor rfl ?_
            refine TL_call rfl rfl (compare_spec (startP p o.bal o.slot).bal last _) ?_
            rintro _ _ ⟨rfl, rfl⟩
            refine TF_end GivesTo.g ?_
            refine TF_y rfl rfl (Y_le rfl rfl) ?_
            refine TF_name 79 (v' := .bool false) rfl (congrArg Value.bool (decide_eq_false (by omega))) ?_
            refine TF_y rfl rfl (Y_move rfl) ?_
            refine TF_gy rfl rfl rfl rfl (Y_move rfl) ?_
            refine TF_gy rfl rfl rfl rfl (Y_move rfl) ?_
            refine TF_gy rfl rfl rfl rfl (Y_move rfl) ?_
            refine TF_gy rfl rfl rfl rfl (Y_index_n (R := opR) (xs := l) rfl rfl rfl ho) ?_
            refine TF_gy rfl rfl rfl rfl (Y_field_addr2 rfl) ?_
            refine TF_gy rfl rfl rfl rfl (Y_load_nxa (xs := l) (u := o) (vs := [.int .i64 o.bal.1, .int .i64 o.bal.2]) rfl (sln (c := c0)) ho (fun _ ↦ rfl)) ?_
            refine TF_anchor rfl ?_
            refine TL_grun rfl rfl ?_
            refine TL_pullk b22 ?_
            refine TL_call rfl rfl (prBallot_spec) ?_
            rintro _ _ ⟨rfl, rfl⟩
            refine TF_end GivesTo.g ?_
            refine TF_anchor rfl ?_
            refine TL_grun rfl rfl ?_
            refine TL_call rfl rfl (compare_spec (startP p o.bal o.slot).bal o.bal _) ?_
            rintro _ _ ⟨rfl, rfl⟩
            refine TF_end GivesTo.g ?_
            refine TF_gy rfl rfl rfl rfl (Y_le rfl rfl) ?_
            refine TF_name 89 (v' := .bool false) rfl (congrArg Value.bool (decide_eq_false (by omega))) ?_
            refine TF_y rfl rfl (Y_pick_f rfl rfl) ?_
            refine TF_nil ?_
            refine T_cond_false rfl ?_
            refine T_skip ?_
            refine thenS_normal ?_
            refine T_region_last ?_
            refine TL_y rfl rfl (Y_move rfl) ?_
            refine TL_pullk b22 ?_
            refine TL_call rfl rfl (prBallot_spec) ?_
            rintro _ _ ⟨rfl, rfl⟩
            refine TL_store rfl rfl rfl rfl rfl rfl ?_
            refine TL_nil ?_
            refine inB_normal ?_
            refine thenS_normal ?_
            exact ⟨⟨startP p o.bal o.slot, (startP p o.bal o.slot).bal, startO p o.bal o.slot, A70, c70, [], none, 0⟩, ⟨hst.1, fun m hm => (by rw [← hnd, ← hns]; exact hst.2.1 m hm), fun v hv => (by cases hv), (startP_node _ _ _).1.trans hnd, (startP_node _ _ _).2.trans hns, startO_len hi _ _, Nat.zero_le _⟩, holds_to (sub_cons rfl (sub_cons rfl (sub_cons rfl (sub_cons rfl (sub_cons rfl (sub_cons rfl (sub_cons rfl (sub_cons rfl (sub_cons rfl (sub_nil)))))))))) (Gives.trans (osl_nil votedR 50 none _) GivesTo.g)⟩
          · refine T_skip ?_
            refine inB_normal ?_
            refine thenS_normal ?_
            have hq1 : startO p o.bal o.slot = [] := (by unfold startO; rw [if_neg h74])
            have hq2 : startP p o.bal o.slot = p := (by unfold startP; rw [if_neg h74])
            rw [hq1, hq2]
            exact ⟨⟨p, last, [], A70, c70, [], none, 0⟩, ⟨hO.none, fun m hm => (by cases hm), fun v hv => (by cases hv), hnd, hns, Nat.zero_le _, Nat.zero_le _⟩, holds_to (sub_cons rfl (sub_cons rfl (sub_cons rfl (sub_cons rfl (sub_cons rfl (sub_cons rfl (sub_cons rfl (sub_cons rfl (sub_cons rfl (sub_nil)))))))))) (Gives.trans (osl_nil votedR 50 none _) GivesTo.g)⟩
        · refine T_region ?_
          refine TL_y rfl rfl (Y_eq rfl rfl) ?_
          refine TL_y rfl rfl (Y_assign rfl) ?_
          refine TL_nil ?_
          refine T_if rfl (fun h93 => ?_) (fun h93 => ?_)
          · refine T_region_last ?_
            refine TL_y rfl rfl (Y_move rfl) ?_
            refine TL_y rfl rfl (Y_move rfl) ?_
            refine TL_y rfl rfl (Y_move rfl) ?_
            refine TL_y rfl rfl (Y_index_n (R := opR) (xs := l) rfl rfl rfl ho) ?_
            refine TL_y rfl rfl (Y_field_addr2 rfl) ?_
            refine TL_load_nx (xs := l) rfl rfl (sln (c := c0)) ho (fun _ => rfl) ?_
            intro p101 ok101
            simp only [List.cons_append, List.nil_append]
            refine TL_pullk b22 ?_
            refine TL_call rfl rfl (prOn_spec o.msg p101.m ok101.msg ⟨slk, slk, slk, slk⟩ hob.1) ?_
            rintro _ _ ⟨A102, c102, B102, d102, rfl, rfl⟩
            refine TL_y rfl rfl (Y_move rfl) ?_
            refine TL_y rfl rfl (Y_extract rfl rfl) ?_
            refine TL_y rfl rfl (Y_extract rfl rfl) ?_
            refine TL_y rfl rfl (Y_assign rfl) ?_
            refine TL_y rfl rfl (Y_assign rfl) ?_
            refine TL_nil ?_
            refine inB_normal ?_
            refine thenS_normal ?_
            have hon := hO.onP hi o.msg
            have hpn := onP_node hi o.msg
            exact ⟨⟨(onP p o.msg).1, last, (onP p o.msg).2.1, A102, c102, (onP p o.msg).2.2, B102, d102⟩, ⟨hon.1, fun m hm => (by rw [← hnd, ← hns]; exact hon.2.1 m hm), hon.2.2, hpn.1.trans hnd, hpn.2.1.trans hns, hpn.2.2.1, hpn.2.2.2⟩, holds_to (sub_cons rfl (sub_cons rfl (sub_cons rfl (sub_cons rfl (sub_cons rfl (sub_cons rfl (sub_cons rfl (sub_cons rfl (sub_cons rfl (sub_nil)))))))))) GivesTo.g⟩
          · refine T_region ?_
            refine TL_y rfl rfl (Y_eq rfl rfl) ?_
            refine TL_y rfl rfl (Y_assign rfl) ?_
            refine TL_nil ?_
            refine T_if rfl (fun h105 => ?_) (fun h105 => ?_)
            · refine T_region_last ?_
              refine TL_y rfl rfl (Y_move rfl) ?_
              refine TL_y rfl rfl (Y_move rfl) ?_
              refine TL_y rfl rfl (Y_move rfl) ?_
              refine TL_y rfl rfl (Y_index_n (R := opR) (xs := l) rfl rfl rfl ho) ?_
              refine TL_y rfl rfl (Y_field_addr2 rfl) ?_
              refine TL_load_nx (xs := l) rfl rfl (sln (c := c0)) ho (fun _ => rfl) ?_
              intro p113 ok113
              simp only [List.cons_append, List.nil_append]
              refine TL_pullk b22 ?_
              refine TL_call rfl rfl (prPropo_spec (A := p113.e.1) (c := p113.e.2) o.en ok113.en slk hob.2) ?_
              rintro _ _ ⟨A114, c114, rfl, rfl⟩
              refine TL_y rfl rfl (Y_move rfl) ?_
              refine TL_y rfl rfl (Y_extract rfl rfl) ?_
              refine TL_y rfl rfl (Y_extract rfl rfl) ?_
              refine TL_y rfl rfl (Y_extract rfl rfl) ?_
              refine TL_y rfl rfl (Y_assign rfl) ?_
              refine TL_nil ?_
              refine inB_normal ?_
              refine thenS_normal ?_
              have hpr := hO.propP hi o.en
              have hpn := propP_node p o.en
              exact ⟨⟨propP p o.en, last, propO p o.en, A114, c114, [], none, 0⟩, ⟨hpr.1, fun m hm => (by rw [← hnd, ← hns]; exact hpr.2 m hm), fun v hv => (by cases hv), hpn.1.trans hnd, hpn.2.trans hns, propO_len hi _, Nat.zero_le _⟩, holds_to (sub_cons rfl (sub_cons rfl (sub_cons rfl (sub_cons rfl (sub_cons rfl (sub_cons rfl (sub_cons rfl (sub_cons rfl (sub_cons rfl (sub_nil)))))))))) (Gives.trans (osl_nil votedR 50 none _) GivesTo.g)⟩
            · refine T_region ?_
              refine TL_y rfl rfl (Y_eq rfl rfl) ?_
              refine TL_y rfl rfl (Y_assign rfl) ?_
              refine TL_nil ?_
              refine T_if rfl (fun h118 => ?_) (fun h118 => ?_)
              · refine T_region_last ?_
                refine TL_y rfl rfl (Y_move rfl) ?_
                refine TL_pullk b22 ?_
                refine TL_call rfl rfl (prAgain_spec) ?_
                rintro _ _ ⟨A121, c121, rfl, rfl⟩
                refine TL_y rfl rfl (Y_assign rfl) ?_
                refine TL_nil ?_
                refine inB_normal ?_
                refine thenS_normal ?_
                have hag := hO.again
                exact ⟨⟨p, last, againO p, A121, c121, [], none, 0⟩, ⟨hag.1, fun m hm => (by rw [← hnd, ← hns]; exact hag.2 m hm), fun v hv => (by cases hv), hnd, hns, againO_len hi, Nat.zero_le _⟩, holds_to (sub_cons rfl (sub_cons rfl (sub_cons rfl (sub_cons rfl (sub_cons rfl (sub_cons rfl (sub_cons rfl (sub_cons rfl (sub_cons rfl (sub_nil)))))))))) (Gives.trans (osl_nil votedR 50 none _) GivesTo.g)⟩
              · refine T_skip ?_
                refine inB_normal ?_
                refine thenS_normal ?_
                exact ⟨⟨p, last, [], none, 0, [], none, 0⟩, ⟨hO.none, fun m hm => (by cases hm), fun v hv => (by cases hv), hnd, hns, Nat.zero_le _, Nat.zero_le _⟩, holds_to (sub_cons rfl (sub_cons rfl (sub_cons rfl (sub_cons rfl (sub_cons rfl (sub_cons rfl (sub_cons rfl (sub_cons rfl (sub_cons rfl (sub_nil)))))))))) (Gives.trans (osl_nil votedR 50 none _) (Gives.trans (osl_nil msgR 44 none _) GivesTo.g))⟩
      · rintro ⟨p2, last2, out, Ao, co, ch, B, d⟩ hj
        refine T_seq ?_
        obtain ⟨hO2, houts, hknown, hnd2, hns2, hlen2, hone2⟩ := hj
        dsimp only at hO2 houts hknown hnd2 hns2 hlen2 hone2 ⊢
        refine T_region ?_
        refine TL_y rfl rfl (Y_assign rfl) ?_
        refine TL_nil ?_
        refine T_block ?_
        refine T_loopK (σ := Nat) [0, 1, 2, 7, 9, 10, 11, 12, 13] (fun k => k ≤ out.length) (fun k kv => (14, .int .i64 (k : Int)) :: kv) (fun k => osl msgR 44 Ao co out :: osl votedR 50 B d ch :: pr b22 p2 :: cells b10 (balC last2) 40 :: osl msgR 44 A c said :: sl opR (some ⟨bq, oq, none⟩) c0 l :: L) (fun k => out.length - k) (0) rfl (Nat.zero_le _) (GivesTo.g) (sub_cons rfl (sub_cons rfl (sub_cons rfl (sub_cons rfl (sub_cons rfl (sub_cons rfl (sub_cons rfl (sub_cons rfl (sub_cons rfl (sub_cons rfl (sub_nil))))))))))) ?_
        intro k hko
        refine T_seq ?_
        refine T_region ?_
        refine TL_y rfl rfl (Y_move rfl) ?_
        refine TL_y rfl rfl (Y_move rfl) ?_
        refine TL_y rfl rfl (Y_len rfl) ?_
        refine TL_y rfl rfl (Y_lt rfl rfl) ?_
        refine TL_nil ?_
        refine T_if rfl (fun h125 => ?_) (fun h125 => ?_)
        · refine T_skip ?_
          refine thenS_normal ?_
          refine T_seq ?_
          refine T_block ?_
          refine T_seq ?_
          obtain ⟨m, hm⟩ : ∃ m, out[k]? = some m := ⟨_, List.getElem?_eq_getElem (by omega)⟩
          have hmm := List.mem_of_getElem? hm
          have hmo := houts m hmm
          refine T_addr_n (sln (A := Ao) (c := co)) hm fun bm om em => ?_
          subst em
          refine T_region_draw (osl msgR 44 (some ⟨bm, om, none⟩) co out :: cells b10 (balC last2) 40 :: []) [0, 0, 3, 7, 15, 0, 63, 127, 255, 255, 1023, 2047, 4095, 255, 16383, 32767, 65535, 131071, 131071, 524287, 1048575, 2097151, 4194303, 8388607, 16777215, 33554431, 33554431, 134217727, 268435455, 536870911, 33554431, 2147483647, 4294967295] [] [(0, true), (1, true), (2, true), (3, true), (4, true), (5, true), (6, true), (7, true), (8, true), (9, true), (10, true), (11, true), (12, true), (13, true), (14, true), (15, true), (16, true), (17, true), (18, true), (19, true), (20, true), (21, true), (22, true), (23, true), (24, true), (25, true), (26, true), (27, true), (28, true), (29, true), (30, true), (31, true), (32, true)] (by kernel_rfl) (by decide +kernel) GivesTo.g ?_
          refine TF_y rfl rfl (Y_move rfl) ?_
          refine TF_y rfl rfl (Y_move rfl) ?_
          refine TF_y rfl rfl (Y_index_n (R := msgR) (xs := out) rfl rfl rfl hm) ?_
          refine TF_y rfl rfl (Y_field_addr2 rfl) ?_
          refine TF_y rfl rfl (Y_load_nxa (xs := out) (u := m) (vs := [.int .i64 m.bal.1, .int .i64 m.bal.2]) rfl (sln (c := co)) hm (fun _ ↦ rfl)) ?_
          refine TF_y rfl rfl (Y_load_agg rfl rfl) ?_
          refine TF_y rfl rfl (Y_ne_bal (a := m.bal) (b := last2) rfl rfl) ?_
          refine TF_name 134 (v' := .bool false) rfl (congrArg Value.bool (by rw [bal_pair]; exact decide_eq_false (fun h => h hmo.1))) ?_
          refine TF_y rfl rfl (Y_move rfl) ?_
          refine TF_gy rfl rfl rfl rfl (Y_move rfl) ?_
          refine TF_gy rfl rfl rfl rfl (Y_move rfl) ?_
          refine TF_gy rfl rfl rfl rfl (Y_index_n (R := msgR) (xs := out) rfl rfl rfl hm) ?_
          refine TF_gy rfl rfl rfl rfl (Y_field_addr2 rfl) ?_
          refine TF_gy rfl rfl rfl rfl (Y_load_nx (xs := out) (u := m) (v := .int .i64 m.frm) rfl (sln (c := co)) hm (fun _ ↦ rfl)) ?_
          refine TF_gy rfl rfl rfl rfl (Y_move rfl) ?_
          refine TF_gy rfl rfl rfl rfl (Y_ne rfl rfl) ?_
          refine TF_name 142 (v' := .bool false) rfl (congrArg Value.bool (decide_eq_false (fun h => h hmo.2.1))) ?_
          refine TF_y rfl rfl (Y_pick_f rfl rfl) ?_
          refine TF_y rfl rfl (Y_move rfl) ?_
          refine TF_gy rfl rfl rfl rfl (Y_move rfl) ?_
          refine TF_gy rfl rfl rfl rfl (Y_move rfl) ?_
          refine TF_gy rfl rfl rfl rfl (Y_index_n (R := msgR) (xs := out) rfl rfl rfl hm) ?_
          refine TF_gy rfl rfl rfl rfl (Y_field_addr2 rfl) ?_
          refine TF_gy rfl rfl rfl rfl (Y_load_nx (xs := out) (u := m) (v := .int .i64 m.to_) rfl (sln (c := co)) hm (fun _ ↦ rfl)) ?_
          refine TF_gy rfl rfl rfl rfl (Y_lt rfl rfl) ?_
          refine TF_name 150 (v' := .bool false) rfl (congrArg Value.bool (decide_eq_false (by have := hmo.2.2.1; omega))) ?_
          refine TF_y rfl rfl (Y_pick_f rfl rfl) ?_
          refine TF_y rfl rfl (Y_move rfl) ?_
          refine TF_gy rfl rfl rfl rfl (Y_move rfl) ?_
          refine TF_gy rfl rfl rfl rfl (Y_move rfl) ?_
          refine TF_gy rfl rfl rfl rfl (Y_index_n (R := msgR) (xs := out) rfl rfl rfl hm) ?_
          refine TF_gy rfl rfl rfl rfl (Y_field_addr2 rfl) ?_
          refine TF_gy rfl rfl rfl rfl (Y_load_nx (xs := out) (u := m) (v := .int .i64 m.to_) rfl (sln (c := co)) hm (fun _ ↦ rfl)) ?_
          refine TF_gy rfl rfl rfl rfl (Y_move rfl) ?_
          refine TF_gy rfl rfl rfl rfl (Y_ge rfl rfl) ?_
          refine TF_name 159 (v' := .bool false) rfl (congrArg Value.bool (decide_eq_false (by have := hmo.2.2.2; omega))) ?_
          refine TF_y rfl rfl (Y_pick_f rfl rfl) ?_
          refine TF_nil ?_
          refine T_cond_false rfl ?_
          refine T_skip ?_
          refine thenS_normal ?_
          refine T_region ?_
          refine TL_y rfl rfl (Y_assign rfl) ?_
          refine TL_nil ?_
          refine T_block ?_
          refine T_loopK (σ := Nat) [0, 1, 2, 7, 9, 10, 11, 12, 13, 14] (fun n => n ≤ said.length) (fun n kv => (15, .int .i64 (n : Int)) :: kv) (fun n => osl msgR 44 (some ⟨bm, om, none⟩) co out :: osl votedR 50 B d ch :: pr b22 p2 :: cells b10 (balC last2) 40 :: osl msgR 44 A c said :: sl opR (some ⟨bq, oq, none⟩) c0 l :: L) (fun n => said.length - n) (0) rfl (Nat.zero_le _) (GivesTo.g) (sub_cons rfl (sub_cons rfl (sub_cons rfl (sub_cons rfl (sub_cons rfl (sub_cons rfl (sub_cons rfl (sub_cons rfl (sub_cons rfl (sub_cons rfl (sub_cons rfl (sub_nil)))))))))))) ?_
          intro n hno
          refine T_seq ?_
          refine T_region ?_
          refine TL_y rfl rfl (Y_move rfl) ?_
          refine TL_y rfl rfl (Y_move rfl) ?_
          refine TL_y rfl rfl (Y_len rfl) ?_
          refine TL_y rfl rfl (Y_lt rfl rfl) ?_
          refine TL_nil ?_
          refine T_if rfl (fun h164 => ?_) (fun h164 => ?_)
          · refine T_skip ?_
            refine thenS_normal ?_
            refine T_seq ?_
            refine T_block ?_
            obtain ⟨u, hu⟩ : ∃ u, said[n]? = some u := ⟨_, List.getElem?_eq_getElem (by omega)⟩
            have hum := List.mem_of_getElem? hu
            refine T_addr_n (sln (A := A) (c := c)) hu fun bu ou eu => ?_
            subst eu
            refine T_rd [0, 0, 3, 7, 15, 31, 63, 127, 127, 511, 1023, 2047, 4095, 8191, 16383, 32767, 32767, 131071, 262143, 524287, 32767, 32767, 3178495, 7372799, 15761407, 33554431, 67108863, 134217727, 268435455, 268435455, 1073741823, 2147483647, 4294967295, 268435455, 268435455, 26038239231, 60397977599, 129117454335, 274877906943, 549755813887, 1099511627775, 2199023255551, 2199023255551, 8796093022207, 17592186044415, 35184372088831, 2199023255551, 2199023255551, 213305255788543, 494780232499199, 1057730185920511, 2251799813685247, 4503599627370495, 9007199254740991] (by kernel_rfl) (by decide +kernel) ?_
            refine RD_pair 45 50 (by decide) ?_ ?_
            · refine RD_leaf (osl msgR 44 (some ⟨bm, om, none⟩) co out :: osl msgR 44 (some ⟨bu, ou, none⟩) c said :: []) [0, 0, 3, 7, 15, 31, 63, 127, 127, 511, 1023, 2047, 4095, 8191, 16383, 32767, 32767, 131071, 262143, 524287, 32767, 32767, 3178495, 7372799, 15761407, 33554431, 67108863, 134217727, 268435455, 268435455, 1073741823, 2147483647, 4294967295, 268435455, 268435455, 26038239231, 60397977599, 129117454335, 274877906943, 549755813887, 1099511627775, 2199023255551, 2199023255551, 8796093022207, 17592186044415, 35184372088831, 2199023255551, 2199023255551, 213305255788543, 494780232499199, 1125899906842623, 2251799813685247, 4503599627370495, 9007199254740991] [] [(0, true), (1, true), (2, true), (3, true), (4, true), (5, true), (6, true), (7, true), (8, true), (9, true), (10, true), (11, true), (12, true), (13, true), (14, true), (15, true), (16, true), (17, true), (18, true), (19, true), (20, true), (21, true), (22, true), (23, true), (24, true), (25, true), (26, true), (27, true), (28, true), (29, true), (30, true), (31, true), (32, true), (33, true), (34, true), (35, true), (36, true), (37, true), (38, true), (39, true), (40, true), (41, true), (42, true), (43, true), (44, true), (46, true), (47, true), (48, true), (49, true), (45, false), (50, false), (51, false), (52, true), (53, true)] (by decide +kernel) GivesTo.g ?_
              refine TF_y rfl rfl (Y_move rfl) ?_
              refine TF_y rfl rfl (Y_move rfl) ?_
              refine TF_y rfl rfl (Y_index_n (R := msgR) (xs := said) rfl rfl rfl hu) ?_
              refine TF_y rfl rfl (Y_field_addr2 rfl) ?_
              refine TF_y rfl rfl (Y_load_nx (xs := said) (u := u) (v := .int .i64 u.kind) rfl (sln (c := c)) hu (fun _ ↦ rfl)) ?_
              refine TF_y rfl rfl (Y_eq rfl rfl) ?_
              refine TF_y rfl rfl (Y_move rfl) ?_
              refine TF_splitd 173 rfl (fun h173 => ?_) (fun h173 => ?_)
              · refine TF_gy rfl rfl rfl rfl (Y_move rfl) ?_
                refine TF_gy rfl rfl rfl rfl (Y_move rfl) ?_
                refine TF_gy rfl rfl rfl rfl (Y_index_n (R := msgR) (xs := out) rfl rfl rfl hm) ?_
                refine TF_gy rfl rfl rfl rfl (Y_field_addr2 rfl) ?_
                refine TF_gy rfl rfl rfl rfl (Y_load_nx (xs := out) (u := m) (v := .int .i64 m.kind) rfl (sln (c := co)) hm (fun _ ↦ rfl)) ?_
                refine TF_gy rfl rfl rfl rfl (Y_eq rfl rfl) ?_
                refine TF_y rfl rfl (Y_pick_t rfl rfl) ?_
                refine TF_y rfl rfl (Y_move rfl) ?_
                refine TF_splitd 181 rfl (fun h181 => ?_) (fun h181 => ?_)
                · refine TF_gy rfl rfl rfl rfl (Y_move rfl) ?_
                  refine TF_gy rfl rfl rfl rfl (Y_move rfl) ?_
                  refine TF_gy rfl rfl rfl rfl (Y_index_n (R := msgR) (xs := said) rfl rfl rfl hu) ?_
                  refine TF_gy rfl rfl rfl rfl (Y_field_addr2 rfl) ?_
                  refine TF_gy rfl rfl rfl rfl (Y_load_nxa (xs := said) (u := u) (vs := [.int .i64 u.bal.1, .int .i64 u.bal.2]) rfl (sln (c := c)) hu (fun _ ↦ rfl)) ?_
                  refine TF_gy rfl rfl rfl rfl (Y_move rfl) ?_
                  refine TF_gy rfl rfl rfl rfl (Y_move rfl) ?_
                  refine TF_gy rfl rfl rfl rfl (Y_index_n (R := msgR) (xs := out) rfl rfl rfl hm) ?_
                  refine TF_gy rfl rfl rfl rfl (Y_field_addr2 rfl) ?_
                  refine TF_gy rfl rfl rfl rfl (Y_load_nxa (xs := out) (u := m) (vs := [.int .i64 m.bal.1, .int .i64 m.bal.2]) rfl (sln (c := co)) hm (fun _ ↦ rfl)) ?_
                  refine TF_gy rfl rfl rfl rfl (Y_eq_bal (a := u.bal) (b := m.bal) rfl rfl) ?_
                  refine TF_y rfl rfl (Y_pick_t rfl rfl) ?_
                  refine TF_y rfl rfl (Y_move rfl) ?_
                  refine TF_splitd 194 rfl (fun h194 => ?_) (fun h194 => ?_)
                  · refine TF_gy rfl rfl rfl rfl (Y_move rfl) ?_
                    refine TF_gy rfl rfl rfl rfl (Y_move rfl) ?_
                    refine TF_gy rfl rfl rfl rfl (Y_index_n (R := msgR) (xs := said) rfl rfl rfl hu) ?_
                    refine TF_gy rfl rfl rfl rfl (Y_field_addr2 rfl) ?_
                    refine TF_gy rfl rfl rfl rfl (Y_load_nx (xs := said) (u := u) (v := .int .i64 u.slot) rfl (sln (c := c)) hu (fun _ ↦ rfl)) ?_
                    refine TF_gy rfl rfl rfl rfl (Y_move rfl) ?_
                    refine TF_gy rfl rfl rfl rfl (Y_move rfl) ?_
                    refine TF_gy rfl rfl rfl rfl (Y_index_n (R := msgR) (xs := out) rfl rfl rfl hm) ?_
                    refine TF_gy rfl rfl rfl rfl (Y_field_addr2 rfl) ?_
                    refine TF_gy rfl rfl rfl rfl (Y_load_nx (xs := out) (u := m) (v := .int .i64 m.slot) rfl (sln (c := co)) hm (fun _ ↦ rfl)) ?_
                    refine TF_gy rfl rfl rfl rfl (Y_eq rfl rfl) ?_
                    refine TF_y rfl rfl (Y_pick_t rfl rfl) ?_
                    refine TF_y rfl rfl (Y_move rfl) ?_
                    refine TF_splitd 207 rfl (fun h207 => ?_) (fun h207 => ?_)
                    · refine TF_gy rfl rfl rfl rfl (Y_move rfl) ?_
                      refine TF_gy rfl rfl rfl rfl (Y_move rfl) ?_
                      refine TF_gy rfl rfl rfl rfl (Y_index_n (R := msgR) (xs := said) rfl rfl rfl hu) ?_
                      refine TF_gy rfl rfl rfl rfl (Y_field_addr2 rfl) ?_
                      refine TF_gy rfl rfl rfl rfl (Y_move rfl) ?_
                      refine TF_gy rfl rfl rfl rfl (Y_move rfl) ?_
                      refine TF_gy rfl rfl rfl rfl (Y_index_n (R := msgR) (xs := out) rfl rfl rfl hm) ?_
                      refine TF_gy rfl rfl rfl rfl (Y_field_addr2 rfl) ?_
                      refine TF_anchor rfl ?_
                      refine TL_grun rfl rfl ?_
                      refine TL_load_nx (xs := said) rfl rfl (sln (c := c)) hu (fun _ => rfl) ?_
                      intro p212 ok212
                      simp only [List.cons_append, List.nil_append]
                      refine TF_end GivesTo.g ?_
                      refine TF_anchor rfl ?_
                      refine TL_grun rfl rfl ?_
                      refine TL_load_nx (xs := out) rfl rfl (sln (c := co)) hm (fun _ => rfl) ?_
                      intro p217 ok217
                      simp only [List.cons_append, List.nil_append]
                      refine TF_end GivesTo.g ?_
                      refine TF_anchor rfl ?_
                      refine TL_grun rfl rfl ?_
                      refine TL_call rfl rfl (sameEntry_spec u.en m.en (A := p212.cut.1) (c := p212.cut.2) (B := p217.cut.1) (d := p217.cut.2) sln sln) ?_
                      rintro _ _ ⟨rfl, rfl⟩
                      refine TL_name 218 (v' := .bool true) rfl (congrArg Value.bool (decide_eq_true (hO2.u m.bal m.slot _ _ ⟨u, List.mem_append_left _ hum, h173, h194, h207, rfl⟩ ⟨m, List.mem_append_right _ hmm, h181, rfl, rfl, rfl⟩))) ?_
                      refine TF_end GivesTo.g ?_
                      refine TF_gy rfl rfl rfl rfl (Y_not_t rfl) ?_
                      refine TF_y rfl rfl (Y_pick_t rfl rfl) ?_
                      refine TF_nil ?_
                      refine thenS_normal ?_
                      refine T_cond_false rfl ?_
                      refine T_skip ?_
                      refine inB_normal ?_
                      refine thenS_normal ?_
                      refine T_region_last ?_
                      refine TL_y rfl rfl (Y_move rfl) ?_
                      refine TL_y rfl rfl (Y_add rfl rfl (by omega)) ?_
                      refine TL_name 166 (v' := .int .i64 ((n + 1 : Nat) : Int)) rfl (rfl) ?_
                      refine TL_y rfl rfl (Y_assign rfl) ?_
                      refine TL_nil ?_
                      refine thenS_normal ?_
                      exact ⟨n + 1, (by omega), by omega, holds_to (sub_cons rfl (sub_cons rfl (sub_cons rfl (sub_cons rfl (sub_cons rfl (sub_cons rfl (sub_cons rfl (sub_cons rfl (sub_cons rfl (sub_cons rfl (sub_cons rfl (sub_nil)))))))))))) GivesTo.g⟩
                    · refine TF_gskip rfl rfl rfl rfl rfl ?_
                      refine TF_gskip rfl rfl rfl rfl rfl ?_
                      refine TF_gskip rfl rfl rfl rfl rfl ?_
                      refine TF_gskip rfl rfl rfl rfl rfl ?_
                      refine TF_gskip rfl rfl rfl rfl rfl ?_
                      refine TF_gskip rfl rfl rfl rfl rfl ?_
                      refine TF_gskip rfl rfl rfl rfl rfl ?_
                      refine TF_gskip rfl rfl rfl rfl rfl ?_
                      refine TF_anchor rfl ?_
                      refine TL_gskip rfl rfl rfl rfl ?_
                      refine TF_end GivesTo.g ?_
                      refine TF_anchor rfl ?_
                      refine TL_gskip rfl rfl rfl rfl ?_
                      refine TF_end GivesTo.g ?_
                      refine TF_anchor rfl ?_
                      refine TL_gskip rfl rfl rfl rfl ?_
                      refine TF_end GivesTo.g ?_
                      refine TF_gskip rfl rfl rfl rfl rfl ?_
                      refine TF_y rfl rfl (Y_pick_f rfl rfl) ?_
                      refine TF_nil ?_
                      refine thenS_normal ?_
                      refine T_cond_false rfl ?_
                      refine T_skip ?_
                      refine inB_normal ?_
                      refine thenS_normal ?_
                      refine T_region_last ?_
                      refine TL_y rfl rfl (Y_move rfl) ?_
                      refine TL_y rfl rfl (Y_add rfl rfl (by omega)) ?_
                      refine TL_name 166 (v' := .int .i64 ((n + 1 : Nat) : Int)) rfl (rfl) ?_
                      refine TL_y rfl rfl (Y_assign rfl) ?_
                      refine TL_nil ?_
                      refine thenS_normal ?_
                      exact ⟨n + 1, (by omega), by omega, holds_to (sub_cons rfl (sub_cons rfl (sub_cons rfl (sub_cons rfl (sub_cons rfl (sub_cons rfl (sub_cons rfl (sub_cons rfl (sub_cons rfl (sub_cons rfl (sub_cons rfl (sub_nil)))))))))))) GivesTo.g⟩
                  · refine TF_gskip rfl rfl rfl rfl rfl ?_
                    refine TF_gskip rfl rfl rfl rfl rfl ?_
                    refine TF_gskip rfl rfl rfl rfl rfl ?_
                    refine TF_gskip rfl rfl rfl rfl rfl ?_
                    refine TF_gskip rfl rfl rfl rfl rfl ?_
                    refine TF_gskip rfl rfl rfl rfl rfl ?_
                    refine TF_gskip rfl rfl rfl rfl rfl ?_
                    refine TF_gskip rfl rfl rfl rfl rfl ?_
                    refine TF_gskip rfl rfl rfl rfl rfl ?_
                    refine TF_gskip rfl rfl rfl rfl rfl ?_
                    refine TF_gskip rfl rfl rfl rfl rfl ?_
                    refine TF_y rfl rfl (Y_pick_f rfl rfl) ?_
                    refine TF_y rfl rfl (Y_move rfl) ?_
                    refine TF_gskip rfl rfl rfl rfl rfl ?_
                    refine TF_gskip rfl rfl rfl rfl rfl ?_
                    refine TF_gskip rfl rfl rfl rfl rfl ?_
                    refine TF_gskip rfl rfl rfl rfl rfl ?_
                    refine TF_gskip rfl rfl rfl rfl rfl ?_
                    refine TF_gskip rfl rfl rfl rfl rfl ?_
                    refine TF_gskip rfl rfl rfl rfl rfl ?_
                    refine TF_gskip rfl rfl rfl rfl rfl ?_
                    refine TF_anchor rfl ?_
                    refine TL_gskip rfl rfl rfl rfl ?_
                    refine TF_end GivesTo.g ?_
                    refine TF_anchor rfl ?_
                    refine TL_gskip rfl rfl rfl rfl ?_
                    refine TF_end GivesTo.g ?_
                    refine TF_anchor rfl ?_
                    refine TL_gskip rfl rfl rfl rfl ?_
                    refine TF_end GivesTo.g ?_
                    refine TF_gskip rfl rfl rfl rfl rfl ?_
                    refine TF_y rfl rfl (Y_pick_f rfl rfl) ?_
                    refine TF_nil ?_
                    refine thenS_normal ?_
                    refine T_cond_false rfl ?_
                    refine T_skip ?_
                    refine inB_normal ?_
                    refine thenS_normal ?_
                    refine T_region_last ?_
                    refine TL_y rfl rfl (Y_move rfl) ?_
                    refine TL_y rfl rfl (Y_add rfl rfl (by omega)) ?_
                    refine TL_name 166 (v' := .int .i64 ((n + 1 : Nat) : Int)) rfl (rfl) ?_
                    refine TL_y rfl rfl (Y_assign rfl) ?_
                    refine TL_nil ?_
                    refine thenS_normal ?_
                    exact ⟨n + 1, (by omega), by omega, holds_to (sub_cons rfl (sub_cons rfl (sub_cons rfl (sub_cons rfl (sub_cons rfl (sub_cons rfl (sub_cons rfl (sub_cons rfl (sub_cons rfl (sub_cons rfl (sub_cons rfl (sub_nil)))))))))))) GivesTo.g⟩
                · refine TF_gskip rfl rfl rfl rfl rfl ?_
                  refine TF_gskip rfl rfl rfl rfl rfl ?_
                  refine TF_gskip rfl rfl rfl rfl rfl ?_
                  refine TF_gskip rfl rfl rfl rfl rfl ?_
                  refine TF_gskip rfl rfl rfl rfl rfl ?_
                  refine TF_gskip rfl rfl rfl rfl rfl ?_
                  refine TF_gskip rfl rfl rfl rfl rfl ?_
                  refine TF_gskip rfl rfl rfl rfl rfl ?_
                  refine TF_gskip rfl rfl rfl rfl rfl ?_
                  refine TF_gskip rfl rfl rfl rfl rfl ?_
                  refine TF_gskip rfl rfl rfl rfl rfl ?_
                  refine TF_y rfl rfl (Y_pick_f rfl rfl) ?_
                  refine TF_y rfl rfl (Y_move rfl) ?_
                  refine TF_gskip rfl rfl rfl rfl rfl ?_
                  refine TF_gskip rfl rfl rfl rfl rfl ?_
                  refine TF_gskip rfl rfl rfl rfl rfl ?_
                  refine TF_gskip rfl rfl rfl rfl rfl ?_
                  refine TF_gskip rfl rfl rfl rfl rfl ?_
                  refine TF_gskip rfl rfl rfl rfl rfl ?_
                  refine TF_gskip rfl rfl rfl rfl rfl ?_
                  refine TF_gskip rfl rfl rfl rfl rfl ?_
                  refine TF_gskip rfl rfl rfl rfl rfl ?_
                  refine TF_gskip rfl rfl rfl rfl rfl ?_
                  refine TF_gskip rfl rfl rfl rfl rfl ?_
                  refine TF_y rfl rfl (Y_pick_f rfl rfl) ?_
                  refine TF_y rfl rfl (Y_move rfl) ?_
                  refine TF_gskip rfl rfl rfl rfl rfl ?_
                  refine TF_gskip rfl rfl rfl rfl rfl ?_
                  refine TF_gskip rfl rfl rfl rfl rfl ?_
                  refine TF_gskip rfl rfl rfl rfl rfl ?_
                  refine TF_gskip rfl rfl rfl rfl rfl ?_
                  refine TF_gskip rfl rfl rfl rfl rfl ?_
                  refine TF_gskip rfl rfl rfl rfl rfl ?_
                  refine TF_gskip rfl rfl rfl rfl rfl ?_
                  refine TF_anchor rfl ?_
                  refine TL_gskip rfl rfl rfl rfl ?_
                  refine TF_end GivesTo.g ?_
                  refine TF_anchor rfl ?_
                  refine TL_gskip rfl rfl rfl rfl ?_
                  refine TF_end GivesTo.g ?_
                  refine TF_anchor rfl ?_
                  refine TL_gskip rfl rfl rfl rfl ?_
                  refine TF_end GivesTo.g ?_
                  refine TF_gskip rfl rfl rfl rfl rfl ?_
                  refine TF_y rfl rfl (Y_pick_f rfl rfl) ?_
                  refine TF_nil ?_
                  refine thenS_normal ?_
                  refine T_cond_false rfl ?_
                  refine T_skip ?_
                  refine inB_normal ?_
                  refine thenS_normal ?_
                  refine T_region_last ?_
                  refine TL_y rfl rfl (Y_move rfl) ?_
                  refine TL_y rfl rfl (Y_add rfl rfl (by omega)) ?_
                  refine TL_name 166 (v' := .int .i64 ((n + 1 : Nat) : Int)) rfl (rfl) ?_
                  refine TL_y rfl rfl (Y_assign rfl) ?_
                  refine TL_nil ?_
                  refine thenS_normal ?_
                  exact ⟨n + 1, (by omega), by omega, holds_to (sub_cons rfl (sub_cons rfl (sub_cons rfl (sub_cons rfl (sub_cons rfl (sub_cons rfl (sub_cons rfl (sub_cons rfl (sub_cons rfl (sub_cons rfl (sub_cons rfl (sub_nil)))))))))))) GivesTo.g⟩
              · refine TF_gskip rfl rfl rfl rfl rfl ?_
                refine TF_gskip rfl rfl rfl rfl rfl ?_
                refine TF_gskip rfl rfl rfl rfl rfl ?_
                refine TF_gskip rfl rfl rfl rfl rfl ?_
                refine TF_gskip rfl rfl rfl rfl rfl ?_
                refine TF_gskip rfl rfl rfl rfl rfl ?_
                refine TF_y rfl rfl (Y_pick_f rfl rfl) ?_
                refine TF_y rfl rfl (Y_move rfl) ?_
                refine TF_gskip rfl rfl rfl rfl rfl ?_
                refine TF_gskip rfl rfl rfl rfl rfl ?_
                refine TF_gskip rfl rfl rfl rfl rfl ?_
                refine TF_gskip rfl rfl rfl rfl rfl ?_
                refine TF_gskip rfl rfl rfl rfl rfl ?_
                refine TF_gskip rfl rfl rfl rfl rfl ?_
                refine TF_gskip rfl rfl rfl rfl rfl ?_
                refine TF_gskip rfl rfl rfl rfl rfl ?_
                refine TF_gskip rfl rfl rfl rfl rfl ?_
                refine TF_gskip rfl rfl rfl rfl rfl ?_
                refine TF_gskip rfl rfl rfl rfl rfl ?_
                refine TF_y rfl rfl (Y_pick_f rfl rfl) ?_
                refine TF_y rfl rfl (Y_move rfl) ?_
                refine TF_gskip rfl rfl rfl rfl rfl ?_
                refine TF_gskip rfl rfl rfl rfl rfl ?_
                refine TF_gskip rfl rfl rfl rfl rfl ?_
                refine TF_gskip rfl rfl rfl rfl rfl ?_
                refine TF_gskip rfl rfl rfl rfl rfl ?_
                refine TF_gskip rfl rfl rfl rfl rfl ?_
                refine TF_gskip rfl rfl rfl rfl rfl ?_
                refine TF_gskip rfl rfl rfl rfl rfl ?_
                refine TF_gskip rfl rfl rfl rfl rfl ?_
                refine TF_gskip rfl rfl rfl rfl rfl ?_
                refine TF_gskip rfl rfl rfl rfl rfl ?_
                refine TF_y rfl rfl (Y_pick_f rfl rfl) ?_
                refine TF_y rfl rfl (Y_move rfl) ?_
                refine TF_gskip rfl rfl rfl rfl rfl ?_
                refine TF_gskip rfl rfl rfl rfl rfl ?_
                refine TF_gskip rfl rfl rfl rfl rfl ?_
                refine TF_gskip rfl rfl rfl rfl rfl ?_
                refine TF_gskip rfl rfl rfl rfl rfl ?_
                refine TF_gskip rfl rfl rfl rfl rfl ?_
                refine TF_gskip rfl rfl rfl rfl rfl ?_
                refine TF_gskip rfl rfl rfl rfl rfl ?_
                refine TF_anchor rfl ?_
                refine TL_gskip rfl rfl rfl rfl ?_
                refine TF_end GivesTo.g ?_
                refine TF_anchor rfl ?_
                refine TL_gskip rfl rfl rfl rfl ?_
                refine TF_end GivesTo.g ?_
                refine TF_anchor rfl ?_
                refine TL_gskip rfl rfl rfl rfl ?_
                refine TF_end GivesTo.g ?_
                refine TF_gskip rfl rfl rfl rfl rfl ?_
                refine TF_y rfl rfl (Y_pick_f rfl rfl) ?_
                refine TF_nil ?_
                refine thenS_normal ?_
                refine T_cond_false rfl ?_
                refine T_skip ?_
                refine inB_normal ?_
                refine thenS_normal ?_
                refine T_region_last ?_
                refine TL_y rfl rfl (Y_move rfl) ?_
                refine TL_y rfl rfl (Y_add rfl rfl (by omega)) ?_
                refine TL_name 166 (v' := .int .i64 ((n + 1 : Nat) : Int)) rfl (rfl) ?_
                refine TL_y rfl rfl (Y_assign rfl) ?_
                refine TL_nil ?_
                refine thenS_normal ?_
                exact ⟨n + 1, (by omega), by omega, holds_to (sub_cons rfl (sub_cons rfl (sub_cons rfl (sub_cons rfl (sub_cons rfl (sub_cons rfl (sub_cons rfl (sub_cons rfl (sub_cons rfl (sub_cons rfl (sub_cons rfl (sub_nil)))))))))))) GivesTo.g⟩
            · refine RD_leaf (osl msgR 44 (some ⟨bm, om, none⟩) co out :: osl msgR 44 (some ⟨bu, ou, none⟩) c said :: []) [0, 0, 3, 7, 15, 31, 63, 127, 127, 511, 1023, 2047, 4095, 8191, 16383, 32767, 32767, 131071, 262143, 524287, 32767, 32767, 3178495, 7372799, 15761407, 33554431, 67108863, 134217727, 268435455, 268435455, 1073741823, 2147483647, 4294967295, 268435455, 268435455, 26038239231, 60397977599, 129117454335, 274877906943, 549755813887, 1099511627775, 2199023255551, 2199023255551, 8796093022207, 17592186044415, 2216615441596415, 2199023255551, 2199023255551, 213305255788543, 494780232499199, 1057730185920511, 2251799813685247, 4503599627370495, 9007199254740991] [] [(0, true), (1, true), (2, true), (3, true), (4, true), (5, true), (6, true), (7, true), (8, true), (9, true), (10, true), (11, true), (12, true), (13, true), (14, true), (15, true), (16, true), (17, true), (18, true), (19, true), (20, true), (21, true), (22, true), (23, true), (24, true), (25, true), (26, true), (27, true), (28, true), (29, true), (30, true), (31, true), (32, true), (33, true), (34, true), (35, true), (36, true), (37, true), (38, true), (39, true), (40, true), (41, true), (42, true), (43, true), (44, true), (46, true), (47, true), (48, true), (49, true), (50, false), (45, false), (51, false), (52, true), (53, true)] (by decide +kernel) GivesTo.g ?_
              refine TF_y rfl rfl (Y_move rfl) ?_
              refine TF_y rfl rfl (Y_move rfl) ?_
              refine TF_y rfl rfl (Y_index_n (R := msgR) (xs := said) rfl rfl rfl hu) ?_
              refine TF_y rfl rfl (Y_field_addr2 rfl) ?_
              refine TF_y rfl rfl (Y_load_nx (xs := said) (u := u) (v := .int .i64 u.kind) rfl (sln (c := c)) hu (fun _ ↦ rfl)) ?_
              refine TF_y rfl rfl (Y_eq rfl rfl) ?_
              refine TF_y rfl rfl (Y_move rfl) ?_
              refine TF_splitd 173 rfl (fun h173 => ?_) (fun h173 => ?_)
              · refine TF_gy rfl rfl rfl rfl (Y_move rfl) ?_
                refine TF_gy rfl rfl rfl rfl (Y_move rfl) ?_
                refine TF_gy rfl rfl rfl rfl (Y_index_n (R := msgR) (xs := out) rfl rfl rfl hm) ?_
                refine TF_gy rfl rfl rfl rfl (Y_field_addr2 rfl) ?_
                refine TF_gy rfl rfl rfl rfl (Y_load_nx (xs := out) (u := m) (v := .int .i64 m.kind) rfl (sln (c := co)) hm (fun _ ↦ rfl)) ?_
                refine TF_gy rfl rfl rfl rfl (Y_eq rfl rfl) ?_
                refine TF_y rfl rfl (Y_pick_t rfl rfl) ?_
                refine TF_y rfl rfl (Y_move rfl) ?_
                refine TF_splitd 181 rfl (fun h181 => ?_) (fun h181 => ?_)
                · refine TF_gy rfl rfl rfl rfl (Y_move rfl) ?_
                  refine TF_gy rfl rfl rfl rfl (Y_move rfl) ?_
                  refine TF_gy rfl rfl rfl rfl (Y_index_n (R := msgR) (xs := said) rfl rfl rfl hu) ?_
                  refine TF_gy rfl rfl rfl rfl (Y_field_addr2 rfl) ?_
                  refine TF_gy rfl rfl rfl rfl (Y_load_nxa (xs := said) (u := u) (vs := [.int .i64 u.bal.1, .int .i64 u.bal.2]) rfl (sln (c := c)) hu (fun _ ↦ rfl)) ?_
                  refine TF_gy rfl rfl rfl rfl (Y_move rfl) ?_
                  refine TF_gy rfl rfl rfl rfl (Y_move rfl) ?_
                  refine TF_gy rfl rfl rfl rfl (Y_index_n (R := msgR) (xs := out) rfl rfl rfl hm) ?_
                  refine TF_gy rfl rfl rfl rfl (Y_field_addr2 rfl) ?_
                  refine TF_gy rfl rfl rfl rfl (Y_load_nxa (xs := out) (u := m) (vs := [.int .i64 m.bal.1, .int .i64 m.bal.2]) rfl (sln (c := co)) hm (fun _ ↦ rfl)) ?_
                  refine TF_gy rfl rfl rfl rfl (Y_eq_bal (a := u.bal) (b := m.bal) rfl rfl) ?_
                  refine TF_y rfl rfl (Y_pick_t rfl rfl) ?_
                  refine TF_y rfl rfl (Y_move rfl) ?_
                  refine TF_splitd 194 rfl (fun h194 => ?_) (fun h194 => ?_)
                  · refine TF_gy rfl rfl rfl rfl (Y_move rfl) ?_
                    refine TF_gy rfl rfl rfl rfl (Y_move rfl) ?_
                    refine TF_gy rfl rfl rfl rfl (Y_index_n (R := msgR) (xs := said) rfl rfl rfl hu) ?_
                    refine TF_gy rfl rfl rfl rfl (Y_field_addr2 rfl) ?_
                    refine TF_gy rfl rfl rfl rfl (Y_load_nx (xs := said) (u := u) (v := .int .i64 u.slot) rfl (sln (c := c)) hu (fun _ ↦ rfl)) ?_
                    refine TF_gy rfl rfl rfl rfl (Y_move rfl) ?_
                    refine TF_gy rfl rfl rfl rfl (Y_move rfl) ?_
                    refine TF_gy rfl rfl rfl rfl (Y_index_n (R := msgR) (xs := out) rfl rfl rfl hm) ?_
                    refine TF_gy rfl rfl rfl rfl (Y_field_addr2 rfl) ?_
                    refine TF_gy rfl rfl rfl rfl (Y_load_nx (xs := out) (u := m) (v := .int .i64 m.slot) rfl (sln (c := co)) hm (fun _ ↦ rfl)) ?_
                    refine TF_gy rfl rfl rfl rfl (Y_eq rfl rfl) ?_
                    refine TF_y rfl rfl (Y_pick_t rfl rfl) ?_
                    refine TF_y rfl rfl (Y_move rfl) ?_
                    refine TF_splitd 207 rfl (fun h207 => ?_) (fun h207 => ?_)
                    · refine TF_gy rfl rfl rfl rfl (Y_move rfl) ?_
                      refine TF_gy rfl rfl rfl rfl (Y_move rfl) ?_
                      refine TF_gy rfl rfl rfl rfl (Y_index_n (R := msgR) (xs := said) rfl rfl rfl hu) ?_
                      refine TF_gy rfl rfl rfl rfl (Y_field_addr2 rfl) ?_
                      refine TF_gy rfl rfl rfl rfl (Y_move rfl) ?_
                      refine TF_gy rfl rfl rfl rfl (Y_move rfl) ?_
                      refine TF_gy rfl rfl rfl rfl (Y_index_n (R := msgR) (xs := out) rfl rfl rfl hm) ?_
                      refine TF_gy rfl rfl rfl rfl (Y_field_addr2 rfl) ?_
                      refine TF_anchor rfl ?_
                      refine TL_grun rfl rfl ?_
                      refine TL_load_nx (xs := out) rfl rfl (sln (c := co)) hm (fun _ => rfl) ?_
                      intro p217 ok217
                      simp only [List.cons_append, List.nil_append]
                      refine TF_end GivesTo.g ?_
                      refine TF_anchor rfl ?_
                      refine TL_grun rfl rfl ?_
                      refine TL_load_nx (xs := said) rfl rfl (sln (c := c)) hu (fun _ => rfl) ?_
                      intro p212 ok212
                      simp only [List.cons_append, List.nil_append]
                      refine TF_end GivesTo.g ?_
                      refine TF_anchor rfl ?_
                      refine TL_grun rfl rfl ?_
                      refine TL_call rfl rfl (sameEntry_spec u.en m.en (A := p212.cut.1) (c := p212.cut.2) (B := p217.cut.1) (d := p217.cut.2) sln sln) ?_
                      rintro _ _ ⟨rfl, rfl⟩
                      refine TL_name 218 (v' := .bool true) rfl (congrArg Value.bool (decide_eq_true (hO2.u m.bal m.slot _ _ ⟨u, List.mem_append_left _ hum, h173, h194, h207, rfl⟩ ⟨m, List.mem_append_right _ hmm, h181, rfl, rfl, rfl⟩))) ?_
                      refine TF_end GivesTo.g ?_
                      refine TF_gy rfl rfl rfl rfl (Y_not_t rfl) ?_
                      refine TF_y rfl rfl (Y_pick_t rfl rfl) ?_
                      refine TF_nil ?_
                      refine thenS_normal ?_
                      refine T_cond_false rfl ?_
                      refine T_skip ?_
                      refine inB_normal ?_
                      refine thenS_normal ?_
                      refine T_region_last ?_
                      refine TL_y rfl rfl (Y_move rfl) ?_
                      refine TL_y rfl rfl (Y_add rfl rfl (by omega)) ?_
                      refine TL_name 166 (v' := .int .i64 ((n + 1 : Nat) : Int)) rfl (rfl) ?_
                      refine TL_y rfl rfl (Y_assign rfl) ?_
                      refine TL_nil ?_
                      refine thenS_normal ?_
                      exact ⟨n + 1, (by omega), by omega, holds_to (sub_cons rfl (sub_cons rfl (sub_cons rfl (sub_cons rfl (sub_cons rfl (sub_cons rfl (sub_cons rfl (sub_cons rfl (sub_cons rfl (sub_cons rfl (sub_cons rfl (sub_nil)))))))))))) GivesTo.g⟩
                    · refine TF_gskip rfl rfl rfl rfl rfl ?_
                      refine TF_gskip rfl rfl rfl rfl rfl ?_
                      refine TF_gskip rfl rfl rfl rfl rfl ?_
                      refine TF_gskip rfl rfl rfl rfl rfl ?_
                      refine TF_gskip rfl rfl rfl rfl rfl ?_
                      refine TF_gskip rfl rfl rfl rfl rfl ?_
                      refine TF_gskip rfl rfl rfl rfl rfl ?_
                      refine TF_gskip rfl rfl rfl rfl rfl ?_
                      refine TF_anchor rfl ?_
                      refine TL_gskip rfl rfl rfl rfl ?_
                      refine TF_end GivesTo.g ?_
                      refine TF_anchor rfl ?_
                      refine TL_gskip rfl rfl rfl rfl ?_
                      refine TF_end GivesTo.g ?_
                      refine TF_anchor rfl ?_
                      refine TL_gskip rfl rfl rfl rfl ?_
                      refine TF_end GivesTo.g ?_
                      refine TF_gskip rfl rfl rfl rfl rfl ?_
                      refine TF_y rfl rfl (Y_pick_f rfl rfl) ?_
                      refine TF_nil ?_
                      refine thenS_normal ?_
                      refine T_cond_false rfl ?_
                      refine T_skip ?_
                      refine inB_normal ?_
                      refine thenS_normal ?_
                      refine T_region_last ?_
                      refine TL_y rfl rfl (Y_move rfl) ?_
                      refine TL_y rfl rfl (Y_add rfl rfl (by omega)) ?_
                      refine TL_name 166 (v' := .int .i64 ((n + 1 : Nat) : Int)) rfl (rfl) ?_
                      refine TL_y rfl rfl (Y_assign rfl) ?_
                      refine TL_nil ?_
                      refine thenS_normal ?_
                      exact ⟨n + 1, (by omega), by omega, holds_to (sub_cons rfl (sub_cons rfl (sub_cons rfl (sub_cons rfl (sub_cons rfl (sub_cons rfl (sub_cons rfl (sub_cons rfl (sub_cons rfl (sub_cons rfl (sub_cons rfl (sub_nil)))))))))))) GivesTo.g⟩
                  · refine TF_gskip rfl rfl rfl rfl rfl ?_
                    refine TF_gskip rfl rfl rfl rfl rfl ?_
                    refine TF_gskip rfl rfl rfl rfl rfl ?_
                    refine TF_gskip rfl rfl rfl rfl rfl ?_
                    refine TF_gskip rfl rfl rfl rfl rfl ?_
                    refine TF_gskip rfl rfl rfl rfl rfl ?_
                    refine TF_gskip rfl rfl rfl rfl rfl ?_
                    refine TF_gskip rfl rfl rfl rfl rfl ?_
                    refine TF_gskip rfl rfl rfl rfl rfl ?_
                    refine TF_gskip rfl rfl rfl rfl rfl ?_
                    refine TF_gskip rfl rfl rfl rfl rfl ?_
                    refine TF_y rfl rfl (Y_pick_f rfl rfl) ?_
                    refine TF_y rfl rfl (Y_move rfl) ?_
                    refine TF_gskip rfl rfl rfl rfl rfl ?_
                    refine TF_gskip rfl rfl rfl rfl rfl ?_
                    refine TF_gskip rfl rfl rfl rfl rfl ?_
                    refine TF_gskip rfl rfl rfl rfl rfl ?_
                    refine TF_gskip rfl rfl rfl rfl rfl ?_
                    refine TF_gskip rfl rfl rfl rfl rfl ?_
                    refine TF_gskip rfl rfl rfl rfl rfl ?_
                    refine TF_gskip rfl rfl rfl rfl rfl ?_
                    refine TF_anchor rfl ?_
                    refine TL_gskip rfl rfl rfl rfl ?_
                    refine TF_end GivesTo.g ?_
                    refine TF_anchor rfl ?_
                    refine TL_gskip rfl rfl rfl rfl ?_
                    refine TF_end GivesTo.g ?_
                    refine TF_anchor rfl ?_
                    refine TL_gskip rfl rfl rfl rfl ?_
                    refine TF_end GivesTo.g ?_
                    refine TF_gskip rfl rfl rfl rfl rfl ?_
                    refine TF_y rfl rfl (Y_pick_f rfl rfl) ?_
                    refine TF_nil ?_
                    refine thenS_normal ?_
                    refine T_cond_false rfl ?_
                    refine T_skip ?_
                    refine inB_normal ?_
                    refine thenS_normal ?_
                    refine T_region_last ?_
                    refine TL_y rfl rfl (Y_move rfl) ?_
                    refine TL_y rfl rfl (Y_add rfl rfl (by omega)) ?_
                    refine TL_name 166 (v' := .int .i64 ((n + 1 : Nat) : Int)) rfl (rfl) ?_
                    refine TL_y rfl rfl (Y_assign rfl) ?_
                    refine TL_nil ?_
                    refine thenS_normal ?_
                    exact ⟨n + 1, (by omega), by omega, holds_to (sub_cons rfl (sub_cons rfl (sub_cons rfl (sub_cons rfl (sub_cons rfl (sub_cons rfl (sub_cons rfl (sub_cons rfl (sub_cons rfl (sub_cons rfl (sub_cons rfl (sub_nil)))))))))))) GivesTo.g⟩
                · refine TF_gskip rfl rfl rfl rfl rfl ?_
                  refine TF_gskip rfl rfl rfl rfl rfl ?_
                  refine TF_gskip rfl rfl rfl rfl rfl ?_
                  refine TF_gskip rfl rfl rfl rfl rfl ?_
                  refine TF_gskip rfl rfl rfl rfl rfl ?_
                  refine TF_gskip rfl rfl rfl rfl rfl ?_
                  refine TF_gskip rfl rfl rfl rfl rfl ?_
                  refine TF_gskip rfl rfl rfl rfl rfl ?_
                  refine TF_gskip rfl rfl rfl rfl rfl ?_
                  refine TF_gskip rfl rfl rfl rfl rfl ?_
                  refine TF_gskip rfl rfl rfl rfl rfl ?_
                  refine TF_y rfl rfl (Y_pick_f rfl rfl) ?_
                  refine TF_y rfl rfl (Y_move rfl) ?_
                  refine TF_gskip rfl rfl rfl rfl rfl ?_
                  refine TF_gskip rfl rfl rfl rfl rfl ?_
                  refine TF_gskip rfl rfl rfl rfl rfl ?_
                  refine TF_gskip rfl rfl rfl rfl rfl ?_
                  refine TF_gskip rfl rfl rfl rfl rfl ?_
                  refine TF_gskip rfl rfl rfl rfl rfl ?_
                  refine TF_gskip rfl rfl rfl rfl rfl ?_
                  refine TF_gskip rfl rfl rfl rfl rfl ?_
                  refine TF_gskip rfl rfl rfl rfl rfl ?_
                  refine TF_gskip rfl rfl rfl rfl rfl ?_
                  refine TF_gskip rfl rfl rfl rfl rfl ?_
                  refine TF_y rfl rfl (Y_pick_f rfl rfl) ?_
                  refine TF_y rfl rfl (Y_move rfl) ?_
                  refine TF_gskip rfl rfl rfl rfl rfl ?_
                  refine TF_gskip rfl rfl rfl rfl rfl ?_
                  refine TF_gskip rfl rfl rfl rfl rfl ?_
                  refine TF_gskip rfl rfl rfl rfl rfl ?_
                  refine TF_gskip rfl rfl rfl rfl rfl ?_
                  refine TF_gskip rfl rfl rfl rfl rfl ?_
                  refine TF_gskip rfl rfl rfl rfl rfl ?_
                  refine TF_gskip rfl rfl rfl rfl rfl ?_
                  refine TF_anchor rfl ?_
                  refine TL_gskip rfl rfl rfl rfl ?_
                  refine TF_end GivesTo.g ?_
                  refine TF_anchor rfl ?_
                  refine TL_gskip rfl rfl rfl rfl ?_
                  refine TF_end GivesTo.g ?_
                  refine TF_anchor rfl ?_
                  refine TL_gskip rfl rfl rfl rfl ?_
                  refine TF_end GivesTo.g ?_
                  refine TF_gskip rfl rfl rfl rfl rfl ?_
                  refine TF_y rfl rfl (Y_pick_f rfl rfl) ?_
                  refine TF_nil ?_
                  refine thenS_normal ?_
                  refine T_cond_false rfl ?_
                  refine T_skip ?_
                  refine inB_normal ?_
                  refine thenS_normal ?_
                  refine T_region_last ?_
                  refine TL_y rfl rfl (Y_move rfl) ?_
                  refine TL_y rfl rfl (Y_add rfl rfl (by omega)) ?_
                  refine TL_name 166 (v' := .int .i64 ((n + 1 : Nat) : Int)) rfl (rfl) ?_
                  refine TL_y rfl rfl (Y_assign rfl) ?_
                  refine TL_nil ?_
                  refine thenS_normal ?_
                  exact ⟨n + 1, (by omega), by omega, holds_to (sub_cons rfl (sub_cons rfl (sub_cons rfl (sub_cons rfl (sub_cons rfl (sub_cons rfl (sub_cons rfl (sub_cons rfl (sub_cons rfl (sub_cons rfl (sub_cons rfl (sub_nil)))))))))))) GivesTo.g⟩
              · refine TF_gskip rfl rfl rfl rfl rfl ?_
                refine TF_gskip rfl rfl rfl rfl rfl ?_
                refine TF_gskip rfl rfl rfl rfl rfl ?_
                refine TF_gskip rfl rfl rfl rfl rfl ?_
                refine TF_gskip rfl rfl rfl rfl rfl ?_
                refine TF_gskip rfl rfl rfl rfl rfl ?_
                refine TF_y rfl rfl (Y_pick_f rfl rfl) ?_
                refine TF_y rfl rfl (Y_move rfl) ?_
                refine TF_gskip rfl rfl rfl rfl rfl ?_
                refine TF_gskip rfl rfl rfl rfl rfl ?_
                refine TF_gskip rfl rfl rfl rfl rfl ?_
                refine TF_gskip rfl rfl rfl rfl rfl ?_
                refine TF_gskip rfl rfl rfl rfl rfl ?_
                refine TF_gskip rfl rfl rfl rfl rfl ?_
                refine TF_gskip rfl rfl rfl rfl rfl ?_
                refine TF_gskip rfl rfl rfl rfl rfl ?_
                refine TF_gskip rfl rfl rfl rfl rfl ?_
                refine TF_gskip rfl rfl rfl rfl rfl ?_
                refine TF_gskip rfl rfl rfl rfl rfl ?_
                refine TF_y rfl rfl (Y_pick_f rfl rfl) ?_
                refine TF_y rfl rfl (Y_move rfl) ?_
                refine TF_gskip rfl rfl rfl rfl rfl ?_
                refine TF_gskip rfl rfl rfl rfl rfl ?_
                refine TF_gskip rfl rfl rfl rfl rfl ?_
                refine TF_gskip rfl rfl rfl rfl rfl ?_
                refine TF_gskip rfl rfl rfl rfl rfl ?_
                refine TF_gskip rfl rfl rfl rfl rfl ?_
                refine TF_gskip rfl rfl rfl rfl rfl ?_
                refine TF_gskip rfl rfl rfl rfl rfl ?_
                refine TF_gskip rfl rfl rfl rfl rfl ?_
                refine TF_gskip rfl rfl rfl rfl rfl ?_
                refine TF_gskip rfl rfl rfl rfl rfl ?_
                refine TF_y rfl rfl (Y_pick_f rfl rfl) ?_
                refine TF_y rfl rfl (Y_move rfl) ?_
                refine TF_gskip rfl rfl rfl rfl rfl ?_
                refine TF_gskip rfl rfl rfl rfl rfl ?_
                refine TF_gskip rfl rfl rfl rfl rfl ?_
                refine TF_gskip rfl rfl rfl rfl rfl ?_
                refine TF_gskip rfl rfl rfl rfl rfl ?_
                refine TF_gskip rfl rfl rfl rfl rfl ?_
                refine TF_gskip rfl rfl rfl rfl rfl ?_
                refine TF_gskip rfl rfl rfl rfl rfl ?_
                refine TF_anchor rfl ?_
                refine TL_gskip rfl rfl rfl rfl ?_
                refine TF_end GivesTo.g ?_
                refine TF_anchor rfl ?_
                refine TL_gskip rfl rfl rfl rfl ?_
                refine TF_end GivesTo.g ?_
                refine TF_anchor rfl ?_
                refine TL_gskip rfl rfl rfl rfl ?_
                refine TF_end GivesTo.g ?_
                refine TF_gskip rfl rfl rfl rfl rfl ?_
                refine TF_y rfl rfl (Y_pick_f rfl rfl) ?_
                refine TF_nil ?_
                refine thenS_normal ?_
                refine T_cond_false rfl ?_
                refine T_skip ?_
                refine inB_normal ?_
                refine thenS_normal ?_
                refine T_region_last ?_
                refine TL_y rfl rfl (Y_move rfl) ?_
                refine TL_y rfl rfl (Y_add rfl rfl (by omega)) ?_
                refine TL_name 166 (v' := .int .i64 ((n + 1 : Nat) : Int)) rfl (rfl) ?_
                refine TL_y rfl rfl (Y_assign rfl) ?_
                refine TL_nil ?_
                refine thenS_normal ?_
                exact ⟨n + 1, (by omega), by omega, holds_to (sub_cons rfl (sub_cons rfl (sub_cons rfl (sub_cons rfl (sub_cons rfl (sub_cons rfl (sub_cons rfl (sub_cons rfl (sub_cons rfl (sub_cons rfl (sub_cons rfl (sub_nil)))))))))))) GivesTo.g⟩
          · refine T_exit ?_
            refine thenS_exit ?_
            refine thenS_exit ?_
            refine inB_hit ?_
            refine inB_normal ?_
            refine thenS_normal ?_
            refine T_region_last ?_
            refine TL_y rfl rfl (Y_move rfl) ?_
            refine TL_y rfl rfl (Y_add rfl rfl (by omega)) ?_
            refine TL_name 127 (v' := .int .i64 ((k + 1 : Nat) : Int)) rfl (rfl) ?_
            refine TL_y rfl rfl (Y_assign rfl) ?_
            refine TL_nil ?_
            refine thenS_normal ?_
            exact ⟨k + 1, (by omega), by omega, holds_to (sub_cons rfl (sub_cons rfl (sub_cons rfl (sub_cons rfl (sub_cons rfl (sub_cons rfl (sub_cons rfl (sub_cons rfl (sub_cons rfl (sub_cons rfl (sub_nil))))))))))) GivesTo.g⟩
        · refine T_exit ?_
          refine thenS_exit ?_
          refine thenS_exit ?_
          refine inB_hit ?_
          refine thenS_normal ?_
          refine T_freezeO Ao co ?_
          refine T_region ?_
          refine TL_y rfl rfl (Y_move rfl) ?_
          refine TL_y rfl rfl (Y_move rfl) ?_
          refine TL_append rfl rfl rfl rfl rfl slk (by (try simp only [List.length_append, List.length_cons, List.length_nil]); omega) ?_
          intro A223 c223
          refine TL_y rfl rfl (Y_assign rfl) ?_
          refine TL_nil ?_
          refine T_region ?_
          refine TL_y rfl rfl (Y_assign rfl) ?_
          refine TL_nil ?_
          refine T_block ?_
          refine T_loopK (σ := Nat) [0, 1, 2, 7, 9, 10, 11, 13] (fun k => k ≤ ch.length) (fun k kv => (16, .int .i64 (k : Int)) :: kv) (fun k => osl msgR 44 A223 c223 (said ++ out) :: osl votedR 50 B d ch :: pr b22 p2 :: cells b10 (balC last2) 40 :: sl opR (some ⟨bq, oq, none⟩) c0 l :: L) (fun k => ch.length - k) (0) rfl (Nat.zero_le _) (GivesTo.g) (sub_cons rfl (sub_cons rfl (sub_cons rfl (sub_cons rfl (sub_cons rfl (sub_cons rfl (sub_cons rfl (sub_cons rfl (sub_cons rfl (sub_nil)))))))))) ?_
          intro k hko
          refine T_seq ?_
          refine T_region ?_
          refine TL_y rfl rfl (Y_move rfl) ?_
          refine TL_y rfl rfl (Y_move rfl) ?_
          refine TL_y rfl rfl (Y_len rfl) ?_
          refine TL_y rfl rfl (Y_lt rfl rfl) ?_
          refine TL_nil ?_
          refine T_if rfl (fun h227 => ?_) (fun h227 => ?_)
          · refine T_skip ?_
            refine thenS_normal ?_
            refine T_seq ?_
            refine T_block ?_
            obtain ⟨v, hv⟩ : ∃ v, ch[k]? = some v := ⟨_, List.getElem?_eq_getElem (by omega)⟩
            have hkn := hknown v (List.mem_of_getElem? hv)
            refine T_addr_n (sln (A := B) (c := d)) hv fun bv ov ev => ?_
            subst ev
            refine T_region ?_
            refine TL_y rfl rfl (Y_assign rfl) ?_
            refine TL_nil ?_
            refine T_seq ?_
            refine T_region ?_
            refine TL_y rfl rfl (Y_assign rfl) ?_
            refine TL_nil ?_
            refine T_block ?_
            refine T_loopK (σ := Nat) [0, 1, 2, 7, 9, 10, 11, 13, 16] (fun n => n ≤ (said ++ out).length) (fun n kv => (18, .int .i64 (n : Int)) :: (17, .bool (decide (SP ((said ++ out).take n) v.bal v.slot v.en))) :: kv) (fun n => osl msgR 44 A223 c223 (said ++ out) :: osl votedR 50 (some ⟨bv, ov, none⟩) d ch :: pr b22 p2 :: cells b10 (balC last2) 40 :: sl opR (some ⟨bq, oq, none⟩) c0 l :: L) (fun n => (said ++ out).length - n) (0) rfl (Nat.zero_le _) (GivesTo.g) (sub_cons rfl (sub_cons (congrArg (fun z ↦ some (Value.bool z)) (decide_eq_false (fun ⟨m, hm, _⟩ ↦ by simp at hm)).symm) (sub_cons rfl (sub_cons rfl (sub_cons rfl (sub_cons rfl (sub_cons rfl (sub_cons rfl (sub_cons rfl (sub_cons rfl (sub_cons rfl (sub_nil)))))))))))) ?_
            intro n hno
            have hlso : (said ++ out).length ≤ 70000 := (by rw [List.length_append]; omega)
            refine T_seq ?_
            refine T_region ?_
            refine TL_y rfl rfl (Y_move rfl) ?_
            refine TL_y rfl rfl (Y_move rfl) ?_
            refine TL_y rfl rfl (Y_len rfl) ?_
            refine TL_y rfl rfl (Y_lt rfl rfl) ?_
            refine TL_nil ?_
            refine T_if rfl (fun h233 => ?_) (fun h233 => ?_)
            · refine T_skip ?_
              refine thenS_normal ?_
              refine T_seq ?_
              refine T_block ?_
              obtain ⟨u, hu⟩ : ∃ u, (said ++ out)[n]? = some u := ⟨_, List.getElem?_eq_getElem (by omega)⟩
              have hsn := SP_snoc hu (b := v.bal) (s := v.slot) (e := v.en)
              refine T_addr_n (sln (A := A223) (c := c223)) hu fun bu ou eu => ?_
              subst eu
              refine T_rd_last [0, 1, 3, 3, 15, 31, 63, 127, 255, 511, 511, 2047, 4095, 8191, 511, 511, 49663, 115199, 246271, 524287, 1048575, 2097151, 4194303, 4194303, 16777215, 33554431, 67108863, 4194303, 4194303, 406847487, 943718399, 2017460223, 4294967295, 8589934591, 17179869183, 34359738367, 34359738367, 137438953471, 274877906943, 549755813887, 34359738367, 34359738367, 3332894621695, 7730941132799, 16527034155007, 35184372088831, 70368744177663, 140737488355327, 281474976710655] (by kernel_rfl) (by decide +kernel) ?_
              refine RD_pair 39 44 (by decide) ?_ ?_
              · refine RD_leaf (osl msgR 44 (some ⟨bu, ou, none⟩) c223 (said ++ out) :: osl votedR 50 (some ⟨bv, ov, none⟩) d ch :: []) [0, 1, 3, 3, 15, 31, 63, 127, 255, 511, 511, 2047, 4095, 8191, 511, 511, 49663, 115199, 246271, 524287, 1048575, 2097151, 4194303, 4194303, 16777215, 33554431, 67108863, 4194303, 4194303, 406847487, 943718399, 2017460223, 4294967295, 8589934591, 17179869183, 34359738367, 34359738367, 137438953471, 274877906943, 549755813887, 34359738367, 34359738367, 3332894621695, 7730941132799, 17592186044415, 35184372088831, 70368744177663, 140737488355327, 281474976710655] [] [(0, true), (1, true), (2, true), (3, true), (4, true), (5, true), (6, true), (7, true), (8, true), (9, true), (10, true), (11, true), (12, true), (13, true), (14, true), (15, true), (16, true), (17, true), (18, true), (19, true), (20, true), (21, true), (22, true), (23, true), (24, true), (25, true), (26, true), (27, true), (28, true), (29, true), (30, true), (31, true), (32, true), (33, true), (34, true), (35, true), (36, true), (37, true), (38, true), (40, true), (41, true), (42, true), (43, true), (39, false), (44, false), (45, false), (46, true), (47, true), (48, true)] (by decide +kernel) GivesTo.g ?_
                refine TF_y rfl rfl (Y_move rfl) ?_
                refine TF_y rfl rfl (Y_move rfl) ?_
                refine TF_splitd 237 rfl (fun h237 => ?_) (fun h237 => ?_)
                · refine TF_gskip rfl rfl rfl rfl rfl ?_
                  refine TF_gskip rfl rfl rfl rfl rfl ?_
                  refine TF_gskip rfl rfl rfl rfl rfl ?_
                  refine TF_gskip rfl rfl rfl rfl rfl ?_
                  refine TF_gskip rfl rfl rfl rfl rfl ?_
                  refine TF_gskip rfl rfl rfl rfl rfl ?_
                  refine TF_gskip rfl rfl rfl rfl rfl ?_
                  refine TF_gskip_u rfl rfl rfl rfl ?_
                  refine TF_gskip_u rfl rfl rfl rfl ?_
                  refine TF_gskip_u rfl rfl rfl rfl ?_
                  refine TF_gskip_u rfl rfl rfl rfl ?_
                  refine TF_gskip_u rfl rfl rfl rfl ?_
                  refine TF_gskip_u rfl rfl rfl rfl ?_
                  refine TF_gskip_u rfl rfl rfl rfl ?_
                  refine TF_gskip_u rfl rfl rfl rfl ?_
                  refine TF_gskip_u rfl rfl rfl rfl ?_
                  refine TF_gskip_u rfl rfl rfl rfl ?_
                  refine TF_gskip_u rfl rfl rfl rfl ?_
                  refine TF_gskip rfl rfl rfl rfl rfl ?_
                  refine TF_gskip rfl rfl rfl rfl rfl ?_
                  refine TF_gskip_u rfl rfl rfl rfl ?_
                  refine TF_gskip_u rfl rfl rfl rfl ?_
                  refine TF_gskip_u rfl rfl rfl rfl ?_
                  refine TF_gskip_u rfl rfl rfl rfl ?_
                  refine TF_gskip_u rfl rfl rfl rfl ?_
                  refine TF_gskip_u rfl rfl rfl rfl ?_
                  refine TF_gskip_u rfl rfl rfl rfl ?_
                  refine TF_gskip_u rfl rfl rfl rfl ?_
                  refine TF_gskip_u rfl rfl rfl rfl ?_
                  refine TF_gskip_u rfl rfl rfl rfl ?_
                  refine TF_gskip_u rfl rfl rfl rfl ?_
                  refine TF_gskip rfl rfl rfl rfl rfl ?_
                  refine TF_gskip rfl rfl rfl rfl rfl ?_
                  refine TF_gskip_u rfl rfl rfl rfl ?_
                  refine TF_gskip_u rfl rfl rfl rfl ?_
                  refine TF_gskip_u rfl rfl rfl rfl ?_
                  refine TF_gskip_u rfl rfl rfl rfl ?_
                  refine TF_gskip_u rfl rfl rfl rfl ?_
                  refine TF_gskip_u rfl rfl rfl rfl ?_
                  refine TF_gskip_u rfl rfl rfl rfl ?_
                  refine TF_gskip_u rfl rfl rfl rfl ?_
                  refine TF_anchor rfl ?_
                  refine TL_gskip_u rfl rfl rfl ?_
                  refine TF_end GivesTo.g ?_
                  refine TF_anchor rfl ?_
                  refine TL_gskip_u rfl rfl rfl ?_
                  refine TF_end GivesTo.g ?_
                  refine TF_anchor rfl ?_
                  refine TL_gskip_u rfl rfl rfl ?_
                  refine TF_end GivesTo.g ?_
                  refine TF_gskip rfl rfl rfl rfl rfl ?_
                  refine TF_y rfl rfl (Y_pick_t rfl rfl) ?_
                  refine TF_y rfl rfl (Y_assign rfl) ?_
                  refine TF_name 17 (v' := .bool (decide (SP ((said ++ out).take (n + 1)) v.bal v.slot v.en))) rfl (congrArg Value.bool (decide_eq_true (hsn.2 (.inl h237))).symm) ?_
                  refine TF_nil ?_
                  refine inB_normal ?_
                  refine thenS_normal ?_
                  refine T_region_last ?_
                  refine TL_y rfl rfl (Y_move rfl) ?_
                  refine TL_y rfl rfl (Y_add rfl rfl (by omega)) ?_
                  refine TL_name 235 (v' := .int .i64 ((n + 1 : Nat) : Int)) rfl (rfl) ?_
                  refine TL_y rfl rfl (Y_assign rfl) ?_
                  refine TL_nil ?_
                  refine thenS_normal ?_
                  exact ⟨n + 1, (by omega), by omega, holds_to (sub_cons rfl (sub_cons rfl (sub_cons rfl (sub_cons rfl (sub_cons rfl (sub_cons rfl (sub_cons rfl (sub_cons rfl (sub_cons rfl (sub_cons rfl (sub_cons rfl (sub_nil)))))))))))) GivesTo.g⟩
                · refine TF_gy rfl rfl rfl rfl (Y_move rfl) ?_
                  refine TF_gy rfl rfl rfl rfl (Y_move rfl) ?_
                  refine TF_gy rfl rfl rfl rfl (Y_index_n (R := msgR) (xs := said ++ out) rfl rfl rfl hu) ?_
                  refine TF_gy rfl rfl rfl rfl (Y_field_addr2 rfl) ?_
                  refine TF_gy rfl rfl rfl rfl (Y_load_nx (xs := said ++ out) (u := u) (v := .int .i64 u.kind) rfl (sln (c := c223)) hu (fun _ ↦ rfl)) ?_
                  refine TF_gy rfl rfl rfl rfl (Y_eq rfl rfl) ?_
                  refine TF_gy rfl rfl rfl rfl (Y_move rfl) ?_
                  refine TF_splitd 244 rfl (fun h244 => ?_) (fun h244 => ?_)
                  · refine TF_gy rfl rfl rfl rfl (Y_move rfl) ?_
                    refine TF_gy rfl rfl rfl rfl (Y_move rfl) ?_
                    refine TF_gy rfl rfl rfl rfl (Y_index_n (R := msgR) (xs := said ++ out) rfl rfl rfl hu) ?_
                    refine TF_gy rfl rfl rfl rfl (Y_field_addr2 rfl) ?_
                    refine TF_gy rfl rfl rfl rfl (Y_load_nxa (xs := said ++ out) (u := u) (vs := [.int .i64 u.bal.1, .int .i64 u.bal.2]) rfl (sln (c := c223)) hu (fun _ ↦ rfl)) ?_
                    refine TF_gy rfl rfl rfl rfl (Y_move rfl) ?_
                    refine TF_gy rfl rfl rfl rfl (Y_move rfl) ?_
                    refine TF_gy rfl rfl rfl rfl (Y_index_n (R := votedR) (xs := ch) rfl rfl rfl hv) ?_
                    refine TF_gy rfl rfl rfl rfl (Y_field_addr2 rfl) ?_
                    refine TF_gy rfl rfl rfl rfl (Y_load_nxa (xs := ch) (u := v) (vs := [.int .i64 v.bal.1, .int .i64 v.bal.2]) rfl (sln (c := d)) hv (fun _ ↦ rfl)) ?_
                    refine TF_gy rfl rfl rfl rfl (Y_eq_bal (a := u.bal) (b := v.bal) rfl rfl) ?_
                    refine TF_gy rfl rfl rfl rfl (Y_pick_t rfl rfl) ?_
                    refine TF_gy rfl rfl rfl rfl (Y_move rfl) ?_
                    refine TF_splitd 257 rfl (fun h257 => ?_) (fun h257 => ?_)
                    · refine TF_gy rfl rfl rfl rfl (Y_move rfl) ?_
                      refine TF_gy rfl rfl rfl rfl (Y_move rfl) ?_
                      refine TF_gy rfl rfl rfl rfl (Y_index_n (R := msgR) (xs := said ++ out) rfl rfl rfl hu) ?_
                      refine TF_gy rfl rfl rfl rfl (Y_field_addr2 rfl) ?_
                      refine TF_gy rfl rfl rfl rfl (Y_load_nx (xs := said ++ out) (u := u) (v := .int .i64 u.slot) rfl (sln (c := c223)) hu (fun _ ↦ rfl)) ?_
                      refine TF_gy rfl rfl rfl rfl (Y_move rfl) ?_
                      refine TF_gy rfl rfl rfl rfl (Y_move rfl) ?_
                      refine TF_gy rfl rfl rfl rfl (Y_index_n (R := votedR) (xs := ch) rfl rfl rfl hv) ?_
                      refine TF_gy rfl rfl rfl rfl (Y_field_addr2 rfl) ?_
                      refine TF_gy rfl rfl rfl rfl (Y_load_nx (xs := ch) (u := v) (v := .int .i64 v.slot) rfl (sln (c := d)) hv (fun _ ↦ rfl)) ?_
                      refine TF_gy rfl rfl rfl rfl (Y_eq rfl rfl) ?_
                      refine TF_gy rfl rfl rfl rfl (Y_pick_t rfl rfl) ?_
                      refine TF_gy rfl rfl rfl rfl (Y_move rfl) ?_
                      refine TF_splitd 270 rfl (fun h270 => ?_) (fun h270 => ?_)
                      · refine TF_gy rfl rfl rfl rfl (Y_move rfl) ?_
                        refine TF_gy rfl rfl rfl rfl (Y_move rfl) ?_
                        refine TF_gy rfl rfl rfl rfl (Y_index_n (R := msgR) (xs := said ++ out) rfl rfl rfl hu) ?_
                        refine TF_gy rfl rfl rfl rfl (Y_field_addr2 rfl) ?_
                        refine TF_gy rfl rfl rfl rfl (Y_move rfl) ?_
                        refine TF_gy rfl rfl rfl rfl (Y_move rfl) ?_
                        refine TF_gy rfl rfl rfl rfl (Y_index_n (R := votedR) (xs := ch) rfl rfl rfl hv) ?_
                        refine TF_gy rfl rfl rfl rfl (Y_field_addr2 rfl) ?_
                        refine TF_anchor rfl ?_
                        refine TL_grun rfl rfl ?_
                        refine TL_load_nx (xs := said ++ out) rfl rfl (sln (c := c223)) hu (fun _ => rfl) ?_
                        intro p275 ok275
                        simp only [List.cons_append, List.nil_append]
                        refine TF_end GivesTo.g ?_
                        refine TF_anchor rfl ?_
                        refine TL_grun rfl rfl ?_
                        refine TL_load_nx (xs := ch) rfl rfl (sln (c := d)) hv (fun _ => rfl) ?_
                        intro p280 ok280
                        simp only [List.cons_append, List.nil_append]
                        refine TF_end GivesTo.g ?_
                        refine TF_anchor rfl ?_
                        refine TL_grun rfl rfl ?_
                        refine TL_call rfl rfl (sameEntry_spec u.en v.en (A := p275.cut.1) (c := p275.cut.2) (B := p280.1) (d := p280.2) sln sln) ?_
                        rintro _ _ ⟨rfl, rfl⟩
                        refine TF_end GivesTo.g ?_
                        refine TF_gy rfl rfl rfl rfl (Y_pick_t rfl rfl) ?_
                        refine TF_y rfl rfl (Y_pick_f rfl rfl) ?_
                        refine TF_y rfl rfl (Y_assign rfl) ?_
                        refine TF_name 17 (v' := .bool (decide (SP ((said ++ out).take (n + 1)) v.bal v.slot v.en))) rfl (congrArg Value.bool (decide_eq_decide.2 ⟨fun e => hsn.2 (.inr ⟨h244, h257, h270, e⟩), fun h => (hsn.1 h).elim (fun k => absurd k h237) (fun k => k.2.2.2)⟩)) ?_
                        refine TF_nil ?_
                        refine inB_normal ?_
                        refine thenS_normal ?_
                        refine T_region_last ?_
                        refine TL_y rfl rfl (Y_move rfl) ?_
                        refine TL_y rfl rfl (Y_add rfl rfl (by omega)) ?_
                        refine TL_name 235 (v' := .int .i64 ((n + 1 : Nat) : Int)) rfl (rfl) ?_
                        refine TL_y rfl rfl (Y_assign rfl) ?_
                        refine TL_nil ?_
                        refine thenS_normal ?_
                        exact ⟨n + 1, (by omega), by omega, holds_to (sub_cons rfl (sub_cons rfl (sub_cons rfl (sub_cons rfl (sub_cons rfl (sub_cons rfl (sub_cons rfl (sub_cons rfl (sub_cons rfl (sub_cons rfl (sub_cons rfl (sub_nil)))))))))))) GivesTo.g⟩
                      · refine TF_gskip rfl rfl rfl rfl rfl ?_
                        refine TF_gskip rfl rfl rfl rfl rfl ?_
                        refine TF_gskip rfl rfl rfl rfl rfl ?_
                        refine TF_gskip rfl rfl rfl rfl rfl ?_
                        refine TF_gskip rfl rfl rfl rfl rfl ?_
                        refine TF_gskip rfl rfl rfl rfl rfl ?_
                        refine TF_gskip rfl rfl rfl rfl rfl ?_
                        refine TF_gskip rfl rfl rfl rfl rfl ?_
                        refine TF_anchor rfl ?_
                        refine TL_gskip rfl rfl rfl rfl ?_
                        refine TF_end GivesTo.g ?_
                        refine TF_anchor rfl ?_
                        refine TL_gskip rfl rfl rfl rfl ?_
                        refine TF_end GivesTo.g ?_
                        refine TF_anchor rfl ?_
                        refine TL_gskip rfl rfl rfl rfl ?_
                        refine TF_end GivesTo.g ?_
                        refine TF_gy rfl rfl rfl rfl (Y_pick_f rfl rfl) ?_
                        refine TF_y rfl rfl (Y_pick_f rfl rfl) ?_
                        refine TF_y rfl rfl (Y_assign rfl) ?_
                        refine TF_name 17 (v' := .bool (decide (SP ((said ++ out).take (n + 1)) v.bal v.slot v.en))) rfl (congrArg Value.bool (decide_eq_false (fun h => (hsn.1 h).elim h237 (fun h => h270 h.2.2.1))).symm) ?_
                        refine TF_nil ?_
                        refine inB_normal ?_
                        refine thenS_normal ?_
                        refine T_region_last ?_
                        refine TL_y rfl rfl (Y_move rfl) ?_
                        refine TL_y rfl rfl (Y_add rfl rfl (by omega)) ?_
                        refine TL_name 235 (v' := .int .i64 ((n + 1 : Nat) : Int)) rfl (rfl) ?_
                        refine TL_y rfl rfl (Y_assign rfl) ?_
                        refine TL_nil ?_
                        refine thenS_normal ?_
                        exact ⟨n + 1, (by omega), by omega, holds_to (sub_cons rfl (sub_cons rfl (sub_cons rfl (sub_cons rfl (sub_cons rfl (sub_cons rfl (sub_cons rfl (sub_cons rfl (sub_cons rfl (sub_cons rfl (sub_cons rfl (sub_nil)))))))))))) GivesTo.g⟩
                    · refine TF_gskip rfl rfl rfl rfl rfl ?_
                      refine TF_gskip rfl rfl rfl rfl rfl ?_
                      refine TF_gskip rfl rfl rfl rfl rfl ?_
                      refine TF_gskip rfl rfl rfl rfl rfl ?_
                      refine TF_gskip rfl rfl rfl rfl rfl ?_
                      refine TF_gskip rfl rfl rfl rfl rfl ?_
                      refine TF_gskip rfl rfl rfl rfl rfl ?_
                      refine TF_gskip rfl rfl rfl rfl rfl ?_
                      refine TF_gskip rfl rfl rfl rfl rfl ?_
                      refine TF_gskip rfl rfl rfl rfl rfl ?_
                      refine TF_gskip rfl rfl rfl rfl rfl ?_
                      refine TF_gy rfl rfl rfl rfl (Y_pick_f rfl rfl) ?_
                      refine TF_gy rfl rfl rfl rfl (Y_move rfl) ?_
                      refine TF_gskip rfl rfl rfl rfl rfl ?_
                      refine TF_gskip rfl rfl rfl rfl rfl ?_
                      refine TF_gskip rfl rfl rfl rfl rfl ?_
                      refine TF_gskip rfl rfl rfl rfl rfl ?_
                      refine TF_gskip rfl rfl rfl rfl rfl ?_
                      refine TF_gskip rfl rfl rfl rfl rfl ?_
                      refine TF_gskip rfl rfl rfl rfl rfl ?_
                      refine TF_gskip rfl rfl rfl rfl rfl ?_
                      refine TF_anchor rfl ?_
                      refine TL_gskip rfl rfl rfl rfl ?_
                      refine TF_end GivesTo.g ?_
                      refine TF_anchor rfl ?_
                      refine TL_gskip rfl rfl rfl rfl ?_
                      refine TF_end GivesTo.g ?_
                      refine TF_anchor rfl ?_
                      refine TL_gskip rfl rfl rfl rfl ?_
                      refine TF_end GivesTo.g ?_
                      refine TF_gy rfl rfl rfl rfl (Y_pick_f rfl rfl) ?_
                      refine TF_y rfl rfl (Y_pick_f rfl rfl) ?_
                      refine TF_y rfl rfl (Y_assign rfl) ?_
                      refine TF_name 17 (v' := .bool (decide (SP ((said ++ out).take (n + 1)) v.bal v.slot v.en))) rfl (congrArg Value.bool (decide_eq_false (fun h => (hsn.1 h).elim h237 (fun h => h257 h.2.1))).symm) ?_
                      refine TF_nil ?_
                      refine inB_normal ?_
                      refine thenS_normal ?_
                      refine T_region_last ?_
                      refine TL_y rfl rfl (Y_move rfl) ?_
                      refine TL_y rfl rfl (Y_add rfl rfl (by omega)) ?_
                      refine TL_name 235 (v' := .int .i64 ((n + 1 : Nat) : Int)) rfl (rfl) ?_
                      refine TL_y rfl rfl (Y_assign rfl) ?_
                      refine TL_nil ?_
                      refine thenS_normal ?_
                      exact ⟨n + 1, (by omega), by omega, holds_to (sub_cons rfl (sub_cons rfl (sub_cons rfl (sub_cons rfl (sub_cons rfl (sub_cons rfl (sub_cons rfl (sub_cons rfl (sub_cons rfl (sub_cons rfl (sub_cons rfl (sub_nil)))))))))))) GivesTo.g⟩
                  · refine TF_gskip rfl rfl rfl rfl rfl ?_
                    refine TF_gskip rfl rfl rfl rfl rfl ?_
                    refine TF_gskip rfl rfl rfl rfl rfl ?_
                    refine TF_gskip rfl rfl rfl rfl rfl ?_
                    refine TF_gskip rfl rfl rfl rfl rfl ?_
                    refine TF_gskip rfl rfl rfl rfl rfl ?_
                    refine TF_gskip rfl rfl rfl rfl rfl ?_
                    refine TF_gskip rfl rfl rfl rfl rfl ?_
                    refine TF_gskip rfl rfl rfl rfl rfl ?_
                    refine TF_gskip rfl rfl rfl rfl rfl ?_
                    refine TF_gskip rfl rfl rfl rfl rfl ?_
                    refine TF_gy rfl rfl rfl rfl (Y_pick_f rfl rfl) ?_
                    refine TF_gy rfl rfl rfl rfl (Y_move rfl) ?_
                    refine TF_gskip rfl rfl rfl rfl rfl ?_
                    refine TF_gskip rfl rfl rfl rfl rfl ?_
                    refine TF_gskip rfl rfl rfl rfl rfl ?_
                    refine TF_gskip rfl rfl rfl rfl rfl ?_
                    refine TF_gskip rfl rfl rfl rfl rfl ?_
                    refine TF_gskip rfl rfl rfl rfl rfl ?_
                    refine TF_gskip rfl rfl rfl rfl rfl ?_
                    refine TF_gskip rfl rfl rfl rfl rfl ?_
                    refine TF_gskip rfl rfl rfl rfl rfl ?_
                    refine TF_gskip rfl rfl rfl rfl rfl ?_
                    refine TF_gskip rfl rfl rfl rfl rfl ?_
                    refine TF_gy rfl rfl rfl rfl (Y_pick_f rfl rfl) ?_
                    refine TF_gy rfl rfl rfl rfl (Y_move rfl) ?_
                    refine TF_gskip rfl rfl rfl rfl rfl ?_
                    refine TF_gskip rfl rfl rfl rfl rfl ?_
                    refine TF_gskip rfl rfl rfl rfl rfl ?_
                    refine TF_gskip rfl rfl rfl rfl rfl ?_
                    refine TF_gskip rfl rfl rfl rfl rfl ?_
                    refine TF_gskip rfl rfl rfl rfl rfl ?_
                    refine TF_gskip rfl rfl rfl rfl rfl ?_
                    refine TF_gskip rfl rfl rfl rfl rfl ?_
                    refine TF_anchor rfl ?_
                    refine TL_gskip rfl rfl rfl rfl ?_
                    refine TF_end GivesTo.g ?_
                    refine TF_anchor rfl ?_
                    refine TL_gskip rfl rfl rfl rfl ?_
                    refine TF_end GivesTo.g ?_
                    refine TF_anchor rfl ?_
                    refine TL_gskip rfl rfl rfl rfl ?_
                    refine TF_end GivesTo.g ?_
                    refine TF_gy rfl rfl rfl rfl (Y_pick_f rfl rfl) ?_
                    refine TF_y rfl rfl (Y_pick_f rfl rfl) ?_
                    refine TF_y rfl rfl (Y_assign rfl) ?_
                    refine TF_name 17 (v' := .bool (decide (SP ((said ++ out).take (n + 1)) v.bal v.slot v.en))) rfl (congrArg Value.bool (decide_eq_false (fun h => (hsn.1 h).elim h237 (fun h => h244 h.1))).symm) ?_
                    refine TF_nil ?_
                    refine inB_normal ?_
                    refine thenS_normal ?_
                    refine T_region_last ?_
                    refine TL_y rfl rfl (Y_move rfl) ?_
                    refine TL_y rfl rfl (Y_add rfl rfl (by omega)) ?_
                    refine TL_name 235 (v' := .int .i64 ((n + 1 : Nat) : Int)) rfl (rfl) ?_
                    refine TL_y rfl rfl (Y_assign rfl) ?_
                    refine TL_nil ?_
                    refine thenS_normal ?_
                    exact ⟨n + 1, (by omega), by omega, holds_to (sub_cons rfl (sub_cons rfl (sub_cons rfl (sub_cons rfl (sub_cons rfl (sub_cons rfl (sub_cons rfl (sub_cons rfl (sub_cons rfl (sub_cons rfl (sub_cons rfl (sub_nil)))))))))))) GivesTo.g⟩
              · refine RD_leaf (osl msgR 44 (some ⟨bu, ou, none⟩) c223 (said ++ out) :: osl votedR 50 (some ⟨bv, ov, none⟩) d ch :: []) [0, 1, 3, 3, 15, 31, 63, 127, 255, 511, 511, 2047, 4095, 8191, 511, 511, 49663, 115199, 246271, 524287, 1048575, 2097151, 4194303, 4194303, 16777215, 33554431, 67108863, 4194303, 4194303, 406847487, 943718399, 2017460223, 4294967295, 8589934591, 17179869183, 34359738367, 34359738367, 137438953471, 274877906943, 34634616274943, 34359738367, 34359738367, 3332894621695, 7730941132799, 16527034155007, 35184372088831, 70368744177663, 140737488355327, 281474976710655] [] [(0, true), (1, true), (2, true), (3, true), (4, true), (5, true), (6, true), (7, true), (8, true), (9, true), (10, true), (11, true), (12, true), (13, true), (14, true), (15, true), (16, true), (17, true), (18, true), (19, true), (20, true), (21, true), (22, true), (23, true), (24, true), (25, true), (26, true), (27, true), (28, true), (29, true), (30, true), (31, true), (32, true), (33, true), (34, true), (35, true), (36, true), (37, true), (38, true), (40, true), (41, true), (42, true), (43, true), (44, false), (39, false), (45, false), (46, true), (47, true), (48, true)] (by decide +kernel) GivesTo.g ?_
                refine TF_y rfl rfl (Y_move rfl) ?_
                refine TF_y rfl rfl (Y_move rfl) ?_
                refine TF_splitd 237 rfl (fun h237 => ?_) (fun h237 => ?_)
                · refine TF_gskip rfl rfl rfl rfl rfl ?_
                  refine TF_gskip rfl rfl rfl rfl rfl ?_
                  refine TF_gskip rfl rfl rfl rfl rfl ?_
                  refine TF_gskip rfl rfl rfl rfl rfl ?_
                  refine TF_gskip rfl rfl rfl rfl rfl ?_
                  refine TF_gskip rfl rfl rfl rfl rfl ?_
                  refine TF_gskip rfl rfl rfl rfl rfl ?_
                  refine TF_gskip_u rfl rfl rfl rfl ?_
                  refine TF_gskip_u rfl rfl rfl rfl ?_
                  refine TF_gskip_u rfl rfl rfl rfl ?_
                  refine TF_gskip_u rfl rfl rfl rfl ?_
                  refine TF_gskip_u rfl rfl rfl rfl ?_
                  refine TF_gskip_u rfl rfl rfl rfl ?_
                  refine TF_gskip_u rfl rfl rfl rfl ?_
                  refine TF_gskip_u rfl rfl rfl rfl ?_
                  refine TF_gskip_u rfl rfl rfl rfl ?_
                  refine TF_gskip_u rfl rfl rfl rfl ?_
                  refine TF_gskip_u rfl rfl rfl rfl ?_
                  refine TF_gskip rfl rfl rfl rfl rfl ?_
                  refine TF_gskip rfl rfl rfl rfl rfl ?_
                  refine TF_gskip_u rfl rfl rfl rfl ?_
                  refine TF_gskip_u rfl rfl rfl rfl ?_
                  refine TF_gskip_u rfl rfl rfl rfl ?_
                  refine TF_gskip_u rfl rfl rfl rfl ?_
                  refine TF_gskip_u rfl rfl rfl rfl ?_
                  refine TF_gskip_u rfl rfl rfl rfl ?_
                  refine TF_gskip_u rfl rfl rfl rfl ?_
                  refine TF_gskip_u rfl rfl rfl rfl ?_
                  refine TF_gskip_u rfl rfl rfl rfl ?_
                  refine TF_gskip_u rfl rfl rfl rfl ?_
                  refine TF_gskip_u rfl rfl rfl rfl ?_
                  refine TF_gskip rfl rfl rfl rfl rfl ?_
                  refine TF_gskip rfl rfl rfl rfl rfl ?_
                  refine TF_gskip_u rfl rfl rfl rfl ?_
                  refine TF_gskip_u rfl rfl rfl rfl ?_
                  refine TF_gskip_u rfl rfl rfl rfl ?_
                  refine TF_gskip_u rfl rfl rfl rfl ?_
                  refine TF_gskip_u rfl rfl rfl rfl ?_
                  refine TF_gskip_u rfl rfl rfl rfl ?_
                  refine TF_gskip_u rfl rfl rfl rfl ?_
                  refine TF_gskip_u rfl rfl rfl rfl ?_
                  refine TF_anchor rfl ?_
                  refine TL_gskip_u rfl rfl rfl ?_
                  refine TF_end GivesTo.g ?_
                  refine TF_anchor rfl ?_
                  refine TL_gskip_u rfl rfl rfl ?_
                  refine TF_end GivesTo.g ?_
                  refine TF_anchor rfl ?_
                  refine TL_gskip_u rfl rfl rfl ?_
                  refine TF_end GivesTo.g ?_
                  refine TF_gskip rfl rfl rfl rfl rfl ?_
                  refine TF_y rfl rfl (Y_pick_t rfl rfl) ?_
                  refine TF_y rfl rfl (Y_assign rfl) ?_
                  refine TF_name 17 (v' := .bool (decide (SP ((said ++ out).take (n + 1)) v.bal v.slot v.en))) rfl (congrArg Value.bool (decide_eq_true (hsn.2 (.inl h237))).symm) ?_
                  refine TF_nil ?_
                  refine inB_normal ?_
                  refine thenS_normal ?_
                  refine T_region_last ?_
                  refine TL_y rfl rfl (Y_move rfl) ?_
                  refine TL_y rfl rfl (Y_add rfl rfl (by omega)) ?_
                  refine TL_name 235 (v' := .int .i64 ((n + 1 : Nat) : Int)) rfl (rfl) ?_
                  refine TL_y rfl rfl (Y_assign rfl) ?_
                  refine TL_nil ?_
                  refine thenS_normal ?_
                  exact ⟨n + 1, (by omega), by omega, holds_to (sub_cons rfl (sub_cons rfl (sub_cons rfl (sub_cons rfl (sub_cons rfl (sub_cons rfl (sub_cons rfl (sub_cons rfl (sub_cons rfl (sub_cons rfl (sub_cons rfl (sub_nil)))))))))))) GivesTo.g⟩
                · refine TF_gy rfl rfl rfl rfl (Y_move rfl) ?_
                  refine TF_gy rfl rfl rfl rfl (Y_move rfl) ?_
                  refine TF_gy rfl rfl rfl rfl (Y_index_n (R := msgR) (xs := said ++ out) rfl rfl rfl hu) ?_
                  refine TF_gy rfl rfl rfl rfl (Y_field_addr2 rfl) ?_
                  refine TF_gy rfl rfl rfl rfl (Y_load_nx (xs := said ++ out) (u := u) (v := .int .i64 u.kind) rfl (sln (c := c223)) hu (fun _ ↦ rfl)) ?_
                  refine TF_gy rfl rfl rfl rfl (Y_eq rfl rfl) ?_
                  refine TF_gy rfl rfl rfl rfl (Y_move rfl) ?_
                  refine TF_splitd 244 rfl (fun h244 => ?_) (fun h244 => ?_)
                  · refine TF_gy rfl rfl rfl rfl (Y_move rfl) ?_
                    refine TF_gy rfl rfl rfl rfl (Y_move rfl) ?_
                    refine TF_gy rfl rfl rfl rfl (Y_index_n (R := msgR) (xs := said ++ out) rfl rfl rfl hu) ?_
                    refine TF_gy rfl rfl rfl rfl (Y_field_addr2 rfl) ?_
                    refine TF_gy rfl rfl rfl rfl (Y_load_nxa (xs := said ++ out) (u := u) (vs := [.int .i64 u.bal.1, .int .i64 u.bal.2]) rfl (sln (c := c223)) hu (fun _ ↦ rfl)) ?_
                    refine TF_gy rfl rfl rfl rfl (Y_move rfl) ?_
                    refine TF_gy rfl rfl rfl rfl (Y_move rfl) ?_
                    refine TF_gy rfl rfl rfl rfl (Y_index_n (R := votedR) (xs := ch) rfl rfl rfl hv) ?_
                    refine TF_gy rfl rfl rfl rfl (Y_field_addr2 rfl) ?_
                    refine TF_gy rfl rfl rfl rfl (Y_load_nxa (xs := ch) (u := v) (vs := [.int .i64 v.bal.1, .int .i64 v.bal.2]) rfl (sln (c := d)) hv (fun _ ↦ rfl)) ?_
                    refine TF_gy rfl rfl rfl rfl (Y_eq_bal (a := u.bal) (b := v.bal) rfl rfl) ?_
                    refine TF_gy rfl rfl rfl rfl (Y_pick_t rfl rfl) ?_
                    refine TF_gy rfl rfl rfl rfl (Y_move rfl) ?_
                    refine TF_splitd 257 rfl (fun h257 => ?_) (fun h257 => ?_)
                    · refine TF_gy rfl rfl rfl rfl (Y_move rfl) ?_
                      refine TF_gy rfl rfl rfl rfl (Y_move rfl) ?_
                      refine TF_gy rfl rfl rfl rfl (Y_index_n (R := msgR) (xs := said ++ out) rfl rfl rfl hu) ?_
                      refine TF_gy rfl rfl rfl rfl (Y_field_addr2 rfl) ?_
                      refine TF_gy rfl rfl rfl rfl (Y_load_nx (xs := said ++ out) (u := u) (v := .int .i64 u.slot) rfl (sln (c := c223)) hu (fun _ ↦ rfl)) ?_
                      refine TF_gy rfl rfl rfl rfl (Y_move rfl) ?_
                      refine TF_gy rfl rfl rfl rfl (Y_move rfl) ?_
                      refine TF_gy rfl rfl rfl rfl (Y_index_n (R := votedR) (xs := ch) rfl rfl rfl hv) ?_
                      refine TF_gy rfl rfl rfl rfl (Y_field_addr2 rfl) ?_
                      refine TF_gy rfl rfl rfl rfl (Y_load_nx (xs := ch) (u := v) (v := .int .i64 v.slot) rfl (sln (c := d)) hv (fun _ ↦ rfl)) ?_
                      refine TF_gy rfl rfl rfl rfl (Y_eq rfl rfl) ?_
                      refine TF_gy rfl rfl rfl rfl (Y_pick_t rfl rfl) ?_
                      refine TF_gy rfl rfl rfl rfl (Y_move rfl) ?_
                      refine TF_splitd 270 rfl (fun h270 => ?_) (fun h270 => ?_)
                      · refine TF_gy rfl rfl rfl rfl (Y_move rfl) ?_
                        refine TF_gy rfl rfl rfl rfl (Y_move rfl) ?_
                        refine TF_gy rfl rfl rfl rfl (Y_index_n (R := msgR) (xs := said ++ out) rfl rfl rfl hu) ?_
                        refine TF_gy rfl rfl rfl rfl (Y_field_addr2 rfl) ?_
                        refine TF_gy rfl rfl rfl rfl (Y_move rfl) ?_
                        refine TF_gy rfl rfl rfl rfl (Y_move rfl) ?_
                        refine TF_gy rfl rfl rfl rfl (Y_index_n (R := votedR) (xs := ch) rfl rfl rfl hv) ?_
                        refine TF_gy rfl rfl rfl rfl (Y_field_addr2 rfl) ?_
                        refine TF_anchor rfl ?_
                        refine TL_grun rfl rfl ?_
                        refine TL_load_nx (xs := ch) rfl rfl (sln (c := d)) hv (fun _ => rfl) ?_
                        intro p280 ok280
                        simp only [List.cons_append, List.nil_append]
                        refine TF_end GivesTo.g ?_
                        refine TF_anchor rfl ?_
                        refine TL_grun rfl rfl ?_
                        refine TL_load_nx (xs := said ++ out) rfl rfl (sln (c := c223)) hu (fun _ => rfl) ?_
                        intro p275 ok275
                        simp only [List.cons_append, List.nil_append]
                        refine TF_end GivesTo.g ?_
                        refine TF_anchor rfl ?_
                        refine TL_grun rfl rfl ?_
                        refine TL_call rfl rfl (sameEntry_spec u.en v.en (A := p275.cut.1) (c := p275.cut.2) (B := p280.1) (d := p280.2) sln sln) ?_
                        rintro _ _ ⟨rfl, rfl⟩
                        refine TF_end GivesTo.g ?_
                        refine TF_gy rfl rfl rfl rfl (Y_pick_t rfl rfl) ?_
                        refine TF_y rfl rfl (Y_pick_f rfl rfl) ?_
                        refine TF_y rfl rfl (Y_assign rfl) ?_
                        refine TF_name 17 (v' := .bool (decide (SP ((said ++ out).take (n + 1)) v.bal v.slot v.en))) rfl (congrArg Value.bool (decide_eq_decide.2 ⟨fun e => hsn.2 (.inr ⟨h244, h257, h270, e⟩), fun h => (hsn.1 h).elim (fun k => absurd k h237) (fun k => k.2.2.2)⟩)) ?_
                        refine TF_nil ?_
                        refine inB_normal ?_
                        refine thenS_normal ?_
                        refine T_region_last ?_
                        refine TL_y rfl rfl (Y_move rfl) ?_
                        refine TL_y rfl rfl (Y_add rfl rfl (by omega)) ?_
                        refine TL_name 235 (v' := .int .i64 ((n + 1 : Nat) : Int)) rfl (rfl) ?_
                        refine TL_y rfl rfl (Y_assign rfl) ?_
                        refine TL_nil ?_
                        refine thenS_normal ?_
                        exact ⟨n + 1, (by omega), by omega, holds_to (sub_cons rfl (sub_cons rfl (sub_cons rfl (sub_cons rfl (sub_cons rfl (sub_cons rfl (sub_cons rfl (sub_cons rfl (sub_cons rfl (sub_cons rfl (sub_cons rfl (sub_nil)))))))))))) GivesTo.g⟩
                      · refine TF_gskip rfl rfl rfl rfl rfl ?_
                        refine TF_gskip rfl rfl rfl rfl rfl ?_
                        refine TF_gskip rfl rfl rfl rfl rfl ?_
                        refine TF_gskip rfl rfl rfl rfl rfl ?_
                        refine TF_gskip rfl rfl rfl rfl rfl ?_
                        refine TF_gskip rfl rfl rfl rfl rfl ?_
                        refine TF_gskip rfl rfl rfl rfl rfl ?_
                        refine TF_gskip rfl rfl rfl rfl rfl ?_
                        refine TF_anchor rfl ?_
                        refine TL_gskip rfl rfl rfl rfl ?_
                        refine TF_end GivesTo.g ?_
                        refine TF_anchor rfl ?_
                        refine TL_gskip rfl rfl rfl rfl ?_
                        refine TF_end GivesTo.g ?_
                        refine TF_anchor rfl ?_
                        refine TL_gskip rfl rfl rfl rfl ?_
                        refine TF_end GivesTo.g ?_
                        refine TF_gy rfl rfl rfl rfl (Y_pick_f rfl rfl) ?_
                        refine TF_y rfl rfl (Y_pick_f rfl rfl) ?_
                        refine TF_y rfl rfl (Y_assign rfl) ?_
                        refine TF_name 17 (v' := .bool (decide (SP ((said ++ out).take (n + 1)) v.bal v.slot v.en))) rfl (congrArg Value.bool (decide_eq_false (fun h => (hsn.1 h).elim h237 (fun h => h270 h.2.2.1))).symm) ?_
                        refine TF_nil ?_
                        refine inB_normal ?_
                        refine thenS_normal ?_
                        refine T_region_last ?_
                        refine TL_y rfl rfl (Y_move rfl) ?_
                        refine TL_y rfl rfl (Y_add rfl rfl (by omega)) ?_
                        refine TL_name 235 (v' := .int .i64 ((n + 1 : Nat) : Int)) rfl (rfl) ?_
                        refine TL_y rfl rfl (Y_assign rfl) ?_
                        refine TL_nil ?_
                        refine thenS_normal ?_
                        exact ⟨n + 1, (by omega), by omega, holds_to (sub_cons rfl (sub_cons rfl (sub_cons rfl (sub_cons rfl (sub_cons rfl (sub_cons rfl (sub_cons rfl (sub_cons rfl (sub_cons rfl (sub_cons rfl (sub_cons rfl (sub_nil)))))))))))) GivesTo.g⟩
                    · refine TF_gskip rfl rfl rfl rfl rfl ?_
                      refine TF_gskip rfl rfl rfl rfl rfl ?_
                      refine TF_gskip rfl rfl rfl rfl rfl ?_
                      refine TF_gskip rfl rfl rfl rfl rfl ?_
                      refine TF_gskip rfl rfl rfl rfl rfl ?_
                      refine TF_gskip rfl rfl rfl rfl rfl ?_
                      refine TF_gskip rfl rfl rfl rfl rfl ?_
                      refine TF_gskip rfl rfl rfl rfl rfl ?_
                      refine TF_gskip rfl rfl rfl rfl rfl ?_
                      refine TF_gskip rfl rfl rfl rfl rfl ?_
                      refine TF_gskip rfl rfl rfl rfl rfl ?_
                      refine TF_gy rfl rfl rfl rfl (Y_pick_f rfl rfl) ?_
                      refine TF_gy rfl rfl rfl rfl (Y_move rfl) ?_
                      refine TF_gskip rfl rfl rfl rfl rfl ?_
                      refine TF_gskip rfl rfl rfl rfl rfl ?_
                      refine TF_gskip rfl rfl rfl rfl rfl ?_
                      refine TF_gskip rfl rfl rfl rfl rfl ?_
                      refine TF_gskip rfl rfl rfl rfl rfl ?_
                      refine TF_gskip rfl rfl rfl rfl rfl ?_
                      refine TF_gskip rfl rfl rfl rfl rfl ?_
                      refine TF_gskip rfl rfl rfl rfl rfl ?_
                      refine TF_anchor rfl ?_
                      refine TL_gskip rfl rfl rfl rfl ?_
                      refine TF_end GivesTo.g ?_
                      refine TF_anchor rfl ?_
                      refine TL_gskip rfl rfl rfl rfl ?_
                      refine TF_end GivesTo.g ?_
                      refine TF_anchor rfl ?_
                      refine TL_gskip rfl rfl rfl rfl ?_
                      refine TF_end GivesTo.g ?_
                      refine TF_gy rfl rfl rfl rfl (Y_pick_f rfl rfl) ?_
                      refine TF_y rfl rfl (Y_pick_f rfl rfl) ?_
                      refine TF_y rfl rfl (Y_assign rfl) ?_
                      refine TF_name 17 (v' := .bool (decide (SP ((said ++ out).take (n + 1)) v.bal v.slot v.en))) rfl (congrArg Value.bool (decide_eq_false (fun h => (hsn.1 h).elim h237 (fun h => h257 h.2.1))).symm) ?_
                      refine TF_nil ?_
                      refine inB_normal ?_
                      refine thenS_normal ?_
                      refine T_region_last ?_
                      refine TL_y rfl rfl (Y_move rfl) ?_
                      refine TL_y rfl rfl (Y_add rfl rfl (by omega)) ?_
                      refine TL_name 235 (v' := .int .i64 ((n + 1 : Nat) : Int)) rfl (rfl) ?_
                      refine TL_y rfl rfl (Y_assign rfl) ?_
                      refine TL_nil ?_
                      refine thenS_normal ?_
                      exact ⟨n + 1, (by omega), by omega, holds_to (sub_cons rfl (sub_cons rfl (sub_cons rfl (sub_cons rfl (sub_cons rfl (sub_cons rfl (sub_cons rfl (sub_cons rfl (sub_cons rfl (sub_cons rfl (sub_cons rfl (sub_nil)))))))))))) GivesTo.g⟩
                  · refine TF_gskip rfl rfl rfl rfl rfl ?_
                    refine TF_gskip rfl rfl rfl rfl rfl ?_
                    refine TF_gskip rfl rfl rfl rfl rfl ?_
                    refine TF_gskip rfl rfl rfl rfl rfl ?_
                    refine TF_gskip rfl rfl rfl rfl rfl ?_
                    refine TF_gskip rfl rfl rfl rfl rfl ?_
                    refine TF_gskip rfl rfl rfl rfl rfl ?_
                    refine TF_gskip rfl rfl rfl rfl rfl ?_
                    refine TF_gskip rfl rfl rfl rfl rfl ?_
                    refine TF_gskip rfl rfl rfl rfl rfl ?_
                    refine TF_gskip rfl rfl rfl rfl rfl ?_
                    refine TF_gy rfl rfl rfl rfl (Y_pick_f rfl rfl) ?_
                    refine TF_gy rfl rfl rfl rfl (Y_move rfl) ?_
                    refine TF_gskip rfl rfl rfl rfl rfl ?_
                    refine TF_gskip rfl rfl rfl rfl rfl ?_
                    refine TF_gskip rfl rfl rfl rfl rfl ?_
                    refine TF_gskip rfl rfl rfl rfl rfl ?_
                    refine TF_gskip rfl rfl rfl rfl rfl ?_
                    refine TF_gskip rfl rfl rfl rfl rfl ?_
                    refine TF_gskip rfl rfl rfl rfl rfl ?_
                    refine TF_gskip rfl rfl rfl rfl rfl ?_
                    refine TF_gskip rfl rfl rfl rfl rfl ?_
                    refine TF_gskip rfl rfl rfl rfl rfl ?_
                    refine TF_gskip rfl rfl rfl rfl rfl ?_
                    refine TF_gy rfl rfl rfl rfl (Y_pick_f rfl rfl) ?_
                    refine TF_gy rfl rfl rfl rfl (Y_move rfl) ?_
                    refine TF_gskip rfl rfl rfl rfl rfl ?_
                    refine TF_gskip rfl rfl rfl rfl rfl ?_
                    refine TF_gskip rfl rfl rfl rfl rfl ?_
                    refine TF_gskip rfl rfl rfl rfl rfl ?_
                    refine TF_gskip rfl rfl rfl rfl rfl ?_
                    refine TF_gskip rfl rfl rfl rfl rfl ?_
                    refine TF_gskip rfl rfl rfl rfl rfl ?_
                    refine TF_gskip rfl rfl rfl rfl rfl ?_
                    refine TF_anchor rfl ?_
                    refine TL_gskip rfl rfl rfl rfl ?_
                    refine TF_end GivesTo.g ?_
                    refine TF_anchor rfl ?_
                    refine TL_gskip rfl rfl rfl rfl ?_
                    refine TF_end GivesTo.g ?_
                    refine TF_anchor rfl ?_
                    refine TL_gskip rfl rfl rfl rfl ?_
                    refine TF_end GivesTo.g ?_
                    refine TF_gy rfl rfl rfl rfl (Y_pick_f rfl rfl) ?_
                    refine TF_y rfl rfl (Y_pick_f rfl rfl) ?_
                    refine TF_y rfl rfl (Y_assign rfl) ?_
                    refine TF_name 17 (v' := .bool (decide (SP ((said ++ out).take (n + 1)) v.bal v.slot v.en))) rfl (congrArg Value.bool (decide_eq_false (fun h => (hsn.1 h).elim h237 (fun h => h244 h.1))).symm) ?_
                    refine TF_nil ?_
                    refine inB_normal ?_
                    refine thenS_normal ?_
                    refine T_region_last ?_
                    refine TL_y rfl rfl (Y_move rfl) ?_
                    refine TL_y rfl rfl (Y_add rfl rfl (by omega)) ?_
                    refine TL_name 235 (v' := .int .i64 ((n + 1 : Nat) : Int)) rfl (rfl) ?_
                    refine TL_y rfl rfl (Y_assign rfl) ?_
                    refine TL_nil ?_
                    refine thenS_normal ?_
                    exact ⟨n + 1, (by omega), by omega, holds_to (sub_cons rfl (sub_cons rfl (sub_cons rfl (sub_cons rfl (sub_cons rfl (sub_cons rfl (sub_cons rfl (sub_cons rfl (sub_cons rfl (sub_cons rfl (sub_cons rfl (sub_nil)))))))))))) GivesTo.g⟩
            · refine T_exit ?_
              refine thenS_exit ?_
              refine thenS_exit ?_
              refine inB_hit ?_
              refine thenS_normal ?_
              refine T_region ?_
              refine TL_y rfl rfl (Y_move rfl) ?_
              refine TL_name 284 (v' := .bool true) rfl (congrArg Value.bool (decide_eq_true (by rw [List.take_of_length_le (show (said ++ out).length ≤ n by omega)]; exact hkn))) ?_
              refine TL_y rfl rfl (Y_not_t rfl) ?_
              refine TL_nil ?_
              refine T_cond_false rfl ?_
              refine T_skip ?_
              refine inB_normal ?_
              refine thenS_normal ?_
              refine T_region_last ?_
              refine TL_y rfl rfl (Y_move rfl) ?_
              refine TL_y rfl rfl (Y_add rfl rfl (by omega)) ?_
              refine TL_name 229 (v' := .int .i64 ((k + 1 : Nat) : Int)) rfl (rfl) ?_
              refine TL_y rfl rfl (Y_assign rfl) ?_
              refine TL_nil ?_
              refine thenS_normal ?_
              exact ⟨k + 1, (by omega), by omega, holds_to (sub_cons rfl (sub_cons rfl (sub_cons rfl (sub_cons rfl (sub_cons rfl (sub_cons rfl (sub_cons rfl (sub_cons rfl (sub_cons rfl (sub_nil)))))))))) GivesTo.g⟩
          · refine T_exit ?_
            refine thenS_exit ?_
            refine thenS_exit ?_
            refine inB_hit ?_
            refine inB_normal ?_
            refine thenS_normal ?_
            refine T_region_last ?_
            refine TL_y rfl rfl (Y_move rfl) ?_
            refine TL_y rfl rfl (Y_add rfl rfl (by omega)) ?_
            refine TL_name 50 (v' := .int .i64 ((i + 1 : Nat) : Int)) rfl (rfl) ?_
            refine TL_y rfl rfl (Y_assign rfl) ?_
            refine TL_nil ?_
            refine thenS_normal ?_
            exact ⟨⟨i + 1, p2, last2, said ++ out, A223, c223⟩, ⟨by simp only; omega, hO2, hnd2, hns2, by simp only [List.length_append]; omega⟩, by simp only; omega, holds_to (sub_cons rfl (sub_cons rfl (sub_cons rfl (sub_cons rfl (sub_cons rfl (sub_cons rfl (sub_cons rfl (sub_nil)))))))) GivesTo.g⟩
    · refine T_exit ?_
      refine thenS_exit ?_
      refine thenS_exit ?_
      refine inB_hit ?_
      refine thenS_normal ?_
      refine T_region ?_
      refine TL_y rfl rfl (Y_assign rfl) ?_
      refine TL_nil ?_
      refine T_ret ?_
      exact RetG_1 (.inl rfl) rfl (ResV.tmp rfl) GivesTo.g (⟨rfl, rfl⟩)
  · refine TL_gskip rfl rfl rfl rfl ?_
    refine TL_gskip rfl rfl rfl rfl ?_
    refine TL_gskip rfl rfl rfl rfl ?_
    refine TL_y rfl rfl (Y_pick_f rfl rfl) ?_
    refine TL_nil ?_
    refine T_cond_false rfl ?_
    refine T_exit ?_
    refine thenS_exit ?_
    refine thenS_exit ?_
    refine inB_hit ?_
    refine thenS_normal ?_
    refine T_region ?_
    refine TL_y rfl rfl (Y_assign rfl) ?_
    refine TL_nil ?_
    refine T_ret ?_
    exact RetG_1 (.inl rfl) rfl (ResV.tmp rfl) GivesTo.g (⟨rfl, rfl⟩)
theorem proposerOnce_walk {L : List HP} {A0 : Option Addr} {c0 : Nat} {l : List OpD17} (node nodes : Int) (hk : SlK L opR A0 c0 l) (hb : ∀ o ∈ l, cMsg o.msg ≤ 140737488355328 ∧ cSeal o.en.order ≤ 140737488355000) (hl : l.length ≤ 281474976710656) : Fn Try.prog 11 #[.int .i64 node, .int .i64 nodes, .slice A0 l.length c0] L (fun v L' => v = .bool true ∧ L' = L) := by
  by_cases h : (1 ≤ nodes ∧ nodes ≤ 7) ∧ (0 ≤ node ∧ node < nodes)
  · exact proposerOnce_ok node nodes h.1 h.2 hk hb hl
  · exact proposerOnce_bad node nodes h
end Go.SL
