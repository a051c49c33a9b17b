/- Net: the law on the bag. -/
import Derived.Test.YtcpknfcckekhdaaNetG
set_option linter.unusedVariables false
set_option linter.unusedSimpArgs false
namespace Go.SL
open Go Go.Proofs
def KB (bodies : List ByteArray) (p : PackD) : Prop := ∃ k : Nat, bodies[k]? = some p.body ∧ p.frm = ((k % 3 : Nat) : Int) ∧ p.to_ = (((k + 1) % 3 : Nat) : Int)
theorem send_bag {s : NS} {f t : Int} {body : ByteArray} (hf : isN s f) (ht : isN s t) (hl : s.L.length < 65536) : (65536 < body.size ∧ sendS s f t body = (s, 0, 3)) ∨ (body.size ≤ 65536 ∧ sendS s f t body = (⟨s.nodes, s.last + 1, s.L ++ [⟨s.last + 1, f, t, body⟩]⟩, s.last + 1, 0)) := by
  unfold sendS
  rw [if_neg (by simp only [not_or, Classical.not_not]; exact ⟨hf, ht⟩)]
  by_cases h : 65536 < body.size
  · rw [if_pos h]; exact .inl ⟨h, rfl⟩
  · rw [if_neg h, if_neg (by omega)]; exact .inr ⟨by omega, rfl⟩
theorem send_bag_T {s : NS} {f t : Int} {body : ByteArray} (hf : isN s f) (ht : isN s t) (hl : s.L.length < 65536) (h : (sendS s f t body).2.2 ≠ 0) : 65536 < body.size ∧ sendS s f t body = (s, 0, 3) := by
  rcases send_bag (body := body) hf ht hl with k | ⟨_, k⟩
  · exact k
  · rw [k] at h; exact absurd rfl h
theorem send_bag_F {s : NS} {f t : Int} {body : ByteArray} (hf : isN s f) (ht : isN s t) (hl : s.L.length < 65536) (h : ¬ (sendS s f t body).2.2 ≠ 0) : sendS s f t body = (⟨s.nodes, s.last + 1, s.L ++ [⟨s.last + 1, f, t, body⟩]⟩, s.last + 1, 0) := by
  rcases send_bag (body := body) hf ht hl with ⟨_, k⟩ | ⟨_, k⟩
  · rw [k] at h; exact absurd (by simp) h
  · exact k
theorem find_mem {s : NS} (h : NI s) {p : PackD} (hp : p ∈ s.L) : findN s.L p.id = some p := by
  obtain ⟨i, hi⟩ := List.getElem?_of_mem hp
  exact find_at h hi
theorem at_mem {s : NS} {k : Int} (h : (atS s k).2 = true) : ∃ p ∈ s.L, (atS s k).1 = p.id := by
  unfold atS at h ⊢
  split at h
  · rename_i p hp
    exact ⟨p, List.mem_of_getElem? hp, rfl⟩
  · cases h
theorem nd_mp {s : NS} (h : NI s) : ND (mp s.L) := by
  unfold ND mp
  exact List.pairwise_map.2 (h.inc.imp fun h => by show _ ≠ _; omega)
theorem out_len {s : NS} (h : NI s) {p : PackD} (hp : p ∈ s.L) : (outN s.L p.id).length + 1 = s.L.length := by
  have h1 := del_len (nd_mp h) (k := p.id) (u := p) (by rw [getM_mp]; exact find_mem h hp)
  rw [delM_mp] at h1
  simpa [mp] using h1
structure BgSt where
  i : Nat
  s : NS
structure Bg2 where
  i : Nat
  s : NS
  d : Nat
  k : Nat
theorem kb_tm {bodies : List ByteArray} {p : PackD} (h : KB bodies p) : (p.frm + 1).tmod 3 = p.to_ := by
  obtain ⟨k, _, h1, h2⟩ := h
  rw [h1, h2, Int.tmod_eq_emod_of_nonneg (by omega)]
  omega
theorem netBag_walk {L : List HP} {A A2 : Option Addr} {c c2 : Nat} {bodies : List ByteArray} {picks : List Int} (hk : SlK L strR A c bodies) (hk2 : SlK L (intR .i64) A2 c2 picks) (hl : bodies.length ≤ 17592186044416) (hl2 : picks.length ≤ 17592186044416) : Fn Try.prog 9 #[.slice A bodies.length c, .slice A2 picks.length c2] L (fun v L' => v = .bool true ∧ L' = L) := by
  refine Fn_enter Try.func9 rfl rfl rfl rfl ?_
  refine T_gives hk.lay ?_
  refine T_gives hk2.tail.lay ?_
  refine T_region ?_
  refine TL_y rfl rfl (Y_assign rfl) ?_
  refine TL_nil ?_
  refine T_region ?_
  refine TL_call rfl rfl (netNew_ok 3 (by decide) _) ?_
  rintro _ _ ⟨b1, rfl, rfl⟩
  refine TL_y rfl rfl (Y_move rfl) ?_
  refine TL_y rfl rfl (Y_extract rfl rfl) ?_
  refine TL_y rfl rfl (Y_extract rfl rfl) ?_
  refine TL_y rfl rfl (Y_assign rfl) ?_
  refine TL_y rfl rfl (Y_assign rfl) ?_
  refine TL_nil ?_
  refine T_seq ?_
  refine T_region ?_
  refine TL_call rfl rfl (lives04_spec _) ?_
  rintro _ _ ⟨rfl, rfl⟩
  refine TL_name 26 (v' := .bool true) rfl (rfl) ?_
  refine TL_y rfl rfl (Y_not_t rfl) ?_
  refine TL_y rfl rfl (Y_move rfl) ?_
  refine TL_grun rfl rfl ?_
  refine TL_y rfl rfl (Y_move rfl) ?_
  refine TL_grun rfl rfl ?_
  refine TL_y rfl rfl (Y_ne rfl rfl) ?_
  refine TL_name 30 (v' := .bool false) rfl (congrArg Value.bool (by decide)) ?_
  refine TL_y rfl rfl (Y_pick_f rfl rfl) ?_
  refine TL_y rfl rfl (Y_move rfl) ?_
  refine TL_grun rfl rfl ?_
  refine TL_y rfl rfl (Y_move rfl) ?_
  refine TL_grun rfl rfl ?_
  refine TL_y rfl rfl (Y_equal rfl rfl (EqIs.ptr_nil)) ?_
  refine TL_name 34 (v' := .bool false) rfl (by simp) ?_
  refine TL_y rfl rfl (Y_pick_f rfl rfl) ?_
  refine TL_nil ?_
  refine T_cond_false rfl ?_
  refine T_skip ?_
  refine thenS_normal ?_
  refine T_region ?_
  refine TL_y rfl rfl (Y_assign rfl) ?_
  refine TL_nil ?_
  refine T_seq ?_
  refine T_region ?_
  refine TL_y rfl rfl (Y_assign rfl) ?_
  refine TL_nil ?_
  refine T_block ?_
  refine T_loopK (σ := BgSt) [0, 1, 5] (fun g => (g.i ≤ bodies.length ∧ g.i ≤ 60000) ∧ g.s.nodes = 3 ∧ (0 ≤ g.s.last ∧ g.s.last ≤ (g.i : Int)) ∧ g.s.L.length ≤ g.i ∧ ∀ p ∈ g.s.L, KB bodies p) (fun g kv => (8, .int .i64 (g.i : Int)) :: (7, .int .i64 (g.s.L.length : Int)) :: kv) (fun g => nt b1 g.s :: sl strR A c bodies :: sl (intR .i64) A2 c2 picks :: L) (fun g => bodies.length - g.i) (⟨0, nsNew 3⟩) rfl (⟨by simp, rfl, by decide, by simp [nsNew], by simp [nsNew]⟩) (GivesTo.g) (sub_cons rfl (sub_cons rfl (sub_cons rfl (sub_cons rfl (sub_cons rfl (sub_nil)))))) ?_
  rintro ⟨i, s⟩ ⟨⟨hi, hi2⟩, hnd, hs0, hlen, hkb⟩
  dsimp only at hi hi2 hnd hs0 hlen hkb ⊢
  refine T_seq ?_
  refine T_region ?_
  refine TL_y rfl rfl (Y_move rfl) ?_
  refine TL_y rfl rfl (Y_move rfl) ?_
  refine TL_y rfl rfl (Y_len rfl) ?_
  refine TL_y rfl rfl (Y_lt rfl rfl) ?_
  refine TL_y rfl rfl (Y_move rfl) ?_
  refine TL_splitd 40 rfl (fun h40 => ?_) (fun h40 => ?_)
  · refine TL_grun rfl rfl ?_
    refine TL_y rfl rfl (Y_move rfl) ?_
    refine TL_grun rfl rfl ?_
    refine TL_y rfl rfl (Y_lt rfl rfl) ?_
    refine TL_y rfl rfl (Y_pick_t rfl rfl) ?_
    refine TL_nil ?_
    refine T_if rfl (fun h43 => ?_) (fun h43 => ?_)
    · refine T_skip ?_
      refine thenS_normal ?_
      refine T_seq ?_
      refine T_block ?_
      refine T_seq ?_
      refine T_region ?_
      refine TL_y rfl rfl (Y_move rfl) ?_
      refine TL_y rfl rfl (Y_move rfl) ?_
      refine TL_y rfl rfl (Y_rem rfl rfl (by decide)) ?_
      refine TL_name 49 (v' := .int .i64 ((i % 3 : Nat) : Int)) rfl (by congr 1) ?_
      refine TL_y rfl rfl (Y_move rfl) ?_
      refine TL_y rfl rfl (Y_add rfl rfl (by omega)) ?_
      refine TL_y rfl rfl (Y_rem rfl rfl (by decide)) ?_
      refine TL_name 52 (v' := .int .i64 (((i + 1) % 3 : Nat) : Int)) rfl (by congr 1) ?_
      refine TL_y rfl rfl (Y_move rfl) ?_
      refine TL_y rfl rfl (Y_move rfl) ?_
      obtain ⟨u, hu⟩ : ∃ u, bodies[i]? = some u := ⟨_, List.getElem?_eq_getElem (by omega)⟩
      have hn1 : isN s ((i % 3 : Nat) : Int) := by unfold isN; omega
      have hn2 : isN s (((i + 1) % 3 : Nat) : Int) := by unfold isN; omega
      refine TL_index_strs rfl rfl rfl slk hu ?_
      intro hi55 bi55 oi55
      refine TL_y rfl rfl (Y_load_row rfl rfl) ?_
      refine TL_pullk b1 ?_
      refine TL_call rfl rfl (netSend_spec ((i % 3 : Nat) : Int) (((i + 1) % 3 : Nat) : Int) u (by omega)) ?_
      rintro _ _ ⟨rfl, rfl⟩
      refine TL_y rfl rfl (Y_move rfl) ?_
      refine TL_y rfl rfl (Y_extract rfl rfl) ?_
      refine TL_y rfl rfl (Y_extract rfl rfl) ?_
      refine TL_y rfl rfl (Y_assign rfl) ?_
      refine TL_y rfl rfl (Y_assign rfl) ?_
      refine TL_nil ?_
      refine T_region ?_
      refine TL_y rfl rfl (Y_move rfl) ?_
      refine TL_y rfl rfl (Y_ne rfl rfl) ?_
      refine TL_nil ?_
      refine T_if rfl (fun h61 => ?_) (fun h61 => ?_)
      · obtain ⟨hbig, he⟩ := send_bag_T hn1 hn2 (by omega) h61
        rw [he]
        refine T_seq ?_
        refine T_region ?_
        refine TL_y rfl rfl (Y_move rfl) ?_
        refine TL_y rfl rfl (Y_move rfl) ?_
        refine TL_index_strs rfl rfl rfl slk hu ?_
        intro hi64 bi64 oi64
        refine TL_y rfl rfl (Y_load_row rfl rfl) ?_
        refine TL_y rfl rfl (Y_len_str rfl) ?_
        refine TL_y rfl rfl (Y_le rfl rfl) ?_
        refine TL_name 67 (v' := .bool false) rfl (congrArg Value.bool (decide_eq_false (by omega))) ?_
        refine TL_nil ?_
        refine T_cond_false rfl ?_
        refine T_skip ?_
        refine thenS_normal ?_
        refine T_exit ?_
        refine thenS_exit ?_
        refine inB_hit ?_
        refine thenS_normal ?_
        refine T_region_last ?_
        refine TL_y rfl rfl (Y_move rfl) ?_
        refine TL_y rfl rfl (Y_add rfl rfl (by omega)) ?_
        refine TL_name 45 (v' := .int .i64 ((i + 1 : Nat) : Int)) rfl (rfl) ?_
        refine TL_y rfl rfl (Y_assign rfl) ?_
        refine TL_nil ?_
        refine thenS_normal ?_
        exact ⟨⟨i + 1, s⟩, ⟨⟨by simp only; omega, by simp only; omega⟩, hnd, by simp only; omega, by simp only; omega, hkb⟩, by simp only; omega, holds_to (sub_cons rfl (sub_cons rfl (sub_cons rfl (sub_cons rfl (sub_cons rfl (sub_nil)))))) GivesTo.g⟩
      · have he := send_bag_F hn1 hn2 (by omega) h61
        rw [he]
        refine T_skip ?_
        refine thenS_normal ?_
        refine T_region_last ?_
        refine TL_y rfl rfl (Y_move rfl) ?_
        refine TL_y rfl rfl (Y_add rfl rfl (by omega)) ?_
        refine TL_name 69 (v' := .int .i64 ((s.L ++ [(⟨s.last + 1, ((i % 3 : Nat) : Int), (((i + 1) % 3 : Nat) : Int), u⟩ : PackD)]).length : Int)) rfl (by simp) ?_
        refine TL_y rfl rfl (Y_assign rfl) ?_
        refine TL_nil ?_
        refine inB_normal ?_
        refine thenS_normal ?_
        refine T_region_last ?_
        refine TL_y rfl rfl (Y_move rfl) ?_
        refine TL_y rfl rfl (Y_add rfl rfl (by omega)) ?_
        refine TL_name 45 (v' := .int .i64 ((i + 1 : Nat) : Int)) rfl (rfl) ?_
        refine TL_y rfl rfl (Y_assign rfl) ?_
        refine TL_nil ?_
        refine thenS_normal ?_
        exact ⟨⟨i + 1, ⟨s.nodes, s.last + 1, s.L ++ [⟨s.last + 1, ((i % 3 : Nat) : Int), (((i + 1) % 3 : Nat) : Int), u⟩]⟩⟩, ⟨⟨by simp only; omega, by simp only; omega⟩, hnd, by simp only; omega, by simp; omega, fun p hp => by rcases List.mem_append.1 hp with h | h; exact hkb p h; (simp at h; subst h; exact ⟨i, hu, rfl, rfl⟩)⟩, by simp only; omega, holds_to (sub_cons rfl (sub_cons rfl (sub_cons rfl (sub_cons rfl (sub_cons rfl (sub_nil)))))) GivesTo.g⟩
    · refine T_exit ?_
      refine thenS_exit ?_
      refine thenS_exit ?_
      refine inB_hit ?_
      refine thenS_normal ?_
      obtain ⟨S, hS⟩ : ∃ S : Nat, S = s.L.length := ⟨_, rfl⟩
      rw [← hS]
      refine T_region ?_
      refine TL_y rfl rfl (Y_assign rfl) ?_
      refine TL_y rfl rfl (Y_assign rfl) ?_
      refine TL_nil ?_
      refine T_seq ?_
      refine T_region ?_
      refine TL_y rfl rfl (Y_assign rfl) ?_
      refine TL_nil ?_
      refine T_block ?_
      refine T_loopK (σ := Bg2) [0, 1, 5, 7] (fun g => (g.i ≤ picks.length ∧ g.i ≤ 5000) ∧ g.s.nodes = 3 ∧ (0 ≤ g.s.last ∧ g.s.last ≤ 60000 + (g.i : Int)) ∧ (g.s.L.length + g.k = S + g.d ∧ g.d ≤ g.i ∧ g.k ≤ g.i) ∧ ∀ p ∈ g.s.L, KB bodies p) (fun g kv => (13, .int .i64 (g.i : Int)) :: (11, .int .i64 (g.d : Int)) :: (12, .int .i64 (g.k : Int)) :: kv) (fun g => nt b1 g.s :: sl strR A c bodies :: sl (intR .i64) A2 c2 picks :: L) (fun g => picks.length - g.i) (⟨0, s, 0, 0⟩) rfl (⟨by simp, hnd, by simp only; omega, by simp only; omega, hkb⟩) (GivesTo.g) (sub_cons rfl (sub_cons rfl (sub_cons rfl (sub_cons rfl (sub_cons rfl (sub_cons rfl (sub_cons rfl (sub_nil)))))))) ?_
      rintro ⟨j, s1, d, k⟩ ⟨⟨hj, hj2⟩, hnd1, hs1, hcnt, hkb1⟩
      dsimp only at hj hj2 hnd1 hs1 hcnt hkb1 ⊢
      refine T_seq ?_
      refine T_region ?_
      refine TL_y rfl rfl (Y_move rfl) ?_
      refine TL_y rfl rfl (Y_move rfl) ?_
      refine TL_y rfl rfl (Y_len rfl) ?_
      refine TL_y rfl rfl (Y_lt rfl rfl) ?_
      refine TL_y rfl rfl (Y_move rfl) ?_
      refine TL_splitd 74 rfl (fun h74 => ?_) (fun h74 => ?_)
      · refine TL_grun rfl rfl ?_
        refine TL_y rfl rfl (Y_move rfl) ?_
        refine TL_grun rfl rfl ?_
        refine TL_y rfl rfl (Y_lt rfl rfl) ?_
        refine TL_y rfl rfl (Y_pick_t rfl rfl) ?_
        refine TL_nil ?_
        refine T_if rfl (fun h77 => ?_) (fun h77 => ?_)
        · refine T_skip ?_
          refine thenS_normal ?_
          refine T_seq ?_
          refine T_block ?_
          refine T_region ?_
          refine TL_y rfl rfl (Y_move rfl) ?_
          refine TL_y rfl rfl (Y_move rfl) ?_
          refine TL_y rfl rfl (Y_move rfl) ?_
          obtain ⟨w, hw⟩ : ∃ w, picks[j]? = some w := ⟨_, List.getElem?_eq_getElem (by omega)⟩
          refine TL_index_int rfl rfl rfl slk hw ?_
          intro hi84 bi84 oi84
          refine TL_y rfl rfl (Y_load_row rfl rfl) ?_
          refine TL_pullk b1 ?_
          refine TL_call rfl rfl (netAt_spec w hi84) ?_
          rintro _ _ ⟨rfl, rfl⟩
          refine TL_y rfl rfl (Y_move rfl) ?_
          refine TL_y rfl rfl (Y_extract rfl rfl) ?_
          refine TL_y rfl rfl (Y_extract rfl rfl) ?_
          refine TL_y rfl rfl (Y_assign rfl) ?_
          refine TL_y rfl rfl (Y_assign rfl) ?_
          refine TL_nil ?_
          refine T_seq ?_
          refine T_region ?_
          refine TL_y rfl rfl (Y_move rfl) ?_
          refine TL_y rfl rfl (Y_not rfl) ?_
          refine TL_nil ?_
          refine T_cond rfl (fun h90 => ?_) (fun h90 => ?_)
          · refine T_exit ?_
            refine thenS_exit ?_
            refine inB_miss rfl ?_
            refine thenS_exit ?_
            refine thenS_exit ?_
            refine inB_hit ?_
            refine thenS_normal ?_
            refine T_region ?_
            refine TL_y rfl rfl (Y_move rfl) ?_
            refine TL_pullk b1 ?_
            refine TL_call rfl rfl (netLen_spec) ?_
            rintro _ _ ⟨rfl, rfl⟩
            refine TL_y rfl rfl (Y_move rfl) ?_
            refine TL_y rfl rfl (Y_move rfl) ?_
            refine TL_y rfl rfl (Y_add rfl rfl (by omega)) ?_
            refine TL_y rfl rfl (Y_move rfl) ?_
            refine TL_y rfl rfl (Y_sub rfl rfl (by omega)) ?_
            refine TL_y rfl rfl (Y_eq rfl rfl) ?_
            refine TL_name 156 (v' := .bool true) rfl (congrArg Value.bool (decide_eq_true (by omega))) ?_
            refine TL_y rfl rfl (Y_assign rfl) ?_
            refine TL_nil ?_
            refine T_ret ?_
            exact RetG_1 (.inl rfl) rfl (ResV.tmp rfl) GivesTo.g (⟨rfl, rfl⟩)
          · obtain ⟨p, hpm, hpe⟩ := at_mem (s := s1) (k := w) (by simpa using h90)
            rw [hpe]
            refine T_skip ?_
            refine thenS_normal ?_
            refine T_seq ?_
            refine T_pullk b1 ?_
            refine T_nt fun bt hni => ?_
            refine T_gives (nt_close b1 s1 hni) ?_
            have hids := hni.ids p hpm
            have hfd := find_mem hni hpm
            have hpk := packOk_of hni hpm
            have hn3 : isN s1 p.frm := by unfold isN; omega
            have hn4 : isN s1 p.to_ := by unfold isN; omega
            have hkp := hkb1 p hpm
            have htm := kb_tm hkp
            have hol := out_len hni hpm
            refine T_region ?_
            refine TL_y rfl rfl (Y_move rfl) ?_
            refine TL_y rfl rfl (Y_rem rfl rfl (by decide)) ?_
            refine TL_name 92 (v' := .int .i64 ((j % 3 : Nat) : Int)) rfl (by congr 1) ?_
            refine TL_y rfl rfl (Y_eq rfl rfl) ?_
            refine TL_nil ?_
            refine T_if rfl (fun h93 => ?_) (fun h93 => ?_)
            · refine T_seq ?_
              refine T_region ?_
              refine TL_y rfl rfl (Y_move rfl) ?_
              refine TL_y rfl rfl (Y_move rfl) ?_
              refine TL_pullk b1 ?_
              refine TL_call rfl rfl (netTwice_spec p.id hpk.1 (by omega)) ?_
              rintro _ _ ⟨rfl, rfl⟩
              have htw : twiceS s1 p.id = (⟨s1.nodes, s1.last + 1, s1.L ++ [⟨s1.last + 1, p.frm, p.to_, p.body⟩]⟩, s1.last + 1, 0) := by unfold twiceS; rw [hfd]; exact ((send_bag (body := p.body) hn3 hn4 (by omega)).resolve_left (fun h => by omega)).2
              rw [htw]
              dsimp only
              refine TL_y rfl rfl (Y_move rfl) ?_
              refine TL_y rfl rfl (Y_extract rfl rfl) ?_
              refine TL_y rfl rfl (Y_extract rfl rfl) ?_
              refine TL_y rfl rfl (Y_assign rfl) ?_
              refine TL_y rfl rfl (Y_assign rfl) ?_
              refine TL_nil ?_
              refine T_region ?_
              refine TL_y rfl rfl (Y_move rfl) ?_
              refine TL_y rfl rfl (Y_ne rfl rfl) ?_
              refine TL_name 101 (v' := .bool false) rfl (congrArg Value.bool (decide_eq_false (by simp))) ?_
              refine TL_nil ?_
              refine T_cond_false rfl ?_
              refine T_skip ?_
              refine thenS_normal ?_
              refine T_region ?_
              refine TL_y rfl rfl (Y_move rfl) ?_
              refine TL_y rfl rfl (Y_add rfl rfl (by omega)) ?_
              refine TL_name 103 (v' := .int .i64 ((d + 1 : Nat) : Int)) rfl (rfl) ?_
              refine TL_y rfl rfl (Y_assign rfl) ?_
              refine TL_nil ?_
              refine T_exit ?_
              refine thenS_exit ?_
              refine inB_hit ?_
              refine thenS_normal ?_
              refine T_region_last ?_
              refine TL_y rfl rfl (Y_move rfl) ?_
              refine TL_y rfl rfl (Y_add rfl rfl (by omega)) ?_
              refine TL_name 79 (v' := .int .i64 ((j + 1 : Nat) : Int)) rfl (rfl) ?_
              refine TL_y rfl rfl (Y_assign rfl) ?_
              refine TL_nil ?_
              refine thenS_normal ?_
              exact ⟨⟨j + 1, ⟨s1.nodes, s1.last + 1, s1.L ++ [⟨s1.last + 1, p.frm, p.to_, p.body⟩]⟩, d + 1, k⟩, ⟨⟨by simp only; omega, by simp only; omega⟩, hnd1, by simp only; omega, by simp; omega, fun q hq => by rcases List.mem_append.1 hq with h | h; exact hkb1 q h; (simp at h; subst h; exact hkp)⟩, by simp only; omega, holds_to (sub_cons rfl (sub_cons rfl (sub_cons rfl (sub_cons rfl (sub_cons rfl (sub_cons rfl (sub_cons rfl (sub_nil)))))))) GivesTo.g⟩
            · refine T_skip ?_
              refine thenS_normal ?_
              refine T_region ?_
              refine TL_y rfl rfl (Y_move rfl) ?_
              refine TL_y rfl rfl (Y_move rfl) ?_
              refine TL_pullk b1 ?_
              refine TL_call rfl rfl (netTake_spec p.id hpk.1) ?_
              rintro _ _ ⟨rfl, rfl⟩
              have htk : takeS s1 p.id = (⟨s1.nodes, s1.last, outN s1.L p.id⟩, p, 0) := by unfold takeS; rw [hfd]
              rw [htk]
              dsimp only
              refine TL_y rfl rfl (Y_move rfl) ?_
              refine TL_y rfl rfl (Y_extract rfl rfl) ?_
              refine TL_y rfl rfl (Y_extract rfl rfl) ?_
              refine TL_alloc rfl rfl ?_
              intro b18
              refine TL_store rfl rfl rfl rfl rfl rfl ?_
              refine TL_y rfl rfl (Y_assign rfl) ?_
              refine TL_nil ?_
              refine T_seq ?_
              refine T_region ?_
              refine TL_y rfl rfl (Y_move rfl) ?_
              refine TL_y rfl rfl (Y_ne rfl rfl) ?_
              refine TL_name 111 (v' := .bool false) rfl (congrArg Value.bool (decide_eq_false (by simp))) ?_
              refine TL_y rfl rfl (Y_move rfl) ?_
              refine TL_grun rfl rfl ?_
              refine TL_y rfl rfl (Y_field_addr rfl) ?_
              refine TL_grun rfl rfl ?_
              refine TL_y rfl rfl (Y_load rfl rfl) ?_
              refine TL_grun rfl rfl ?_
              refine TL_y rfl rfl (Y_move rfl) ?_
              refine TL_grun rfl rfl ?_
              refine TL_y rfl rfl (Y_ne rfl rfl) ?_
              refine TL_name 116 (v' := .bool false) rfl (congrArg Value.bool (decide_eq_false (by simp))) ?_
              refine TL_y rfl rfl (Y_pick_f rfl rfl) ?_
              refine TL_y rfl rfl (Y_move rfl) ?_
              refine TL_grun rfl rfl ?_
              refine TL_y rfl rfl (Y_field_addr rfl) ?_
              refine TL_grun rfl rfl ?_
              refine TL_y rfl rfl (Y_load rfl rfl) ?_
              refine TL_grun rfl rfl ?_
              refine TL_y rfl rfl (Y_add rfl rfl (by omega)) ?_
              refine TL_grun rfl rfl ?_
              refine TL_y rfl rfl (Y_rem rfl rfl (by decide)) ?_
              refine TL_grun rfl rfl ?_
              refine TL_y rfl rfl (Y_field_addr rfl) ?_
              refine TL_grun rfl rfl ?_
              refine TL_y rfl rfl (Y_load rfl rfl) ?_
              refine TL_grun rfl rfl ?_
              refine TL_y rfl rfl (Y_ne rfl rfl) ?_
              refine TL_name 125 (v' := .bool false) rfl (congrArg Value.bool (decide_eq_false (by simp [htm]))) ?_
              refine TL_y rfl rfl (Y_pick_f rfl rfl) ?_
              refine TL_nil ?_
              refine T_cond_false rfl ?_
              refine T_skip ?_
              refine thenS_normal ?_
              obtain ⟨k0, hk0, hk1, hk2'⟩ := hkp
              have hk0l := (List.getElem?_eq_some_iff.1 hk0).1
              obtain ⟨kf, hkf⟩ : ∃ kf : Nat, p.frm = (kf : Int) := ⟨p.frm.toNat, by omega⟩
              refine T_region ?_
              refine TL_y rfl rfl (Y_assign rfl) ?_
              refine TL_nil ?_
              refine T_seq ?_
              refine T_region ?_
              refine TL_y rfl rfl (Y_field_addr rfl) ?_
              refine TL_y rfl rfl (Y_load rfl rfl) ?_
              refine TL_name 128 (v' := .int .i64 (kf : Int)) rfl (by congr 1) ?_
              refine TL_y rfl rfl (Y_assign rfl) ?_
              refine TL_nil ?_
              refine T_block ?_
              refine T_loopK (σ := Nat × Bool) [0, 1, 5, 7, 11, 12, 13, 18] (fun g => g.1 % 3 = k0 % 3 ∧ (g.2 = true ∨ g.1 ≤ k0) ∧ g.1 ≤ bodies.length + 3) (fun g kv => (21, .int .i64 (g.1 : Int)) :: (20, .bool g.2) :: kv) (fun g => cells b18 (packC p) 66 :: nt b1 ⟨s1.nodes, s1.last, outN s1.L p.id⟩ :: sl strR A c bodies :: sl (intR .i64) A2 c2 picks :: L) (fun g => bodies.length + 3 - g.1) ((kf, false)) rfl (⟨by simp only; omega, .inr (by simp only; omega), by simp only; omega⟩) (GivesTo.g) (sub_cons rfl (sub_cons rfl (sub_cons rfl (sub_cons rfl (sub_cons rfl (sub_cons rfl (sub_cons rfl (sub_cons rfl (sub_cons rfl (sub_cons rfl (sub_nil))))))))))) ?_
              rintro ⟨kk, kn⟩ ⟨hm, hkn, hkl⟩
              dsimp only at hm hkn hkl ⊢
              refine T_seq ?_
              refine T_region ?_
              refine TL_y rfl rfl (Y_move rfl) ?_
              refine TL_y rfl rfl (Y_move rfl) ?_
              refine TL_y rfl rfl (Y_len rfl) ?_
              refine TL_y rfl rfl (Y_lt rfl rfl) ?_
              refine TL_nil ?_
              refine T_if rfl (fun h132 => ?_) (fun h132 => ?_)
              · refine T_skip ?_
                refine thenS_normal ?_
                refine T_seq ?_
                refine T_block ?_
                obtain ⟨z, hz⟩ : ∃ z, bodies[kk]? = some z := ⟨_, List.getElem?_eq_getElem (by omega)⟩
                refine T_at_str (A := A) (c := c) slk hz fun bq oq _ haq => ?_
                have hzk : z ≠ p.body → kk ≠ k0 := fun hne e => by rw [e, hk0] at hz; cases hz; exact hne rfl
                refine T_region_draw_last _ [0, 1, 3, 3, 15, 31, 3, 67, 255, 511, 1023] [] [(0, true), (1, true), (2, true), (3, true), (4, true), (5, true), (6, true), (7, true), (8, true), (9, true), (10, true)] (by kernel_rfl) (by decide +kernel) (Gives.refl _) ?_
                refine TF_y rfl rfl (Y_move rfl) ?_
                refine TF_y rfl rfl (Y_move rfl) ?_
                refine TF_split 136 rfl (fun h136 => ?_) (fun h136 => ?_)
                · refine TF_gskip rfl rfl rfl rfl rfl ?_
                  refine TF_gskip rfl rfl rfl rfl rfl ?_
                  refine TF_gskip rfl rfl rfl rfl rfl ?_
                  refine TF_gskip rfl rfl rfl rfl rfl ?_
                  refine TF_gskip rfl rfl rfl rfl rfl ?_
                  refine TF_gskip rfl rfl rfl rfl rfl ?_
                  refine TF_gskip rfl rfl rfl rfl rfl ?_
                  refine TF_y rfl rfl (Y_pick_t rfl rfl) ?_
                  refine TF_y rfl rfl (Y_assign rfl) ?_
                  refine TF_nil ?_
                  refine inB_normal ?_
                  refine thenS_normal ?_
                  refine T_region_last ?_
                  refine TL_y rfl rfl (Y_move rfl) ?_
                  refine TL_y rfl rfl (Y_add rfl rfl (by omega)) ?_
                  refine TL_name 134 (v' := .int .i64 ((kk + 3 : Nat) : Int)) rfl (rfl) ?_
                  refine TL_y rfl rfl (Y_assign rfl) ?_
                  refine TL_nil ?_
                  refine thenS_normal ?_
                  exact ⟨(kk + 3, true), ⟨by simp only; omega, .inl rfl, by simp only; omega⟩, by simp only; omega, holds_to (sub_cons rfl (sub_cons rfl (sub_cons rfl (sub_cons rfl (sub_cons rfl (sub_cons rfl (sub_cons rfl (sub_cons rfl (sub_cons rfl (sub_cons rfl (sub_nil))))))))))) GivesTo.g⟩
                · refine TF_gy rfl rfl rfl rfl (Y_move rfl) ?_
                  refine TF_gy rfl rfl rfl rfl (Y_move rfl) ?_
                  refine TF_gy rfl rfl rfl rfl (Y_index_at rfl rfl (by omega) haq) ?_
                  refine TF_gy rfl rfl rfl rfl (Y_load_row rfl rfl) ?_
                  refine TF_gy rfl rfl rfl rfl (Y_field_addr rfl) ?_
                  refine TF_gy rfl rfl rfl rfl (Y_load rfl rfl) ?_
                  refine TF_gy rfl rfl rfl rfl (Y_str_eq rfl rfl) ?_
                  refine TF_y rfl rfl (Y_pick_f rfl rfl) ?_
                  refine TF_y rfl rfl (Y_assign rfl) ?_
                  refine TF_nil ?_
                  refine inB_normal ?_
                  refine thenS_normal ?_
                  refine T_region_last ?_
                  refine TL_y rfl rfl (Y_move rfl) ?_
                  refine TL_y rfl rfl (Y_add rfl rfl (by omega)) ?_
                  refine TL_name 134 (v' := .int .i64 ((kk + 3 : Nat) : Int)) rfl (rfl) ?_
                  refine TL_y rfl rfl (Y_assign rfl) ?_
                  refine TL_nil ?_
                  refine thenS_normal ?_
                  exact ⟨(kk + 3, decide (z = p.body)), ⟨by simp only; omega, by by_cases e : z = p.body; (left; simp [e]); (right; have := hzk e; have h2 := hkn.resolve_left (by simp [h136]); show kk + 3 ≤ k0; omega), by simp only; omega⟩, by simp only; omega, holds_to (sub_cons rfl (sub_cons rfl (sub_cons rfl (sub_cons rfl (sub_cons rfl (sub_cons rfl (sub_cons rfl (sub_cons rfl (sub_cons rfl (sub_cons rfl (sub_nil))))))))))) GivesTo.g⟩
              · refine T_exit ?_
                refine thenS_exit ?_
                refine thenS_exit ?_
                refine inB_hit ?_
                refine thenS_normal ?_
                refine T_seq ?_
                have hkt : kn = true := hkn.resolve_right (by omega)
                refine T_region ?_
                refine TL_y rfl rfl (Y_move rfl) ?_
                refine TL_y rfl rfl (Y_not rfl) ?_
                refine TL_name 146 (v' := .bool false) rfl (congrArg Value.bool (by rw [hkt]; rfl)) ?_
                refine TL_nil ?_
                refine T_cond_false rfl ?_
                refine T_skip ?_
                refine thenS_normal ?_
                refine T_region_last ?_
                refine TL_y rfl rfl (Y_move rfl) ?_
                refine TL_y rfl rfl (Y_add rfl rfl (by omega)) ?_
                refine TL_name 148 (v' := .int .i64 ((k + 1 : Nat) : Int)) rfl (rfl) ?_
                refine TL_y rfl rfl (Y_assign rfl) ?_
                refine TL_nil ?_
                refine inB_normal ?_
                refine thenS_normal ?_
                refine T_region_last ?_
                refine TL_y rfl rfl (Y_move rfl) ?_
                refine TL_y rfl rfl (Y_add rfl rfl (by omega)) ?_
                refine TL_name 79 (v' := .int .i64 ((j + 1 : Nat) : Int)) rfl (rfl) ?_
                refine TL_y rfl rfl (Y_assign rfl) ?_
                refine TL_nil ?_
                refine thenS_normal ?_
                exact ⟨⟨j + 1, ⟨s1.nodes, s1.last, outN s1.L p.id⟩, d, k + 1⟩, ⟨⟨by simp only; omega, by simp only; omega⟩, hnd1, by simp only; omega, by simp only; omega, fun q hq => hkb1 q (List.mem_filter.1 hq).1⟩, by simp only; omega, holds_to (sub_cons rfl (sub_cons rfl (sub_cons rfl (sub_cons rfl (sub_cons rfl (sub_cons rfl (sub_cons rfl (sub_nil)))))))) GivesTo.g⟩
        · refine T_exit ?_
          refine thenS_exit ?_
          refine thenS_exit ?_
          refine inB_hit ?_
          refine thenS_normal ?_
          refine T_region ?_
          refine TL_y rfl rfl (Y_move rfl) ?_
          refine TL_pullk b1 ?_
          refine TL_call rfl rfl (netLen_spec) ?_
          rintro _ _ ⟨rfl, rfl⟩
          refine TL_y rfl rfl (Y_move rfl) ?_
          refine TL_y rfl rfl (Y_move rfl) ?_
          refine TL_y rfl rfl (Y_add rfl rfl (by omega)) ?_
          refine TL_y rfl rfl (Y_move rfl) ?_
          refine TL_y rfl rfl (Y_sub rfl rfl (by omega)) ?_
          refine TL_y rfl rfl (Y_eq rfl rfl) ?_
          refine TL_name 156 (v' := .bool true) rfl (congrArg Value.bool (decide_eq_true (by omega))) ?_
          refine TL_y rfl rfl (Y_assign rfl) ?_
          refine TL_nil ?_
          refine T_ret ?_
          exact RetG_1 (.inl rfl) rfl (ResV.tmp rfl) GivesTo.g (⟨rfl, rfl⟩)
      · refine TL_gskip rfl rfl rfl rfl ?_
        refine TL_gskip rfl rfl rfl rfl ?_
        refine TL_y rfl rfl (Y_pick_f rfl rfl) ?_
        refine TL_nil ?_
        refine T_cond_false rfl ?_
        refine T_exit ?_
        refine thenS_exit ?_
        refine thenS_exit ?_
        refine inB_hit ?_
        refine thenS_normal ?_
        refine T_region ?_
        refine TL_y rfl rfl (Y_move rfl) ?_
        refine TL_pullk b1 ?_
        refine TL_call rfl rfl (netLen_spec) ?_
        rintro _ _ ⟨rfl, rfl⟩
        refine TL_y rfl rfl (Y_move rfl) ?_
        refine TL_y rfl rfl (Y_move rfl) ?_
        refine TL_y rfl rfl (Y_add rfl rfl (by omega)) ?_
        refine TL_y rfl rfl (Y_move rfl) ?_
        refine TL_y rfl rfl (Y_sub rfl rfl (by omega)) ?_
        refine TL_y rfl rfl (Y_eq rfl rfl) ?_
        refine TL_name 156 (v' := .bool true) rfl (congrArg Value.bool (decide_eq_true (by omega))) ?_
        refine TL_y rfl rfl (Y_assign rfl) ?_
        refine TL_nil ?_
        refine T_ret ?_
        exact RetG_1 (.inl rfl) rfl (ResV.tmp rfl) GivesTo.g (⟨rfl, rfl⟩)
  · refine TL_gskip rfl rfl rfl rfl ?_
    refine TL_gskip rfl rfl rfl rfl ?_
    refine TL_y rfl rfl (Y_pick_f rfl rfl) ?_
    refine TL_nil ?_
    refine T_cond_false rfl ?_
    refine T_exit ?_
    refine thenS_exit ?_
    refine thenS_exit ?_
    refine inB_hit ?_
    refine thenS_normal ?_
    obtain ⟨S, hS⟩ : ∃ S : Nat, S = s.L.length := ⟨_, rfl⟩
    rw [← hS]
    refine T_region ?_
    refine TL_y rfl rfl (Y_assign rfl) ?_
    refine TL_y rfl rfl (Y_assign rfl) ?_
    refine TL_nil ?_
    refine T_seq ?_
    refine T_region ?_
    refine TL_y rfl rfl (Y_assign rfl) ?_
    refine TL_nil ?_
    refine T_block ?_
    refine T_loopK (σ := Bg2) [0, 1, 5, 7] (fun g => (g.i ≤ picks.length ∧ g.i ≤ 5000) ∧ g.s.nodes = 3 ∧ (0 ≤ g.s.last ∧ g.s.last ≤ 60000 + (g.i : Int)) ∧ (g.s.L.length + g.k = S + g.d ∧ g.d ≤ g.i ∧ g.k ≤ g.i) ∧ ∀ p ∈ g.s.L, KB bodies p) (fun g kv => (13, .int .i64 (g.i : Int)) :: (11, .int .i64 (g.d : Int)) :: (12, .int .i64 (g.k : Int)) :: kv) (fun g => nt b1 g.s :: sl strR A c bodies :: sl (intR .i64) A2 c2 picks :: L) (fun g => picks.length - g.i) (⟨0, s, 0, 0⟩) rfl (⟨by simp, hnd, by simp only; omega, by simp only; omega, hkb⟩) (GivesTo.g) (sub_cons rfl (sub_cons rfl (sub_cons rfl (sub_cons rfl (sub_cons rfl (sub_cons rfl (sub_cons rfl (sub_nil)))))))) ?_
    rintro ⟨j, s1, d, k⟩ ⟨⟨hj, hj2⟩, hnd1, hs1, hcnt, hkb1⟩
    dsimp only at hj hj2 hnd1 hs1 hcnt hkb1 ⊢
    refine T_seq ?_
    refine T_region ?_
    refine TL_y rfl rfl (Y_move rfl) ?_
    refine TL_y rfl rfl (Y_move rfl) ?_
    refine TL_y rfl rfl (Y_len rfl) ?_
    refine TL_y rfl rfl (Y_lt rfl rfl) ?_
    refine TL_y rfl rfl (Y_move rfl) ?_
    refine TL_splitd 74 rfl (fun h74 => ?_) (fun h74 => ?_)
    · refine TL_grun rfl rfl ?_
      refine TL_y rfl rfl (Y_move rfl) ?_
      refine TL_grun rfl rfl ?_
      refine TL_y rfl rfl (Y_lt rfl rfl) ?_
      refine TL_y rfl rfl (Y_pick_t rfl rfl) ?_
      refine TL_nil ?_
      refine T_if rfl (fun h77 => ?_) (fun h77 => ?_)
      · refine T_skip ?_
        refine thenS_normal ?_
        refine T_seq ?_
        refine T_block ?_
        refine T_region ?_
        refine TL_y rfl rfl (Y_move rfl) ?_
        refine TL_y rfl rfl (Y_move rfl) ?_
        refine TL_y rfl rfl (Y_move rfl) ?_
        obtain ⟨w, hw⟩ : ∃ w, picks[j]? = some w := ⟨_, List.getElem?_eq_getElem (by omega)⟩
        refine TL_index_int rfl rfl rfl slk hw ?_
        intro hi84 bi84 oi84
        refine TL_y rfl rfl (Y_load_row rfl rfl) ?_
        refine TL_pullk b1 ?_
        refine TL_call rfl rfl (netAt_spec w hi84) ?_
        rintro _ _ ⟨rfl, rfl⟩
        refine TL_y rfl rfl (Y_move rfl) ?_
        refine TL_y rfl rfl (Y_extract rfl rfl) ?_
        refine TL_y rfl rfl (Y_extract rfl rfl) ?_
        refine TL_y rfl rfl (Y_assign rfl) ?_
        refine TL_y rfl rfl (Y_assign rfl) ?_
        refine TL_nil ?_
        refine T_seq ?_
        refine T_region ?_
        refine TL_y rfl rfl (Y_move rfl) ?_
        refine TL_y rfl rfl (Y_not rfl) ?_
        refine TL_nil ?_
        refine T_cond rfl (fun h90 => ?_) (fun h90 => ?_)
        · refine T_exit ?_
          refine thenS_exit ?_
          refine inB_miss rfl ?_
          refine thenS_exit ?_
          refine thenS_exit ?_
          refine inB_hit ?_
          refine thenS_normal ?_
          refine T_region ?_
          refine TL_y rfl rfl (Y_move rfl) ?_
          refine TL_pullk b1 ?_
          refine TL_call rfl rfl (netLen_spec) ?_
          rintro _ _ ⟨rfl, rfl⟩
          refine TL_y rfl rfl (Y_move rfl) ?_
          refine TL_y rfl rfl (Y_move rfl) ?_
          refine TL_y rfl rfl (Y_add rfl rfl (by omega)) ?_
          refine TL_y rfl rfl (Y_move rfl) ?_
          refine TL_y rfl rfl (Y_sub rfl rfl (by omega)) ?_
          refine TL_y rfl rfl (Y_eq rfl rfl) ?_
          refine TL_name 156 (v' := .bool true) rfl (congrArg Value.bool (decide_eq_true (by omega))) ?_
          refine TL_y rfl rfl (Y_assign rfl) ?_
          refine TL_nil ?_
          refine T_ret ?_
          exact RetG_1 (.inl rfl) rfl (ResV.tmp rfl) GivesTo.g (⟨rfl, rfl⟩)
        · obtain ⟨p, hpm, hpe⟩ := at_mem (s := s1) (k := w) (by simpa using h90)
          rw [hpe]
          refine T_skip ?_
          refine thenS_normal ?_
          refine T_seq ?_
          refine T_pullk b1 ?_
          refine T_nt fun bt hni => ?_
          refine T_gives (nt_close b1 s1 hni) ?_
          have hids := hni.ids p hpm
          have hfd := find_mem hni hpm
          have hpk := packOk_of hni hpm
          have hn3 : isN s1 p.frm := by unfold isN; omega
          have hn4 : isN s1 p.to_ := by unfold isN; omega
          have hkp := hkb1 p hpm
          have htm := kb_tm hkp
          have hol := out_len hni hpm
          refine T_region ?_
          refine TL_y rfl rfl (Y_move rfl) ?_
          refine TL_y rfl rfl (Y_rem rfl rfl (by decide)) ?_
          refine TL_name 92 (v' := .int .i64 ((j % 3 : Nat) : Int)) rfl (by congr 1) ?_
          refine TL_y rfl rfl (Y_eq rfl rfl) ?_
          refine TL_nil ?_
          refine T_if rfl (fun h93 => ?_) (fun h93 => ?_)
          · refine T_seq ?_
            refine T_region ?_
            refine TL_y rfl rfl (Y_move rfl) ?_
            refine TL_y rfl rfl (Y_move rfl) ?_
            refine TL_pullk b1 ?_
            refine TL_call rfl rfl (netTwice_spec p.id hpk.1 (by omega)) ?_
            rintro _ _ ⟨rfl, rfl⟩
            have htw : twiceS s1 p.id = (⟨s1.nodes, s1.last + 1, s1.L ++ [⟨s1.last + 1, p.frm, p.to_, p.body⟩]⟩, s1.last + 1, 0) := by unfold twiceS; rw [hfd]; exact ((send_bag (body := p.body) hn3 hn4 (by omega)).resolve_left (fun h => by omega)).2
            rw [htw]
            dsimp only
            refine TL_y rfl rfl (Y_move rfl) ?_
            refine TL_y rfl rfl (Y_extract rfl rfl) ?_
            refine TL_y rfl rfl (Y_extract rfl rfl) ?_
            refine TL_y rfl rfl (Y_assign rfl) ?_
            refine TL_y rfl rfl (Y_assign rfl) ?_
            refine TL_nil ?_
            refine T_region ?_
            refine TL_y rfl rfl (Y_move rfl) ?_
            refine TL_y rfl rfl (Y_ne rfl rfl) ?_
            refine TL_name 101 (v' := .bool false) rfl (congrArg Value.bool (decide_eq_false (by simp))) ?_
            refine TL_nil ?_
            refine T_cond_false rfl ?_
            refine T_skip ?_
            refine thenS_normal ?_
            refine T_region ?_
            refine TL_y rfl rfl (Y_move rfl) ?_
            refine TL_y rfl rfl (Y_add rfl rfl (by omega)) ?_
            refine TL_name 103 (v' := .int .i64 ((d + 1 : Nat) : Int)) rfl (rfl) ?_
            refine TL_y rfl rfl (Y_assign rfl) ?_
            refine TL_nil ?_
            refine T_exit ?_
            refine thenS_exit ?_
            refine inB_hit ?_
            refine thenS_normal ?_
            refine T_region_last ?_
            refine TL_y rfl rfl (Y_move rfl) ?_
            refine TL_y rfl rfl (Y_add rfl rfl (by omega)) ?_
            refine TL_name 79 (v' := .int .i64 ((j + 1 : Nat) : Int)) rfl (rfl) ?_
            refine TL_y rfl rfl (Y_assign rfl) ?_
            refine TL_nil ?_
            refine thenS_normal ?_
            exact ⟨⟨j + 1, ⟨s1.nodes, s1.last + 1, s1.L ++ [⟨s1.last + 1, p.frm, p.to_, p.body⟩]⟩, d + 1, k⟩, ⟨⟨by simp only; omega, by simp only; omega⟩, hnd1, by simp only; omega, by simp; omega, fun q hq => by rcases List.mem_append.1 hq with h | h; exact hkb1 q h; (simp at h; subst h; exact hkp)⟩, by simp only; omega, holds_to (sub_cons rfl (sub_cons rfl (sub_cons rfl (sub_cons rfl (sub_cons rfl (sub_cons rfl (sub_cons rfl (sub_nil)))))))) GivesTo.g⟩
          · refine T_skip ?_
            refine thenS_normal ?_
            refine T_region ?_
            refine TL_y rfl rfl (Y_move rfl) ?_
            refine TL_y rfl rfl (Y_move rfl) ?_
            refine TL_pullk b1 ?_
            refine TL_call rfl rfl (netTake_spec p.id hpk.1) ?_
            rintro _ _ ⟨rfl, rfl⟩
            have htk : takeS s1 p.id = (⟨s1.nodes, s1.last, outN s1.L p.id⟩, p, 0) := by unfold takeS; rw [hfd]
            rw [htk]
            dsimp only
            refine TL_y rfl rfl (Y_move rfl) ?_
            refine TL_y rfl rfl (Y_extract rfl rfl) ?_
            refine TL_y rfl rfl (Y_extract rfl rfl) ?_
            refine TL_alloc rfl rfl ?_
            intro b18
            refine TL_store rfl rfl rfl rfl rfl rfl ?_
            refine TL_y rfl rfl (Y_assign rfl) ?_
            refine TL_nil ?_
            refine T_seq ?_
            refine T_region ?_
            refine TL_y rfl rfl (Y_move rfl) ?_
            refine TL_y rfl rfl (Y_ne rfl rfl) ?_
            refine TL_name 111 (v' := .bool false) rfl (congrArg Value.bool (decide_eq_false (by simp))) ?_
            refine TL_y rfl rfl (Y_move rfl) ?_
            refine TL_grun rfl rfl ?_
            refine TL_y rfl rfl (Y_field_addr rfl) ?_
            refine TL_grun rfl rfl ?_
            refine TL_y rfl rfl (Y_load rfl rfl) ?_
            refine TL_grun rfl rfl ?_
            refine TL_y rfl rfl (Y_move rfl) ?_
            refine TL_grun rfl rfl ?_
            refine TL_y rfl rfl (Y_ne rfl rfl) ?_
            refine TL_name 116 (v' := .bool false) rfl (congrArg Value.bool (decide_eq_false (by simp))) ?_
            refine TL_y rfl rfl (Y_pick_f rfl rfl) ?_
            refine TL_y rfl rfl (Y_move rfl) ?_
            refine TL_grun rfl rfl ?_
            refine TL_y rfl rfl (Y_field_addr rfl) ?_
            refine TL_grun rfl rfl ?_
            refine TL_y rfl rfl (Y_load rfl rfl) ?_
            refine TL_grun rfl rfl ?_
            refine TL_y rfl rfl (Y_add rfl rfl (by omega)) ?_
            refine TL_grun rfl rfl ?_
            refine TL_y rfl rfl (Y_rem rfl rfl (by decide)) ?_
            refine TL_grun rfl rfl ?_
            refine TL_y rfl rfl (Y_field_addr rfl) ?_
            refine TL_grun rfl rfl ?_
            refine TL_y rfl rfl (Y_load rfl rfl) ?_
            refine TL_grun rfl rfl ?_
            refine TL_y rfl rfl (Y_ne rfl rfl) ?_
            refine TL_name 125 (v' := .bool false) rfl (congrArg Value.bool (decide_eq_false (by simp [htm]))) ?_
            refine TL_y rfl rfl (Y_pick_f rfl rfl) ?_
            refine TL_nil ?_
            refine T_cond_false rfl ?_
            refine T_skip ?_
            refine thenS_normal ?_
            obtain ⟨k0, hk0, hk1, hk2'⟩ := hkp
            have hk0l := (List.getElem?_eq_some_iff.1 hk0).1
            obtain ⟨kf, hkf⟩ : ∃ kf : Nat, p.frm = (kf : Int) := ⟨p.frm.toNat, by omega⟩
            refine T_region ?_
            refine TL_y rfl rfl (Y_assign rfl) ?_
            refine TL_nil ?_
            refine T_seq ?_
            refine T_region ?_
            refine TL_y rfl rfl (Y_field_addr rfl) ?_
            refine TL_y rfl rfl (Y_load rfl rfl) ?_
            refine TL_name 128 (v' := .int .i64 (kf : Int)) rfl (by congr 1) ?_
            refine TL_y rfl rfl (Y_assign rfl) ?_
            refine TL_nil ?_
            refine T_block ?_
            refine T_loopK (σ := Nat × Bool) [0, 1, 5, 7, 11, 12, 13, 18] (fun g => g.1 % 3 = k0 % 3 ∧ (g.2 = true ∨ g.1 ≤ k0) ∧ g.1 ≤ bodies.length + 3) (fun g kv => (21, .int .i64 (g.1 : Int)) :: (20, .bool g.2) :: kv) (fun g => cells b18 (packC p) 66 :: nt b1 ⟨s1.nodes, s1.last, outN s1.L p.id⟩ :: sl strR A c bodies :: sl (intR .i64) A2 c2 picks :: L) (fun g => bodies.length + 3 - g.1) ((kf, false)) rfl (⟨by simp only; omega, .inr (by simp only; omega), by simp only; omega⟩) (GivesTo.g) (sub_cons rfl (sub_cons rfl (sub_cons rfl (sub_cons rfl (sub_cons rfl (sub_cons rfl (sub_cons rfl (sub_cons rfl (sub_cons rfl (sub_cons rfl (sub_nil))))))))))) ?_
            rintro ⟨kk, kn⟩ ⟨hm, hkn, hkl⟩
            dsimp only at hm hkn hkl ⊢
            refine T_seq ?_
            refine T_region ?_
            refine TL_y rfl rfl (Y_move rfl) ?_
            refine TL_y rfl rfl (Y_move rfl) ?_
            refine TL_y rfl rfl (Y_len rfl) ?_
            refine TL_y rfl rfl (Y_lt rfl rfl) ?_
            refine TL_nil ?_
            refine T_if rfl (fun h132 => ?_) (fun h132 => ?_)
            · refine T_skip ?_
              refine thenS_normal ?_
              refine T_seq ?_
              refine T_block ?_
              obtain ⟨z, hz⟩ : ∃ z, bodies[kk]? = some z := ⟨_, List.getElem?_eq_getElem (by omega)⟩
              refine T_at_str (A := A) (c := c) slk hz fun bq oq _ haq => ?_
              have hzk : z ≠ p.body → kk ≠ k0 := fun hne e => by rw [e, hk0] at hz; cases hz; exact hne rfl
              refine T_region_draw_last _ [0, 1, 3, 3, 15, 31, 3, 67, 255, 511, 1023] [] [(0, true), (1, true), (2, true), (3, true), (4, true), (5, true), (6, true), (7, true), (8, true), (9, true), (10, true)] (by kernel_rfl) (by decide +kernel) (Gives.refl _) ?_
              refine TF_y rfl rfl (Y_move rfl) ?_
              refine TF_y rfl rfl (Y_move rfl) ?_
              refine TF_split 136 rfl (fun h136 => ?_) (fun h136 => ?_)
              · refine TF_gskip rfl rfl rfl rfl rfl ?_
                refine TF_gskip rfl rfl rfl rfl rfl ?_
                refine TF_gskip rfl rfl rfl rfl rfl ?_
                refine TF_gskip rfl rfl rfl rfl rfl ?_
                refine TF_gskip rfl rfl rfl rfl rfl ?_
                refine TF_gskip rfl rfl rfl rfl rfl ?_
                refine TF_gskip rfl rfl rfl rfl rfl ?_
                refine TF_y rfl rfl (Y_pick_t rfl rfl) ?_
                refine TF_y rfl rfl (Y_assign rfl) ?_
                refine TF_nil ?_
                refine inB_normal ?_
                refine thenS_normal ?_
                refine T_region_last ?_
                refine TL_y rfl rfl (Y_move rfl) ?_
                refine TL_y rfl rfl (Y_add rfl rfl (by omega)) ?_
                refine TL_name 134 (v' := .int .i64 ((kk + 3 : Nat) : Int)) rfl (rfl) ?_
                refine TL_y rfl rfl (Y_assign rfl) ?_
                refine TL_nil ?_
                refine thenS_normal ?_
                exact ⟨(kk + 3, true), ⟨by simp only; omega, .inl rfl, by simp only; omega⟩, by simp only; omega, holds_to (sub_cons rfl (sub_cons rfl (sub_cons rfl (sub_cons rfl (sub_cons rfl (sub_cons rfl (sub_cons rfl (sub_cons rfl (sub_cons rfl (sub_cons rfl (sub_nil))))))))))) GivesTo.g⟩
              · refine TF_gy rfl rfl rfl rfl (Y_move rfl) ?_
                refine TF_gy rfl rfl rfl rfl (Y_move rfl) ?_
                refine TF_gy rfl rfl rfl rfl (Y_index_at rfl rfl (by omega) haq) ?_
                refine TF_gy rfl rfl rfl rfl (Y_load_row rfl rfl) ?_
                refine TF_gy rfl rfl rfl rfl (Y_field_addr rfl) ?_
                refine TF_gy rfl rfl rfl rfl (Y_load rfl rfl) ?_
                refine TF_gy rfl rfl rfl rfl (Y_str_eq rfl rfl) ?_
                refine TF_y rfl rfl (Y_pick_f rfl rfl) ?_
                refine TF_y rfl rfl (Y_assign rfl) ?_
                refine TF_nil ?_
                refine inB_normal ?_
                refine thenS_normal ?_
                refine T_region_last ?_
                refine TL_y rfl rfl (Y_move rfl) ?_
                refine TL_y rfl rfl (Y_add rfl rfl (by omega)) ?_
                refine TL_name 134 (v' := .int .i64 ((kk + 3 : Nat) : Int)) rfl (rfl) ?_
                refine TL_y rfl rfl (Y_assign rfl) ?_
                refine TL_nil ?_
                refine thenS_normal ?_
                exact ⟨(kk + 3, decide (z = p.body)), ⟨by simp only; omega, by by_cases e : z = p.body; (left; simp [e]); (right; have := hzk e; have h2 := hkn.resolve_left (by simp [h136]); show kk + 3 ≤ k0; omega), by simp only; omega⟩, by simp only; omega, holds_to (sub_cons rfl (sub_cons rfl (sub_cons rfl (sub_cons rfl (sub_cons rfl (sub_cons rfl (sub_cons rfl (sub_cons rfl (sub_cons rfl (sub_cons rfl (sub_nil))))))))))) GivesTo.g⟩
            · refine T_exit ?_
              refine thenS_exit ?_
              refine thenS_exit ?_
              refine inB_hit ?_
              refine thenS_normal ?_
              refine T_seq ?_
              have hkt : kn = true := hkn.resolve_right (by omega)
              refine T_region ?_
              refine TL_y rfl rfl (Y_move rfl) ?_
              refine TL_y rfl rfl (Y_not rfl) ?_
              refine TL_name 146 (v' := .bool false) rfl (congrArg Value.bool (by rw [hkt]; rfl)) ?_
              refine TL_nil ?_
              refine T_cond_false rfl ?_
              refine T_skip ?_
              refine thenS_normal ?_
              refine T_region_last ?_
              refine TL_y rfl rfl (Y_move rfl) ?_
              refine TL_y rfl rfl (Y_add rfl rfl (by omega)) ?_
              refine TL_name 148 (v' := .int .i64 ((k + 1 : Nat) : Int)) rfl (rfl) ?_
              refine TL_y rfl rfl (Y_assign rfl) ?_
              refine TL_nil ?_
              refine inB_normal ?_
              refine thenS_normal ?_
              refine T_region_last ?_
              refine TL_y rfl rfl (Y_move rfl) ?_
              refine TL_y rfl rfl (Y_add rfl rfl (by omega)) ?_
              refine TL_name 79 (v' := .int .i64 ((j + 1 : Nat) : Int)) rfl (rfl) ?_
              refine TL_y rfl rfl (Y_assign rfl) ?_
              refine TL_nil ?_
              refine thenS_normal ?_
              exact ⟨⟨j + 1, ⟨s1.nodes, s1.last, outN s1.L p.id⟩, d, k + 1⟩, ⟨⟨by simp only; omega, by simp only; omega⟩, hnd1, by simp only; omega, by simp only; omega, fun q hq => hkb1 q (List.mem_filter.1 hq).1⟩, by simp only; omega, holds_to (sub_cons rfl (sub_cons rfl (sub_cons rfl (sub_cons rfl (sub_cons rfl (sub_cons rfl (sub_cons rfl (sub_nil)))))))) GivesTo.g⟩
      · refine T_exit ?_
        refine thenS_exit ?_
        refine thenS_exit ?_
        refine inB_hit ?_
        refine thenS_normal ?_
        refine T_region ?_
        refine TL_y rfl rfl (Y_move rfl) ?_
        refine TL_pullk b1 ?_
        refine TL_call rfl rfl (netLen_spec) ?_
        rintro _ _ ⟨rfl, rfl⟩
        refine TL_y rfl rfl (Y_move rfl) ?_
        refine TL_y rfl rfl (Y_move rfl) ?_
        refine TL_y rfl rfl (Y_add rfl rfl (by omega)) ?_
        refine TL_y rfl rfl (Y_move rfl) ?_
        refine TL_y rfl rfl (Y_sub rfl rfl (by omega)) ?_
        refine TL_y rfl rfl (Y_eq rfl rfl) ?_
        refine TL_name 156 (v' := .bool true) rfl (congrArg Value.bool (decide_eq_true (by omega))) ?_
        refine TL_y rfl rfl (Y_assign rfl) ?_
        refine TL_nil ?_
        refine T_ret ?_
        exact RetG_1 (.inl rfl) rfl (ResV.tmp rfl) GivesTo.g (⟨rfl, rfl⟩)
    · refine TL_gskip rfl rfl rfl rfl ?_
      refine TL_gskip rfl rfl rfl rfl ?_
      refine TL_y rfl rfl (Y_pick_f rfl rfl) ?_
      refine TL_nil ?_
      refine T_cond_false rfl ?_
      refine T_exit ?_
      refine thenS_exit ?_
      refine thenS_exit ?_
      refine inB_hit ?_
      refine thenS_normal ?_
      refine T_region ?_
      refine TL_y rfl rfl (Y_move rfl) ?_
      refine TL_pullk b1 ?_
      refine TL_call rfl rfl (netLen_spec) ?_
      rintro _ _ ⟨rfl, rfl⟩
      refine TL_y rfl rfl (Y_move rfl) ?_
      refine TL_y rfl rfl (Y_move rfl) ?_
      refine TL_y rfl rfl (Y_add rfl rfl (by omega)) ?_
      refine TL_y rfl rfl (Y_move rfl) ?_
      refine TL_y rfl rfl (Y_sub rfl rfl (by omega)) ?_
      refine TL_y rfl rfl (Y_eq rfl rfl) ?_
      refine TL_name 156 (v' := .bool true) rfl (congrArg Value.bool (decide_eq_true (by omega))) ?_
      refine TL_y rfl rfl (Y_assign rfl) ?_
      refine TL_nil ?_
      refine T_ret ?_
      exact RetG_1 (.inl rfl) rfl (ResV.tmp rfl) GivesTo.g (⟨rfl, rfl⟩)
end Go.SL
