/- Codec: the walks of a message's writer and of what hands bytes out. -/
import Derived.Test.YtibejpgjgkeheaaWrB
set_option linter.unusedVariables false
set_option linter.unusedSimpArgs false
namespace Go.SL
open Go Go.Proofs
structure MsgP where
  cut : Option Addr × Nat
  voted : Option Addr × Nat
  seen : Option Addr × Nat
  events : Option Addr × Nat
abbrev msgC (m : MsgD) (p : MsgP) : List Value := [.int .i64 m.kind, .int .i64 m.frm, .int .i64 m.to_, .int .i64 m.bal.1, .int .i64 m.bal.2, .int .i64 m.slot, .bool m.en.noop, .string m.en.order.token, .string m.en.order.cart, .int .i64 m.en.order.epoch, .slice p.cut.1 m.en.order.cut.length p.cut.2,
  .slice p.voted.1 m.voted.length p.voted.2, .slice p.seen.1 m.seen.length p.seen.2, .slice p.events.1 m.events.length p.events.2, .int .i64 m.time]
structure MsgK (L : List HP) (m : MsgD) (p : MsgP) : Prop where
  cut : SlK L (intR .i64) p.cut.1 p.cut.2 m.en.order.cut
  voted : SlK L votedR p.voted.1 p.voted.2 m.voted
  seen : SlK L (intR .i64) p.seen.1 p.seen.2 m.seen
  events : SlK L eventR p.events.1 p.events.2 m.events
structure MsgOk (m : MsgD) : Prop where
  kind : intIn .i64 m.kind
  frm : intIn .i64 m.frm
  to_ : intIn .i64 m.to_
  b1 : intIn .i64 m.bal.1
  b2 : intIn .i64 m.bal.2
  slot : intIn .i64 m.slot
  en : orderOk' m.en.order
  time : intIn .i64 m.time
theorem MsgK.tail {p0 : HP} {L : List HP} {m : MsgD} {p : MsgP} (h : MsgK L m p) : MsgK (p0 :: L) m p := ⟨h.cut.tail, h.voted.tail, h.seen.tail, h.events.tail⟩
theorem wVoteds_next {v : List VotedD} {i : Nat} {n : VotedD} {s : WS} (h : v[i]? = some n) : wVoteds (v.take (i + 1)) s = wVoted n (wVoteds (v.take i) s) := by
  rw [take_at h, wVoteds, List.foldl_append]; rfl
theorem wEvents_next {v : List EventD} {i : Nat} {n : EventD} {s : WS} (h : v[i]? = some n) : wEvents (v.take (i + 1)) s = wEvent n (wEvents (v.take i) s) := by
  rw [take_at h, wEvents, List.foldl_append]; rfl
theorem sum_split {α : Type} (f : α → Nat) {l : List α} {i : Nat} {x : α} (h : l[i]? = some x) : ((l.take i).map f).sum + f x ≤ (l.map f).sum := by
  have h1 : l = l.take i ++ x :: l.drop (i + 1) := by rw [← drop_at h, List.take_append_drop]
  have h2 : (l.map f).sum = ((l.take i ++ x :: l.drop (i + 1)).map f).sum := by rw [← h1]
  rw [h2]; simp only [List.map_append, List.map_cons, List.sum_append, List.sum_cons]; omega
set_option maxRecDepth 10000 in
theorem wmsg_spec {L : List HP} {b : Nat} {s : WS} (m : MsgD) (p : MsgP) (hx : MsgOk m) (hk : MsgK L m p) (hb : s.1.length + cMsg m ≤ 140737488355328) : Fn Try.prog 112 #[.pointer (some ⟨b, 0, none⟩), .agg (List.toArray (msgC m p))] (wr b s :: L) (fun v L' => v = .tuple #[] ∧ L' = wr b (wMsg m s) :: L) := by
  have h1 := wNum_len 255 m.kind s (by decide)
  have h2 := wNum_len 6 m.frm (wNum 255 m.kind s) (by decide)
  have h3 := wNum_len 6 m.to_ (wNum 6 m.frm (wNum 255 m.kind s)) (by decide)
  have h4 := wBal_len m.bal (wNum 6 m.to_ (wNum 6 m.frm (wNum 255 m.kind s)))
  have h5 := wNum_len 2147483647 m.slot (wBal m.bal (wNum 6 m.to_ (wNum 6 m.frm (wNum 255 m.kind s)))) (by decide)
  have h6 := wEntry_len m.en (wNum 2147483647 m.slot (wBal m.bal (wNum 6 m.to_ (wNum 6 m.frm (wNum 255 m.kind s)))))
  generalize hu : wEntry m.en (wNum 2147483647 m.slot (wBal m.bal (wNum 6 m.to_ (wNum 6 m.frm (wNum 255 m.kind s))))) = u at h6
  have h7 := wNum_len 4096 (m.voted.length : Int) u (by decide)
  generalize hu2 : wNum 4096 (m.voted.length : Int) u = u2 at h7
  have h8 := wVoteds_len m.voted u2
  have h9 := wVec_len m.seen (wVoteds m.voted u2)
  have h10 := wNum_len 4096 (m.events.length : Int) (wVec m.seen (wVoteds m.voted u2)) (by decide)
  generalize hu3 : wNum 4096 (m.events.length : Int) (wVec m.seen (wVoteds m.voted u2)) = u3 at h10
  have h11 := wEvents_len m.events u3
  have hfin : wMsg m s = wNum 4611686018427387904 m.time (wEvents m.events u3) := by rw [← hu3, ← hu2, ← hu]; rfl
  have cs : cSeal m.en.order = m.en.order.token.size + m.en.order.cart.size + 10 * m.en.order.cut.length + 60 := rfl
  simp only [cMsg] at hb
  refine Fn_enter Try.func112 rfl rfl rfl rfl ?_
  refine hk.voted.tail.lens fun hl1 => ?_
  refine hk.events.tail.lens fun hl2 => ?_
  simp only [maxEl] at hl1 hl2
  refine T_region ?_
  refine TL_box rfl rfl rfl ?_
  intro b3
  refine TL_nil ?_
  refine T_region ?_
  refine TL_y rfl rfl (Y_move rfl) ?_
  refine TL_y rfl rfl (Y_field_addr rfl) ?_
  refine TL_y rfl rfl (Y_load rfl rfl) ?_
  refine TL_pullk b ?_
  refine TL_call rfl rfl (wnumber_spec 255 m.kind hx.kind (by decide) (by omega)) ?_
  rintro _ _ ⟨rfl, rfl⟩
  refine TL_nil ?_
  refine T_region ?_
  refine TL_y rfl rfl (Y_move rfl) ?_
  refine TL_y rfl rfl (Y_field_addr rfl) ?_
  refine TL_y rfl rfl (Y_load rfl rfl) ?_
  refine TL_pullk b ?_
  refine TL_call rfl rfl (wnumber_spec 6 m.frm hx.frm (by decide) (by omega)) ?_
  rintro _ _ ⟨rfl, rfl⟩
  refine TL_nil ?_
  refine T_region ?_
  refine TL_y rfl rfl (Y_move rfl) ?_
  refine TL_y rfl rfl (Y_field_addr rfl) ?_
  refine TL_y rfl rfl (Y_load rfl rfl) ?_
  refine TL_pullk b ?_
  refine TL_call rfl rfl (wnumber_spec 6 m.to_ hx.to_ (by decide) (by omega)) ?_
  rintro _ _ ⟨rfl, rfl⟩
  refine TL_nil ?_
  refine T_region ?_
  refine TL_y rfl rfl (Y_move rfl) ?_
  refine TL_y rfl rfl (Y_field_addr rfl) ?_
  refine TL_y rfl rfl (Y_load_agg rfl rfl) ?_
  refine TL_pullk b ?_
  refine TL_call rfl rfl (wballot_spec m.bal hx.b1 hx.b2 (by omega)) ?_
  rintro _ _ ⟨rfl, rfl⟩
  refine TL_nil ?_
  refine T_region ?_
  refine TL_y rfl rfl (Y_move rfl) ?_
  refine TL_y rfl rfl (Y_field_addr rfl) ?_
  refine TL_y rfl rfl (Y_load rfl rfl) ?_
  refine TL_pullk b ?_
  refine TL_call rfl rfl (wnumber_spec 2147483647 m.slot hx.slot (by decide) (by omega)) ?_
  rintro _ _ ⟨rfl, rfl⟩
  refine TL_nil ?_
  refine T_region ?_
  refine TL_y rfl rfl (Y_move rfl) ?_
  refine TL_y rfl rfl (Y_field_addr rfl) ?_
  refine TL_y rfl rfl (Y_load_agg rfl rfl) ?_
  refine TL_pullk b ?_
  refine TL_call rfl rfl (wentry_spec m.en hx.en hk.cut.tail (by omega)) ?_
  rintro _ _ ⟨rfl, rfl⟩
  rw [hu]
  refine TL_nil ?_
  refine T_region ?_
  refine TL_y rfl rfl (Y_move rfl) ?_
  refine TL_y rfl rfl (Y_field_addr rfl) ?_
  refine TL_y rfl rfl (Y_load rfl rfl) ?_
  refine TL_y rfl rfl (Y_len rfl) ?_
  refine TL_pullk b ?_
  refine TL_call rfl rfl (wnumber_spec 4096 (m.voted.length : Int) (i64In_mk (by omega)) (by decide) (by omega)) ?_
  rintro _ _ ⟨rfl, rfl⟩
  rw [hu2]
  refine TL_nil ?_
  refine T_seq ?_
  refine T_region ?_
  refine TL_y rfl rfl (Y_field_addr rfl) ?_
  refine TL_y rfl rfl (Y_load rfl rfl) ?_
  refine TL_y rfl rfl (Y_len rfl) ?_
  refine TL_y rfl rfl (Y_move rfl) ?_
  refine TL_nil ?_
  refine T_block ?_
  refine T_loopK (σ := Nat) [0, 3, 38, 39] (fun i => i ≤ m.voted.length) (fun i kv => (40, .int .i64 (i : Int)) :: kv) (fun i => wr b (wVoteds (m.voted.take i) u2) :: cells b3 (msgC m p) 44 :: L) (fun i => m.voted.length - i) (0) rfl (Nat.zero_le _) (GivesTo.g (L' := wr b u2 :: cells b3 (msgC m p) 44 :: L)) (sub_cons rfl (sub_cons rfl (sub_cons rfl (sub_cons rfl (sub_cons rfl (sub_nil)))))) ?_
  intro i hi
  refine T_region ?_
  refine TL_y rfl rfl (Y_lt rfl rfl) ?_
  refine TL_nil ?_
  refine T_seq ?_
  refine T_if rfl (fun h41 => ?_) (fun h41 => ?_)
  · refine T_skip ?_
    refine thenS_normal ?_
    refine T_seq ?_
    refine T_block ?_
    refine T_region ?_
    obtain ⟨q, hq⟩ : ∃ q, m.voted[i]? = some q := ⟨_, List.getElem?_eq_getElem (by omega)⟩
    have hil := wVoteds_len (m.voted.take i) u2
    have hsp := sum_split cVoted hq
    have hnx := wVoteds_next (s := u2) hq
    refine TL_index rfl rfl rfl hk.voted.tail.tail hq ?_
    intro bi42 oi42 li42
    refine TL_ex fun pq hok => ?_
    simp only [List.cons_append, List.nil_append]
    refine TL_y rfl rfl (Y_load_row_agg (vs := votedC q pq) rfl rfl) ?_
    refine TL_alloc rfl rfl ?_
    intro b5
    refine TL_store rfl rfl rfl rfl rfl rfl ?_
    refine TL_nil ?_
    refine T_region_last ?_
    refine TL_y rfl rfl (Y_move rfl) ?_
    refine TL_y rfl rfl (Y_load_agg rfl rfl) ?_
    refine TL_pullk b ?_
    refine TL_call rfl rfl (wvoted_spec q hok (A := pq.1) (c := pq.2) slk (by simp only [cVoteds] at hil hb ⊢; omega)) ?_
    rintro _ _ ⟨rfl, rfl⟩
    rw [← hnx]
    refine TL_nil ?_
    refine inB_normal ?_
    refine thenS_normal ?_
    refine T_region_last ?_
    refine TL_y rfl rfl (Y_add rfl rfl (by omega)) ?_
    refine TL_name 47 (v' := .int .i64 ((i + 1 : Nat) : Int)) rfl (rfl) ?_
    refine TL_y rfl rfl (Y_move rfl) ?_
    refine TL_nil ?_
    refine thenS_normal ?_
    exact ⟨i + 1, (by omega), by omega, holds_to (sub_cons rfl (sub_cons rfl (sub_cons rfl (sub_cons rfl (sub_cons rfl (sub_nil)))))) GivesTo.g⟩
  · refine T_exit ?_
    refine thenS_exit ?_
    refine thenS_exit ?_
    refine inB_hit ?_
    refine thenS_normal ?_
    have e : m.voted.take i = m.voted := List.take_of_length_le (by omega)
    rw [e]
    refine T_region ?_
    refine TL_y rfl rfl (Y_move rfl) ?_
    refine TL_y rfl rfl (Y_field_addr rfl) ?_
    refine TL_y rfl rfl (Y_load rfl rfl) ?_
    refine TL_pullk b ?_
    refine TL_call rfl rfl (wvector_spec hk.seen.tail (by omega)) ?_
    rintro _ _ ⟨rfl, rfl⟩
    refine TL_nil ?_
    refine T_region ?_
    refine TL_y rfl rfl (Y_move rfl) ?_
    refine TL_y rfl rfl (Y_field_addr rfl) ?_
    refine TL_y rfl rfl (Y_load rfl rfl) ?_
    refine TL_y rfl rfl (Y_len rfl) ?_
    refine TL_pullk b ?_
    refine TL_call rfl rfl (wnumber_spec 4096 (m.events.length : Int) (i64In_mk (by omega)) (by decide) (by omega)) ?_
    rintro _ _ ⟨rfl, rfl⟩
    rw [hu3]
    refine TL_nil ?_
    refine T_seq ?_
    refine T_region ?_
    refine TL_y rfl rfl (Y_field_addr rfl) ?_
    refine TL_y rfl rfl (Y_load rfl rfl) ?_
    refine TL_y rfl rfl (Y_len rfl) ?_
    refine TL_y rfl rfl (Y_move rfl) ?_
    refine TL_nil ?_
    refine T_block ?_
    refine T_loopK (σ := Nat) [0, 3, 58, 59] (fun i => i ≤ m.events.length) (fun i kv => (60, .int .i64 (i : Int)) :: kv) (fun i => wr b (wEvents (m.events.take i) u3) :: cells b3 (msgC m p) 44 :: L) (fun i => m.events.length - i) (0) rfl (Nat.zero_le _) (GivesTo.g (L' := wr b u3 :: cells b3 (msgC m p) 44 :: L)) (sub_cons rfl (sub_cons rfl (sub_cons rfl (sub_cons rfl (sub_cons rfl (sub_nil)))))) ?_
    intro i hi
    refine T_region ?_
    refine TL_y rfl rfl (Y_lt rfl rfl) ?_
    refine TL_nil ?_
    refine T_seq ?_
    refine T_if rfl (fun h61 => ?_) (fun h61 => ?_)
    · refine T_skip ?_
      refine thenS_normal ?_
      refine T_seq ?_
      refine T_block ?_
      refine T_region ?_
      obtain ⟨q, hq⟩ : ∃ q, m.events[i]? = some q := ⟨_, List.getElem?_eq_getElem (by omega)⟩
      have hil := wEvents_len (m.events.take i) u3
      have hsp := sum_split cEvent hq
      have hnx := wEvents_next (s := u3) hq
      refine TL_index rfl rfl rfl hk.events.tail.tail hq ?_
      intro bi62 oi62 li62
      refine TL_ex fun pq hok => ?_
      simp only [List.cons_append, List.nil_append]
      refine TL_y rfl rfl (Y_load_row_agg (vs := eventC q pq) rfl rfl) ?_
      refine TL_alloc rfl rfl ?_
      intro b7
      refine TL_store rfl rfl rfl rfl rfl rfl ?_
      refine TL_nil ?_
      refine T_region_last ?_
      refine TL_y rfl rfl (Y_move rfl) ?_
      refine TL_y rfl rfl (Y_load_agg rfl rfl) ?_
      refine TL_pullk b ?_
      refine TL_call rfl rfl (wevent_spec q hok (A := pq.1) (c := pq.2) slk (by simp only [cEvents] at hil hb ⊢; omega)) ?_
      rintro _ _ ⟨rfl, rfl⟩
      rw [← hnx]
      refine TL_nil ?_
      refine inB_normal ?_
      refine thenS_normal ?_
      refine T_region_last ?_
      refine TL_y rfl rfl (Y_add rfl rfl (by omega)) ?_
      refine TL_name 67 (v' := .int .i64 ((i + 1 : Nat) : Int)) rfl (rfl) ?_
      refine TL_y rfl rfl (Y_move rfl) ?_
      refine TL_nil ?_
      refine thenS_normal ?_
      exact ⟨i + 1, (by omega), by omega, holds_to (sub_cons rfl (sub_cons rfl (sub_cons rfl (sub_cons rfl (sub_cons rfl (sub_nil)))))) GivesTo.g⟩
    · refine T_exit ?_
      refine thenS_exit ?_
      refine thenS_exit ?_
      refine inB_hit ?_
      refine thenS_normal ?_
      have e : m.events.take i = m.events := List.take_of_length_le (by omega)
      rw [e]
      refine T_region_last ?_
      refine TL_y rfl rfl (Y_move rfl) ?_
      refine TL_y rfl rfl (Y_field_addr rfl) ?_
      refine TL_y rfl rfl (Y_load rfl rfl) ?_
      refine TL_pullk b ?_
      refine TL_call rfl rfl (wnumber_spec 4611686018427387904 m.time hx.time (by decide) (by omega)) ?_
      rintro _ _ ⟨rfl, rfl⟩
      refine TL_nil ?_
      rw [← hfin]
      exact RetG_0 (.inr rfl) rfl GivesTo.g (⟨rfl, rfl⟩)

/-! ### What is handed out -/
/-- What becomes of what was written: bytes, or an error. -/
def outB (s : WS) : List Int := if s.2 = true ∨ 65536 < s.1.length then [] else s.1
def outE (s : WS) : Int := if s.2 = true then 1 else if 65536 < s.1.length then 3 else 0
def outW (s : WS) (v : Value) (L L' : List HP) : Prop := ∃ A c, v = .tuple #[.slice A (outB s).length c, .int .i64 (outE s)] ∧ L' = osl (intR .u8) 5 A c (outB s) :: L
theorem written_spec {L : List HP} (f : FuncId) (cap : Value) (s : WS) [IsCall Try.prog f] (h : ∀ b, Fn Try.prog f #[.pointer (some ⟨b, 0, none⟩), cap] (wr b ([], false) :: L) (fun v L' => v = .tuple #[] ∧ L' = wr b s :: L)) : Fn Try.prog 110 #[.func (.func f) #[] #[cap]] L (fun v L' => outW s v L L') := by
  refine Fn_enter Try.func110 rfl rfl rfl rfl ?_
  refine T_region ?_
  refine TL_y rfl rfl (Y_assign rfl) ?_
  refine TL_y rfl rfl (Y_assign rfl) ?_
  refine TL_nil ?_
  refine T_region ?_
  refine TL_y rfl rfl (Y_build rfl rfl) ?_
  refine TL_box rfl rfl rfl ?_
  intro b6
  refine TL_gives (osl_nil (intR .u8) 5 none _) ?_
  refine TL_gives (Gives.swap _ _ _) ?_
  refine TL_gives (wr_close (b := b6) (s := ([], false)) (A := none) (c := 0)) ?_
  refine TL_y rfl rfl (Y_assign rfl) ?_
  refine TL_nil ?_
  refine T_region ?_
  refine TL_y rfl rfl (Y_move rfl) ?_
  refine TL_y rfl rfl (Y_move rfl) ?_
  refine TL_call_fn (fs := []) (cs := [cap]) rfl rfl rfl (h b6) ?_
  rintro _ _ ⟨rfl, rfl⟩
  refine TL_wr fun A9 c9 => ?_
  refine TL_nil ?_
  refine T_seq ?_
  refine T_block ?_
  refine T_region ?_
  refine TL_y rfl rfl (Y_move rfl) ?_
  refine TL_y rfl rfl (Y_nil_check rfl) ?_
  refine TL_y rfl rfl (Y_field_addr rfl) ?_
  refine TL_y rfl rfl (Y_load rfl rfl) ?_
  refine TL_y rfl rfl (Y_assign rfl) ?_
  refine TL_nil ?_
  refine T_cond rfl (fun h10 => ?_) (fun h10 => ?_)
  · have h10' := h10
    refine T_region ?_
    refine TL_y rfl rfl (Y_assign rfl) ?_
    refine TL_y rfl rfl (Y_assign rfl) ?_
    refine TL_nil ?_
    refine T_ret ?_
    refine inB_ret ?_
    refine thenS_ret ?_
    have e1 : outB s = [] := by simp [outB, h10]
    have e2 : outE s = 1 := by simp [outE, h10]
    refine RetQ.gives (osl_nil (intR .u8) 5 none _) ?_
    exact RetG_2 (.inl rfl) rfl (ResV.tmp rfl) (ResV.tmp rfl) GivesTo.g (⟨none, 0, by rw [e1, e2]; rfl, by rw [e1]⟩)
  · refine T_region ?_
    refine TL_y rfl rfl (Y_move rfl) ?_
    refine TL_y rfl rfl (Y_nil_check rfl) ?_
    refine TL_y rfl rfl (Y_field_addr rfl) ?_
    refine TL_y rfl rfl (Y_load rfl rfl) ?_
    refine TL_y rfl rfl (Y_len rfl) ?_
    refine TL_y rfl rfl (Y_gt rfl rfl) ?_
    refine TL_y rfl rfl (Y_assign rfl) ?_
    refine TL_nil ?_
    refine T_if rfl (fun h15 => ?_) (fun h15 => ?_)
    · refine T_region ?_
      refine TL_y rfl rfl (Y_assign rfl) ?_
      refine TL_y rfl rfl (Y_assign rfl) ?_
      refine TL_nil ?_
      refine T_ret ?_
      refine inB_ret ?_
      refine thenS_ret ?_
      have e1 : outB s = [] := by simp [outB, show 65536 < s.1.length by omega]
      have e2 : outE s = 3 := by simp [outE, h10, show 65536 < s.1.length by omega]
      refine RetQ.gives (osl_nil (intR .u8) 5 none _) ?_
      exact RetG_2 (.inl rfl) rfl (ResV.tmp rfl) (ResV.tmp rfl) GivesTo.g (⟨none, 0, by rw [e1, e2]; rfl, by rw [e1]⟩)
    · refine T_skip ?_
      refine inB_normal ?_
      refine thenS_normal ?_
      refine T_region ?_
      refine TL_y rfl rfl (Y_move rfl) ?_
      refine TL_y rfl rfl (Y_nil_check rfl) ?_
      refine TL_y rfl rfl (Y_field_addr rfl) ?_
      refine TL_y rfl rfl (Y_load rfl rfl) ?_
      refine TL_y rfl rfl (Y_assign rfl) ?_
      refine TL_y rfl rfl (Y_assign rfl) ?_
      refine TL_nil ?_
      refine T_ret ?_
      have e1 : outB s = s.1 := by rw [outB, if_neg (by simp [h10]; omega)]
      have e2 : outE s = 0 := by rw [outE, if_neg (by simp [h10]), if_neg (by omega)]
      exact RetG_2 (.inl rfl) rfl (ResV.tmp rfl) (ResV.tmp rfl) GivesTo.g (⟨A9, c9, by rw [e1, e2], by rw [e1]⟩)
theorem msgPut_spec {L : List HP} {b bm : Nat} (m : MsgD) (p : MsgP) (hx : MsgOk m) (hk : MsgK L m p) (hb : cMsg m ≤ 140737488355328) : Fn Try.prog 111 #[.pointer (some ⟨b, 0, none⟩), .pointer (some ⟨bm, 0, none⟩)] (wr b ([], false) :: cells bm (msgC m p) 44 :: L) (fun v L' => v = .tuple #[] ∧ L' = wr b (wMsg m ([], false)) :: cells bm (msgC m p) 44 :: L) := by
  refine Fn_enter Try.func111 rfl rfl rfl rfl ?_
  refine T_region_last ?_
  refine TL_y rfl rfl (Y_move rfl) ?_
  refine TL_y rfl rfl (Y_load_agg (vs := msgC m p) rfl rfl) ?_
  refine TL_call rfl rfl (wmsg_spec m p hx hk.tail (by simpa using hb)) ?_
  rintro _ _ ⟨rfl, rfl⟩
  refine TL_nil ?_
  exact RetG_0 (.inr rfl) rfl GivesTo.g (⟨rfl, rfl⟩)
theorem msg_spec {L : List HP} (m : MsgD) (p : MsgP) (hx : MsgOk m) (hk : MsgK L m p) (hb : cMsg m ≤ 140737488355328) : Fn Try.prog 81 #[.agg (List.toArray (msgC m p))] L (fun v L' => outW (wMsg m ([], false)) v L L') := by
  refine Fn_enter Try.func81 rfl rfl rfl rfl ?_
  refine T_region ?_
  refine TL_box rfl rfl rfl ?_
  intro b1
  refine TL_y rfl rfl (Y_assign rfl) ?_
  refine TL_y rfl rfl (Y_assign rfl) ?_
  refine TL_nil ?_
  refine T_region ?_
  refine TL_y rfl rfl (Y_make_func rfl rfl) ?_
  refine TL_call rfl rfl (written_spec 111 (.pointer (some ⟨b1, 0, none⟩)) (wMsg m ([], false)) (fun b ↦ msgPut_spec m p hx hk hb)) ?_
  rintro _ _ ⟨A5, c5, rfl, rfl⟩
  refine TL_y rfl rfl (Y_extract rfl rfl) ?_
  refine TL_y rfl rfl (Y_extract rfl rfl) ?_
  refine TL_y rfl rfl (Y_assign rfl) ?_
  refine TL_y rfl rfl (Y_assign rfl) ?_
  refine TL_nil ?_
  refine T_ret ?_
  exact RetG_2 (.inl rfl) rfl (ResV.tmp rfl) (ResV.tmp rfl) GivesTo.g (⟨A5, c5, rfl, rfl⟩)
end Go.SL
