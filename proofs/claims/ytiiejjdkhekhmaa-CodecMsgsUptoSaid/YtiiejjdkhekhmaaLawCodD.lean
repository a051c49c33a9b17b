/- The walk of the law on what is unlike. -/
import Derived.Test.YtiiejjdkhekhmaaPf
import Derived.Test.YtiiejjdkhekhmaaSameB
import Derived.Test.YtiiejjdkhekhmaaReadB
import Derived.Test.YtiiejjdkhekhmaaCodG
set_option linter.unusedVariables false
set_option linter.unusedSimpArgs false
namespace Go.SL
open Go Go.Proofs
abbrev msgV (m : MsgD) (p : MsgP) : Value := .agg (List.toArray (msgC m p))
abbrev eventV (e : EventD) (p : Option Addr × Nat) : Value := .agg (List.toArray (eventC e p))
theorem outE_ok {s : WS} (h : outE s = 0) : s.2 = false ∧ outB s = s.1 := by
  unfold outE at h
  split at h
  · simp at h
  · rename_i h1
    split at h
    · simp at h
    · rename_i h2
      have h1' : s.2 = false := by simpa using h1
      exact ⟨h1', by rw [outB, if_neg (by rw [h1']; simp; omega)]⟩
theorem out_msg {m : MsgD} (h : outE (wMsg m ([], false)) = 0) : rMsg m ∧ outB (wMsg m ([], false)) = bMsg m := by
  obtain ⟨h1, h2⟩ := outE_ok h
  have hr := (wMsg_bad.1 h1).2
  rw [h2, wMsg_ok rfl hr]
  exact ⟨hr, rfl⟩
theorem out_event {m : EventD} (h : outE (wEvent m ([], false)) = 0) : rEvent m ∧ outB (wEvent m ([], false)) = bEvent m := by
  obtain ⟨h1, h2⟩ := outE_ok h
  have hr := (wEvent_bad.1 h1).2
  rw [h2, wEvent_ok rfl hr]
  exact ⟨hr, rfl⟩
theorem out_seal {m : OrderD} (h : outE (wSeal m ([], false)) = 0) : rSeal m ∧ outB (wSeal m ([], false)) = bSeal m := by
  obtain ⟨h1, h2⟩ := outE_ok h
  have hr := (wSeal_bad.1 h1).2
  rw [h2, wSeal_ok rfl hr]
  exact ⟨hr, rfl⟩
theorem msg_apart {a b : MsgD} (h1 : outE (wMsg a ([], false)) = 0) (h2 : outE (wMsg b ([], false)) = 0) : (outB (wMsg a ([], false)) = outB (wMsg b ([], false))) ↔ a = b := by
  obtain ⟨r1, e1⟩ := out_msg h1
  obtain ⟨r2, e2⟩ := out_msg h2
  rw [e1, e2]
  constructor
  · intro h; exact (pf_msg a b [] [] r1 r2 (by rw [h])).1
  · rintro rfl; rfl
theorem event_apart {a b : EventD} (h1 : outE (wEvent a ([], false)) = 0) (h2 : outE (wEvent b ([], false)) = 0) : (outB (wEvent a ([], false)) = outB (wEvent b ([], false))) ↔ a = b := by
  obtain ⟨r1, e1⟩ := out_event h1
  obtain ⟨r2, e2⟩ := out_event h2
  rw [e1, e2]
  constructor
  · intro h; exact (pf_event a b [] [] r1 r2 (by rw [h])).1
  · rintro rfl; rfl
/-! ### Bytes are bytes -/
def Byt (l : List Int) : Prop := ∀ x ∈ l, 0 ≤ x ∧ x ≤ 255
theorem Byt.app {a b : List Int} (h1 : Byt a) (h2 : Byt b) : Byt (a ++ b) := fun x hx => by
  rcases List.mem_append.1 hx with h | h
  · exact h1 x h
  · exact h2 x h
theorem byt_nil : Byt [] := fun x hx => by cases hx
theorem byt_num (n : Int) : Byt (bNum n) := fun x hx => grp_all _ x hx
theorem byt_txt (s : ByteArray) : Byt (txt s) := fun x hx => txt_all s x hx
theorem byt_all {α : Type} {b : α → List Int} (h : ∀ x, Byt (b x)) : ∀ l : List α, Byt (bAll b l)
  | [] => byt_nil
  | x :: l => by
    have : bAll b (x :: l) = b x ++ bAll b l := by simp [bAll]
    rw [this]; exact (h x).app (byt_all h l)
theorem byt_vec (v : List Int) : Byt (bVec v) := (byt_num _).app (byt_all byt_num v)
theorem byt_seal (x : OrderD) : Byt (bSeal x) := (byt_txt _).app ((byt_txt _).app ((byt_num _).app (byt_vec _)))
theorem byt_entry (e : EntryD) : Byt (bEntry e) := (byt_num _).app (by split; exact byt_nil; exact byt_seal _)
theorem byt_bal (a : Int × Int) : Byt (bBal a) := (byt_num _).app (byt_num _)
theorem byt_event (e : EventD) : Byt (bEvent e) := (byt_num _).app ((byt_num _).app ((byt_vec _).app ((byt_txt _).app ((byt_num _).app ((byt_txt _).app ((byt_num _).app (byt_num _)))))))
theorem byt_voted (v : VotedD) : Byt (bVoted v) := (byt_num _).app ((byt_bal _).app (byt_entry _))
theorem byt_msg (m : MsgD) : Byt (bMsg m) := (byt_num _).app ((byt_num _).app ((byt_num _).app ((byt_bal _).app ((byt_num _).app ((byt_entry _).app ((byt_num _).app ((byt_all byt_voted _).app ((byt_vec _).app ((byt_num _).app ((byt_all byt_event _).app (byt_num _)))))))))))
theorem msg_str {a b : MsgD} (h1 : outE (wMsg a ([], false)) = 0) (h2 : outE (wMsg b ([], false)) = 0) : (strOfNums (outB (wMsg a ([], false))) = strOfNums (outB (wMsg b ([], false)))) ↔ a = b := by
  rw [← msg_apart h1 h2, (out_msg h1).2, (out_msg h2).2]
  exact strOf_inj (byt_msg a) (byt_msg b)
theorem event_str {a b : EventD} (h1 : outE (wEvent a ([], false)) = 0) (h2 : outE (wEvent b ([], false)) = 0) : (strOfNums (outB (wEvent a ([], false))) = strOfNums (outB (wEvent b ([], false)))) ↔ a = b := by
  rw [← event_apart h1 h2, (out_event h1).2, (out_event h2).2]
  exact strOf_inj (byt_event a) (byt_event b)

theorem MsgK.lay {L : List HP} {m : MsgD} {p : MsgP} (h : MsgK L m p) : Gives L (sl (intR .i64) p.cut.1 p.cut.2 m.en.order.cut :: sl votedR p.voted.1 p.voted.2 m.voted :: sl (intR .i64) p.seen.1 p.seen.2 m.seen :: sl eventR p.events.1 p.events.2 m.events :: L) :=
  (SlK.lay h.events).trans ((SlK.lay h.seen.tail).trans ((SlK.lay h.voted.tail.tail).trans (SlK.lay h.cut.tail.tail.tail)))
theorem codecApart_walk {L : List HP} (a b : MsgD) (x y : EventD) (p q : MsgP) (u v : Option Addr × Nat) (ha : MsgOk a) (hka : MsgK L a p) (hca : cMsg a ≤ 140737488355328) (hb : MsgOk b) (hkb : MsgK L b q) (hcb : cMsg b ≤ 140737488355328)
    (hx : eventOk x) (hkx : SlK L (intR .i64) u.1 u.2 x.deps) (hcx : cEvent x ≤ 140737488355328) (hy : eventOk y) (hky : SlK L (intR .i64) v.1 v.2 y.deps) (hcy : cEvent y ≤ 140737488355328) :
    Fn Try.prog 12 #[msgV a p, msgV b q, eventV x u, eventV y v] L (fun v L' => v = .bool true ∧ L' = L) := by
  refine Fn_enter Try.func12 rfl rfl rfl rfl ?_
  refine T_gives (MsgK.lay hka) ?_
  refine T_gives (MsgK.lay hkb.tail.tail.tail.tail) ?_
  refine T_gives (SlK.lay hkx.tail.tail.tail.tail.tail.tail.tail.tail) ?_
  refine T_gives (SlK.lay hky.tail.tail.tail.tail.tail.tail.tail.tail.tail) ?_
  refine T_region ?_
  refine TL_box rfl rfl rfl ?_
  intro b4
  refine TL_box rfl rfl rfl ?_
  intro b5
  refine TL_box rfl rfl rfl ?_
  intro b6
  refine TL_box rfl rfl rfl ?_
  intro b7
  refine TL_y rfl rfl (Y_assign rfl) ?_
  refine TL_nil ?_
  refine T_region ?_
  refine TL_y rfl rfl (Y_load_agg rfl rfl) ?_
  refine TL_call rfl rfl (msg_spec a p ha ⟨slk, slk, slk, slk⟩ hca) ?_
  rintro _ _ ⟨A19, c19, rfl, rfl⟩
  refine TL_freeze_osl ?_
  refine TL_y rfl rfl (Y_move rfl) ?_
  refine TL_y rfl rfl (Y_extract rfl rfl) ?_
  refine TL_y rfl rfl (Y_extract rfl rfl) ?_
  refine TL_y rfl rfl (Y_assign rfl) ?_
  refine TL_y rfl rfl (Y_assign rfl) ?_
  refine TL_nil ?_
  refine T_region ?_
  refine TL_y rfl rfl (Y_load_agg rfl rfl) ?_
  refine TL_call rfl rfl (msg_spec b q hb ⟨slk, slk, slk, slk⟩ hcb) ?_
  rintro _ _ ⟨A24, c24, rfl, rfl⟩
  refine TL_freeze_osl ?_
  refine TL_y rfl rfl (Y_move rfl) ?_
  refine TL_y rfl rfl (Y_extract rfl rfl) ?_
  refine TL_y rfl rfl (Y_extract rfl rfl) ?_
  refine TL_y rfl rfl (Y_assign rfl) ?_
  refine TL_y rfl rfl (Y_assign rfl) ?_
  refine TL_nil ?_
  refine T_region ?_
  refine TL_y rfl rfl (Y_load_agg rfl rfl) ?_
  refine TL_call rfl rfl (event_spec x hx slk hcx) ?_
  rintro _ _ ⟨A29, c29, rfl, rfl⟩
  refine TL_freeze_osl ?_
  refine TL_y rfl rfl (Y_move rfl) ?_
  refine TL_y rfl rfl (Y_extract rfl rfl) ?_
  refine TL_y rfl rfl (Y_extract rfl rfl) ?_
  refine TL_y rfl rfl (Y_assign rfl) ?_
  refine TL_y rfl rfl (Y_assign rfl) ?_
  refine TL_nil ?_
  refine T_region ?_
  refine TL_y rfl rfl (Y_load_agg rfl rfl) ?_
  refine TL_call rfl rfl (event_spec y hy slk hcy) ?_
  rintro _ _ ⟨A34, c34, rfl, rfl⟩
  refine TL_freeze_osl ?_
  refine TL_y rfl rfl (Y_move rfl) ?_
  refine TL_y rfl rfl (Y_extract rfl rfl) ?_
  refine TL_y rfl rfl (Y_extract rfl rfl) ?_
  refine TL_y rfl rfl (Y_assign rfl) ?_
  refine TL_y rfl rfl (Y_assign rfl) ?_
  refine TL_nil ?_
  refine T_seq ?_
  refine T_region ?_
  refine TL_call rfl rfl (lives01_spec _) ?_
  rintro _ _ ⟨rfl, rfl⟩
  refine TL_name 37 (v' := .bool true) rfl (rfl) ?_
  refine TL_y rfl rfl (Y_not_t rfl) ?_
  refine TL_nil ?_
  refine T_cond_false rfl ?_
  refine T_skip ?_
  refine thenS_normal ?_
  refine T_seq ?_
  refine T_region_draw _ [0, 1, 3, 7, 15, 31, 63, 127, 255, 127, 639, 2047, 127, 127, 12415, 32767, 65535] [] [(0, true), (1, true), (2, true), (3, true), (4, true), (5, true), (6, true), (7, true), (8, true), (9, true), (10, true), (11, true), (12, true), (13, true), (14, false), (15, true), (16, true)] (by kernel_rfl) (by decide +kernel) (Gives.refl _) ?_
  refine TF_y rfl rfl (Y_move rfl) ?_
  refine TF_y rfl rfl (Y_eq rfl rfl) ?_
  refine TF_y rfl rfl (Y_move rfl) ?_
  refine TF_splitd 41 rfl (fun h41 => ?_) (fun h41 => ?_)
  · refine TF_gy rfl rfl rfl rfl (Y_move rfl) ?_
    refine TF_gy rfl rfl rfl rfl (Y_eq rfl rfl) ?_
    refine TF_y rfl rfl (Y_pick_t rfl rfl) ?_
    refine TF_y rfl rfl (Y_move rfl) ?_
    refine TF_splitd 45 rfl (fun h45 => ?_) (fun h45 => ?_)
    · refine TF_gy rfl rfl rfl rfl (Y_move rfl) ?_
      refine TF_gy rfl rfl rfl rfl (Y_bytes_str rfl slk) ?_
      refine TF_gy rfl rfl rfl rfl (Y_move rfl) ?_
      refine TF_gy rfl rfl rfl rfl (Y_bytes_str rfl slk) ?_
      refine TF_gy rfl rfl rfl rfl (Y_str_eq rfl rfl) ?_
      refine TF_gy rfl rfl rfl rfl (Y_load_agg rfl rfl) ?_
      refine TF_gy rfl rfl rfl rfl (Y_load_agg rfl rfl) ?_
      refine TF_anchor rfl ?_
      refine TL_grun rfl rfl ?_
      refine TL_call rfl rfl (sameMsg_spec a b p q ⟨slk, slk, slk, slk⟩ ⟨slk, slk, slk, slk⟩) ?_
      rintro _ _ ⟨rfl, rfl⟩
      refine TF_end GivesTo.g ?_
      refine TF_gy rfl rfl rfl rfl (Y_unequal rfl rfl (EqIs.bool)) ?_
      refine TF_name 54 (v' := .bool false) rfl (congrArg Value.bool (by simp [msg_str h41 h45])) ?_
      refine TF_y rfl rfl (Y_pick_t rfl rfl) ?_
      refine TF_nil ?_
      refine T_cond_false rfl ?_
      refine T_skip ?_
      refine thenS_normal ?_
      refine T_region_draw _ [0, 1, 3, 7, 15, 31, 63, 127, 255, 127, 639, 2047, 127, 127, 12415, 32767, 65535, 131071] [] [(0, true), (1, true), (2, true), (3, true), (4, true), (5, true), (6, true), (7, true), (8, true), (9, true), (10, true), (11, true), (12, true), (13, true), (14, false), (15, true), (16, true), (17, true)] (by kernel_rfl) (by decide +kernel) (Gives.refl _) ?_
      refine TF_y rfl rfl (Y_move rfl) ?_
      refine TF_y rfl rfl (Y_ne rfl rfl) ?_
      refine TF_y rfl rfl (Y_move rfl) ?_
      refine TF_splitd 58 rfl (fun h58 => ?_) (fun h58 => ?_)
      · refine TF_gskip rfl rfl rfl rfl rfl ?_
        refine TF_gskip rfl rfl rfl rfl rfl ?_
        refine TF_y rfl rfl (Y_pick_t rfl rfl) ?_
        refine TF_y rfl rfl (Y_move rfl) ?_
        refine TF_gskip rfl rfl rfl rfl rfl ?_
        refine TF_gskip rfl rfl rfl rfl rfl ?_
        refine TF_gskip rfl rfl rfl rfl rfl ?_
        refine TF_gskip rfl rfl rfl rfl rfl ?_
        refine TF_gskip rfl rfl rfl rfl rfl ?_
        refine TF_gskip rfl rfl rfl rfl rfl ?_
        refine TF_gskip rfl rfl rfl rfl rfl ?_
        refine TF_anchor rfl ?_
        refine TL_gskip rfl rfl rfl rfl ?_
        refine TF_end GivesTo.g ?_
        refine TF_gskip rfl rfl rfl rfl rfl ?_
        refine TF_y rfl rfl (Y_pick_t rfl rfl) ?_
        refine TF_y rfl rfl (Y_assign rfl) ?_
        refine TF_nil ?_
        refine T_ret ?_
        exact RetG_1 (.inl rfl) rfl (ResV.tmp rfl) GivesTo.g (⟨rfl, rfl⟩)
      · refine TF_gy rfl rfl rfl rfl (Y_move rfl) ?_
        refine TF_gy rfl rfl rfl rfl (Y_ne rfl rfl) ?_
        refine TF_y rfl rfl (Y_pick_f rfl rfl) ?_
        refine TF_y rfl rfl (Y_move rfl) ?_
        refine TF_splitd 62 rfl (fun h62 => ?_) (fun h62 => ?_)
        · refine TF_gskip rfl rfl rfl rfl rfl ?_
          refine TF_gskip rfl rfl rfl rfl rfl ?_
          refine TF_gskip rfl rfl rfl rfl rfl ?_
          refine TF_gskip rfl rfl rfl rfl rfl ?_
          refine TF_gskip rfl rfl rfl rfl rfl ?_
          refine TF_gskip rfl rfl rfl rfl rfl ?_
          refine TF_gskip rfl rfl rfl rfl rfl ?_
          refine TF_anchor rfl ?_
          refine TL_gskip rfl rfl rfl rfl ?_
          refine TF_end GivesTo.g ?_
          refine TF_gskip rfl rfl rfl rfl rfl ?_
          refine TF_y rfl rfl (Y_pick_t rfl rfl) ?_
          refine TF_y rfl rfl (Y_assign rfl) ?_
          refine TF_nil ?_
          refine T_ret ?_
          exact RetG_1 (.inl rfl) rfl (ResV.tmp rfl) GivesTo.g (⟨rfl, rfl⟩)
        · refine TF_gy rfl rfl rfl rfl (Y_move rfl) ?_
          refine TF_gy rfl rfl rfl rfl (Y_bytes_str rfl slk) ?_
          refine TF_gy rfl rfl rfl rfl (Y_move rfl) ?_
          refine TF_gy rfl rfl rfl rfl (Y_bytes_str rfl slk) ?_
          refine TF_gy rfl rfl rfl rfl (Y_str_eq rfl rfl) ?_
          refine TF_gy rfl rfl rfl rfl (Y_load_agg rfl rfl) ?_
          refine TF_gy rfl rfl rfl rfl (Y_load_agg rfl rfl) ?_
          refine TF_anchor rfl ?_
          refine TL_grun rfl rfl ?_
          refine TL_call rfl rfl (sameEvent_spec x y (A := u.1) (c := u.2) (B := v.1) (d := v.2) sln sln) ?_
          rintro _ _ ⟨rfl, rfl⟩
          refine TF_end GivesTo.g ?_
          refine TF_gy rfl rfl rfl rfl (Y_equal rfl rfl (EqIs.bool)) ?_
          refine TF_name 71 (v' := .bool true) rfl (congrArg Value.bool (by simp [event_str (Classical.not_not.1 h58) (Classical.not_not.1 h62)])) ?_
          refine TF_y rfl rfl (Y_pick_f rfl rfl) ?_
          refine TF_y rfl rfl (Y_assign rfl) ?_
          refine TF_nil ?_
          refine T_ret ?_
          exact RetG_1 (.inl rfl) rfl (ResV.tmp rfl) GivesTo.g (⟨rfl, rfl⟩)
    · refine TF_gskip rfl rfl rfl rfl rfl ?_
      refine TF_gskip rfl rfl rfl rfl rfl ?_
      refine TF_gskip rfl rfl rfl rfl rfl ?_
      refine TF_gskip rfl rfl rfl rfl rfl ?_
      refine TF_gskip rfl rfl rfl rfl rfl ?_
      refine TF_gskip rfl rfl rfl rfl rfl ?_
      refine TF_gskip rfl rfl rfl rfl rfl ?_
      refine TF_anchor rfl ?_
      refine TL_gskip rfl rfl rfl rfl ?_
      refine TF_end GivesTo.g ?_
      refine TF_gskip rfl rfl rfl rfl rfl ?_
      refine TF_y rfl rfl (Y_pick_f rfl rfl) ?_
      refine TF_nil ?_
      refine T_cond_false rfl ?_
      refine T_skip ?_
      refine thenS_normal ?_
      refine T_region_draw _ [0, 1, 3, 7, 15, 31, 63, 127, 255, 127, 639, 2047, 127, 127, 12415, 32767, 65535, 131071] [] [(0, true), (1, true), (2, true), (3, true), (4, true), (5, true), (6, true), (7, true), (8, true), (9, true), (10, true), (11, true), (12, true), (13, true), (14, false), (15, true), (16, true), (17, true)] (by kernel_rfl) (by decide +kernel) (Gives.refl _) ?_
      refine TF_y rfl rfl (Y_move rfl) ?_
      refine TF_y rfl rfl (Y_ne rfl rfl) ?_
      refine TF_y rfl rfl (Y_move rfl) ?_
      refine TF_splitd 58 rfl (fun h58 => ?_) (fun h58 => ?_)
      · refine TF_gskip rfl rfl rfl rfl rfl ?_
        refine TF_gskip rfl rfl rfl rfl rfl ?_
        refine TF_y rfl rfl (Y_pick_t rfl rfl) ?_
        refine TF_y rfl rfl (Y_move rfl) ?_
        refine TF_gskip rfl rfl rfl rfl rfl ?_
        refine TF_gskip rfl rfl rfl rfl rfl ?_
        refine TF_gskip rfl rfl rfl rfl rfl ?_
        refine TF_gskip rfl rfl rfl rfl rfl ?_
        refine TF_gskip rfl rfl rfl rfl rfl ?_
        refine TF_gskip rfl rfl rfl rfl rfl ?_
        refine TF_gskip rfl rfl rfl rfl rfl ?_
        refine TF_anchor rfl ?_
        refine TL_gskip rfl rfl rfl rfl ?_
        refine TF_end GivesTo.g ?_
        refine TF_gskip rfl rfl rfl rfl rfl ?_
        refine TF_y rfl rfl (Y_pick_t rfl rfl) ?_
        refine TF_y rfl rfl (Y_assign rfl) ?_
        refine TF_nil ?_
        refine T_ret ?_
        exact RetG_1 (.inl rfl) rfl (ResV.tmp rfl) GivesTo.g (⟨rfl, rfl⟩)
      · refine TF_gy rfl rfl rfl rfl (Y_move rfl) ?_
        refine TF_gy rfl rfl rfl rfl (Y_ne rfl rfl) ?_
        refine TF_y rfl rfl (Y_pick_f rfl rfl) ?_
        refine TF_y rfl rfl (Y_move rfl) ?_
        refine TF_splitd 62 rfl (fun h62 => ?_) (fun h62 => ?_)
        · refine TF_gskip rfl rfl rfl rfl rfl ?_
          refine TF_gskip rfl rfl rfl rfl rfl ?_
          refine TF_gskip rfl rfl rfl rfl rfl ?_
          refine TF_gskip rfl rfl rfl rfl rfl ?_
          refine TF_gskip rfl rfl rfl rfl rfl ?_
          refine TF_gskip rfl rfl rfl rfl rfl ?_
          refine TF_gskip rfl rfl rfl rfl rfl ?_
          refine TF_anchor rfl ?_
          refine TL_gskip rfl rfl rfl rfl ?_
          refine TF_end GivesTo.g ?_
          refine TF_gskip rfl rfl rfl rfl rfl ?_
          refine TF_y rfl rfl (Y_pick_t rfl rfl) ?_
          refine TF_y rfl rfl (Y_assign rfl) ?_
          refine TF_nil ?_
          refine T_ret ?_
          exact RetG_1 (.inl rfl) rfl (ResV.tmp rfl) GivesTo.g (⟨rfl, rfl⟩)
        · refine TF_gy rfl rfl rfl rfl (Y_move rfl) ?_
          refine TF_gy rfl rfl rfl rfl (Y_bytes_str rfl slk) ?_
          refine TF_gy rfl rfl rfl rfl (Y_move rfl) ?_
          refine TF_gy rfl rfl rfl rfl (Y_bytes_str rfl slk) ?_
          refine TF_gy rfl rfl rfl rfl (Y_str_eq rfl rfl) ?_
          refine TF_gy rfl rfl rfl rfl (Y_load_agg rfl rfl) ?_
          refine TF_gy rfl rfl rfl rfl (Y_load_agg rfl rfl) ?_
          refine TF_anchor rfl ?_
          refine TL_grun rfl rfl ?_
          refine TL_call rfl rfl (sameEvent_spec x y (A := u.1) (c := u.2) (B := v.1) (d := v.2) sln sln) ?_
          rintro _ _ ⟨rfl, rfl⟩
          refine TF_end GivesTo.g ?_
          refine TF_gy rfl rfl rfl rfl (Y_equal rfl rfl (EqIs.bool)) ?_
          refine TF_name 71 (v' := .bool true) rfl (congrArg Value.bool (by simp [event_str (Classical.not_not.1 h58) (Classical.not_not.1 h62)])) ?_
          refine TF_y rfl rfl (Y_pick_f rfl rfl) ?_
          refine TF_y rfl rfl (Y_assign rfl) ?_
          refine TF_nil ?_
          refine T_ret ?_
          exact RetG_1 (.inl rfl) rfl (ResV.tmp rfl) GivesTo.g (⟨rfl, rfl⟩)
  · refine TF_gskip rfl rfl rfl rfl rfl ?_
    refine TF_gskip rfl rfl rfl rfl rfl ?_
    refine TF_y rfl rfl (Y_pick_f rfl rfl) ?_
    refine TF_y rfl rfl (Y_move rfl) ?_
    refine TF_gskip rfl rfl rfl rfl rfl ?_
    refine TF_gskip rfl rfl rfl rfl rfl ?_
    refine TF_gskip rfl rfl rfl rfl rfl ?_
    refine TF_gskip rfl rfl rfl rfl rfl ?_
    refine TF_gskip rfl rfl rfl rfl rfl ?_
    refine TF_gskip rfl rfl rfl rfl rfl ?_
    refine TF_gskip rfl rfl rfl rfl rfl ?_
    refine TF_anchor rfl ?_
    refine TL_gskip rfl rfl rfl rfl ?_
    refine TF_end GivesTo.g ?_
    refine TF_gskip rfl rfl rfl rfl rfl ?_
    refine TF_y rfl rfl (Y_pick_f rfl rfl) ?_
    refine TF_nil ?_
    refine T_cond_false rfl ?_
    refine T_skip ?_
    refine thenS_normal ?_
    refine T_region_draw _ [0, 1, 3, 7, 15, 31, 63, 127, 255, 127, 639, 2047, 127, 127, 12415, 32767, 65535, 131071] [] [(0, true), (1, true), (2, true), (3, true), (4, true), (5, true), (6, true), (7, true), (8, true), (9, true), (10, true), (11, true), (12, true), (13, true), (14, false), (15, true), (16, true), (17, true)] (by kernel_rfl) (by decide +kernel) (Gives.refl _) ?_
    refine TF_y rfl rfl (Y_move rfl) ?_
    refine TF_y rfl rfl (Y_ne rfl rfl) ?_
    refine TF_y rfl rfl (Y_move rfl) ?_
    refine TF_splitd 58 rfl (fun h58 => ?_) (fun h58 => ?_)
    · refine TF_gskip rfl rfl rfl rfl rfl ?_
      refine TF_gskip rfl rfl rfl rfl rfl ?_
      refine TF_y rfl rfl (Y_pick_t rfl rfl) ?_
      refine TF_y rfl rfl (Y_move rfl) ?_
      refine TF_gskip rfl rfl rfl rfl rfl ?_
      refine TF_gskip rfl rfl rfl rfl rfl ?_
      refine TF_gskip rfl rfl rfl rfl rfl ?_
      refine TF_gskip rfl rfl rfl rfl rfl ?_
      refine TF_gskip rfl rfl rfl rfl rfl ?_
      refine TF_gskip rfl rfl rfl rfl rfl ?_
      refine TF_gskip rfl rfl rfl rfl rfl ?_
      refine TF_anchor rfl ?_
      refine TL_gskip rfl rfl rfl rfl ?_
      refine TF_end GivesTo.g ?_
      refine TF_gskip rfl rfl rfl rfl rfl ?_
      refine TF_y rfl rfl (Y_pick_t rfl rfl) ?_
      refine TF_y rfl rfl (Y_assign rfl) ?_
      refine TF_nil ?_
      refine T_ret ?_
      exact RetG_1 (.inl rfl) rfl (ResV.tmp rfl) GivesTo.g (⟨rfl, rfl⟩)
    · refine TF_gy rfl rfl rfl rfl (Y_move rfl) ?_
      refine TF_gy rfl rfl rfl rfl (Y_ne rfl rfl) ?_
      refine TF_y rfl rfl (Y_pick_f rfl rfl) ?_
      refine TF_y rfl rfl (Y_move rfl) ?_
      refine TF_splitd 62 rfl (fun h62 => ?_) (fun h62 => ?_)
      · refine TF_gskip rfl rfl rfl rfl rfl ?_
        refine TF_gskip rfl rfl rfl rfl rfl ?_
        refine TF_gskip rfl rfl rfl rfl rfl ?_
        refine TF_gskip rfl rfl rfl rfl rfl ?_
        refine TF_gskip rfl rfl rfl rfl rfl ?_
        refine TF_gskip rfl rfl rfl rfl rfl ?_
        refine TF_gskip rfl rfl rfl rfl rfl ?_
        refine TF_anchor rfl ?_
        refine TL_gskip rfl rfl rfl rfl ?_
        refine TF_end GivesTo.g ?_
        refine TF_gskip rfl rfl rfl rfl rfl ?_
        refine TF_y rfl rfl (Y_pick_t rfl rfl) ?_
        refine TF_y rfl rfl (Y_assign rfl) ?_
        refine TF_nil ?_
        refine T_ret ?_
        exact RetG_1 (.inl rfl) rfl (ResV.tmp rfl) GivesTo.g (⟨rfl, rfl⟩)
      · refine TF_gy rfl rfl rfl rfl (Y_move rfl) ?_
        refine TF_gy rfl rfl rfl rfl (Y_bytes_str rfl slk) ?_
        refine TF_gy rfl rfl rfl rfl (Y_move rfl) ?_
        refine TF_gy rfl rfl rfl rfl (Y_bytes_str rfl slk) ?_
        refine TF_gy rfl rfl rfl rfl (Y_str_eq rfl rfl) ?_
        refine TF_gy rfl rfl rfl rfl (Y_load_agg rfl rfl) ?_
        refine TF_gy rfl rfl rfl rfl (Y_load_agg rfl rfl) ?_
        refine TF_anchor rfl ?_
        refine TL_grun rfl rfl ?_
        refine TL_call rfl rfl (sameEvent_spec x y (A := u.1) (c := u.2) (B := v.1) (d := v.2) sln sln) ?_
        rintro _ _ ⟨rfl, rfl⟩
        refine TF_end GivesTo.g ?_
        refine TF_gy rfl rfl rfl rfl (Y_equal rfl rfl (EqIs.bool)) ?_
        refine TF_name 71 (v' := .bool true) rfl (congrArg Value.bool (by simp [event_str (Classical.not_not.1 h58) (Classical.not_not.1 h62)])) ?_
        refine TF_y rfl rfl (Y_pick_f rfl rfl) ?_
        refine TF_y rfl rfl (Y_assign rfl) ?_
        refine TF_nil ?_
        refine T_ret ?_
        exact RetG_1 (.inl rfl) rfl (ResV.tmp rfl) GivesTo.g (⟨rfl, rfl⟩)
end Go.SL
