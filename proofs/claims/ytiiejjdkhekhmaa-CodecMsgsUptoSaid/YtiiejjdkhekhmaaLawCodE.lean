/- The walk of the law on what is cut off. -/
import Derived.Test.YtiiejjdkhekhmaaRefM
import Derived.Test.YtiiejjdkhekhmaaMsgRow
set_option linter.unusedVariables false
set_option linter.unusedSimpArgs false
namespace Go.SL
open Go Go.Proofs
def PartRes {α : Type} (ok iv : α → Prop) (b : α → List Int) (bs : List Int) (e : Int) : Prop := ∃ x s', RdR ok iv b (rs0 bs) x s' ∧ ((e = 0 ∧ s'.bad = false) ∨ (e = 10 ∧ s'.bad = true))
theorem readEvent_spec {L : List HP} {A : Option Addr} {c : Nat} {bs : List Int} (hk : SlK L (intR .u8) A c bs) (hb : bs.length ≤ 140737488355328) : Fn Try.prog 55 #[.slice A bs.length c] L (fun v L' => (∃ a n e, v = .tuple #[a, .int .i64 n, .int .i64 e] ∧ PartRes rEvent eventOk bEvent bs e) ∧ L' = L) := by
  refine Fn_enter Try.func55 rfl rfl rfl rfl ?_
  refine T_gives hk.lay ?_
  refine T_region ?_
  refine TL_alloc rfl rfl ?_
  intro b2
  refine TL_y rfl rfl (Y_assign rfl) ?_
  refine TL_y rfl rfl (Y_assign rfl) ?_
  refine TL_nil ?_
  refine T_region ?_
  refine TL_y rfl rfl (Y_move rfl) ?_
  refine TL_y rfl rfl (Y_build rfl rfl) ?_
  refine TL_box rfl rfl rfl ?_
  intro b9
  refine TL_y rfl rfl (Y_assign rfl) ?_
  refine TL_nil ?_
  refine T_region ?_
  refine TL_y rfl rfl (Y_move rfl) ?_
  refine TL_gives (rdr_close b9 (rs0 bs) (SlK.tail slk)) ?_
  refine TL_call rfl rfl (revent_spec (by show 0 + bs.length ≤ _; omega)) ?_
  rintro _ _ ⟨x, A1, c1, s1, rfl, rfl, h⟩
  refine TL_alloc rfl rfl ?_
  intro b6
  refine TL_store rfl rfl rfl rfl rfl rfl ?_
  refine TL_nil ?_
  refine T_seq ?_
  refine T_pullk b9 ?_
  refine T_rdr fun Ar cr => ?_
  refine T_region ?_
  refine TL_y rfl rfl (Y_move rfl) ?_
  refine TL_y rfl rfl (Y_nil_check rfl) ?_
  refine TL_y rfl rfl (Y_field_addr rfl) ?_
  refine TL_y rfl rfl (Y_load rfl rfl) ?_
  refine TL_nil ?_
  refine T_cond rfl (fun h15 => ?_) (fun h15 => ?_)
  · refine T_region ?_
    refine TL_y rfl rfl (Y_build rfl rfl) ?_
    refine TL_store rfl rfl rfl rfl rfl rfl ?_
    refine TL_y rfl rfl (Y_assign rfl) ?_
    refine TL_y rfl rfl (Y_assign rfl) ?_
    refine TL_nil ?_
    refine T_ret ?_
    refine thenS_ret ?_
    exact RetG_3 (.inl rfl) rfl (ResV.agg rfl rfl) (ResV.tmp rfl) (ResV.tmp rfl) GivesTo.g (⟨⟨_, _, _, rfl, x, s1, h, .inr ⟨rfl, h15⟩⟩, rfl⟩)
  · refine T_skip ?_
    refine thenS_normal ?_
    refine T_region_draw (cells b9 [.slice Ar s1.b.length cr, .int .i64 (s1.n : Int), .bool s1.bad] 119 :: cells b6 (eventC x (A1, c1)) 75 :: []) [0, 0, 2, 6, 14, 1, 63, 127] [] [(0, true), (1, true), (2, true), (3, true), (4, true), (5, false), (6, true), (7, true)] (by kernel_rfl) (by decide +kernel) GivesTo.g ?_
    refine TF_y rfl rfl (Y_load_agg rfl rfl) ?_
    refine TF_y rfl rfl (Y_move rfl) ?_
    refine TF_y rfl rfl (Y_nil_check rfl) ?_
    refine TF_y rfl rfl (Y_field_addr rfl) ?_
    refine TF_y rfl rfl (Y_load rfl rfl) ?_
    refine TF_anchor rfl ?_
    refine TL_store rfl rfl rfl rfl rfl rfl ?_
    refine TF_end GivesTo.g ?_
    refine TF_y rfl rfl (Y_assign rfl) ?_
    refine TF_y rfl rfl (Y_assign rfl) ?_
    refine TF_nil ?_
    refine T_ret ?_
    exact RetG_3 (.inl rfl) rfl (ResV.agg rfl rfl) (ResV.tmp rfl) (ResV.tmp rfl) GivesTo.g (⟨⟨_, _, _, rfl, x, s1, h, .inl ⟨rfl, h15⟩⟩, rfl⟩)
theorem readSeal_spec {L : List HP} {A : Option Addr} {c : Nat} {bs : List Int} (hk : SlK L (intR .u8) A c bs) (hb : bs.length ≤ 140737488355328) : Fn Try.prog 56 #[.slice A bs.length c] L (fun v L' => (∃ a n e, v = .tuple #[a, .int .i64 n, .int .i64 e] ∧ PartRes rSeal orderOk' bSeal bs e) ∧ L' = L) := by
  refine Fn_enter Try.func56 rfl rfl rfl rfl ?_
  refine T_gives hk.lay ?_
  refine T_region ?_
  refine TL_alloc rfl rfl ?_
  intro b2
  refine TL_y rfl rfl (Y_assign rfl) ?_
  refine TL_y rfl rfl (Y_assign rfl) ?_
  refine TL_nil ?_
  refine T_region ?_
  refine TL_y rfl rfl (Y_move rfl) ?_
  refine TL_y rfl rfl (Y_build rfl rfl) ?_
  refine TL_box rfl rfl rfl ?_
  intro b9
  refine TL_y rfl rfl (Y_assign rfl) ?_
  refine TL_nil ?_
  refine T_region ?_
  refine TL_y rfl rfl (Y_move rfl) ?_
  refine TL_gives (rdr_close b9 (rs0 bs) (SlK.tail slk)) ?_
  refine TL_call rfl rfl (rseal_spec (by show 0 + bs.length ≤ _; omega)) ?_
  rintro _ _ ⟨x, A1, c1, s1, rfl, rfl, h⟩
  refine TL_alloc rfl rfl ?_
  intro b6
  refine TL_store rfl rfl rfl rfl rfl rfl ?_
  refine TL_nil ?_
  refine T_seq ?_
  refine T_pullk b9 ?_
  refine T_rdr fun Ar cr => ?_
  refine T_region ?_
  refine TL_y rfl rfl (Y_move rfl) ?_
  refine TL_y rfl rfl (Y_nil_check rfl) ?_
  refine TL_y rfl rfl (Y_field_addr rfl) ?_
  refine TL_y rfl rfl (Y_load rfl rfl) ?_
  refine TL_nil ?_
  refine T_cond rfl (fun h15 => ?_) (fun h15 => ?_)
  · refine T_region ?_
    refine TL_y rfl rfl (Y_build rfl rfl) ?_
    refine TL_store rfl rfl rfl rfl rfl rfl ?_
    refine TL_y rfl rfl (Y_assign rfl) ?_
    refine TL_y rfl rfl (Y_assign rfl) ?_
    refine TL_nil ?_
    refine T_ret ?_
    refine thenS_ret ?_
    exact RetG_3 (.inl rfl) rfl (ResV.agg rfl rfl) (ResV.tmp rfl) (ResV.tmp rfl) GivesTo.g (⟨⟨_, _, _, rfl, x, s1, h, .inr ⟨rfl, h15⟩⟩, rfl⟩)
  · refine T_skip ?_
    refine thenS_normal ?_
    refine T_region_draw (cells b9 [.slice Ar s1.b.length cr, .int .i64 (s1.n : Int), .bool s1.bad] 119 :: cells b6 (orderC x (A1, c1)) 65 :: []) [0, 0, 2, 6, 14, 1, 63, 127] [] [(0, true), (1, true), (2, true), (3, true), (4, true), (5, false), (6, true), (7, true)] (by kernel_rfl) (by decide +kernel) GivesTo.g ?_
    refine TF_y rfl rfl (Y_load_agg rfl rfl) ?_
    refine TF_y rfl rfl (Y_move rfl) ?_
    refine TF_y rfl rfl (Y_nil_check rfl) ?_
    refine TF_y rfl rfl (Y_field_addr rfl) ?_
    refine TF_y rfl rfl (Y_load rfl rfl) ?_
    refine TF_anchor rfl ?_
    refine TL_store rfl rfl rfl rfl rfl rfl ?_
    refine TF_end GivesTo.g ?_
    refine TF_y rfl rfl (Y_assign rfl) ?_
    refine TF_y rfl rfl (Y_assign rfl) ?_
    refine TF_nil ?_
    refine T_ret ?_
    exact RetG_3 (.inl rfl) rfl (ResV.agg rfl rfl) (ResV.tmp rfl) (ResV.tmp rfl) GivesTo.g (⟨⟨_, _, _, rfl, x, s1, h, .inl ⟨rfl, h15⟩⟩, rfl⟩)
theorem cut_bad {α : Type} {ok iv : α → Prop} {b : α → List Int} (hp : PF ok b) {x y : α} {k : Nat} {s' : RS} (hx : ok x) (hk : k < (b x).length) (h : RdR ok iv b (rs0 ((b x).take k)) y s') : s'.bad = true := by
  cases e : s'.bad with
  | true => rfl
  | false =>
    obtain ⟨_, a2, a3⟩ := h.snd e
    have e1 : b x ++ [] = b y ++ (s'.b ++ (b x).drop k) := by
      rw [List.append_nil, ← List.append_assoc, ← a3]; exact (List.take_append_drop k (b x)).symm
    obtain ⟨_, e2⟩ := hp _ _ _ _ hx a2 e1
    have : ([] : List Int).length = (s'.b ++ (b x).drop k).length := by rw [← e2]
    simp at this
    omega
theorem cut_msg {m x : MsgD} {k : Nat} {e : Int} (hm : rMsg m) (hk : k < (bMsg m).length) (h : MsgRes ((bMsg m).take k) x e) : e = 10 := by
  obtain ⟨y, s', h1, ⟨_, _, h2, _⟩ | ⟨h2, _⟩⟩ := h
  · have := cut_bad pf_msg hm hk h1; rw [this] at h2; cases h2
  · exact h2
theorem cut_part {α : Type} {ok iv : α → Prop} {b : α → List Int} (hp : PF ok b) {x : α} {k : Nat} {e : Int} (hx : ok x) (hk : k < (b x).length) (h : PartRes ok iv b ((b x).take k) e) : e = 10 := by
  obtain ⟨y, s', h1, ⟨_, h2⟩ | ⟨h2, _⟩⟩ := h
  · have := cut_bad hp hx hk h1; rw [this] at h2; cases h2
  · exact h2
theorem bNum_pos (n : Int) : 0 < (bNum n).length := grp_pos _
theorem bMsg_pos (m : MsgD) : 0 < (bMsg m).length := by have := bNum_pos m.kind; unfold bMsg; simp only [List.length_append]; omega
theorem bEvent_pos (m : EventD) : 0 < (bEvent m).length := by have := bNum_pos m.dot.1; unfold bEvent; simp only [List.length_append]; omega
theorem bSeal_pos (m : OrderD) : 0 < (bSeal m).length := by have := bNum_pos m.epoch; unfold bSeal; simp only [List.length_append]; omega
theorem outE_msg {m : MsgD} : rMsg m ↔ outE (wMsg m ([], false)) ≠ 1 := by
  have h := wMsg_bad (m := m) (s := ([], false))
  unfold outE
  by_cases hb : (wMsg m ([], false)).2 = true
  · rw [if_pos hb]; rw [hb] at h; simp at h; simp [h]
  · rw [if_neg hb]
    have : (wMsg m ([], false)).2 = false := by simpa using hb
    refine ⟨fun _ => by split <;> decide, fun _ => (h.1 this).2⟩
theorem outE_event {m : EventD} : rEvent m ↔ outE (wEvent m ([], false)) = 0 := by
  constructor
  · intro h
    have h1 : (wEvent m ([], false)).2 = false := wEvent_bad.2 ⟨rfl, h⟩
    have h2 := wEvent_len m ([], false)
    have h3 : cEvent m ≤ 300 := by
      obtain ⟨_, _, h3, h4, _, h6, _⟩ := h
      have a := h3.2.1; have b := h4.2.2; have c := h6.2.2
      unfold cEvent; omega
    unfold outE
    rw [if_neg (by rw [h1]; simp), if_neg (by simp only [List.length_nil] at h2; omega)]
  · intro h; exact (out_event h).1
theorem outE_seal' {m : OrderD} : rSeal m ↔ outE (wSeal m ([], false)) = 0 := by
  rw [outE_seal]; by_cases h : rSeal m <;> simp [h]
theorem out_len {s : WS} : (outB s).length ≤ 65536 := by
  unfold outB; split
  · simp
  · rename_i h; simp at h; omega
theorem codecCuts_walk {L : List HP} (m : MsgD) (x : EventD) (s : OrderD) (cut : Int) (p : MsgP) (u v : Option Addr × Nat) (hm : MsgOk m) (hkm : MsgK L m p) (hcm : cMsg m ≤ 140737488355328) (hx : eventOk x) (hkx : SlK L (intR .i64) u.1 u.2 x.deps) (hcx : cEvent x ≤ 140737488355328) (hs : orderOk' s) (hks : SlK L (intR .i64) v.1 v.2 s.cut) (hcs : cSeal s ≤ 140737488355328) (hcut : intIn .i64 cut) :
    Fn Try.prog 14 #[msgV m p, eventV x u, .agg (List.toArray (orderC s v)), .int .i64 cut] L (fun v L' => v = .bool true ∧ L' = L) := by
  have hcut := i64In hcut
  obtain ⟨nn, hnn⟩ : ∃ nn : Nat, (nn : Int) = if cut < 0 then -(cut + 1) else cut := ⟨(if cut < 0 then -(cut + 1) else cut).toNat, by split <;> omega⟩
  refine Fn_enter Try.func14 rfl rfl rfl rfl ?_
  refine T_gives (MsgK.lay hkm) ?_
  refine T_gives (SlK.lay hkx.tail.tail.tail.tail) ?_
  refine T_gives (SlK.lay hks.tail.tail.tail.tail.tail) ?_
  refine T_region ?_
  refine TL_box rfl rfl rfl ?_
  intro b4
  refine TL_box rfl rfl rfl ?_
  intro b5
  refine TL_box rfl rfl rfl ?_
  intro b6
  refine TL_y rfl rfl (Y_assign rfl) ?_
  refine TL_nil ?_
  refine T_region ?_
  refine TL_y rfl rfl (Y_load_agg rfl rfl) ?_
  refine TL_call rfl rfl (msg_spec m p hm ⟨slk, slk, slk, slk⟩ hcm) ?_
  rintro _ _ ⟨A18, c18, rfl, rfl⟩
  refine TL_freeze_osl ?_
  refine TL_y rfl rfl (Y_move rfl) ?_
  refine TL_y rfl rfl (Y_extract rfl rfl) ?_
  refine TL_y rfl rfl (Y_extract rfl rfl) ?_
  refine TL_y rfl rfl (Y_assign rfl) ?_
  refine TL_y rfl rfl (Y_assign rfl) ?_
  refine TL_nil ?_
  refine T_region ?_
  refine TL_y rfl rfl (Y_load_agg rfl rfl) ?_
  refine TL_call rfl rfl (event_spec x hx slk hcx) ?_
  rintro _ _ ⟨A23, c23, rfl, rfl⟩
  refine TL_freeze_osl ?_
  refine TL_y rfl rfl (Y_move rfl) ?_
  refine TL_y rfl rfl (Y_extract rfl rfl) ?_
  refine TL_y rfl rfl (Y_extract rfl rfl) ?_
  refine TL_y rfl rfl (Y_assign rfl) ?_
  refine TL_y rfl rfl (Y_assign rfl) ?_
  refine TL_nil ?_
  refine T_region ?_
  refine TL_y rfl rfl (Y_load_agg rfl rfl) ?_
  refine TL_call rfl rfl (seal_spec s hs slk hcs) ?_
  rintro _ _ ⟨A28, c28, rfl, rfl⟩
  refine TL_freeze_osl ?_
  refine TL_y rfl rfl (Y_move rfl) ?_
  refine TL_y rfl rfl (Y_extract rfl rfl) ?_
  refine TL_y rfl rfl (Y_extract rfl rfl) ?_
  refine TL_y rfl rfl (Y_assign rfl) ?_
  refine TL_y rfl rfl (Y_assign rfl) ?_
  refine TL_nil ?_
  refine T_seq ?_
  refine T_region ?_
  refine TL_call rfl rfl (lives01_spec _) ?_
  rintro _ _ ⟨rfl, rfl⟩
  refine TL_name 31 (v' := .bool true) rfl (rfl) ?_
  refine TL_y rfl rfl (Y_not_t rfl) ?_
  refine TL_nil ?_
  refine T_cond_false rfl ?_
  refine T_skip ?_
  refine thenS_normal ?_
  refine T_seq ?_
  refine T_region ?_
  refine TL_y rfl rfl (Y_move rfl) ?_
  refine TL_y rfl rfl (Y_ne rfl rfl) ?_
  refine TL_y rfl rfl (Y_move rfl) ?_
  refine TL_splitd 35 rfl (fun h35 => ?_) (fun h35 => ?_)
  · refine TL_gskip rfl rfl rfl rfl ?_
    refine TL_gskip rfl rfl rfl rfl ?_
    refine TL_y rfl rfl (Y_pick_t rfl rfl) ?_
    refine TL_y rfl rfl (Y_move rfl) ?_
    refine TL_gskip rfl rfl rfl rfl ?_
    refine TL_gskip rfl rfl rfl rfl ?_
    refine TL_y rfl rfl (Y_pick_t rfl rfl) ?_
    refine TL_nil ?_
    refine T_cond_true rfl ?_
    refine T_region ?_
    refine TL_y rfl rfl (Y_load_agg rfl rfl) ?_
    refine TL_call rfl rfl (rightMsg_spec m p hm ⟨slk, slk, slk, slk⟩) ?_
    rintro _ _ ⟨rfl, rfl⟩
    refine TL_y rfl rfl (Y_move rfl) ?_
    refine TL_y rfl rfl (Y_ne rfl rfl) ?_
    refine TL_y rfl rfl (Y_equal rfl rfl (EqIs.bool)) ?_
    refine TL_name 47 (v' := .bool true) rfl (congrArg Value.bool (by simp [outE_msg])) ?_
    refine TL_y rfl rfl (Y_move rfl) ?_
    refine TL_grun rfl rfl ?_
    refine TL_y rfl rfl (Y_load_agg rfl rfl) ?_
    refine TL_grun rfl rfl ?_
    refine TL_call rfl rfl (rightEvent_spec x hx slk) ?_
    rintro _ _ ⟨rfl, rfl⟩
    refine TL_grun rfl rfl ?_
    refine TL_y rfl rfl (Y_move rfl) ?_
    refine TL_grun rfl rfl ?_
    refine TL_y rfl rfl (Y_eq rfl rfl) ?_
    refine TL_grun rfl rfl ?_
    refine TL_y rfl rfl (Y_equal rfl rfl (EqIs.bool)) ?_
    refine TL_name 53 (v' := .bool true) rfl (congrArg Value.bool (by simp [outE_event])) ?_
    refine TL_y rfl rfl (Y_pick_t rfl rfl) ?_
    refine TL_y rfl rfl (Y_move rfl) ?_
    refine TL_grun rfl rfl ?_
    refine TL_y rfl rfl (Y_load_agg rfl rfl) ?_
    refine TL_grun rfl rfl ?_
    refine TL_call rfl rfl (rightSeal_spec s hs slk) ?_
    rintro _ _ ⟨rfl, rfl⟩
    refine TL_grun rfl rfl ?_
    refine TL_y rfl rfl (Y_move rfl) ?_
    refine TL_grun rfl rfl ?_
    refine TL_y rfl rfl (Y_eq rfl rfl) ?_
    refine TL_grun rfl rfl ?_
    refine TL_y rfl rfl (Y_equal rfl rfl (EqIs.bool)) ?_
    refine TL_name 60 (v' := .bool true) rfl (congrArg Value.bool (by simp [outE_seal'])) ?_
    refine TL_y rfl rfl (Y_pick_t rfl rfl) ?_
    refine TL_y rfl rfl (Y_assign rfl) ?_
    refine TL_nil ?_
    refine T_ret ?_
    refine thenS_ret ?_
    exact RetG_1 (.inl rfl) rfl (ResV.tmp rfl) GivesTo.g (⟨rfl, rfl⟩)
  · refine TL_grun rfl rfl ?_
    refine TL_y rfl rfl (Y_move rfl) ?_
    refine TL_grun rfl rfl ?_
    refine TL_y rfl rfl (Y_ne rfl rfl) ?_
    refine TL_y rfl rfl (Y_pick_f rfl rfl) ?_
    refine TL_y rfl rfl (Y_move rfl) ?_
    refine TL_splitd 39 rfl (fun h39 => ?_) (fun h39 => ?_)
    · refine TL_gskip rfl rfl rfl rfl ?_
      refine TL_gskip rfl rfl rfl rfl ?_
      refine TL_y rfl rfl (Y_pick_t rfl rfl) ?_
      refine TL_nil ?_
      refine T_cond_true rfl ?_
      refine T_region ?_
      refine TL_y rfl rfl (Y_load_agg rfl rfl) ?_
      refine TL_call rfl rfl (rightMsg_spec m p hm ⟨slk, slk, slk, slk⟩) ?_
      rintro _ _ ⟨rfl, rfl⟩
      refine TL_y rfl rfl (Y_move rfl) ?_
      refine TL_y rfl rfl (Y_ne rfl rfl) ?_
      refine TL_y rfl rfl (Y_equal rfl rfl (EqIs.bool)) ?_
      refine TL_name 47 (v' := .bool true) rfl (congrArg Value.bool (by simp [outE_msg])) ?_
      refine TL_y rfl rfl (Y_move rfl) ?_
      refine TL_grun rfl rfl ?_
      refine TL_y rfl rfl (Y_load_agg rfl rfl) ?_
      refine TL_grun rfl rfl ?_
      refine TL_call rfl rfl (rightEvent_spec x hx slk) ?_
      rintro _ _ ⟨rfl, rfl⟩
      refine TL_grun rfl rfl ?_
      refine TL_y rfl rfl (Y_move rfl) ?_
      refine TL_grun rfl rfl ?_
      refine TL_y rfl rfl (Y_eq rfl rfl) ?_
      refine TL_grun rfl rfl ?_
      refine TL_y rfl rfl (Y_equal rfl rfl (EqIs.bool)) ?_
      refine TL_name 53 (v' := .bool true) rfl (congrArg Value.bool (by simp [outE_event])) ?_
      refine TL_y rfl rfl (Y_pick_t rfl rfl) ?_
      refine TL_y rfl rfl (Y_move rfl) ?_
      refine TL_grun rfl rfl ?_
      refine TL_y rfl rfl (Y_load_agg rfl rfl) ?_
      refine TL_grun rfl rfl ?_
      refine TL_call rfl rfl (rightSeal_spec s hs slk) ?_
      rintro _ _ ⟨rfl, rfl⟩
      refine TL_grun rfl rfl ?_
      refine TL_y rfl rfl (Y_move rfl) ?_
      refine TL_grun rfl rfl ?_
      refine TL_y rfl rfl (Y_eq rfl rfl) ?_
      refine TL_grun rfl rfl ?_
      refine TL_y rfl rfl (Y_equal rfl rfl (EqIs.bool)) ?_
      refine TL_name 60 (v' := .bool true) rfl (congrArg Value.bool (by simp [outE_seal'])) ?_
      refine TL_y rfl rfl (Y_pick_t rfl rfl) ?_
      refine TL_y rfl rfl (Y_assign rfl) ?_
      refine TL_nil ?_
      refine T_ret ?_
      refine thenS_ret ?_
      exact RetG_1 (.inl rfl) rfl (ResV.tmp rfl) GivesTo.g (⟨rfl, rfl⟩)
    · refine TL_grun rfl rfl ?_
      refine TL_y rfl rfl (Y_move rfl) ?_
      refine TL_grun rfl rfl ?_
      refine TL_y rfl rfl (Y_ne rfl rfl) ?_
      refine TL_y rfl rfl (Y_pick_f rfl rfl) ?_
      refine TL_nil ?_
      refine T_if rfl (fun h42 => ?_) (fun h42 => ?_)
      · refine T_region ?_
        refine TL_y rfl rfl (Y_load_agg rfl rfl) ?_
        refine TL_call rfl rfl (rightMsg_spec m p hm ⟨slk, slk, slk, slk⟩) ?_
        rintro _ _ ⟨rfl, rfl⟩
        refine TL_y rfl rfl (Y_move rfl) ?_
        refine TL_y rfl rfl (Y_ne rfl rfl) ?_
        refine TL_y rfl rfl (Y_equal rfl rfl (EqIs.bool)) ?_
        refine TL_name 47 (v' := .bool true) rfl (congrArg Value.bool (by simp [outE_msg])) ?_
        refine TL_y rfl rfl (Y_move rfl) ?_
        refine TL_grun rfl rfl ?_
        refine TL_y rfl rfl (Y_load_agg rfl rfl) ?_
        refine TL_grun rfl rfl ?_
        refine TL_call rfl rfl (rightEvent_spec x hx slk) ?_
        rintro _ _ ⟨rfl, rfl⟩
        refine TL_grun rfl rfl ?_
        refine TL_y rfl rfl (Y_move rfl) ?_
        refine TL_grun rfl rfl ?_
        refine TL_y rfl rfl (Y_eq rfl rfl) ?_
        refine TL_grun rfl rfl ?_
        refine TL_y rfl rfl (Y_equal rfl rfl (EqIs.bool)) ?_
        refine TL_name 53 (v' := .bool true) rfl (congrArg Value.bool (by simp [outE_event])) ?_
        refine TL_y rfl rfl (Y_pick_t rfl rfl) ?_
        refine TL_y rfl rfl (Y_move rfl) ?_
        refine TL_grun rfl rfl ?_
        refine TL_y rfl rfl (Y_load_agg rfl rfl) ?_
        refine TL_grun rfl rfl ?_
        refine TL_call rfl rfl (rightSeal_spec s hs slk) ?_
        rintro _ _ ⟨rfl, rfl⟩
        refine TL_grun rfl rfl ?_
        refine TL_y rfl rfl (Y_move rfl) ?_
        refine TL_grun rfl rfl ?_
        refine TL_y rfl rfl (Y_eq rfl rfl) ?_
        refine TL_grun rfl rfl ?_
        refine TL_y rfl rfl (Y_equal rfl rfl (EqIs.bool)) ?_
        refine TL_name 60 (v' := .bool true) rfl (congrArg Value.bool (by simp [outE_seal'])) ?_
        refine TL_y rfl rfl (Y_pick_t rfl rfl) ?_
        refine TL_y rfl rfl (Y_assign rfl) ?_
        refine TL_nil ?_
        refine T_ret ?_
        refine thenS_ret ?_
        exact RetG_1 (.inl rfl) rfl (ResV.tmp rfl) GivesTo.g (⟨rfl, rfl⟩)
      · refine T_skip ?_
        refine thenS_normal ?_
        obtain ⟨rm, em⟩ := out_msg (Classical.not_not.1 h35)
        obtain ⟨rx, ex⟩ := out_event (Classical.not_not.1 h39)
        obtain ⟨rs, es⟩ := out_seal (Classical.not_not.1 h42)
        have lm := out_len (s := wMsg m ([], false))
        have lx := out_len (s := wEvent x ([], false))
        have ls := out_len (s := wSeal s ([], false))
        rw [em, ex, es]
        rw [em] at lm
        rw [ex] at lx
        rw [es] at ls
        have pm := bMsg_pos m
        have px := bEvent_pos x
        have ps := bSeal_pos s
        refine SlK.lens (slk (A := A18) (c := c18)) fun l18 => ?_
        refine SlK.lens (slk (A := A23) (c := c23)) fun l23 => ?_
        refine SlK.lens (slk (A := A28) (c := c28)) fun l28 => ?_
        refine T_region ?_
        refine TL_y rfl rfl (Y_move rfl) ?_
        refine TL_y rfl rfl (Y_assign rfl) ?_
        refine TL_nil ?_
        refine T_seq ?_
        refine T_region ?_
        refine TL_y rfl rfl (Y_move rfl) ?_
        refine TL_y rfl rfl (Y_lt rfl rfl) ?_
        refine TL_nil ?_
        refine T_if rfl (fun h64 => ?_) (fun h64 => ?_)
        · refine T_region_last ?_
          refine TL_y rfl rfl (Y_move rfl) ?_
          refine TL_y rfl rfl (Y_add rfl rfl (by omega)) ?_
          refine TL_y rfl rfl (Y_neg rfl (by omega)) ?_
          refine TL_name 67 (v' := .int .i64 (nn : Int)) rfl (by rw [hnn, if_pos h64]) ?_
          refine TL_y rfl rfl (Y_assign rfl) ?_
          refine TL_nil ?_
          refine thenS_normal ?_
          refine T_region ?_
          refine TL_y rfl rfl (Y_move rfl) ?_
          refine TL_y rfl rfl (Y_move rfl) ?_
          refine TL_y rfl rfl (Y_move rfl) ?_
          refine TL_y rfl rfl (Y_len rfl) ?_
          refine TL_y rfl rfl (Y_rem rfl rfl (by omega)) ?_
          refine TL_name 73 (v' := .int .i64 ((nn % (bMsg m).length : Nat) : Int)) rfl (by congr 1) ?_
          have km : nn % (bMsg m).length < (bMsg m).length := Nat.mod_lt _ pm
          refine TL_y rfl rfl (Y_cut_h rfl rfl (by omega)) ?_
          refine TL_name 74 (v' := .slice A18 ((bMsg m).take (nn % (bMsg m).length)).length c18) rfl (by rw [List.length_take]; congr 1; omega) ?_
          refine TL_call rfl rfl (readMsg_spec (SlK.take slk _) (by rw [List.length_take]; omega)) ?_
          rintro _ _ ⟨m1, p1, e1, rfl, rfl, _, hr1⟩
          refine TL_y rfl rfl (Y_move rfl) ?_
          refine TL_y rfl rfl (Y_extract rfl rfl) ?_
          refine TL_y rfl rfl (Y_extract rfl rfl) ?_
          refine TL_y rfl rfl (Y_assign rfl) ?_
          refine TL_nil ?_
          refine T_region ?_
          refine TL_y rfl rfl (Y_move rfl) ?_
          refine TL_y rfl rfl (Y_move rfl) ?_
          refine TL_y rfl rfl (Y_move rfl) ?_
          refine TL_y rfl rfl (Y_len rfl) ?_
          refine TL_y rfl rfl (Y_rem rfl rfl (by omega)) ?_
          refine TL_name 83 (v' := .int .i64 ((nn % (bEvent x).length : Nat) : Int)) rfl (by congr 1) ?_
          have kx : nn % (bEvent x).length < (bEvent x).length := Nat.mod_lt _ px
          refine TL_y rfl rfl (Y_cut_h rfl rfl (by omega)) ?_
          refine TL_name 84 (v' := .slice A23 ((bEvent x).take (nn % (bEvent x).length)).length c23) rfl (by rw [List.length_take]; congr 1; omega) ?_
          refine TL_call rfl rfl (readEvent_spec (SlK.take slk _) (by rw [List.length_take]; omega)) ?_
          rintro _ _ ⟨⟨a2, n2, e2, rfl, hr2⟩, rfl⟩
          refine TL_y rfl rfl (Y_move rfl) ?_
          refine TL_y rfl rfl (Y_extract rfl rfl) ?_
          refine TL_y rfl rfl (Y_extract rfl rfl) ?_
          refine TL_y rfl rfl (Y_extract rfl rfl) ?_
          refine TL_y rfl rfl (Y_assign rfl) ?_
          refine TL_nil ?_
          refine T_region ?_
          refine TL_y rfl rfl (Y_move rfl) ?_
          refine TL_y rfl rfl (Y_move rfl) ?_
          refine TL_y rfl rfl (Y_move rfl) ?_
          refine TL_y rfl rfl (Y_len rfl) ?_
          refine TL_y rfl rfl (Y_rem rfl rfl (by omega)) ?_
          refine TL_name 94 (v' := .int .i64 ((nn % (bSeal s).length : Nat) : Int)) rfl (by congr 1) ?_
          have ks : nn % (bSeal s).length < (bSeal s).length := Nat.mod_lt _ ps
          refine TL_y rfl rfl (Y_cut_h rfl rfl (by omega)) ?_
          refine TL_name 95 (v' := .slice A28 ((bSeal s).take (nn % (bSeal s).length)).length c28) rfl (by rw [List.length_take]; congr 1; omega) ?_
          refine TL_call rfl rfl (readSeal_spec (SlK.take slk _) (by rw [List.length_take]; omega)) ?_
          rintro _ _ ⟨⟨a3, n3, e3, rfl, hr3⟩, rfl⟩
          refine TL_y rfl rfl (Y_move rfl) ?_
          refine TL_y rfl rfl (Y_extract rfl rfl) ?_
          refine TL_y rfl rfl (Y_extract rfl rfl) ?_
          refine TL_y rfl rfl (Y_extract rfl rfl) ?_
          refine TL_y rfl rfl (Y_assign rfl) ?_
          refine TL_nil ?_
          refine T_region ?_
          refine TL_y rfl rfl (Y_move rfl) ?_
          refine TL_y rfl rfl (Y_eq rfl rfl) ?_
          refine TL_name 101 (v' := .bool true) rfl (congrArg Value.bool (decide_eq_true (cut_msg rm km hr1))) ?_
          refine TL_y rfl rfl (Y_move rfl) ?_
          refine TL_grun rfl rfl ?_
          refine TL_y rfl rfl (Y_move rfl) ?_
          refine TL_grun rfl rfl ?_
          refine TL_y rfl rfl (Y_eq rfl rfl) ?_
          refine TL_name 104 (v' := .bool true) rfl (congrArg Value.bool (decide_eq_true (cut_part pf_event rx kx hr2))) ?_
          refine TL_y rfl rfl (Y_pick_t rfl rfl) ?_
          refine TL_y rfl rfl (Y_move rfl) ?_
          refine TL_grun rfl rfl ?_
          refine TL_y rfl rfl (Y_move rfl) ?_
          refine TL_grun rfl rfl ?_
          refine TL_y rfl rfl (Y_eq rfl rfl) ?_
          refine TL_name 108 (v' := .bool true) rfl (congrArg Value.bool (decide_eq_true (cut_part pf_seal rs ks hr3))) ?_
          refine TL_y rfl rfl (Y_pick_t rfl rfl) ?_
          refine TL_y rfl rfl (Y_assign rfl) ?_
          refine TL_nil ?_
          refine T_ret ?_
          exact RetG_1 (.inl rfl) rfl (ResV.tmp rfl) GivesTo.g (⟨rfl, rfl⟩)
        · refine T_skip ?_
          refine thenS_normal ?_
          refine T_region ?_
          refine TL_name 15 (v' := .int .i64 (nn : Int)) rfl (by rw [hnn, if_neg h64]) ?_
          refine TL_y rfl rfl (Y_move rfl) ?_
          refine TL_y rfl rfl (Y_move rfl) ?_
          refine TL_y rfl rfl (Y_move rfl) ?_
          refine TL_y rfl rfl (Y_len rfl) ?_
          refine TL_y rfl rfl (Y_rem rfl rfl (by omega)) ?_
          refine TL_name 73 (v' := .int .i64 ((nn % (bMsg m).length : Nat) : Int)) rfl (by congr 1) ?_
          have km : nn % (bMsg m).length < (bMsg m).length := Nat.mod_lt _ pm
          refine TL_y rfl rfl (Y_cut_h rfl rfl (by omega)) ?_
          refine TL_name 74 (v' := .slice A18 ((bMsg m).take (nn % (bMsg m).length)).length c18) rfl (by rw [List.length_take]; congr 1; omega) ?_
          refine TL_call rfl rfl (readMsg_spec (SlK.take slk _) (by rw [List.length_take]; omega)) ?_
          rintro _ _ ⟨m1, p1, e1, rfl, rfl, _, hr1⟩
          refine TL_y rfl rfl (Y_move rfl) ?_
          refine TL_y rfl rfl (Y_extract rfl rfl) ?_
          refine TL_y rfl rfl (Y_extract rfl rfl) ?_
          refine TL_y rfl rfl (Y_assign rfl) ?_
          refine TL_nil ?_
          refine T_region ?_
          refine TL_y rfl rfl (Y_move rfl) ?_
          refine TL_y rfl rfl (Y_move rfl) ?_
          refine TL_y rfl rfl (Y_move rfl) ?_
          refine TL_y rfl rfl (Y_len rfl) ?_
          refine TL_y rfl rfl (Y_rem rfl rfl (by omega)) ?_
          refine TL_name 83 (v' := .int .i64 ((nn % (bEvent x).length : Nat) : Int)) rfl (by congr 1) ?_
          have kx : nn % (bEvent x).length < (bEvent x).length := Nat.mod_lt _ px
          refine TL_y rfl rfl (Y_cut_h rfl rfl (by omega)) ?_
          refine TL_name 84 (v' := .slice A23 ((bEvent x).take (nn % (bEvent x).length)).length c23) rfl (by rw [List.length_take]; congr 1; omega) ?_
          refine TL_call rfl rfl (readEvent_spec (SlK.take slk _) (by rw [List.length_take]; omega)) ?_
          rintro _ _ ⟨⟨a2, n2, e2, rfl, hr2⟩, rfl⟩
          refine TL_y rfl rfl (Y_move rfl) ?_
          refine TL_y rfl rfl (Y_extract rfl rfl) ?_
          refine TL_y rfl rfl (Y_extract rfl rfl) ?_
          refine TL_y rfl rfl (Y_extract rfl rfl) ?_
          refine TL_y rfl rfl (Y_assign rfl) ?_
          refine TL_nil ?_
          refine T_region ?_
          refine TL_y rfl rfl (Y_move rfl) ?_
          refine TL_y rfl rfl (Y_move rfl) ?_
          refine TL_y rfl rfl (Y_move rfl) ?_
          refine TL_y rfl rfl (Y_len rfl) ?_
          refine TL_y rfl rfl (Y_rem rfl rfl (by omega)) ?_
          refine TL_name 94 (v' := .int .i64 ((nn % (bSeal s).length : Nat) : Int)) rfl (by congr 1) ?_
          have ks : nn % (bSeal s).length < (bSeal s).length := Nat.mod_lt _ ps
          refine TL_y rfl rfl (Y_cut_h rfl rfl (by omega)) ?_
          refine TL_name 95 (v' := .slice A28 ((bSeal s).take (nn % (bSeal s).length)).length c28) rfl (by rw [List.length_take]; congr 1; omega) ?_
          refine TL_call rfl rfl (readSeal_spec (SlK.take slk _) (by rw [List.length_take]; omega)) ?_
          rintro _ _ ⟨⟨a3, n3, e3, rfl, hr3⟩, rfl⟩
          refine TL_y rfl rfl (Y_move rfl) ?_
          refine TL_y rfl rfl (Y_extract rfl rfl) ?_
          refine TL_y rfl rfl (Y_extract rfl rfl) ?_
          refine TL_y rfl rfl (Y_extract rfl rfl) ?_
          refine TL_y rfl rfl (Y_assign rfl) ?_
          refine TL_nil ?_
          refine T_region ?_
          refine TL_y rfl rfl (Y_move rfl) ?_
          refine TL_y rfl rfl (Y_eq rfl rfl) ?_
          refine TL_name 101 (v' := .bool true) rfl (congrArg Value.bool (decide_eq_true (cut_msg rm km hr1))) ?_
          refine TL_y rfl rfl (Y_move rfl) ?_
          refine TL_grun rfl rfl ?_
          refine TL_y rfl rfl (Y_move rfl) ?_
          refine TL_grun rfl rfl ?_
          refine TL_y rfl rfl (Y_eq rfl rfl) ?_
          refine TL_name 104 (v' := .bool true) rfl (congrArg Value.bool (decide_eq_true (cut_part pf_event rx kx hr2))) ?_
          refine TL_y rfl rfl (Y_pick_t rfl rfl) ?_
          refine TL_y rfl rfl (Y_move rfl) ?_
          refine TL_grun rfl rfl ?_
          refine TL_y rfl rfl (Y_move rfl) ?_
          refine TL_grun rfl rfl ?_
          refine TL_y rfl rfl (Y_eq rfl rfl) ?_
          refine TL_name 108 (v' := .bool true) rfl (congrArg Value.bool (decide_eq_true (cut_part pf_seal rs ks hr3))) ?_
          refine TL_y rfl rfl (Y_pick_t rfl rfl) ?_
          refine TL_y rfl rfl (Y_assign rfl) ?_
          refine TL_nil ?_
          refine T_ret ?_
          exact RetG_1 (.inl rfl) rfl (ResV.tmp rfl) GivesTo.g (⟨rfl, rfl⟩)
end Go.SL
