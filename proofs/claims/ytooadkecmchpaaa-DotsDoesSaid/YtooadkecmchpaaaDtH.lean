/- Dots (STR): Missing, Fork. -/
import Derived.Test.YtooadkecmchpaaaDtG
import Derived.Test.YtooadkecmchpaaaSlS
import Derived.Shelf.SlMaps.Clone
import Derived.Shelf.Lay
set_option linter.unusedVariables false
set_option linter.unusedSimpArgs false
namespace Go.Proofs
open Go.Shelf
shelf_lay_g SlLaysW.n5 Slmc 5 at Try 66 as Try.laysCloneSTR
end Go.Proofs
namespace Go.SL
open Go Go.Proofs
structure MsSTR where
  k : Nat
  xs : List DotD
  A : Option Addr
  c : Nat
  le : xs.length ≤ 4096
def msStep (l : List (DotD × tSTR)) : LS MsSTR → DotD → LS MsSTR → Prop := fun s x s' => s'.1.k = s.1.k + 1 ∧ ((4096 ≤ s.1.xs.length ∧ s'.2 = some (.exit 0) ∧ s'.1.xs = s.1.xs) ∨ (s.1.xs.length < 4096 ∧ s'.2 = none ∧ s'.1.xs = s.1.xs ++ (if hasD l x then [] else [x])))
theorem ms_runs {l : List (DotD × tSTR)} {s s' : LS MsSTR} {ys : List DotD} (h : Runs (msStep l) (fun s => !s.2.isNone) s ys s') (h0 : s.2 = none) : s'.1.xs = (s.1.xs ++ ys.filter (fun d => !decide (hasD l d))).take 4096 ∧ (s'.2 = none ∨ (s'.2 = some (.exit 0) ∧ 4096 ≤ s'.1.xs.length)) := by
  induction h with
  | nil s => exact ⟨by rw [List.filter_nil, List.append_nil, List.take_of_length_le s.1.le], .inl h0⟩
  | @halt s1 s2 x xs a b =>
    rcases a.2 with ⟨h1, h2, h3⟩ | ⟨_, h2, _⟩
    · have h4 := s1.1.le
      refine ⟨?_, .inr ⟨h2, by rw [h3]; exact h1⟩⟩
      rw [h3, List.take_append_of_le_length (by omega), List.take_of_length_le (by omega)]
    · rw [h2] at b; simp at b
  | @go s1 s2 s3 x xs a b c ih =>
    rcases a.2 with ⟨_, h2, _⟩ | ⟨h1, h2, h3⟩
    · rw [h2] at b; simp at b
    · obtain ⟨q1, q2⟩ := ih h2
      refine ⟨?_, q2⟩
      rw [q1, h3, List.append_assoc, List.filter_cons]
      by_cases hv : hasD l x <;> simp [hv]
def missD {α : Type} (l : List (DotD × α)) (v : List Int) : List DotD := ((betL (vecL l) v).filter fun d => !decide (hasD l d)).take 4096
theorem missD_end {α : Type} {l : List (DotD × α)} {v : List Int} {ys : List DotD} (hp : ys <+: betL (vecL l) v) (h : 4096 ≤ ((ys.filter fun d => !decide (hasD l d)).take 4096).length) : (ys.filter fun d => !decide (hasD l d)).take 4096 = missD l v := by
  obtain ⟨t, ht⟩ := hp
  unfold missD
  rw [← ht, List.filter_append, List.take_append_of_le_length (by rw [List.length_take] at h; omega)]
theorem missingSTR_spec {L : List HP} {b : Nat} {p : DsSTR} {l : List (DotD × tSTR)} {Av : Option Addr} {cv : Nat} {v : List Int} (hk : SlN L (intR .i64) Av cv v) (hb : v.length ≤ 17592186043904) : Fn Try.prog 26 #[.pointer (some ⟨b, 0, none⟩), .slice Av v.length cv] (dsSTR b p l :: L) (fun r L' => ∃ A c, r = .slice A (missD l v).length c ∧ L' = osl dotR 31 A c (missD l v) :: dsSTR b p l :: L) := by
  refine Fn_enterM Try.func26 rfl rfl rfl rfl ?_
  refine T_region ?_
  refine TL_box rfl rfl rfl ?_
  intro b2
  refine TL_y rfl rfl (Y_assign rfl) ?_
  refine TL_nil ?_
  refine T_seq ?_
  refine T_region ?_
  refine TL_y rfl rfl (Y_load rfl rfl) ?_
  refine TL_pullk b ?_
  refine TL_call rfl rfl (madeSTR_spec) ?_
  rintro _ _ ⟨rfl, rfl⟩
  refine TL_name 10 (v' := .bool true) rfl (rfl) ?_
  refine TL_y rfl rfl (Y_not_t rfl) ?_
  refine TL_nil ?_
  refine T_cond_false rfl ?_
  refine T_skip ?_
  refine thenS_normal ?_
  refine T_region ?_
  refine TL_alloc rfl rfl ?_
  intro b5
  refine TL_nil ?_
  refine T_seq ?_
  refine T_pullk b ?_
  refine T_dsSTR fun hi hp => ?_
  have hd7 : (vecL l).length = 7 := vecL_len
  refine T_region ?_
  refine TL_y rfl rfl (Y_load rfl rfl) ?_
  refine TL_y rfl rfl (Y_nil_check rfl) ?_
  refine TL_y rfl rfl (Y_field_addr rfl) ?_
  refine TL_y rfl rfl (Y_load rfl rfl) ?_
  refine TL_name 15 (v' := .slice p.V (vecL l).length p.cv) rfl (by rw [hd7]) ?_
  refine TL_y rfl rfl (Y_move rfl) ?_
  refine TL_call rfl rfl (between_spec (sln (A := p.V) (c := p.cv) (xs := vecL l)) (SlN.of_gives GivesTo.g hk) (by rw [hd7]; decide) hb) ?_
  rintro _ _ ⟨bx, by_, X, cx, Y, cy, rfl, rfl⟩
  refine TL_gives (dsSTR_close b p l hi hp) ?_
  refine TL_nil ?_
  refine T_block ?_
  refine T_range_iter (fun g : MsSTR => [cells b5 [.slice g.A g.xs.length g.c] 42, osl dotR 31 g.A g.c g.xs, cells b2 [.pointer (some ⟨b, 0, none⟩)] 25, dsSTR b p l]) (msStep l) (fun g : MsSTR => g.k) (⟨0, [], none, 0, Nat.zero_le _⟩) rfl (between_iter (bx := bx) (by_ := by_) (X := X) (cx := cx) (Y := Y) (cy := cy) (a := vecL l) (b := v)) ((osl_nil dotR 31 none _).trans (show Gives _ ([cells b5 [.slice none 0 0] 42, osl dotR 31 none 0 [], cells b2 [.pointer (some ⟨b, 0, none⟩)] 25, dsSTR b p l] ++ (btL bx by_ X cx Y cy (vecL l) v ++ L)) from GivesTo.g (L' := cells b5 [.slice none 0 0] 42 :: osl dotR 31 none 0 [] :: cells b2 [.pointer (some ⟨b, 0, none⟩)] 25 :: dsSTR b p l :: cells bx [.slice X (vecL l).length cx] 38 :: osl (intR .i64) 3 X cx (vecL l) :: cells by_ [.slice Y v.length cy] 38 :: osl (intR .i64) 3 Y cy v :: L))) (by decide) (fun _ => rfl) rfl (fun s x s' h => h.1) (fun l900 b900 g x Lx hx hlt => ?_) (fun m900 xs g hseq hrun => ?_)
  · obtain ⟨kk, xs, A3, c3, hle⟩ := g
    dsimp only at hlt ⊢
    simp only [List.cons_append, List.nil_append]
    try simp only [List.cons_append, List.nil_append]
    refine T_region_last ?_
    refine TL_alloc rfl rfl ?_
    intro b6
    refine TL_store rfl rfl rfl rfl rfl rfl ?_
    refine TL_nil ?_
    refine ⟨rfl, _, FindHP.g, ?_⟩
    refine T_block ?_
    refine T_seq ?_
    refine T_region ?_
    refine TL_y rfl rfl (Y_load rfl rfl) ?_
    refine TL_y rfl rfl (Y_len rfl) ?_
    refine TL_y rfl rfl (Y_ge rfl rfl) ?_
    refine TL_nil ?_
    refine T_if rfl (fun h21 => ?_) (fun h21 => ?_)
    · refine T_exit ?_
      refine thenS_exit ?_
      refine inB_miss rfl ?_
      exact ⟨⟨kk + 1, xs, A3, c3, hle⟩, some (.exit 0), rfl, ⟨rfl, .inl ⟨by dsimp only; omega, rfl, rfl⟩⟩, GivesTo.g⟩
    · refine T_skip ?_
      refine thenS_normal ?_
      refine T_region ?_
      refine TL_y rfl rfl (Y_load rfl rfl) ?_
      refine TL_y rfl rfl (Y_load_agg rfl rfl) ?_
      refine TL_pullk b ?_
      refine TL_call rfl rfl (getSTR_spec x) ?_
      rintro _ _ ⟨rfl, rfl⟩
      refine TL_y rfl rfl (Y_move rfl) ?_
      refine TL_y rfl rfl (Y_extract rfl rfl) ?_
      refine TL_y rfl rfl (Y_extract rfl rfl) ?_
      refine TL_y rfl rfl (Y_assign rfl) ?_
      refine TL_y rfl rfl (Y_assign rfl) ?_
      refine TL_nil ?_
      refine T_region ?_
      refine TL_y rfl rfl (Y_move rfl) ?_
      refine TL_y rfl rfl (Y_not rfl) ?_
      refine TL_nil ?_
      refine T_cond rfl (fun h29 => ?_) (fun h29 => ?_)
      · have hxn : (if hasD l x then ([] : List DotD) else [x]) = [x] := if_neg (by unfold hasD; simpa using h29)
        refine T_region_last ?_
        refine TL_y rfl rfl (Y_load rfl rfl) ?_
        refine TL_y rfl rfl (Y_load_agg rfl rfl) ?_
        refine TL_build_slice rfl rfl rfl rfl rfl rfl ?_
        intro b32
        refine TL_osl (k := 1) dotR [x] (Knows.const fun M => ⟨dotC x, [], dot_rep hx M, rfl, rfl⟩) rfl (by decide) ?_
        refine TL_freeze_osl ?_
        refine TL_name 32 (v' := .slice (some ⟨b32, 0, none⟩) [x].length 1) rfl rfl ?_
        refine TL_append rfl rfl rfl rfl rfl slk (by simp only [List.length_cons, List.length_nil]; omega) ?_
        intro A33 c33
        refine TL_store rfl rfl rfl rfl rfl rfl ?_
        refine TL_nil ?_
        refine inB_normal ?_
        exact ⟨⟨kk + 1, xs ++ [x], A33, c33, by simp; omega⟩, none, rfl, ⟨rfl, .inr ⟨by dsimp only; omega, rfl, by dsimp only; rw [hxn]⟩⟩, GivesTo.g⟩
      · have hxn : (if hasD l x then ([] : List DotD) else [x]) = [] := if_pos (by unfold hasD; simpa using h29)
        refine T_skip ?_
        refine inB_normal ?_
        exact ⟨⟨kk + 1, xs, A3, c3, hle⟩, none, rfl, ⟨rfl, .inr ⟨by dsimp only; omega, rfl, by dsimp only; rw [hxn, List.append_nil]⟩⟩, GivesTo.g⟩
  · obtain ⟨⟨k2, zs, A4, c4, hle2⟩, j⟩ := g
    obtain ⟨h2, h3⟩ := ms_runs hrun rfl
    dsimp only at h2 h3
    rw [List.nil_append] at h2
    have hz : zs = missD l v := by rcases h3 with rfl | ⟨_, h4⟩; (rw [h2, hseq.1 rfl]; rfl); (rw [h2]; exact missD_end hseq.2 (by rw [← h2]; exact h4))
    clear h2
    subst hz
    try simp only [List.cons_append, List.nil_append]
    refine behind_two (id := 0) (h3.imp id (fun h => h.1)) (fun hj => ?_) (fun hj => ?_)
    · refine inB_normal ?_
      refine thenS_normal ?_
      refine T_region ?_
      refine TL_y rfl rfl (Y_load rfl rfl) ?_
      refine TL_y rfl rfl (Y_assign rfl) ?_
      refine TL_nil ?_
      refine T_ret ?_
      refine retM1 ?_
      exact RetG_1 (.inl rfl) rfl (ResV.tmp rfl) GivesTo.g (⟨A4, c4, rfl, rfl⟩)
    · refine inB_hit ?_
      refine thenS_normal ?_
      refine T_region ?_
      refine TL_y rfl rfl (Y_load rfl rfl) ?_
      refine TL_y rfl rfl (Y_assign rfl) ?_
      refine TL_nil ?_
      refine T_ret ?_
      refine retM1 ?_
      exact RetG_1 (.inl rfl) rfl (ResV.tmp rfl) GivesTo.g (⟨A4, c4, rfl, rfl⟩)
theorem cloneSTR_spec {κ α : Type} [DecidableEq κ] {K : KeyT κ} {R : Rep α} {ag : Bool} {b : Nat} {m : List (κ × α)} {L : List HP} : Fn Try.prog 66 #[.map (some b)] (omap K R ag b m :: L) (fun v L' => ∃ b2, v = .map (some b2) ∧ L' = omap K R ag b2 m :: omap K R ag b m :: L) := fun o w hs => by
  obtain ⟨es, clock, hb, hs2⟩ := omap_twin hs
  refine (AnyW.maps_Clone Try.laysCloneSTR b es clock w hb).mono ?_
  rintro e w' ⟨rfl, rfl⟩
  exact ⟨_, _, rfl, ⟨_, rfl, rfl⟩, hs2⟩
structure FkSTR where
  bts : List Nat
  A : Option Addr
  c : Nat
def mapsN (bts : List Nat) (i : Nat) (l : List (DotD × tSTR)) : List HP := (List.range i).map fun o : Nat => omap intK rSTR false (bts.getD o 0) (atO l (o : Int))
theorem mapsN_succ (bts : List Nat) (bm : Nat) (l : List (DotD × tSTR)) : mapsN (bts ++ [bm]) (bts ++ [bm]).length l = mapsN bts bts.length l ++ [omap intK rSTR false bm (atO l (bts.length : Int))] := by
  unfold mapsN
  rw [List.length_append, List.length_singleton, List.range_succ, List.map_append]
  congr 1
  · refine List.map_congr_left fun o ho => ?_
    rw [List.mem_range] at ho
    simp [List.getD_eq_getElem?_getD, List.getElem?_append_left ho]
  · simp [List.getD_eq_getElem?_getD]
theorem unS_snoc' {ps : List HP} {p : HP} {L : List HP} : Gives (p :: unS ps :: L) (unS (ps ++ [p]) :: L) := by
  refine (Gives.cons p (unS_open (L := ps) (L' := L))).trans (Gives.trans (Gives.perm ?_) (unS_close (L := ps ++ [p]) (L' := L)))
  rw [List.append_assoc]
  exact List.perm_middle.symm
theorem forkSTR_spec {L : List HP} {b : Nat} {p : DsSTR} {l : List (DotD × tSTR)} : Fn Try.prog 28 #[.pointer (some ⟨b, 0, none⟩)] (dsSTR b p l :: L) (fun v L' => ∃ b2 p2, v = .pointer (some ⟨b2, 0, none⟩) ∧ L' = dsSTR b2 p2 l :: dsSTR b p l :: L) := by
  refine Fn_enter Try.func28 rfl rfl rfl rfl ?_
  refine T_region ?_
  refine TL_y rfl rfl (Y_assign rfl) ?_
  refine TL_nil ?_
  refine T_seq ?_
  refine T_region ?_
  refine TL_y rfl rfl (Y_move rfl) ?_
  refine TL_pullk b ?_
  refine TL_call rfl rfl (madeSTR_spec) ?_
  rintro _ _ ⟨rfl, rfl⟩
  refine TL_name 7 (v' := .bool true) rfl (rfl) ?_
  refine TL_y rfl rfl (Y_not_t rfl) ?_
  refine TL_nil ?_
  refine T_cond_false rfl ?_
  refine T_skip ?_
  refine thenS_normal ?_
  refine T_pullk b ?_
  refine T_dsSTR fun hi hp => ?_
  have hd7 : (vecL l).length = 7 := vecL_len
  obtain ⟨bts, A, c, V, cv⟩ := p
  dsimp only at hp ⊢
  refine T_region_draw _ [0, 1, 3, 7, 15, 0, 32, 96, 224, 511, 1023, 2047] [] [(0, true), (1, true), (2, true), (3, true), (5, true), (6, true), (7, true), (8, true), (4, false), (9, true), (10, false), (11, true)] (by kernel_rfl) (by decide +kernel) (Gives.refl _) ?_
  refine TF_y rfl rfl (Y_move rfl) ?_
  refine TF_y rfl rfl (Y_nil_check rfl) ?_
  refine TF_y rfl rfl (Y_field_addr rfl) ?_
  refine TF_y rfl rfl (Y_load rfl rfl) ?_
  refine TF_name 12 (v' := .slice V (vecL l).length cv) rfl (by rw [hd7]) ?_
  refine TF_y rfl rfl (Y_move rfl) ?_
  refine TF_y rfl rfl (Y_nil_check rfl) ?_
  refine TF_y rfl rfl (Y_field_addr rfl) ?_
  refine TF_y rfl rfl (Y_load rfl rfl) ?_
  refine TF_anchor rfl ?_
  refine TL_call rfl rfl (cloneN_spec (sln (A := V) (c := cv) (xs := vecL l)) (by rw [hd7]; decide)) ?_
  rintro _ _ ⟨V2, cv2, rfl, rfl⟩
  refine TL_name 13 (v' := .slice V2 7 cv2) rfl (by rw [hd7]) ?_
  refine TF_end GivesTo.g ?_
  refine TF_y rfl rfl (Y_build rfl rfl) ?_
  refine TF_anchor rfl ?_
  refine TL_box rfl rfl rfl ?_
  intro b19
  refine TF_end GivesTo.g ?_
  refine TF_y rfl rfl (Y_assign rfl) ?_
  refine TF_nil ?_
  refine T_seq ?_
  refine T_region ?_
  refine TL_y rfl rfl (Y_move rfl) ?_
  refine TL_y rfl rfl (Y_nil_check rfl) ?_
  refine TL_y rfl rfl (Y_field_addr rfl) ?_
  refine TL_y rfl rfl (Y_load rfl rfl) ?_
  refine TL_y rfl rfl (Y_len rfl) ?_
  refine TL_y rfl rfl (Y_move rfl) ?_
  refine TL_nil ?_
  refine T_block ?_
  refine T_loopK (σ := FkSTR) [3, 23, 24] (fun g => g.bts.length ≤ 7) (fun g kv => (25, .int .i64 (g.bts.length : Int)) :: kv) (fun g => cells b19 [.slice g.A (g.bts.map some).length g.c, .slice V2 7 cv2, .int .i64 (l.length : Int)] 100 :: osl mapOR 101 g.A g.c (g.bts.map some) :: unS (mapsN g.bts g.bts.length l) :: osl (intR .i64) 3 V2 cv2 (vecL l) :: cells b [.slice A 7 c, .slice V 7 cv, .int .i64 (l.length : Int)] 100 :: osl mapOR 101 A c (bts.map some) :: osl (intR .i64) 3 V cv (vecL l) :: allH (mapsSTR bts l) :: L) (fun g => 7 - g.bts.length) (⟨[], none, 0⟩) rfl (Nat.zero_le _) ((osl_nil mapOR 101 none _).trans ((unS_close (L := []) (L' := _)).trans (show Gives _ (cells b19 [.slice none 0 0, .slice V2 7 cv2, .int .i64 (l.length : Int)] 100 :: osl mapOR 101 none 0 [] :: unS [] :: osl (intR .i64) 3 V2 cv2 (vecL l) :: cells b [.slice A 7 c, .slice V 7 cv, .int .i64 (l.length : Int)] 100 :: osl mapOR 101 A c (bts.map some) :: osl (intR .i64) 3 V cv (vecL l) :: allH (mapsSTR bts l) :: L) from GivesTo.g))) (sub_cons rfl (sub_cons rfl (sub_cons rfl (sub_cons rfl (sub_nil))))) ?_
  rintro ⟨bt2, A2, c2⟩ hbl
  dsimp only at hbl ⊢
  refine T_region ?_
  refine TL_y rfl rfl (Y_lt rfl rfl) ?_
  refine TL_nil ?_
  refine T_seq ?_
  refine T_if rfl (fun h26 => ?_) (fun h26 => ?_)
  · refine T_skip ?_
    refine thenS_normal ?_
    refine T_seq ?_
    refine T_block ?_
    have hil : bt2.length < 7 := by omega
    obtain ⟨bt, hbt⟩ : ∃ bt, bts[bt2.length]? = some bt := ⟨_, List.getElem?_eq_getElem (by omega)⟩
    have hu : (bts.map some)[bt2.length]? = some (some bt) := by simp [hbt]
    refine T_region ?_
    refine TL_index_n rfl rfl rfl (by simp [hp]) ((sln (A := A) (c := c) (R := mapOR))) (hu) ?_
    intro bn27 on27 hA27 hk27
    have hu27 := hu
    refine TL_y rfl rfl (Y_load_n rfl hk27 hu27 rfl) ?_
    refine TL_y rfl rfl (Y_assign rfl) ?_
    refine TL_nil ?_
    refine T_region_draw_last (cells b19 [.slice A2 (bt2.map some).length c2, .slice V2 7 cv2, .int .i64 (l.length : Int)] 100 :: []) [0, 0, 2, 6, 14, 0, 32, 96, 254, 511, 1023, 2047] [11] [(0, true), (1, true), (2, true), (3, true), (4, true), (5, true), (6, false), (7, false), (8, false), (9, true), (10, true), (11, false)] (by kernel_rfl) (by decide +kernel) GivesTo.g ?_
    refine TF_y rfl rfl (Y_move rfl) ?_
    refine TF_y rfl rfl (Y_move rfl) ?_
    refine TF_y rfl rfl (Y_nil_check rfl) ?_
    refine TF_y rfl rfl (Y_field_addr rfl) ?_
    refine TF_y rfl rfl (Y_load rfl rfl) ?_
    refine TF_y rfl rfl (Y_move rfl) ?_
    refine TF_anchor rfl ?_
    refine TL_outSTR (l := l) hil hbt ?_
    refine TL_call rfl rfl (cloneSTR_spec) ?_
    rintro _ _ ⟨bm, rfl, rfl⟩
    refine TL_pullm bt ?_
    refine TL_gives (inSTR (l := l) (l' := l) hil hbt (fun _ _ => rfl)) ?_
    refine TF_end GivesTo.g ?_
    refine TF_anchor rfl ?_
    refine TL_build_slice rfl rfl rfl rfl rfl rfl ?_
    intro b36
    refine TL_osl (k := 1) mapOR [some bm] (Knows.const fun M => ⟨[.map (some bm)], [], rfl, rfl, rfl⟩) rfl (by decide) ?_
    refine TL_freeze_osl ?_
    refine TL_name 36 (v' := .slice (some ⟨b36, 0, none⟩) [(some bm : Option Nat)].length 1) rfl rfl ?_
    refine TF_end GivesTo.g ?_
    refine TF_anchor rfl ?_
    refine TL_append rfl rfl rfl rfl rfl slk (by simp only [List.length_cons, List.length_nil, List.length_map]; omega) ?_
    intro A37 c37
    rw [show bt2.map some ++ [some bm] = (bt2 ++ [bm]).map some by simp]
    refine TF_end GivesTo.g ?_
    refine TF_y rfl rfl (Y_nil_check rfl) ?_
    refine TF_y rfl rfl (Y_field_addr rfl) ?_
    refine TF_anchor rfl ?_
    refine TL_store rfl rfl rfl rfl rfl rfl ?_
    refine TF_end_tail rfl ?_
    refine TF_nil ?_
    refine inB_normal ?_
    refine thenS_normal ?_
    refine T_pullm bm ?_
    refine T_gives (show Gives _ (omap intK rSTR false bm (atO l (bt2.length : Int)) :: unS (mapsN bt2 bt2.length l) :: cells b19 [.slice A37 ((bt2 ++ [bm]).map some).length c37, .slice V2 7 cv2, .int .i64 (l.length : Int)] 100 :: osl mapOR 101 A37 c37 ((bt2 ++ [bm]).map some) :: osl (intR .i64) 3 V2 cv2 (vecL l) :: cells b [.slice A 7 c, .slice V 7 cv, .int .i64 (l.length : Int)] 100 :: osl mapOR 101 A c (bts.map some) :: osl (intR .i64) 3 V cv (vecL l) :: allH (mapsSTR bts l) :: L) from GivesTo.g) ?_
    refine T_gives unS_snoc' ?_
    rw [← mapsN_succ]
    refine T_region_last ?_
    refine TL_y rfl rfl (Y_add rfl rfl (by omega)) ?_
    refine TL_name 40 (v' := .int .i64 ((bt2 ++ [bm]).length : Int)) rfl (by simp) ?_
    refine TL_y rfl rfl (Y_move rfl) ?_
    refine TL_nil ?_
    refine thenS_normal ?_
    exact ⟨⟨bt2 ++ [bm], A37, c37⟩, (by simp; omega), (by simp; omega), holds_to (sub_cons rfl (sub_cons rfl (sub_cons rfl (sub_cons rfl (sub_nil))))) GivesTo.g⟩
  · refine T_exit ?_
    refine thenS_exit ?_
    refine thenS_exit ?_
    refine inB_hit ?_
    refine thenS_normal ?_
    refine T_region ?_
    refine TL_y rfl rfl (Y_move rfl) ?_
    refine TL_y rfl rfl (Y_assign rfl) ?_
    refine TL_nil ?_
    refine T_ret ?_
    have h7 : bt2.length = 7 := by omega
    rw [show mapsN bt2 bt2.length l = mapsSTR bt2 l by rw [h7]; rfl, show unS (mapsSTR bt2 l) = allH (mapsSTR bt2 l) from rfl, show (bt2.map some).length = 7 by simp [h7]]
    refine RetQ.gives (dsSTR_close b19 ⟨bt2, A2, c2, V2, cv2⟩ l hi h7) ?_
    refine RetQ.gives (dsSTR_close b ⟨bts, A, c, V, cv⟩ l hi hp) ?_
    exact RetG_1 (.inl rfl) rfl (ResV.tmp rfl) GivesTo.g (⟨b19, ⟨bt2, A2, c2, V2, cv2⟩, rfl, rfl⟩)
end Go.SL
