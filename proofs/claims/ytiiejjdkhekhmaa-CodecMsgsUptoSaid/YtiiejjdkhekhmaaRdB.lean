/- Codec: the walks of the reader's parts. -/
import Derived.Test.YtiiejjdkhekhmaaRdA
set_option linter.unusedVariables false
set_option linter.unusedSimpArgs false
namespace Go.SL
open Go Go.Proofs
theorem takeU_spec {L : List HP} {b : Nat} {s : RS} (hn : s.n + s.b.length ≤ 140737488355328) : Fn Try.prog 119 #[.pointer (some ⟨b, 0, none⟩), .func (.func 19) #[] #[]] (rdr b s :: L) (fun v L' => ∃ x s', v = .int .u64 ((x : Nat) : Int) ∧ L' = rdr b s' :: L ∧ TakeU s x s') := by
  refine Fn_enter Try.func119 rfl rfl rfl rfl ?_
  refine T_rdr fun A c => ?_
  refine T_region ?_
  refine TL_y rfl rfl (Y_assign rfl) ?_
  refine TL_nil ?_
  refine T_region ?_
  refine TL_y rfl rfl (Y_move rfl) ?_
  refine TL_y rfl rfl (Y_move rfl) ?_
  refine TL_y rfl rfl (Y_nil_check rfl) ?_
  refine TL_y rfl rfl (Y_field_addr rfl) ?_
  refine TL_y rfl rfl (Y_load rfl rfl) ?_
  refine TL_call_fn rfl rfl rfl (readUint_spec slk) ?_
  rintro _ _ ⟨⟨x, k, e, rfl, hr⟩, rfl⟩
  have he := rdU_e hr
  refine TL_y rfl rfl (Y_move rfl) ?_
  refine TL_y rfl rfl (Y_extract rfl rfl) ?_
  refine TL_y rfl rfl (Y_extract rfl rfl) ?_
  refine TL_y rfl rfl (Y_extract rfl rfl) ?_
  refine TL_y rfl rfl (Y_assign rfl) ?_
  refine TL_y rfl rfl (Y_assign rfl) ?_
  refine TL_y rfl rfl (Y_assign rfl) ?_
  refine TL_nil ?_
  refine T_seq ?_
  refine T_region ?_
  refine TL_y rfl rfl (Y_move rfl) ?_
  refine TL_y rfl rfl (Y_nil_check rfl) ?_
  refine TL_y rfl rfl (Y_field_addr rfl) ?_
  refine TL_y rfl rfl (Y_load rfl rfl) ?_
  refine TL_y rfl rfl (Y_move rfl) ?_
  refine TL_split 23 rfl (fun h23 => ?_) (fun h23 => ?_)
  · refine TL_gskip rfl rfl rfl rfl ?_
    refine TL_gskip rfl rfl rfl rfl ?_
    refine TL_y rfl rfl (Y_pick_t rfl rfl) ?_
    refine TL_nil ?_
    refine T_cond_true rfl ?_
    refine T_region ?_
    refine TL_y rfl rfl (Y_move rfl) ?_
    refine TL_y rfl rfl (Y_nil_check rfl) ?_
    refine TL_y rfl rfl (Y_field_addr rfl) ?_
    refine TL_store rfl rfl rfl rfl rfl rfl ?_
    refine TL_nil ?_
    refine T_region ?_
    refine TL_y rfl rfl (Y_assign rfl) ?_
    refine TL_nil ?_
    refine T_region ?_
    refine TL_y rfl rfl (Y_move rfl) ?_
    refine TL_y rfl rfl (Y_assign rfl) ?_
    refine TL_nil ?_
    refine T_ret ?_
    refine thenS_ret ?_
    refine RetQ.gives (rdr_close b ⟨s.b, s.n, true⟩ slk) ?_
    exact RetG_1 (.inl rfl) rfl (ResV.tmp rfl) GivesTo.g (⟨0, ⟨s.b, s.n, true⟩, rfl, rfl, .inr ⟨rfl, rfl, .inl h23⟩⟩)
  · refine TL_grun rfl rfl ?_
    refine TL_y rfl rfl (Y_move rfl) ?_
    refine TL_grun rfl rfl ?_
    refine TL_y rfl rfl (Y_ne rfl rfl) ?_
    refine TL_y rfl rfl (Y_pick_f rfl rfl) ?_
    refine TL_nil ?_
    refine T_if rfl (fun h26 => ?_) (fun h26 => ?_)
    · have hbad : RdU s.b 0 0 10 := by rcases he with ⟨e1, _⟩ | ⟨e1, e2, e3⟩; omega; (subst e1; subst e2; subst e3; exact hr)
      refine T_region ?_
      refine TL_y rfl rfl (Y_move rfl) ?_
      refine TL_y rfl rfl (Y_nil_check rfl) ?_
      refine TL_y rfl rfl (Y_field_addr rfl) ?_
      refine TL_store rfl rfl rfl rfl rfl rfl ?_
      refine TL_nil ?_
      refine T_region ?_
      refine TL_y rfl rfl (Y_assign rfl) ?_
      refine TL_nil ?_
      refine T_region ?_
      refine TL_y rfl rfl (Y_move rfl) ?_
      refine TL_y rfl rfl (Y_assign rfl) ?_
      refine TL_nil ?_
      refine T_ret ?_
      refine thenS_ret ?_
      refine RetQ.gives (rdr_close b ⟨s.b, s.n, true⟩ slk) ?_
      exact RetG_1 (.inl rfl) rfl (ResV.tmp rfl) GivesTo.g (⟨0, ⟨s.b, s.n, true⟩, rfl, rfl, .inr ⟨rfl, rfl, .inr hbad⟩⟩)
    · obtain rfl : e = 0 := by omega
      have hk := (rdU_split hr).2.1
      refine T_skip ?_
      refine thenS_normal ?_
      refine T_region_draw (rdN b (s.n : Int) s.bad :: []) [0, 0, 0, 4, 12, 28, 0, 124, 0, 256, 768, 1792, 0, 7936, 4093, 20477, 53245, 131071, 262143, 524287] [19] [(0, true), (1, true), (2, true), (3, true), (4, true), (6, true), (8, true), (9, true), (10, true), (11, true), (12, true), (13, true), (5, false), (7, true), (14, true), (15, true), (16, false), (17, true), (18, true), (19, false)] (by kernel_rfl) (by decide +kernel) GivesTo.g ?_
      refine TF_y rfl rfl (Y_move rfl) ?_
      refine TF_y rfl rfl (Y_move rfl) ?_
      refine TF_y rfl rfl (Y_move rfl) ?_
      refine TF_y rfl rfl (Y_nil_check rfl) ?_
      refine TF_y rfl rfl (Y_field_addr rfl) ?_
      refine TF_y rfl rfl (Y_move rfl) ?_
      refine TF_y rfl rfl (Y_move rfl) ?_
      refine TF_y rfl rfl (Y_nil_check rfl) ?_
      refine TF_y rfl rfl (Y_field_addr rfl) ?_
      refine TF_y rfl rfl (Y_load_rdN rfl) ?_
      refine TF_y rfl rfl (Y_move rfl) ?_
      refine TF_y rfl rfl (Y_add rfl rfl (by omega)) ?_
      refine TF_name 44 (v' := .int .i64 ((s.n + k : Nat) : Int)) rfl (rfl) ?_
      refine TF_anchor rfl ?_
      refine TL_y rfl rfl (Y_load rfl rfl) ?_
      refine TF_end GivesTo.g ?_
      refine TF_y rfl rfl (Y_cut_l rfl rfl (by omega)) ?_
      refine TF_name 38 (v' := .slice (cutA A k c 1) (s.b.drop k).length (c - k)) rfl (by rw [List.length_drop]; rfl) ?_
      refine TF_y rfl rfl (Y_nil_check rfl) ?_
      refine TF_y rfl rfl (Y_field_addr rfl) ?_
      refine TF_anchor rfl ?_
      refine TL_store rfl rfl rfl rfl rfl rfl ?_
      refine TF_end GivesTo.g ?_
      refine TF_y rfl rfl (Y_nil_check rfl) ?_
      refine TF_y rfl rfl (Y_field_addr rfl) ?_
      refine TF_anchor rfl ?_
      refine TL_store rfl rfl rfl rfl rfl rfl ?_
      refine TF_end_tail rfl ?_
      refine TF_nil ?_
      refine T_region ?_
      refine TL_y rfl rfl (Y_move rfl) ?_
      refine TL_y rfl rfl (Y_assign rfl) ?_
      refine TL_nil ?_
      refine T_ret ?_
      refine RetQ.gives (rdr_close b ⟨s.b.drop k, s.n + k, s.bad⟩ (SlK.drop (slk (A := A) (c := c)) hk)) ?_
      rw [h23]
      exact RetG_1 (.inl rfl) rfl (ResV.tmp rfl) GivesTo.g (⟨x, ⟨s.b.drop k, s.n + k, false⟩, rfl, rfl, .inl ⟨h23, k, hr, rfl⟩⟩)
theorem rdT_e {bs : List Int} {most : Int} {x : ByteArray} {n e : Nat} (h : RdT bs most x n e) : (e = 0 ∧ n ≤ bs.length) ∨ (e = 10 ∧ x = ⟨#[]⟩ ∧ n = 0) := by
  rcases h with ⟨h1, h2, h3, h4, h5⟩ | ⟨h1, h2, h3, h4⟩
  · exact .inl ⟨h1, h5⟩
  · exact .inr ⟨h1, h2, h3⟩
theorem name1_spec {L : List HP} {A : Option Addr} {c : Nat} {bs : List Int} (hk : SlK L (intR .u8) A c bs) : Fn Try.prog 123 #[.slice A bs.length c] L (fun v L' => (∃ (s : ByteArray) (n e : Nat), v = .tuple #[.string s, .int .i64 (n : Int), .int .i64 (e : Int)] ∧ RdT bs 32 s n e) ∧ L' = L) := by
  refine Fn_enter Try.func123 rfl rfl rfl rfl ?_
  refine T_region ?_
  refine TL_y rfl rfl (Y_assign rfl) ?_
  refine TL_y rfl rfl (Y_assign rfl) ?_
  refine TL_y rfl rfl (Y_assign rfl) ?_
  refine TL_nil ?_
  refine T_region ?_
  refine TL_y rfl rfl (Y_move rfl) ?_
  refine TL_call rfl rfl (readText_spec hk 32 (by decide)) ?_
  rintro _ _ ⟨⟨s, n, e, rfl, hr⟩, rfl⟩
  refine TL_y rfl rfl (Y_extract rfl rfl) ?_
  refine TL_y rfl rfl (Y_extract rfl rfl) ?_
  refine TL_y rfl rfl (Y_extract rfl rfl) ?_
  refine TL_y rfl rfl (Y_assign rfl) ?_
  refine TL_y rfl rfl (Y_assign rfl) ?_
  refine TL_y rfl rfl (Y_assign rfl) ?_
  refine TL_nil ?_
  refine T_ret ?_
  exact RetG_3 (.inl rfl) rfl (ResV.tmp rfl) (ResV.tmp rfl) (ResV.tmp rfl) GivesTo.g (⟨⟨s, n, e, rfl, hr⟩, rfl⟩)
theorem takeT_spec {L : List HP} {b : Nat} {s : RS} (hn : s.n + s.b.length ≤ 140737488355328) : Fn Try.prog 122 #[.pointer (some ⟨b, 0, none⟩), .func (.func 123) #[] #[]] (rdr b s :: L) (fun v L' => ∃ x s', v = .string x ∧ L' = rdr b s' :: L ∧ TakeT 32 s x s') := by
  refine Fn_enter Try.func122 rfl rfl rfl rfl ?_
  refine T_rdr fun A c => ?_
  refine T_region ?_
  refine TL_y rfl rfl (Y_assign rfl) ?_
  refine TL_nil ?_
  refine T_region ?_
  refine TL_y rfl rfl (Y_move rfl) ?_
  refine TL_y rfl rfl (Y_move rfl) ?_
  refine TL_y rfl rfl (Y_nil_check rfl) ?_
  refine TL_y rfl rfl (Y_field_addr rfl) ?_
  refine TL_y rfl rfl (Y_load rfl rfl) ?_
  refine TL_call_fn rfl rfl rfl (name1_spec slk) ?_
  rintro _ _ ⟨⟨x, k, e, rfl, hr⟩, rfl⟩
  have he := rdT_e hr
  refine TL_y rfl rfl (Y_move rfl) ?_
  refine TL_y rfl rfl (Y_extract rfl rfl) ?_
  refine TL_y rfl rfl (Y_extract rfl rfl) ?_
  refine TL_y rfl rfl (Y_extract rfl rfl) ?_
  refine TL_y rfl rfl (Y_assign rfl) ?_
  refine TL_y rfl rfl (Y_assign rfl) ?_
  refine TL_y rfl rfl (Y_assign rfl) ?_
  refine TL_nil ?_
  refine T_seq ?_
  refine T_region ?_
  refine TL_y rfl rfl (Y_move rfl) ?_
  refine TL_y rfl rfl (Y_nil_check rfl) ?_
  refine TL_y rfl rfl (Y_field_addr rfl) ?_
  refine TL_y rfl rfl (Y_load rfl rfl) ?_
  refine TL_y rfl rfl (Y_move rfl) ?_
  refine TL_split 23 rfl (fun h23 => ?_) (fun h23 => ?_)
  · refine TL_gskip rfl rfl rfl rfl ?_
    refine TL_gskip rfl rfl rfl rfl ?_
    refine TL_y rfl rfl (Y_pick_t rfl rfl) ?_
    refine TL_nil ?_
    refine T_cond_true rfl ?_
    refine T_region ?_
    refine TL_y rfl rfl (Y_move rfl) ?_
    refine TL_y rfl rfl (Y_nil_check rfl) ?_
    refine TL_y rfl rfl (Y_field_addr rfl) ?_
    refine TL_store rfl rfl rfl rfl rfl rfl ?_
    refine TL_nil ?_
    refine T_region ?_
    refine TL_y rfl rfl (Y_assign rfl) ?_
    refine TL_nil ?_
    refine T_region ?_
    refine TL_y rfl rfl (Y_move rfl) ?_
    refine TL_y rfl rfl (Y_assign rfl) ?_
    refine TL_nil ?_
    refine T_ret ?_
    refine thenS_ret ?_
    refine RetQ.gives (rdr_close b ⟨s.b, s.n, true⟩ slk) ?_
    exact RetG_1 (.inl rfl) rfl (ResV.tmp rfl) GivesTo.g (⟨⟨#[]⟩, ⟨s.b, s.n, true⟩, rfl, rfl, .inr ⟨rfl, rfl, .inl h23⟩⟩)
  · refine TL_grun rfl rfl ?_
    refine TL_y rfl rfl (Y_move rfl) ?_
    refine TL_grun rfl rfl ?_
    refine TL_y rfl rfl (Y_ne rfl rfl) ?_
    refine TL_y rfl rfl (Y_pick_f rfl rfl) ?_
    refine TL_nil ?_
    refine T_if rfl (fun h26 => ?_) (fun h26 => ?_)
    · have hbad : RdT s.b 32 ⟨#[]⟩ 0 10 := by rcases he with ⟨e1, _⟩ | ⟨e1, e2, e3⟩; omega; (subst e1; subst e2; subst e3; exact hr)
      refine T_region ?_
      refine TL_y rfl rfl (Y_move rfl) ?_
      refine TL_y rfl rfl (Y_nil_check rfl) ?_
      refine TL_y rfl rfl (Y_field_addr rfl) ?_
      refine TL_store rfl rfl rfl rfl rfl rfl ?_
      refine TL_nil ?_
      refine T_region ?_
      refine TL_y rfl rfl (Y_assign rfl) ?_
      refine TL_nil ?_
      refine T_region ?_
      refine TL_y rfl rfl (Y_move rfl) ?_
      refine TL_y rfl rfl (Y_assign rfl) ?_
      refine TL_nil ?_
      refine T_ret ?_
      refine thenS_ret ?_
      refine RetQ.gives (rdr_close b ⟨s.b, s.n, true⟩ slk) ?_
      exact RetG_1 (.inl rfl) rfl (ResV.tmp rfl) GivesTo.g (⟨⟨#[]⟩, ⟨s.b, s.n, true⟩, rfl, rfl, .inr ⟨rfl, rfl, .inr hbad⟩⟩)
    · obtain rfl : e = 0 := by omega
      have hk := (rdT_split hr).2.1
      refine T_skip ?_
      refine thenS_normal ?_
      refine T_region_draw (rdN b (s.n : Int) s.bad :: []) [0, 0, 0, 4, 12, 28, 0, 124, 0, 256, 768, 1792, 0, 7936, 4093, 20477, 53245, 131071, 262143, 524287] [19] [(0, true), (1, true), (2, true), (3, true), (4, true), (6, true), (8, true), (9, true), (10, true), (11, true), (12, true), (13, true), (5, false), (7, true), (14, true), (15, true), (16, false), (17, true), (18, true), (19, false)] (by kernel_rfl) (by decide +kernel) GivesTo.g ?_
      refine TF_y rfl rfl (Y_move rfl) ?_
      refine TF_y rfl rfl (Y_move rfl) ?_
      refine TF_y rfl rfl (Y_move rfl) ?_
      refine TF_y rfl rfl (Y_nil_check rfl) ?_
      refine TF_y rfl rfl (Y_field_addr rfl) ?_
      refine TF_y rfl rfl (Y_move rfl) ?_
      refine TF_y rfl rfl (Y_move rfl) ?_
      refine TF_y rfl rfl (Y_nil_check rfl) ?_
      refine TF_y rfl rfl (Y_field_addr rfl) ?_
      refine TF_y rfl rfl (Y_load_rdN rfl) ?_
      refine TF_y rfl rfl (Y_move rfl) ?_
      refine TF_y rfl rfl (Y_add rfl rfl (by omega)) ?_
      refine TF_name 44 (v' := .int .i64 ((s.n + k : Nat) : Int)) rfl (rfl) ?_
      refine TF_anchor rfl ?_
      refine TL_y rfl rfl (Y_load rfl rfl) ?_
      refine TF_end GivesTo.g ?_
      refine TF_y rfl rfl (Y_cut_l rfl rfl (by omega)) ?_
      refine TF_name 38 (v' := .slice (cutA A k c 1) (s.b.drop k).length (c - k)) rfl (by rw [List.length_drop]; rfl) ?_
      refine TF_y rfl rfl (Y_nil_check rfl) ?_
      refine TF_y rfl rfl (Y_field_addr rfl) ?_
      refine TF_anchor rfl ?_
      refine TL_store rfl rfl rfl rfl rfl rfl ?_
      refine TF_end GivesTo.g ?_
      refine TF_y rfl rfl (Y_nil_check rfl) ?_
      refine TF_y rfl rfl (Y_field_addr rfl) ?_
      refine TF_anchor rfl ?_
      refine TL_store rfl rfl rfl rfl rfl rfl ?_
      refine TF_end_tail rfl ?_
      refine TF_nil ?_
      refine T_region ?_
      refine TL_y rfl rfl (Y_move rfl) ?_
      refine TL_y rfl rfl (Y_assign rfl) ?_
      refine TL_nil ?_
      refine T_ret ?_
      refine RetQ.gives (rdr_close b ⟨s.b.drop k, s.n + k, s.bad⟩ (SlK.drop (slk (A := A) (c := c)) hk)) ?_
      rw [h23]
      exact RetG_1 (.inl rfl) rfl (ResV.tmp rfl) GivesTo.g (⟨x, ⟨s.b.drop k, s.n + k, false⟩, rfl, rfl, .inl ⟨h23, k, hr, rfl⟩⟩)
end Go.SL
