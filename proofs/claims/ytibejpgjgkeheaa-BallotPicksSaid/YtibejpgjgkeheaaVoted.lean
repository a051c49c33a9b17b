/- The program's records: how entries and votes lie in memory. -/
import Derived.Test.YtibejpgjgkeheaaSlT
import Derived.Test.YtibejpgjgkeheaaSlJ
set_option linter.unusedVariables false
set_option linter.unusedSimpArgs false
namespace Go.SL
open Go Go.Proofs
structure OrderD where
  token : ByteArray
  cart : ByteArray
  epoch : Int
  cut : List Int
structure EntryD where
  noop : Bool
  order : OrderD
structure VotedD where
  slot : Int
  bal : Int × Int
  en : EntryD
abbrev orderC (s : OrderD) (p : Option Addr × Nat) : List Value := [.string s.token, .string s.cart, .int .i64 s.epoch, .slice p.1 s.cut.length p.2]
abbrev entryC (e : EntryD) (p : Option Addr × Nat) : List Value := [.bool e.noop, .string e.order.token, .string e.order.cart, .int .i64 e.order.epoch, .slice p.1 e.order.cut.length p.2]
abbrev votedC (v : VotedD) (p : Option Addr × Nat) : List Value := [.int .i64 v.slot, .int .i64 v.bal.1, .int .i64 v.bal.2, .bool v.en.noop, .string v.en.order.token, .string v.en.order.cart, .int .i64 v.en.order.epoch, .slice p.1 v.en.order.cut.length p.2]
def orderOk' (s : OrderD) : Prop := s.token.size ≤ maxEl ∧ s.cart.size ≤ maxEl ∧ intIn .i64 s.epoch ∧ s.cut.length ≤ 17592186043904
def votedOk (v : VotedD) : Prop := intIn .i64 v.slot ∧ intIn .i64 v.bal.1 ∧ intIn .i64 v.bal.2 ∧ orderOk' v.en.order
def orderR : Rep OrderD := exR 4 orderC (fun s p => [sl (intR .i64) p.1 p.2 s.cut]) orderOk' (fun _ _ => rfl) (fun _ _ => rfl)
def entryR : Rep EntryD := exR 5 entryC (fun e p => [sl (intR .i64) p.1 p.2 e.order.cut]) (fun e => orderOk' e.order) (fun _ _ => rfl) (fun _ _ => rfl)
def votedR : Rep VotedD := exR 8 votedC (fun v p => [sl (intR .i64) p.1 p.2 v.en.order.cut]) votedOk (fun _ _ => rfl) (fun _ _ => rfl)
def emptyS : ByteArray := ⟨#[]⟩
def voted0 (noop : Bool) : VotedD := ⟨0, (0, 0), ⟨noop, ⟨⟨#[]⟩, ⟨#[]⟩, 0, []⟩⟩⟩

theorem clone_i64_spec {L : List HP} {A : Option Addr} {c : Nat} {xs : List Int} (hk : SlK L (intR .i64) A c xs) (hb : xs.length ≤ 17592186043904) : Fn Try.prog 52 #[.slice A xs.length c] L (fun v L' => ∃ A' c', v = .slice A' xs.length c' ∧ L' = osl (intR .i64) 3 A' c' xs :: L) := by
  refine Fn_enter Try.func52 rfl rfl rfl rfl ?_
  refine T_region ?_
  refine TL_y rfl rfl (Y_assign rfl) ?_
  refine TL_nil ?_
  refine T_seq ?_
  refine T_region ?_
  refine TL_y rfl rfl (Y_move rfl) ?_
  refine TL_y rfl rfl (Y_equal rfl rfl (EqIs.slice_nil)) ?_
  refine TL_nil ?_
  refine T_if rfl (fun h4 => ?_) (fun h4 => ?_)
  · subst h4
    refine T_fact hk.none_nil (fun _ h => h) (fun e => ?_)
    subst e
    refine T_onil (A := none) (intR .i64) 3 ?_
    refine T_region ?_
    refine TL_y rfl rfl (Y_assign rfl) ?_
    refine TL_nil ?_
    refine T_ret ?_
    refine thenS_ret ?_
    exact RetG_1 (.inl rfl) rfl (ResV.tmp rfl) GivesTo.g (⟨none, 0, rfl, rfl⟩)
  · refine T_skip ?_
    refine thenS_normal ?_
    refine T_region ?_
    refine TL_build_slice rfl rfl rfl rfl rfl rfl ?_
    intro b5
    refine TL_osl (k := 0) (intR .i64) [] (Knows.const fun M => rfl) rfl (by simp) ?_
    refine TL_name 5 (v' := .slice (some ⟨b5, 0, none⟩) ([] : List Int).length 0) rfl rfl ?_
    refine TL_y rfl rfl (Y_move rfl) ?_
    refine TL_append rfl rfl rfl rfl rfl (hk) (by (try simp only [List.length_append, List.length_cons, List.length_nil]); omega) ?_
    intro A7 c7
    refine TL_y rfl rfl (Y_assign rfl) ?_
    refine TL_nil ?_
    refine T_ret ?_
    simp only [List.nil_append]
    exact RetG_1 (.inl rfl) rfl (ResV.tmp rfl) GivesTo.g (⟨A7, c7, rfl, rfl⟩)
end Go.SL
