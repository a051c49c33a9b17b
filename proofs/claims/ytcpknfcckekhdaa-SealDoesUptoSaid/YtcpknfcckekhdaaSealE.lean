/- Seal: entries carried out one after another, plainly. -/
import Derived.Test.YtcpknfcckekhdaaSealD
set_option linter.unusedVariables false
set_option linter.unusedSimpArgs false
namespace Go.SL
open Go Go.Proofs
def runS (l : List EntryD) : SM := l.foldl (fun s e => (doS s e).1) ⟨[], 0⟩
theorem runS_next {l : List EntryD} {i : Nat} {e : EntryD} (h : l[i]? = some e) : runS (l.take (i + 1)) = (doS (runS (l.take i)) e).1 := by
  rw [take_at h]; simp [runS, List.foldl_append]
/-- What stays true of a machine. -/
structure SOk (s : SM) : Prop where
  len : s.os.length ≤ 65536
  ids : ∀ (i : Nat) o, s.os[i]? = some o → o.id = (i : Int) + 1
  eps : ∀ (i : Nat) o, s.os[i]? = some o → o.x.epoch = (cntS (s.os.take i) o.x.cart : Int)
  tks : ∀ (i : Nat) o, s.os[i]? = some o → tokI s.os o.x.token = i + 1
  rs : ∀ o ∈ s.os, rSeal o.x
theorem doS_cases (s : SM) (e : EntryD) (P : SM × OrdD × Bool × Int → Prop)
    (h1 : ¬ rEntry e → P (s, ord0, false, 1))
    (h2 : rEntry e → e.noop = true → P (⟨s.os, s.dn + 1⟩, ord0, false, 0))
    (h3 : rEntry e → ¬ e.noop = true → ∀ o, tokS s.os e.order.token = some o → P (⟨s.os, s.dn + 1⟩, o, false, 0))
    (h4 : rEntry e → ¬ e.noop = true → tokS s.os e.order.token = none → e.order.epoch ≠ (cntS s.os e.order.cart : Int) → P (⟨s.os, s.dn + 1⟩, ord0, false, 190))
    (h5 : rEntry e → ¬ e.noop = true → tokS s.os e.order.token = none → e.order.epoch = (cntS s.os e.order.cart : Int) → 65536 ≤ s.os.length → P (⟨s.os, s.dn + 1⟩, ord0, false, 2))
    (h6 : rEntry e → ¬ e.noop = true → tokS s.os e.order.token = none → e.order.epoch = (cntS s.os e.order.cart : Int) → s.os.length < 65536 → P (⟨s.os ++ [newS s.os e.order], s.dn + 1⟩, newS s.os e.order, true, 0)) : P (doS s e) := by
  unfold doS
  split
  · rename_i h; exact h1 h
  rename_i h; have h := Classical.not_not.1 h
  split
  · rename_i k; exact h2 h k
  rename_i k
  split
  · rename_i o q; exact h3 h k o q
  rename_i q
  split
  · rename_i u; exact h4 h k q u
  rename_i u
  split
  · rename_i v; exact h5 h k q (Classical.not_not.1 u) v
  · rename_i v; exact h6 h k q (Classical.not_not.1 u) (by omega)
theorem doS_os (s : SM) (e : EntryD) : (doS s e).1.os = s.os ∨ (doS s e).1.os = s.os ++ [newS s.os e.order] :=
  doS_cases s e (fun r => r.1.os = s.os ∨ r.1.os = s.os ++ [newS s.os e.order]) (fun _ => .inl rfl) (fun _ _ => .inl rfl) (fun _ _ _ _ => .inl rfl) (fun _ _ _ _ => .inl rfl) (fun _ _ _ _ _ => .inl rfl) (fun _ _ _ _ _ => .inr rfl)
theorem doS_dn (s : SM) (e : EntryD) : s.dn ≤ (doS s e).1.dn ∧ (doS s e).1.dn ≤ s.dn + 1 :=
  doS_cases s e (fun r => s.dn ≤ r.1.dn ∧ r.1.dn ≤ s.dn + 1) (fun _ => by simp only; omega) (fun _ _ => by simp only; omega) (fun _ _ _ _ => by simp only; omega) (fun _ _ _ _ => by simp only; omega) (fun _ _ _ _ _ => by simp only; omega) (fun _ _ _ _ _ => by simp only; omega)
theorem tokI_snoc {os : List OrdD} {t : ByteArray} {o : OrdD} {k : Nat} (h : tokI os t = k + 1) : tokI (os ++ [o]) t = k + 1 := by
  unfold tokI at h ⊢
  rw [List.findIdx?_append]
  cases e : os.findIdx? fun o => decide (o.x.token = t) with
  | none => rw [e] at h; simp at h
  | some i => rw [e] at h; simpa using h
theorem SOk.new {s : SM} (h : SOk s) {e : EntryD} (hr : rEntry e) (hn : ¬ e.noop = true) (ht : tokS s.os e.order.token = none) (he : e.order.epoch = (cntS s.os e.order.cart : Int)) (hl : s.os.length < 65536) : SOk ⟨s.os ++ [newS s.os e.order], s.dn + 1⟩ := by
  have key : ∀ (i : Nat) o, (s.os ++ [newS s.os e.order])[i]? = some o → (s.os[i]? = some o ∧ i < s.os.length) ∨ (i = s.os.length ∧ o = newS s.os e.order) := by
    intro i o hi
    rw [List.getElem?_append] at hi
    split at hi
    · rename_i h; exact .inl ⟨hi, h⟩
    · have := (List.getElem?_eq_some_iff.1 hi).1
      simp at this
      have e1 : i = s.os.length := by omega
      subst e1; simp at hi; exact .inr ⟨rfl, hi.symm⟩
  refine ⟨by simp; omega, fun i o hi => ?_, fun i o hi => ?_, fun i o hi => ?_, fun o ho => ?_⟩
  · rcases key i o hi with ⟨h1, _⟩ | ⟨rfl, rfl⟩
    · exact h.ids i o h1
    · rfl
  · rcases key i o hi with ⟨h1, h2⟩ | ⟨rfl, rfl⟩
    · show o.x.epoch = (cntS ((s.os ++ [newS s.os e.order]).take i) o.x.cart : Int)
      rw [List.take_append_of_le_length (by omega)]; exact h.eps i o h1
    · show e.order.epoch = (cntS ((s.os ++ [newS s.os e.order]).take s.os.length) e.order.cart : Int)
      rw [List.take_append_of_le_length (Nat.le_refl _), List.take_length]; exact he
  · rcases key i o hi with ⟨h1, h2⟩ | ⟨rfl, rfl⟩
    · exact tokI_snoc (h.tks i o h1)
    · have q := tokI_new (x := e.order) ht e.order.token
      rw [if_pos rfl] at q
      show tokI (s.os ++ [newS s.os e.order]) e.order.token = _
      omega
  · rcases List.mem_append.1 ho with h1 | h1
    · exact h.rs o h1
    · simp at h1; subst h1
      unfold rEntry at hr
      rw [if_neg hn] at hr; exact hr
theorem SOk.of_os {s : SM} (h : SOk s) (d : Int) : SOk ⟨s.os, d⟩ := ⟨h.len, h.ids, h.eps, h.tks, h.rs⟩
theorem SOk.next {s : SM} (h : SOk s) (e : EntryD) : SOk (doS s e).1 :=
  doS_cases s e (fun r => SOk r.1) (fun _ => h) (fun _ _ => h.of_os _) (fun _ _ _ _ => h.of_os _) (fun _ _ _ _ => h.of_os _) (fun _ _ _ _ _ => h.of_os _) (fun h1 h2 h3 h4 h5 => h.new h1 h2 h3 h4 h5)
theorem SOk.zero : SOk ⟨[], 0⟩ := ⟨by simp, by simp, by simp, by simp, by simp⟩
theorem SOk.run : ∀ l : List EntryD, SOk (runS l) := by
  have : ∀ (l : List EntryD) s, SOk s → SOk (l.foldl (fun s e => (doS s e).1) s) := by
    intro l; induction l with
    | nil => intro s h; exact h
    | cons e l ih => intro s h; exact ih _ (h.next e)
  exact fun l => this l _ SOk.zero
theorem runS_dn (l : List EntryD) : 0 ≤ (runS l).dn ∧ (runS l).dn ≤ (l.length : Int) := by
  have : ∀ (l : List EntryD) s, s.dn ≤ (l.foldl (fun s e => (doS s e).1) s).dn ∧ (l.foldl (fun s e => (doS s e).1) s).dn ≤ s.dn + l.length := by
    intro l; induction l with
    | nil => intro s; simp
    | cons e l ih => intro s; have h1 := ih (doS s e).1; have h2 := doS_dn s e; simp only [List.foldl_cons, List.length_cons]; omega
  have h := this l ⟨[], 0⟩
  simpa [runS] using h
theorem cntS_at {os : List OrdD} {i : Nat} {o : OrdD} {c : ByteArray} (h : os[i]? = some o) : cntS (os.take (i + 1)) c = cntS (os.take i) c + if o.x.cart = c then 1 else 0 := by
  rw [take_at h]; unfold cntS; rw [List.filter_append, List.length_append]
  by_cases k : o.x.cart = c <;> simp [k]
end Go.SL
