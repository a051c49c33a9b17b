/- What the law of this claim needs, together: the logic, data in memory, the walks of functions. -/
import Derived.OrdersIn
import Derived.TacticsIn
import Derived.CallsIn
import Derived.Tactics
import Derived.Maps.AppendAt
import Derived.Laws.World
import Derived.IntWalk
import Derived.Laws.Cells
import Derived.Laws.CopyRow
import Derived.Lib.AppendStr
import Derived.Laws.BytesArg
import Derived.Lib.ConvBytes
import Derived.Test.YtojddiieiggpjaaGreatDoorProg
import Derived.KernelRfl
import Derived.Lib.Strings
set_option linter.unusedVariables false
set_option linter.unusedSimpArgs false
set_option linter.unusedSectionVars false
namespace Go.SL
theorem J.{u} {α:Sort u} {a:α}:a=a:=rfl
abbrev bi:=@congrArg
abbrev cj:=@List.getElem?_eq_getElem
abbrev cJ:=@decide_eq_false
abbrev dm:=@List.nil_append
abbrev dF:=@Nat.zero_le
abbrev dL:=@List.cons_append
abbrev dO:=@List.length_cons
abbrev dV:=@decide_eq_true
abbrev dX:=@List.getElem?_eq_some_iff
abbrev ej:=@List.length_nil
abbrev ez:=@Option.some.inj
abbrev eA:=@List.mem_of_getElem?
abbrev eQ:=@List.length_append
abbrev eX:=@Classical.not_not
abbrev e_:=@List.getElem?_map
abbrev fh:=@List.append_assoc
abbrev fo:=@Nat.le_refl
abbrev fK:=@Option.bind_eq_some_iff
abbrev fY:=@List.mem_map
abbrev gq:=@List.length_take
abbrev gD:=@List.mem_append
abbrev gO:=@List.mem_cons_of_mem
abbrev gQ:=@List.take_of_length_le
abbrev gY:=@List.length_map
abbrev gX:=@decide_eq_decide
abbrev ig:=@List.mem_cons
abbrev ie:=@List.mem_cons_self
abbrev iq:=@Option.map_eq_some_iff
abbrev jI:=@Nat.add_mul
abbrev jY:=@Prod.mk.inj
abbrev kf:=@Nat.le_trans
abbrev kc:=@Bool.and_eq_true
abbrev ke:=@List.mem_filter
abbrev kq:=@List.map_cons
abbrev kp:=@List.map_append
abbrev kH:=@Option.some.injEq
abbrev kF:=@List.getElem?_append_left
abbrev kG:=@List.length_filter_le
abbrev lM:=@Bool.false_eq_true
abbrev l8:=@List.map_set
abbrev m8:=@List.getElem?_take
abbrev nD:=@Nat.zero_add
abbrev nA:=@List.getElem?_append_right
abbrev nB:=@Nat.mul_le_mul_right
abbrev nC:=@List.filter_append
abbrev od:=@List.getElem?_of_mem
abbrev oh:=@List.pairwise_map
abbrev o3:=@of_decide_eq_true
abbrev o0:=@List.mem_singleton
abbrev qC:=@Nat.eq_of_beq_eq_true
abbrev qF:=@List.getElem?_drop
abbrev qD:=@Array.getElem?_modify
abbrev qI:=@Option.map_some
abbrev qH:=@List.size_toArray
abbrev qG:=@List.pairwise_cons
abbrev qE:=@List.take_append_drop
abbrev qJ:=@Int.le_refl
abbrev rC:=@List.eq_nil_of_length_eq_zero
abbrev rD:=@List.filter_eq_self
abbrev rE:=@List.take_add_one
abbrev sD:=@Nat.add_zero
abbrev sA:=@Array.getD_eq_getD_getElem?
abbrev sB:=@List.all_eq_true
abbrev sC:=@List.mem_range
abbrev sE:=@List.map_map
abbrev tB:=@List.getElem?_toArray
abbrev tD:=@Option.isSome_some
abbrev tC:=@List.length_replicate
abbrev tE:=@List.append_nil
abbrev uy:=@Array.getElem?_eq_some_iff
abbrev uA:=@List.filter_cons
abbrev uB:=@List.length_drop
abbrev uz:=@List.getElem?_set
abbrev uC:=@List.Perm.refl
abbrev vT:=@Option.getD_some
abbrev vV:=@List.nodup_cons
abbrev vR:=@List.find?_eq_none
abbrev vU:=@List.perm_middle
abbrev vW:=@List.length_set
abbrev vS:=@Option.isSome_none
abbrev xU:=@Option.bind_some
abbrev xT:=@List.getElem?_eq_none
abbrev xQ:=@List.drop_eq_getElem_cons
abbrev xR:=@List.pairwise_iff_getElem
abbrev xS:=@Option.isSome_iff_exists
abbrev xV:=@List.drop_length
abbrev zR:=@Nat.add_assoc
abbrev zP:=@List.ext_getElem?
abbrev zQ:=@Int.toNat_natCast
abbrev zM:=@Classical.byContradiction
abbrev zS:=@List.sum_cons
abbrev zN:=@List.map_congr_left
abbrev zL:=@List.getD_eq_getElem?_getD
abbrev zO:=@List.length_reverse
abbrev Ch:=@List.foldl_cons
abbrev Cg:=@List.take_length
abbrev Cj:=@List.map_id
abbrev Cf:=@List.mem_of_mem_take
abbrev Ce:=@List.length_singleton
abbrev D':=@Array.getElem?_eq_getElem
abbrev Ee:=@Nat.mod_eq_of_lt
abbrev Ec:=@List.foldl_append
abbrev D_:=@List.perm_append_singleton
abbrev Ef:=@List.getElem_mem
abbrev Ea:=@Bool.or_eq_false_iff
abbrev Eb:=@List.pairwise_append
abbrev Eg:=@List.filter_map
abbrev Ed:=@Nat.le_succ_of_le
abbrev G6:=@Array.getElem?_setIfInBounds_ne
abbrev He:=@List.nodup_append
abbrev Hf:=@Bool.not_eq_true'
abbrev G_:=@Nat.le_mul_of_pos_right
abbrev G7:=@Array.getElem?_append_left
abbrev Hg:=@List.map_toArray
abbrev Hh:=@List.take_prefix
abbrev G8:=@List.mem_of_find?_eq_some
abbrev Hb:=@List.set_cons_succ
abbrev Ha:=@List.eraseIdx_cons_succ
abbrev Hi:=@List.getElem_map
abbrev Hc:=@Nat.lt_or_eq_of_le
abbrev G9:=@List.mem_or_eq_of_mem_set
abbrev Hd:=@Bool.false_ne_true
abbrev Km:=@List.filter_cons_of_neg
abbrev Kn:=@List.pairwise_mergeSort
abbrev Kk:=@List.findIdx?_eq_some_iff_getElem
abbrev Kl:=@List.eq_of_mem_replicate
open Go
abbrev Mem:=Nat->Option Obj
def Mem.le (M N:Mem):Prop:=∀ b x,M b=some x->N b=some x
def Mem.lR (M N:Mem):Prop:=∀ b,M b=none\/N b=none
def heapOf (w:World):Mem:=λb=>w.heap[b]?
theorem Mem.le_refl (M:Mem):M.le M:=λ_ _ h=>h
variable{A B C:Mem}
theorem Mem.le_trans (h:A.le B) (k:B.le C):A.le C:=λb x hx=>k b x (h b x hx)
theorem Mem.i' {A' B':Mem} (h:A.lR B) (ha:A'.le A) (hb:B'.le B):A'.lR B':=λb=>by
 rcases h b with h | h
 ·left
  cases hx:A' b with
  | none=>rfl
  | some x=>rw [ha b x hx] at h; cases h
 ·right
  cases hx:B' b with
  | none=>rfl
  | some x=>rw [hb b x hx] at h; cases h
theorem Mem.o8 (h:A.lR B):B.lR A:=λb=>(h b).symm
def Mem.join (A B:Mem):Mem:=λb=>match A b with | some x=>some x | none=>B b
theorem Mem.tH (A B:Mem):A.le (A.join B):=λb x h=>by simp [Mem.join,h]
theorem Mem.tG (hd:A.lR B):B.le (A.join B):=λb x h=>by
 rcases hd b with ha | hb
 ·simp [Mem.join,ha,h]
 ·rw [h] at hb; cases hb
theorem Mem.join_le (ha:A.le C) (hb:B.le C):(A.join B).le C:=λb x h=>by
 unfold Mem.join at h
 cases hA:A b with
 | some y=>rw [hA] at h; exact ha b x (by rw [hA]; exact h)
 | none=>rw [hA] at h; exact hb b x h
theorem Mem.uH (ha:A.lR C) (hb:B.lR C):(A.join B).lR C:=λb=>by
 rcases ha b with h | h
 ·rcases hb b with k | k
  ·left; simp [Mem.join,h,k]
  ·exact .inr k
 ·exact .inr h
def Mem.emp:Mem:=λ_=>none
def Mem.one (b:Nat) (x:Obj):Mem:=λi=>if i=b then some x else none
theorem Mem.iu (M:Mem):Mem.emp.le M:=λ_ _ h=>by cases h
theorem Mem.iD (M:Mem):Mem.emp.lR M:=λ_=>.inl rfl
theorem Mem.Tl (M:Mem):M.lR Mem.emp:=λ_=>.inr rfl
theorem Mem.CE (b:Nat) (x:Obj):Mem.one b x b=some x:=by simp [Mem.one]
variable{b:Nat}{x:Obj}{M:Mem}
theorem Mem.C2 (h:M b=some x):(Mem.one b x).le M:=λi y hy=>by
 unfold Mem.one at hy
 split at hy
 ·rename_i e; subst e; cases hy; exact h
 ·cases hy
structure HP where
 holds:Mem->Mem->Prop
 mono:∀ {M N h k:Mem},M.le N->h.le k->holds M h->holds N k
def Sep:List HP->Mem->Mem->Prop
 | [],_,_=>True
 | p::ps,M,h=>∃ h1 h2,h1.lR h2/\h1.le h/\h2.le h/\p.holds M h1/\Sep ps M h2
variable{L:List HP}
theorem Sep.mono:∀ {M N h k:Mem},M.le N->h.le k->Sep L M h->Sep L N k:=by
 induction L with
 | nil=>intro M N h k _ _ _; trivial
 | cons p ps ih=>
  rintro M N h k hM hh ⟨h1,h2,hd,l1,l2,hp,hs⟩
  exact ⟨h1,h2,hd,(Mem.le_trans l1 hh),(Mem.le_trans l2 hh),p.mono hM (Mem.le_refl _) hp,ih hM (Mem.le_refl _) hs⟩
structure bH (o w:World) (L:List HP):Prop where
 ex:∃ M h,M.lR h/\M.le (heapOf w)/\h.le (heapOf w)/\Sep L M h
 os:w.os=o.os
 tape:w.tape=o.tape
 output:w.output=o.output
 size:o.heap.size<=w.heap.size
variable{o w:World}{L':List HP}
theorem bH.ahs (h:bH o w L) (hl:∀ M k,Sep L M k->Sep L' M k):bH o w L':=
 ⟨let ⟨M,k,a,b,c,d⟩:=h.ex; ⟨M,k,a,b,c,hl M k d⟩,h.os,h.tape,h.output,h.size⟩
def am (L L':List HP):Prop:=∀ M k,Sep L M k->Sep L' M k
theorem am.refl (L:List HP):am L L:=λ_ _ h=>h
theorem am.trans {A B C:List HP} (h:am A B) (k:am B C):am A C:=λM m x=>k M m (h M m x)
theorem am.cons (p:HP) (h:am L L'):am (p::L) (p::L'):=λM k ⟨h1,h2,hd,l1,l2,hp,hs⟩=>⟨h1,h2,hd,l1,l2,hp,h M h2 hs⟩
theorem am.drop (p:HP) (L:List HP):am (p::L) L:=λM k ⟨h1,h2,hd,l1,l2,hp,hs⟩=>Sep.mono (Mem.le_refl _) l2 hs
theorem am.nil (L:List HP):am L []:=λ_ _ _=>trivial
theorem am.swap (p q:HP) (L:List HP):am (p::q::L) (q::p::L):=by
 rintro M k ⟨h1,h2,hd,l1,l2,hp,h3,h4,eW,l3,l4,hq,hs⟩
 refine ⟨h3,h1.join h4, ?_,(Mem.le_trans l3 l2),Mem.join_le l1 (Mem.le_trans l4 l2),hq,h1,h4, ?_,Mem.tH _ _, ?_,hp,hs⟩
 ·exact Mem.o8 (Mem.uH (Mem.i' hd (Mem.le_refl _) l3) (Mem.o8 eW))
 ·exact Mem.i' hd (Mem.le_refl _) l4
 ·exact Mem.tG (Mem.i' hd (Mem.le_refl _) l4)
def mH:Nat->List HP->List HP
 | _,[]=>[]
 | 0,L=>L
 | k+1,p::L=>match mH k L with
  | []=>[p]
  | q::R=>q::p::R
theorem am.mH:∀ (k:Nat) (L:List HP),am L (SL.mH k L)
 | _,[]=>by
  intro M h _
  cases ‹Nat› <;> trivial
 | 0,p::L=>am.refl _
 | k+1,p::L=>by
  have ih:=am.mH k L
  simp only [SL.mH]
  cases e:SL.mH k L with
  | nil=>rw [e] at ih; exact am.cons p ih
  | cons q R=>rw [e] at ih; exact (am.cons p ih).trans (am.swap p q R)
def nV (φ:Mem->Prop) (hm:∀ {M N:Mem},M.le N->φ M->φ N):HP:=⟨λM _=>φ M,λhM _ h=>hm hM h⟩
def pure (p:Prop):HP:=⟨λ_ _=>p,λ_ _ h=>h⟩
def imm (b:Nat) (x:Obj):HP:=⟨λM _=>M b=some x,λhM _ h=>hM _ _ h⟩
def own (b:Nat) (x:Obj):HP:=⟨λ_ h=>h b=some x,λ_ hh h=>hh _ _ h⟩
def base (M0:Mem):HP:=⟨λM _=>M0.le M,λhM _ h=>(Mem.le_trans h hM)⟩
def bV (L:List HP) (φ:Mem->Prop):Prop:=∀ M h,Sep L M h->φ M
variable{φ:Mem->Prop}
theorem bV.mono {ψ:Mem->Prop} (h:bV L φ) (k:∀ M,φ M->ψ M):bV L ψ:=λM m x=>k M (h M m x)
theorem bV.and {ψ:Mem->Prop} (h:bV L φ) (k:bV L ψ):bV L (λM=>φ M/\ψ M):=λM m x=>⟨h M m x,k M m x⟩
theorem bV.const (h:∀ M,φ M):bV L φ:=λM _ _=>h M
variable{p:HP}
theorem bV.tail (h:bV L φ):bV (p::L) φ:=λM m x=>h M m (am.drop p L M m x)
theorem bV.head {hm:∀ {M N:Mem},M.le N->φ M->φ N}:bV (nV φ hm::L) φ:=λM m ⟨_,_,_,_,_,hp,_⟩=>hp
theorem bV.dT (g:am L L') (h:bV L' φ):bV L φ:=λM m x=>h M m (g M m x)
theorem bV.lay {hm:∀ {M N:Mem},M.le N->φ M->φ N} (h:bV L φ):am L (nV φ hm::L):=λM m x=>
 ⟨Mem.emp,m,Mem.iD _,Mem.iu _,Mem.le_refl _,h M m x,x⟩
variable{p:Prop}
theorem am.sF (h:p):am L (pure p::L):=λM m x=>⟨Mem.emp,m,Mem.iD _,Mem.iu _,Mem.le_refl _,h,x⟩
theorem bH.ay (h:bH o w L) (g:am L L'):bH o w L':=h.ahs g
theorem bH.alloc (h:bH o w L) (x:Obj):bH o (w.alloc x) (own w.heap.size x::L):=by
 obtain ⟨M,k,hd,hM,hk,hs⟩:=h.ex
 have Fv:∀ {N:Mem},N.le (heapOf w)->N w.heap.size=none:=by
  intro N hN
  cases e:N w.heap.size with
  | none=>rfl
  | some y=>
   have:=hN _ _ e
   simp [heapOf] at this
 have hold:(heapOf w).le (heapOf (w.alloc x)):=λb y hy=>by
  have y7:w.heap[b]? =some y:=hy
  have:=(uy.1 y7).1
  show (w.heap.push x)[b]? =some y
  rw [Array.getElem?_push,if_neg (by omega)]
  exact y7
 have jf:(Mem.one w.heap.size x).le (heapOf (w.alloc x)):=Mem.C2 (by show (w.heap.push x)[w.heap.size]? =some x; simp)
 have y8:(Mem.one w.heap.size x).lR k:=λb=>by
  by_cases e:b=w.heap.size
  ·subst e; exact .inr (Fv hk)
  ·left; simp [Mem.one,e]
 refine ⟨⟨M,(Mem.one w.heap.size x).join k, ?_,(Mem.le_trans hM hold),Mem.join_le jf (Mem.le_trans hk hold),Mem.one w.heap.size x,k,y8,Mem.tH _ _,Mem.tG y8,Mem.CE _ _,hs⟩,h.os,h.tape,h.output, ?_⟩
 ·refine Mem.o8 (Mem.uH ?_ (Mem.o8 hd))
  intro b
  by_cases e:b=w.heap.size
  ·subst e; exact .inr (Fv hM)
  ·left; simp [Mem.one,e]
 ·have:=h.size
  show o.heap.size<=(w.heap.push x).size
  simp
  omega
variable{w':World}
theorem bH.new (h:bH o w L) (hb:w'.heap[w.heap.size]? =some x) (aiA:∀ i,i < w.heap.size->w'.heap[i]? =w.heap[i]?) (OM:w'.os=w.os) (Np:w'.tape=w.tape) (yQ:w'.output=w.output) (ew:w.heap.size<=w'.heap.size):bH o w' (own w.heap.size x::L):=by
 obtain ⟨M,k,hd,hM,hk,hs⟩:=h.ex
 have Fv:∀ {N:Mem},N.le (heapOf w)->N w.heap.size=none:=by
  intro N hN
  cases e:N w.heap.size with
  | none=>rfl
  | some y=>
   have:=hN _ _ e
   simp [heapOf] at this
 have hold:(heapOf w).le (heapOf w'):=λb y hy=>by
  have y7:w.heap[b]? =some y:=hy
  have:=(uy.1 y7).1
  show w'.heap[b]? =some y
  rw [aiA b this]
  exact y7
 have jf:(Mem.one w.heap.size x).le (heapOf w'):=Mem.C2 hb
 have y8:(Mem.one w.heap.size x).lR k:=λb=>by
  by_cases e:b=w.heap.size
  ·subst e; exact .inr (Fv hk)
  ·left; simp [Mem.one,e]
 refine ⟨⟨M,(Mem.one w.heap.size x).join k, ?_,(Mem.le_trans hM hold),Mem.join_le jf (Mem.le_trans hk hold),Mem.one w.heap.size x,k,y8,Mem.tH _ _,Mem.tG y8,Mem.CE _ _,hs⟩,OM.trans h.os,Np.trans h.tape,yQ.trans h.output,kf h.size ew⟩
 refine Mem.o8 (Mem.uH ?_ (Mem.o8 hd))
 intro b
 by_cases e:b=w.heap.size
 ·subst e; exact .inr (Fv hM)
 ·left; simp [Mem.one,e]
theorem bH.drew (h:bH o w L):bH o {w with drawn:=w.drawn+1} L:=⟨h.ex,h.os,h.tape,h.output,h.size⟩
theorem bH.set {y:Obj} (h:bH o w (own b x::L)) (hb:w'.heap[b]? =some y) (hr:∀ i,i≠b->w'.heap[i]? =w.heap[i]?) 
  (OM:w'.os=w.os) (Np:w'.tape=w.tape) (yQ:w'.output=w.output) (ew:w.heap.size<=w'.heap.size):bH o w' (own b y::L):=by
 obtain ⟨M,k,hd,hM,hk,h1,h2,eW,l1,l2,hp,hs⟩:=h.ex
 have Jp:k b=some x:=l1 _ _ hp
 have Jq:M b=none:=by
  rcases hd b with e | e
  ·exact e
  ·rw [Jp] at e; cases e
 have Jr:h2 b=none:=by
  rcases eW b with e | e
  ·rw [hp] at e; cases e
  ·exact e
 have rZ:∀ {N:Mem},N b=none->N.le (heapOf w)->N.le (heapOf w'):=λ{N} e hN i z hz=>by
  have iS:i≠b:=by rintro rfl; rw [e] at hz; cases hz
  show w'.heap[i]? =some z
  rw [hr i iS]
  exact hN i z hz
 have y8:(Mem.one b y).lR h2:=λi=>by
  by_cases e:i=b
  ·subst e; exact .inr Jr
  ·left; simp [Mem.one,e]
 refine ⟨⟨M,(Mem.one b y).join h2, ?_,rZ Jq hM,Mem.join_le (Mem.C2 hb) (rZ Jr (Mem.le_trans l2 hk)),Mem.one b y,h2,y8,Mem.tH _ _,Mem.tG y8,Mem.CE _ _,hs⟩,OM.trans h.os,Np.trans h.tape,yQ.trans h.output,kf h.size ew⟩
 refine Mem.o8 (Mem.uH ?_ (Mem.o8 (Mem.i' hd (Mem.le_refl _) l2)))
 intro i
 by_cases e:i=b
 ·subst e; exact .inr Jq
 ·left; simp [Mem.one,e]
theorem bH.pX (h:bH o w (own b x::L)):w.heap[b]? =some x:=by
 obtain ⟨M,k,hd,hM,hk,h1,h2,eW,l1,l2,hp,hs⟩:=h.ex
 exact hk _ _ (l1 _ _ hp)
theorem bH.uS (h:bH o w L) (k:bV L φ):∃ M:Mem,M.le (heapOf w)/\φ M:=by
 obtain ⟨M,m,hd,hM,hk,hs⟩:=h.ex
 exact ⟨M,hM,k M m hs⟩
theorem bH.freeze (h:bH o w (own b x::L)):bH o w (imm b x::L):=by
 obtain ⟨M,k,hd,hM,hk,h1,h2,eW,l1,l2,hp,hs⟩:=h.ex
 have Jp:k b=some x:=l1 _ _ hp
 have Jq:M b=none:=by
  rcases hd b with e | e
  ·exact e
  ·rw [Jp] at e; cases e
 have Jr:h2 b=none:=by
  rcases eW b with e | e
  ·rw [hp] at e; cases e
  ·exact e
 have mK:(Mem.one b x).lR M:=λi=>by
  by_cases e:i=b
  ·subst e; exact .inr Jq
  ·left; simp [Mem.one,e]
 refine ⟨⟨(Mem.one b x).join M,h2,Mem.uH ?_ (Mem.i' hd (Mem.le_refl _) l2),Mem.join_le (Mem.C2 (hk _ _ Jp)) hM,(Mem.le_trans l2 hk),Mem.emp,h2,Mem.iD _,Mem.iu _,Mem.le_refl _,Mem.tH _ _ _ _ (Mem.CE _ _),Sep.mono (Mem.tG mK) (Mem.le_refl _) hs⟩,h.os,h.tape,h.output,h.size⟩
 intro i
 by_cases e:i=b
 ·subst e; exact .inr Jr
 ·left; simp [Mem.one,e]
abbrev cZ:=List (Nat × Value)
def dM:cZ->Nat->Option Value
 | [],_=>none
 | (i,v)::E,j=>bif Nat.beq i j then some v else dM E j
def ev (E:cZ):Operand->Option Value
 | .tmp t=>dM E t
 | .const v=>some v
 | .global g=>some (.pointer (some ⟨g,0,none⟩))
 | .func f=>some (.func (.func f) #[] #[])
def ml (E:cZ):List Operand->Option (List Value)
 | []=>some []
 | x::xs=>match ev E x,ml E xs with
  | some v,some vs=>some (v::vs)
  | _,_=>none
structure j5 (n:Nat) (D:List Deferred) (a:Act) (E:cZ):Prop where
 size:a.tmps.size=n
 defers:a.defers=D
 get:∀ i v,dM E i=some v->a.tmps[i]? =some v
variable{n d:Nat}{D:List Deferred}{a:Act}
theorem j5.put {E:cZ} (h:j5 n D a E) (hd:d < n) (v:Value):j5 n D (a.put (some d) v) ((d,v)::E):=by
 refine ⟨by simp [Act.put,h.size],h.defers,λi u hu=> ?_⟩
 simp only [dM] at hu
 cases e:Nat.beq d i with
 | true=>
  rw [e] at hu
  simp only [cond_true,kH] at hu
  have:d=i:=qC e
  subst this; subst hu
  simp [Act.put,h.size,hd]
 | false=>
  rw [e] at hu
  simp only [cond_false] at hu
  have iS:d≠i:=λe'=>by subst e'; simp at e
  simp only [Act.put]
  rw [G6 iS]
  exact h.get i u hu
variable{v:Value}
theorem j5.ev {E:cZ} (h:j5 n D a E) {x:Operand} (hx:SL.ev E x=some v):a.eval x=v:=by
 cases x with
 | tmp t=>
  have:=h.get t v hx
  simp [Act.eval,this]
 | const u=>simp [SL.ev] at hx; simp [Act.eval,hx]
 | «global» g=>simp [SL.ev] at hx; simp [Act.eval,hx]
 | func f=>simp [SL.ev] at hx; simp [Act.eval,hx]
theorem j5.ml {n:Nat} {D:List Deferred} {a:Act} {E:cZ} (h:j5 n D a E):∀ {xs:List Operand} {vs:List Value},SL.ml E xs=some vs->xs.map a.eval=vs
 | [],vs,hx=>by simp [SL.ml] at hx; simp [hx]
 | x::xs,vs,hx=>by
  simp only [SL.ml] at hx
  cases e1:SL.ev E x with
  | none=>rw [e1] at hx; cases hx
  | some v=>
   cases e2:SL.ml E xs with
   | none=>rw [e1,e2] at hx; cases hx
   | some us=>
    rw [e1,e2] at hx
    cases hx
    simp [h.ev e1,j5.ml h e2]
variable{E':cZ}
theorem j5.less {E:cZ} (h:j5 n D a E) (hE:∀ i v,dM E' i=some v->dM E i=some v):j5 n D a E':=
 ⟨h.size,h.defers,λi v hv=>h.get i v (hE i v hv)⟩
structure St where
 D:List Deferred
 E:cZ
 L:List HP
def Holds (n:Nat) (o:World) (s:St) (a:Act) (w:World):Prop:=j5 n s.D a s.E/\bH o w s.L
abbrev Fw (r:Option Nat):Fence:={fn:=λ_=>True,depth:=none,alive:=false,round:=r}
def T (r:Option Nat) (n:Nat) (P:Program) (c:Code) (s:St) (Q:Exit->St->Prop):Prop:=
 ∀ o a w,Holds n o s a w->c.wpIn (Fw r) 0 P (λe a' w'=>∃ s',Q e s'/\Holds n o s' a' w') a w
def TL (r:Option Nat) (n:Nat) (P:Program) (ops:Array Oper) (l:List Oper) (s:St) (K:St->Prop):Prop:=
 ∀ o a w,Holds n o s a w->wpListIn (Fw r) 0 P ops (λe a' w'=>e=.normal/\∃ s',K s'/\Holds n o s' a' w') l a w
def Fn (P:Program) (f:FuncId) (args:Array Value) (L:List HP) (Φ:Value->List HP->Prop):Prop:=
 ∀ o w,bH o w L->Calls P f args w λe w'=>∃ v L',e=.returned v/\Φ v L'/\bH o w' L'
variable{m:Nat}{P:Program}{o:Oper}{Q:Exit->Act->World->Prop}
theorem HB {F:Fence} {N N':Act->World->Prop} {Q':Exit->Act->World->Prop} (hn:∀ a w,N a w->N' a w) (hq:∀ c a w,Q (.panic c) a w->Q' (.panic c) a w) (yQ:LetsOut Q->LetsOut Q') (x:Result Next) 
  (h:o.uponIn F m P a N Q x):o.uponIn F m P a N' Q' x:=by
 cases x with
 | ok v w=>
  cases v <;> simp only [Oper.uponIn] at h ⊢
  case value=>exact hn _ _ h
  case skip=>exact hn _ _ h
  case defer=>exact hn _ _ h
  case enter=>exact ⟨h.1,h.2.mono λe w' he=>by cases e <;> simp only at he ⊢ <;> first | exact hn _ _ he | exact hq _ _ _ he | exact yQ he⟩
  case row=>exact ⟨h.1,h.2.mono λv w' he=>hn _ _ he⟩
  case round=>exact ⟨h.1,h.2.mono λe w' he=>by cases e <;> simp only at he ⊢ <;> first | exact hn _ _ he | exact hq _ _ _ he | exact yQ he⟩
 | halt x w=>cases x <;> simp only [Oper.uponIn] at h ⊢; exact hq _ _ _ h
theorem Ej {F:Fence} {m:Nat} {P:Program} {ops:Array Oper} {Q Q':Exit->Act->World->Prop} (hq:∀ e a w,Q e a w->Q' e a w):∀ (l:List Oper) (a:Act) (w:World),wpListIn F m P ops Q l a w->wpListIn F m P ops Q' l a w
 | [],a,w,h=>hq _ _ _ h
 | o::rest,a,w,h=>by
  simp only [wpListIn] at h ⊢
  split
  ·rename_i hw
   rw [if_pos hw] at h
   exact ⟨h.1,HB (Ej hq rest) (λc=>hq _) (λ⟨a,w,h⟩=>⟨a,w,hq _ _ _ h⟩) _ h.2⟩
  ·rename_i hw
   rw [if_neg hw] at h
   exact ⟨h.1,Ej hq rest _ _ h.2⟩
variable{r:Option Nat}{ops:Array Oper}{rest:List Oper}{s:St}{K:St->Prop}{Q:Exit->St->Prop}{E:cZ}
variable{c:Code}
theorem T.mono {Q':Exit->St->Prop} (h:T r n P c s Q) (hq:∀ e s,Q e s->Q' e s):T r n P c s Q':=λW a w hh=>
 wpIn_mono (h W a w hh) λe a' w' ⟨s',q,k⟩=>⟨s',hq _ _ q,k⟩
variable{W:World}
theorem Holds.ay (h:Holds n W ⟨D,E,L⟩ a w) (g:am L L'):Holds n W ⟨D,E,L'⟩ a w:=⟨h.1,h.2.ay g⟩
theorem b_ (g:am L L') (h:T r n P c ⟨D,E,L'⟩ Q):T r n P c ⟨D,E,L⟩ Q:=λW a w hh=>h W a w (hh.ay g)
theorem bX (g:am L L') (h:TL r n P ops rest ⟨D,E,L'⟩ K):TL r n P ops rest ⟨D,E,L⟩ K:=λW a w hh=>h W a w (hh.ay g)
theorem wo (k:Nat) (e:mH k L=L') (h:TL r n P ops rest ⟨D,E,L'⟩ K):TL r n P ops rest ⟨D,E,L⟩ K:=bX (by rw [<- e]; exact am.mH k L) h
theorem ou (k:Nat) (e:mH k L=L') (h:T r n P c ⟨D,E,L'⟩ Q):T r n P c ⟨D,E,L⟩ Q:=b_ (by rw [<- e]; exact am.mH k L) h
theorem EQ (k:bV L φ) (hp:∀ M,φ M->p) (h:p->TL r n P ops rest ⟨D,E,L⟩ K):TL r n P ops rest ⟨D,E,L⟩ K:=λW a w hh=>by
 obtain ⟨M,_,hφ⟩:=hh.2.uS k
 exact h (hp M hφ) W a w hh
theorem yu (k:bV L φ) (hp:∀ M,φ M->p) (h:p->T r n P c ⟨D,E,L⟩ Q):T r n P c ⟨D,E,L⟩ Q:=λW a w hh=>by
 obtain ⟨M,_,hφ⟩:=hh.2.uS k
 exact h (hp M hφ) W a w hh
variable{f:FuncId}{Φ:Value->List HP->Prop}
theorem Tm {args:Array Value} (g:am L L') (h:Fn P f args L' Φ):Fn P f args L Φ:=λW w hh=>h W w (hh.ay g)
variable{Ψ:Value->List HP->Prop}
theorem Fn.mono {args:Array Value} (h:Fn P f args L Φ) (k:∀ v L',Φ v L'->∃ WC,am L' WC/\Ψ v WC):Fn P f args L Ψ:=λW w hh=>
 (h W w hh).mono λe w' ⟨v,L1,he,hΦ,hs⟩=>let ⟨L2,g,hΨ⟩:=k v L1 hΦ; ⟨v,L2,he,hΨ,hs.ay g⟩
theorem az (h:Q .normal s):T r n P .skip s Q:=λW a w hh=>wpIn_skip ⟨s,h,hh⟩
theorem av (h:Q .ret s):T r n P .ret s Q:=λW a w hh=>wpIn_ret ⟨s,h,hh⟩
theorem cw {id:Nat} (h:Q (.exit id) s):T r n P (.exit id) s Q:=λW a w hh=>wpIn_exit ⟨s,h,hh⟩
def p9 (K:St->Prop) (Q:Exit->St->Prop):Exit->St->Prop
 | .normal,s=>K s
 | e,s=>Q e s
variable{x y:Code}
theorem ar (h:T r n P x s (p9 (λs'=>T r n P y s' Q) Q)):T r n P (.seq x y) s Q:=λW a w hh=>by
 refine wpIn_seq (wpIn_mono (h W a w hh) ?_)
 rintro e a' w' ⟨s',q,k⟩
 cases e <;> simp only [p9,Exit.then] at q ⊢
 case normal=>exact q W a' w' k
 all_goals exact ⟨s',q,k⟩
def y9 (id:Nat) (Q:Exit->St->Prop):Exit->St->Prop
 | .exit i,s=>if i=id then Q .normal s else Q (.exit i) s
 | e,s=>Q e s
theorem aX {id:Nat} (h:T r n P c s (y9 id Q)):T r n P (.block id c) s Q:=λW a w hh=>by
 refine wpIn_block (wpIn_mono (h W a w hh) ?_)
 rintro e a' w' ⟨s',q,k⟩
 cases e with
 | exit i=>
  simp only [y9,Exit.inBlock] at q ⊢
  split
  ·rename_i e; rw [if_pos e] at q; exact ⟨s',q,k⟩
  ·rename_i e; rw [if_neg e] at q; exact ⟨s',q,k⟩
 | _=>exact ⟨s',q,k⟩
variable{c:Operand}{b:Bool}
theorem gF (hc:ev E c=some (.bool b)) (ht:b=true->T r n P x ⟨D,E,L⟩ Q) (hf:b=false->T r n P y ⟨D,E,L⟩ Q):T r n P (.cond c x y) ⟨D,E,L⟩ Q:=λW a w hh=>
 wpIn_cond_split (hh.1.ev hc) (λe=>ht e W a w hh) (λe=>hf e W a w hh)
theorem bz [Decidable p] (hc:ev E c=some (.bool (decide p))) (ht:p->T r n P x ⟨D,E,L⟩ Q) (hf:¬ p->T r n P y ⟨D,E,L⟩ Q):T r n P (.cond c x y) ⟨D,E,L⟩ Q:=
 gF hc (λe=>ht (o3 e)) (λe=>hf (of_decide_eq_false e))
theorem cg (hc:ev E c=some (.bool true)) (ht:T r n P x ⟨D,E,L⟩ Q):T r n P (.cond c x y) ⟨D,E,L⟩ Q:=gF hc (λ_=>ht) (λe=>by cases e)
theorem aT (hc:ev E c=some (.bool false)) (ht:T r n P y ⟨D,E,L⟩ Q):T r n P (.cond c x y) ⟨D,E,L⟩ Q:=gF hc (λe=>by cases e) (λ_=>ht)
theorem xZ (hc:ev E c=some (.bool b)) (hb:b=true) (ht:T r n P x ⟨D,E,L⟩ Q):T r n P (.cond c x y) ⟨D,E,L⟩ Q:=gF hc (λ_=>ht) (λe=>by rw [hb] at e; cases e)
theorem K6 (hc:ev E c=some (.bool b)) (hb:b=false) (ht:T r n P y ⟨D,E,L⟩ Q):T r n P (.cond c x y) ⟨D,E,L⟩ Q:=gF hc (λe=>by rw [hb] at e; cases e) (λ_=>ht)
theorem qN [Decidable p] (hc:ev E c=some (.bool (decide p))) (hp:p) (ht:T r n P x ⟨D,E,L⟩ Q):T r n P (.cond c x y) ⟨D,E,L⟩ Q:=bz hc (λ_=>ht) (λe=>absurd hp e)
theorem ir [Decidable p] (hc:ev E c=some (.bool (decide p))) (hp:¬ p) (ht:T r n P y ⟨D,E,L⟩ Q):T r n P (.cond c x y) ⟨D,E,L⟩ Q:=bz hc (λe=>absurd e hp) (λ_=>ht)
variable{σ:Type}
theorem aht {c:Code} (I:σ->Prop) (S:σ->St) (μ:σ->Nat) (x0:σ) (h0:I x0) (hs:∀ W a w,Holds n W s a w->Holds n W (S x0) a w) 
  (round:∀ x,I x->T r n P c (S x) (p9 (λs'=>∃ y,I y/\μ y < μ x/\∀ W a w,Holds n W s' a w->Holds n W (S y) a w) Q)):T r n P (.loop c) s Q:=λW a w hh=>by
 have key:∀ m x,μ x=m->I x->∀ a w,Holds n W (S x) a w->∀ (b:Frame) (k:List Item) (cs:List Frame),b.roundOf=(Fw r).round->(Fw r).fn b.fn->(Fw r).room (cs.length+1+0)→
   ∃ e a' w',(∃ s',Q e s'/\Holds n W s' a' w')/\ArrivesIn (Machine.fenced P (Fw r)) P (lone (b.atR a (.code c::.inLoop c::k)) cs w) b k cs e a' w':=by
  intro m
  induction m using Nat.strongRecOn with
  | _ m ih=>
   intro x hm hI a w hx b k cs Js hb hr
   obtain ⟨e,a₁,w₁,⟨s',q,hk⟩,yR⟩:=round x hI W a w hx b (.inLoop c::k) cs Js hb hr
   cases e with
   | normal=>
    simp only [p9] at q
    obtain ⟨y,hy,cL,hS⟩:=q
    obtain ⟨e₂,a₂,w₂,hq₂,aiB⟩:=ih (μ y) (hm ▸ cL) y rfl hy a₁ w₁ (hS W a₁ w₁ hk) b k cs Js hb hr
    exact ⟨e₂,a₂,w₂,hq₂,ArrivesIn.of_steps (StepsIn.trans yR (.one (fenced_calm hb hr rfl) stepR_inLoop)) aiB⟩
   | exit id=>exact ⟨_,a₁,w₁,⟨s',q,hk⟩,.pass (x:=.inLoop c) rfl (λ_ _=>.inl (by simp)) yR⟩
   | goto l=>exact ⟨_,a₁,w₁,⟨s',q,hk⟩,.pass (x:=.inLoop c) rfl (λ_ _=>.inl (by simp)) yR⟩
   | ret=>exact ⟨_,a₁,w₁,⟨s',q,hk⟩,.pass (x:=.inLoop c) rfl (λ_ _=>.inl (by simp)) yR⟩
   | panic ch=>exact ⟨_,a₁,w₁,⟨s',q,hk⟩,.pass (x:=.inLoop c) rfl (λ_ _=>.inl (by simp)) yR⟩
   | outgrown=>exact ⟨_,a₁,w₁,⟨s',q,hk⟩,.pass (x:=.inLoop c) rfl (λ_ _=>.inl (by simp)) yR⟩
 intro b k cs Js hb hr
 obtain ⟨e,a',w',hq,yR⟩:=key _ x0 rfl h0 a w (hs W a w hh) b k cs Js hb hr
 exact ⟨e,a',w',hq,ArrivesIn.of_steps (.one (fenced_calm hb hr rfl) stepR_loop) yR⟩
open Go
class iG (P:Program) (t:TypeId) (b:outParam Bool):Prop where
 run:∀ w,(isAgg t).run P w=.ok b w
class hJ (P:Program) (t:TypeId) (k:outParam Nat):Prop where
 run:∀ w,(sizeOf t).run P w=.ok k w
class l_ (P:Program) (t:TypeId) (z:outParam Value):Prop where
 run:∀ w,(zeroValue t).run P w=.ok z w
class dy (P:Program) (t:TypeId) (d:outParam TypeDesc):Prop where
 run:∀ w,(underlying t).run P w=.ok d w
class wp (P:Program) (t:TypeId) (i:Nat) (off:outParam Nat) (ft:outParam TypeId):Prop where
 run:∃ fs f,(∀ w,(underlying t).run P w=.ok (.struct fs) w)/\fs[i]? =some f/\f.offset=off/\f.type=ft/\∃ k,k≠0/\∀ w,(sizeOf ft).run P w=.ok k w
variable{t:TypeId}
theorem bM {i off ft k:Nat} {fs:Array Field} (h:∀ w,(underlying t).run P w=.ok (.struct fs) w) (g:∀ w,(sizeOf ft).run P w=.ok (k+1) w) (e:fs[i]?.map (λf=>(f.offset,f.type))=some (off,ft)):wp P t i off ft:=by
 obtain ⟨f,h1,h2⟩:=iq.1 e
 cases h2
 exact ⟨_,f,h,h1,rfl,rfl,_,by omega,g⟩
class mD (P:Program) (t:TypeId) (z:outParam Value) (size bytes:outParam Nat):Prop where
 ajy:(P.info? t).map (λi=>(i.zero,i.size,i.bytes))=some (some z,size,bytes)
class li (P:Program) (f:FuncId):Prop where
 run:∀ args w,(callFunc f args).run P w=.ok (.enter f args) w
section
variable {r:Option Nat} {n:Nat} {P:Program} {ops:Array Oper} {rest:List Oper} {K:St->Prop} {Q:Exit->St->Prop} {D:List Deferred} {E:cZ} {L L':List HP} {d:Nat} {ty:TypeId} {pos:String} {af:Array Edge}
theorem O (h:K s):TL r n P ops [] s K:=λW a w hh=>⟨rfl,s,h,hh⟩
theorem ma (wU:o.dst=some d) (hd:Nat.blt d n=true) (hg:o.guard=none) (hnd:∀ c,o.op≠.defer c) 
  (h:∀ W a w,Holds n W ⟨D,E,L⟩ a w->∃ v w' L',(execOp a.eval o).run P w=.ok (.value v) w'/\bH W w' L'/\TL r n P ops rest ⟨D,(d,v)::E,L'⟩ K):TL r n P ops (o::rest) ⟨D,E,L⟩ K:=λW a w hh=>by
 obtain ⟨v,w',L',hr,hs,hk⟩:=h W a w hh
 refine wpListIn_plain hg λK' hK=>⟨λ_ _=>trivial, ?_⟩
 rw [Oper.semAt_eq _ _ _ hnd,hr]
 refine hK _ _ ?_
 rw [wU]
 exact hk W _ _ ⟨hh.1.put (by simpa using hd) v,hs⟩
theorem yo (wU:o.dst=none) (hg:o.guard=none) (hnd:∀ c,o.op≠.defer c) 
  (h:∀ W a w,Holds n W ⟨D,E,L⟩ a w->∃ x w' L',(execOp a.eval o).run P w=.ok x w'/\(x=.skip\/∃ v,x=.value v)/\bH W w' L'/\TL r n P ops rest ⟨D,E,L'⟩ K):TL r n P ops (o::rest) ⟨D,E,L⟩ K:=λW a w hh=>by
 obtain ⟨x,w',L',hr,hx,hs,hk⟩:=h W a w hh
 refine wpListIn_plain hg λK' hK=>⟨λ_ _=>trivial, ?_⟩
 rw [Oper.semAt_eq _ _ _ hnd,hr]
 rcases hx with rfl | ⟨v,rfl⟩ <;> refine hK _ _ ?_ <;> rw [wU] <;> exact hk W _ _ ⟨hh.1,hs⟩
theorem af6 {dst:Option Tmp} {op:Op} {j g:Nat} {want:Bool} (hy:(ops[j]?).bind (·.dst)=some g) (hl:dM E g=some (.bool want)) 
  (h:TL r n P ops (⟨dst,op,ty,pos,af,none⟩::rest) ⟨D,E,L⟩ K):TL r n P ops (⟨dst,op,ty,pos,af,some (j,want)⟩::rest) ⟨D,E,L⟩ K:=λW a w hh=>by
 have hw:Region.wanted ⟨dst,op,ty,pos,af,some (j,want)⟩ (yielded ops a.tmps)=true:=by
  simp [Region.wanted,yielded,hy,hh.1.get g _ hl]
 have h1:=h W a w hh
 simp only [wpListIn,Region.wanted,if_true] at h1
 simp only [wpListIn,hw,if_true]
 exact h1
theorem aew {op:Op} {j g:Nat} {want b:Bool} (hd:Nat.blt d n=true) (hy:(ops[j]?).bind (·.dst)=some g) (hl:dM E g=some (.bool b)) (hb:(b==want)=false) 
  (h:TL r n P ops rest ⟨D,(d,undef)::E,L⟩ K):TL r n P ops (⟨some d,op,ty,pos,af,some (j,want)⟩::rest) ⟨D,E,L⟩ K:=λW a w hh=>by
 have hw:Region.wanted ⟨some d,op,ty,pos,af,some (j,want)⟩ (yielded ops a.tmps)=false:=by
  simp only [Region.wanted,yielded,hy,xU,hh.1.get g _ hl]
  simpa using hb
 simp only [wpListIn,hw,lM,if_false]
 exact ⟨λ_ _=>trivial,h W _ _ ⟨hh.1.put (by simpa using hd) _,hh.2⟩⟩
theorem nH (g:Nat) (hl:dM E g=some (.bool b)) (ht:b=true->TL r n P ops rest ⟨D,(g,.bool true)::E,L⟩ K) (hf:b=false->TL r n P ops rest ⟨D,(g,.bool false)::E,L⟩ K):TL r n P ops rest ⟨D,E,L⟩ K:=by
 have Vl:∀ a,j5 n D a E->j5 n D a ((g,.bool b)::E):=λa ha=>⟨ha.size,ha.defers,λi v hv=>by
  simp only [dM] at hv
  cases e:Nat.beq g i with
  | true=>
   rw [e] at hv
   simp only [cond_true,kH] at hv
   have:g=i:=qC e
   subst this; subst hv
   exact ha.get g _ hl
  | false=>
   rw [e] at hv
   exact ha.get i v hv⟩
 cases b with
 | true=>exact λW a w hh=>ht rfl W a w ⟨Vl a hh.1,hh.2⟩
 | false=>exact λW a w hh=>hf rfl W a w ⟨Vl a hh.1,hh.2⟩
theorem dl (g:Nat) [Decidable p] (hl:dM E g=some (.bool (decide p))) (ht:p->TL r n P ops rest ⟨D,(g,.bool true)::E,L⟩ K) (hf:¬ p->TL r n P ops rest ⟨D,(g,.bool false)::E,L⟩ K):TL r n P ops rest ⟨D,E,L⟩ K:=
 nH g hl (λe=>ht (o3 e)) (λe=>hf (of_decide_eq_false e))
theorem br (g:Nat) {v':Value} (hl:dM E g=some v) (e:v=v') (h:TL r n P ops rest ⟨D,(g,v')::E,L⟩ K):TL r n P ops rest ⟨D,E,L⟩ K:=by
 subst e
 refine λW a w hh=>h W a w ⟨⟨hh.1.size,hh.1.defers,λi u hv=> ?_⟩,hh.2⟩
 simp only [dM] at hv
 cases e:Nat.beq g i with
 | true=>
  rw [e] at hv
  simp only [cond_true,kH] at hv
  have:g=i:=qC e
  subst this; subst hv
  exact hh.1.get g _ hl
 | false=>
  rw [e] at hv
  exact hh.1.get i u hv
def Yl (P:Program) (E:cZ) (L:List HP) (op:Op) (ty:TypeId) (v:Value):Prop:=
 ∀ n D W a w dst pos af g,j5 n D a E->bH W w L->(execOp a.eval ⟨dst,op,ty,pos,af,g⟩).run P w=.ok (.value v) w
theorem Yl.val {op:Op} {v':Value} (h:Yl P E L op ty v) (e:v=v'):Yl P E L op ty v':=e ▸ h
theorem Yl.ay {op:Op} (h:Yl P E L' op ty v) (g:am L L'):Yl P E L op ty v:=λn D W a w dst pos af gd ha hs=>h n D W a w dst pos af gd ha (hs.ay g)
def uN:Op->Bool
 | .select _ _=>false
 | .defer _=>false
 | _=>true
theorem ab {op:Op} (hd:Nat.blt d n=true) (hp:uN op=true) (hy:Yl P E L op ty v) (h:TL r n P ops rest ⟨D,(d,v)::E,L⟩ K):TL r n P ops (⟨some d,op,ty,pos,af,none⟩::rest) ⟨D,E,L⟩ K:=
 ma rfl hd rfl (λc e=>by subst e; cases hp) λW a w hh=>⟨v,w,L,hy n D W a w _ _ _ _ hh.1 hh.2,hh.2,h⟩
variable{x:Operand}
theorem cU (hx:ev E x=some v):Yl P E L (.move x) ty (v):=λn D W a w dst pos af g ha hs=>by simp only [execOp,ha.ev hx]; rfl
theorem bT (hx:ev E x=some v):Yl P E L (.assign x) ty (v):=λn D W a w dst pos af g ha hs=>by simp only [execOp,ha.ev hx]; rfl
variable{y:Operand}
theorem d9 {u:Value} (hc:ev E c=some (.bool true)) (hx:ev E x=some u):Yl P E L (.pick c x y) ty (u):=λn D W a w dst pos af g ha hs=>by simp only [execOp,ha.ev hc,ha.ev hx]; rfl
theorem dG {u:Value} (hc:ev E c=some (.bool false)) (hy:ev E y=some u):Yl P E L (.pick c x y) ty (u):=λn D W a w dst pos af g ha hs=>by simp only [execOp,ha.ev hc,ha.ev hy]; rfl
theorem gc {ad:Addr} (hx:ev E x=some (.pointer (some ad))):Yl P E L (.nilCheck x) ty (.pointer (some ad)):=λn D W a w dst pos af g ha hs=>by simp only [execOp,ha.ev hx]; rfl
variable{vs:List Value}
theorem aO {i:Nat} (hx:ev E x=some (.tuple vs.toArray)) (hi:vs[i]? =some v):Yl P E L (.extract x i) ty (v):=λn D W a w dst pos af g ha hs=>by simp [execOp,ha.ev hx,Instr.extract,hi]
theorem gy {fn:Go.Fn} {amJ cs:List Operand} {us:List Value} (ha:ml E amJ=some us) (hc:ml E cs=some vs):Yl P E L (.makeFunc fn amJ.toArray cs.toArray) ty (.func fn us.toArray vs.toArray):=λn D W a w dst pos af g hv hs=>by simp [execOp,Instr.makeFunc,hv.ml ha,hv.ml hc]
theorem ff (hx:ev E x=some (.bool b)):Yl P E L (.unOp .not t x) ty (.bool (!b)):=λn D W a w dst pos af g ha hs=>by simp only [execOp,ha.ev hx]; rfl
theorem df (hx:ev E x=some (.bool true)):Yl P E L (.unOp .not t x) ty (.bool false):=ff hx
theorem j0 (hx:ev E x=some (.bool false)):Yl P E L (.unOp .not t x) ty (.bool true):=ff hx
theorem iF [Decidable p] (hx:ev E x=some (.bool (decide p))):Yl P E L (.unOp .not t x) ty (.bool (decide (¬ p))):=(ff hx).val (by rw [decide_not])
theorem sG {op:BinOp} {t':TypeId} {k:IntKind} {m l:Int} {dst:Option Tmp} {g:Option (Nat × Bool)} (hx:a.eval x=.int k m) (hy:a.eval y=.int k l):
  (execOp a.eval ⟨dst,.binOp op t x y t',ty,pos,af,g⟩).run P w=(do let v <- Go.binOp op t (.int k m) (.int k l); Sem.pure (Next.value v):Sem Next).run P w:=by
 simp only [execOp,hx,hy,eqGuard]
 cases op <;> rfl
theorem Cs {op:BinOp} {k:IntKind} {m l:Int} (h:op=.eql\/op=.neq\/op=.lss\/op=.leq\/op=.gtr\/op=.geq):Go.binOp op t (.int k m) (.int k l)=Op.intCmp op m l:=by
 rcases h with rfl | rfl | rfl | rfl | rfl | rfl <;> simp [Go.binOp]
section ints
variable {t t':TypeId} {x y:Operand} {k:IntKind} {m l:Int}
theorem ce (hx:ev E x=some (.int k m)) (hy:ev E y=some (.int k l)):Yl P E L (.binOp .eql t x y t') ty (.bool (decide (m=l))):=λn D W a w dst pos af g ha hs=>by rw [sG (ha.ev hx) (ha.ev hy),Cs (by simp)]; rfl
theorem dB (hx:ev E x=some (.int k m)) (hy:ev E y=some (.int k l)):Yl P E L (.binOp .neq t x y t') ty (.bool (decide (m≠l))):=λn D W a w dst pos af g ha hs=>by rw [sG (ha.ev hx) (ha.ev hy),Cs (by simp)]; simp only [Op.intCmp,decide_not]; rfl
theorem bU (hx:ev E x=some (.int k m)) (hy:ev E y=some (.int k l)):Yl P E L (.binOp .lss t x y t') ty (.bool (decide (m < l))):=λn D W a w dst pos af g ha hs=>by rw [sG (ha.ev hx) (ha.ev hy),Cs (by simp)]; rfl
theorem sX (hx:ev E x=some (.int k m)) (hy:ev E y=some (.int k l)):Yl P E L (.binOp .leq t x y t') ty (.bool (decide (m<=l))):=λn D W a w dst pos af g ha hs=>by rw [sG (ha.ev hx) (ha.ev hy),Cs (by simp)]; rfl
theorem eE (hx:ev E x=some (.int k m)) (hy:ev E y=some (.int k l)):Yl P E L (.binOp .gtr t x y t') ty (.bool (decide (l < m))):=λn D W a w dst pos af g ha hs=>by rw [sG (ha.ev hx) (ha.ev hy),Cs (by simp)]; rfl
theorem eV (hx:ev E x=some (.int k m)) (hy:ev E y=some (.int k l)):Yl P E L (.binOp .geq t x y t') ty (.bool (decide (l<=m))):=λn D W a w dst pos af g ha hs=>by rw [sG (ha.ev hx) (ha.ev hy),Cs (by simp)]; rfl
theorem af7 (hx:ev E x=some (.int k m)) (hy:ev E y=some (.int k l)):Yl P E L (.binOp .add t x y t') ty (.int k (k.wrap (m+l))):=λn D W a w dst pos af g ha hs=>by rw [sG (ha.ev hx) (ha.ev hy)]; simp [Go.binOp,Op.intArith]
theorem af8 (hx:ev E x=some (.int k m)) (hy:ev E y=some (.int k l)):Yl P E L (.binOp .sub t x y t') ty (.int k (k.wrap (m - l))):=λn D W a w dst pos af g ha hs=>by rw [sG (ha.ev hx) (ha.ev hy)]; simp [Go.binOp,Op.intArith]
theorem Ub (hx:ev E x=some (.int k m)) (hy:ev E y=some (.int k l)):Yl P E L (.binOp .mul t x y t') ty (.int k (k.wrap (m * l))):=λn D W a w dst pos af g ha hs=>by rw [sG (ha.ev hx) (ha.ev hy)]; simp [Go.binOp,Op.intArith]
theorem bE (hx:ev E x=some (.int .i64 m)) (hy:ev E y=some (.int .i64 l)) (hb:-9223372036854775808<=m+l/\m+l<=9223372036854775807):Yl P E L (.binOp .add t x y t') ty (.int .i64 (m+l)):=(af7 hx hy).val (by rw [IntWalk.i64_in _ hb])
theorem jb (hx:ev E x=some (.int .i64 m)) (hy:ev E y=some (.int .i64 l)) (hb:-9223372036854775808<=m - l/\m - l<=9223372036854775807):Yl P E L (.binOp .sub t x y t') ty (.int .i64 (m - l)):=(af8 hx hy).val (by rw [IntWalk.i64_in _ hb])
theorem C' (hx:ev E x=some (.int .i64 m)) (hy:ev E y=some (.int .i64 l)) (hb:-9223372036854775808<=m * l/\m * l<=9223372036854775807):Yl P E L (.binOp .mul t x y t') ty (.int .i64 (m * l)):=(Ub hx hy).val (by rw [IntWalk.i64_in _ hb])
theorem Nq (hx:ev E x=some (.int .i64 m)) (hy:ev E y=some (.int .i64 l)) (hb:0<=m/\m<=9223372036854775807/\1<=l):Yl P E L (.binOp .quo t x y t') ty (.int .i64 (m / l)):=λn D W a w dst pos af g ha hs=>by rw [sG (ha.ev hx) (ha.ev hy)]; simp only [Go.binOp,Op.intDiv]; rw [if_neg (by simp),if_neg (by omega),IntWalk.i64_quo _ _ hb]; rfl
theorem AC (hx:ev E x=some (.int k m)) (hy:ev E y=some (.int k l)) (hb:l≠0):Yl P E L (.binOp .rem t x y t') ty (.int k (m.tmod l)):=λn D W a w dst pos af g ha hs=>by rw [sG (ha.ev hx) (ha.ev hy)]; simp only [Go.binOp,Op.intDiv]; rw [if_neg (by simp),if_neg hb]; rfl
def sN (op:BinOp) (k:IntKind) (x y:Int):Int:=k.wrap ((match op with
 | .and=>BitVec.ofInt k.bits x &&& BitVec.ofInt k.bits y
 | .or=>BitVec.ofInt k.bits x ||| BitVec.ofInt k.bits y
 | .xor=>BitVec.ofInt k.bits x ^^^ BitVec.ofInt k.bits y
 | _=>BitVec.ofInt k.bits x &&& ~~~BitVec.ofInt k.bits y).toNat)
theorem tS {op:BinOp} (Gb:op=.and\/op=.or\/op=.xor\/op=.andNot) (hx:ev E x=some (.int k m)) (hy:ev E y=some (.int k l)):Yl P E L (.binOp op t x y t') ty (.int k (sN op k m l)):=λn D W a w dst pos af g ha hs=>by rw [sG (ha.ev hx) (ha.ev hy)]; rcases Gb with rfl | rfl | rfl | rfl <;> simp [Go.binOp,Op.intBits,sN] <;> rfl
variable{k':IntKind}
theorem Vm (hx:ev E x=some (.int k m)) (hy:ev E y=some (.int k' l)) (hb:0<=l):Yl P E L (.binOp .shl t x y t') ty (.int k (k.wrap (m * 2 ^ min l.toNat k.bits))):=λn D W a w dst pos af g ha hs=>by simp only [execOp,ha.ev hx,ha.ev hy,eqGuard,Go.binOp,Op.shift]; have h0:¬ l < 0:=(by omega); simp [h0]
theorem Da (hx:ev E x=some (.int k m)) (hy:ev E y=some (.int k' l)) (hb:0<=l):Yl P E L (.binOp .shr t x y t') ty (.int k (m.fdiv (2 ^ min l.toNat k.bits))):=λn D W a w dst pos af g ha hs=>by simp only [execOp,ha.ev hx,ha.ev hy,eqGuard,Go.binOp,Op.shift]; have h0:¬ l < 0:=(by omega); simp [h0]
theorem lO {src dst:TypeId} {ds:TypeDesc} [h1:dy P src ds] [h2:dy P dst (.int k')] (hx:ev E x=some (.int k m)):Yl P E L (.convert src dst x) ty (.int k' (k'.wrap m)):=λn D W a w dst pos af g ha hs=>by simp [execOp,ha.ev hx,convert,h1.run,h2.run,Conv.intToInt]
theorem HT {src dst:TypeId} {ds:TypeDesc} [h1:dy P src ds] [h2:dy P dst (.int k')] (hx:ev E x=some (.int k m)) (hb:k'.wrap m=m):Yl P E L (.convert src dst x) ty (.int k' m):=(lO hx).val (by rw [hb])
end ints
theorem aa {id:Nat} {l:List Oper} {y:Code} (h:TL r n P l.toArray l s (λs'=>T r n P y s' Q)):T r n P (.seq (.region id l.toArray false) y) s Q:=ar λW a w hh=>
 wpIn_region_lit (by
  have:=h W a w hh
  exact Ej (λe a' w' ⟨he,s',q,k⟩=>⟨s',by subst he; exact q,k⟩) _ a w this)
theorem aQ {id:Nat} {l:List Oper} (h:TL r n P l.toArray l s (λs'=>Q .normal s')):T r n P (.region id l.toArray false) s Q:=λW a w hh=>
 wpIn_region_lit (by
  have:=h W a w hh
  exact Ej (λe a' w' ⟨he,s',q,k⟩=>⟨s',by subst he; exact q,k⟩) _ a w this)
end
open Go
def wB:Nat->List Value->Option (List Value)
 | 0,_=>some []
 | k+1,x::l=>match wB k l with
  | some r=>some (x::r)
  | none=>none
 | _+1,[]=>none
def mg:Nat->Nat->List Value->Option (List Value)
 | 0,k,l=>wB k l
 | i+1,k,_::l=>mg i k l
 | _+1,_,[]=>none
def yE:List Value->List Value->Option (List Value)
 | l,[]=>some l
 | [],_::_=>none
 | _::l,v::vs=>match yE l vs with
  | some r=>some (v::r)
  | none=>none
def qh:Nat->List Value->List Value->Option (List Value)
 | 0,l,vs=>yE l vs
 | k+1,x::l,vs=>match qh k l vs with
  | some r=>some (x::r)
  | none=>none
 | _+1,[],_=>none
def kO:List Value->Nat->Option Value
 | [],_=>none
 | x::_,0=>some x
 | _::l,k+1=>kO l k
def mh:List Value->Bool
 | []=>true
 | v::l=>v.oneCell' && mh l
def rJ:Value->Option (List Value)
 | .agg cs=>some cs.toList
 | .tuple _=>none
 | v=>some [v]
def Bc:Nat->List Value->Option cZ
 | _,[]=>some []
 | i,v::vs=>match Bc (i+1) vs with
  | some E=>some ((i,v)::E)
  | none=>none
theorem Tn:∀ {k:Nat} {l vs:List Value},wB k l=some vs->vs=l.take k/\k<=l.length
 | 0,l,vs,h=>by simp [wB] at h; simp [h]
 | k+1,[],vs,h=>by cases h
 | k+1,x::l,vs,h=>by
  simp only [wB] at h
  cases e:wB k l with
  | none=>rw [e] at h; cases h
  | some r'=>
   rw [e] at h
   cases h
   obtain ⟨h1,h2⟩:=Tn e
   exact ⟨by simp [h1],by simpa using h2⟩
theorem CN:∀ {i k:Nat} {l vs:List Value},mg i k l=some vs->vs=(l.drop i).take k/\i+k<=l.length
 | 0,k,l,vs,h=>by
  obtain ⟨h1,h2⟩:=Tn (show wB k l=some vs by simpa [mg] using h)
  exact ⟨by simpa using h1,by omega⟩
 | i+1,k,[],vs,h=>by cases h
 | i+1,k,x::l,vs,h=>by
  obtain ⟨h1,h2⟩:=CN (show mg i k l=some vs by simpa [mg] using h)
  exact ⟨by simpa using h1,by simp; omega⟩
theorem To:∀ {l vs rs:List Value},yE l vs=some rs->rs=vs++l.drop vs.length/\vs.length<=l.length
 | l,[],rs,h=>by simp [yE] at h; simp [h]
 | [],_::_,rs,h=>by cases h
 | x::l,v::vs,rs,h=>by
  simp only [yE] at h
  cases e:yE l vs with
  | none=>rw [e] at h; cases h
  | some r'=>
   rw [e] at h
   cases h
   obtain ⟨h1,h2⟩:=To e
   exact ⟨by simp [h1],by simpa using h2⟩
theorem Ig:∀ {i:Nat} {l vs rs:List Value},qh i l vs=some rs->rs=l.take i++vs++l.drop (i+vs.length)/\i+vs.length<=l.length
 | 0,l,vs,rs,h=>by
  obtain ⟨h1,h2⟩:=To (show yE l vs=some rs by simpa [qh] using h)
  exact ⟨by simpa using h1,by omega⟩
 | i+1,[],vs,rs,h=>by cases h
 | i+1,x::l,vs,rs,h=>by
  simp only [qh] at h
  cases e:qh i l vs with
  | none=>rw [e] at h; cases h
  | some r'=>
   rw [e] at h
   cases h
   obtain ⟨h1,h2⟩:=Ig e
   refine ⟨?_,by simp; omega⟩
   rw [h1,show i+1+vs.length=(i+vs.length)+1 by omega]
   simp
theorem z8:∀ {l:List Value} {i:Nat} {v:Value},kO l i=some v->l[i]? =some v
 | [],_,_,h=>by cases h
 | x::l,0,v,h=>by simpa [kO] using h
 | x::l,k+1,v,h=>by simpa [kO] using z8 (show kO l k=some v by simpa [kO] using h)
theorem ED:∀ {l:List Value},mh l=true->∀ v∈l,v.oneCell'=true
 | [],_,v,hv=>by cases hv
 | x::l,h,v,hv=>by
  simp only [mh,kc] at h
  rcases ig.1 hv with rfl | hv
  ·exact h.1
  ·exact ED h.2 v hv
variable{cs:List Value}
theorem wd (h:rJ v=some cs):v.cells=cs.toArray:=by
 cases v <;> simp [rJ] at h <;> simp [Value.cells, <- h]
theorem Ly:∀ {vs:List Value} {i:Nat} {E:cZ},Bc i vs=some E->∀ j v,dM E j=some v->i<=j/\vs[j - i]? =some v
 | [],i,E,h,j,v,hv=>by simp [Bc] at h; subst h; cases hv
 | u::vs,i,E,h,j,v,hv=>by
  simp only [Bc] at h
  cases e:Bc (i+1) vs with
  | none=>rw [e] at h; cases h
  | some E'=>
   rw [e] at h
   cases h
   simp only [dM] at hv
   cases e2:Nat.beq i j with
   | true=>
    rw [e2] at hv
    have:i=j:=qC e2
    subst this
    simp only [cond_true,kH] at hv
    simp [hv]
   | false=>
    rw [e2] at hv
    obtain ⟨h1,h2⟩:=Ly e j v hv
    refine ⟨by omega, ?_⟩
    rw [show j - i=(j - (i+1))+1 by omega]
    simpa using h2
def cells (b:Nat) (l:List Value) (t:TypeId):HP:=own b (.cells l.toArray t (0,0))
def AE (M:Mem) (b o:Nat) (l:List Value):Prop:=∃ c t fr,M b=some (.cells c t fr)/\∀ j v,l[j]? =some v->c[o+j]? =some v
def row (b o:Nat) (l:List Value):HP:=nV (λM=>AE M b o l) (λhM ⟨c,t,fr,h,k⟩=>⟨c,t,fr,hM _ _ h,k⟩)
theorem bV.wC {p:HP} (h:∀ M k,p.holds M k->φ M):bV (p::L) φ:=λM m ⟨_,_,_,_,_,hp,_⟩=>h _ _ hp
variable{b i:Nat}
theorem rK {c:Array Value} {fr:Nat × Nat} (h:w.heap[b]? =some (.cells c t fr)):w.cell? ⟨b,i,none⟩=c[i]? :=by simp [World.cell?,h]
theorem Addr.add_plain (b o j:Nat):(⟨b,o,none⟩:Addr).add j=⟨b,o+j,none⟩:=by unfold Addr.add; split <;> simp_all
variable{j:Nat}{l:List Value}
theorem AE.cell {o:Nat} (h:AE M b o l) (hM:M.le (heapOf w)) (hj:l[j]? =some v):w.cell? ⟨b,o+j,none⟩=some v:=by
 obtain ⟨c,t,fr,hb,hc⟩:=h
 rw [rK (hM _ _ hb)]
 exact hc _ _ hj
theorem AE.cut {o:Nat} (k:Nat) (h:AE M b o l):AE M b (o+i) ((l.drop i).take k):=by
 obtain ⟨c,t,fr,hb,hc⟩:=h
 refine ⟨c,t,fr,hb,λj v hv=> ?_⟩
 rw [m8] at hv
 split at hv
 ·rw [qF] at hv
  rw [zR]
  exact hc _ _ hv
 ·cases hv
section
variable {r:Option Nat} {n:Nat} {P:Program} {ops:Array Oper} {rest:List Oper} {K:St->Prop} {Q:Exit->St->Prop} {D:List Deferred} {E:cZ} {L L':List HP} {d:Nat} {ty:TypeId} {pos:String} {af:Array Edge}
variable{o:World}
theorem bH.LX (h:bH o w (cells b l t::L)):w.heap[b]? =some (.cells l.toArray t (0,0)):=h.pX
theorem bH.cell (h:bH o w (cells b l t::L)) (hv:l[i]? =some v):w.cell? ⟨b,i,none⟩=some v:=by
 rw [rK h.LX]
 simpa using hv
variable{l':List Value}
theorem bH.setRow (h:bH o w (cells b l t::L)):bH o (w.setRow b l'.toArray) (cells b l' t::L):=by
 have hb:=h.LX
 refine bH.set h (y:=.cells l'.toArray t (0,0)) ?_ (λi hi=> ?_) rfl rfl rfl (by simp [World.setRow])
 ·simp only [World.setRow,qD,if_true,hb,qI]
 ·simp only [World.setRow,qD]
  rw [if_neg (Ne.symm hi)]
class fL (L:List HP) (b:Nat) (l:outParam (List Value)) (t:outParam TypeId) (R:outParam (List HP)):Prop where
 g:am L (cells b l t::R)
instance {p:HP} {L R:List HP} [h:fL L b l t R]:fL (p::L) b l t (p::R):=⟨(am.cons p h.g).trans (am.swap p _ R)⟩
instance {L:List HP}:fL (cells b l t::L) b l t L:=⟨am.refl _⟩
class Fe (L:List HP) (b o:Nat) (l:outParam (List Value)):Prop where
 k:bV L (λM=>AE M b o l)
variable{o:Nat}
instance {p:HP} {L:List HP} [h:Fe L b o l]:Fe (p::L) b o l:=⟨bV.tail h.k⟩
instance {L:List HP}:Fe (row b o l::L) b o l:=⟨bV.wC λ_ _ h=>h⟩
variable{x:Operand}
theorem bS (hd:Nat.blt d n=true) (hx:ev E x=some v) (hc:rJ v=some cs) (h:∀ b,TL r n P ops rest ⟨D,(d,.pointer (some ⟨b,0,none⟩))::E,cells b cs t::L⟩ K):
  TL r n P ops (⟨some d,.box t x,ty,pos,af,none⟩::rest) ⟨D,E,L⟩ K:=
 ma rfl hd rfl (λ_ e=>by cases e) λW a w hh=>⟨_,w.alloc (.cells cs.toArray t),_,by simp only [execOp,hh.1.ev hx,Instr.box,newVar,newRow,newObj,wd hc]; rfl,hh.2.alloc _,h w.heap.size⟩
theorem bB [hz:l_ P t v] (hd:Nat.blt d n=true) (hc:rJ v=some cs) (h:∀ b,TL r n P ops rest ⟨D,(d,.pointer (some ⟨b,0,none⟩))::E,cells b cs t::L⟩ K):
  TL r n P ops (⟨some d,.alloc t,ty,pos,af,none⟩::rest) ⟨D,E,L⟩ K:=
 ma rfl hd rfl (λ_ e=>by cases e) λW a w hh=>⟨_,w.alloc (.cells cs.toArray t),_,by
  simp only [execOp,Instr.alloc,Sem.run_bind,hz.run,Result.andThen_ok,newVar,newRow,newObj,wd hc]; rfl,hh.2.alloc _,h w.heap.size⟩
variable{ft:TypeId}
theorem dp {i b o off:Nat} [hf:wp P t i off ft] (hx:ev E x=some (.pointer (some ⟨b,o,none⟩))):Yl P E L (.fieldAddr t x i) ty (.pointer (some ⟨b,o+off,none⟩)):=λn D W a w dst pos af g ha hs=>by
 obtain ⟨fs,f,h1,h2,rfl,rfl,k,hk,h3⟩:=hf.run
 simp only [execOp,ha.ev hx,Instr.fieldAt,Sem.run_bind,h1,Result.andThen_ok,h2,Instr.sureAddr,Sem.run_pure,fieldPlace,h3,hk,if_false,Addr.add_plain]
theorem cp {i b o p off:Nat} [hf:wp P t i off ft] (hx:ev E x=some (.pointer (some ⟨b,o+p,none⟩))):Yl P E L (.fieldAddr t x i) ty (.pointer (some ⟨b,o+(p+off),none⟩)):=
 (dp hx).val (by rw [zR])
variable{ad:Addr}
theorem Ci [ht:iG P t false] (h:w.cell? ad=some v):(loadVar t ad).run P w=.ok v w:=by
 simp only [loadVar,Sem.run_bind,ht.run,Result.andThen_ok,lM,if_false,load,Sem.run,h]
variable{vs:List Value}
theorem Hj {k:Nat} [ht:iG P t true] [hs:hJ P t k] (hk:vs.length=k) (h:∀ j v,vs[j]? =some v->w.cell? ⟨b,o+j,none⟩=some v):
  (loadVar t ⟨b,o,none⟩).run P w=.ok (.agg vs.toArray) w:=by
 subst hk
 simp only [loadVar,Sem.run_bind,ht.run,Result.andThen_ok,if_true,hs.run,run_loadCells_list w ⟨b,o,none⟩ vs (λj v hv=>by rw [Addr.add_plain]; exact h j v hv),Sem.run_pure]
variable{tt:TypeId}
theorem bH.Tp {o:World} [ht:iG P tt false] (h:bH o w (cells b l t::L)) (hv:kO l i=some v):(loadVar tt ⟨b,i,none⟩).run P w=.ok v w:=
 Ci (h.cell (z8 hv))
theorem bH.Tq {o:World} {k:Nat} [ht:iG P tt true] [hs:hJ P tt k] (h:bH o w (cells b l t::L)) (hv:mg i k l=some vs):(loadVar tt ⟨b,i,none⟩).run P w=.ok (.agg vs.toArray) w:=by
 obtain ⟨e,hl⟩:=CN hv
 refine Hj (hk:= ?_) λj v hj=>h.cell ?_
 ·rw [e]; simp; omega
 ·rw [e,m8] at hj
  split at hj
  ·rw [qF] at hj; exact hj
  ·cases hj
variable{R:List HP}
theorem dY [ht:iG P t false] (hx:ev E x=some (.pointer (some ⟨b,i,none⟩))) [hc:fL L b l tt R] (hv:kO l i=some v):Yl P E L (.load t x) ty v:=λn D W a w dst pos af g ha hs=>by
 simp only [execOp,ha.ev hx,Instr.loadAt,Instr.sureAddr,Sem.run_bind,Sem.run_pure,Result.andThen_ok,bH.Tp (hs.ay hc.g) hv]
theorem kg [ht:iG P t true] [hz:hJ P t m] (hx:ev E x=some (.pointer (some ⟨b,i,none⟩))) [hc:fL L b l tt R] (hv:mg i m l=some vs):Yl P E L (.load t x) ty (.agg vs.toArray):=λn D W a w dst pos af g ha hs=>by
 simp only [execOp,ha.ev hx,Instr.loadAt,Instr.sureAddr,Sem.run_bind,Sem.run_pure,Result.andThen_ok,bH.Tq (hs.ay hc.g) hv]
theorem rG [ht:iG P t false] (hx:ev E x=some (.pointer (some ⟨b,o+j,none⟩))) [hc:Fe L b o l] (hv:kO l j=some v):Yl P E L (.load t x) ty v:=λn D W a w dst pos af g ha hs=>by
 obtain ⟨M,hM,hr⟩:=hs.uS hc.k
 simp only [execOp,ha.ev hx,Instr.loadAt,Instr.sureAddr,Sem.run_bind,Sem.run_pure,Result.andThen_ok,Ci (hr.cell hM (z8 hv))]
theorem uD [ht:iG P t true] [hz:hJ P t m] (hx:ev E x=some (.pointer (some ⟨b,o+j,none⟩))) [hc:Fe L b o l] (hv:mg j m l=some vs):Yl P E L (.load t x) ty (.agg vs.toArray):=λn D W a w dst pos af g ha hs=>by
 obtain ⟨M,hM,hr⟩:=hs.uS hc.k
 obtain ⟨e,hl⟩:=CN hv
 have gR:=Hj (P:=P) (t:=t) (w:=w) (b:=b) (o:=o+j) (vs:=vs) (k:=m) (hk:=by rw [e]; simp; omega) (λi v hi=>(hr.cut m).cell hM (by rw [<- e]; exact hi))
 simp only [execOp,ha.ev hx,Instr.loadAt,Instr.sureAddr,Sem.run_bind,Sem.run_pure,Result.andThen_ok,gR]
theorem Zd {o:World} [hs:hJ P t m] (h:bH o w (cells b l tt::L)) (hp:rJ v=some vs) (hm:Nat.beq vs.length m=true) (h1:mh vs=true) (hl:qh i l vs=some l'):
  (storeVar t ⟨b,i,none⟩ v).run P w=.ok () (w.setRow b l'.toArray):=by
 have xg:vs.length=m:=qC hm
 obtain ⟨e,gt⟩:=Ig hl
 simp only [storeVar,wd hp,Sem.run_bind,hs.run,Result.andThen_ok,qH,xg,ne_eq,not_true_eq_false,if_false,Sem.run_pure]
 have:=run_storeCells_at P b i tt vs 0 l.toArray w h.LX (by simpa using gt) (ED h1)
 simp only [sD] at this
 rw [e]
 simpa using this
variable{y:Operand}
theorem H5 [hz:hJ P t m] (hx:ev E x=some (.pointer (some ⟨b,i,none⟩))) (hy:ev E y=some v) [hc:fL L b l tt R] (hp:rJ v=some vs) 
  (hm:Nat.beq vs.length m=true) (h1:mh vs=true) (hl:qh i l vs=some l') (h:TL r n P ops rest ⟨D,E,cells b l' tt::R⟩ K):TL r n P ops (⟨none,.store t x y,ty,pos,af,none⟩::rest) ⟨D,E,L⟩ K:=
 yo rfl rfl (λ_ e=>by cases e) λW a w hh=>by
  have jN:=hh.2.ay hc.g
  refine ⟨.skip,w.setRow b l'.toArray,cells b l' tt::R, ?_,.inl rfl,jN.setRow,h⟩
  simp only [execOp,hh.1.ev hx,hh.1.ev hy,Instr.storeAt,Instr.sureAddr,Sem.run_bind,Sem.run_pure,Result.andThen_ok,Zd jN hp hm h1 hl]
theorem aaf {i off m:Nat} [hf:wp P t i off ft] [hg:iG P ft true] [hz:hJ P ft m] (hx:ev E x=some (.agg l.toArray)) (hv:mg off m l=some vs):Yl P E L (.field t x i) ty (.agg vs.toArray):=λn D W a w dst pos af g ha hs=>by
 obtain ⟨fs,f,h1,h2,rfl,rfl,k,hk,h3⟩:=hf.run
 obtain ⟨e,hl⟩:=CN hv
 have e2:l.toArray.extract f.offset (f.offset+m)=vs.toArray:=by
  rw [e]; simp
 simp only [execOp,ha.ev hx,Instr.field,Sem.run_bind,h1,Result.andThen_ok,h2,asAgg,Sem.run_pure,part,hg.run,if_true,hz.run,e2]
def aF (P:Program) (fn:Func) (Φ:Value->List HP->Prop):Exit->St->Prop
 | .ret,s=>s.D=[]/\∃ v L',Φ v L'/\∀ n W a w,Holds n W s a w->bH W w L'/\(results fn a.tmps).run P w=.ok v w
 | .normal,s=>s.D=[]/\∃ v L',Φ v L'/\∀ n W a w,Holds n W s a w->bH W w L'/\(results fn a.tmps).run P w=.ok v w
 | _,_=>False
theorem aH {fn:Func} {c:Code} {args:List Value} {E0:cZ} (hf:P.funcs[f]? =some fn) (hb:fn.body=some c) (hn:fn.ntmps=n) (hE:Bc 0 args=some E0) (hl:Nat.ble args.length n=true) 
  (h:T none n P c ⟨[],E0,L⟩ (aF P fn Φ)):Fn P f args.toArray L Φ:=λW w hs=>by
 refine callsIn_wide.1 (callsIn_of_wp (F:=Fence.wide) (n:=0) hf hb trivial ?_)
 have ew:args.length<=n:=by simpa using hl
 have AF:j5 n [] {tmps:=args.toArray++Array.replicate (fn.ntmps - args.toArray.size) undef,defers:=[]} E0:=by
  refine ⟨by simp [hn]; omega,rfl,λj v hv=> ?_⟩
  obtain ⟨_,h2⟩:=Ly hE j v hv
  simp only [Nat.sub_zero] at h2
  have hj:j < args.length:=(dX.1 h2).1
  simp [Array.getElem?_append,hj]
  simpa [cj hj] using h2
 refine wpIn_mono (h W _ w ⟨AF,hs⟩) ?_
 rintro e a' w' ⟨s',q,hk⟩
 cases e <;> simp only [aF] at q
 case normal=>
  obtain ⟨hD,v,L',hΦ,hr⟩:=q
  obtain ⟨h1,h2⟩:=hr _ _ _ _ hk
  exact ⟨hk.1.defers.trans hD,v,h2,v,L',rfl,hΦ,h1⟩
 case ret=>
  obtain ⟨hD,v,L',hΦ,hr⟩:=q
  obtain ⟨h1,h2⟩:=hr _ _ _ _ hk
  exact ⟨hk.1.defers.trans hD,v,h2,v,L',rfl,hΦ,h1⟩
def E4 (tmps:Array Value):ResultVar->Sem Value
 | .tmp t=>Pure.pure (tmps.getD t undef)
 | .cell c t=>do loadVar t (<- asAddr (tmps.getD c undef))
theorem HI (fn:Func) (tmps:Array Value):results fn tmps=(do let vs <- fn.results.mapM (E4 tmps); Pure.pure (if h:vs.size=1 then vs[0] else .tuple vs)):=rfl
def bf (P:Program) (E:cZ) (L:List HP) (x:ResultVar) (v:Value):Prop:=
 ∀ n D W a w,Holds n W ⟨D,E,L⟩ a w->(E4 a.tmps x).run P w=.ok v w
theorem bf.tmp {t:Tmp} (h:dM E t=some v):bf P E L (.tmp t) v:=λn D W a w hh=>by
 have:=hh.1.get t v h
 simp [E4,this]
theorem bf.cell {c:Nat} [iG P t false] (h:dM E c=some (.pointer (some ⟨b,0,none⟩))) [hc:fL L b l tt R] (hv:kO l 0=some v):bf P E L (.cell c t) v:=λn D W a w hh=>by
 have:=hh.1.get c _ h
 simp only [E4,sA,this,vT,asAddr,Sem.run_bind,Sem.run_pure,Result.andThen_ok,bH.Tp (hh.2.ay hc.g) hv]
theorem bf.agg {c:Nat} [iG P t true] [hJ P t m] (h:dM E c=some (.pointer (some ⟨b,0,none⟩))) [hc:fL L b l tt R] (hv:mg 0 m l=some vs):bf P E L (.cell c t) (.agg vs.toArray):=λn D W a w hh=>by
 have:=hh.1.get c _ h
 simp only [E4,sA,this,vT,asAddr,Sem.run_bind,Sem.run_pure,Result.andThen_ok,bH.Tq (hh.2.ay hc.g) hv]
section rets
variable {fn:Func} {Φ:Value->List HP->Prop} {x y z:ResultVar} {u v t:Value} {e:Exit}
theorem aiC (he:e=.ret\/e=.normal) (hr:fn.results=#[]) (h:Φ (.tuple #[]) L):aF P fn Φ e ⟨[],E,L⟩:=by
 have key:∃ v L',Φ v L'/\∀ n W a w,Holds n W ⟨[],E,L⟩ a w->bH W w L'/\(results fn a.tmps).run P w=.ok v w:=⟨_,L,h,λn W a w hh=>⟨hh.2,by simp [results,hr]⟩⟩
 rcases he with rfl | rfl <;> exact ⟨rfl,key⟩
theorem aiD (he:e=.ret\/e=.normal) (hr:fn.results=#[x]) (hx:bf P E L x v) (h:Φ v L):aF P fn Φ e ⟨[],E,L⟩:=by
 have key:∃ v L',Φ v L'/\∀ n W a w,Holds n W ⟨[],E,L⟩ a w->bH W w L'/\(results fn a.tmps).run P w=.ok v w:=⟨_,L,h,λn W a w hh=>⟨hh.2,by
  rw [HI,hr]; simp [hx n [] W a w hh]⟩⟩
 rcases he with rfl | rfl <;> exact ⟨rfl,key⟩
theorem aiE (he:e=.ret\/e=.normal) (hr:fn.results=#[x,y]) (hx:bf P E L x u) (hy:bf P E L y v) (h:Φ (.tuple #[u,v]) L):aF P fn Φ e ⟨[],E,L⟩:=by
 have key:∃ v L',Φ v L'/\∀ n W a w,Holds n W ⟨[],E,L⟩ a w->bH W w L'/\(results fn a.tmps).run P w=.ok v w:=⟨_,L,h,λn W a w hh=>⟨hh.2,by
  rw [HI,hr]; simp [hx n [] W a w hh,hy n [] W a w hh]⟩⟩
 rcases he with rfl | rfl <;> exact ⟨rfl,key⟩
theorem aiF (he:e=.ret\/e=.normal) (hr:fn.results=#[x,y,z]) (hx:bf P E L x u) (hy:bf P E L y v) (hz:bf P E L z t) (h:Φ (.tuple #[u,v,t]) L):aF P fn Φ e ⟨[],E,L⟩:=by
 have key:∃ v L',Φ v L'/\∀ n W a w,Holds n W ⟨[],E,L⟩ a w->bH W w L'/\(results fn a.tmps).run P w=.ok v w:=⟨_,L,h,λn W a w hh=>⟨hh.2,by
  rw [HI,hr]; simp [hx n [] W a w hh,hy n [] W a w hh,hz n [] W a w hh]⟩⟩
 rcases he with rfl | rfl <;> exact ⟨rfl,key⟩
theorem aF.ay (g:am L L') (h:aF P fn Φ e ⟨D,E,L'⟩):aF P fn Φ e ⟨D,E,L⟩:=by
 cases e <;> simp only [aF] at h ⊢
 case ret=>exact ⟨h.1,let ⟨v,L1,a,b⟩:=h.2; ⟨v,L1,a,λn W a w hh=>b n W a w (hh.ay g)⟩⟩
 case normal=>exact ⟨h.1,let ⟨v,L1,a,b⟩:=h.2; ⟨v,L1,a,λn W a w hh=>b n W a w (hh.ay g)⟩⟩
end rets
theorem Fn.VR {args:Array Value} (h:Fn P f args L Φ) (hs:bH W w L):CallsIn (Fw r) 0 P f args w λe w'=>∃ v L',e=.returned v/\Φ v L'/\bH W w' L':=callsIn_wide.2 (h W w hs)
theorem Tr {op:Op} {args:Array Value} (hd:Nat.blt d n=true) (hnd:∀ c,op≠.defer c) (Gb:∀ a w,j5 n D a E->(execOp a.eval ⟨some d,op,ty,pos,af,none⟩).run P w=.ok (.enter f args) w) 
  (spec:Fn P f args L Φ) (h:∀ v L',Φ v L'->TL r n P ops rest ⟨D,(d,v)::E,L'⟩ K):TL r n P ops (⟨some d,op,ty,pos,af,none⟩::rest) ⟨D,E,L⟩ K:=λW a w hh=>by
 refine wpListIn_plain rfl λK' hK=>⟨λ_ _=>trivial, ?_⟩
 rw [Oper.semAt_eq _ _ _ hnd,Gb a w hh.1]
 refine ⟨λhx=>by simp at hx,(spec.VR hh.2).mono ?_⟩
 rintro e w' ⟨v,L',rfl,hΦ,hs⟩
 exact hK _ _ (h v L' hΦ W _ _ ⟨hh.1.put (by simpa using hd) v,hs⟩)
variable{ts:Array TypeId}
theorem aex [hc:li P f] {xs:List Operand} {dst:Option Tmp} (ha:j5 n D a E) (hx:ml E xs=some vs):
  (execOp a.eval ⟨dst,.call {callee:=.value (.func f),args:=xs.toArray,argTypes:=ts},ty,pos,af,none⟩).run P w=.ok (.enter f vs.toArray) w:=by
 simp [execOp,resolve,invoke,Act.eval,Deferred.ofValue,ha.ml hx,hc.run]
theorem aJ [hc:li P f] {xs:List Operand} (hd:Nat.blt d n=true) (hx:ml E xs=some vs) (spec:Fn P f vs.toArray L Φ) (h:∀ v L',Φ v L'->TL r n P ops rest ⟨D,(d,v)::E,L'⟩ K):
  TL r n P ops (⟨some d,.call {callee:=.value (.func f),args:=xs.toArray,argTypes:=ts},ty,pos,af,none⟩::rest) ⟨D,E,L⟩ K:=
 Tr hd (λ_ e=>by cases e) (λa w ha=>aex ha hx) spec h
variable{fs:List Value}
theorem aag [hc:li P f] {xs:List Operand} {dst:Option Tmp} (ha:j5 n D a E) (hf:ev E c=some (.func (.func f) fs.toArray cs.toArray)) (hx:ml E xs=some vs):
  (execOp a.eval ⟨dst,.call {callee:=.value c,args:=xs.toArray,argTypes:=ts},ty,pos,af,none⟩).run P w=.ok (.enter f (fs++vs++cs).toArray) w:=by
 simp [execOp,resolve,invoke,ha.ev hf,Deferred.ofValue,ha.ml hx,hc.run]
theorem jx [hc:li P f] {xs:List Operand} (hd:Nat.blt d n=true) (hf:ev E c=some (.func (.func f) fs.toArray cs.toArray)) (hx:ml E xs=some vs) (spec:Fn P f (fs++vs++cs).toArray L Φ) 
  (h:∀ v L',Φ v L'->TL r n P ops rest ⟨D,(d,v)::E,L'⟩ K):TL r n P ops (⟨some d,.call {callee:=.value c,args:=xs.toArray,argTypes:=ts},ty,pos,af,none⟩::rest) ⟨D,E,L⟩ K:=
 Tr hd (λ_ e=>by cases e) (λa w ha=>aag ha hf hx) spec h
theorem aiG (hd:Nat.blt d n=true) (hx:ev E x=some v) (h:TL r n P ops rest ⟨D,(d,v)::E,L⟩ K):TL r n P ops (⟨some d,.move x,ty,pos,af,none⟩::rest) ⟨D,E,L⟩ K:=ab hd rfl (cU hx) h
theorem aiH (hd:Nat.blt d n=true) (hx:ev E x=some v) (h:TL r n P ops rest ⟨D,(d,v)::E,L⟩ K):TL r n P ops (⟨some d,.assign x,ty,pos,af,none⟩::rest) ⟨D,E,L⟩ K:=ab hd rfl (bT hx) h
theorem aiI (hd:Nat.blt d n=true) (hx:ev E x=some (.pointer (some ad))) (h:TL r n P ops rest ⟨D,(d,.pointer (some ad))::E,L⟩ K):TL r n P ops (⟨some d,.nilCheck x,ty,pos,af,none⟩::rest) ⟨D,E,L⟩ K:=ab hd rfl (gc hx) h
theorem aiJ {i b o off:Nat} [hf:wp P t i off ft] (hd:Nat.blt d n=true) (hx:ev E x=some (.pointer (some ⟨b,o,none⟩))) (h:TL r n P ops rest ⟨D,(d,.pointer (some ⟨b,o+off,none⟩))::E,L⟩ K):TL r n P ops (⟨some d,.fieldAddr t x i,ty,pos,af,none⟩::rest) ⟨D,E,L⟩ K:=ab hd rfl (dp hx) h
theorem aiK [ht:iG P t false] (hd:Nat.blt d n=true) (hx:ev E x=some (.pointer (some ⟨b,i,none⟩))) [hc:fL L b l tt R] (hv:kO l i=some v) (h:TL r n P ops rest ⟨D,(d,v)::E,L⟩ K):TL r n P ops (⟨some d,.load t x,ty,pos,af,none⟩::rest) ⟨D,E,L⟩ K:=ab hd rfl (dY hx hv) h
theorem ahu [ht:iG P t true] [hz:hJ P t m] (hd:Nat.blt d n=true) (hx:ev E x=some (.pointer (some ⟨b,i,none⟩))) [hc:fL L b l tt R] (hv:mg i m l=some vs) (h:TL r n P ops rest ⟨D,(d,.agg vs.toArray)::E,L⟩ K):TL r n P ops (⟨some d,.load t x,ty,pos,af,none⟩::rest) ⟨D,E,L⟩ K:=ab hd rfl (kg hx hv) h
variable{u:Value}
theorem aiL (hd:Nat.blt d n=true) (hc:ev E c=some (.bool true)) (hx:ev E x=some u) (h:TL r n P ops rest ⟨D,(d,u)::E,L⟩ K):TL r n P ops (⟨some d,.pick c x y,ty,pos,af,none⟩::rest) ⟨D,E,L⟩ K:=ab hd rfl (d9 hc hx) h
theorem aiM (hd:Nat.blt d n=true) (hc:ev E c=some (.bool false)) (hx:ev E y=some u) (h:TL r n P ops rest ⟨D,(d,u)::E,L⟩ K):TL r n P ops (⟨some d,.pick c x y,ty,pos,af,none⟩::rest) ⟨D,E,L⟩ K:=ab hd rfl (dG hc hx) h
theorem aB [hc:li P f] {xs:List Operand} {V:Value} {M:List HP} (hd:Nat.blt d n=true) (hx:ml E xs=some vs) (spec:Fn P f vs.toArray L (λv L'=>v=V/\L'=M)) (h:TL r n P ops rest ⟨D,(d,V)::E,M⟩ K):
  TL r n P ops (⟨some d,.call {callee:=.value (.func f),args:=xs.toArray,argTypes:=ts},ty,pos,af,none⟩::rest) ⟨D,E,L⟩ K:=
 aJ hd hx spec (by rintro _ _ ⟨rfl,rfl⟩; exact h)
def oB {α:Type} (c:Bool) (o:Option α):Option α:=bif c then o else none
theorem lz {α:Type} {c:Bool} {o:Option α} {v:α} (h:oB c o=some v):c=true/\o=some v:=by
 cases c with
 | true=>exact ⟨rfl,h⟩
 | false=>cases h
def WD (E:cZ) (c x y:Operand):Option Value:=match ev E c with
 | some (.bool b)=>bif b then ev E x else ev E y
 | _=>none
def Jt (n d:Nat) (ops:Array Oper) (E:cZ) (j:Nat) (want:Bool):Bool:=Nat.blt d n && (match (ops[j]?).bind (·.dst) with
 | some g=>(match dM E g with
  | some (.bool b)=>b !=want
  | _=>false)
 | none=>false)
def Ju (ops:Array Oper) (E:cZ) (j:Nat) (want:Bool):Bool:=match (ops[j]?).bind (·.dst) with
 | some g=>(match dM E g with
  | some (.bool b)=>b==want
  | _=>false)
 | none=>false
theorem Vn {n d:Nat} {ops:Array Oper} {E:cZ} {want:Bool} (h:Jt n d ops E j want=true):Nat.blt d n=true/\∃ g b,(ops[j]?).bind (·.dst)=some g/\dM E g=some (.bool b)/\(b==want)=false:=by
 unfold Jt at h
 rw [kc] at h
 refine ⟨h.1, ?_⟩
 have h2:=h.2
 cases hg:(ops[j]?).bind (·.dst) with
 | none=>rw [hg] at h2; cases h2
 | some g=>
  rw [hg] at h2
  dsimp only at h2
  split at h2
  ·rename_i b hb
   exact ⟨g,b,rfl,hb,by revert h2; cases b <;> cases want <;> decide⟩
  ·cases h2
theorem Vo {ops:Array Oper} {E:cZ} {want:Bool} (h:Ju ops E j want=true):∃ g,(ops[j]?).bind (·.dst)=some g/\dM E g=some (.bool want):=by
 unfold Ju at h
 cases hg:(ops[j]?).bind (·.dst) with
 | none=>rw [hg] at h; cases h
 | some g=>
  rw [hg] at h
  dsimp only at h
  split at h
  ·rename_i b hb
   obtain rfl:b=want:=by revert h; cases b <;> cases want <;> decide
   exact ⟨g,rfl,hb⟩
  ·cases h
def ON (ov:Option Value) (m i:Nat) (l:List Value):Option (List Value):=ov.bind λv=>(rJ v).bind λvs=>bif Nat.beq vs.length m && mh vs then qh i l vs else none
theorem aiN {ov:Option Value} (h:ON ov m i l=some l'):∃ v vs,ov=some v/\rJ v=some vs/\Nat.beq vs.length m=true/\mh vs=true/\qh i l vs=some l':=by
 unfold ON at h
 obtain ⟨v,h1,h2⟩:=fK.1 h
 obtain ⟨vs,h3,h4⟩:=fK.1 h2
 cases hb:Nat.beq vs.length m && mh vs with
 | false=>rw [hb] at h4; cases h4
 | true=>
  rw [hb] at h4
  rw [kc] at hb
  exact ⟨v,vs,h1,h3,hb.1,hb.2,h4⟩
theorem Y (h0:oB (Nat.blt d n) (ev E x)=some v) (h:TL r n P ops rest ⟨D,(d,v)::E,L⟩ K):TL r n P ops (⟨some d,.move x,ty,pos,af,none⟩::rest) ⟨D,E,L⟩ K:=aiG (lz h0).1 (lz h0).2 h
theorem ae (h0:oB (Nat.blt d n) (ev E x)=some v) (h:TL r n P ops rest ⟨D,(d,v)::E,L⟩ K):TL r n P ops (⟨some d,.assign x,ty,pos,af,none⟩::rest) ⟨D,E,L⟩ K:=aiH (lz h0).1 (lz h0).2 h
theorem aS (h0:oB (Nat.blt d n) (ev E x)=some (.pointer (some ad))) (h:TL r n P ops rest ⟨D,(d,.pointer (some ad))::E,L⟩ K):TL r n P ops (⟨some d,.nilCheck x,ty,pos,af,none⟩::rest) ⟨D,E,L⟩ K:=aiI (lz h0).1 (lz h0).2 h
theorem ao {i b o off:Nat} [hf:wp P t i off ft] (h0:oB (Nat.blt d n) (ev E x)=some (.pointer (some ⟨b,o,none⟩))) (h:TL r n P ops rest ⟨D,(d,.pointer (some ⟨b,o+off,none⟩))::E,L⟩ K):TL r n P ops (⟨some d,.fieldAddr t x i,ty,pos,af,none⟩::rest) ⟨D,E,L⟩ K:=aiJ (lz h0).1 (lz h0).2 h
theorem ax [ht:iG P t false] (h0:oB (Nat.blt d n) (ev E x)=some (.pointer (some ⟨b,i,none⟩))) [hc:fL L b l tt R] (hv:kO l i=some v) (h:TL r n P ops rest ⟨D,(d,v)::E,L⟩ K):TL r n P ops (⟨some d,.load t x,ty,pos,af,none⟩::rest) ⟨D,E,L⟩ K:=aiK (lz h0).1 (lz h0).2 hv h
theorem bD [ht:iG P t true] [hz:hJ P t m] (h0:oB (Nat.blt d n) (ev E x)=some (.pointer (some ⟨b,i,none⟩))) [hc:fL L b l tt R] (hv:mg i m l=some vs) (h:TL r n P ops rest ⟨D,(d,.agg vs.toArray)::E,L⟩ K):TL r n P ops (⟨some d,.load t x,ty,pos,af,none⟩::rest) ⟨D,E,L⟩ K:=ahu (lz h0).1 (lz h0).2 hv h
theorem aA (h0:oB (Nat.blt d n) (WD E c x y)=some u) (h:TL r n P ops rest ⟨D,(d,u)::E,L⟩ K):TL r n P ops (⟨some d,.pick c x y,ty,pos,af,none⟩::rest) ⟨D,E,L⟩ K:=by
 obtain ⟨hd,hp⟩:=lz h0
 unfold WD at hp
 split at hp
 ·rename_i b hb
  cases b with
  | true=>exact aiL hd hb hp h
  | false=>exact aiM hd hb hp h
 ·cases hp
theorem ah {op:Op} {want:Bool} (h0:Jt n d ops E j want=true) (h:TL r n P ops rest ⟨D,(d,undef)::E,L⟩ K):TL r n P ops (⟨some d,op,ty,pos,af,some (j,want)⟩::rest) ⟨D,E,L⟩ K:=by
 obtain ⟨hd,g,b,h1,h2,h3⟩:=Vn h0
 exact aew hd h1 h2 h3 h
theorem aj {dst:Option Tmp} {op:Op} {want:Bool} (h0:Ju ops E j want=true) (h:TL r n P ops (⟨dst,op,ty,pos,af,none⟩::rest) ⟨D,E,L⟩ K):TL r n P ops (⟨dst,op,ty,pos,af,some (j,want)⟩::rest) ⟨D,E,L⟩ K:=by
 obtain ⟨g,h1,h2⟩:=Vo h0
 exact af6 h1 h2 h
theorem aE [hz:hJ P t m] (hx:ev E x=some (.pointer (some ⟨b,i,none⟩))) [hc:fL L b l tt R] (h0:ON (ev E y) m i l=some l') (h:TL r n P ops rest ⟨D,E,cells b l' tt::R⟩ K):TL r n P ops (⟨none,.store t x y,ty,pos,af,none⟩::rest) ⟨D,E,L⟩ K:=by
 obtain ⟨v,vs,h1,h2,h3,h4,h5⟩:=aiN h0
 exact H5 hx h1 h2 h3 h4 h5 h
theorem fd {inst:Decidable p} (g:Nat) (hl:dM E g=some (.bool (@decide p inst))) (hp:p) (h:TL r n P ops rest ⟨D,(g,.bool true)::E,L⟩ K):TL r n P ops rest ⟨D,E,L⟩ K:=br g hl (bi Value.bool (dV hp)) h
theorem dx {inst:Decidable p} (g:Nat) (hl:dM E g=some (.bool (@decide p inst))) (hp:¬ p) (h:TL r n P ops rest ⟨D,(g,.bool false)::E,L⟩ K):TL r n P ops rest ⟨D,E,L⟩ K:=br g hl (bi Value.bool (cJ hp)) h
theorem aV (g:Nat) (v:Value) (hl:dM E g=some v) (h:TL r n P ops rest ⟨D,(g,v)::E,L⟩ K):TL r n P ops rest ⟨D,E,L⟩ K:=br g hl rfl h
theorem cz (g:Nat) (hl:dM E g=some (.int .i64 ((i:Int)+1))) (h:TL r n P ops rest ⟨D,(g,.int .i64 ((i+1:Nat):Int))::E,L⟩ K):TL r n P ops rest ⟨D,E,L⟩ K:=br g hl rfl h
end
open Go
def C3 (o:Oper):List Nat:=(o.after.toList.filter (Region.binds .any)).map (·.on)
def yv (B:List Nat):List Nat->Nat
 | []=>0
 | e::r=>Nat.lor (Nat.lor (2 ^ e) (B.getD e 0)) (yv B r)
def wD (X:List (Nat × Nat)) (j:Nat) (o:Oper):List Nat:=C3 o++(X.filter λe=>Nat.beq e.2 j).map (·.1)
def rL (X:List (Nat × Nat)) (B:List Nat):List Oper->Nat->Bool
 | [],_=>true
 | o::r,j=>(B.getD j 0==yv B (wD X j o)) && (C3 o).all (λe=>Nat.blt e j) && uN o.op && rL X B r (j+1)
def CO (X:List (Nat × Nat)) (ops:Array Oper) (B tl:List Nat):List Nat->List (Nat × Bool)->Bool
 | _,[]=>true
 | done,(i,fl)::π=>(match ops[i]? with
   | none=>false
   | some o=>(wD X i o).all (λe=>done.contains e) && (if fl then tl.all (λt=>(B.getD t 0).testBit i) && π.all (λj=>(B.getD j.1 0).testBit i || (match ops[j.1]? with | some oj=>o.apart ops oj | none=>false)) else (!tl.contains i || π.all (λj=> !j.2)) && π.all (λj=>(B.getD j.1 0).testBit i))) && CO X ops B tl (i::done) π
def It:List Nat->Bool
 | []=>true
 | x::r=> !r.contains x && It r
def qO (X:List (Nat × Nat)) (l:List Oper) (B tl:List Nat) (π:List (Nat × Bool)):Bool:=
 rL X B l 0 && X.all (λe=>Nat.blt e.1 l.length) && CO X l.toArray B tl [] π && (List.range l.length).all (λi=>(π.map (·.1)).contains i) && (π.length==l.length) && It (π.map (·.1))
theorem K7 {B:List Nat}:∀ {es:List Nat} {i:Nat},(yv B es).testBit i=true->∃ e∈es,e=i\/(B.getD e 0).testBit i=true
 | [],i,h=>by simp [yv] at h
 | e::r,i,h=>by
  simp only [yv] at h
  have h':((2 ^ e ||| B.getD e 0) ||| yv B r).testBit i=true:=h
  rw [Nat.testBit_or,Nat.testBit_or,Bool.or_eq_true,Bool.or_eq_true] at h'
  rcases h' with (h' | h') | h'
  ·refine ⟨e,ie,.inl ?_⟩
   rw [Nat.testBit_two_pow] at h'
   simpa using h'
  ·exact ⟨e,ie,.inr h'⟩
  ·obtain ⟨e',h1,h2⟩:=K7 h'
   exact ⟨e',gO _ h1,h2⟩
theorem z3 {X:List (Nat × Nat)} {B:List Nat}:∀ {l:List Oper} {k:Nat},rL X B l k=true->∀ {j:Nat} {o:Oper},l[j]? =some o->B.getD (k+j) 0=yv B (wD X (k+j) o)/\(∀ e∈C3 o,e < k+j)/\uN o.op=true
 | [],_,_,j,o,h=>by simp at h
 | x::r,k,h,0,o,ho=>by
  simp only [rL,kc,beq_iff_eq,sB] at h
  simp at ho
  subst ho
  exact ⟨h.1.1.1,λe he=>by simpa using h.1.1.2 e he,h.1.2⟩
 | x::r,k,h,j+1,o,ho=>by
  simp only [rL,kc] at h
  have:=z3 h.2 (j:=j) (by simpa using ho)
  rw [show k+(j+1)=k+1+j by omega]
  exact this
def VS (X:List (Nat × Nat)) (ops:Array Oper):(Nat->Prop)->List Nat->Prop
 | _,[]=>True
 | done,j::r=>(∀ o,ops[j]? =some o->∀ e∈wD X j o,done e)/\VS X ops (λi=>i=j\/done i) r
variable{X:List (Nat × Nat)}{B:List Nat}{l:List Oper}
theorem af9 (hm:rL X B l 0=true) (hX:∀ e∈X,e.1 < l.length) (ho:l[j]? =some o):∀ e∈wD X j o,e < l.length:=λe he=>by
 have hj:=(dX.1 ho).1
 rcases gD.1 he with he | he
 ·have:=(z3 hm ho).2.1 e he
  omega
 ·obtain ⟨x,hx,rfl⟩:=fY.1 he
  exact hX x (ke.1 hx).1
theorem VS.mono {X:List (Nat × Nat)} {ops:Array Oper}:∀ {l:List Nat} {p q:Nat->Prop},(∀ i,p i->q i)->VS X ops p l->VS X ops q l
 | [],_,_,_,_=>trivial
 | j::r,p,q,h,⟨h1,h2⟩=>⟨λo ho e he=>h _ (h1 o ho e he),VS.mono (λi hi=>hi.imp id (h i)) h2⟩
theorem VS.take {X:List (Nat × Nat)} {ops:Array Oper}:∀ {s1 s2:List Nat} {i:Nat} {p:Nat->Prop},VS X ops p (s1++i::s2)->VS X ops (λk=>k=i\/p k) (s1++s2)
 | [],s2,i,p,h=>h.2
 | j::s1,s2,i,p,h=>⟨λo ho e he=>.inr (h.1 o ho e he),(VS.take h.2).mono λk hk=>by
   rcases hk with h | h | h
   ·exact .inr (.inl h)
   ·exact .inl h
   ·exact .inr (.inr h)⟩
theorem VS.anc (hm:rL X B l 0=true) (hX:∀ e∈X,e.1 < l.length) {s:List Nat} {p:Nat->Prop} (hv:VS X l.toArray p s) (hi:i∉s) (hp:¬ p i) (WE:∀ j,p j->∀ o,l[j]? =some o->(B.getD j 0).testBit i=false):∀ j∈s,∀ o,l[j]? =some o->(B.getD j 0).testBit i=false:=by
 induction s generalizing p with
 | nil=>intro j hj; cases hj
 | cons k r ih=>
  have hk:∀ o,l[k]? =some o->(B.getD k 0).testBit i=false:=by
   intro o ho
   obtain ⟨hB,cL,_⟩:=z3 hm ho
   cases hb:(B.getD k 0).testBit i with
   | false=>rfl
   | true=>
    rw [nD] at hB
    rw [hB] at hb
    obtain ⟨e,he,h⟩:=K7 hb
    have oy:=hv.1 o (by simpa using ho) e he
    rcases h with rfl | h
    ·exact absurd oy hp
    ·have vo:e < l.length:=af9 hm hX ho e (by simpa using he)
     rw [WE e oy _ (cj vo)] at h
     cases h
  intro j hj o ho
  rcases ig.1 hj with rfl | hj
  ·exact hk o ho
  ·refine ih hv.2 (λh=>hi (gO _ h)) (λh=> ?_) (λm xg o' vp=> ?_) j hj o ho
   ·rcases h with h | h
    ·exact hi (by rw [h]; exact ie)
    ·exact hp h
   ·rcases xg with rfl | xg
    ·exact hk o' vp
    ·exact WE m xg o' vp
theorem KM {X:List (Nat × Nat)} {ops:Array Oper} {B tl:List Nat}:∀ {π:List (Nat × Bool)} {done:List Nat},CO X ops B tl done π=true->∀ j∈π.map (·.1),∃ o,ops[j]? =some o
 | [],_,_,j,hj=>by cases hj
 | (i,fl)::π,done,h,j,hj=>by
  simp only [CO,kc] at h
  simp only [kq,ig] at hj
  rcases hj with rfl | hj
  ·cases ho:ops[j]? with
   | none=>rw [ho] at h; simp at h
   | some o=>exact ⟨o,rfl⟩
  ·exact KM h.2 j hj
theorem So:∀ {l:List Nat},It l=true->l.Nodup
 | [],_=>List.nodup_nil
 | x::r,h=>by
  simp only [It,kc] at h
  exact vV.2 ⟨by simpa using h.1,So h.2⟩
section
variable {r:Option Nat} {n:Nat} {P:Program} {ops:Array Oper} {D:List Deferred} {E:cZ} {L L' Fl:List HP} {tl:List Nat}
def ER (P:Program) (ops:Array Oper) (E:cZ) (Fl:List HP) (o:Oper) (v:Value):Prop:=
 (o.guard=none/\Yl P E Fl o.op o.type v)∨
 (∃ j want g b,o.guard=some (j,want)/\(ops[j]?).bind (·.dst)=some g/\dM E g=some (.bool b)/\((b=want/\Yl P E Fl o.op o.type v)\/((b==want)=false/\v=undef)))∨
 (∃ j want g,o.guard=some (j,want)/\(ops[j]?).bind (·.dst)=some g/\dM E g=some undef/\v=undef)
variable{g:Nat}
theorem Ze {want:Bool} {n:Nat} {D:List Deferred} {E:cZ} {ops:Array Oper} (hg:o.guard=some (j,want)) (qp:(ops[j]?).bind (·.dst)=some g) (hl:dM E g=some undef) (hv:j5 n D a E):Region.wanted o (yielded ops a.tmps)=false:=by
 simp only [Region.wanted,yielded,hg,qp,xU,hv.get g _ hl]
 rfl
def TF (r:Option Nat) (n:Nat) (P:Program) (ops:Array Oper) (tl:List Nat) (Fl:List HP):List (Nat × Bool)->St->(St->Prop)->Prop
 | [],s,K=>∃ s',(∀ W a w,Holds n W s a w->Holds n W s' a w)/\K s'
 | (i,true)::π,s,K=>∃ o d v,ops[i]? =some o/\o.dst=some d/\Nat.blt d n=true/\ER P ops s.E Fl o v/\TF r n P ops tl Fl π ⟨s.D,(d,v)::s.E,s.L⟩ K
 | (i,false)::π,s,K=>∃ o,ops[i]? =some o/\TL r n P ops [o] s (λs'=>(tl.contains i=true\/am s'.L Fl)/\TF r n P ops tl Fl π s' K)
def DC (r:Option Nat) (n:Nat) (P:Program) (ops:Array Oper) (tl:List Nat) (Fl:List HP) (W:World) (K:St->Prop):List Nat->Act->World->Prop
 | [],a,w=>∃ s',K s'/\Holds n W s' a w
 | i::s,a,w=>wpOpIn (Fw r) 0 P ops (λ_ _ _=>False) i (λa' w'=>(tl.contains i=false->bH W w' Fl)/\DC r n P ops tl Fl W K s a' w') a w
variable{K K':Act->World->Prop}
theorem abr {Q:Exit->Act->World->Prop} (h:∀ a w,K a w->K' a w) (hh:wpOpIn (Fw r) 0 P ops (λ_ _ _=>False) i K a w):wpOpIn (Fw r) 0 P ops Q i K' a w:=by
 unfold wpOpIn at *
 split
 ·rename_i ho; simp only [ho] at hh; exact h _ _ hh
 ·rename_i o ho
  simp only [ho] at hh
  split
  ·rename_i hw; simp only [hw,if_true] at hh; exact ⟨hh.1,HB h (λ_ _ _ hf=>hf.elim) (λ⟨_,_,hf⟩=>hf.elim) _ hh.2⟩
  ·rename_i hw; simp only [hw] at hh; exact ⟨hh.1,h _ _ hh.2⟩
theorem ES {W:World} {K:St->Prop} {Q:Exit->Act->World->Prop} (hq:∀ a w s',K s'->Holds n W s' a w->Q .normal a w):∀ (s:List Nat) (a:Act) (w:World),DC r n P ops tl Fl W K s a w->wpOpsIn (Fw r) 0 P ops Q s a w
 | [],a,w,⟨s',hk,hh⟩=>hq a w s' hk hh
 | i::s,a,w,h=>by
  rw [wpOpsIn_cons]
  exact abr (λa w h=>ES hq s a w h.2) h
def NY (ops:Array Oper) (o:Oper) (a a':Act):Prop:=execOp a'.eval o=execOp a.eval o/\Region.wanted o (yielded ops a'.tmps)=Region.wanted o (yielded ops a.tmps)
def we (r:Option Nat) (P:Program) (ops:Array Oper) (Fl:List HP) (W:World) (i:Nat) (o:Oper) (v:Value) (a:Act):Prop:=
 ∀ w,bH W w Fl->(Region.wanted o (yielded ops a.tmps)=true/\(execOp a.eval o).run P w=.ok (.value v) w)\/(Region.wanted o (yielded ops a.tmps)=false/\v=undef)
theorem we.of (hf:ER P ops E Fl o v) (hv:j5 n D a E):we r P ops Fl W i o v a:=λw hs=>by
 have run:Yl P E Fl o.op o.type v->(execOp a.eval o).run P w=.ok (.value v) w:=λhy=>by
  have:=hy n D W a w o.dst o.pos o.after o.guard hv hs
  have e:(⟨o.dst,o.op,o.type,o.pos,o.after,o.guard⟩:Oper)=o:=by cases o; rfl
  rwa [e] at this
 rcases hf with ⟨hg,hy⟩ | ⟨j,want,g,b,hg,qp,hl,h⟩ | ⟨j,want,g,hg,qp,hl,rfl⟩
 rotate_left 2
 ·exact .inr ⟨Ze hg qp hl hv,rfl⟩
 ·exact .inl ⟨by simp [Region.wanted,hg],run hy⟩
 ·have y7:yielded ops a.tmps j=some b:=by simp [yielded,qp,hv.get g _ hl]
  rcases h with ⟨rfl,hy⟩ | ⟨hb,rfl⟩
  ·exact .inl ⟨by simp [Region.wanted,hg,y7],run hy⟩
  ·exact .inr ⟨by simp only [Region.wanted,hg,y7]; simpa using hb,rfl⟩
theorem we.same {a':Act} (h:we r P ops Fl W i o v a) (hs:NY ops o a a'):we r P ops Fl W i o v a':=λw hw=>by
 rw [hs.1,hs.2]
 exact h w hw
theorem we.step (h:we r P ops Fl W i o v a) (hi:ops[i]? =some o) (hnd:uN o.op=true) (hs:bH W w Fl) (hk:K (a.put o.dst v) w):
  wpOpIn (Fw r) 0 P ops (λ_ _ _=>False) i K a w:=by
 have hd:∀ c,o.op≠.defer c:=λc e=>by rw [e] at hnd; cases hnd
 unfold wpOpIn
 simp only [hi]
 rcases h w hs with ⟨hw,hr⟩ | ⟨hw,rfl⟩
 ·rw [if_pos hw]
  refine ⟨λ_ _=>trivial, ?_⟩
  rw [Oper.semAt_eq _ _ _ hd,hr]
  exact hk
 ·rw [if_neg (by rw [hw]; simp)]
  exact ⟨λ_ _=>trivial,hk⟩
theorem Sp (h:uN o.op=true):∀ cs b,o.op≠.select cs b:=λcs b e=>by rw [e] at h; cases h
theorem ac0 (h:uN o.op=true):∀ c,o.op≠.defer c:=λc e=>by rw [e] at h; cases h
theorem aey {oi oj:Oper} (hj:ops[j]? =some oj) (pH:oi.apart ops oj=true) (BD:uN oi.op=true) (Jv:uN oj.op=true) 
  (hK:∀ a' w',NY ops oi a a'->K (a'.put oi.dst v) w'->K' a' w') (h:wpOpIn (Fw r) 0 P ops (λ_ _ _=>False) j K (a.put oi.dst v) w):wpOpIn (Fw r) 0 P ops (λ_ _ _=>False) j K' a w:=by
 obtain ⟨h1,h2,h3⟩:=Oper.apart_spec pH
 have keep:∀ u,NY ops oi a (a.put oj.dst u):=λu=>⟨execOp_put oi (Sp BD) a oj.dst u h3,wanted_put oi a oj.dst u h3⟩
 have hd:=ac0 Jv
 unfold wpOpIn at *
 simp only [hj] at *
 rw [wanted_put oj a oi.dst v h1] at h
 split
 ·rename_i hw
  simp only [hw,if_true] at h
  refine ⟨λ_ _=>trivial, ?_⟩
  have h:=h.2
  rw [Oper.semAt_eq _ _ _ hd,execOp_put oj (Sp Jv) a oi.dst v h1] at h
  rw [Oper.semAt_eq _ _ _ hd]
  generalize uZ:(execOp a.eval oj).run P w=x at *
  cases x with
  | ok x w'=>
   cases x <;> simp only [Oper.uponIn] at h ⊢
   case value u=>exact hK _ _ (keep u) (by rw [<- Act.put_comm a v u h2]; exact h)
   case skip=>exact hK _ _ (keep _) (by rw [<- Act.put_comm a v undef h2]; exact h)
   case defer d=>
    refine hK _ _ ?_ ?_
    ·have k:=keep undef
     refine ⟨?_, ?_⟩
     ·rw [<- k.1]; cases oj.dst <;> rfl
     ·rw [<- k.2]; cases oj.dst <;> rfl
    ·rw [<- Act.put_comm _ v undef h2, <- Act.put_defers]; exact h
   case enter f args=>
    refine ⟨h.1,CallsIn.mono h.2 λe WF he=> ?_⟩
    cases e with
    | returned u=>exact hK _ _ (keep u) (by rw [<- Act.put_comm a v u h2]; exact he)
    | panicked c=>exact he.elim
    | outgrown=>obtain ⟨_,_,he⟩:=he; exact he.elim
   case row row args=>exact ⟨h.1,RowsIn.mono h.2 λu WF he=>hK _ _ (keep u) (by rw [<- Act.put_comm a v u h2]; exact he)⟩
   case round l f tmps assign body=>
    refine ⟨h.1,RoundIn.mono h.2 λe WF he=> ?_⟩
    cases e with
    | returned u=>exact hK _ _ (keep u) (by rw [<- Act.put_comm a v u h2]; exact he)
    | panicked c=>exact he.elim
    | outgrown=>obtain ⟨_,_,he⟩:=he; exact he.elim
  | halt x w'=>cases x <;> simp only [Oper.uponIn] at h ⊢
 ·rename_i hw
  simp only [hw] at h
  exact ⟨λ_ _=>trivial,hK _ _ (keep undef) (by rw [<- Act.put_comm a v undef h2]; exact h.2)⟩
theorem RL {W:World} {K:St->Prop} {i:Nat} {oi:Oper} {v:Value} (hi:ops[i]? =some oi) (BD:uN oi.op=true):
  ∀ (s1 s2:List Nat) (a:Act) (w:World),(∀ j∈s1,∃ oj,ops[j]? =some oj/\oi.apart ops oj=true/\uN oj.op=true/\tl.contains j=false)->we r P ops Fl W i oi v a->bH W w Fl→
   DC r n P ops tl Fl W K (s1++s2) (a.put oi.dst v) w->DC r n P ops tl Fl W K (s1++i::s2) a w
 | [],s2,a,w,_,hf,hs,h=>hf.step hi BD hs ⟨λ_=>hs,h⟩
 | j::s1,s2,a,w,pH,hf,hs,h=>by
  obtain ⟨oj,hj,h1,h2,h3⟩:=pH j ie
  refine aey hj h1 BD h2 ?_ h
  rintro a' w' aiO ⟨fm,h'⟩
  exact ⟨fm,RL hi BD s1 s2 a' w' (λk hk=>pH k (gO _ hk)) (hf.same aiO) (fm h3) h'⟩
variable{K:St->Prop}
theorem ac1 (hi:ops[i]? =some o) (h:TL r n P ops [o] s K) (hh:Holds n W s a w) (hk:∀ a w s',K s'->Holds n W s' a w->K' a w):
  wpOpIn (Fw r) 0 P ops (λ_ _ _=>False) i K' a w:=by
 have:=h W a w hh
 simp only [wpListIn] at this
 unfold wpOpIn
 simp only [hi]
 split
 ·rename_i hw
  rw [if_pos hw] at this
  exact ⟨λ_ _=>trivial,HB (λa w ⟨_,s',k,hh⟩=>hk a w s' k hh) (λc a w h=>by cases h.1) (λ⟨_,_,h⟩=>by cases h.1) _ this.2⟩
 ·rename_i hw
  rw [if_neg hw] at this
  exact ⟨λ_ _=>trivial,let ⟨_,s',k,hh⟩:=this.2; hk _ _ s' k hh⟩
theorem aez {B tl:List Nat} (hm:rL X B l 0=true) (hX:∀ e∈X,e.1 < l.length):∀ (π:List (Nat × Bool)) (done:List Nat) (sched:List Nat) (s:St) (a:Act) (w:World),(π.map (·.1)).Nodup->CO X l.toArray B tl done π=true→
  (∀ i∈sched,i∈π.map (·.1))->(∀ i∈π.map (·.1),i∈sched)->sched.Nodup->sched.length=π.length->(∀ i∈done,i∉sched)->(∀ i∈done,∀ m,(B.getD i 0).testBit m=true->m∈done)->VS X l.toArray (λi=>i∈done) sched→
  TF r n P l.toArray tl Fl π s K->Holds n W s a w->(π.any (·.2)=true->bH W w Fl)->DC r n P l.toArray tl Fl W K sched a w:=by
 intro π
 induction π with
 | nil=>
  intro done sched s a w _ _ h1 _ _ _ _ _ _ hT hh _
  cases sched with
  | nil=>
   obtain ⟨s',h1,h2⟩:=hT
   exact ⟨s',h2,h1 W a w hh⟩
  | cons x r=>have:=h1 x ie; cases this
 | cons p π ih=>
  obtain ⟨i,fl⟩:=p
  intro done sched s a w hπ Dn h1 h2 hnd eP oy kU Jw hT hh hs
  have Jx:i∈sched:=h2 i (by simp)
  simp only [CO] at Dn
  cases ho:l.toArray[i]? with
  | none=>rw [ho] at Dn; simp at Dn
  | some o=>
   rw [ho] at Dn
   simp only [kc,sB] at Dn
   obtain ⟨⟨Nr,ia⟩,Ns⟩:=Dn
   have xh:l[i]? =some o:=by simpa using ho
   have ahv:=(z3 hm xh).2.2
   have pI:∀ e∈wD X i o,e∈done:=λe he=>by simpa using Nr e he
   have NZ:∀ k∈i::done,∀ m,(B.getD k 0).testBit m=true->m∈i::done:=by
    intro k hk m hb
    rcases ig.1 hk with rfl | hk
    ·have hB:=(z3 hm xh).1
     rw [nD] at hB
     rw [hB] at hb
     obtain ⟨e,he,h⟩:=K7 hb
     rcases h with rfl | h
     ·exact gO _ (pI e he)
     ·exact gO _ (kU e (pI e he) m h)
    ·exact gO _ (kU k hk m hb)
   have rZ:∀ j∈done,∀ o',l[j]? =some o'->(B.getD j 0).testBit i=false:=by
    intro j hj o' _
    cases hb:(B.getD j 0).testBit i with
    | false=>rfl
    | true=>exact absurd Jx (oy i (kU j hj i hb))
   obtain ⟨s1,s2,rfl⟩:=List.append_of_mem Jx
   have tf:i∉s1:=by
    intro h
    rw [He] at hnd
    exact hnd.2.2 i h i (by simp) rfl
   have dW:i∉s2:=by
    intro h
    rw [He] at hnd
    exact (vV.1 hnd.2.1).1 h
   have ajz:VS X l.toArray (λk=>k∈done) s1:=by
    clear ih hT hh hs h1 h2 eP oy kU NZ rZ tf dW hnd Jx
    have:∀ (s1 s2:List Nat) (p:Nat->Prop),VS X l.toArray p (s1++s2)->VS X l.toArray p s1:=by
     intro s1
     induction s1 with
     | nil=>intros; trivial
     | cons x r ih=>intro s2 p h; exact ⟨h.1,ih s2 _ h.2⟩
    exact this s1 (i::s2) _ Jw
   have ib:¬ i∈done:=λh=>oy i h Jx
   have N0:=VS.anc hm hX ajz tf ib rZ
   have y_:∀ k∈s1++s2,k∈π.map (·.1):=by
    intro k hk
    have:k∈s1++i::s2:=by
     rcases gD.1 hk with h | h
     ·exact gD.2 (.inl h)
     ·exact gD.2 (.inr (gO _ h))
    have:=h1 k this
    simp only [kq,ig] at this
    rcases this with rfl | h
    ·rcases gD.1 hk with h | h
     ·exact absurd h tf
     ·exact absurd h dW
    ·exact h
   have Do:(s1++s2).Nodup:=by
    rw [He] at hnd ⊢
    exact ⟨hnd.1,(vV.1 hnd.2.1).2,λx hx y hy=>hnd.2.2 x hx y (gO _ hy)⟩
   have Vp:(s1++s2).length=π.length:=by simp at eP ⊢; omega
   have BD:i∉π.map (·.1):=(vV.1 (by simpa using hπ)).1
   have WG:(π.map (·.1)).Nodup:=(vV.1 (by simpa using hπ)).2
   have q':=KM Ns
   have WH:∀ k∈π.map (·.1),k∈s1++s2:=by
    intro k hk
    have:=h2 k (by simp only [kq]; exact gO _ hk)
    rcases gD.1 this with h | h
    ·exact gD.2 (.inl h)
    ·rcases ig.1 h with rfl | h
     ·exact absurd hk BD
     ·exact gD.2 (.inr h)
   have UW:∀ k∈i::done,k∉s1++s2:=by
    intro k hk
    rcases ig.1 hk with rfl | hk
    ·simp [tf,dW]
    ·intro h
     refine oy k hk ?_
     rcases gD.1 h with h | h
     ·exact gD.2 (.inl h)
     ·exact gD.2 (.inr (gO _ h))
   have VT:VS X l.toArray (λk=>k∈i::done) (s1++s2):=(VS.take Jw).mono λk hk=>by
    rcases hk with rfl | h
    ·exact ie
    ·exact gO _ h
   cases fl with
   | true=>
    simp only [if_true,kc,sB,Bool.or_eq_true] at ia
    obtain ⟨o',d,v,vp,wU,hd,hf,OO⟩:=hT
    rw [ho] at vp; cases vp
    have hs:=hs (by simp)
    refine RL ho ahv s1 s2 a w (λj hj=> ?_) (we.of hf hh.1) hs ?_
    ·have Gc:=y_ j (gD.2 (.inl hj))
     obtain ⟨⟨j',fj⟩,OP,rfl⟩:=fY.1 Gc
     have OQ:=ia.2 (j',fj) OP
     cases xi:l[j']? with
     | none=>
      obtain ⟨o2,xj⟩:=q' j' Gc
      simp [xi] at xj
     | some oj=>
      have Jv:=(z3 hm xi).2.2
      rcases OQ with h | h
      ·rw [N0 j' hj oj xi] at h; cases h
      ·refine ⟨oj,by simpa using xi,by simpa [xi] using h,Jv, ?_⟩
       cases hc:tl.contains j' with
       | false=>rfl
       | true=>
        have:=ia.1 j' (by simpa using hc)
        rw [N0 j' hj oj xi] at this
        cases this
    ·rw [wU]
     exact ih (i::done) (s1++s2) _ _ w WG Ns y_ WH Do Vp UW NZ VT OO ⟨hh.1.put (by simpa using hd) v,hh.2⟩ (λ_=>hs)
   | false=>
    simp only [lM,if_false,kc,sB] at ia
    obtain ⟨o',vp,hTL⟩:=hT
    rw [ho] at vp; cases vp
    have:s1=[]:=by
     cases s1 with
     | nil=>rfl
     | cons j r1=>
      exfalso
      have Gc:=y_ j (by simp)
      obtain ⟨⟨j',fj⟩,OP,rfl⟩:=fY.1 Gc
      have hb:=ia.2 (j',fj) OP
      cases xi:l[j']? with
      | none=>
       obtain ⟨o2,xj⟩:=q' j' Gc
       simp [xi] at xj
      | some oj=>rw [N0 j' (by simp) oj xi] at hb; cases hb
    subst this
    refine ac1 ho hTL hh ?_
    rintro a' w' s' ⟨hg,OO⟩ vq
    have fm:tl.contains i=false->bH W w' Fl:=λhc=>by
     rcases hg with h | h
     ·rw [hc] at h; cases h
     ·exact vq.2.ay h
    have eF:π.any (·.2)=true->bH W w' Fl:=λajA=>by
     refine fm ?_
     cases hc:tl.contains i with
     | false=>rfl
     | true=>
      obtain ⟨j,hj,OQ⟩:=List.any_eq_true.1 ajA
      have:=ia.1
      rw [hc] at this
      simp only [Bool.not_true,Bool.false_or,sB] at this
      have:=this j hj
      rw [OQ] at this
      cases this
    exact ⟨fm,ih (i::done) s2 s' a' w' WG Ns (by simpa using y_) (by simpa using WH) (by simpa using Do) (by simpa using Vp) (by simpa using UW) NZ (by simpa using VT) OO vq eF⟩
def y' (n:Nat) (b:Array Bool):List Nat:=(List.range n).filter λi=> !b.getD i true
theorem af_ {N:Nat} {b:Array Bool} (hb:b.size=N) (hi:i < N) (hf:b.getD i true=false):(y' N (b.setIfInBounds i true)).length+1=(y' N b).length:=by
 have ajB:∀ (l:List Nat),l.Nodup->i∈l->(∀ j∈l,j < N)->((l.filter λj=> !(b.setIfInBounds i true).getD j true).length+1=(l.filter λj=> !b.getD j true).length):=by
  intro l
  induction l with
  | nil=>intro _ h; cases h
  | cons x r ih=>
   intro hnd hm cL
   rw [vV] at hnd
   have hx:∀ j,j≠i->(b.setIfInBounds i true).getD j true=b.getD j true:=λj hj=>by
    simp only [sA,G6 (Ne.symm hj)]
   rcases ig.1 hm with rfl | hm
   ·have h1:(r.filter λj=> !(b.setIfInBounds i true).getD j true)=r.filter λj=> !b.getD j true:=List.filter_congr λj hj=>by rw [hx j (λe=>hnd.1 (by rw [<- e]; exact hj))]
    have h2:(b.setIfInBounds i true).getD i true=true:=by simp [sA,hb,hi]
    simp only [uA,h2,hf,Bool.not_true,Bool.not_false,if_true,h1,dO]
    simp
   ·have iS:x≠i:=λe=>hnd.1 (by rw [e]; exact hm)
    have:=ih hnd.2 hm (λj hj=>cL j (gO _ hj))
    simp only [uA,hx x iS]
    cases b.getD x true
    ·simpa using this
    ·simpa using this
 exact ajB (List.range N) List.nodup_range (sC.2 hi) (λj hj=>sC.1 hj)
theorem Lz (j:Nat) (o:Oper):wD [] j o=C3 o:=by simp [wD]
theorem LY (hm:rL X B l 0=true):∀ (jB t:Nat) (b:Array Bool),b.size=l.length->(y' l.length b).length=jB→
  VS [] l.toArray (λi=>b.getD i false=true) (Region.linearise.go .any l.toArray jB t b [])/\(∀ i,i < l.length->b.getD i true=false->i∈Region.linearise.go .any l.toArray jB t b [])∧
   (Region.linearise.go .any l.toArray jB t b []).Nodup/\(∀ i∈Region.linearise.go .any l.toArray jB t b [],i < l.length/\b.getD i true=false)/\(Region.linearise.go .any l.toArray jB t b []).length=jB:=by
 intro jB
 induction jB with
 | zero=>
  intro t b hb hu
  refine ⟨trivial,λi hi hf=> ?_,List.nodup_nil,(λi hi=>(by cases hi)),rfl⟩
  have:i∈y' l.length b:=ke.2 ⟨sC.2 hi,by simp [hf]⟩
  rw [rC hu] at this
  cases this
 | succ jB ih=>
  intro t b hb hu
  have Vq:∀ i,i∈Region.ready .any l.toArray b↔i < l.length/\b.getD i true=false/\∃ o,l[i]? =some o/\∀ e∈C3 o,b.getD e false=true:=by
   intro i
   unfold Region.ready
   rw [ke,sC]
   simp only [qH,kc,Hf]
   constructor
   ·rintro ⟨h1,h2,h3⟩
    refine ⟨h1,h2,l[i],cj h1,λe he=> ?_⟩
    simp only [tB,cj h1,qI,vT] at h3
    unfold C3 at he
    obtain ⟨x,hx,rfl⟩:=fY.1 he
    obtain ⟨nm,vr⟩:=ke.1 hx
    rw [Array.all_eq_true_iff_forall_mem] at h3
    have:=h3 x (by simpa using nm)
    simpa [vr] using this
   ·rintro ⟨h1,h2,o,ho,h3⟩
    refine ⟨h1,h2, ?_⟩
    simp only [tB,ho,qI,vT]
    rw [Array.all_eq_true_iff_forall_mem]
    intro x hx
    cases hbd:Region.binds .any x with
    | false=>simp
    | true=>
     have:=h3 x.on (fY.2 ⟨x,ke.2 ⟨by simpa using hx,hbd⟩,rfl⟩)
     simpa using this
  have iS:Region.ready .any l.toArray b≠[]:=by
   intro ajC
   have hex:∃ i,i < l.length/\b.getD i true=false:=by
    cases WI:y' l.length b with
    | nil=>rw [WI] at hu; simp at hu
    | cons x r=>
     have:x∈y' l.length b:=by rw [WI]; exact ie
     obtain ⟨h1,h2⟩:=ke.1 this
     exact ⟨x,sC.1 h1,by simpa using h2⟩
   have ajD:∀ k i,i<=k->i < l.length->b.getD i true=false->∃ i,i < l.length/\b.getD i true=false/\∀ j,j < i->b.getD j true=true:=by
    intro k
    induction k with
    | zero=>intro i hi h1 h2; exact ⟨i,h1,h2,λj hj=>by omega⟩
    | succ k ihk=>
     intro i hi h1 h2
     by_cases hc:∃ j,j < i/\b.getD j true=false
     ·obtain ⟨j,h3,h4⟩:=hc
      exact ihk j (by omega) (by omega) h4
     ·refine ⟨i,h1,h2,λj hj=> ?_⟩
      cases hbj:b.getD j true with
      | true=>rfl
      | false=>exact absurd ⟨j,hj,hbj⟩ hc
   obtain ⟨i,h1,h2⟩:=hex
   obtain ⟨i,h1,h2,h3⟩:=ajD i i (fo _) h1 h2
   have:i∈Region.ready .any l.toArray b:=by
    rw [Vq]
    refine ⟨h1,h2,l[i],cj h1,λe he=> ?_⟩
    have cL:=(z3 hm (cj h1)).2.1 e he
    have:=h3 e (by omega)
    have vo:e < b.size:=by omega
    simp only [sA,D' vo,vT] at this ⊢
    exact this
   rw [ajC] at this
   cases this
  simp only [Region.linearise.go]
  change _/\_
  have ajE:∃ i,(Region.ready .any l.toArray b)[t % (Region.ready .any l.toArray b).length]? =some i:=by
   have sY:0 < (Region.ready .any l.toArray b).length:=List.length_pos_iff.2 iS
   exact ⟨_,cj (Nat.mod_lt _ sY)⟩
  obtain ⟨i,rj⟩:=ajE
  have hir:=(Vq i).1 (eA rj)
  obtain ⟨eG,WJ,o,ho,Nr⟩:=hir
  have Gd:(match (Region.ready .any l.toArray b)[t % (Region.ready .any l.toArray b).length]? with
    | some i=>Region.linearise.go .any l.toArray jB (t / (Region.ready .any l.toArray b).length) (b.setIfInBounds i true) [i]
    | none=>[].reverse)=i::Region.linearise.go .any l.toArray jB (t / (Region.ready .any l.toArray b).length) (b.setIfInBounds i true) []:=by
   rw [rj]
   simp only []
   rw [linearise_go_acc]
   simp
  have hu':=af_ hb eG WJ
  obtain ⟨k1,k2,k3,k4,k5⟩:=ih (t / (Region.ready .any l.toArray b).length) (b.setIfInBounds i true) (by simpa using hb) (by omega)
  have py:∀ j,j≠i->∀ d,(b.setIfInBounds i true).getD j d=b.getD j d:=λj hj d=>by
   simp only [sA,G6 (Ne.symm hj)]
  have Vr:∀ d,(b.setIfInBounds i true).getD i d=true:=λd=>by simp [sA,hb,eG]
  change VS [] l.toArray _ (match (Region.ready .any l.toArray b)[t % (Region.ready .any l.toArray b).length]? with
    | some i=>Region.linearise.go .any l.toArray jB (t / (Region.ready .any l.toArray b).length) (b.setIfInBounds i true) [i]
    | none=>[].reverse)/\(∀ j,j < l.length->b.getD j true=false->j∈(match (Region.ready .any l.toArray b)[t % (Region.ready .any l.toArray b).length]? with
    | some i=>Region.linearise.go .any l.toArray jB (t / (Region.ready .any l.toArray b).length) (b.setIfInBounds i true) [i]
    | none=>[].reverse))/\(match (Region.ready .any l.toArray b)[t % (Region.ready .any l.toArray b).length]? with
    | some i=>Region.linearise.go .any l.toArray jB (t / (Region.ready .any l.toArray b).length) (b.setIfInBounds i true) [i]
    | none=>[].reverse).Nodup/\(∀ j∈(match (Region.ready .any l.toArray b)[t % (Region.ready .any l.toArray b).length]? with
    | some i=>Region.linearise.go .any l.toArray jB (t / (Region.ready .any l.toArray b).length) (b.setIfInBounds i true) [i]
    | none=>[].reverse),j < l.length/\b.getD j true=false)/\(match (Region.ready .any l.toArray b)[t % (Region.ready .any l.toArray b).length]? with
    | some i=>Region.linearise.go .any l.toArray jB (t / (Region.ready .any l.toArray b).length) (b.setIfInBounds i true) [i]
    | none=>[].reverse).length=jB+1
  rw [Gd]
  refine ⟨⟨λo' vp e he=> ?_,k1.mono λj hj=> ?_⟩,λj hj hf=> ?_,vV.2 ⟨λh=> ?_,k3⟩,λj hj=> ?_,by simp [k5]⟩
  ·have:o'=o:=by simpa [ho] using vp.symm
   subst this
   exact Nr e (by rw [Lz] at he; exact he)
  ·by_cases e:j=i
   ·exact .inl e
   ·right; show b.getD j false=true; rw [<- py j e]; exact hj
  ·by_cases e:j=i
   ·rw [e]; exact ie
   ·exact gO _ (k2 j hj (by rw [py j e]; exact hf))
  ·have:=(k4 i h).2
   rw [Vr] at this
   cases this
  ·rcases ig.1 hj with rfl | hj
   ·exact ⟨eG,WJ⟩
   ·have:=k4 j hj
    refine ⟨this.1, ?_⟩
    by_cases e:j=i
    ·subst e; rw [Vr] at this; exact absurd this.2 (by simp)
    ·rw [<- py j e]; exact this.2
theorem HJ (Fl:List HP) (B tl:List Nat) (π:List (Nat × Bool)) (cX:qO X l B tl π=true) (oO:am s.L Fl) (h:TF r n P l.toArray tl Fl π s K) 
  {sched:List Nat} {a:Act} {w:World} (hh:Holds n W s a w) (k1:VS X l.toArray (λi=>(Array.replicate l.length false).getD i false=true) sched) (k2:∀ i,i < l.length->i∈sched) (k3:sched.Nodup) (k4:∀ i∈sched,i < l.length) (k5:sched.length=l.length):DC r n P l.toArray tl Fl W K sched a w:=by
 simp only [qO,kc] at cX
 obtain ⟨⟨⟨⟨⟨h1,hX⟩,h2⟩,h3⟩,h4⟩,h5⟩:=cX
 have hX':∀ e∈X,e.1 < l.length:=λe he=>by simpa using sB.1 hX e he
 have eP:π.length=l.length:=by simpa using h4
 refine aez h1 hX' π [] _ s a _ (So h5) h2 (λi hi=> ?_) (λi hi=> ?_) k3 (by rw [k5,eP]) (λi hi=>by cases hi) (λi hi=>by cases hi) (k1.mono λi hi=> ?_) h hh (λ_=>hh.2.ay oO)
 ·have:=sB.1 h3 i (sC.2 (k4 i hi))
  simpa using this
 ·obtain ⟨o,ho⟩:=KM h2 i hi
  have eG:i < l.length:=by
   have:=(uy.1 ho).1
   simpa using this
  exact k2 i eG
 ·simp only [sA] at hi
  by_cases eG:i < l.length
  ·simp [eG] at hi
  ·simp [eG] at hi
theorem MK (l:List Oper):(y' l.length (Array.replicate l.length false)).length=l.length:=by
 unfold y'
 rw [rD.2 (λi hi=>by simp [sA,sC.1 hi])]
 simp
theorem Qo {id:Nat} (Fl:List HP) (B tl:List Nat) (π:List (Nat × Bool)) (t1:P.follows .mixedOrders=true) (cX:qO [] l B tl π=true) (oO:am s.L Fl) 
  (h:TF r n P l.toArray tl Fl π s (λs'=>Q .normal s')):T r n P (.region id l.toArray true) s Q:=λW a w hh=>by
 refine wpIn_region_draw λt=> ?_
 simp only [Region.schedule,t1,Bool.true_or,if_true]
 have hm:=cX
 simp only [qO,kc] at hm
 obtain ⟨k1,k2,k3,k4,k5⟩:=LY hm.1.1.1.1.1 l.length t (Array.replicate l.length false) (by simp) (MK l)
 have jp:Region.linearise .any l.toArray t=Region.linearise.go .any l.toArray l.length t (Array.replicate l.length false) []:=by
  simp [Region.linearise]
 rw [jp]
 have II:Holds n W s a {w with drawn:=w.drawn+1}:=⟨hh.1,hh.2.drew⟩
 exact ES (λa' w' s' hk vq=>⟨s',hk,vq⟩) _ _ _ (HJ Fl B tl π cX oO h II k1 (λi hi=>k2 i hi (by simp [sA,hi])) k3 (λi hi=>(k4 i hi).1) k5)
theorem M6 {ops:Array Oper} {i j:Nat}:∀ {l:List Nat} {p:Nat->Prop},(∀ s1 s2,l=s1++j::s2->i∈s1\/p i)->VS [] ops p l->VS [(i,j)] ops p l
 | [],_,_,_=>trivial
 | k::r,p,h,⟨h1,h2⟩=>by
  refine ⟨λo ho e he=> ?_,M6 (λs1 s2 e=> ?_) h2⟩
  ·rcases gD.1 he with he | he
   ·exact h1 o ho e (by rw [Lz]; exact he)
   ·obtain ⟨x,hx,rfl⟩:=fY.1 he
    have hx:=ke.1 hx
    simp only [o0] at hx
    obtain ⟨rfl,hk⟩:=hx
    have hk:j=k:=qC hk
    subst hk
    rcases h [] r rfl with h | h
    ·cases h
    ·exact h
  ·rcases h (k::s1) s2 (by rw [e]; rfl) with h | h
   ·rcases ig.1 h with rfl | h
    ·exact .inr (.inl rfl)
    ·exact .inl h
   ·exact .inr (.inr h)
theorem LZ {i j:Nat} (kA:i≠j):∀ l:List Nat,(∀ s1 s2,l=s1++j::s2->i∈s1)\/(∀ s1 s2,l=s1++i::s2->j∈s1)
 | []=>.inl λs1 s2 e=>by cases s1 <;> cases e
 | x::r=>by
  by_cases hx:x=i
  ·subst hx
   refine .inl λs1 s2 e=> ?_
   cases s1 with
   | nil=>cases e; exact absurd rfl kA
   | cons y s1=>cases e; exact ie
  ·by_cases hy:x=j
   ·subst hy
    refine .inr λs1 s2 e=> ?_
    cases s1 with
    | nil=>cases e; exact absurd rfl kA
    | cons y s1=>cases e; exact ie
   ·rcases LZ kA r with h | h
    ·refine .inl λs1 s2 e=> ?_
     cases s1 with
     | nil=>cases e; exact absurd rfl hy
     | cons y s1=>cases e; exact gO _ (h s1 s2 rfl)
    ·refine .inr λs1 s2 e=> ?_
     cases s1 with
     | nil=>cases e; exact absurd rfl hx
     | cons y s1=>cases e; exact gO _ (h s1 s2 rfl)
theorem XQ {id:Nat} (Fl BE:List HP) (i j:Nat) (kA:i≠j) (B tl:List Nat) (π:List (Nat × Bool)) (B2 BF:List Nat) (π2:List (Nat × Bool)) (t1:P.follows .mixedOrders=true) (cX:qO [(i,j)] l B tl π=true) (Fx:qO [(j,i)] l B2 BF π2=true) (oO:am s.L Fl) (N2:am s.L BE) 
  (h:TF r n P l.toArray tl Fl π s (λs'=>Q .normal s')) (h2:TF r n P l.toArray BF BE π2 s (λs'=>Q .normal s')):T r n P (.region id l.toArray true) s Q:=λW a w hh=>by
 refine wpIn_region_draw λt=> ?_
 simp only [Region.schedule,t1,Bool.true_or,if_true]
 have hm:=cX
 simp only [qO,kc] at hm
 obtain ⟨k1,k2,k3,k4,k5⟩:=LY hm.1.1.1.1.1 l.length t (Array.replicate l.length false) (by simp) (MK l)
 have jp:Region.linearise .any l.toArray t=Region.linearise.go .any l.toArray l.length t (Array.replicate l.length false) []:=by
  simp [Region.linearise]
 rw [jp]
 have II:Holds n W s a {w with drawn:=w.drawn+1}:=⟨hh.1,hh.2.drew⟩
 have WK:=λi hi=>k2 i hi (by simp [sA,hi])
 rcases LZ kA (Region.linearise.go .any l.toArray l.length t (Array.replicate l.length false) []) with ho | ho
 ·exact ES (λa' w' s' hk vq=>⟨s',hk,vq⟩) _ _ _ (HJ Fl B tl π cX oO h II (M6 (λs1 s2 e=>.inl (ho s1 s2 e)) k1) WK k3 (λi hi=>(k4 i hi).1) k5)
 ·exact ES (λa' w' s' hk vq=>⟨s',hk,vq⟩) _ _ _ (HJ BE B2 BF π2 Fx N2 h2 II (M6 (λs1 s2 e=>.inl (ho s1 s2 e)) k1) WK k3 (λi hi=>(k4 i hi).1) k5)
theorem Yw {id:Nat} (Fl:List HP) (B tl:List Nat) (π:List (Nat × Bool)) (t1:P.follows .mixedOrders=true) (cX:qO [] l B tl π=true) (oO:am s.L Fl) 
  (h:TF r n P l.toArray tl Fl π s (λs'=>T r n P y s' Q)):T r n P (.seq (.region id l.toArray true) y) s Q:=ar (Qo Fl B tl π t1 cX oO h)
theorem Yd {id:Nat} (Fl BE:List HP) (i j:Nat) (kA:i≠j) (B tl:List Nat) (π:List (Nat × Bool)) (B2 BF:List Nat) (π2:List (Nat × Bool)) (t1:P.follows .mixedOrders=true) (cX:qO [(i,j)] l B tl π=true) (Fx:qO [(j,i)] l B2 BF π2=true) (oO:am s.L Fl) (N2:am s.L BE) 
  (h:TF r n P l.toArray tl Fl π s (λs'=>T r n P y s' Q)) (h2:TF r n P l.toArray BF BE π2 s (λs'=>T r n P y s' Q)):T r n P (.seq (.region id l.toArray true) y) s Q:=ar (XQ Fl BE i j kA B tl π B2 BF π2 t1 cX Fx oO N2 h h2)
theorem aR (h:K s):TF r n P ops tl Fl [] s K:=⟨s,λ_ _ _ h=>h,h⟩
variable{π:List (Nat × Bool)}{ty:TypeId}{af:Array Edge}
theorem ak {op:Op} {pos:String} (ho:ops[i]? =some ⟨some d,op,ty,pos,af,none⟩) (hd:Nat.blt d n=true) (hy:Yl P E Fl op ty v) (h:TF r n P ops tl Fl π ⟨D,(d,v)::E,L⟩ K):
  TF r n P ops tl Fl ((i,true)::π) ⟨D,E,L⟩ K:=⟨_,d,v,ho,rfl,hd,.inl ⟨rfl,hy⟩,h⟩
theorem aiP {op:Op} {pos:String} {want:Bool} (ho:ops[i]? =some ⟨some d,op,ty,pos,af,some (j,want)⟩) (hg:(ops[j]?).bind (·.dst)=some g) (hl:dM E g=some (.bool want)) (hd:Nat.blt d n=true) (hy:Yl P E Fl op ty v) 
  (h:TF r n P ops tl Fl π ⟨D,(d,v)::E,L⟩ K):TF r n P ops tl Fl ((i,true)::π) ⟨D,E,L⟩ K:=⟨_,d,v,ho,rfl,hd,.inr (.inl ⟨j,want,g,want,rfl,hg,hl,.inl ⟨rfl,hy⟩⟩),h⟩
variable{x:Operand}
theorem aiQ {pos:String} (ho:ops[i]? =some ⟨some d,.move x,ty,pos,af,none⟩) (hd:Nat.blt d n=true) (hx:ev E x=some v) (h:TF r n P ops tl Fl π ⟨D,(d,v)::E,L⟩ K):TF r n P ops tl Fl ((i,true)::π) ⟨D,E,L⟩ K:=ak ho hd (cU hx) h
theorem aiR {pos:String} {ad:Addr} (ho:ops[i]? =some ⟨some d,.nilCheck x,ty,pos,af,none⟩) (hd:Nat.blt d n=true) (hx:ev E x=some (.pointer (some ad))) (h:TF r n P ops tl Fl π ⟨D,(d,.pointer (some ad))::E,L⟩ K):TF r n P ops tl Fl ((i,true)::π) ⟨D,E,L⟩ K:=ak ho hd (gc hx) h
theorem aiS {ft:TypeId} {k b o off:Nat} {pos:String} [hf:wp P t k off ft] (ho:ops[i]? =some ⟨some d,.fieldAddr t x k,ty,pos,af,none⟩) (hd:Nat.blt d n=true) (hx:ev E x=some (.pointer (some ⟨b,o,none⟩))) (h:TF r n P ops tl Fl π ⟨D,(d,.pointer (some ⟨b,o+off,none⟩))::E,L⟩ K):TF r n P ops tl Fl ((i,true)::π) ⟨D,E,L⟩ K:=ak ho hd (dp hx) h
variable{tt:TypeId}{k:Nat}{l:List Value}{R:List HP}
theorem aiT {pos:String} [ht:iG P t false] (ho:ops[i]? =some ⟨some d,.load t x,ty,pos,af,none⟩) (hd:Nat.blt d n=true) (hx:ev E x=some (.pointer (some ⟨b,k,none⟩))) [hc:fL Fl b l tt R] (hv:kO l k=some v) (h:TF r n P ops tl Fl π ⟨D,(d,v)::E,L⟩ K):TF r n P ops tl Fl ((i,true)::π) ⟨D,E,L⟩ K:=ak ho hd (dY hx hv) h
variable{vs:List Value}
theorem ahw {pos:String} [ht:iG P t true] [hz:hJ P t m] (ho:ops[i]? =some ⟨some d,.load t x,ty,pos,af,none⟩) (hd:Nat.blt d n=true) (hx:ev E x=some (.pointer (some ⟨b,k,none⟩))) [hc:fL Fl b l tt R] (hv:mg k m l=some vs) (h:TF r n P ops tl Fl π ⟨D,(d,.agg vs.toArray)::E,L⟩ K):TF r n P ops tl Fl ((i,true)::π) ⟨D,E,L⟩ K:=ak ho hd (kg hx hv) h
theorem aeA {op:Op} {pos:String} {want b:Bool} (ho:ops[i]? =some ⟨some d,op,ty,pos,af,some (j,want)⟩) (hg:(ops[j]?).bind (·.dst)=some g) (hl:dM E g=some (.bool b)) (hb:(b==want)=false) (hd:Nat.blt d n=true) 
  (h:TF r n P ops tl Fl π ⟨D,(d,undef)::E,L⟩ K):TF r n P ops tl Fl ((i,true)::π) ⟨D,E,L⟩ K:=⟨_,d,undef,ho,rfl,hd,.inr (.inl ⟨j,want,g,b,rfl,hg,hl,.inr ⟨hb,rfl⟩⟩),h⟩
theorem dS {op:Op} {pos:String} {want:Bool} (ho:ops[i]? =some ⟨some d,op,ty,pos,af,some (j,want)⟩) (hg:(ops[j]?).bind (·.dst)=some g) (hl:dM E g=some undef) (hd:Nat.blt d n=true) 
  (h:TF r n P ops tl Fl π ⟨D,(d,undef)::E,L⟩ K):TF r n P ops tl Fl ((i,true)::π) ⟨D,E,L⟩ K:=⟨_,d,undef,ho,rfl,hd,.inr (.inr ⟨j,want,g,rfl,hg,hl,rfl⟩),h⟩
theorem an (ho:ops[i]? =some o) (h:TL r n P ops [o] s (λs'=>(tl.contains i=true\/am s'.L Fl)/\TF r n P ops tl Fl π s' K)):TF r n P ops tl Fl ((i,false)::π) s K:=⟨o,ho,h⟩
theorem ahx (hg:am L Fl) (h:TF r n P ops tl Fl π ⟨D,E,L⟩ K):TL r n P ops [] ⟨D,E,L⟩ (λs'=>(tl.contains i=true\/am s'.L Fl)/\TF r n P ops tl Fl π s' K):=O ⟨.inr hg,h⟩
theorem gZ (hi:tl.contains i=true) (h:TF r n P ops tl Fl π ⟨D,E,L⟩ K):TL r n P ops [] ⟨D,E,L⟩ (λs'=>(tl.contains i=true\/am s'.L Fl)/\TF r n P ops tl Fl π s' K):=O ⟨.inl hi,h⟩
theorem Yl.less {op:Op} (hE:∀ i v,dM E' i=some v->dM E i=some v) (h:Yl P E' L op ty v):Yl P E L op ty v:=λn D W a w dst pos af g ha hs=>h n D W a w dst pos af g (ha.less hE) hs
theorem ER.less (hE:∀ i v,dM E' i=some v->dM E i=some v) (h:ER P ops E' Fl o v):ER P ops E Fl o v:=by
 rcases h with ⟨hg,hy⟩ | ⟨j,want,g,b,h1,h2,h3,h⟩ | ⟨j,want,g,h1,h2,h3,h⟩
 rotate_left 2
 ·exact .inr (.inr ⟨j,want,g,h1,h2,hE _ _ h3,h⟩)
 ·exact .inl ⟨hg,hy.less hE⟩
 ·refine .inr (.inl ⟨j,want,g,b,h1,h2,hE _ _ h3, ?_⟩)
  rcases h with ⟨e,hy⟩ | h
  ·exact .inl ⟨e,hy.less hE⟩
  ·exact .inr h
theorem Ye (hE:∀ i v,dM E' i=some v->dM E i=some v) (d:Nat) (u:Value):∀ i v,dM ((d,u)::E') i=some v->dM ((d,u)::E) i=some v:=λi v h=>by
 simp only [dM] at h ⊢
 cases e:Nat.beq d i with
 | true=>rw [e] at h; exact h
 | false=>rw [e] at h; exact hE i v h
theorem HU {u:Value} (hl:dM E g=some u):∀ i v,dM ((g,u)::E) i=some v->dM E i=some v:=λi v h=>by
 simp only [dM] at h
 cases e:Nat.beq g i with
 | true=>
  rw [e] at h
  simp only [cond_true,kH] at h
  have:g=i:=qC e
  subst this; subst h
  exact hl
 | false=>rw [e] at h; exact h
theorem Ih {K:St->Prop}:∀ {π:List (Nat × Bool)} {E E':cZ} {L:List HP},(∀ i v,dM E' i=some v->dM E i=some v)->TF r n P ops tl Fl π ⟨D,E',L⟩ K->TF r n P ops tl Fl π ⟨D,E,L⟩ K
 | [],E,E',L,hE,⟨s',h1,h2⟩=>⟨s',λW a w hh=>h1 W a w ⟨hh.1.less hE,hh.2⟩,h2⟩
 | (i,false)::π,E,E',L,hE,⟨o,ho,h⟩=>⟨o,ho,λW a w hh=>h W a w ⟨hh.1.less hE,hh.2⟩⟩
 | (i,true)::π,E,E',L,hE,⟨o,d,v,ho,wU,hd,hf,h⟩=>⟨o,d,v,ho,wU,hd,hf.less hE,Ih (Ye hE d v) h⟩
theorem L_ (g:Nat) {b:Bool} (hl:dM E g=some (.bool b)) (ht:b=true->TF r n P ops tl Fl π ⟨D,(g,.bool true)::E,L⟩ K) (hf:b=false->TF r n P ops tl Fl π ⟨D,(g,.bool false)::E,L⟩ K):
  TF r n P ops tl Fl π ⟨D,E,L⟩ K:=by
 cases b with
 | true=>exact Ih (HU hl) (ht rfl)
 | false=>exact Ih (HU hl) (hf rfl)
theorem gE (g:Nat) [Decidable p] (hl:dM E g=some (.bool (decide p))) (ht:p->TF r n P ops tl Fl π ⟨D,(g,.bool true)::E,L⟩ K) (hf:¬ p->TF r n P ops tl Fl π ⟨D,(g,.bool false)::E,L⟩ K):
  TF r n P ops tl Fl π ⟨D,E,L⟩ K:=L_ g hl (λe=>ht (o3 e)) (λe=>hf (of_decide_eq_false e))
theorem er (g:Nat) {v':Value} (hl:dM E g=some v) (e:v=v') (h:TF r n P ops tl Fl π ⟨D,(g,v')::E,L⟩ K):TF r n P ops tl Fl π ⟨D,E,L⟩ K:=by
 subst e
 exact Ih (HU hl) h
section
variable {π:List (Nat × Bool)} {K:St->Prop} {i d:Nat} {ty:TypeId} {pos:String} {af:Array Edge}
theorem aq (ho:ops[i]? =some ⟨some d,.move x,ty,pos,af,none⟩) (h0:oB (Nat.blt d n) (ev E x)=some v) (h:TF r n P ops tl Fl π ⟨D,(d,v)::E,L⟩ K):TF r n P ops tl Fl ((i,true)::π) ⟨D,E,L⟩ K:=aiQ ho (lz h0).1 (lz h0).2 h
theorem aL {ad:Addr} (ho:ops[i]? =some ⟨some d,.nilCheck x,ty,pos,af,none⟩) (h0:oB (Nat.blt d n) (ev E x)=some (.pointer (some ad))) (h:TF r n P ops tl Fl π ⟨D,(d,.pointer (some ad))::E,L⟩ K):TF r n P ops tl Fl ((i,true)::π) ⟨D,E,L⟩ K:=aiR ho (lz h0).1 (lz h0).2 h
theorem aw {ft:TypeId} {k b o off:Nat} [hf:wp P t k off ft] (ho:ops[i]? =some ⟨some d,.fieldAddr t x k,ty,pos,af,none⟩) (h0:oB (Nat.blt d n) (ev E x)=some (.pointer (some ⟨b,o,none⟩))) (h:TF r n P ops tl Fl π ⟨D,(d,.pointer (some ⟨b,o+off,none⟩))::E,L⟩ K):TF r n P ops tl Fl ((i,true)::π) ⟨D,E,L⟩ K:=aiS ho (lz h0).1 (lz h0).2 h
theorem aG [ht:iG P t false] (ho:ops[i]? =some ⟨some d,.load t x,ty,pos,af,none⟩) (h0:oB (Nat.blt d n) (ev E x)=some (.pointer (some ⟨b,k,none⟩))) [hc:fL Fl b l tt R] (hv:kO l k=some v) (h:TF r n P ops tl Fl π ⟨D,(d,v)::E,L⟩ K):TF r n P ops tl Fl ((i,true)::π) ⟨D,E,L⟩ K:=aiT ho (lz h0).1 (lz h0).2 hv h
theorem cf [ht:iG P t true] [hz:hJ P t m] (ho:ops[i]? =some ⟨some d,.load t x,ty,pos,af,none⟩) (h0:oB (Nat.blt d n) (ev E x)=some (.pointer (some ⟨b,k,none⟩))) [hc:fL Fl b l tt R] (hv:mg k m l=some vs) (h:TF r n P ops tl Fl π ⟨D,(d,.agg vs.toArray)::E,L⟩ K):TF r n P ops tl Fl ((i,true)::π) ⟨D,E,L⟩ K:=ahw ho (lz h0).1 (lz h0).2 hv h
theorem aD {op:Op} {want:Bool} (ho:ops[i]? =some ⟨some d,op,ty,pos,af,some (j,want)⟩) (h0:Jt n d ops E j want=true) (h:TF r n P ops tl Fl π ⟨D,(d,undef)::E,L⟩ K):TF r n P ops tl Fl ((i,true)::π) ⟨D,E,L⟩ K:=by
 obtain ⟨hd,g,b,h1,h2,h3⟩:=Vn h0
 exact aeA ho h1 h2 h3 hd h
theorem aC {op:Op} {want:Bool} (ho:ops[i]? =some ⟨some d,op,ty,pos,af,some (j,want)⟩) (h0:(Nat.blt d n && Ju ops E j want)=true) (hy:Yl P E Fl op ty v) (h:TF r n P ops tl Fl π ⟨D,(d,v)::E,L⟩ K):TF r n P ops tl Fl ((i,true)::π) ⟨D,E,L⟩ K:=by
 rw [kc] at h0
 obtain ⟨g,h1,h2⟩:=Vo h0.2
 exact aiP ho h1 h2 h0.1 hy h
theorem pJ {inst:Decidable p} (g:Nat) (hl:dM E g=some (.bool (@decide p inst))) (hp:p) (h:TF r n P ops tl Fl π ⟨D,(g,.bool true)::E,L⟩ K):TF r n P ops tl Fl π ⟨D,E,L⟩ K:=er g hl (bi Value.bool (dV hp)) h
theorem lZ {inst:Decidable p} (g:Nat) (hl:dM E g=some (.bool (@decide p inst))) (hp:¬ p) (h:TF r n P ops tl Fl π ⟨D,(g,.bool false)::E,L⟩ K):TF r n P ops tl Fl π ⟨D,E,L⟩ K:=er g hl (bi Value.bool (cJ hp)) h
theorem oH (g:Nat) (v:Value) (hl:dM E g=some v) (h:TF r n P ops tl Fl π ⟨D,(g,v)::E,L⟩ K):TF r n P ops tl Fl π ⟨D,E,L⟩ K:=er g hl rfl h
end
class Ff (P:Program):Prop where
 m:P.follows .mixedOrders=true
def Nt (X:List (Nat × Nat)) (B:List Nat):List Nat->Nat->List Oper->List Nat
 | acc,_,[]=>acc
 | acc,j,o::r=>Nt X B (acc++[yv (acc++B.drop j) (wD X j o)]) (j+1) r
def Vs (X:List (Nat × Nat)) (l:List Oper):Nat->List Nat
 | 0=>Nt X (l.map λ_=>0) [] 0 l
 | k+1=>Nt X (Vs X l k) [] 0 l
def uT (X:List (Nat × Nat)) (l:List Oper):List Nat:=Vs X l X.length
def wE (l:List Nat):List (Nat × Bool):=l.map λn=>(n / 2,n % 2==0)
theorem bW {id:Nat} {l:List Oper} [hm:Ff P] (Fl:List HP) (tl p:List Nat) (cX:qO [] l (uT [] l) tl (wE p)=true) (oO:am s.L Fl) (h:TF r n P l.toArray tl Fl (wE p) s (λs'=>T r n P y s' Q)):T r n P (.seq (.region id l.toArray true) y) s Q:=Yw Fl (uT [] l) tl (wE p) hm.m cX oO h
theorem i5 {id:Nat} {l:List Oper} [hm:Ff P] (Fl:List HP) (tl p:List Nat) (cX:qO [] l (uT [] l) tl (wE p)=true) (oO:am s.L Fl) (h:TF r n P l.toArray tl Fl (wE p) s (λs'=>Q .normal s')):T r n P (.region id l.toArray true) s Q:=Qo Fl (uT [] l) tl (wE p) hm.m cX oO h
end
open Go Go.Lib
structure bZ (α:Type) where
 sz:Nat
 fO:Mem->α->List Value->Prop
 mono:∀ {M N:Mem} {x:α} {cs:List Value},M.le N->fO M x cs->fO N x cs
 len:∀ {M:Mem} {x:α} {cs:List Value},fO M x cs->cs.length=sz
 one:∀ {M:Mem} {x:α} {cs:List Value},fO M x cs->∀ v∈cs,v.oneCell'=true
def bP (k:IntKind) (x:Int):Prop:=k.min<=x/\x<=k.max
variable{x:Int}
theorem i64In (h:bP .i64 x):-9223372036854775808<=x/\x<=9223372036854775807:=by
 simpa [bP,IntKind.min,IntKind.max,IntKind.signed,IntKind.bits] using h
theorem da (h:-9223372036854775808<=x/\x<=9223372036854775807):bP .i64 x:=by
 simpa [bP,IntKind.min,IntKind.max,IntKind.signed,IntKind.bits] using h
theorem I1 (h:bP .u8 x):0<=x/\x<=255:=by
 simpa [bP,IntKind.min,IntKind.max,IntKind.signed,IntKind.bits] using h
theorem ET (h:0<=x/\x<=255):bP .u8 x:=by
 simpa [bP,IntKind.min,IntKind.max,IntKind.signed,IntKind.bits] using h
def cE:Nat:=281474976710656
def aI (k:IntKind):bZ Int:=⟨1,λ_ x cs=>cs=[.int k x]/\bP k x,λ_ h=>h,λh=>by simp [h.1],λh v hv=>by rw [h.1] at hv; simp at hv; subst hv; rfl⟩
def uU:bZ Bool:=⟨1,λ_ x cs=>cs=[.bool x],λ_ h=>h,λh=>by simp [h],λh v hv=>by rw [h] at hv; simp at hv; subst hv; rfl⟩
def jO:bZ ByteArray:=⟨1,λ_ x cs=>cs=[.string x]/\x.size<=cE,λ_ h=>h,λh=>by simp [h.1],λh v hv=>by rw [h.1] at hv; simp at hv; subst hv; rfl⟩
variable{α:Type}
def Iu (M:Mem) (R:bZ α) (b o:Nat) (xs:List α):Prop:=
 ∃ c t fr,M b=some (.cells c t fr)/\∀ i x,xs[i]? =some x->∃ l,R.fO M x l/\∀ j v,l[j]? =some v->c[o+i * R.sz+j]? =some v
def sliceAt (M:Mem) (R:bZ α) (A:Option Addr) (c:Nat) (xs:List α):Prop:=
 xs.length<=c/\xs.length<=cE/\(xs=[]\/∃ b o,A=some ⟨b,o,none⟩/\Iu M R b o xs)
theorem Iu.mono {α:Type} {N:Mem} {R:bZ α} {o:Nat} {xs:List α} (hM:M.le N) (h:Iu M R b o xs):Iu N R b o xs:=
 let ⟨c,t,fr,hb,hx⟩:=h
 ⟨c,t,fr,hM _ _ hb,λi x hi=>let ⟨l,hl,hc⟩:=hx i x hi; ⟨l,R.mono hM hl,hc⟩⟩
variable{A:Option Addr}{c:Nat}
theorem sliceAt.mono {α:Type} {N:Mem} {R:bZ α} {xs:List α} (hM:M.le N) (h:sliceAt M R A c xs):sliceAt N R A c xs:=
 ⟨h.1,h.2.1,h.2.2.imp id λ⟨b,o,e,hr⟩=>⟨b,o,e,hr.mono hM⟩⟩
theorem sliceAt.nil (M:Mem) (R:bZ α) (A:Option Addr) (c:Nat):sliceAt M R A c []:=⟨dF _,dF _,.inl rfl⟩
def sl (R:bZ α) (A:Option Addr) (c:Nat) (xs:List α):HP:=nV (λM=>sliceAt M R A c xs) (λhM h=>h.mono hM)
def is (R:bZ α) (x:α) (l:List Value):HP:=nV (λM=>R.fO M x l) (λhM h=>R.mono hM h)
def a_ (L:List HP) (R:bZ α) (A:Option Addr) (c:Nat) (xs:List α):Prop:=bV L (λM=>sliceAt M R A c xs)
class Iv (L:List HP) (A:Option Addr) (c:Nat) (α:outParam Type) (R:outParam (bZ α)) (xs:outParam (List α)):Prop where
 k:a_ L R A c xs
variable{p:HP}
instance {R:bZ α} {xs:List α} [h:Iv L A c α R xs]:Iv (p::L) A c α R xs:=⟨bV.tail h.k⟩
instance {R:bZ α} {xs:List α}:Iv (sl R A c xs::L) A c α R xs:=⟨bV.wC λ_ _ h=>h⟩
theorem slk {R:bZ α} {xs:List α} [h:Iv L A c α R xs]:a_ L R A c xs:=h.k
theorem dP {R:bZ α}:a_ L R A c ([]:List α):=bV.const λM=>sliceAt.nil M R A c
theorem a_.tail {α:Type} {R:bZ α} {xs:List α} (h:a_ L R A c xs):a_ (p::L) R A c xs:=bV.tail h
theorem a_.lay {α:Type} {R:bZ α} {xs:List α} (h:a_ L R A c xs):am L (sl R A c xs::L):=bV.lay h
theorem a_.dT {α:Type} {R:bZ α} {xs:List α} (g:am L L') (h:a_ L' R A c xs):a_ L R A c xs:=bV.dT g h
theorem a_.len {α:Type} {R:bZ α} {xs:List α} (h:a_ L R A c xs):bV L (λ_=>xs.length<=c/\xs.length<=cE):=h.mono λM h=>⟨h.1,h.2.1⟩
def aiU (M h:Mem) (R:bZ α) (t:TypeId) (A:Option Addr) (c:Nat) (xs:List α):Prop:=
 xs.length<=cE/\((c=0/\xs=[])\/∃ g cur,A=some ⟨g,0,none⟩/\h g=some (.cells cur t (0,0))/\cur.size=c * R.sz/\xs.length<=c/\c<=9223372036854775807∧
  ∀ i x,xs[i]? =some x->∃ l,R.fO M x l/\∀ j v,l[j]? =some v->cur[i * R.sz+j]? =some v)
def aN (R:bZ α) (t:TypeId) (A:Option Addr) (c:Nat) (xs:List α):HP:=
 ⟨λM h=>aiU M h R t A c xs,λhM hh h=>⟨h.1,h.2.imp id λ⟨g,cur,e,hg,hs,hl,hc,hx⟩=>⟨g,cur,e,hh _ _ hg,hs,hl,hc,λi x hi=>let ⟨l,hl,hc⟩:=hx i x hi; ⟨l,R.mono hM hl,hc⟩⟩⟩⟩
class md (L:List HP) (A:Option Addr) (c:Nat) (α:outParam Type) (R:outParam (bZ α)) (t:outParam TypeId) (xs:outParam (List α)) (L':outParam (List HP)):Prop where
 g:am L (aN R t A c xs::L')
instance {R:bZ α} {xs:List α} [h:md L A c α R t xs L']:md (p::L) A c α R t xs (p::L'):=⟨(am.cons p h.g).trans (am.swap p _ _)⟩
instance {R:bZ α} {xs:List α}:md (aN R t A c xs::L) A c α R t xs L:=⟨am.refl _⟩
theorem du (R:bZ α) (t:TypeId) (A:Option Addr) (L:List HP):am L (aN R t A 0 []::L):=λM m x=>
 ⟨Mem.emp,m,Mem.iD _,Mem.iu _,Mem.le_refl _,⟨dF _,.inl ⟨rfl,rfl⟩⟩,x⟩
theorem Uc {α:Type} {R:bZ α} {xs:List α}:bV (aN R t A c xs::L) (λ_=>xs.length<=c/\xs.length<=cE):=λM m ⟨h1,h2,hd,l1,l2,hp,hs⟩=>by
 refine ⟨?_,hp.1⟩
 rcases hp.2 with ⟨rfl,rfl⟩ | ⟨g,cur,_,_,_,hl,_⟩
 ·simp
 ·exact hl
theorem K8 {α:Type} {R:bZ α} {xs:List α} {o:World} (h:bH o w (aN R t A c xs::L)):bH o w (sl R A c xs::L):=by
 obtain ⟨M,k,hd,hM,hk,h1,h2,eW,l1,l2,hp,hs⟩:=h.ex
 rcases hp.2 with ⟨rfl,rfl⟩ | ⟨g,cur,rfl,hg,ew,hl,hc,hx⟩
 ·exact ⟨⟨M,k,hd,hM,hk,Mem.emp,h2,Mem.iD _,Mem.iu _,l2,sliceAt.nil _ _ _ _,hs⟩,h.os,h.tape,h.output,h.size⟩
 ·
  have jN:bH o w (own g (.cells cur t (0,0))::nV (λM=>∀ i x,xs[i]? =some x->∃ l,R.fO M x l/\∀ j v,l[j]? =some v->cur[i * R.sz+j]? =some v) (λhM h i x hi=>let ⟨l,a,b⟩:=h i x hi; ⟨l,R.mono hM a,b⟩)::L):=
   ⟨⟨M,k,hd,hM,hk,h1,h2,eW,l1,l2,hg,Mem.emp,h2,Mem.iD _,Mem.iu _,Mem.le_refl _,hx,hs⟩,h.os,h.tape,h.output,h.size⟩
  refine (bH.freeze jN).ay λM m ⟨k1,k2,kd,m1,m2,hi,k3,k4,BG,m3,m4,xk,fm⟩=> ?_
  refine ⟨Mem.emp,k4,Mem.iD _,Mem.iu _,Mem.le_trans m4 m2,⟨hl,hp.1,.inr ⟨g,0,rfl,cur,t,(0,0),hi,λi x OR=> ?_⟩⟩,fm⟩
  obtain ⟨l,a,b⟩:=xk i x OR
  exact ⟨l,a,λj v hj=>by rw [nD]; exact b j v hj⟩
section
variable {r:Option Nat} {n:Nat} {P:Program} {ops:Array Oper} {rest:List Oper} {K:St->Prop} {Q:Exit->St->Prop} {D:List Deferred} {E:cZ} {L L':List HP} {d:Nat} {ty:TypeId} {pos:String} {af:Array Edge}
variable {α:Type} {R:bZ α} {A:Option Addr} {c:Nat} {xs:List α}
theorem bF (h:TL r n P ops rest ⟨D,E,sl R A c xs::L⟩ K):TL r n P ops rest ⟨D,E,aN R t A c xs::L⟩ K:=λW a w hh=>h W a w ⟨hh.1,K8 hh.2⟩
theorem uF {c':Code} (h:T r n P c' ⟨D,E,sl R A c xs::L⟩ Q):T r n P c' ⟨D,E,aN R t A c xs::L⟩ Q:=λW a w hh=>h W a w ⟨hh.1,K8 hh.2⟩
theorem abs {o:Nat} (hk:a_ L R (some ⟨b,o,none⟩) c xs) {i:Int} {x:α} (hx:xs[i.toNat]? =some x):∀ W w,bH W w L->∃ l,bH W w (row b (o+i.toNat * R.sz) l::is R x l::L):=λW w hs=>by
 obtain ⟨M,m,hd,hM,hm,hsep⟩:=hs.ex
 obtain ⟨h1,h2,h3⟩:=hk M m hsep
 rcases h3 with e | ⟨b',o',e,cs,t,fr,hb,eH⟩
 ·rw [e] at hx; simp at hx
 ·cases e
  obtain ⟨l,hl,hc⟩:=eH _ _ hx
  exact ⟨l,⟨⟨M,m,hd,hM,hm,Mem.emp,m,Mem.iD _,Mem.iu _,Mem.le_refl _,⟨cs,t,fr,hb,hc⟩,Mem.emp,m,Mem.iD _,Mem.iu _,Mem.le_refl _,hl,hsep⟩,hs.os,hs.tape,hs.output,hs.size⟩⟩
variable{x:Operand}{e:TypeId}{k:Nat}
theorem bY [ht:dy P t (.slice e)] (hx:ev E x=some (.slice A k c)):Yl P E L (.call {callee:=.builtin .len,args:=#[x],argTypes:=#[t]}) ty (.int .i64 (k:Int)):=λn D W a w dst pos af g ha hs=>by
 simp [execOp,resolve,invoke,builtin,Builtin.len_,ha.ev hx,ht.run,goInt]
variable{s:ByteArray}
theorem uI [ht:dy P t .string] (hx:ev E x=some (.string s)):Yl P E L (.call {callee:=.builtin .len,args:=#[x],argTypes:=#[t]}) ty (.int .i64 (s.size:Int)):=λn D W a w dst pos af g ha hs=>by
 simp [execOp,resolve,invoke,builtin,Builtin.len_,ha.ev hx,ht.run,goInt]
variable{j:Int}
theorem Zf {i:Operand} {o:Nat} {ik:IntKind} [ht:dy P t (.slice e)] [hz:hJ P e m] (hx:ev E x=some (.slice (some ⟨b,o,none⟩) k c)) (hi:ev E i=some (.int ik j)) (hb:0<=j/\j < (k:Int)):
  Yl P E L (.indexAddr t x i) ty (.pointer (some ⟨b,o+j.toNat * m+0,none⟩)):=λn D W a w dst pos af g ha hs=>by
 simp [execOp,Instr.indexAt,ha.ev hx,ha.ev hi,asIntOf,ht.run,hz.run,hb,Addr.add_plain]
theorem aah {i:Operand} {ik:IntKind} [ht:dy P t .string] (hx:ev E x=some (.string s)) (hi:ev E i=some (.int ik j)) (hb:0<=j/\j < (s.size:Int)):
  Yl P E L (.index t x i) ty (.int .u8 ((s[j.toNat]'(by omega)).toNat)):=λn D W a w dst pos af g ha hs=>by
 have hj:j.toNat < s.size:=by omega
 have:s[j.toNat]? =some (s[j.toNat]'hj):=getElem?_pos s j.toNat hj
 simp [execOp,Instr.index,ha.ev hx,ha.ev hi,asIntOf,ht.run,hb,this]
def oI (A:Option Addr) (l cap sz:Nat):Option Addr:=if cap=l then A else A.map (·.add (l * sz))
variable{i:Int}
theorem HV {y:Nat} {k:IntKind} {code:BoundsCode} (h:0<=i/\i<=(y:Int)):(Instr.sliceBound (.int k i) y code).run P w=.ok i.toNat w:=by
 simp [Instr.sliceBound,asIntOf,h]
variable{hi:Operand}{k1 k2:IntKind}
theorem aeB {lo:Operand} [ht:dy P t (.slice e)] [hz:hJ P e m] (hx:ev E x=some (.slice A k c)) (hl:ev E lo=some (.int k1 i)) (hh:ev E hi=some (.int k2 j)) (hb:0<=i/\i<=j/\j<=(c:Int)):
  Yl P E L (.slice t x (some lo) (some hi) none) ty (.slice (oI A i.toNat c m) (j.toNat - i.toNat) (c - i.toNat)):=λn D W a w dst pos af g ha hs=>by
 have h1:i<=((j.toNat:Nat):Int):=by omega
 have h2:0<=j:=by omega
 have r1:∀ code w,(Instr.sliceBound (.int k2 j) c code).run P w=.ok j.toNat w:=λ_ _=>HV ⟨h2,hb.2.2⟩
 have r2:∀ code w,(Instr.sliceBound (.int k1 i) j.toNat code).run P w=.ok i.toNat w:=λ_ _=>HV ⟨hb.1,h1⟩
 simp [execOp,Instr.sliceAt,Instr.slice,Instr.sliceBounds,ha.ev hx,ha.ev hl,ha.ev hh,ht.run,hz.run,r1,r2,oI]
theorem EU {lo:Operand} [ht:dy P t (.slice e)] [hz:hJ P e m] (hx:ev E x=some (.slice A k c)) (hl:ev E lo=some (.int k1 i)) (hb:0<=i/\i<=(k:Int)):
  Yl P E L (.slice t x (some lo) none none) ty (.slice (oI A i.toNat c m) (k - i.toNat) (c - i.toNat)):=λn D W a w dst pos af g ha hs=>by
 simp [execOp,Instr.sliceAt,Instr.slice,Instr.sliceBounds,ha.ev hx,ha.ev hl,ht.run,hz.run,Instr.sliceBound,asIntOf,hb,oI]
theorem Ii [ht:dy P t (.slice e)] [hz:hJ P e m] (hx:ev E x=some (.slice A k c)) (hh:ev E hi=some (.int k2 j)) (hb:0<=j/\j<=(c:Int)):
  Yl P E L (.slice t x none (some hi) none) ty (.slice A j.toNat c):=λn D W a w dst pos af g ha hs=>by
 have:(if c=0 then A else A.map (·.add (0 * m)))=A:=by
  split
  ·rfl
  ·cases A <;> simp [Addr.add]
 simp [execOp,Instr.sliceAt,Instr.slice,Instr.sliceBounds,ha.ev hx,ha.ev hh,ht.run,hz.run,Instr.sliceBound,asIntOf,hb]
 cases A <;> simp [Addr.add]
theorem Ma {mx:Operand} {k3:IntKind} {q:Int} [ht:dy P t (.slice e)] [hz:hJ P e m] (hx:ev E x=some (.slice A k c)) (hh:ev E hi=some (.int k2 j)) (hm:ev E mx=some (.int k3 q)) (hb:0<=j/\j<=q/\q<=(c:Int)):
  Yl P E L (.slice t x none (some hi) (some mx)) ty (.slice A j.toNat q.toNat):=λn D W a w dst pos af g ha hs=>by
 have h2:0<=j:=by omega
 have h3:0<=q:=by omega
 have h4:j<=((q.toNat:Nat):Int):=by omega
 have r0:∀ code w,(Instr.sliceBound (.int k3 q) c code).run P w=.ok q.toNat w:=λ_ _=>HV ⟨h3,hb.2.2⟩
 have r1:∀ code w,(Instr.sliceBound (.int k2 j) q.toNat code).run P w=.ok j.toNat w:=λ_ _=>HV ⟨h2,h4⟩
 cases A <;> simp [execOp,Instr.sliceAt,Instr.slice,Instr.sliceBounds,ha.ev hx,ha.ev hh,ha.ev hm,ht.run,hz.run,r0,r1,Addr.add]
theorem ac2 {lo hi:Option Operand} {i j:Nat} [ht:dy P t .string] (hx:ev E x=some (.string s)) (hl:lo=none/\i=0\/∃ y,lo=some y/\ev E y=some (.int k1 (i:Int))) (hh:hi=none/\j=s.size\/∃ y,hi=some y/\ev E y=some (.int k2 (j:Int))) (hb:i<=j/\j<=s.size):
  Yl P E L (.slice t x lo hi none) ty (.string (s.extract i j)):=λn D W a w dst pos af g ha hs=>by
 have h1:(i:Int)<=(j:Int):=by omega
 have h2:(j:Int)<=(s.size:Int):=by omega
 have h3:(i:Int)<=(s.size:Int):=by omega
 rcases hl with ⟨rfl,rfl⟩ | ⟨y,rfl,hy⟩ <;> rcases hh with ⟨rfl,rfl⟩ | ⟨z,rfl,hz⟩
 ·simp [execOp,Instr.sliceAt,Instr.slice,Instr.sliceBounds,ha.ev hx,ht.run]
 ·simp [execOp,Instr.sliceAt,Instr.slice,Instr.sliceBounds,ha.ev hx,ha.ev hz,ht.run,Instr.sliceBound,asIntOf,hb,h1,h2]
 ·simp [execOp,Instr.sliceAt,Instr.slice,Instr.sliceBounds,ha.ev hx,ha.ev hy,ht.run,Instr.sliceBound,asIntOf,hb,h1,h2,h3]
 ·simp [execOp,Instr.sliceAt,Instr.slice,Instr.sliceBounds,ha.ev hx,ha.ev hy,ha.ev hz,ht.run,Instr.sliceBound,asIntOf,hb,h1,h2,h3]
theorem sliceAt.cut (h:sliceAt M R A c xs) (i j cap:Nat) (kA:i<=j) (hj:j<=xs.length) (wV:j<=cap):sliceAt M R (oI A i cap R.sz) (cap - i) ((xs.take j).drop i):=by
 have eP:((xs.take j).drop i).length=j - i:=by simp; omega
 refine ⟨by rw [eP]; omega,by rw [eP]; have:=h.2.1; omega, ?_⟩
 by_cases ajF:i=j
 ·left; apply rC; omega
 ·rcases h.2.2 with e | ⟨b,o,rfl,cs,t,fr,hb,eH⟩
  ·subst e; left; simp
  ·right
   refine ⟨b,o+i * R.sz, ?_,cs,t,fr,hb,λk x hk=> ?_⟩
   ·unfold oI; rw [if_neg (by omega)]; simp [Addr.add_plain]
   ·rw [qF,m8] at hk
    split at hk
    ·obtain ⟨l,hl,hc⟩:=eH _ _ hk
     refine ⟨l,hl,λq v hq=> ?_⟩
     have:=hc q v hq
     rwa [jI, <- zR] at this
    ·cases hk
theorem a_.cut (h:a_ L R A c xs) (i j cap:Nat) (kA:i<=j) (hj:j<=xs.length) (wV:j<=cap):a_ L R (oI A i cap R.sz) (cap - i) ((xs.take j).drop i):=h.mono λM h=>h.cut i j cap kA hj wV
variable{z:Value}
theorem xW {size bytes:Nat} [h:mD P e z size bytes]:∃ i,P.info? e=some i/\i.zero=some z/\i.size=size/\i.bytes=bytes:=by
 have:=h.ajy
 cases hi:P.info? e with
 | none=>rw [hi] at this; cases this
 | some i=>
  rw [hi] at this
  simp only [qI,kH,Prod.mk.injEq] at this
  exact ⟨i,rfl,this.1,this.2.1,this.2.2⟩
theorem ML {xl:TypeDesc} (h:∀ k,xl≠.int k):(match xl with | .int _=>true | _=>false)=false:=by
 cases xl <;> first | rfl | (rename_i k; exact absurd rfl (h k))
theorem Ko {size n c:Nat} {news:List Value} {A:Option Addr} (hw:w'.heap=w.heap) (hA:n=0\/∃ a,A=some a/\∀ j v,news[j]? =some v->w.cell? (a.add j)=some v) (hl:news.length=n * size):
  (Builtin.firstCells size n (.slice A n c)).run P w'=.ok news.toArray w':=by
 cases A with
 | none=>
  rcases hA with rfl | ⟨a,e,_⟩
  ·have:news=[]:=rC (by simpa using hl)
   subst this
   simp [Builtin.firstCells]
  ·cases e
 | some a=>
  have hc:∀ j v,news[j]? =some v->w'.cell? (a.add j)=some v:=by
   intro j v hj
   rcases hA with rfl | ⟨a',e,hc⟩
   ·have:news=[]:=rC (by simpa using hl)
    subst this
    simp at hj
   ·cases e
    rw [<- hc j v hj]
    simp only [World.cell?,hw]
  simp only [Builtin.firstCells, <- hl]
  exact run_loadCells_list w' a news hc
structure vt (P:Program) (u:TypeId) (size:Nat) (v:Value) (n:Nat) (news:List Value) (w:World):Prop where
 desc:∃ xl,(∀ w,(underlying u).run P w=.ok xl w)/\∀ k,xl≠.int k
 len:∀ w,(Builtin.lenOf v).run P w=.ok n w
 cells:∀ w':World,w'.heap=w.heap->(Builtin.firstCells size n v).run P w'=.ok news.toArray w'
 count:news.length=n * size
 one:∀ u∈news,u.oneCell'=true
variable{u:TypeId}
theorem LA {size n c:Nat} {news:List Value} {A:Option Addr} [hu:dy P u (.slice e)] (hA:n=0\/∃ a,A=some a/\∀ j v,news[j]? =some v->w.cell? (a.add j)=some v) (hl:news.length=n * size) (h1:∀ u∈news,u.oneCell'=true):vt P u size (.slice A n c) n news w:=by
 exact ⟨⟨_,hu.run,λk e=>by cases e⟩,λw=>by simp [Builtin.lenOf],λw' hw=>Ko hw hA hl,hl,h1⟩
theorem abt [hu:dy P u .string]:vt P u 1 (.string s) s.size (strCells s) w:=
 ⟨⟨_,hu.run,λk e=>by cases e⟩,λw=>by simp [Builtin.lenOf],λw' _=>run_firstCells_string w' 1 s,by simp [strCells_length],strCells_oneCell s⟩
variable{ty':TypeId}
theorem XU {size bytes g fx jg m:Nat} {cur:List Value} {news:List Value} [ht:dy P t (.slice e)] [he:mD P e z size bytes] (hs:vt P u size v m news w) (hg:w.heap[g]? =some (.cells cur.toArray e (0,0))) 
  (p_:fx+m<=jg) (jP:(fx+m) * size<=cur.length):
  (Builtin.append_ #[t,u] ty' #[.slice (some ⟨g,0,none⟩) fx jg,v]).run P w=.ok (.slice (some ⟨g,0,none⟩) (fx+m) jg) (w.setRow g (cur.take (fx * size)++news++cur.drop ((fx+m) * size)).toArray):=by
 obtain ⟨i,hi,hz,ew,ic⟩:=xW (P:=P) (e:=e) (z:=z) (size:=size) (bytes:=bytes)
 obtain ⟨xl,hd,ib⟩:=hs.desc
 have cK:=run_storeCells_at P g (fx * size) e news 0 cur.toArray w hg (by simp [hs.count, <- jI]; exact jP) hs.one
 simp only [sD] at cK
 have hb:=ML ib
 have hc:=hs.cells w rfl
 simp [Builtin.append_,ht.run,hd,hb,sizeOf,typeInfo,hi,ew,hs.len,p_,hc,Addr.add_plain,cK,hs.count,jI]
theorem XV {size bytes fx jg:Nat} {A:Option Addr} [ht:dy P t (.slice e)] [he:mD P e z size bytes] (hs:vt P u size v 0 [] w) (p_:fx<=jg):
  (Builtin.append_ #[t,u] ty' #[.slice A fx jg,v]).run P w=.ok (.slice A fx jg) w:=by
 obtain ⟨i,hi,hz,ew,ic⟩:=xW (P:=P) (e:=e) (z:=z) (size:=size) (bytes:=bytes)
 obtain ⟨xl,hd,ib⟩:=hs.desc
 have hb:=ML ib
 have hc:=hs.cells w rfl
 cases A <;> simp [Builtin.append_,ht.run,hd,hb,sizeOf,typeInfo,hi,ew,hs.len,p_,hc,storeCells]
theorem Qp {size bytes fx jg m:Nat} {A:Option Addr} {iO news:List Value} [ht:dy P t (.slice e)] [he:mD P e z size bytes] (hs:vt P u size v m news w) 
  (OS:iO.length=fx * size) (holds:fx=0\/∃ a,A=some a/\∀ j v,iO[j]? =some v->w.cell? (a.add j)=some v) (hg:jg < fx+m) (OT:fx+m<=9223372036854775807) (jP:(fx+m) * bytes<=140737488355328):
  (Builtin.append_ #[t,u] ty' #[.slice A fx jg,v]).run P w=.ok (.slice (some ⟨w.heap.size,0,none⟩) (fx+m) (grownCap w (fx+m) jg e))
   (w.drew.alloc (.cells (iO.toArray++news.toArray++Builtin.zeroCells z.cells (grownCap w (fx+m) jg e - (fx+m))) e)):=by
 obtain ⟨i,hi,hz,ew,ic⟩:=xW (P:=P) (e:=e) (z:=z) (size:=size) (bytes:=bytes)
 obtain ⟨xl,hd,ib⟩:=hs.desc
 have hb:=ML ib
 have hn:¬ (fx+m<=jg):=by omega
 have N3:¬ (9223372036854775807 < ((fx:Int)+(m:Int))):=by omega
 have BH:=growslice_fits hg jP
 have N4:¬ (281474976710656 < Builtin.nextslicecap (fx+m) jg * bytes):=by omega
 have hc:=hs.cells w.drew rfl
 have OU:(Builtin.firstCells size fx (.slice A fx jg)).run P w.drew=.ok iO.toArray w.drew:=Ko (w:=w) rfl holds OS
 simp [Builtin.append_,ht.run,hd,hb,sizeOf,typeInfo,zeroValue,hi,hz,ew,ic,hs.len,hn,N3,N4,Question.forced,hc,OU,newRow,grownCap]
 rw [<- List.append_toArray,Array.append_assoc]
end
open Go Go.Lib
theorem dy.under {d:TypeDesc} [h:dy P t d]:P.underlying t=some d:=by
 have:=h.run default
 unfold underlying at this
 simp only [Sem.run_bind] at this
 cases e:P.underlying t with
 | none=>simp [e,program,stuck,Sem.run] at this
 | some d'=>
  simp only [program,Sem.run,Result.andThen,e] at this
  have e2:(Result.ok d' default:Result TypeDesc)=.ok d default:=this
  injection e2 with e3
  rw [e3]
variable{e:TypeId}{z:Value}
theorem mD.sz {size bytes:Nat} [h:mD P e z size bytes] (w:World):(sizeOf e).run P w=.ok size w:=by
 obtain ⟨i,hi,hz,ew,ic⟩:=xW (P:=P) (e:=e) (z:=z) (size:=size) (bytes:=bytes)
 simp [sizeOf,typeInfo,hi,ew]
section
variable {r:Option Nat} {n:Nat} {P:Program} {ops:Array Oper} {rest:List Oper} {K:St->Prop} {Q:Exit->St->Prop} {D:List Deferred} {E:cZ} {L L':List HP} {d:Nat} {ty:TypeId} {pos:String} {af:Array Edge}
variable {α:Type} {R:bZ α} {A:Option Addr} {c:Nat} {xs ys:List α}
def f9 (M:Mem) (R:bZ α):List α->List Value->Prop
 | [],cs=>cs=[]
 | x::xs,cs=>∃ l r',R.fO M x l/\f9 M R xs r'/\cs=l++r'
theorem xX {M N:Mem} (hM:M.le N):∀ {xs:List α} {cs:List Value},f9 M R xs cs->f9 N R xs cs
 | [],cs,h=>h
 | x::xs,cs,⟨l,r',h1,h2,e⟩=>⟨l,r',R.mono hM h1,xX hM h2,e⟩
theorem f9.length {M:Mem}:∀ {xs:List α} {cs:List Value},f9 M R xs cs->cs.length=xs.length * R.sz
 | [],cs,h=>by simp [show cs=[] from h]
 | x::xs,cs,⟨l,r',h1,h2,e⟩=>by
  subst e
  simp [R.len h1,f9.length h2,jI]
  omega
theorem f9.one {M:Mem}:∀ {xs:List α} {cs:List Value},f9 M R xs cs->∀ v∈cs,v.oneCell'=true
 | [],cs,h=>by simp [show cs=[] from h]
 | x::xs,cs,⟨l,r',h1,h2,e⟩=>by
  subst e
  intro v hv
  rcases gD.1 hv with hv | hv
  ·exact R.one h1 v hv
  ·exact f9.one h2 v hv
theorem f9.at_ {M:Mem}:∀ {xs:List α} {cs:List Value},f9 M R xs cs->∀ i x,xs[i]? =some x->∃ l,R.fO M x l/\∀ j v,l[j]? =some v->cs[i * R.sz+j]? =some v
 | [],cs,h,i,x,hi=>by simp at hi
 | y::xs,cs,⟨l,r',h1,h2,e⟩,0,x,hi=>by
  simp at hi
  subst hi; subst e
  refine ⟨l,h1,λj v hj=> ?_⟩
  have:j < l.length:=(dX.1 hj).1
  simp [kF this,hj]
 | y::xs,cs,⟨l,r',h1,h2,e⟩,i+1,x,hi=>by
  obtain ⟨l',h3,h4⟩:=f9.at_ h2 i x (by simpa using hi)
  subst e
  refine ⟨l',h3,λj v hj=> ?_⟩
  rw [nA (by rw [R.len h1,jI]; omega),R.len h1,show (i+1) * R.sz+j - R.sz=i * R.sz+j by rw [jI]; omega]
  exact h4 j v hj
theorem f9.append {M:Mem}:∀ {xs ys:List α} {cs ds:List Value},f9 M R xs cs->f9 M R ys ds->f9 M R (xs++ys) (cs++ds)
 | [],ys,cs,ds,h,k=>by rw [show cs=[] from h]; exact k
 | x::xs,ys,cs,ds,⟨l,r',h1,h2,e⟩,k=>⟨l,r'++ds,h1,f9.append h2 k,by rw [e,fh]⟩
theorem Ei {M:Mem} {cur:Array Value} {o:Nat}:∀ {xs:List α} {k:Nat},(∀ i x,xs[i]? =some x->∃ l,R.fO M x l/\∀ j v,l[j]? =some v->cur[o+(k+i) * R.sz+j]? =some v)->∃ cs,f9 M R xs cs/\∀ j v,cs[j]? =some v->cur[o+k * R.sz+j]? =some v
 | [],k,h=>⟨[],rfl,λj v hj=>by simp at hj⟩
 | x::xs,k,h=>by
  obtain ⟨l,h1,h2⟩:=h 0 x rfl
  obtain ⟨cs,h3,h4⟩:=Ei (xs:=xs) (k:=k+1) (λi y hi=>by
   obtain ⟨l',a,b⟩:=h (i+1) y (by simpa using hi)
   refine ⟨l',a,λj v hj=> ?_⟩
   have:=b j v hj
   rwa [show k+(i+1)=k+1+i by omega] at this)
  refine ⟨l++cs,⟨l,cs,h1,h3,rfl⟩,λj v hj=> ?_⟩
  by_cases hl:j < l.length
  ·rw [kF hl] at hj
   exact h2 j v hj
  ·rw [nA (by omega)] at hj
   have:=h4 _ v hj
   rw [R.len h1] at this
   rw [R.len h1] at hl
   rwa [show o+(k+1) * R.sz+(j - R.sz)=o+k * R.sz+j by rw [jI]; omega] at this
theorem Hl (hM:M.le (heapOf w)) (h:sliceAt M R A c xs):∃ cs,f9 M R xs cs/\(xs.length=0\/∃ a,A=some a/\∀ j v,cs[j]? =some v->w.cell? (a.add j)=some v):=by
 rcases h.2.2 with rfl | ⟨b,o,rfl,cur,t,fr,hb,eH⟩
 ·exact ⟨[],rfl,.inl rfl⟩
 ·obtain ⟨cs,h1,h2⟩:=Ei (R:=R) (M:=M) (cur:=cur) (o:=o) (xs:=xs) (k:=0) (λi x hi=>by
   obtain ⟨l,a,b⟩:=eH i x hi
   exact ⟨l,a,λj v hj=>by rw [nD]; exact b j v hj⟩)
  refine ⟨cs,h1,.inr ⟨_,rfl,λj v hj=> ?_⟩⟩
  rw [Addr.add_plain,rK (hM _ _ hb)]
  simpa using h2 j v hj
def f4 (s:ByteArray):List Int:=s.data.toList.map λb=>(b.toNat:Int)
theorem nE (s:ByteArray):(f4 s).length=s.size:=by simp [f4]
theorem Qq (M:Mem) (s:ByteArray):f9 M (aI .u8) (f4 s) (strCells s):=by
 unfold f4 strCells
 induction s.data.toList with
 | nil=>rfl
 | cons b r ih=>
  refine ⟨[.int .u8 b.toNat],_,⟨rfl,ET ?_⟩,ih,rfl⟩
  have:=b.toNat_lt
  show 0<=(b.toNat:Int)/\(b.toNat:Int)<=255
  omega
variable{u:TypeId}
theorem K9 {bytes c:Nat} {news:List Value} [ht:dy P t (.slice e)] [he:mD P e z R.sz bytes] (hb:0 < bytes) (ga:z.cells.size=R.sz) (hs:bH W w (aN R e A c xs::L)) (rV:vt P u R.sz v ys.length news w) 
  (M7:∀ M h,Sep L M h->M.le (heapOf w)->f9 M R ys news) (jP:(xs.length+ys.length) * bytes<=140737488355328) (ty':TypeId):
  ∃ A' c' w',(Builtin.append_ #[t,u] ty' #[.slice A xs.length c,v]).run P w=.ok (.slice A' (xs++ys).length c') w'/\bH W w' (aN R e A' c' (xs++ys)::L):=by
 have eP:(xs++ys).length=xs.length+ys.length:=by simp
 have VU:xs.length+ys.length<=140737488355328:=kf (G_ _ hb) jP
 have E5:(xs++ys).length<=cE:=by rw [eP]; unfold cE; omega
 obtain ⟨M,k,hd,hM,hk,h1,h2,eW,l1,l2,hp,hsep⟩:=hs.ex
 have pK:=M7 M h2 hsep hM
 have grow:∀ (iO:List Value),f9 M R xs iO->(xs.length=0\/∃ a,A=some a/\∀ j v,iO[j]? =some v->w.cell? (a.add j)=some v)->c < xs.length+ys.length→
   ∃ A' c' w',(Builtin.append_ #[t,u] ty' #[.slice A xs.length c,v]).run P w=.ok (.slice A' (xs++ys).length c') w'/\bH W w' (aN R e A' c' (xs++ys)::L):=by
  intro iO ho hold hg
  have hr:=Qp (P:=P) (t:=t) (ty':=ty') rV ho.length hold hg (by omega) jP
  refine ⟨_,_,_,by rw [eP]; exact hr, ?_⟩
  have wV:=grownCap_ge w (xs.length+ys.length) c e
  have Fg:grownCap w (xs.length+ys.length) c e<=maxLen:=grownCap_le_maxLen w _ c e (by simp only [maxLen]; omega)
  have jN:bH W w.drew L:=(hs.ay (am.drop _ _)).drew
  have Fh:bH W w.drew (nV (λM=>f9 M R (xs++ys) (iO++news)) (λhM h=>xX hM h)::L):=by
   refine ⟨⟨M,h2,Mem.i' hd (Mem.le_refl _) l2,hM,Mem.le_trans l2 hk,Mem.emp,h2,Mem.iD _,Mem.iu _,Mem.le_refl _,ho.append pK,hsep⟩,jN.os,jN.tape,jN.output,jN.size⟩
  have eH:=Fh.alloc (.cells (iO.toArray++news.toArray++Builtin.zeroCells z.cells (grownCap w (xs.length+ys.length) c e - (xs.length+ys.length))) e)
  refine eH.ay λN m ⟨k1,k2,kd,m1,m2,ha,k3,k4,BG,m3,m4,mM,fm⟩=> ?_
  refine ⟨k1,k4,Mem.i' kd (Mem.le_refl _) m4,m1,Mem.le_trans m4 m2,⟨E5,.inr ⟨_,_,rfl,ha, ?_,by rw [eP]; exact wV,by simpa [maxLen] using Fg,λi x hi=> ?_⟩⟩,fm⟩
  ·have za:=ho.length
   have n3:=pK.length
   simp only [Array.size_append,qH,size_zeroCells,za,n3,ga, <- jI]
   congr 1
   omega
  ·obtain ⟨l,a,b⟩:=mM.at_ i x hi
   refine ⟨l,a,λj v hj=> ?_⟩
   have hb:=b j v hj
   have cL:i * R.sz+j < (iO++news).length:=(dX.1 hb).1
   rw [G7 (by simpa using cL)]
   simpa using hb
 rcases hp.2 with ⟨rfl,rfl⟩ | ⟨g,cur,rfl,hg,ew,hl,hc,hx⟩
 ·by_cases hm:ys.length=0
  ·have:ys=[]:=rC hm
   subst this
   have hn:news=[]:=rC (by simpa using rV.count)
   subst hn
   exact ⟨A,0,w,XV rV (fo _),hs⟩
  ·exact grow [] rfl (.inl rfl) (by simp; omega)
 ·have hw:w.heap[g]? =some (.cells cur e (0,0)):=hk _ _ (l1 _ _ hg)
  by_cases p_:xs.length+ys.length<=c
  ·have Nu:(xs.length+ys.length) * R.sz<=cur.toList.length:=by simp [ew]; exact nB _ p_
   have hr:=XU (P:=P) (t:=t) (ty':=ty') (cur:=cur.toList) rV (by simpa using hw) p_ Nu
   refine ⟨_,_,_,by rw [eP]; exact hr, ?_⟩
   have AG:bH W w (own g (.cells cur e (0,0))::nV (λM=>(∀ i x,xs[i]? =some x->∃ l,R.fO M x l/\∀ j v,l[j]? =some v->cur[i * R.sz+j]? =some v)/\f9 M R ys news) (λhM h=>⟨λi x hi=>let ⟨l,a,b⟩:=h.1 i x hi; ⟨l,R.mono hM a,b⟩,xX hM h.2⟩)::L):=
    ⟨⟨M,k,hd,hM,hk,h1,h2,eW,l1,l2,hg,Mem.emp,h2,Mem.iD _,Mem.iu _,Mem.le_refl _,⟨hx,pK⟩,hsep⟩,hs.os,hs.tape,hs.output,hs.size⟩
   have py:=bH.set AG (w':=w.setRow g (cur.toList.take (xs.length * R.sz)++news++cur.toList.drop ((xs.length+ys.length) * R.sz)).toArray) (y:=.cells (cur.toList.take (xs.length * R.sz)++news++cur.toList.drop ((xs.length+ys.length) * R.sz)).toArray e (0,0))
    (by simp only [World.setRow,qD,if_true,hw,qI]) (λi hi=>by simp only [World.setRow,qD]; rw [if_neg (Ne.symm hi)]) rfl rfl rfl (by simp [World.setRow])
   refine py.ay λN m ⟨k1,k2,kd,m1,m2,ha,k3,k4,BG,m3,m4,⟨xk,zb⟩,fm⟩=> ?_
   have pL:=zb.length
   have kU:cur.toList.length=c * R.sz:=by simp [ew]
   refine ⟨k1,k4,Mem.i' kd (Mem.le_refl _) m4,m1,Mem.le_trans m4 m2,⟨E5,.inr ⟨g,_,rfl,ha, ?_,by rw [eP]; exact p_,hc,λi x hi=> ?_⟩⟩,fm⟩
   ·simp only [qH,eQ,gq,uB,pL,kU]
    have e1:(xs.length+ys.length) * R.sz=xs.length * R.sz+ys.length * R.sz:=jI _ _ _
    omega
   ·have e1:(xs.length+ys.length) * R.sz=xs.length * R.sz+ys.length * R.sz:=jI _ _ _
    have gt:xs.length * R.sz<=cur.toList.length:=by omega
    have mn:(cur.toList.take (xs.length * R.sz)).length=xs.length * R.sz:=by rw [gq]; omega
    by_cases dW:i < xs.length
    ·rw [kF dW] at hi
     obtain ⟨l,a,b⟩:=xk i x hi
     refine ⟨l,a,λj v hj=> ?_⟩
     have kB:j < R.sz:=by rw [<- R.len a]; exact (dX.1 hj).1
     have fV:i * R.sz+j < xs.length * R.sz:=by
      have:(i+1) * R.sz<=xs.length * R.sz:=nB _ dW
      rw [jI] at this
      omega
     have hb:=b j v hj
     simp only [tB]
     rw [fh,kF (by omega),m8,if_pos fV]
     simpa using hb
    ·rw [nA (by omega)] at hi
     obtain ⟨l,a,b⟩:=zb.at_ _ x hi
     refine ⟨l,a,λj v hj=> ?_⟩
     have hb:=b j v hj
     have cL:(i - xs.length) * R.sz+j < news.length:=(dX.1 hb).1
     have DD:xs.length * R.sz<=i * R.sz:=nB _ (by omega)
     have N5:(i - xs.length) * R.sz=i * R.sz - xs.length * R.sz:=Nat.sub_mul _ _ _
     simp only [tB]
     rw [fh,nA (by omega),mn,show i * R.sz+j - xs.length * R.sz=(i - xs.length) * R.sz+j by omega,kF cL]
     exact hb
  ·obtain ⟨iO,h3,h4⟩:=Ei (R:=R) (M:=M) (cur:=cur) (o:=0) (xs:=xs) (k:=0) (λi x hi=>by
    obtain ⟨l,a,b⟩:=hx i x hi
    exact ⟨l,a,λj v hj=>by rw [nD,nD]; exact b j v hj⟩)
   refine grow iO h3 (.inr ⟨_,rfl,λj v hj=> ?_⟩) (by omega)
   rw [Addr.add_plain,rK hw]
   simpa using h4 j v hj
variable{x y:Operand}{A2:Option Addr}
theorem fi {bytes c2:Nat} {L0:List HP} [ht:dy P t (.slice e)] [hu:dy P u (.slice e)] (hd:Nat.blt d n=true) (hx:ev E x=some (.slice A xs.length c)) (hy:ev E y=some (.slice A2 ys.length c2)) [hf:md L A c α R e xs L0] 
  [he:mD P e z R.sz bytes] (hz:z.cells.size=R.sz) (hb:Nat.blt 0 bytes=true) (rV:a_ L0 R A2 c2 ys) (jP:(xs.length+ys.length) * bytes<=140737488355328)
  (h:∀ A' c',TL r n P ops rest ⟨D,(d,.slice A' (xs++ys).length c')::E,aN R e A' c' (xs++ys)::L0⟩ K):
  TL r n P ops (⟨some d,.call {callee:=.builtin .append,args:=#[x,y],argTypes:=#[t,u]},ty,pos,af,none⟩::rest) ⟨D,E,L⟩ K:=
 ma rfl hd rfl (λ_ e=>by cases e) λW a w hh=>by
  have hs:=hh.2.ay hf.g
  have xm:=hs.ay (am.drop _ _)
  obtain ⟨M,k,mK,hM,hk,hsep⟩:=xm.ex
  obtain ⟨cs,h1,h2⟩:=Hl hM (rV M k hsep)
  have fW:vt P u R.sz (.slice A2 ys.length c2) ys.length cs w:=LA (u:=u) (e:=e) h2 h1.length h1.one
  have jN:bH W w (aN R e A c xs::nV (λM=>f9 M R ys cs) (λhM h=>xX hM h)::L0):=by
   obtain ⟨M',k',I2,xn,ko,g1,g2,gd,m1,m2,hp,Fi⟩:=hs.ex
   obtain ⟨tg,q1,q2⟩:=Hl xn (rV M' g2 Fi)
   have:tg=cs:=by
    apply zP
    intro j
    by_cases hj:j < ys.length * R.sz
    ·rcases q2 with e0 | ⟨a1,e1,q3⟩
     ·rw [e0] at hj; simp at hj
     ·rcases h2 with e0 | ⟨a2,e2,h3⟩
      ·rw [e0] at hj; simp at hj
      ·rw [e1] at e2; cases e2
       have l1:j < tg.length:=by rw [q1.length]; exact hj
       have l2:j < cs.length:=by rw [h1.length]; exact hj
       have v1:=q3 j _ (cj l1)
       have v2:=h3 j _ (cj l2)
       rw [v1] at v2
       rw [cj l1,cj l2]
       exact v2
    ·rw [xT (by rw [q1.length]; omega),xT (by rw [h1.length]; omega)]
   subst this
   exact ⟨⟨M',k',I2,xn,ko,g1,g2,gd,m1,m2,hp,Mem.emp,g2,Mem.iD _,Mem.iu _,Mem.le_refl _,q1,Fi⟩,hs.os,hs.tape,hs.output,hs.size⟩
  obtain ⟨A',c',w',hr,fm⟩:=K9 (P:=P) (t:=t) (u:=u) (by simpa using hb) hz jN fW (λN m hm _=>by obtain ⟨_,_,_,_,_,hp,_⟩:=hm; exact hp) jP ty
  refine ⟨_,w',_, ?_,fm.ay (am.cons _ (am.drop _ _)),h A' c'⟩
  simp [execOp,resolve,invoke,builtin,hh.1.ev hx,hh.1.ev hy,hr]
theorem Kt {s:ByteArray} {xs:List Int} {L0:List HP} [ht:dy P t (.slice e)] [hu:dy P u .string] (hd:Nat.blt d n=true) (hx:ev E x=some (.slice A xs.length c)) (hy:ev E y=some (.string s)) [hf:md L A c Int (aI .u8) e xs L0] 
  [he:mD P e z 1 1] (hz:z.cells.size=1) (jP:xs.length+s.size<=140737488355328)
  (h:∀ A' c',TL r n P ops rest ⟨D,(d,.slice A' (xs++f4 s).length c')::E,aN (aI .u8) e A' c' (xs++f4 s)::L0⟩ K):
  TL r n P ops (⟨some d,.call {callee:=.builtin .append,args:=#[x,y],argTypes:=#[t,u]},ty,pos,af,none⟩::rest) ⟨D,E,L⟩ K:=
 ma rfl hd rfl (λ_ e=>by cases e) λW a w hh=>by
  have hs:=hh.2.ay hf.g
  have rV:vt P u (aI .u8).sz (.string s) (f4 s).length (strCells s) w:=by rw [nE]; exact abt
  obtain ⟨A',c',w',hr,fm⟩:=K9 (P:=P) (t:=t) (u:=u) (he:=he) (ys:=f4 s) (by decide) hz hs rV (λN m _ _=>Qq N s) (by rw [nE]; omega) ty
  refine ⟨_,w',_, ?_,fm,h A' c'⟩
  simp [execOp,resolve,invoke,builtin,hh.1.ev hx,hh.1.ev hy,hr]
theorem Yx {bytes c2:Nat} [ht:dy P t (.slice e)] [hu:dy P u (.slice e)] (hd:Nat.blt d n=true) (hx:ev E x=some (.slice A xs.length c)) (hy:ev E y=some (.slice A2 ys.length c2)) 
  [he:mD P e z R.sz bytes] (hz:z.cells.size=R.sz) (hb:Nat.blt 0 bytes=true) (wU:a_ L R A c xs) (rV:a_ L R A2 c2 ys) (aiV:c < xs.length+ys.length) (jP:(xs.length+ys.length) * bytes<=140737488355328)
  (h:∀ A' c',TL r n P ops rest ⟨D,(d,.slice A' (xs++ys).length c')::E,aN R e A' c' (xs++ys)::L⟩ K):
  TL r n P ops (⟨some d,.call {callee:=.builtin .append,args:=#[x,y],argTypes:=#[t,u]},ty,pos,af,none⟩::rest) ⟨D,E,L⟩ K:=
 ma rfl hd rfl (λ_ e=>by cases e) λW a w hh=>by
  have eP:(xs++ys).length=xs.length+ys.length:=by simp
  have hb':0 < bytes:=by simpa using hb
  have VU:xs.length+ys.length<=140737488355328:=kf (G_ _ hb') jP
  obtain ⟨M,k,mK,hM,hk,hsep⟩:=hh.2.ex
  obtain ⟨cs,h1,h2⟩:=Hl hM (rV M k hsep)
  obtain ⟨iO,h3,h4⟩:=Hl hM (wU M k hsep)
  have fW:vt P u R.sz (.slice A2 ys.length c2) ys.length cs w:=LA (u:=u) (e:=e) h2 h1.length h1.one
  have hr:=Qp (P:=P) (t:=t) (ty':=ty) fW h3.length h4 aiV (by omega) jP
  have wV:=grownCap_ge w (xs.length+ys.length) c e
  have Fg:grownCap w (xs.length+ys.length) c e<=maxLen:=grownCap_le_maxLen w _ c e (by simp only [maxLen]; omega)
  have Fh:bH W w.drew (nV (λM=>f9 M R (xs++ys) (iO++cs)) (λhM h=>xX hM h)::L):=
   ⟨⟨M,k,mK,hM,hk,Mem.emp,k,Mem.iD _,Mem.iu _,Mem.le_refl _,h3.append h1,hsep⟩,hh.2.os,hh.2.tape,hh.2.output,hh.2.size⟩
  have eH:=Fh.alloc (.cells (iO.toArray++cs.toArray++Builtin.zeroCells z.cells (grownCap w (xs.length+ys.length) c e - (xs.length+ys.length))) e)
  refine ⟨.slice (some ⟨w.heap.size,0,none⟩) (xs++ys).length (grownCap w (xs.length+ys.length) c e),_,aN R e (some ⟨w.heap.size,0,none⟩) (grownCap w (xs.length+ys.length) c e) (xs++ys)::L, ?_,eH.ay λN m ⟨k1,k2,kd,m1,m2,ha,k3,k4,BG,m3,m4,mM,fm⟩=> ?_,h _ _⟩
  ·simp [execOp,resolve,invoke,builtin,hh.1.ev hx,hh.1.ev hy,hr]
  ·refine ⟨k1,k4,Mem.i' kd (Mem.le_refl _) m4,m1,Mem.le_trans m4 m2,⟨by rw [eP]; unfold cE; omega,.inr ⟨_,_,rfl,ha, ?_,by rw [eP]; exact wV,by simpa [maxLen] using Fg,λi x hi=> ?_⟩⟩,fm⟩
   ·simp only [Array.size_append,qH,size_zeroCells,h3.length,h1.length,hz, <- jI]
    congr 1
    omega
   ·obtain ⟨l,a,b⟩:=mM.at_ i x hi
    refine ⟨l,a,λj v hj=> ?_⟩
    have hb:=b j v hj
    have cL:i * R.sz+j < (iO++cs).length:=(dX.1 hb).1
    rw [G7 (by simpa using cL)]
    simpa using hb
theorem af' {A:Option Addr} (R:bZ α) (e:TypeId) (h:TL r n P ops rest ⟨D,E,aN R e A 0 []::L⟩ K):TL r n P ops rest ⟨D,E,L⟩ K:=bX (du R e A L) h
theorem yw {A:Option Addr} {c':Code} (R:bZ α) (e:TypeId) (h:T r n P c' ⟨D,E,aN R e A 0 []::L⟩ Q):T r n P c' ⟨D,E,L⟩ Q:=b_ (du R e A L) h
def AH (pl:Nat->Option (Nat × Nat)):List Value->List (Nat × List Value)->Option (List Value)
 | cs,[]=>some cs
 | cs,(i,vs)::rest=>match pl i with
  | some (off,sz)=>match Nat.beq vs.length sz with
   | true=>match qh off cs vs with
    | some tg=>AH pl tg rest
    | none=>none
   | false=>none
  | none=>none
def BI (E:cZ):List (Nat × Operand)->Option (List (Nat × List Value))
 | []=>some []
 | (i,x)::r=>match ev E x with
  | some v=>match rJ v with
   | some vs=>match BI E r with
    | some r'=>some ((i,vs)::r')
    | none=>none
   | none=>none
  | none=>none
theorem Ts (off:Nat):∀ (vs:List Value) (k:Nat) (cs:List Value),off+k+vs.length<=cs.length→
  (vs.zipIdx k).foldl (λ(a:Array Value) (p:Value × Nat)=>a.setIfInBounds (off+p.2) p.1) cs.toArray=(cs.take (off+k)++vs++cs.drop (off+k+vs.length)).toArray
 | [],k,cs,h=>by simp
 | v::vs,k,cs,h=>by
  simp only [List.zipIdx_cons,Ch,List.setIfInBounds_toArray]
  have ih:=Ts off vs (k+1) (cs.set (off+k) v) (by simp at h ⊢; omega)
  rw [ih]
  congr 1
  have:=list_seg_step cs (off+k) v vs (by simp at h; omega)
  rw [show off+(k+1)=off+k+1 by omega]
  rw [this]
  simp
theorem Ij {pl:Nat->Option (Nat × Nat)}:∀ {ps:List (Nat × List Value)} {vs:List (Nat × Value)} {cs tg:List Value},ps.length=vs.length->(∀ (k:Nat) (p:Nat × List Value) (v:Nat × Value),ps[k]? =some p->vs[k]? =some v->p.1=v.1/\v.2.cells=p.2.toArray)->AH pl cs ps=some tg->Instr.fill pl cs.toArray vs=some tg.toArray
 | [],[],cs,tg,_,_,h=>by simp [AH] at h; simp [Instr.fill,h]
 | [],_::_,_,_,hl,_,_=>by simp at hl
 | _::_,[],_,_,hl,_,_=>by simp at hl
 | (i,us)::ps,(j,v)::vs,cs,tg,hl,hp,h=>by
  obtain ⟨e1,e2⟩:=hp 0 _ _ rfl rfl
  simp only at e1 e2
  subst e1
  simp only [AH] at h
  split at h
  ·rename_i off sz lE
   split at h
   ·rename_i ajG
    split at h
    ·rename_i xo py
     obtain ⟨e3,gt⟩:=Ig py
     have ew:us.length=sz:=qC ajG
     have Fj:=Ts off us 0 cs (by simpa using gt)
     simp only [sD] at Fj
     rw [<- e3] at Fj
     simp only [Instr.fill,lE,e2,qH,ew]
     rw [if_neg (by simp; omega)]
     have:(us.toArray.zipIdx.foldl (λcs (p:Value × Nat)=>cs.setIfInBounds (off+p.2) p.1) cs.toArray)=xo.toArray:=by
      rw [<- Fj]
      rw [<- Array.foldl_toList,Array.toList_zipIdx]
     have h2:=Ij (pl:=pl) (cs:=xo) (by simpa using hl) (λk p v hk hv=>hp (k+1) p v (by simpa using hk) (by simpa using hv)) h
     rw [<- h2]
     congr 1
    ·cases h
   ·cases h
  ·cases h
theorem Iw {D:List Deferred} {a:Act} (ha:j5 n D a E):∀ {xs:List (Nat × Operand)} {ps:List (Nat × List Value)},BI E xs=some ps->ps.length=(xs.map λ(p:Nat × Operand)=>(p.1,a.eval p.2)).length∧
  ∀ (k:Nat) (p:Nat × List Value) (v:Nat × Value),ps[k]? =some p->(xs.map λ(p:Nat × Operand)=>(p.1,a.eval p.2))[k]? =some v->p.1=v.1/\v.2.cells=p.2.toArray
 | [],ps,h=>by simp [BI] at h; subst h; simp
 | (i,x)::xs,ps,h=>by
  simp only [BI] at h
  split at h
  ·rename_i v hv
   split at h
   ·rename_i vs Jw
    split at h
    ·rename_i r' hr
     cases h
     obtain ⟨h1,h2⟩:=Iw ha hr
     refine ⟨by simpa using h1,λk p u hk hu=> ?_⟩
     cases k with
     | zero=>
      simp at hk hu
      subst hk; subst hu
      exact ⟨rfl,by rw [ha.ev hv]; exact wd Jw⟩
     | succ k=>exact h2 k p u (by simpa using hk) (by simpa using hu)
    ·cases h
   ·cases h
  ·cases h
def pY:Nat->List Value->List Value
 | 0,_=>[]
 | k+1,z=>z++pY k z
theorem Hq (z:List Value):∀ k,(pY k z).length=k * z.length
 | 0=>by simp [pY]
 | k+1=>by simp [pY,Hq z k,jI]; omega
theorem LB (z:List Value):∀ (k i:Nat),i < k * z.length->(pY k z)[i]? =some (z[i % z.length]!)
 | 0,i,h=>by simp at h
 | k+1,i,h=>by
  simp only [pY]
  by_cases hi:i < z.length
  ·rw [kF hi,Ee hi,cj hi,getElem!_pos z i hi]
  ·rw [nA (by omega),LB z k (i - z.length) (by rw [jI] at h; omega)]
   rw [<- Nat.mod_eq_sub_mod (by omega)]
theorem Kz (z:List Value) (k:Nat):(Array.range (k * z.length)).map (λi=>z.toArray[i % z.toArray.size]!)=(pY k z).toArray:=by
 apply Array.ext_getElem?
 intro i
 by_cases hi:i < k * z.length
 ·simp [hi,LB z k i hi]
 ·rw [Array.getElem?_eq_none (by simp; omega),Array.getElem?_eq_none (by simp [Hq]; omega)]
variable{ps:List (Nat × List Value)}{zl:List Value}
theorem ef {m len:Nat} {bytes:Nat} {parts:List (Nat × Operand)} [ht:dy P t (.slice e)] [he:mD P e z m bytes] [hz:l_ P e z] (hd:Nat.blt d n=true) (hp:BI E parts=some ps) (ga:rJ z=some zl) (hzm:Nat.beq zl.length m=true) (ahy:Nat.ble (len * m) 16777216=true) 
  (Fk:AH (λi=>some (i * m,m)) (pY len zl) ps=some cs) (h:∀ b,TL r n P ops rest ⟨D,(d,.slice (some ⟨b,0,none⟩) len len)::E,cells b cs e::L⟩ K):
  TL r n P ops (⟨some d,.buildSlice t len parts.toArray,ty,pos,af,none⟩::rest) ⟨D,E,L⟩ K:=
 ma rfl hd rfl (λ_ e=>by cases e) λW a w hh=>by
  have hm:zl.length=m:=qC hzm
  have gt:len * m<=2 ^ 24:=by simpa using ahy
  obtain ⟨e1,e2⟩:=Iw hh.1 hp
  have hf:=Ij (pl:=λi=>some (i * m,m)) e1 e2 Fk
  refine ⟨.slice (some ⟨w.heap.size,0,none⟩) len len,w.alloc (.cells cs.toArray e),cells w.heap.size cs e::L, ?_,hh.2.alloc _,h w.heap.size⟩
  have hzc:=wd ga
  have Db:((Array.range (len * m)).map (λi=>(if len * m=0 then (#[]:Array Value) else z.cells)[i % (if len * m=0 then (#[]:Array Value) else z.cells).size]!))=(pY len zl).toArray:=by
   by_cases h0:len * m=0
   ·rw [h0]
    have:(pY len zl)=[]:=rC (by rw [Hq,hm]; exact h0)
    rw [this]
    simp
   ·simp only [h0,if_false,hzc]
    rw [<- hm]
    exact Kz zl len
  simp only [execOp,Instr.buildSlice,Sem.run_bind,ht.run,Result.andThen_ok,mD.sz (e:=e) (z:=z) (bytes:=bytes)]
  rw [if_neg (by omega)]
  by_cases h0:len * m=0
  ·simp only [h0,if_true] at Db ⊢
   simp only [Sem.run_bind,Sem.run_pure,Result.andThen_ok,Db,Hg,hf,newRow,newObj,Sem.run]
   rfl
  ·simp only [h0,if_false] at Db ⊢
   simp only [Sem.run_bind,hz.run,Result.andThen_ok,Sem.run_pure,Db,Hg,hf,newRow,newObj,Sem.run]
   rfl
class Tt (P:Program) (t:TypeId) (pl:outParam (List (Nat × Nat))):Prop where
 run:∃ fs:Array Field,(∀ w,(underlying t).run P w=.ok (.struct fs) w)/\∀ w,(fs.mapM λf=>do Pure.pure (f.offset, <- sizeOf f.type):Sem (Array (Nat × Nat))).run P w=.ok pl.toArray w
def zc:List (Nat × Nat)->Nat->Option (Nat × Nat)
 | [],_=>none
 | p::_,0=>some p
 | _::l,k+1=>zc l k
theorem UX:∀ (l:List (Nat × Nat)) (i:Nat),zc l i=l.toArray[i]?
 | [],i=>by simp [zc]
 | p::l,0=>by simp [zc]
 | p::l,k+1=>by rw [zc,UX l k]; simp
theorem bI {pl:List (Nat × Nat)} {parts:List (Nat × Operand)} [ht:Tt P t pl] [hz:l_ P t (.agg zl.toArray)] (hp:BI E parts=some ps) (Fk:AH (zc pl) zl ps=some cs):
  Yl P E L (.build t parts.toArray) ty (.agg cs.toArray):=λn D W a w dst pos af g ha hs=>by
 obtain ⟨fs,h1,h2⟩:=ht.run
 obtain ⟨e1,e2⟩:=Iw ha hp
 have hf:=Ij (pl:=zc pl) e1 e2 Fk
 have lE:zc pl=λi=>pl.toArray[i]? :=funext λi=>UX pl i
 rw [lE] at hf
 simp only [execOp,Instr.build,Sem.run_bind,hz.run,Result.andThen_ok,h1,h2,Value.cells,Hg,hf,Sem.run_pure]
theorem aai {k:Nat} {parts:List (Nat × Operand)} [ht:dy P t (.array k e)] [hm:hJ P e m] [hz:l_ P t (.agg zl.toArray)] (hp:BI E parts=some ps) (Fk:AH (λi=>some (i * m,m)) zl ps=some cs):
  Yl P E L (.build t parts.toArray) ty (.agg cs.toArray):=λn D W a w dst pos af g ha hs=>by
 obtain ⟨e1,e2⟩:=Iw ha hp
 have hf:=Ij (pl:=λi=>some (i * m,m)) e1 e2 Fk
 simp only [execOp,Instr.build,Sem.run_bind,hz.run,Result.andThen_ok,ht.run,hm.run,Value.cells,Hg,hf,Sem.run_pure]
theorem KN {src nW e:TypeId} {xs:List Int} [h1:dy P src (.slice e)] [h2:dy P e (.int .u8)] [h3:dy P nW .string] (hx:ev E x=some (.slice A xs.length c)) (hk:a_ L (aI .u8) A c xs):Yl P E L (.convert src nW x) ty (.string (strOfNums xs)):=λn D W a w dst pos af g ha hs=>by
 obtain ⟨M,hM,fW⟩:=hs.uS hk
 have Nv:(convert src nW (.slice A xs.length c)).run P w=.ok (.string (strOfNums xs)) w:=by
  rcases fW.2.2 with rfl | ⟨b,o,rfl,cur,t,fr,hb,eH⟩
  ·cases A with
   | none=>exact run_convert_bytes_nil w src e h1.under h2.under _ _ nW h3.under
   | some ad=>
    simp [convert,h1.run,h2.run,h3.run,Conv.bytesToString,loadCells,loadCellsFrom,strOfNums]
    rfl
  ·refine run_convert_bytes_arg w src e h1.under h2.under b o xs.length c xs rfl (λi hi=> ?_) nW h3.under
   obtain ⟨l,hl,hc⟩:=eH i _ (cj hi)
   have:=hc 0 _ (by rw [hl.1]; rfl)
   rw [rK (hM _ _ hb)]
   have e1:(aI .u8).sz=1:=rfl
   rw [e1,Nat.mul_one,sD] at this
   rw [this]
   simp [List.getD,cj hi]
 simp [execOp,ha.ev hx,Nv]
theorem Kp (w:World) (e:TypeId) (s:ByteArray):(bytesWorld w e s).os=w.os/\(bytesWorld w e s).tape=w.tape/\(bytesWorld w e s).output=w.output:=by
 unfold bytesWorld World.freeze
 rw [if_neg (by decide)]
 exact ⟨rfl,rfl,rfl⟩
theorem El {src nW e:TypeId} {s:ByteArray} [h1:dy P src .string] [h2:dy P nW (.slice e)] [h3:dy P e (.int .u8)] (hd:Nat.blt d n=true) (hx:ev E x=some (.string s)) (ew:s.size<=cE) 
  (h:∀ A c,TL r n P ops rest ⟨D,(d,.slice A (f4 s).length c)::E,sl (aI .u8) A c (f4 s)::L⟩ K):TL r n P ops (⟨some d,.convert src nW x,ty,pos,af,none⟩::rest) ⟨D,E,L⟩ K:=
 ma rfl hd rfl (λ_ e=>by cases e) λW a w hh=>by
  have hr:=run_convert_string_bytes (P:=P) w src nW e s h1.under h2.under h3.under
  have DD:=grownCap_ge w s.size 0 e
  have jN:bH W (bytesWorld w e s) (own w.heap.size (.cells (bytesCells w e s) e ((bytesCells w e s).size,(bytesCells w e s).size+1))::L):=
   bH.new hh.2 (bytesWorld_at_new w e s) (λi hi=>bytesWorld_at_old w e s i hi) (Kp w e s).1 (Kp w e s).2.1 (Kp w e s).2.2 (by rw [bytesWorld_size]; omega)
  refine ⟨_,_,sl (aI .u8) (some ⟨w.heap.size,0,none⟩) (grownCap w s.size 0 e) (f4 s)::L, ?_,(bH.freeze jN).ay λM k ⟨k1,k2,kd,m1,m2,hi,fm⟩=> ?_,h _ _⟩
  ·simp [execOp,hh.1.ev hx,hr,nE]
  ·refine ⟨k1,k2,kd,m1,m2,⟨by rw [nE]; exact DD,by rw [nE]; exact ew,.inr ⟨_,0,rfl,_,_,_,hi,λi x OR=> ?_⟩⟩,fm⟩
   obtain ⟨l,hl,hc⟩:=(Qq M s).at_ i x OR
   refine ⟨l,hl,λj v hj=> ?_⟩
   have:=hc j v hj
   rw [nD]
   have cL:i * (aI .u8).sz+j < (strCells s).length:=(dX.1 this).1
   rw [strCells_length] at cL
   unfold bytesCells
   rw [G7 (by simpa using cL)]
   simpa [strCells] using this
end
open Go Go.Proofs Go.Proofs.Tryz
abbrev eg:=iG prog
instance:eg 3 false:=⟨isAgg3⟩
abbrev eN:=hJ prog
instance:eN 3 1:=⟨sizeOf3⟩
abbrev e7:=l_ prog
instance:e7 3 (.int .i64 0):=⟨zeroValue3⟩
abbrev lh:=mD prog
instance:lh 3 (.int .i64 0) 1 8:=⟨by kernel_rfl⟩
abbrev eR:=dy prog
instance:eR 3 (.int .i64):=⟨runUnderlying3⟩
instance:eg 4 false:=⟨isAgg4⟩
instance:eN 4 1:=⟨sizeOf4⟩
instance:e7 4 (.bool false):=⟨zeroValue4⟩
instance:eR 4 (.bool):=⟨runUnderlying4⟩
instance:eg 5 false:=⟨isAgg5⟩
instance:eN 5 1:=⟨sizeOf5⟩
instance:e7 5 (.int .u8 0):=⟨zeroValue5⟩
instance:lh 5 (.int .u8 0) 1 1:=⟨by kernel_rfl⟩
instance:eR 5 (.int .u8):=⟨runUnderlying5⟩
instance:eg 9 false:=⟨isAgg9⟩
instance:eN 9 1:=⟨sizeOf9⟩
instance:e7 9 (.string {data:=#[]}):=⟨zeroValue9⟩
instance:lh 9 (.string {data:=#[]}) 1 16:=⟨by kernel_rfl⟩
instance:eR 9 (.string):=⟨runUnderlying9⟩
instance:eR 21 (.int .i32):=⟨runUnderlying21⟩
instance:eR 22 (.slice 33):=⟨runUnderlying22⟩
instance:eg 23 false:=⟨isAgg23⟩
instance:eR 23 (.pointer 55):=⟨runUnderlying23⟩
instance:eg 24 false:=⟨isAgg24⟩
instance:eN 24 1:=⟨sizeOf24⟩
instance:eg 28 true:=⟨isAgg28⟩
instance:eN 28 5:=⟨sizeOf28⟩
instance:e7 28 (.agg #[.int .i64 0,.int .i64 0,.int .i64 0,.int .i64 0,.int .i64 0]):=⟨zeroValue28⟩
abbrev bL:=wp prog
instance:bL 28 0 0 3:=bM runUnderlying28 sizeOf3 J
instance:bL 28 1 1 3:=bM runUnderlying28 sizeOf3 J
instance:bL 28 2 2 3:=bM runUnderlying28 sizeOf3 J
instance:bL 28 3 3 3:=bM runUnderlying28 sizeOf3 J
instance:bL 28 4 4 3:=bM runUnderlying28 sizeOf3 J
abbrev f7:=Tt prog
instance:f7 28 [(0,1),(1,1),(2,1),(3,1),(4,1)]:=⟨_,runUnderlying28,λw=>by simp [sizeOf3]⟩
instance:eg 33 true:=⟨isAgg33⟩
instance:eN 33 7:=⟨sizeOf33⟩
instance:e7 33 (.agg #[.int .i64 0,.int .i64 0,(.string {data:=#[]}),(.string {data:=#[]}),.int .i64 0,.bool false,(.string {data:=#[]})]):=⟨zeroValue33⟩
instance:bL 33 0 0 3:=bM runUnderlying33 sizeOf3 J
instance:bL 33 1 1 3:=bM runUnderlying33 sizeOf3 J
instance:bL 33 2 2 9:=bM runUnderlying33 sizeOf9 J
instance:bL 33 3 3 9:=bM runUnderlying33 sizeOf9 J
instance:bL 33 4 4 3:=bM runUnderlying33 sizeOf3 J
instance:bL 33 5 5 4:=bM runUnderlying33 sizeOf4 J
instance:bL 33 6 6 9:=bM runUnderlying33 sizeOf9 J
instance:f7 33 [(0,1),(1,1),(2,1),(3,1),(4,1),(5,1),(6,1)]:=⟨_,runUnderlying33,λw=>by simp [sizeOf3,sizeOf4,sizeOf9]⟩
instance:eg 34 false:=⟨isAgg34⟩
instance:eN 34 1:=⟨sizeOf34⟩
instance:e7 34 (.slice none 0 0):=⟨zeroValue34⟩
instance:lh 34 (.slice none 0 0) 1 24:=⟨by kernel_rfl⟩
instance:eR 34 (.slice 3):=⟨runUnderlying34⟩
instance:eg 35 false:=⟨isAgg35⟩
instance:eR 35 (.slice 265):=⟨runUnderlying35⟩
instance:eg 37 true:=⟨isAgg37⟩
instance:eN 37 14:=⟨sizeOf37⟩
instance:e7 37 (.agg #[.int .i64 0,.int .i64 0,.int .i64 0,.int .i64 0,.int .i64 0,.int .i64 0,(.string {data:=#[]}),(.string {data:=#[]}),.int .i64 0,.bool false,(.string {data:=#[]}),.int .i64 0,.slice none 0 0,.slice none 0 0]):=⟨zeroValue37⟩
instance:bL 37 0 0 3:=bM runUnderlying37 sizeOf3 J
instance:bL 37 1 1 3:=bM runUnderlying37 sizeOf3 J
instance:bL 37 2 2 3:=bM runUnderlying37 sizeOf3 J
instance:bL 37 3 3 3:=bM runUnderlying37 sizeOf3 J
instance:bL 37 4 4 33:=bM runUnderlying37 sizeOf33 J
instance:bL 37 5 11 3:=bM runUnderlying37 sizeOf3 J
instance:bL 37 6 12 34:=bM runUnderlying37 sizeOf34 J
instance:bL 37 7 13 35:=bM runUnderlying37 sizeOf35 J
instance:f7 37 [(0,1),(1,1),(2,1),(3,1),(4,7),(11,1),(12,1),(13,1)]:=⟨_,runUnderlying37,λw=>by simp [sizeOf3,sizeOf33,sizeOf34,sizeOf35]⟩
instance:eg 38 false:=⟨isAgg38⟩
instance:eN 38 1:=⟨sizeOf38⟩
instance:eR 38 (.slice 45):=⟨runUnderlying38⟩
instance:eg 40 false:=⟨isAgg40⟩
instance:eN 40 1:=⟨sizeOf40⟩
instance:lh 40 (.pointer none) 1 8:=⟨by kernel_rfl⟩
instance:eR 40 (.pointer 100):=⟨runUnderlying40⟩
instance:eg 42 false:=⟨isAgg42⟩
instance:eN 42 1:=⟨sizeOf42⟩
instance:e7 42 (.slice none 0 0):=⟨zeroValue42⟩
instance:lh 42 (.slice none 0 0) 1 24:=⟨by kernel_rfl⟩
instance:eR 42 (.slice 49):=⟨runUnderlying42⟩
instance:eN 45 10:=⟨sizeOf45⟩
instance:e7 45 (.agg #[.int .i64 0,.int .i64 0,.int .i64 0,.int .i64 0,.int .i64 0,(.string {data:=#[]}),(.string {data:=#[]}),.int .i64 0,.bool false,(.string {data:=#[]})]):=⟨zeroValue45⟩
instance:lh 45 (.agg #[.int .i64 0,.int .i64 0,.int .i64 0,.int .i64 0,.int .i64 0,(.string {data:=#[]}),(.string {data:=#[]}),.int .i64 0,.bool false,(.string {data:=#[]})]) 10 104:=⟨by kernel_rfl⟩
instance:bL 45 1 1 3:=bM runUnderlying45 sizeOf3 J
instance:bL 45 3 3 33:=bM runUnderlying45 sizeOf33 J
instance:f7 45 [(0,1),(1,1),(2,1),(3,7)]:=⟨_,runUnderlying45,λw=>by simp [sizeOf3,sizeOf33]⟩
instance:eg 47 true:=⟨isAgg47⟩
instance:eN 47 2:=⟨sizeOf47⟩
instance:e7 47 (.agg #[.int .i64 0,.int .i64 0]):=⟨zeroValue47⟩
instance:lh 47 (.agg #[.int .i64 0,.int .i64 0]) 2 16:=⟨by kernel_rfl⟩
instance:bL 47 0 0 3:=bM runUnderlying47 sizeOf3 J
instance:bL 47 1 1 3:=bM runUnderlying47 sizeOf3 J
instance:f7 47 [(0,1),(1,1)]:=⟨_,runUnderlying47,λw=>by simp [sizeOf3]⟩
instance:eg 49 true:=⟨isAgg49⟩
instance:eN 49 8:=⟨sizeOf49⟩
instance:e7 49 (.agg #[.int .i64 0,.int .i64 0,.slice none 0 0,(.string {data:=#[]}),.int .i64 0,(.string {data:=#[]}),.int .i64 0,.bool false]):=⟨zeroValue49⟩
instance:lh 49 (.agg #[.int .i64 0,.int .i64 0,.slice none 0 0,(.string {data:=#[]}),.int .i64 0,(.string {data:=#[]}),.int .i64 0,.bool false]) 8 96:=⟨by kernel_rfl⟩
instance:bL 49 0 0 47:=bM runUnderlying49 sizeOf47 J
instance:bL 49 1 2 34:=bM runUnderlying49 sizeOf34 J
instance:bL 49 2 3 9:=bM runUnderlying49 sizeOf9 J
instance:bL 49 3 4 3:=bM runUnderlying49 sizeOf3 J
instance:bL 49 4 5 9:=bM runUnderlying49 sizeOf9 J
instance:bL 49 5 6 3:=bM runUnderlying49 sizeOf3 J
instance:bL 49 6 7 4:=bM runUnderlying49 sizeOf4 J
instance:f7 49 [(0,2),(2,1),(3,1),(4,1),(5,1),(6,1),(7,1)]:=⟨_,runUnderlying49,λw=>by simp [sizeOf3,sizeOf34,sizeOf4,sizeOf47,sizeOf9]⟩
instance:eg 52 false:=⟨isAgg52⟩
instance:eN 52 1:=⟨sizeOf52⟩
instance:eR 52 (.slice 56):=⟨runUnderlying52⟩
instance:eg 53 false:=⟨isAgg53⟩
instance:eN 53 1:=⟨sizeOf53⟩
instance:eR 53 (.slice 120):=⟨runUnderlying53⟩
instance:e7 55 (.agg #[.int .i64 0,.int .i64 0,.int .i64 0,.int .i64 0,.int .i64 0,.slice none 0 0,.int .i64 0,.slice none 0 0,.slice none 0 0]):=⟨zeroValue55⟩
instance:bL 55 0 0 28:=bM runUnderlying55 sizeOf28 J
instance:bL 55 1 5 52:=bM runUnderlying55 sizeOf52 J
instance:bL 55 2 6 3:=bM runUnderlying55 sizeOf3 J
instance:bL 55 3 7 38:=bM runUnderlying55 sizeOf38 J
instance:bL 55 4 8 53:=bM runUnderlying55 sizeOf53 J
instance:f7 55 [(0,5),(5,1),(6,1),(7,1),(8,1)]:=⟨_,runUnderlying55,λw=>by simp [sizeOf28,sizeOf3,sizeOf38,sizeOf52,sizeOf53]⟩
instance:eg 56 false:=⟨isAgg56⟩
instance:eN 56 1:=⟨sizeOf56⟩
instance:e7 56 (.pointer none):=⟨zeroValue56⟩
instance:lh 56 (.pointer none) 1 8:=⟨by kernel_rfl⟩
instance:eR 56 (.pointer 85):=⟨runUnderlying56⟩
instance:eR 59 (.pointer 114):=⟨runUnderlying59⟩
instance:eg 62 false:=⟨isAgg62⟩
instance:eN 62 1:=⟨sizeOf62⟩
instance:eR 62 (.slice 70):=⟨runUnderlying62⟩
instance:eg 64 true:=⟨isAgg64⟩
instance:eN 64 5:=⟨sizeOf64⟩
instance:e7 64 (.agg #[.int .i64 0,(.string {data:=#[]}),(.string {data:=#[]}),.int .i64 0,.slice none 0 0]):=⟨zeroValue64⟩
instance:lh 64 (.agg #[.int .i64 0,(.string {data:=#[]}),(.string {data:=#[]}),.int .i64 0,.slice none 0 0]) 5 72:=⟨by kernel_rfl⟩
instance:bL 64 0 0 3:=bM runUnderlying64 sizeOf3 J
instance:bL 64 1 1 9:=bM runUnderlying64 sizeOf9 J
instance:bL 64 2 2 9:=bM runUnderlying64 sizeOf9 J
instance:bL 64 3 3 3:=bM runUnderlying64 sizeOf3 J
instance:bL 64 4 4 34:=bM runUnderlying64 sizeOf34 J
instance:f7 64 [(0,1),(1,1),(2,1),(3,1),(4,1)]:=⟨_,runUnderlying64,λw=>by simp [sizeOf3,sizeOf34,sizeOf9]⟩
instance:eg 66 true:=⟨isAgg66⟩
instance:eN 66 13:=⟨sizeOf66⟩
instance:e7 66 (.agg #[.int .i64 0,.int .i64 0,.int .i64 0,.int .i64 0,.slice none 0 0,.int .i64 0,(.string {data:=#[]}),(.string {data:=#[]}),.int .i64 0,.slice none 0 0,.bool false,.slice none 0 0,.int .i64 0]):=⟨zeroValue66⟩
instance:bL 66 0 0 3:=bM runUnderlying66 sizeOf3 J
instance:bL 66 1 1 24:=bM runUnderlying66 sizeOf24 J
instance:bL 66 2 2 47:=bM runUnderlying66 sizeOf47 J
instance:bL 66 3 4 62:=bM runUnderlying66 sizeOf62 J
instance:bL 66 4 5 64:=bM runUnderlying66 sizeOf64 J
instance:bL 66 5 10 4:=bM runUnderlying66 sizeOf4 J
instance:bL 66 6 11 34:=bM runUnderlying66 sizeOf34 J
instance:f7 66 [(0,1),(1,1),(2,2),(4,1),(5,5),(10,1),(11,1),(12,1)]:=⟨_,runUnderlying66,λw=>by simp [sizeOf24,sizeOf3,sizeOf34,sizeOf4,sizeOf47,sizeOf62,sizeOf64]⟩
instance:eN 70 2:=⟨sizeOf70⟩
instance:e7 70 (.agg #[(.string {data:=#[]}),.int .i64 0]):=⟨zeroValue70⟩
instance:lh 70 (.agg #[(.string {data:=#[]}),.int .i64 0]) 2 24:=⟨by kernel_rfl⟩
instance:bL 70 1 1 3:=bM runUnderlying70 sizeOf3 J
instance:f7 70 [(0,1),(1,1)]:=⟨_,runUnderlying70,λw=>by simp [sizeOf3,sizeOf9]⟩
instance:eg 71 false:=⟨isAgg71⟩
instance:eg 73 true:=⟨isAgg73⟩
instance:eN 73 3:=⟨sizeOf73⟩
instance:e7 73 (.agg #[.nilFunc,.bool false,.bool false]):=⟨zeroValue73⟩
instance:bL 73 0 0 71:=bM runUnderlying73 sizeOf71 J
instance:bL 73 1 1 4:=bM runUnderlying73 sizeOf4 J
instance:bL 73 2 2 4:=bM runUnderlying73 sizeOf4 J
instance:f7 73 [(0,1),(1,1),(2,1)]:=⟨_,runUnderlying73,λw=>by simp [sizeOf4,sizeOf71]⟩
instance:eR 75 (.map 3 73):=⟨runUnderlying75⟩
instance:eg 79 true:=⟨isAgg79⟩
instance:eN 79 18:=⟨sizeOf79⟩
instance:e7 79 (.agg #[.pointer none,.pointer none,.int .i64 0,.int .i64 0,.int .i64 0,.int .i64 0,.int .i64 0,.int .i64 0,(.string {data:=#[]}),(.string {data:=#[]}),.int .i64 0,.bool false,(.string {data:=#[]}),.int .i64 0,.slice none 0 0,.slice none 0 0,.int .i64 0,.int .i64 0]):=⟨zeroValue79⟩
instance:bL 79 0 0 56:=bM runUnderlying79 sizeOf56 J
instance:bL 79 1 1 40:=bM runUnderlying79 sizeOf40 J
instance:bL 79 2 2 37:=bM runUnderlying79 sizeOf37 J
instance:bL 79 3 16 3:=bM runUnderlying79 sizeOf3 J
instance:bL 79 4 17 3:=bM runUnderlying79 sizeOf3 J
instance:f7 79 [(0,1),(1,1),(2,14),(16,1),(17,1)]:=⟨_,runUnderlying79,λw=>by simp [sizeOf3,sizeOf37,sizeOf40,sizeOf56]⟩
instance:eg 80 false:=⟨isAgg80⟩
instance:eR 80 (.slice 40):=⟨runUnderlying80⟩
instance:eg 81 false:=⟨isAgg81⟩
instance:eN 81 1:=⟨sizeOf81⟩
instance:eR 81 (.slice 103):=⟨runUnderlying81⟩
instance:eg 82 false:=⟨isAgg82⟩
instance:eN 82 1:=⟨sizeOf82⟩
instance:eR 82 (.pointer 137):=⟨runUnderlying82⟩
instance:eg 83 false:=⟨isAgg83⟩
instance:eN 83 1:=⟨sizeOf83⟩
instance:eR 83 (.pointer 139):=⟨runUnderlying83⟩
instance:e7 85 (.agg #[.slice none 0 0,.slice none 0 0,.pointer none,.pointer none]):=⟨zeroValue85⟩
instance:bL 85 0 0 80:=bM runUnderlying85 sizeOf80 J
instance:bL 85 1 1 81:=bM runUnderlying85 sizeOf81 J
instance:bL 85 2 2 82:=bM runUnderlying85 sizeOf82 J
instance:bL 85 3 3 83:=bM runUnderlying85 sizeOf83 J
instance:f7 85 [(0,1),(1,1),(2,1),(3,1)]:=⟨_,runUnderlying85,λw=>by simp [sizeOf80,sizeOf81,sizeOf82,sizeOf83]⟩
instance:eg 88 false:=⟨isAgg88⟩
instance:eN 88 1:=⟨sizeOf88⟩
instance:eR 88 (.pointer 212):=⟨runUnderlying88⟩
instance:eg 89 false:=⟨isAgg89⟩
instance:eN 89 1:=⟨sizeOf89⟩
instance:eR 89 (.pointer 131):=⟨runUnderlying89⟩
instance:eg 90 false:=⟨isAgg90⟩
instance:eN 90 1:=⟨sizeOf90⟩
instance:eR 90 (.pointer 282):=⟨runUnderlying90⟩
instance:eg 91 false:=⟨isAgg91⟩
instance:eN 91 1:=⟨sizeOf91⟩
instance:eR 91 (.pointer 279):=⟨runUnderlying91⟩
instance:eg 92 false:=⟨isAgg92⟩
instance:eR 92 (.pointer 285):=⟨runUnderlying92⟩
instance:eg 93 false:=⟨isAgg93⟩
instance:eR 93 (.pointer 357):=⟨runUnderlying93⟩
instance:eg 94 false:=⟨isAgg94⟩
instance:eN 94 1:=⟨sizeOf94⟩
instance:eR 94 (.pointer 287):=⟨runUnderlying94⟩
instance:eg 95 false:=⟨isAgg95⟩
instance:eN 95 1:=⟨sizeOf95⟩
instance:eR 95 (.pointer 236):=⟨runUnderlying95⟩
instance:eg 96 false:=⟨isAgg96⟩
instance:eR 96 (.map 47 49):=⟨runUnderlying96⟩
instance:eg 97 false:=⟨isAgg97⟩
instance:eN 97 1:=⟨sizeOf97⟩
instance:eR 97 (.slice 196):=⟨runUnderlying97⟩
instance:eg 98 false:=⟨isAgg98⟩
instance:eN 98 1:=⟨sizeOf98⟩
instance:eR 98 (.slice 290):=⟨runUnderlying98⟩
instance:e7 100 (.agg #[.int .i64 0,.int .i64 0,.int .i64 0,.int .i64 0,.int .i64 0,.int .i64 0,.int .i64 0,.pointer none,.pointer none,.pointer none,.pointer none,.pointer none,.pointer none,.pointer none,.pointer none,.int .i64 0,.map none,.slice none 0 0,.slice none 0 0]):=⟨zeroValue100⟩
instance:bL 100 0 0 28:=bM runUnderlying100 sizeOf28 J
instance:bL 100 1 5 3:=bM runUnderlying100 sizeOf3 J
instance:bL 100 2 6 3:=bM runUnderlying100 sizeOf3 J
instance:bL 100 3 7 88:=bM runUnderlying100 sizeOf88 J
instance:bL 100 4 8 89:=bM runUnderlying100 sizeOf89 J
instance:bL 100 5 9 90:=bM runUnderlying100 sizeOf90 J
instance:bL 100 6 10 91:=bM runUnderlying100 sizeOf91 J
instance:bL 100 7 11 92:=bM runUnderlying100 sizeOf92 J
instance:bL 100 8 12 93:=bM runUnderlying100 sizeOf93 J
instance:bL 100 9 13 94:=bM runUnderlying100 sizeOf94 J
instance:bL 100 10 14 95:=bM runUnderlying100 sizeOf95 J
instance:bL 100 11 15 3:=bM runUnderlying100 sizeOf3 J
instance:bL 100 12 16 96:=bM runUnderlying100 sizeOf96 J
instance:bL 100 13 17 97:=bM runUnderlying100 sizeOf97 J
instance:bL 100 14 18 98:=bM runUnderlying100 sizeOf98 J
instance:f7 100 [(0,5),(5,1),(6,1),(7,1),(8,1),(9,1),(10,1),(11,1),(12,1),(13,1),(14,1),(15,1),(16,1),(17,1),(18,1)]:=⟨_,runUnderlying100,λw=>by simp [sizeOf28,sizeOf3,sizeOf88,sizeOf89,sizeOf90,sizeOf91,sizeOf92,sizeOf93,sizeOf94,sizeOf95,sizeOf96,sizeOf97,sizeOf98]⟩
instance:eg 103 false:=⟨isAgg103⟩
instance:eN 103 1:=⟨sizeOf103⟩
instance:e7 103 (.pointer none):=⟨zeroValue103⟩
instance:lh 103 (.pointer none) 1 8:=⟨by kernel_rfl⟩
instance:eR 103 (.pointer 134):=⟨runUnderlying103⟩
instance:eg 112 false:=⟨isAgg112⟩
instance:eN 112 1:=⟨sizeOf112⟩
instance:e7 112 (.slice none 0 0):=⟨zeroValue112⟩
instance:eR 112 (.slice 158):=⟨runUnderlying112⟩
instance:e7 114 (.agg #[.pointer none,.int .i64 0,.int .i64 0,.slice none 0 0,.slice none 0 0,.bool false]):=⟨zeroValue114⟩
instance:bL 114 0 0 23:=bM runUnderlying114 sizeOf23 J
instance:bL 114 1 1 3:=bM runUnderlying114 sizeOf3 J
instance:bL 114 3 3 42:=bM runUnderlying114 sizeOf42 J
instance:bL 114 4 4 112:=bM runUnderlying114 sizeOf112 J
instance:bL 114 5 5 4:=bM runUnderlying114 sizeOf4 J
instance:f7 114 [(0,1),(1,1),(2,1),(3,1),(4,1),(5,1)]:=⟨_,runUnderlying114,λw=>by simp [sizeOf112,sizeOf23,sizeOf3,sizeOf4,sizeOf42]⟩
instance:eN 120 16:=⟨sizeOf120⟩
instance:e7 120 (.agg #[.int .i64 0,.int .i64 0,.int .i64 0,.int .i64 0,.int .i64 0,.int .i64 0,.int .i64 0,.slice none 0 0,.int .i64 0,(.string {data:=#[]}),(.string {data:=#[]}),.int .i64 0,.slice none 0 0,.bool false,.slice none 0 0,.int .i64 0]):=⟨zeroValue120⟩
instance:lh 120 (.agg #[.int .i64 0,.int .i64 0,.int .i64 0,.int .i64 0,.int .i64 0,.int .i64 0,.int .i64 0,.slice none 0 0,.int .i64 0,(.string {data:=#[]}),(.string {data:=#[]}),.int .i64 0,.slice none 0 0,.bool false,.slice none 0 0,.int .i64 0]) 16 192:=⟨by kernel_rfl⟩
instance:bL 120 3 3 66:=bM runUnderlying120 sizeOf66 J
instance:f7 120 [(0,1),(1,1),(2,1),(3,13)]:=⟨_,runUnderlying120,λw=>by simp [sizeOf3,sizeOf66]⟩
instance:eg 122 false:=⟨isAgg122⟩
instance:eR 125 (.int .u32):=⟨runUnderlying125⟩
instance:eg 126 false:=⟨isAgg126⟩
instance:eN 126 1:=⟨sizeOf126⟩
instance:eR 126 (.slice 5):=⟨runUnderlying126⟩
instance:eR 127 (.int .u64):=⟨runUnderlying127⟩
instance:eg 128 false:=⟨isAgg128⟩
instance:eR 128 (.pointer 330):=⟨runUnderlying128⟩
instance:eg 129 false:=⟨isAgg129⟩
instance:eN 129 1:=⟨sizeOf129⟩
instance:eR 129 (.slice 156):=⟨runUnderlying129⟩
instance:e7 131 (.agg #[.pointer none,.int .i64 0,.slice none 0 0]):=⟨zeroValue131⟩
instance:bL 131 0 0 128:=bM runUnderlying131 sizeOf128 J
instance:bL 131 1 1 3:=bM runUnderlying131 sizeOf3 J
instance:bL 131 2 2 129:=bM runUnderlying131 sizeOf129 J
instance:f7 131 [(0,1),(1,1),(2,1)]:=⟨_,runUnderlying131,λw=>by simp [sizeOf128,sizeOf129,sizeOf3]⟩
instance:eg 132 false:=⟨isAgg132⟩
instance:eR 132 (.map 9 266):=⟨runUnderlying132⟩
instance:e7 134 (.agg #[.map none,.int .i64 0,.int .i64 0]):=⟨zeroValue134⟩
instance:bL 134 0 0 132:=bM runUnderlying134 sizeOf132 J
instance:bL 134 1 1 3:=bM runUnderlying134 sizeOf3 J
instance:bL 134 2 2 3:=bM runUnderlying134 sizeOf3 J
instance:f7 134 [(0,1),(1,1),(2,1)]:=⟨_,runUnderlying134,λw=>by simp [sizeOf132,sizeOf3]⟩
instance:eg 135 false:=⟨isAgg135⟩
instance:eR 135 (.map 3 167):=⟨runUnderlying135⟩
instance:e7 137 (.agg #[.int .i64 0,.int .i64 0,.map none]):=⟨zeroValue137⟩
instance:bL 137 0 0 3:=bM runUnderlying137 sizeOf3 J
instance:bL 137 1 1 3:=bM runUnderlying137 sizeOf3 J
instance:bL 137 2 2 135:=bM runUnderlying137 sizeOf135 J
instance:f7 137 [(0,1),(1,1),(2,1)]:=⟨_,runUnderlying137,λw=>by simp [sizeOf135,sizeOf3]⟩
instance:e7 139 (.agg #[.int .i64 0,.slice none 0 0,.int .i64 0]):=⟨zeroValue139⟩
instance:bL 139 0 0 3:=bM runUnderlying139 sizeOf3 J
instance:bL 139 1 1 34:=bM runUnderlying139 sizeOf34 J
instance:bL 139 2 2 3:=bM runUnderlying139 sizeOf3 J
instance:f7 139 [(0,1),(1,1),(2,1)]:=⟨_,runUnderlying139,λw=>by simp [sizeOf3,sizeOf34]⟩
instance:eg 140 false:=⟨isAgg140⟩
instance:eN 140 1:=⟨sizeOf140⟩
instance:eR 140 (.slice 9):=⟨runUnderlying140⟩
instance:eg 150 false:=⟨isAgg150⟩
instance:eN 150 1:=⟨sizeOf150⟩
instance:eR 150 (.slice 167):=⟨runUnderlying150⟩
instance:eg 156 true:=⟨isAgg156⟩
instance:eN 156 4:=⟨sizeOf156⟩
instance:e7 156 (.agg #[(.string {data:=#[]}),(.string {data:=#[]}),.int .i64 0,.slice none 0 0]):=⟨zeroValue156⟩
instance:lh 156 (.agg #[(.string {data:=#[]}),(.string {data:=#[]}),.int .i64 0,.slice none 0 0]) 4 64:=⟨by kernel_rfl⟩
instance:bL 156 0 0 9:=bM runUnderlying156 sizeOf9 J
instance:bL 156 1 1 9:=bM runUnderlying156 sizeOf9 J
instance:bL 156 2 2 3:=bM runUnderlying156 sizeOf3 J
instance:bL 156 3 3 34:=bM runUnderlying156 sizeOf34 J
instance:f7 156 [(0,1),(1,1),(2,1),(3,1)]:=⟨_,runUnderlying156,λw=>by simp [sizeOf3,sizeOf34,sizeOf9]⟩
instance:eg 158 true:=⟨isAgg158⟩
instance:eN 158 5:=⟨sizeOf158⟩
instance:e7 158 (.agg #[.bool false,(.string {data:=#[]}),(.string {data:=#[]}),.int .i64 0,.slice none 0 0]):=⟨zeroValue158⟩
instance:lh 158 (.agg #[.bool false,(.string {data:=#[]}),(.string {data:=#[]}),.int .i64 0,.slice none 0 0]) 5 72:=⟨by kernel_rfl⟩
instance:bL 158 0 0 4:=bM runUnderlying158 sizeOf4 J
instance:bL 158 1 1 156:=bM runUnderlying158 sizeOf156 J
instance:f7 158 [(0,1),(1,4)]:=⟨_,runUnderlying158,λw=>by simp [sizeOf156,sizeOf4]⟩
instance:eg 167 true:=⟨isAgg167⟩
instance:eN 167 4:=⟨sizeOf167⟩
instance:e7 167 (.agg #[.int .i64 0,.int .i64 0,.int .i64 0,(.string {data:=#[]})]):=⟨zeroValue167⟩
instance:lh 167 (.agg #[.int .i64 0,.int .i64 0,.int .i64 0,(.string {data:=#[]})]) 4 40:=⟨by kernel_rfl⟩
instance:bL 167 2 2 3:=bM runUnderlying167 sizeOf3 J
instance:bL 167 3 3 9:=bM runUnderlying167 sizeOf9 J
instance:f7 167 [(0,1),(1,1),(2,1),(3,1)]:=⟨_,runUnderlying167,λw=>by simp [sizeOf3,sizeOf9]⟩
instance:eg 171 true:=⟨isAgg171⟩
instance:eN 171 2:=⟨sizeOf171⟩
instance:e7 171 (.agg #[.int .i64 0,.int .i64 0]):=⟨zeroValue171⟩
instance:bL 171 0 0 3:=bM runUnderlying171 sizeOf3 J
instance:bL 171 1 1 3:=bM runUnderlying171 sizeOf3 J
instance:f7 171 [(0,1),(1,1)]:=⟨_,runUnderlying171,λw=>by simp [sizeOf3]⟩
instance:eg 172 false:=⟨isAgg172⟩
instance:eN 172 1:=⟨sizeOf172⟩
instance:eR 172 (.slice 323):=⟨runUnderlying172⟩
instance:eg 174 true:=⟨isAgg174⟩
instance:eN 174 15:=⟨sizeOf174⟩
instance:e7 174 (.agg #[.int .i64 0,.int .i64 0,.int .i64 0,.int .i64 0,.int .i64 0,.int .i64 0,.bool false,(.string {data:=#[]}),(.string {data:=#[]}),.int .i64 0,.slice none 0 0,.slice none 0 0,.slice none 0 0,.slice none 0 0,.int .i64 0]):=⟨zeroValue174⟩
instance:lh 174 (.agg #[.int .i64 0,.int .i64 0,.int .i64 0,.int .i64 0,.int .i64 0,.int .i64 0,.bool false,(.string {data:=#[]}),(.string {data:=#[]}),.int .i64 0,.slice none 0 0,.slice none 0 0,.slice none 0 0,.slice none 0 0,.int .i64 0]) 15 200:=⟨by kernel_rfl⟩
instance:bL 174 0 0 3:=bM runUnderlying174 sizeOf3 J
instance:bL 174 1 1 3:=bM runUnderlying174 sizeOf3 J
instance:bL 174 2 2 3:=bM runUnderlying174 sizeOf3 J
instance:bL 174 3 3 171:=bM runUnderlying174 sizeOf171 J
instance:bL 174 4 5 3:=bM runUnderlying174 sizeOf3 J
instance:bL 174 5 6 158:=bM runUnderlying174 sizeOf158 J
instance:bL 174 6 11 172:=bM runUnderlying174 sizeOf172 J
instance:bL 174 7 12 34:=bM runUnderlying174 sizeOf34 J
instance:bL 174 8 13 42:=bM runUnderlying174 sizeOf42 J
instance:bL 174 9 14 3:=bM runUnderlying174 sizeOf3 J
instance:f7 174 [(0,1),(1,1),(2,1),(3,2),(5,1),(6,5),(11,1),(12,1),(13,1),(14,1)]:=⟨_,runUnderlying174,λw=>by simp [sizeOf158,sizeOf171,sizeOf172,sizeOf3,sizeOf34,sizeOf42]⟩
instance:eR 185 (.slice 174):=⟨runUnderlying185⟩
instance:eg 196 true:=⟨isAgg196⟩
instance:eN 196 29:=⟨sizeOf196⟩
instance:e7 196 (.agg #[.bool false,.int .i64 0,.int .i64 0,.int .i64 0,.int .i64 0,.slice none 0 0,.int .i64 0,(.string {data:=#[]}),(.string {data:=#[]}),.int .i64 0,.slice none 0 0,.bool false,.slice none 0 0,.int .i64 0,.int .i64 0,.int .i64 0,.int .i64 0,.int .i64 0,.int .i64 0,.int .i64 0,.bool false,(.string {data:=#[]}),(.string {data:=#[]}),.int .i64 0,.slice none 0 0,.slice none 0 0,.slice none 0 0,.slice none 0 0,.int .i64 0]):=⟨zeroValue196⟩
instance:lh 196 (.agg #[.bool false,.int .i64 0,.int .i64 0,.int .i64 0,.int .i64 0,.slice none 0 0,.int .i64 0,(.string {data:=#[]}),(.string {data:=#[]}),.int .i64 0,.slice none 0 0,.bool false,.slice none 0 0,.int .i64 0,.int .i64 0,.int .i64 0,.int .i64 0,.int .i64 0,.int .i64 0,.int .i64 0,.bool false,(.string {data:=#[]}),(.string {data:=#[]}),.int .i64 0,.slice none 0 0,.slice none 0 0,.slice none 0 0,.slice none 0 0,.int .i64 0]) 29 376:=⟨by kernel_rfl⟩
instance:bL 196 0 0 4:=bM runUnderlying196 sizeOf4 J
instance:bL 196 1 1 66:=bM runUnderlying196 sizeOf66 J
instance:bL 196 2 14 174:=bM runUnderlying196 sizeOf174 J
instance:f7 196 [(0,1),(1,13),(14,15)]:=⟨_,runUnderlying196,λw=>by simp [sizeOf174,sizeOf4,sizeOf66]⟩
instance:eg 210 false:=⟨isAgg210⟩
instance:eN 210 1:=⟨sizeOf210⟩
instance:eR 210 (.pointer 340):=⟨runUnderlying210⟩
instance:e7 212 (.agg #[.pointer none,(.string {data:=#[]}),.pointer none,.int .i64 0,.int .i64 0]):=⟨zeroValue212⟩
instance:bL 212 0 0 103:=bM runUnderlying212 sizeOf103 J
instance:bL 212 1 1 9:=bM runUnderlying212 sizeOf9 J
instance:bL 212 2 2 210:=bM runUnderlying212 sizeOf210 J
instance:bL 212 4 4 3:=bM runUnderlying212 sizeOf3 J
instance:f7 212 [(0,1),(1,1),(2,1),(3,1),(4,1)]:=⟨_,runUnderlying212,λw=>by simp [sizeOf103,sizeOf210,sizeOf3,sizeOf9]⟩
instance:e7 236 (.agg #[.int .i64 0,.int .i64 0,.int .i64 0,.int .i64 0]):=⟨zeroValue236⟩
instance:bL 236 2 3 3:=bM runUnderlying236 sizeOf3 J
instance:f7 236 [(0,1),(1,2),(3,1)]:=⟨_,runUnderlying236,λw=>by simp [sizeOf171,sizeOf3]⟩
instance:eg 256 false:=⟨isAgg256⟩
instance:e7 258 (.agg #[.slice none 0 0,.int .i64 0,.bool false]):=⟨zeroValue258⟩
instance:bL 258 0 0 126:=bM runUnderlying258 sizeOf126 J
instance:bL 258 1 1 3:=bM runUnderlying258 sizeOf3 J
instance:bL 258 2 2 4:=bM runUnderlying258 sizeOf4 J
instance:f7 258 [(0,1),(1,1),(2,1)]:=⟨_,runUnderlying258,λw=>by simp [sizeOf126,sizeOf3,sizeOf4]⟩
instance:eg 263 false:=⟨isAgg263⟩
instance:eR 263 (.map 9 3):=⟨runUnderlying263⟩
instance:eg 265 true:=⟨isAgg265⟩
instance:eN 265 2:=⟨sizeOf265⟩
instance:e7 265 (.agg #[(.string {data:=#[]}),.int .i64 0]):=⟨zeroValue265⟩
instance:bL 265 0 0 9:=bM runUnderlying265 sizeOf9 J
instance:bL 265 1 1 3:=bM runUnderlying265 sizeOf3 J
instance:e7 266 (.pointer none):=⟨zeroValue266⟩
instance:eR 266 (.pointer 268):=⟨runUnderlying266⟩
instance:e7 268 (.agg #[.slice none 0 0,.int .i64 0]):=⟨zeroValue268⟩
instance:bL 268 0 0 126:=bM runUnderlying268 sizeOf126 J
instance:bL 268 1 1 3:=bM runUnderlying268 sizeOf3 J
instance:f7 268 [(0,1),(1,1)]:=⟨_,runUnderlying268,λw=>by simp [sizeOf126,sizeOf3]⟩
instance:eg 276 false:=⟨isAgg276⟩
instance:eN 276 1:=⟨sizeOf276⟩
instance:eR 276 (.pointer 409):=⟨runUnderlying276⟩
instance:eg 277 false:=⟨isAgg277⟩
instance:eN 277 1:=⟨sizeOf277⟩
instance:eR 277 (.map 3 419):=⟨runUnderlying277⟩
instance:e7 279 (.agg #[.int .i64 0,.int .i64 0,.int .i64 0,.int .i64 0,.int .i64 0,.int .i64 0,.int .i64 0,.int .i64 0,.int .i64 0,.pointer none,.slice none 0 0,.map none]):=⟨zeroValue279⟩
instance:bL 279 0 0 3:=bM runUnderlying279 sizeOf3 J
instance:bL 279 1 1 3:=bM runUnderlying279 sizeOf3 J
instance:bL 279 2 2 3:=bM runUnderlying279 sizeOf3 J
instance:bL 279 3 3 171:=bM runUnderlying279 sizeOf171 J
instance:bL 279 4 5 171:=bM runUnderlying279 sizeOf171 J
instance:bL 279 5 7 3:=bM runUnderlying279 sizeOf3 J
instance:bL 279 6 8 3:=bM runUnderlying279 sizeOf3 J
instance:bL 279 7 9 276:=bM runUnderlying279 sizeOf276 J
instance:bL 279 8 10 172:=bM runUnderlying279 sizeOf172 J
instance:bL 279 9 11 277:=bM runUnderlying279 sizeOf277 J
instance:f7 279 [(0,1),(1,1),(2,1),(3,2),(5,2),(7,1),(8,1),(9,1),(10,1),(11,1)]:=⟨_,runUnderlying279,λw=>by simp [sizeOf171,sizeOf172,sizeOf276,sizeOf277,sizeOf3]⟩
instance:eg 280 false:=⟨isAgg280⟩
instance:eR 280 (.map 3 323):=⟨runUnderlying280⟩
instance:e7 282 (.agg #[.int .i64 0,.int .i64 0,.int .i64 0,.map none]):=⟨zeroValue282⟩
instance:bL 282 0 0 3:=bM runUnderlying282 sizeOf3 J
instance:bL 282 1 1 171:=bM runUnderlying282 sizeOf171 J
instance:bL 282 2 3 280:=bM runUnderlying282 sizeOf280 J
instance:f7 282 [(0,1),(1,2),(3,1)]:=⟨_,runUnderlying282,λw=>by simp [sizeOf171,sizeOf280,sizeOf3]⟩
instance:eg 283 false:=⟨isAgg283⟩
instance:eR 283 (.map 3 158):=⟨runUnderlying283⟩
instance:e7 285 (.agg #[.map none,.int .i64 0]):=⟨zeroValue285⟩
instance:bL 285 0 0 283:=bM runUnderlying285 sizeOf283 J
instance:bL 285 1 1 3:=bM runUnderlying285 sizeOf3 J
instance:f7 285 [(0,1),(1,1)]:=⟨_,runUnderlying285,λw=>by simp [sizeOf283,sizeOf3]⟩
instance:e7 287 (.agg #[.slice none 0 0,.int .i64 0]):=⟨zeroValue287⟩
instance:bL 287 0 0 34:=bM runUnderlying287 sizeOf34 J
instance:f7 287 [(0,1),(1,1)]:=⟨_,runUnderlying287,λw=>by simp [sizeOf3,sizeOf34]⟩
instance:eg 290 true:=⟨isAgg290⟩
instance:eN 290 11:=⟨sizeOf290⟩
instance:e7 290 (.agg #[.int .i64 0,.int .i64 0,(.string {data:=#[]}),(.string {data:=#[]}),.int .i64 0,.bool false,(.string {data:=#[]}),.int .i64 0,.int .i64 0,.int .i64 0,.bool false]):=⟨zeroValue290⟩
instance:lh 290 (.agg #[.int .i64 0,.int .i64 0,(.string {data:=#[]}),(.string {data:=#[]}),.int .i64 0,.bool false,(.string {data:=#[]}),.int .i64 0,.int .i64 0,.int .i64 0,.bool false]) 11 112:=⟨by kernel_rfl⟩
instance:bL 290 0 0 33:=bM runUnderlying290 sizeOf33 J
instance:bL 290 3 10 4:=bM runUnderlying290 sizeOf4 J
instance:f7 290 [(0,7),(7,1),(8,2),(10,1)]:=⟨_,runUnderlying290,λw=>by simp [sizeOf171,sizeOf3,sizeOf33,sizeOf4]⟩
instance:eg 312 false:=⟨isAgg312⟩
instance:eN 312 1:=⟨sizeOf312⟩
instance:eR 312 (.slice 47):=⟨runUnderlying312⟩
instance:eg 323 true:=⟨isAgg323⟩
instance:eN 323 8:=⟨sizeOf323⟩
instance:e7 323 (.agg #[.int .i64 0,.int .i64 0,.int .i64 0,.bool false,(.string {data:=#[]}),(.string {data:=#[]}),.int .i64 0,.slice none 0 0]):=⟨zeroValue323⟩
instance:lh 323 (.agg #[.int .i64 0,.int .i64 0,.int .i64 0,.bool false,(.string {data:=#[]}),(.string {data:=#[]}),.int .i64 0,.slice none 0 0]) 8 96:=⟨by kernel_rfl⟩
instance:bL 323 0 0 3:=bM runUnderlying323 sizeOf3 J
instance:bL 323 1 1 171:=bM runUnderlying323 sizeOf171 J
instance:bL 323 2 3 158:=bM runUnderlying323 sizeOf158 J
instance:f7 323 [(0,1),(1,2),(3,5)]:=⟨_,runUnderlying323,λw=>by simp [sizeOf158,sizeOf171,sizeOf3]⟩
instance:eg 327 false:=⟨isAgg327⟩
instance:eN 327 1:=⟨sizeOf327⟩
instance:e7 327 .nilFunc:=⟨zeroValue327⟩
instance:eg 328 false:=⟨isAgg328⟩
instance:eR 328 (.slice 42):=⟨runUnderlying328⟩
instance:e7 330 (.agg #[.slice none 0 0,.slice none 0 0,.map none]):=⟨zeroValue330⟩
instance:bL 330 0 0 328:=bM runUnderlying330 sizeOf328 J
instance:bL 330 1 1 34:=bM runUnderlying330 sizeOf34 J
instance:bL 330 2 2 96:=bM runUnderlying330 sizeOf96 J
instance:f7 330 [(0,1),(1,1),(2,1)]:=⟨_,runUnderlying330,λw=>by simp [sizeOf328,sizeOf34,sizeOf96]⟩
instance:eg 338 false:=⟨isAgg338⟩
instance:eN 338 1:=⟨sizeOf338⟩
instance:eR 338 (.slice 346):=⟨runUnderlying338⟩
instance:e7 340 (.agg #[.pointer none,(.string {data:=#[]}),.int .i64 0,.slice none 0 0,.int .i64 0]):=⟨zeroValue340⟩
instance:bL 340 0 0 103:=bM runUnderlying340 sizeOf103 J
instance:bL 340 1 1 9:=bM runUnderlying340 sizeOf9 J
instance:bL 340 2 2 3:=bM runUnderlying340 sizeOf3 J
instance:bL 340 3 3 338:=bM runUnderlying340 sizeOf338 J
instance:bL 340 4 4 3:=bM runUnderlying340 sizeOf3 J
instance:f7 340 [(0,1),(1,1),(2,1),(3,1),(4,1)]:=⟨_,runUnderlying340,λw=>by simp [sizeOf103,sizeOf3,sizeOf338,sizeOf9]⟩
instance:eR 341 (.slice 348):=⟨runUnderlying341⟩
instance:eg 346 true:=⟨isAgg346⟩
instance:eN 346 4:=⟨sizeOf346⟩
instance:e7 346 (.agg #[.int .i64 0,.int .i64 0,.int .i64 0,.int .i64 0]):=⟨zeroValue346⟩
instance:lh 346 (.agg #[.int .i64 0,.int .i64 0,.int .i64 0,.int .i64 0]) 4 32:=⟨by kernel_rfl⟩
instance:bL 346 0 0 3:=bM runUnderlying346 sizeOf3 J
instance:bL 346 1 1 3:=bM runUnderlying346 sizeOf3 J
instance:bL 346 2 2 3:=bM runUnderlying346 sizeOf3 J
instance:bL 346 3 3 3:=bM runUnderlying346 sizeOf3 J
instance:f7 346 [(0,1),(1,1),(2,1),(3,1)]:=⟨_,runUnderlying346,λw=>by simp [sizeOf3]⟩
instance:eR 349 (.pointer 346):=⟨runUnderlying349⟩
instance:eR 351 (.slice 354):=⟨runUnderlying351⟩
instance:e7 354 (.agg #[(.string {data:=#[]}),(.string {data:=#[]}),.int .i64 0]):=⟨zeroValue354⟩
instance:lh 354 (.agg #[(.string {data:=#[]}),(.string {data:=#[]}),.int .i64 0]) 3 40:=⟨by kernel_rfl⟩
instance:f7 354 [(0,1),(1,1),(2,1)]:=⟨_,runUnderlying354,λw=>by simp [sizeOf3,sizeOf9]⟩
instance:eg 355 false:=⟨isAgg355⟩
instance:eN 355 1:=⟨sizeOf355⟩
instance:eR 355 (.slice 64):=⟨runUnderlying355⟩
instance:e7 357 (.agg #[.slice none 0 0,.map none,.map none,.int .i64 0]):=⟨zeroValue357⟩
instance:bL 357 0 0 355:=bM runUnderlying357 sizeOf355 J
instance:bL 357 1 1 263:=bM runUnderlying357 sizeOf263 J
instance:bL 357 2 2 263:=bM runUnderlying357 sizeOf263 J
instance:bL 357 3 3 3:=bM runUnderlying357 sizeOf3 J
instance:f7 357 [(0,1),(1,1),(2,1),(3,1)]:=⟨_,runUnderlying357,λw=>by simp [sizeOf263,sizeOf3,sizeOf355]⟩
instance:eg 363 true:=⟨isAgg363⟩
instance:eN 363 3:=⟨sizeOf363⟩
instance:e7 363 (.agg #[(.string {data:=#[]}),.bool false,.bool false]):=⟨zeroValue363⟩
instance:bL 363 0 0 9:=bM runUnderlying363 sizeOf9 J
instance:bL 363 1 1 4:=bM runUnderlying363 sizeOf4 J
instance:bL 363 2 2 4:=bM runUnderlying363 sizeOf4 J
instance:f7 363 [(0,1),(1,1),(2,1)]:=⟨_,runUnderlying363,λw=>by simp [sizeOf4,sizeOf9]⟩
instance:eg 376 false:=⟨isAgg376⟩
instance:eg 407 true:=⟨isAgg407⟩
instance:eN 407 7:=⟨sizeOf407⟩
instance:e7 407 (.agg #[.bool false,.bool false,.bool false,.bool false,.bool false,.bool false,.bool false]):=⟨zeroValue407⟩
instance:eR 407 (.array 7 4):=⟨runUnderlying407⟩
instance:e7 409 (.agg #[.bool false,.bool false,.bool false,.bool false,.bool false,.bool false,.bool false,.int .i64 0]):=⟨zeroValue409⟩
instance:bL 409 0 0 407:=bM runUnderlying409 sizeOf407 J
instance:bL 409 1 7 3:=bM runUnderlying409 sizeOf3 J
instance:f7 409 [(0,7),(7,1)]:=⟨_,runUnderlying409,λw=>by simp [sizeOf3,sizeOf407]⟩
instance:e7 412 (.agg #[.slice none 0 0,.bool false]):=⟨zeroValue412⟩
instance:bL 412 0 0 126:=bM runUnderlying412 sizeOf126 J
instance:bL 412 1 1 4:=bM runUnderlying412 sizeOf4 J
instance:f7 412 [(0,1),(1,1)]:=⟨_,runUnderlying412,λw=>by simp [sizeOf126,sizeOf4]⟩
instance:eN 419 6:=⟨sizeOf419⟩
instance:e7 419 (.agg #[.bool false,(.string {data:=#[]}),(.string {data:=#[]}),.int .i64 0,.slice none 0 0,.pointer none]):=⟨zeroValue419⟩
instance:bL 419 0 0 158:=bM runUnderlying419 sizeOf158 J
instance:bL 419 1 5 276:=bM runUnderlying419 sizeOf276 J
instance:f7 419 [(0,5),(5,1)]:=⟨_,runUnderlying419,λw=>by simp [sizeOf158,sizeOf276]⟩
instance:eR 467 (.int .u64):=⟨runUnderlying467⟩
instance:eg 534 false:=⟨isAgg534⟩
instance:eN 534 1:=⟨sizeOf534⟩
instance:e7 534 (.map none):=⟨zeroValue534⟩
instance:eR 534 (.map 47 4):=⟨runUnderlying534⟩
instance:eg 535 false:=⟨isAgg535⟩
instance:eN 535 1:=⟨sizeOf535⟩
instance:e7 535 (.map none):=⟨zeroValue535⟩
instance:eR 535 (.map 540 538):=⟨runUnderlying535⟩
instance:e7 538 (.slice none 0 0):=⟨zeroValue538⟩
instance:eR 538 (.slice 34):=⟨runUnderlying538⟩
instance:eg 540 true:=⟨isAgg540⟩
instance:eN 540 2:=⟨sizeOf540⟩
instance:e7 540 (.agg #[(.string {data:=#[]}),(.string {data:=#[]})]):=⟨zeroValue540⟩
instance:f7 540 [(0,1),(1,1)]:=⟨_,runUnderlying540,λw=>by simp [sizeOf9]⟩
abbrev aM:=li prog
instance:aM 4:=⟨call4⟩
instance:aM 5:=⟨call5⟩
instance:aM 6:=⟨call6⟩
instance:aM 7:=⟨call7⟩
instance:aM 8:=⟨call8⟩
instance:aM 9:=⟨call9⟩
instance:aM 10:=⟨call10⟩
instance:aM 11:=⟨call11⟩
instance:aM 12:=⟨call12⟩
instance:aM 13:=⟨call13⟩
instance:aM 14:=⟨call14⟩
instance:aM 15:=⟨call15⟩
instance:aM 16:=⟨call16⟩
instance:aM 17:=⟨call17⟩
instance:aM 18:=⟨call18⟩
instance:aM 19:=⟨call19⟩
instance:aM 20:=⟨call20⟩
instance:aM 21:=⟨call21⟩
instance:aM 22:=⟨call22⟩
instance:aM 23:=⟨call23⟩
instance:aM 24:=⟨call24⟩
instance:aM 25:=⟨call25⟩
instance:aM 26:=⟨call26⟩
instance:aM 27:=⟨call27⟩
instance:aM 28:=⟨call28⟩
instance:aM 29:=⟨call29⟩
instance:aM 30:=⟨call30⟩
instance:aM 31:=⟨call31⟩
instance:aM 32:=⟨call32⟩
instance:aM 33:=⟨call33⟩
instance:aM 34:=⟨call34⟩
instance:aM 35:=⟨call35⟩
instance:aM 36:=⟨call36⟩
instance:aM 39:=⟨call39⟩
instance:aM 40:=⟨call40⟩
instance:aM 41:=⟨call41⟩
instance:aM 42:=⟨call42⟩
instance:aM 43:=⟨call43⟩
instance:aM 44:=⟨call44⟩
instance:aM 47:=⟨call47⟩
instance:aM 48:=⟨call48⟩
instance:aM 49:=⟨call49⟩
instance:aM 50:=⟨call50⟩
instance:aM 51:=⟨call51⟩
instance:aM 56:=⟨call56⟩
instance:aM 57:=⟨call57⟩
instance:aM 58:=⟨call58⟩
instance:aM 59:=⟨call59⟩
instance:aM 60:=⟨call60⟩
instance:aM 62:=⟨call62⟩
instance:aM 66:=⟨call66⟩
instance:aM 67:=⟨call67⟩
instance:aM 68:=⟨call68⟩
instance:aM 69:=⟨call69⟩
instance:aM 70:=⟨call70⟩
instance:aM 71:=⟨call71⟩
instance:aM 72:=⟨call72⟩
instance:aM 73:=⟨call73⟩
instance:aM 74:=⟨call74⟩
instance:aM 75:=⟨call75⟩
instance:aM 76:=⟨call76⟩
instance:aM 77:=⟨call77⟩
instance:aM 78:=⟨call78⟩
instance:aM 79:=⟨call79⟩
instance:aM 80:=⟨call80⟩
instance:aM 81:=⟨call81⟩
instance:aM 83:=⟨call83⟩
instance:aM 84:=⟨call84⟩
instance:aM 85:=⟨call85⟩
instance:aM 86:=⟨call86⟩
instance:aM 87:=⟨call87⟩
instance:aM 88:=⟨call88⟩
instance:aM 89:=⟨call89⟩
instance:aM 90:=⟨call90⟩
instance:aM 91:=⟨call91⟩
instance:aM 92:=⟨call92⟩
instance:aM 93:=⟨call93⟩
instance:aM 94:=⟨call94⟩
instance:aM 95:=⟨call95⟩
instance:aM 96:=⟨call96⟩
instance:aM 97:=⟨call97⟩
instance:aM 98:=⟨call98⟩
instance:aM 99:=⟨call99⟩
instance:aM 100:=⟨call100⟩
instance:aM 101:=⟨call101⟩
instance:aM 102:=⟨call102⟩
instance:aM 103:=⟨call103⟩
instance:aM 108:=⟨call108⟩
instance:aM 109:=⟨call109⟩
instance:aM 110:=⟨call110⟩
instance:aM 111:=⟨call111⟩
instance:aM 112:=⟨call112⟩
instance:aM 113:=⟨call113⟩
instance:aM 114:=⟨call114⟩
instance:aM 115:=⟨call115⟩
instance:aM 116:=⟨call116⟩
instance:aM 117:=⟨call117⟩
instance:aM 118:=⟨call118⟩
instance:aM 119:=⟨call119⟩
instance:aM 120:=⟨call120⟩
instance:aM 121:=⟨call121⟩
instance:aM 122:=⟨call122⟩
instance:aM 123:=⟨call123⟩
instance:aM 124:=⟨call124⟩
instance:aM 125:=⟨call125⟩
instance:aM 127:=⟨call127⟩
instance:aM 129:=⟨call129⟩
instance:aM 132:=⟨call132⟩
instance:aM 133:=⟨call133⟩
instance:aM 134:=⟨call134⟩
instance:aM 135:=⟨call135⟩
instance:aM 136:=⟨call136⟩
instance:aM 137:=⟨call137⟩
instance:aM 138:=⟨call138⟩
instance:aM 139:=⟨call139⟩
instance:aM 140:=⟨call140⟩
instance:aM 141:=⟨call141⟩
instance:aM 142:=⟨call142⟩
instance:aM 143:=⟨call143⟩
instance:aM 144:=⟨call144⟩
instance:aM 145:=⟨call145⟩
instance:aM 146:=⟨call146⟩
instance:aM 147:=⟨call147⟩
instance:aM 148:=⟨call148⟩
instance:aM 149:=⟨call149⟩
instance:aM 150:=⟨call150⟩
instance:aM 151:=⟨call151⟩
instance:aM 152:=⟨call152⟩
instance:aM 153:=⟨call153⟩
instance:aM 154:=⟨call154⟩
instance:aM 155:=⟨call155⟩
instance:aM 158:=⟨call158⟩
instance:aM 159:=⟨call159⟩
instance:aM 160:=⟨call160⟩
instance:aM 161:=⟨call161⟩
instance:aM 162:=⟨call162⟩
instance:aM 163:=⟨call163⟩
instance:aM 164:=⟨call164⟩
instance:aM 165:=⟨call165⟩
instance:aM 166:=⟨call166⟩
instance:aM 167:=⟨call167⟩
instance:aM 168:=⟨call168⟩
instance:aM 169:=⟨call169⟩
instance:aM 170:=⟨call170⟩
instance:aM 171:=⟨call171⟩
instance:aM 172:=⟨call172⟩
instance:aM 173:=⟨call173⟩
instance:aM 174:=⟨call174⟩
instance:aM 175:=⟨call175⟩
instance:aM 176:=⟨call176⟩
instance:aM 177:=⟨call177⟩
instance:aM 178:=⟨call178⟩
instance:aM 179:=⟨call179⟩
instance:aM 180:=⟨call180⟩
instance:aM 181:=⟨call181⟩
instance:aM 182:=⟨call182⟩
instance:aM 183:=⟨call183⟩
instance:aM 184:=⟨call184⟩
instance:aM 185:=⟨call185⟩
instance:aM 186:=⟨call186⟩
instance:aM 187:=⟨call187⟩
instance:aM 188:=⟨call188⟩
instance:aM 189:=⟨call189⟩
instance:aM 190:=⟨call190⟩
instance:aM 191:=⟨call191⟩
instance:aM 192:=⟨call192⟩
instance:aM 196:=⟨call196⟩
instance:aM 200:=⟨call200⟩
instance:aM 201:=⟨call201⟩
instance:aM 202:=⟨call202⟩
instance:aM 203:=⟨call203⟩
instance:aM 204:=⟨call204⟩
instance:aM 206:=⟨call206⟩
instance:aM 207:=⟨call207⟩
instance:aM 211:=⟨call211⟩
instance:aM 213:=⟨call213⟩
instance:aM 215:=⟨call215⟩
instance:aM 216:=⟨call216⟩
instance:aM 217:=⟨call217⟩
instance:aM 218:=⟨call218⟩
instance:aM 219:=⟨call219⟩
instance:aM 222:=⟨call222⟩
instance:aM 223:=⟨call223⟩
instance:aM 225:=⟨call225⟩
instance:aM 226:=⟨call226⟩
instance:aM 227:=⟨call227⟩
instance:aM 229:=⟨call229⟩
instance:aM 230:=⟨call230⟩
instance:aM 231:=⟨call231⟩
instance:aM 232:=⟨call232⟩
instance:aM 233:=⟨call233⟩
instance:aM 234:=⟨call234⟩
instance:aM 235:=⟨call235⟩
instance:aM 236:=⟨call236⟩
instance:aM 237:=⟨call237⟩
instance:aM 238:=⟨call238⟩
instance:aM 239:=⟨call239⟩
instance:aM 240:=⟨call240⟩
instance:aM 241:=⟨call241⟩
instance:aM 242:=⟨call242⟩
instance:aM 243:=⟨call243⟩
instance:aM 244:=⟨call244⟩
instance:aM 245:=⟨call245⟩
instance:aM 246:=⟨call246⟩
instance:aM 247:=⟨call247⟩
instance:aM 248:=⟨call248⟩
instance:aM 249:=⟨call249⟩
instance:aM 250:=⟨call250⟩
instance:aM 251:=⟨call251⟩
instance:aM 252:=⟨call252⟩
instance:aM 253:=⟨call253⟩
instance:aM 254:=⟨call254⟩
instance:aM 255:=⟨call255⟩
instance:aM 258:=⟨call258⟩
instance:aM 259:=⟨call259⟩
instance:aM 260:=⟨call260⟩
instance:aM 261:=⟨call261⟩
instance:aM 262:=⟨call262⟩
instance:aM 263:=⟨call263⟩
instance:aM 264:=⟨call264⟩
instance:aM 265:=⟨call265⟩
instance:aM 266:=⟨call266⟩
instance:aM 267:=⟨call267⟩
instance:aM 268:=⟨call268⟩
instance:aM 269:=⟨call269⟩
instance:aM 270:=⟨call270⟩
instance:aM 271:=⟨call271⟩
instance:aM 272:=⟨call272⟩
instance:aM 273:=⟨call273⟩
instance:aM 274:=⟨call274⟩
instance:aM 275:=⟨call275⟩
instance:aM 276:=⟨call276⟩
instance:aM 277:=⟨call277⟩
instance:aM 278:=⟨call278⟩
instance:aM 279:=⟨call279⟩
instance:aM 280:=⟨call280⟩
instance:aM 281:=⟨call281⟩
instance:aM 282:=⟨call282⟩
instance:aM 283:=⟨call283⟩
instance:aM 284:=⟨call284⟩
instance:aM 285:=⟨call285⟩
instance:aM 286:=⟨call286⟩
instance:aM 287:=⟨call287⟩
instance:aM 288:=⟨call288⟩
instance:aM 289:=⟨call289⟩
instance:aM 290:=⟨call290⟩
instance:aM 291:=⟨call291⟩
instance:aM 292:=⟨call292⟩
instance:aM 293:=⟨call293⟩
instance:aM 294:=⟨call294⟩
instance:aM 295:=⟨call295⟩
instance:aM 296:=⟨call296⟩
instance:aM 297:=⟨call297⟩
instance:aM 298:=⟨call298⟩
instance:aM 299:=⟨call299⟩
instance:aM 302:=⟨call302⟩
instance:aM 303:=⟨call303⟩
instance:aM 308:=⟨call308⟩
instance:aM 310:=⟨call310⟩
instance:aM 312:=⟨call312⟩
instance:aM 313:=⟨call313⟩
instance:aM 314:=⟨call314⟩
instance:aM 315:=⟨call315⟩
instance:aM 316:=⟨call316⟩
instance:aM 317:=⟨call317⟩
instance:aM 318:=⟨call318⟩
instance:aM 322:=⟨call322⟩
instance:aM 326:=⟨call326⟩
instance:aM 329:=⟨call329⟩
instance:aM 330:=⟨call330⟩
instance:aM 333:=⟨call333⟩
instance:aM 334:=⟨call334⟩
instance:aM 335:=⟨call335⟩
instance:aM 336:=⟨call336⟩
instance:aM 337:=⟨call337⟩
instance:aM 338:=⟨call338⟩
instance:aM 339:=⟨call339⟩
instance:aM 340:=⟨call340⟩
instance:aM 341:=⟨call341⟩
instance:aM 342:=⟨call342⟩
instance:aM 343:=⟨call343⟩
instance:aM 344:=⟨call344⟩
instance:aM 345:=⟨call345⟩
instance:aM 346:=⟨call346⟩
instance:aM 347:=⟨call347⟩
instance:aM 348:=⟨call348⟩
instance:aM 349:=⟨call349⟩
instance:aM 350:=⟨call350⟩
instance:aM 351:=⟨call351⟩
instance:aM 352:=⟨call352⟩
instance:aM 353:=⟨call353⟩
instance:aM 354:=⟨call354⟩
instance:aM 355:=⟨call355⟩
instance:aM 356:=⟨call356⟩
instance:aM 357:=⟨call357⟩
instance:aM 358:=⟨call358⟩
instance:aM 359:=⟨call359⟩
instance:aM 360:=⟨call360⟩
instance:aM 361:=⟨call361⟩
instance:aM 362:=⟨call362⟩
instance:aM 363:=⟨call363⟩
instance:aM 364:=⟨call364⟩
instance:aM 365:=⟨call365⟩
instance:aM 366:=⟨call366⟩
instance:aM 367:=⟨call367⟩
instance:aM 368:=⟨call368⟩
instance:aM 369:=⟨call369⟩
instance:aM 370:=⟨call370⟩
instance:aM 371:=⟨call371⟩
instance:aM 372:=⟨call372⟩
instance:aM 373:=⟨call373⟩
instance:aM 374:=⟨call374⟩
instance:aM 375:=⟨call375⟩
instance:aM 376:=⟨call376⟩
instance:aM 377:=⟨call377⟩
instance:aM 383:=⟨call383⟩
instance:aM 384:=⟨call384⟩
instance:aM 385:=⟨call385⟩
instance:aM 386:=⟨call386⟩
instance:aM 395:=⟨call395⟩
instance:aM 396:=⟨call396⟩
instance:aM 397:=⟨call397⟩
instance:aM 398:=⟨call398⟩
instance:aM 399:=⟨call399⟩
instance:aM 400:=⟨call400⟩
instance:aM 401:=⟨call401⟩
instance:aM 402:=⟨call402⟩
instance:aM 403:=⟨call403⟩
instance:aM 404:=⟨call404⟩
instance:aM 405:=⟨call405⟩
instance:aM 406:=⟨call406⟩
instance:aM 407:=⟨call407⟩
instance:aM 408:=⟨call408⟩
instance:aM 409:=⟨call409⟩
instance:aM 410:=⟨call410⟩
instance:aM 411:=⟨call411⟩
instance:aM 412:=⟨call412⟩
instance:aM 413:=⟨call413⟩
instance:aM 416:=⟨call416⟩
instance:aM 417:=⟨call417⟩
instance:aM 418:=⟨call418⟩
instance:aM 427:=⟨call427⟩
instance:aM 434:=⟨call434⟩
instance:aM 442:=⟨call442⟩
instance:aM 449:=⟨call449⟩
instance:aM 450:=⟨call450⟩
instance:aM 451:=⟨call451⟩
instance:aM 452:=⟨call452⟩
instance:aM 453:=⟨call453⟩
instance:aM 454:=⟨call454⟩
instance:aM 455:=⟨call455⟩
instance:aM 456:=⟨call456⟩
instance:aM 457:=⟨call457⟩
instance:aM 458:=⟨call458⟩
instance:aM 459:=⟨call459⟩
instance:aM 460:=⟨call460⟩
instance:aM 461:=⟨call461⟩
instance:aM 462:=⟨call462⟩
instance:aM 463:=⟨call463⟩
instance:aM 464:=⟨call464⟩
instance:aM 465:=⟨call465⟩
instance:aM 476:=⟨call476⟩
instance:aM 504:=⟨call504⟩
instance:aM 506:=⟨call506⟩
instance:aM 507:=⟨call507⟩
instance:aM 508:=⟨call508⟩
instance:Ff prog:=⟨by kernel_rfl⟩
open Go
section
variable {r:Option Nat} {n:Nat} {P:Program} {ops:Array Oper} {rest:List Oper} {K:St->Prop} {Q:Exit->St->Prop} {D:List Deferred} {E E':cZ} {L L':List HP} {d:Nat} {ty:TypeId} {pos:String} {af:Array Edge} {s:St}
theorem ai (h:K s):p9 K Q .normal s:=h
theorem aU (h:Q .ret s):p9 K Q .ret s:=h
theorem aY {id:Nat} (h:Q (.exit id) s):p9 K Q (.exit id) s:=h
theorem bA {id:Nat} (h:Q .normal s):y9 id Q .normal s:=h
theorem db {id:Nat} (h:Q .ret s):y9 id Q .ret s:=h
theorem cu {id:Nat} (h:Q .normal s):y9 id Q (.exit id) s:=by simpa [y9] using h
theorem z9 {i id:Nat} (hi:Nat.beq i id=false) (h:Q (.exit i) s):y9 id Q (.exit i) s:=by
 have:i≠id:=λe=>by subst e; simp at hi
 simpa [y9,this] using h
theorem iM:∀ i v,dM [] i=some v->dM E i=some v:=λ_ _ h=>by cases h
theorem dC {u:Value} (h:dM E j=some u) (hs:∀ i v,dM E' i=some v->dM E i=some v):∀ i v,dM ((j,u)::E') i=some v->dM E i=some v:=λi v hv=>by
 simp only [dM] at hv
 cases e:Nat.beq j i with
 | true=>
  rw [e] at hv
  simp only [cond_true,kH] at hv
  have:j=i:=qC e
  subst this; subst hv
  exact h
 | false=>rw [e] at hv; exact hs i v hv
theorem iY (hE:∀ i v,dM E' i=some v->dM E i=some v) (hg:am L L'):∀ W a w,Holds n W ⟨D,E,L⟩ a w->Holds n W ⟨D,E',L'⟩ a w:=λW a w hh=>⟨hh.1.less hE,hh.2.ay hg⟩
class cR (L:List HP) (p:HP) (R:outParam (List HP)):Prop where
 g:am L (p::R)
instance {q:HP} {L R:List HP} [h:cR L p R]:cR (q::L) p (q::R):=⟨(am.cons q h.g).trans (am.swap q p R)⟩
instance {L:List HP}:cR (p::L) p L:=⟨am.refl _⟩
class bu (L L':List HP):Prop where
 g:am L L'
instance (priority:=10) {L L':List HP} [k:bu L L']:bu (p::L) L':=⟨λM m ⟨h1,h2,hd,l1,l2,hp,hs⟩=>k.g M m (Sep.mono (Mem.le_refl _) l2 hs)⟩
instance {L L1 L':List HP} [h:cR L p L1] [k:bu L1 L']:bu L (p::L'):=⟨h.g.trans (am.cons p k.g)⟩
instance {L:List HP}:bu L []:=⟨am.nil L⟩
instance {L:List HP}:bu L L:=⟨am.refl L⟩
theorem ac3 (I:σ->Prop) (S:σ->St) {x c:Code} (h1:T r n P x s (p9 (λs'=>∃ y,I y/\∀ W a w,Holds n W s' a w->Holds n W (S y) a w) Q)) (h2:∀ y,I y->T r n P c (S y) Q):T r n P (.seq x c) s Q:=by
 refine ar (T.mono h1 λe s' h=> ?_)
 cases e <;> simp only [p9] at h ⊢
 case normal=>
  obtain ⟨y,hy,hS⟩:=h
  exact λW a w hh=>h2 y hy W a w (hS W a w hh)
 all_goals exact h
theorem ahz (I:σ->Prop) (S:σ->St) {l1 l2:List Oper} (h1:TL r n P ops l1 s (λs'=>∃ y,I y/\∀ W a w,Holds n W s' a w->Holds n W (S y) a w)) (h2:∀ y,I y->TL r n P ops l2 (S y) K):TL r n P ops (l1++l2) s K:=λW a w hh=>by
 have key:∀ (l1:List Oper) (a:Act) (w:World),wpListIn (Fw r) 0 P ops (λe a' w'=>e=.normal/\∃ s',(∃ y,I y/\∀ W a w,Holds n W s' a w->Holds n W (S y) a w)/\Holds n W s' a' w') l1 a w→
   wpListIn (Fw r) 0 P ops (λe a' w'=>e=.normal/\∃ s',K s'/\Holds n W s' a' w') (l1++l2) a w:=by
  intro l1
  induction l1 with
  | nil=>
   rintro a w ⟨_,s',⟨y,hy,hS⟩,hh⟩
   exact h2 y hy W a w (hS W a w hh)
  | cons o l1 ih=>
   intro a w h
   simp only [wpListIn,dL] at h ⊢
   split
   ·rename_i hw
    rw [if_pos hw] at h
    exact ⟨h.1,HB ih (λc a w h=>by cases h.1) (λ⟨_,_,h⟩=>by cases h.1) _ h.2⟩
   ·rename_i hw
    rw [if_neg hw] at h
    exact ⟨h.1,ih _ _ h.2⟩
 exact key l1 a w (h1 W a w hh)
theorem Fn.rM {args:Array Value} (h:Fn P f args L Φ) (k:∀ v L',Φ v L'->Ψ v L'):Fn P f args L Ψ:=λW w hh=>
 (h W w hh).mono λe w' ⟨v,L1,he,hΦ,hs⟩=>⟨v,L1,he,k v L1 hΦ,hs⟩
section
variable {x y:Operand} {t t':TypeId} {a b:ByteArray}
theorem toList_eq {a b:ByteArray}:(a.toList==b.toList)=decide (a=b):=by
 rw [Lib.toList_data,Lib.toList_data]
 by_cases h:a=b
 ·subst h; simp
 ·have:a.data.toList≠b.data.toList:=λe=>h (by
   cases a; cases b
   congr 1
   exact Array.ext' e)
  rw [cJ h]; exact beq_false_of_ne this
theorem aga {p q:ByteArray}:(p==q)=decide (p=q):=by
 have e:(p==q)=(p.data==q.data):=rfl
 rw [e]
 by_cases h:p=q
 ·subst h; simp
 ·rw [cJ h]; exact beq_eq_false_iff_ne.2 λe=>h (by cases p; cases q; exact bi _ e)
def dh (P:Program) (t:TypeId) (u v:Value) (b:Bool):Prop:=∀ d w,(Op.equalIn (d+1) t u v).run P w=.ok b w
class Dp (u v:Value):Prop where
 e:∀ t,binOp .eql t u v=(do Pure.pure (Value.bool (<- Op.equal t u v)):Sem Value)
 n:∀ t,binOp .neq t u v=(do Pure.pure (Value.bool (!(<- Op.equal t u v))):Sem Value)
 g:∀ op t x y,eqGuard op t x y u v=Pure.pure ()
instance {p q:Bool}:Dp (.bool p) (.bool q):=⟨λt=>by simp only [binOp],λt=>by simp only [binOp],λop t x y=>by cases op <;> rfl⟩
variable{p q:Option Addr}
instance {k k' c':Nat}:Dp (.slice p k c) (.slice q k' c'):=⟨λt=>by simp only [binOp],λt=>by simp only [binOp],λop t x y=>by cases op <;> rfl⟩
instance:Dp (.pointer p) (.pointer q):=⟨λt=>by simp only [binOp],λt=>by simp only [binOp],λop t x y=>by cases op <;> rfl⟩
instance {p q:Option _}:Dp (.map p) (.map q):=⟨λt=>by simp only [binOp],λt=>by simp only [binOp],λop t x y=>by cases op <;> rfl⟩
section
variable {x y:Operand} {t t':TypeId} {u v:Value} {b:Bool}
theorem dh.equal (h:dh P t u v b) (w:World):(Op.equal t u v).run P w=.ok b w:=h 9999 w
theorem fR [hb:Dp u v] (hx:ev E x=some u) (hy:ev E y=some v) (h:dh P t u v b):Yl P E L (.binOp .eql t x y t') ty (.bool b):=λn D W ac w dst pos af g ha hs=>by
 simp [execOp,ha.ev hx,ha.ev hy,hb.g,hb.e,h.equal]
theorem f8 [hb:Dp u v] (hx:ev E x=some u) (hy:ev E y=some v) (h:dh P t u v b):Yl P E L (.binOp .neq t x y t') ty (.bool (!b)):=λn D W ac w dst pos af g ha hs=>by
 simp [execOp,ha.ev hx,ha.ev hy,hb.g,hb.n,h.equal]
theorem dh.bool [ht:dy P t .bool] {p q:Bool}:dh P t (.bool p) (.bool q) (p==q):=λd w=>by simp [Op.equalIn,ht.run]
theorem dh.str [ht:dy P t .string] {p q:ByteArray}:dh P t (.string p) (.string q) (decide (p=q)):=λd w=>by simp [Op.equalIn,ht.run]; exact aga
theorem dh.int {k:IntKind} [ht:dy P t (.int k)] {p q:Int}:dh P t (.int k p) (.int k q) (decide (p=q)):=λd w=>by
 simp [Op.equalIn,ht.run]; rfl
theorem dh.wg [ht:dy P t (.slice e)] {k k' c':Nat}:dh P t (.slice A k c) (.slice none k' c') (decide (A=none)):=λd w=>by
 cases A <;> simp [Op.equalIn,ht.run]
theorem dh.eJ [ht:dy P t (.pointer e)]:dh P t (.pointer A) (.pointer none) (decide (A=none)):=λd w=>by
 cases A <;> simp [Op.equalIn,ht.run]
end
theorem kI (hx:ev E x=some (.string a)) (hy:ev E y=some (.string b)):Yl P E L (.binOp .eql t x y t') ty (.bool (decide (a=b))):=λn D W ac w dst pos af g ha hs=>by
 simp only [execOp,ha.ev hx,ha.ev hy,eqGuard,Go.binOp,Op.stringOp,toList_eq]; rfl
theorem yh (hx:ev E x=some (.string a)) (hy:ev E y=some (.string b)):Yl P E L (.binOp .neq t x y t') ty (.bool (decide (a≠b))):=λn D W ac w dst pos af g ha hs=>by
 simp only [execOp,ha.ev hx,ha.ev hy,eqGuard,Go.binOp,Op.stringOp,toList_eq,decide_not]; rfl
end
theorem aiW {x y:Operand} {t':TypeId} {k:IntKind} {a b:Int} (hx:ev E x=some (.int k a)) (hy:ev E y=some (.int k b)):Yl P E L (.call {callee:=.builtin .min,args:=#[x,y],argTypes:=#[t,t']}) ty (.int k (min a b)):=λn D W ac w dst pos af g ha hs=>by
 have e:(if b < a then b else a)=min a b:=by omega
 simp [execOp,resolve,invoke,builtin,ha.ev hx,ha.ev hy,Builtin.min_,Builtin.min2,e]
end
open Go
def IJ:List Nat->cZ->Option cZ
 | [],_=>some []
 | k::ks,E=>match dM E k with
  | some v=>match IJ ks E with
   | some r=>some ((k,v)::r)
   | none=>none
  | none=>none
section
variable {r:Option Nat} {n:Nat} {P:Program} {ops:Array Oper} {rest:List Oper} {K:St->Prop} {Q:Exit->St->Prop} {D:List Deferred} {E E' kv:cZ} {L L':List HP} {d:Nat} {ty:TypeId} {pos:String} {af:Array Edge} {s:St}
theorem agb {K K':St->Prop} {s:St} (h:TL r n P ops l s K) (hk:∀ s,K s->K' s):TL r n P ops l s K':=λW a w hh=>
 Ej (λe a' w' ⟨he,s',q,k⟩=>⟨he,s',hk _ q,k⟩) l a w (h W a w hh)
variable{c:Code}
theorem cY (ks:List Nat) (I:σ->Prop) (U:σ->cZ->cZ) (M:σ->List HP) (μ:σ->Nat) (x0:σ) (hk:IJ ks E=some kv) (h0:I x0) (hg:am L (M x0)) (h1:∀ i v,dM (U x0 kv) i=some v->dM E i=some v) 
  (round:∀ x,I x->T r n P c ⟨D,U x kv,M x⟩ (p9 (λs'=>∃ y,I y/\μ y < μ x/\∀ W a w,Holds n W s' a w->Holds n W ⟨D,U y kv,M y⟩ a w) Q)):T r n P (.loop c) ⟨D,E,L⟩ Q:=
 aht I (λx=>⟨D,U x kv,M x⟩) μ x0 h0 (iY h1 hg) round
theorem MM {x:Code} (ks:List Nat) (I:σ->Prop) (U:σ->cZ->cZ) (M:σ->List HP) (hk:IJ ks E=some kv) 
  (h1:T r n P x ⟨D,E,L⟩ (p9 (λs'=>∃ y,I y/\∀ W a w,Holds n W s' a w->Holds n W ⟨D,U y kv,M y⟩ a w) Q)) (h2:∀ y,I y->T r n P c ⟨D,U y kv,M y⟩ Q):T r n P (.seq x c) ⟨D,E,L⟩ Q:=
 ac3 I (λy=>⟨D,U y kv,M y⟩) h1 h2
def IK {α:Type}:Nat->List α->List α
 | k+1,x::l=>x::IK k l
 | _,_=>[]
def IL {α:Type}:Nat->List α->List α
 | k+1,_::l=>IL k l
 | _,l=>l
theorem Rf {α:Type}:∀ (k:Nat) (l:List α),IK k l++IL k l=l
 | 0,l=>rfl
 | k+1,[]=>rfl
 | k+1,x::l=>by simp [IK,IL,Rf k l]
theorem jJ (k g:Nat) (p:Prop) [Decidable p] (h1:TL r n P ops (IK k l) ⟨D,E,L⟩ (λs'=>∀ W a w,Holds n W s' a w->Holds n W ⟨D,(g,.bool (decide p))::E,L⟩ a w)) (h2:TL r n P ops (IL k l) ⟨D,(g,.bool (decide p))::E,L⟩ K):TL r n P ops l ⟨D,E,L⟩ K:=by
 rw [<- Rf k l]
 exact ahz (σ:=Unit) (λ_=>True) (λ_=>⟨D,(g,.bool (decide p))::E,L⟩) (agb h1 λs h=>⟨(),trivial,h⟩) (λ_ _=>h2)
theorem g8 {op:Op} {g:Nat} {want:Bool} (hd:Nat.blt d n=true) (hy:(ops[j]?).bind (·.dst)=some g) (hl:dM E g=some undef) 
  (h:TL r n P ops rest ⟨D,(d,undef)::E,L⟩ K):TL r n P ops (⟨some d,op,ty,pos,af,some (j,want)⟩::rest) ⟨D,E,L⟩ K:=λW a w hh=>by
 have hw:Region.wanted ⟨some d,op,ty,pos,af,some (j,want)⟩ (yielded ops a.tmps)=false:=by
  simp only [Region.wanted,yielded,hy,xU,hh.1.get g _ hl]
  rfl
 simp only [wpListIn,hw,lM,if_false]
 exact ⟨λ_ _=>trivial,h W _ _ ⟨hh.1.put (by simpa using hd) _,hh.2⟩⟩
variable{u:Int}
theorem Rg {s:ByteArray} (h:(f4 s)[i]? =some u):0<=u/\u<=255:=by
 obtain ⟨b,_,rfl⟩:=fY.1 (eA h)
 have:=b.toNat_lt
 omega
variable{x:Operand}{ik:IntKind}
theorem ac4 {i:Operand} {s:ByteArray} [ht:dy P t .string] (hx:ev E x=some (.string s)) (hi:ev E i=some (.int ik (j:Int))) (hu:(f4 s)[j]? =some u):
  Yl P E L (.index t x i) ty (.int .u8 u):=by
 have hj:j < s.size:=by rw [<- nE]; exact (dX.1 hu).1
 refine (aah hx hi ⟨by omega,by omega⟩).val ?_
 have:u=(s[j].toNat:Int):=by
  simp only [f4,e_] at hu
  have h2:s.data.toList[j]? =some s[j]:=by
   rw [cj (by simpa using hj)]; rfl
  rw [h2] at hu
  simpa using hu.symm
 rw [this]; simp
variable{l:List Value}{L1:List HP}
theorem g_ (b:Nat) [hf:fL L b l t L1] (h:TL r n P ops rest ⟨D,E,cells b l t::L1⟩ K):TL r n P ops rest ⟨D,E,L⟩ K:=bX hf.g h
theorem MN (b:Nat) [hf:fL L b l t L1] (h:T r n P c ⟨D,E,cells b l t::L1⟩ Q):T r n P c ⟨D,E,L⟩ Q:=b_ hf.g h
variable{c':Code}
theorem CP (A:Option Addr) (c:Nat) {β:Type} {R:bZ β} {xs:List β} [hf:md L A c β R t xs L1] (h:T r n P c' ⟨D,E,aN R t A c xs::L1⟩ Q):T r n P c' ⟨D,E,L⟩ Q:=b_ hf.g h
section
variable {fn:Func} {Φ:Value->List HP->Prop} {x y z:ResultVar} {u v t:Value} {e:Exit}
theorem lj (he:e=.ret\/e=.normal) (hr:fn.results=#[]) (g:am L L') (h:Φ (.tuple #[]) L'):aF P fn Φ e ⟨[],E,L⟩:=aF.ay g (aiC he hr h)
theorem aF.imp {L L':List HP} (g:am L L') (hm:∀ v,Ψ v L->Φ v L') (h:aF P fn (λv L1=>Ψ v L/\L1=L) e ⟨[],E,L⟩):aF P fn Φ e ⟨[],E,L⟩:=by
 cases e <;> simp only [aF] at h ⊢
 case ret=>exact ⟨h.1,let ⟨v,L1,a,b⟩:=h.2; ⟨v,L',hm v a.1,λn W c w hh=>let k:=b n W c w hh; ⟨by rw [a.2] at k; exact k.1.ay g,k.2⟩⟩⟩
 case normal=>exact ⟨h.1,let ⟨v,L1,a,b⟩:=h.2; ⟨v,L',hm v a.1,λn W c w hh=>let k:=b n W c w hh; ⟨by rw [a.2] at k; exact k.1.ay g,k.2⟩⟩⟩
theorem eK (he:e=.ret\/e=.normal) (hr:fn.results=#[x]) (hx:bf P E L x v) (g:am L L') (h:Φ v L'):aF P fn Φ e ⟨[],E,L⟩:=
 aF.imp (Ψ:=λu _=>u=v) g (λu e=>e ▸ h) (aiD he hr hx ⟨rfl,rfl⟩)
theorem kK (he:e=.ret\/e=.normal) (hr:fn.results=#[x,y]) (hx:bf P E L x u) (hy:bf P E L y v) (g:am L L') (h:Φ (.tuple #[u,v]) L'):aF P fn Φ e ⟨[],E,L⟩:=
 aF.imp (Ψ:=λq _=>q=.tuple #[u,v]) g (λq e=>e ▸ h) (aiE he hr hx hy ⟨rfl,rfl⟩)
theorem ja (he:e=.ret\/e=.normal) (hr:fn.results=#[x,y,z]) (hx:bf P E L x u) (hy:bf P E L y v) (hz:bf P E L z t) (g:am L L') (h:Φ (.tuple #[u,v,t]) L'):aF P fn Φ e ⟨[],E,L⟩:=
 aF.imp (Ψ:=λq _=>q=.tuple #[u,v,t]) g (λq e=>e ▸ h) (aiF he hr hx hy hz ⟨rfl,rfl⟩)
end
variable {α:Type} {R:bZ α} {A:Option Addr} {c:Nat} {xs:List α}
def Jy (A:Option Addr) (k b o:Nat):Prop:=∃ o',A=some ⟨b,o',none⟩/\o=o'+k
variable{k:Nat}
theorem qK {i:Operand} {o:Nat} [ht:dy P t (.slice e)] [hz:hJ P e m] (hx:ev E x=some (.slice A k c)) (hi:ev E i=some (.int ik (j:Int))) (hb:j < k) (ha:Jy A (j * m) b o):
  Yl P E L (.indexAddr t x i) ty (.pointer (some ⟨b,o+0,none⟩)):=by
 obtain ⟨o',rfl,rfl⟩:=ha
 have:=Zf (P:=P) (L:=L) (ty:=ty) (t:=t) (e:=e) (m:=m) hx hi ⟨by omega,by omega⟩
 simpa using this
theorem Tu (hk:a_ L R A c xs) {x:α} (hx:xs[i]? =some x):∀ W w,bH W w L->∃ b o l,Jy A (i * R.sz) b o/\bH W w (row b o l::is R x l::L):=λW w hs=>by
 obtain ⟨M,hM,h1,h2,h3⟩:=hs.uS hk
 rcases h3 with e | ⟨b,o,e,eH⟩
 ·rw [e] at hx; simp at hx
 ·subst e
  obtain ⟨l,hl⟩:=abs hk (i:=(i:Int)) (by simpa using hx) W w hs
  exact ⟨b,o+i * R.sz,l,⟨o,rfl,rfl⟩,by simpa using hl⟩
theorem N6 (hk:a_ L R A c xs) {x:α} (hx:xs[i]? =some x) (h:∀ b o l,Jy A (i * R.sz) b o->T r n P c' ⟨D,E,row b o l::is R x l::L⟩ Q):T r n P c' ⟨D,E,L⟩ Q:=λW a w hh=>by
 obtain ⟨b,o,l,ha,hl⟩:=Tu hk hx W w hh.2
 exact h b o l ha W a w ⟨hh.1,hl⟩
theorem aiX (hk:a_ L R A c xs) {x:α} (hx:xs[i]? =some x) (h:∀ b o l,Jy A (i * R.sz) b o->TL r n P ops rest ⟨D,E,row b o l::is R x l::L⟩ K):TL r n P ops rest ⟨D,E,L⟩ K:=λW a w hh=>by
 obtain ⟨b,o,l,ha,hl⟩:=Tu hk hx W w hh.2
 exact h b o l ha W a w ⟨hh.1,hl⟩
theorem Vt {R:bZ α} {u:α} {o:Nat} {p:Prop} (hp:∀ M,R.fO M u l->p) (h:p->TL r n P ops rest ⟨D,E,row b o l::L⟩ K):TL r n P ops rest ⟨D,E,row b o l::is R u l::L⟩ K:=
 EQ (φ:=λM=>R.fO M u l) (bV.tail (bV.wC λ_ _ h=>h)) hp λq=>bX (am.cons _ (am.drop _ _)) (h q)
variable{i:Operand}
theorem EE {u:α} [ht:dy P t (.slice e)] [hz:hJ P e R.sz] (hd:Nat.blt d n=true) (hx:ev E x=some (.slice A xs.length c)) (hi:ev E i=some (.int ik (j:Int))) (hk:a_ L R A c xs) (hu:xs[j]? =some u) 
  (h:∀ b o l,TL r n P ops rest ⟨D,(d,.pointer (some ⟨b,o+0,none⟩))::E,row b o l::is R u l::L⟩ K):TL r n P ops (⟨some d,.indexAddr t x i,ty,pos,af,none⟩::rest) ⟨D,E,L⟩ K:=by
 have cL:j < xs.length:=(dX.1 hu).1
 refine aiX hk hu λb o l ha=> ?_
 exact ab hd J (qK hx hi cL ha) (h b o l)
theorem uG {k:IntKind} {xs:List Int} [ht:dy P t (.slice e)] [hz:hJ P e 1] (hd:Nat.blt d n=true) (hx:ev E x=some (.slice A xs.length c)) (hi:ev E i=some (.int ik (j:Int))) (hk:a_ L (aI k) A c xs) (hu:xs[j]? =some u) 
  (h:bP k u->∀ b o,TL r n P ops rest ⟨D,(d,.pointer (some ⟨b,o+0,none⟩))::E,row b o [.int k u]::L⟩ K):TL r n P ops (⟨some d,.indexAddr t x i,ty,pos,af,none⟩::rest) ⟨D,E,L⟩ K:=
 EE (R:=aI k) hd hx hi hk hu λb o l=>Vt (p:=l=[.int k u]/\bP k u) (λM h=>h) λ⟨e,hk⟩=>by subst e; exact h hk b o
theorem Yy {xs:List ByteArray} {u:ByteArray} [ht:dy P t (.slice e)] [hz:hJ P e 1] (hd:Nat.blt d n=true) (hx:ev E x=some (.slice A xs.length c)) (hi:ev E i=some (.int ik (j:Int))) (hk:a_ L jO A c xs) (hu:xs[j]? =some u) 
  (h:u.size<=cE->∀ b o,TL r n P ops rest ⟨D,(d,.pointer (some ⟨b,o+0,none⟩))::E,row b o [.string u]::L⟩ K):TL r n P ops (⟨some d,.indexAddr t x i,ty,pos,af,none⟩::rest) ⟨D,E,L⟩ K:=
 EE (R:=jO) hd hx hi hk hu λb o l=>Vt (p:=l=[.string u]/\u.size<=cE) (λM h=>h) λ⟨e,hk⟩=>by subst e; exact h hk b o
theorem a_.cap (h:a_ L R A c xs):a_ L R A xs.length xs:=h.mono λM h=>⟨fo _,h.2.1,h.2.2⟩
theorem a_.take (h:a_ L R A c xs) (j:Nat):a_ L R A c (xs.take j):=h.mono λM h=>by
 refine ⟨by have:=h.1; rw [gq]; omega,by have:=h.2.1; rw [gq]; omega, ?_⟩
 rcases h.2.2 with e | ⟨b,o,e,cs,t,fr,hb,eH⟩
 ·left; simp [e]
 ·right
  refine ⟨b,o,e,cs,t,fr,hb,λi x hi=>eH i x ?_⟩
  rw [m8] at hi
  split at hi
  ·exact hi
  ·cases hi
theorem a_.drop (h:a_ L R A c xs) {i:Nat} (hi:i<=xs.length):a_ L R (oI A i c R.sz) (c - i) (xs.drop i):=h.mono λM h=>by
 have:=h.cut i xs.length c hi (fo _) h.1
 rwa [Cg] at this
theorem a_.lens {R:bZ α} (h:a_ L R A c xs) (k:xs.length<=c/\xs.length<=cE->T r n P c' ⟨D,E,L⟩ Q):T r n P c' ⟨D,E,L⟩ Q:=yu h.len (λ_ h=>h) k
theorem a_.yi (h:a_ L R none c xs):bV L (λ_=>xs=[]):=h.mono λM h=>by
 rcases h.2.2 with e | ⟨b,o,e,_⟩
 ·exact e
 ·cases e
theorem ac5 (hc:bV L (λM=>f9 M R xs cs)) (hk:xs.length=k) (hm:k<=16777216):am (cells b cs e::L) (aN R e (some ⟨b,0,none⟩) k xs::L):=λM m ⟨h1,h2,hd,l1,l2,hp,hs⟩=>by
 have mM:=hc M h2 hs
 refine ⟨h1,h2,hd,l1,l2,⟨by simp only [cE]; omega,.inr ⟨b,cs.toArray,rfl,hp,by simp [mM.length,hk],by omega,by omega,λi x hi=> ?_⟩⟩,hs⟩
 obtain ⟨l,a,b⟩:=mM.at_ i x hi
 exact ⟨l,a,λj v hj=>by simpa using b j v hj⟩
theorem eh (R:bZ α) (xs:List α) (hc:bV L (λM=>f9 M R xs cs)) (hk:xs.length=k) (hm:k<=16777216) (h:TL r n P ops rest ⟨D,E,aN R e (some ⟨b,0,none⟩) k xs::L⟩ K):TL r n P ops rest ⟨D,E,cells b cs e::L⟩ K:=bX (ac5 hc hk hm) h
theorem z4 {k:IntKind}:∀ {xs:List Int},(∀ x∈xs,bP k x)->∀ M,f9 M (aI k) xs (xs.map λx=>.int k x)
 | [],_,M=>rfl
 | x::xs,h,M=>⟨[.int k x],_,⟨rfl,h x (by simp)⟩,z4 (λy hy=>h y (by simp [hy])) M,by simp⟩
end
section
variable {r:Option Nat} {n:Nat} {P:Program} {ops:Array Oper} {D:List Deferred} {E E':cZ} {L L' M Fl:List HP} {tl:List Nat} {K:St->Prop} {Q:Exit->St->Prop} {fn:Func} {Φ:Value->List HP->Prop} {u v:Value}
theorem al {L L':List HP} [h:bu L L']:am L L':=h.g
theorem au {π:List (Nat × Bool)} [hg:bu L Fl] (h:TF r n P ops tl Fl π ⟨D,E,L⟩ K):TL r n P ops [] ⟨D,E,L⟩ (λs'=>(tl.contains i=true\/am s'.L Fl)/\TF r n P ops tl Fl π s' K):=ahx hg.g h
theorem dc (h:E'.map (λp=>dM E p.1)=E'.map (λp=>some p.2)):∀ i v,dM E' i=some v->dM E i=some v:=by
 induction E' with
 | nil=>exact iM
 | cons p t ih=>
  obtain ⟨j,w⟩:=p
  rw [kq,kq] at h
  injection h with h1 h2
  exact dC h1 (ih h2)
theorem bO [hg:bu L L'] (h:E'.map (λp=>dM E p.1)=E'.map (λp=>some p.2)):∀ W a w,Holds n W ⟨D,E,L⟩ a w->Holds n W ⟨D,E',L'⟩ a w:=iY (dc h) hg.g
variable{t:Tmp}
theorem aZ (hr:fn.results=#[.tmp t]) (hl:dM E t=some v) (g:am L L') (h:Φ v L'):aF P fn Φ .ret ⟨[],E,L⟩:=eK (.inl rfl) hr (bf.tmp hl) g h
theorem cI [g:bu L M] (hr:fn.results=#[.tmp t]) (hl:dM E t=some v):aF P fn (λw L'=>w=v/\L'=M) .ret ⟨[],E,L⟩:=aZ hr hl g.g ⟨rfl,rfl⟩
theorem eS {t':Tmp} (hr:fn.results=#[.tmp t,.tmp t']) (hl:dM E t=some u) (vu:dM E t'=some v) (g:am L L') (h:Φ (.tuple #[u,v]) L'):aF P fn Φ .ret ⟨[],E,L⟩:=kK (.inl rfl) hr (bf.tmp hl) (bf.tmp vu) g h
theorem kR [g:bu L M] (hr:fn.results=#[]):aF P fn (λw L'=>w=.tuple #[]/\L'=M) .ret ⟨[],E,L⟩:=lj (.inl rfl) hr g.g ⟨rfl,rfl⟩
theorem ei [g:bu L M] (hr:fn.results=#[]):aF P fn (λw L'=>w=.tuple #[]/\L'=M) .normal ⟨[],E,L⟩:=lj (.inr rfl) hr g.g ⟨rfl,rfl⟩
end
open Go
variable{ty:TypeId}{pos:String}{af:Array Edge}
variable{x:Operand}
theorem KO {i:Operand} {b o m len j:Nat} {ik:IntKind} [ht:dy P t (.array len e)] [hz:hJ P e m] (hx:ev E x=some (.pointer (some ⟨b,o,none⟩))) (hi:ev E i=some (.int ik (j:Int))) (hb:j < len):
  Yl P E L (.indexAddr t x i) ty (.pointer (some ⟨b,o+j * m,none⟩)):=λn D W a w dst pos af g ha hs=>by
 have h1:(0:Int)<=(j:Int)/\(j:Int) < (len:Int):=⟨by omega,by omega⟩
 simp [execOp,Instr.indexAt,Instr.sureAddr,ha.ev hx,ha.ev hi,asIntOf,ht.run,hz.run,h1,Addr.add_plain]
 exact λh=>absurd h (by omega)
theorem aiY {m:Int} (hx:ev E x=some (.int .i64 m)) (hb:-9223372036854775807<=m/\m<=9223372036854775807):Yl P E L (.unOp .neg t x) ty (.int .i64 (-m)):=λn D W a w dst pos af g ha hs=>by
 have e:IntKind.i64.wrap (-m)= -m:=IntWalk.i64_in _ (by omega)
 simp [execOp,ha.ev hx,Op.unary,Op.intArith,e]
theorem Mb:∀ {l:List Value} {i:Nat} {v:Value},l[i]? =some v->kO l i=some v
 | [],i,v,h=>by simp at h
 | x::l,0,v,h=>by simpa [kO] using h
 | x::l,i+1,v,h=>by simpa [kO] using Mb (l:=l) (by simpa using h)
theorem Tv:∀ {l:List Value} {i:Nat} {v:Value},i < l.length->qh i l [v]=some (l.set i v)
 | [],i,v,h=>by simp at h
 | x::l,0,v,h=>by simp [qh,yE]
 | x::l,i+1,v,h=>by simp [qh,Tv (l:=l) (i:=i) (v:=v) (by simpa using h)]
theorem Sq:∀ (l m:List Value),wB l.length (l++m)=some l
 | [],m=>by cases m <;> rfl
 | x::l,m=>by simp [wB,Sq l m]
theorem aeC [ht:dy P t (.array 7 e)] [hz:hJ P e 1] [hg:iG P e false] (dd:Nat) (w:World) (hn:∀ x y,(Op.equalIn dd e (.bool x) (.bool y)).run P w=.ok (x==y) w) (a b:List Bool) (ha:a.length=7) (hb:b.length=7):
  (Op.equalIn (dd+1) t (.agg (a.map Value.bool).toArray) (.agg (b.map Value.bool).toArray)).run P w=.ok (decide (a=b)) w:=by
 match a,ha with
 | [a0,a1,a2,a3,a4,a5,a6],_=>
 match b,hb with
 | [b0,b1,b2,b3,b4,b5,b6],_=>
 simp [Op.equalIn,ht.run,hz.run,part,hg.run,hn,Std.Legacy.Range.forIn_eq_forIn_range',List.range',Std.Legacy.Range.size]
 by_cases h0:a0=b0 <;> simp [h0]
 by_cases h1:a1=b1 <;> simp [h1]
 by_cases h2:a2=b2 <;> simp [h2]
 by_cases h3:a3=b3 <;> simp [h3]
 by_cases h4:a4=b4 <;> simp [h4]
 by_cases h5:a5=b5 <;> simp [h5]
 by_cases h6:a6=b6 <;> simp [h6]
variable{y:Operand}{t':TypeId}
theorem abu {a b:List Bool} [ht:dy P t (.array 7 e)] [he:dy P e .bool] [hz:hJ P e 1] [hg:iG P e false] (zd:P.eqGuardType P.depth t=false) (hx:ev E x=some (.agg (a.map Value.bool).toArray)) (hy:ev E y=some (.agg (b.map Value.bool).toArray)) (ha:a.length=7) (hb:b.length=7):
  Yl P E L (.binOp .eql t x y t') ty (.bool (decide (a=b))):=λn D W ac w dst pos af g hv hs=>by
 have h1:=aeC (P:=P) (t:=t) (e:=e) 9999 w (λx y=>dh.bool 9998 w) a b ha hb
 have h2:(Op.equal t (.agg (a.map Value.bool).toArray) (.agg (b.map Value.bool).toArray)).run P w=.ok (decide (a=b)) w:=h1
 have h3:∀ xs ys:Array Value,Go.binOp .eql t (.agg xs) (.agg ys)=(do Pure.pure (Value.bool (<- Op.equal t (.agg xs) (.agg ys))):Sem Value):=λxs ys=>by simp only [Go.binOp]
 simp only [execOp,hv.ev hx,hv.ev hy,eqGuard,h3]
 simp [zd,h2]
open Go Go.Proofs Go.Proofs.Tryz
instance (k:IntKind) (x:Int):Decidable (bP k x):=by unfold bP; exact inferInstance
def vc (bs:List Bool) (n:Int):List Value:=bs.map Value.bool++[.int .i64 n]
abbrev iH (b:Nat) (bs:List Bool) (n:Int):HP:=cells b (vc bs n) 409
variable{bs:List Bool}{n:Int}
theorem Mc (h:bs.length=7):kO (vc bs n) (0+7)=some (.int .i64 n):=Mb (by simp [vc,h])
theorem Vu {u:Bool} (h:bs[j]? =some u):kO (vc bs n) (0+0+j * 1)=some (.bool u):=Mb (by
 have hj:=(dX.1 h).1
 rw [vc,kF (by simpa using hj)]
 simp [h])
theorem ahA (hj:j < bs.length):qh (0+0+j * 1) (vc bs n) [.bool true]=some (vc (bs.set j true) n):=by
 rw [Tv (by simp [vc]; omega)]
 simp only [nD,Nat.mul_one,vc]
 rw [List.set_append_left _ _ (by simpa using hj),l8]
theorem ahB (h:bs.length=7):mg (0+0) 7 (vc bs n)=some (bs.map Value.bool):=by
 have:=Sq (bs.map Value.bool) [.int .i64 n]
 rw [gY,h] at this
 simpa [mg,vc] using this
def th (n node:Int):Prop:=0<=node/\node < n
instance (n node:Int):Decidable (th n node):=by unfold th; exact inferInstance
def nX (bs:List Bool) (n node:Int):Prop:=th n node/\bs[node.toNat]? =some true
instance (bs:List Bool) (n node:Int):Decidable (nX bs n node):=by unfold nX; exact inferInstance
def jh (bs:List Bool) (n node:Int):List Bool:=if th n node then bs.set node.toNat true else bs
theorem Md {α:Type} {l:List α} {u:α} (h:l[i]? =some u):l.set i u=l:=by
 apply zP
 intro j
 rw [uz]
 split
 ·rename_i e; subst e
  rw [h,if_pos (dX.1 h).1]
 ·rfl
theorem aaj (n:Int) (hn:bP .i64 n) (L:List HP):Fn prog 352 #[.int .i64 n] L (λv L'=>v=.int .i64 (if n < 1\/n > 7 then 0 else n / 2+1)/\L'=L):=by
 refine aH func352 J J J J<|aa<|ae J<|O<|ar<|aa<|Y J<|ab J J (bU J J)<|Y J<|dl 5 J (λh5=> ?_) (λh5=> ?_)
 ·exact ah J<|ah J<|aA J<|O<|cg J<|aa<|ae J<|O<|av<|aU<|aZ J J al (⟨by rw [if_pos (by omega)],J⟩)
 refine aj J<|Y J<|aj J<|ab J J (eE J J)<|aA J<|O<|bz J (λh8=> ?_) (λh8=> ?_)
 ·exact aa<|ae J<|O<|av<|aU<|aZ J J al (⟨by rw [if_pos (by omega)],J⟩)
 exact az<|ai<|aa<|Y J<|ab J J (Nq J J (by omega))<|ab J J (bE J J (by omega))<|ae J<|O<|av<|aZ J J al (⟨by rw [if_neg (by omega)],J⟩)
theorem Yz (n:Int) (L:List HP):Fn prog 179 #[.int .i64 n] L (λv L'=>(¬ (1<=n/\n<=7)/\v=.tuple #[.pointer none,.int .i64 1]/\L'=L)\/((1<=n/\n<=7)/\∃ b,v=.tuple #[.pointer (some ⟨b,0,none⟩),.int .i64 0]/\L'=iH b (List.replicate 7 false) n::L)):=by
 refine aH func179 J J J J<|aa<|ae J<|ae J<|O<|ar<|aa<|Y J<|ab J J (bU J J)<|Y J<|dl 6 J (λh6=> ?_) (λh6=> ?_)
 ·exact ah J<|ah J<|aA J<|O<|cg J<|aa<|ae J<|ae J<|O<|av<|aU<|eS J J J al (.inl ⟨by omega,J,J⟩)
 refine aj J<|Y J<|aj J<|ab J J (eE J J)<|aA J<|O<|bz J (λh9=> ?_) (λh9=> ?_)
 ·exact aa<|ae J<|ae J<|O<|av<|aU<|eS J J J al (.inl ⟨by omega,J,J⟩)
 refine az<|ai<|aa<|Y J<|ab J J (bI J J)<|bS J J J λix=> ?_
 show TL _ _ _ _ _ ⟨_,_,iH ix (List.replicate 7 false) n::L⟩ _
 exact ae J<|ae J<|O<|av<|eS J J J al (.inr ⟨by omega,ix,J,J⟩)
theorem Ud (hb:bs.length=7) (node:Int):Fn prog 367 #[.pointer (some ⟨b,0,none⟩),.int .i64 node] (iH b bs n::L) (λv L'=>v=.bool (decide (th n node))/\L'=iH b bs n::L):=by
 refine aH func367 J J J J<|aa<|ae J<|O<|aa<|Y J<|ab J J (f8 J J (dh.eJ))<|br 6 (v':=.bool true) J (bi Value.bool (by simp))<|Y J<|aj J<|Y J<|aj J<|ab J J (eV J J)<|aA J<|Y J<|dl 11 J (λgJ=> ?_) (λgJ=> ?_)
 ·exact aj J<|Y J<|aj J<|Y J<|aj J<|aS J<|aj J<|ao J<|aj J<|ab J J (dY J (Mc hb))<|aj J<|ab J J (bU J J)<|aA J<|ae J<|O<|av<|aZ J J al (⟨by rw [gX.2 (show th n node↔node < n from ⟨λh=>h.2,λh=>⟨gJ,h⟩⟩)],J⟩)
 exact ah J<|ah J<|ah J<|ah J<|ah J<|ah J<|aA J<|ae J<|O<|av<|aZ J J al (⟨by rw [cJ (λh:th n node=>gJ h.1)],J⟩)
theorem Tw (hb:bs.length=7) (hn:n<=7) (node:Int):Fn prog 279 #[.pointer (some ⟨b,0,none⟩),.int .i64 node] (iH b bs n::L) (λv L'=>v=.bool (decide (nX bs n node))/\L'=iH b bs n::L):=by
 refine aH func279 J J J J<|aa<|ae J<|O<|aa<|Y J<|Y J<|aB J J (Ud hb node)<|Y J<|dl 8 J (λh8=> ?_) (λh8=> ?_)
 ·refine aj J ?_
  obtain ⟨j,rfl⟩:∃ j:Nat,node=(j:Int):=⟨node.toNat,by have:=h8.1; omega⟩
  have hj:j < 7:=by have:=h8.2; omega
  obtain ⟨u,hu⟩:∃ u,bs[j]? =some u:=⟨_,cj (by omega)⟩
  exact Y J<|aj J<|Y J<|aj J<|aS J<|aj J<|ao J<|aj J<|ab J J (KO J J hj)<|aj J<|ab J J (dY J (Vu hu))<|aA J<|ae J<|O<|av<|aZ J J al (⟨by cases u <;> simp [nX,h8,hu],J⟩)
 exact ah J<|ah J<|ah J<|ah J<|ah J<|ah J<|aA J<|ae J<|O<|av<|aZ J J al (⟨by rw [cJ (λh:nX bs n node=>h8 h.1)],J⟩)
theorem Me (hb:bs.length=7) (hn:n<=7) (node:Int):Fn prog 410 #[.pointer (some ⟨b,0,none⟩),.int .i64 node] (iH b bs n::L) (λv L'=>v=.bool (decide (th n node/\¬ nX bs n node))/\L'=iH b (jh bs n node) n::L):=by
 refine aH func410 J J J J<|aa<|ae J<|O<|ar<|aa<|Y J<|Y J<|aB J J (Ud hb node)<|ab J J (iF J)<|Y J<|dl 9 J (λh9=> ?_) (λh9=> ?_)
 ·refine ah J<|ah J<|ah J<|ah J<|ah J<|ah J<|aA J<|O<|cg J<|aa<|ae J<|O<|av<|aU ?_
  exact aZ J J al (⟨by rw [cJ (λh=>h9 h.1)],by rw [jh,if_neg h9]⟩)
 refine aj J ?_
 have DE:=eX.1 h9
 obtain ⟨j,rfl⟩:∃ j:Nat,node=(j:Int):=⟨node.toNat,by have:=DE.1; omega⟩
 have hj:j < 7:=by have:=DE.2; omega
 obtain ⟨u,hu⟩:∃ u,bs[j]? =some u:=⟨_,cj (by omega)⟩
 refine Y J<|aj J<|Y J<|aj J<|aS J<|aj J<|ao J<|aj J<|ab J J (KO J J hj)<|aj J<|ab J J (dY J (Vu hu))<|aA J<|O<|gF J (λeI=> ?_) (λeI=> ?_)
 ·subst eI
  refine aa<|ae J<|O<|av<|aU ?_
  exact aZ J J al (⟨by rw [cJ (λh=>h.2 ⟨DE,by simpa using hu⟩)],by rw [jh,if_pos DE,zQ,Md hu]⟩)
 subst eI
 refine az<|ai<|aa<|Y J<|Y J<|aS J<|ao J<|ab J J (KO J J hj)<|H5 J J J J J (ahA (by omega))<|O<|aa<|ae J<|O<|av ?_
 exact aZ J J al (⟨by rw [dV ⟨DE,λh=>by have:=h.2; simp [hu] at this⟩],by rw [jh,if_pos DE,zQ]⟩)
open Go Go.Proofs Go.Proofs.Tryz
def qW (bs:List Bool) (n:Int) (k:Nat):List Int:=((List.range k).filter λi:Nat=>decide (nX bs n (i:Int))).map λi:Nat=>(i:Int)
theorem abv (bs:List Bool) (n:Int) (k:Nat):qW bs n (k+1)=qW bs n k++(if nX bs n (k:Int) then [(k:Int)] else []):=by
 simp only [qW,List.range_succ,nC,kp]
 congr 1
 by_cases h:nX bs n (k:Int) <;> simp [h]
theorem ac6 (bs:List Bool) (n:Int) (k:Nat):(qW bs n k).length<=k:=by
 have:=kG (λi:Nat=>decide (nX bs n (i:Int))) (List.range k)
 simpa [qW] using this
def yS (bs:List Bool) (n:Int):List Int:=qW bs n 7
theorem ac7 (n:Int):yS (List.replicate 7 false) n=[]:=by
 simp only [yS,qW,List.map_eq_nil_iff,List.filter_eq_nil_iff]
 intro i hi h
 have:=(o3 h).2
 rw [List.getElem?_replicate] at this
 split at this <;> simp at this
theorem aeD (hb:bs.length=7) (hn:n<=7):Fn prog 508 #[.pointer (some ⟨b,0,none⟩)] (iH b bs n::L) (λv L'=>∃ A c,v=.slice A (yS bs n).length c/\L'=aN (aI .i64) 3 A c (yS bs n)::iH b bs n::L):=by
 refine aH func508 J J J J<|aa<|ae J<|O<|aa<|ae J<|O<|ar<|aa<|Y J<|O<|aX<|cY (σ:=Nat × Option Addr × Nat) [0] (λp=>p.1<=7) (λp kv=>(5,.int .i64 (p.1:Int))::(3,.slice p.2.1 (qW bs n p.1).length p.2.2)::kv) (λp=>aN (aI .i64) 3 p.2.1 p.2.2 (qW bs n p.1)::iH b bs n::L) (λp=>7 - p.1) ((0,none,0)) J (dF _) (du _ _ _ _) (dc J) ?_
 rintro ⟨i,A,c⟩ hi
 dsimp only at hi ⊢
 have ze:=ac6 bs n i
 have Ge:=abv bs n i
 refine aa<|ab J J (bU J J)<|O<|ar<|bz J (λh6=> ?_) (λh6=> ?_)
 ·refine az<|ai<|ar<|aX<|aa<|Y J<|ae J<|O<|aa<|Y J<|Y J<|g_ b<|aB J J (Tw hb hn (i:Int))<|O<|bz J (λf0=> ?_) (λf0=> ?_)
  ·refine aQ<|Y J<|Y J<|ef J J J J J J λr5=>eh (k:=1) (aI .i64) [(i:Int)] (bV.const λM=>z4 (k:=.i64) (xs:=[(i:Int)]) (by simpa using da (by omega)) M) J (by simp)<|bF<|aV 13 (.slice (some ⟨r5,0,none⟩) [(i:Int)].length 1) J<|fi J J J J J slk (by (try simp only [eQ,dO,ej]); omega) λvv vw=> ?_
   rw [show qW bs n i++[(i:Int)]=qW bs n (i+1) by rw [Ge,if_pos f0]]
   refine ae J<|O<|bA<|ai<|aQ<|ab J J (bE J J (by omega))<|cz 15 J<|Y J<|O<|ai ?_
   exact ⟨(i+1,vv,vw),(by simp only; omega),by simp only; omega,bO rfl⟩
  refine az<|bA<|ai<|aQ<|ab J J (bE J J (by omega))<|cz 15 J<|Y J<|O<|ai ?_
  rw [show qW bs n i=qW bs n (i+1) by rw [Ge,if_neg f0]; simp]
  exact ⟨(i+1,A,c),(by simp only; omega),by simp only; omega,bO rfl⟩
 refine cw<|aY<|aY<|cu<|ai<|aa<|Y J<|ae J<|O<|av ?_
 obtain rfl:i=7:=by omega
 rw [show qW bs n 7=yS bs n from rfl]
 exact aZ J J al (⟨A,c,J,J⟩)
theorem abw (hb:bs.length=7) (hn:n<=7):Fn prog 464 #[.pointer (some ⟨b,0,none⟩)] (iH b bs n::L) (λv L'=>v=.int .i64 ((yS bs n).length:Int)/\L'=iH b bs n::L):=by
 refine aH func464 J J J J<|aa<|ae J<|O<|ar<|aa<|Y J<|ab J J (fR J J (dh.eJ))<|br 4 (v':=.bool false) J (bi Value.bool (by simp))<|Y J<|aj J<|Y J<|aj J<|aS J<|aj J<|ao J<|aj J<|ab J J (kg J (ahB hb))<|aj J<|ab J J (aai J J)<|aV 10 (.agg ((List.replicate 7 false).map Value.bool).toArray) J<|aj J<|ab J J (abu (by kernel_rfl) J J hb J)<|aA J<|O<|bz J (λf2=> ?_) (λf2=> ?_)
 ·exact aa<|ae J<|O<|av<|aU<|aZ J J al (⟨by rw [f2,ac7]; rfl,J⟩)
 refine az<|ai<|aa<|Y J<|aJ J J (aeD hb hn) ?_
 rintro _ _ ⟨vv,vw,rfl,rfl⟩
 exact ab J J (bY J)<|ae J<|O<|av<|cI J J
theorem KP (hb:bs.length=7) (hn:1<=n/\n<=7):Fn prog 411 #[.pointer (some ⟨b,0,none⟩)] (iH b bs n::L) (λv L'=>v=.bool (decide (n / 2+1<=((yS bs n).length:Int)))/\L'=iH b bs n::L):=by
 exact aH func411 J J J J<|aa<|ae J<|O<|bW _ [] [0,2,4,6,8,10,12,14,16,18,20,24,26,28,30,23,33,34,36,38] (by kernel_rfl) (am.refl _)<|aq J J<|ak J J (f8 J J (dh.eJ))<|er 4 (v':=.bool true) J (bi Value.bool (by simp))<|aq J J<|aC J J (cU J)<|aC J J (gc J)<|aC J J (dp J)<|aC J J (dY J (Mc hb))<|aC J J (eE J J)<|pJ 10 J (by omega)<|ak J J (d9 J J)<|aq J J<|aC J J (cU J)<|aC J J (cU J)<|aC J J (gc J)<|aC J J (dp J)<|aC J J (dY J (Mc hb))<|an J<|aj J<|aB J J (abw hb hn.2)<|au<|an J<|aj J<|aB J J (aaj n (da (by omega)) _)<|br 19 (v':=.int .i64 (n / 2+1)) J (by rw [if_neg (by omega)])<|au<|aC J J (eV J J)<|ak J J (d9 J J)<|ak J J (bT J)<|aR<|av<|cI J J
open Go Go.Proofs Go.Proofs.Tryz
def jQ (x y:Int):Int:=if x < y then -1 else if y < x then 1 else 0
def vx:List Int->Int
 | []=>0
 | x::l=>if x≠0 then x else vx l
theorem RM (x:Int) (L:List HP):Fn prog 318 #[.int .i64 x] L (λv L'=>v=.bool false/\L'=L):=by
 exact aH func318 J J J J<|aa<|ae J<|O<|aa<|Y J<|Y J<|ab J J (dB J J)<|ae J<|O<|av<|aZ J J al (⟨by simp,J⟩)
theorem Rh (x y:Int) (L:List HP):Fn prog 207 #[.int .i64 x,.int .i64 y] L (λv L'=>v=.int .i64 (jQ x y)/\L'=L):=by
 refine aH func207 J J J J<|aa<|ae J<|O<|aa<|Y J<|aB J J (RM _ _)<|aV 8 (.bool false) J<|ae J<|O<|aa<|Y J<|aB J J (RM _ _)<|aV 10 (.bool false) J<|ae J<|O<|ar<|aa<|Y J<|O<|aT J<|az<|ai<|ar<|aa<|Y J<|O<|aT J<|az<|ai<|ar<|aa<|Y J<|Y J<|ab J J (bU J J)<|O<|bz J (λeI=> ?_) (λeI=> ?_)
 ·exact aa<|ae J<|O<|av<|aU<|aZ J J al (⟨by rw [jQ,if_pos eI],J⟩)
 refine az<|ai<|ar<|aa<|Y J<|Y J<|ab J J (eE J J)<|O<|bz J (λj9=> ?_) (λj9=> ?_)
 ·exact aa<|ae J<|O<|av<|aU<|aZ J J al (⟨by rw [jQ,if_neg eI,if_pos j9],J⟩)
 exact az<|ai<|aa<|ae J<|O<|av<|aZ J J al (⟨by rw [jQ,if_neg eI,if_neg j9],J⟩)
theorem agc {l:List Int} (hk:a_ L (aI .i64) A c l):Fn prog 206 #[.slice A l.length c] L (λv L'=>v=.int .i64 (vx l)/\L'=L):=by
 refine aH func206 J J J J<|hk.lens λhl=> ?_
 simp only [cE] at hl
 refine aa<|ae J<|O<|aa<|ae J<|O<|ar<|aa<|Y J<|ab J J (bY J)<|Y J<|O<|aX<|cY (σ:=Nat) [3,6,7] (λi=>i<=l.length/\vx l=vx (l.drop i)) (λi kv=>(8,.int .i64 (i:Int))::kv) (λi=>L) (λi=>l.length - i) (0) J (⟨dF _,J⟩) (al) (dc J) λi hi=>aa<|ab J J (bU J J)<|O<|ar<|bz J (λh9=> ?_) (λh9=> ?_)
 ·refine az<|ai<|ar<|aX<|aa ?_
  obtain ⟨u,hu⟩:∃ u,l[i]? =some u:=⟨_,cj (by omega)⟩
  have Jz:vx l=if u≠0 then u else vx (l.drop (i+1)):=by rw [hi.2,xQ (dX.1 hu).1,(dX.1 hu).2]; rfl
  refine uG J J J hk hu λN7 VV VW=>ab J J (rG J J)<|ae J<|O<|aa<|Y J<|Y J<|ab J J (dB J J)<|O<|bz J (λgK=> ?_) (λgK=> ?_)
  ·exact aa<|Y J<|ae J<|O<|av<|db<|aU<|aU<|db<|aU<|aZ J J al (⟨by rw [Jz,if_pos gK],J⟩)
  refine az<|bA<|ai<|aQ<|ab J J (bE J J (by omega))<|cz 16 J<|Y J<|O<|ai ?_
  exact ⟨i+1,⟨by omega,by rw [Jz,if_neg gK]⟩,by omega,bO rfl⟩
 exact cw<|aY<|aY<|cu<|ai<|aa<|Y J<|ae J<|O<|av<|aZ J J al (⟨by rw [hi.2,List.drop_of_length_le (by omega)]; rfl,J⟩)
def ni (a b:Int × Int):Int:=if a.1 < b.1 then -1 else if b.1 < a.1 then 1 else jQ a.2 b.2
theorem agd (a b:Int × Int):vx [jQ a.1 b.1,jQ a.2 b.2]=ni a b:=by
 unfold ni vx
 by_cases h1:a.1 < b.1
 ·have e:jQ a.1 b.1= -1:=by rw [jQ,if_pos h1]
  rw [e,if_pos (by decide),if_pos h1]
 ·by_cases h2:b.1 < a.1
  ·have e:jQ a.1 b.1=1:=by rw [jQ,if_neg h1,if_pos h2]
   rw [e,if_pos (by decide),if_neg h1,if_pos h2]
  ·have e:jQ a.1 b.1=0:=by rw [jQ,if_neg h1,if_neg h2]
   rw [e,if_neg (by decide),if_neg h1,if_neg h2]
   unfold vx vx
   by_cases h3:jQ a.2 b.2=0
   ·rw [if_neg (by simpa using h3),h3]
   ·rw [if_pos h3]
theorem Ue (x y:Int):-1<=jQ x y/\jQ x y<=1:=by
 unfold jQ; split <;> (try split) <;> decide
abbrev nj (a:Int × Int):Value:=.agg #[.int .i64 a.1,.int .i64 a.2]
theorem tI (a b:Int × Int) (L:List HP):Fn prog 211 #[nj a,nj b] L (λv L'=>v=.int .i64 (ni a b)/\L'=L):=by
 have h1:=Ue a.1 b.1
 have h2:=Ue a.2 b.2
 exact aH func211 J J J J<|aa<|bS J J J λb2=>bS J J J λb3=>ae J<|O<|bW _ [] [0,2,4,6,10,12,14,16,9,19,21,23,24] (by kernel_rfl) (am.refl _)<|aw J J<|aG J J J<|aw J J<|aG J J J<|aw J J<|aG J J J<|aw J J<|aG J J J<|an J<|aB J J (Rh _ _ _)<|au<|an J<|aB J J (Rh _ _ _)<|au<|an J<|ef J J J J J J λBJ=>eh (k:=2) (aI .i64) [jQ a.1 b.1,jQ a.2 b.2] (bV.const λM=>z4 (k:=.i64) (xs:=[jQ a.1 b.1,jQ a.2 b.2]) (by intro x hx; simp at hx; rcases hx with rfl | rfl <;> exact da (by omega)) M) J (by simp)<|bF<|aV 15 (.slice (some ⟨BJ,0,none⟩) [jQ a.1 b.1,jQ a.2 b.2].length 2) J<|au<|an J<|aB J J (agc slk)<|au<|ak J J (bT J)<|aR<|av<|aZ J J al (⟨by rw [agd],J⟩)
open Go
theorem MO {M:Mem} {B:List HP}:∀ {A:List HP} {h:Mem},Sep A M Mem.emp->Sep B M h->Sep (A++B) M h
 | [],h,_,hb=>hb
 | p::A,h,⟨h1,h2,_,l1,l2,hp,hs⟩,hb=>⟨Mem.emp,h,Mem.iD _,Mem.iu _,Mem.le_refl _,p.mono (Mem.le_refl _) l1 hp,MO (Sep.mono (Mem.le_refl _) l2 hs) hb⟩
def mo {β:Type} (sz:Nat) (f:α->β->List Value) (g:α->β->List HP) (ok:α->Prop) (eP:∀ x p,(f x p).length=sz) (jf:∀ x p,mh (f x p)=true):bZ α:=
 ⟨sz,λM x cs=>∃ p,cs=f x p/\Sep (g x p) M Mem.emp/\ok x,λhM ⟨p,e,hs,h⟩=>⟨p,e,Sep.mono hM (Mem.le_refl _) hs,h⟩,λ⟨p,e,_,_⟩=>by rw [e]; exact eP _ _,λ⟨p,e,_,_⟩ v hv=>by rw [e] at hv; exact ED (jf _ _) v hv⟩
section
variable {r:Option Nat} {n:Nat} {P:Program} {ops:Array Oper} {rest:List Oper} {K:St->Prop} {Q:Exit->St->Prop} {D:List Deferred} {E:cZ} {L L':List HP}
variable {α β:Type} {sz:Nat} {f:α->β->List Value} {g:α->β->List HP} {ok:α->Prop} {eP:∀ x p,(f x p).length=sz} {jf:∀ x p,mh (f x p)=true}
variable{l:List Value}{o:Nat}
theorem Tx {u:α} (h:bH W w (row b o l::is (mo sz f g ok eP jf) u l::L)):∃ p,l=f u p/\ok u/\bH W w (row b o (f u p)::(g u p++L)):=by
 obtain ⟨M,k,hd,hM,hk,h1,h2,mK,l1,l2,hr,h3,h4,BK,l3,l4,⟨p,e,hs,cX⟩,hL⟩:=h.ex
 subst e
 exact ⟨p,rfl,cX,⟨M,k,hd,hM,hk,h1,h2,mK,l1,l2,hr,MO hs (Sep.mono (Mem.le_refl _) l4 hL)⟩,h.os,h.tape,h.output,h.size⟩
theorem Nw {u:α} (h:∀ p,ok u->TL r n P ops rest ⟨D,E,row b o (f u p)::(g u p++L)⟩ K):TL r n P ops rest ⟨D,E,row b o l::is (mo sz f g ok eP jf) u l::L⟩ K:=λW a w hh=>by
 obtain ⟨p,_,cX,hs⟩:=Tx hh.2
 exact h p cX W a w ⟨hh.1,hs⟩
theorem N8 {u:α} {c:Code} (h:∀ p,ok u->T r n P c ⟨D,E,row b o (f u p)::(g u p++L)⟩ Q):T r n P c ⟨D,E,row b o l::is (mo sz f g ok eP jf) u l::L⟩ Q:=λW a w hh=>by
 obtain ⟨p,_,cX,hs⟩:=Tx hh.2
 exact h p cX W a w ⟨hh.1,hs⟩
theorem fI {u:α} (p:β) (hk:bV L (λM=>Sep (g u p) M Mem.emp)) (cX:ok u):bV L (λM=>(mo sz f g ok eP jf).fO M u (f u p)):=hk.mono λM h=>⟨p,rfl,h,cX⟩
theorem lk {γ:Type} {R:bZ γ} {xs:List γ} (hk:a_ L R A c xs):bV L (λM=>Sep [sl R A c xs] M Mem.emp):=hk.mono λM h=>⟨Mem.emp,Mem.emp,Mem.iD _,Mem.le_refl _,Mem.le_refl _,h,trivial⟩
end
open Go Go.Proofs Go.Proofs.Tryz
structure dv where
 cV:ByteArray
 aK:ByteArray
 eO:Int
 cut:List Int
structure dZ where
 fe:Bool
 order:dv
structure dj where
 slot:Int
 bj:Int × Int
 en:dZ
abbrev pj (s:dv) (p:Option Addr × Nat):List Value:=[.string s.cV,.string s.aK,.int .i64 s.eO,.slice p.1 s.cut.length p.2]
abbrev hO (e:dZ) (p:Option Addr × Nat):List Value:=[.bool e.fe,.string e.order.cV,.string e.order.aK,.int .i64 e.order.eO,.slice p.1 e.order.cut.length p.2]
abbrev tT (v:dj) (p:Option Addr × Nat):List Value:=[.int .i64 v.slot,.int .i64 v.bj.1,.int .i64 v.bj.2,.bool v.en.fe,.string v.en.order.cV,.string v.en.order.aK,.int .i64 v.en.order.eO,.slice p.1 v.en.order.cut.length p.2]
def fC (s:dv):Prop:=s.cV.size<=cE/\s.aK.size<=cE/\bP .i64 s.eO/\s.cut.length<=17592186043904
def pU (v:dj):Prop:=bP .i64 v.slot/\bP .i64 v.bj.1/\bP .i64 v.bj.2/\fC v.en.order
def hP:bZ dv:=mo 4 pj (λs p=>[sl (aI .i64) p.1 p.2 s.cut]) fC (λ_ _=>rfl) (λ_ _=>rfl)
def jm:bZ dZ:=mo 5 hO (λe p=>[sl (aI .i64) p.1 p.2 e.order.cut]) (λe=>fC e.order) (λ_ _=>rfl) (λ_ _=>rfl)
def dz:bZ dj:=mo 8 tT (λv p=>[sl (aI .i64) p.1 p.2 v.en.order.cut]) pU (λ_ _=>rfl) (λ_ _=>rfl)
def sO:ByteArray:=⟨#[]⟩
def M8 (fe:Bool):dj:=⟨0,(0,0),⟨fe,⟨⟨#[]⟩,⟨#[]⟩,0,[]⟩⟩⟩
theorem Qv {xs:List Int} (hk:a_ L (aI .i64) A c xs) (hb:xs.length<=17592186043904):Fn prog 76 #[.slice A xs.length c] L (λv L'=>∃ A' c',v=.slice A' xs.length c'/\L'=aN (aI .i64) 3 A' c' xs::L):=by
 refine aH func76 J J J J<|aa<|ae J<|O<|ar<|aa<|Y J<|ab J J (fR J J (dh.wg))<|O<|bz J (λh4=> ?_) (λh4=> ?_)
 ·subst h4
  refine yu hk.yi (λ_ h=>h) (λe=> ?_)
  subst e
  exact yw (A:=none) (aI .i64) 3<|aa<|ae J<|O<|av<|aU<|aZ J J al (⟨none,0,J,J⟩)
 refine az<|ai<|aa<|ef J J J J J J λb5=>eh (k:=0) (aI .i64) [] (bV.const λM=>J) J (by simp)<|aV 5 (.slice (some ⟨b5,0,none⟩) ([]:List Int).length 0) J<|Y J<|fi J J J J J (hk) (by (try simp only [eQ,dO,ej]); omega) λA7 c7=>ae J<|O<|av ?_
 simp only [dm]
 exact aZ J J al (⟨A7,c7,J,J⟩)
open Go Go.Proofs Go.Proofs.Tryz
def nJ (slot:Int) (o:Option dj) (v:dj):Option dj:=
 if v.slot=slot then (match o with
  | none=>some v
  | some b=>if 0 < ni v.bj b.bj then some v else some b) else o
def qa (slot:Int) (l:List dj):Option dj:=l.foldl (nJ slot) none
def tU (o:Option dj):dj:=match o with
 | some v=>v
 | none=>M8 true
variable{u:dj}
theorem abx {slot:Int} {l:List dj} (h:l[i]? =some u):qa slot (l.take (i+1))=nJ slot (qa slot (l.take i)) u:=by
 rw [rE,h]
 simp [qa,Ec]
variable{o:Option dj}
theorem ac8 {slot:Int} (h:¬ u.slot=slot):nJ slot o u=o:=by simp only [nJ,if_neg h]
theorem Zg {slot:Int} (h:u.slot=slot) (ho:o.isSome=false):nJ slot o u=some u:=by
 cases o with
 | none=>simp only [nJ,if_pos h]
 | some b=>cases ho
theorem aak {slot:Int} (h:u.slot=slot) (ho:o.isSome=true) (hc:0 < ni u.bj (tU o).bj):nJ slot o u=some u:=by
 cases o with
 | none=>cases ho
 | some b=>simp only [nJ,if_pos h]; rw [if_pos (show 0 < ni u.bj b.bj from hc)]
theorem aal {slot:Int} (h:u.slot=slot) (ho:o.isSome=true) (hc:¬ 0 < ni u.bj (tU o).bj):nJ slot o u=o:=by
 cases o with
 | none=>cases ho
 | some b=>simp only [nJ,if_pos h]; rw [if_neg (show ¬ 0 < ni u.bj b.bj from hc)]
theorem Ri (u:dj):tU (some u)=u:=rfl
structure ahC where
 i:Nat
 A:Option Addr
 c:Nat
theorem ac9 {l:List dj} (hk:a_ L dz A c l) (slot:Int):Fn prog 465 #[.slice A l.length c,.int .i64 slot] L (λv L'=>∃ A' c',v=.tuple #[.agg (hO (tU (qa slot l)).en (A',c')).toArray,.bool (qa slot l).isSome]/\L'=sl (aI .i64) A' c' (tU (qa slot l)).en.order.cut::L):=by
 refine aH func465 J J J J<|hk.lens λhl=> ?_
 simp only [cE] at hl
 refine b_ hk.lay<|aa<|bB J J λb4=>ae J<|O<|aa<|ab J J (bI J J)<|ab J J (bI J J)<|bB J J λb6=>aE J J<|O<|aa<|ae J<|O<|ar<|aa<|Y J<|ab J J (bY J)<|Y J<|O<|aX<|cY (σ:=ahC) [1,4,6,12,13] (λg=>g.i<=l.length/\(tU (qa slot (l.take g.i))).en.order.cut.length<=17592186043904) (λg kv=>(14,.int .i64 (g.i:Int))::(7,.bool (qa slot (l.take g.i)).isSome)::kv) (λg=>cells b6 (tT (tU (qa slot (l.take g.i))) (g.A,g.c)) 323::sl (aI .i64) g.A g.c (tU (qa slot (l.take g.i))).en.order.cut::cells b4 (hO (M8 false).en (none,0)) 158::sl dz A c l::L) (λg=>l.length - g.i) (⟨0,none,0⟩) J (⟨dF _,by simp [qa,tU,M8]⟩) (am.cons _ (a_.lay (dP (R:=aI .i64) (A:=none) (c:=0)))) (dc J) ?_
 rintro ⟨i,A2,c2⟩ ⟨hi,Fy⟩
 dsimp only at hi Fy ⊢
 refine aa<|ab J J (bU J J)<|O<|ar<|bz J (λgU=> ?_) (λgU=> ?_)
 ·refine az<|ai<|ar<|aX<|aa ?_
  obtain ⟨u,hu⟩:∃ u,l[i]? =some u:=⟨_,cj (by omega)⟩
  have jF:=abx (slot:=slot) hu
  refine EE J J J slk hu λalw alx aly=>Nw ?_
  rintro ⟨A3,c3⟩ cX
  simp only [dL,dm]
  refine ab J J (uD J J)<|bB J J λb9=>aE J J<|O<|aa<|ao J<|ax J J<|Y J<|ab J J (ce J J)<|Y J<|dl 22 J (λiT=> ?_) (λiT=> ?_)
  ·refine aj J<|Y J<|aj J<|ab J J (ff J)<|aj J<|Y J<|nH 25 J (λj_=> ?_) (λj_=> ?_)
   ·refine ah J<|ah J<|ah J<|ah J<|ah J<|ah J<|aj J<|aA J<|aA J<|O<|cg J<|aQ<|bD J J<|aE J J<|ae J<|O<|bA<|ai<|aQ<|ab J J (bE J J (by omega))<|cz 35 J<|Y J<|O<|ai ?_
    have hp:=jF.trans (Zg iT (by simpa using j_))
    refine ⟨⟨i+1,A3,c3⟩, ?_,by simp only; omega, ?_⟩
    ·dsimp only; rw [hp]; exact ⟨by omega,cX.2.2.2.2.2.2⟩
    dsimp only; rw [hp]; simp only [Ri,tD]; exact bO rfl
   refine aj J<|ao J<|aj J<|bD J J<|aj J<|ao J<|aj J<|bD J J<|aj J<|aB J J (tI u.bj (tU (qa slot (l.take i))).bj _)<|aj J<|ab J J (eE J J)<|aj J<|aA J<|aA J<|O<|bz J (λr6=> ?_) (λr6=> ?_)
   ·refine aQ<|bD J J<|aE J J<|ae J<|O<|bA<|ai<|aQ<|ab J J (bE J J (by omega))<|cz 35 J<|Y J<|O<|ai ?_
    have hp:=jF.trans (aak iT (by simpa using j_) r6)
    refine ⟨⟨i+1,A3,c3⟩, ?_,by simp only; omega, ?_⟩
    ·dsimp only; rw [hp]; exact ⟨by omega,cX.2.2.2.2.2.2⟩
    dsimp only; rw [hp]; simp only [Ri,tD]; exact bO rfl
   refine az<|bA<|ai<|aQ<|ab J J (bE J J (by omega))<|cz 35 J<|Y J<|O<|ai ?_
   have hp:=jF.trans (aal iT (by simpa using j_) r6)
   refine ⟨⟨i+1,A2,c2⟩, ?_,by simp only; omega, ?_⟩
   ·dsimp only; rw [hp]; exact ⟨by omega,Fy⟩
   dsimp only; rw [hp]; exact bO rfl
  refine ah J<|ah J<|ah J<|g8 J J J<|g8 J J J<|g8 J J J<|g8 J J J<|g8 J J J<|g8 J J J<|ah J<|aA J<|O<|aT J<|az<|bA<|ai<|aQ<|ab J J (bE J J (by omega))<|cz 35 J<|Y J<|O<|ai ?_
  have hp:=jF.trans (ac8 iT)
  refine ⟨⟨i+1,A2,c2⟩, ?_,by simp only; omega, ?_⟩
  ·dsimp only; rw [hp]; exact ⟨by omega,Fy⟩
  dsimp only; rw [hp]; exact bO rfl
 refine cw<|aY<|aY<|cu<|ai ?_
 have e:l.take i=l:=gQ (by omega)
 rw [e] at Fy ⊢
 refine aa<|ao J<|ao J<|ao J<|ax J J<|aJ J J (Qv slk Fy) ?_
 rintro _ _ ⟨OV,OW,rfl,rfl⟩
 exact bF<|ao J<|ao J<|ao J<|aE J J<|O<|aa<|ao J<|bD J J<|Y J<|aE J J<|ae J<|O<|av<|kK (.inl J) J (bf.agg J J) (bf.tmp J) bu.g (⟨OV,OW,J,J⟩)
open Go Go.Proofs Go.Proofs.Tryz
theorem KQ (h:1<=n/\n<=7) (L:List HP):Fn prog 179 #[.int .i64 n] L (λv L'=>∃ b,v=.tuple #[.pointer (some ⟨b,0,none⟩),.int .i64 0]/\L'=iH b (List.replicate 7 false) n::L):=(Yz n L).rM λv L' k=>by
 rcases k with ⟨k,_⟩ | ⟨_,k⟩
 ·exact absurd h k
 ·exact k
open Go Go.Proofs Go.Proofs.Tryz
def j1 (a:Int × Int) (node:Int):(Int × Int) × Int:=if ¬ (0<=node/\node < 7) then ((0,0),1) else if a.1 < 0\/2147483647<=a.1 then ((0,0),2) else ((a.1+1,node),0)
theorem aam (m:Int) (L:List HP):Fn prog 277 #[.int .i64 m] L (λv L'=>v=.bool (decide (0<=m/\m < 7))/\L'=L):=by
 refine aH func277 J J J J<|aa<|ae J<|O<|aa<|Y J<|ab J J (eV J J)<|Y J<|dl 5 J (λh5=> ?_) (λh5=> ?_)
 ·exact aj J<|Y J<|aj J<|ab J J (bU J J)<|aA J<|ae J<|O<|av<|aZ J J al (⟨by simp [h5],J⟩)
 exact ah J<|ah J<|aA J<|ae J<|O<|av<|aZ J J al (⟨by simp [h5],J⟩)
theorem LC (a:Int × Int) (node:Int) (L:List HP):Fn prog 168 #[nj a,.int .i64 node] L (λv L'=>v=.tuple #[nj (j1 a node).1,.int .i64 (j1 a node).2]/\L'=L):=by
 refine aH func168 J J J J<|aa<|bS J J J λb2=>bB J J λb4=>ae J<|O<|ar<|aX<|aa<|Y J<|aB J J (aam _ _)<|ab J J (iF J)<|ae J<|O<|bz J (λh6=> ?_) (λh6=> ?_)
 ·exact aa<|ab J J (bI J J)<|aE J J<|ae J<|O<|av<|db<|aU<|kK (.inl J) J (bf.agg J J) (bf.tmp J) bu.g (⟨by rw [j1,if_pos h6],J⟩)
 refine aa<|ao J<|ax J J<|ab J J (bU J J)<|Y J<|dl 15 J (λgU=> ?_) (λgU=> ?_)
 ·exact ah J<|ah J<|ah J<|aA J<|ae J<|O<|cg J<|aa<|ab J J (bI J J)<|aE J J<|ae J<|O<|av<|db<|aU<|kK (.inl J) J (bf.agg J J) (bf.tmp J) bu.g (⟨by rw [j1,if_neg h6,if_pos (by omega)],J⟩)
 refine aj J<|ao J<|aj J<|ax J J<|aj J<|ab J J (eV J J)<|aA J<|ae J<|O<|bz J (λgJ=> ?_) (λgJ=> ?_)
 ·exact aa<|ab J J (bI J J)<|aE J J<|ae J<|O<|av<|db<|aU<|kK (.inl J) J (bf.agg J J) (bf.tmp J) bu.g (⟨by rw [j1,if_neg h6,if_pos (by omega)],J⟩)
 exact az<|bA<|ai<|aa<|ao J<|ax J J<|ab J J (bE J J (by omega))<|Y J<|ab J J (bI J J)<|aE J J<|ae J<|O<|av<|kK (.inl J) J (bf.agg J J) (bf.tmp J) bu.g (⟨by rw [j1,if_neg h6,if_neg (by omega)],J⟩)
theorem Sr:prog.eqGuardType prog.depth 171=false:=by kernel_rfl
theorem aeE:prog.stoodInHeld 171=false:=by kernel_rfl
theorem ahD (dd:Nat) (w:World) (a b:Int × Int):(Op.equalIn (dd+2) 171 (nj a) (nj b)).run prog w=.ok (decide (a=b)) w:=by
 have hn:∀ x y,(Op.equalIn (dd+1) 3 (.int .i64 x) (.int .i64 y)).run prog w=.ok (decide (x=y)) w:=λx y=>dh.int (k:=.i64) dd w
 generalize hdd:dd+1=d1 at hn
 have:dd+2=d1+1:=by omega
 rw [this]
 simp [Op.equalIn,runUnderlying171,aeE,part,isAgg3,hn]
 by_cases h1:a.1=b.1 <;> by_cases h2:a.2=b.2 <;> simp [h1,h2,Prod.ext_iff]
theorem Uf (w:World) (a b:Int × Int):(Op.equal 171 (nj a) (nj b)).run prog w=.ok (decide (a=b)) w:=ahD 9998 w a b
variable{a b:Int × Int}
theorem H6 (hx:ev E x=some (nj a)) (hy:ev E y=some (nj b)):Yl prog E L (.binOp .eql 171 x y t') ty (.bool (decide (a=b))):=λn D W ac w dst pos af g hv hs=>by
 have h3:∀ xs ys:Array Value,Go.binOp .eql 171 (.agg xs) (.agg ys)=(do Pure.pure (Value.bool (<- Op.equal 171 (.agg xs) (.agg ys))):Sem Value):=λxs ys=>by simp only [Go.binOp]
 simp only [execOp,hv.ev hx,hv.ev hy,eqGuard,h3]
 simp [Sr,Uf]
theorem ot (hx:ev E x=some (nj a)) (hy:ev E y=some (nj b)):Yl prog E L (.binOp .neq 171 x y t') ty (.bool (!decide (a=b))):=λn D W ac w dst pos af g hv hs=>by
 have h3:∀ xs ys:Array Value,Go.binOp .neq 171 (.agg xs) (.agg ys)=(do Pure.pure (Value.bool (!(<- Op.equal 171 (.agg xs) (.agg ys)))):Sem Value):=λxs ys=>by simp only [Go.binOp]
 simp only [execOp,hv.ev hx,hv.ev hy,eqGuard,h3]
 simp [Sr,Uf]
theorem aeF (x y:Int):jQ x y= - jQ y x:=by unfold jQ; split <;> split <;> (try split) <;> omega
theorem aeG (a b:Int × Int):ni a b= - ni b a:=by
 have:=aeF a.2 b.2
 unfold ni; split <;> split <;> (try split) <;> omega
theorem age {x y:Int}:jQ x y < 0↔x < y:=by unfold jQ; split <;> (try split) <;> omega
theorem agf:ni a b < 0↔a.1 < b.1\/(a.1=b.1/\a.2 < b.2):=by
 have:=age (x:=a.2) (y:=b.2)
 unfold ni; split <;> (try split) <;> omega
open Go Go.Proofs Go.Proofs.Tryz
instance (k:IntKind) (x:Int):Decidable (bP k x):=by unfold bP; exact inferInstance
theorem yp {α:Type} {l:List α} {s:α} (h:l[i]? =some s):l.drop i=s::l.drop (i+1):=by
 have cL:=(dX.1 h).1
 rw [xQ cL]
 congr 1
 exact (dX.1 h).2
theorem qQ {α:Type} {l:List α} {s:α} (h:l[i]? =some s):l.take (i+1)=l.take i++[s]:=by rw [rE,h]; rfl
def fF (x:Nat):List Int:=if x < 128 then [(x:Int)] else ((x % 128:Nat)+128:Int)::fF (x / 128)
 termination_by x
 decreasing_by omega
variable{x:Nat}
theorem Cx (h:x < 128):fF x=[(x:Int)]:=by rw [fF,if_pos h]
theorem Ik (h:¬ x < 128):fF x=((x % 128:Nat)+128:Int)::fF (x / 128):=by rw [fF,if_neg h]
theorem Il (x:Nat):0 < (fF x).length:=by
 rw [fF]; split <;> simp
theorem Ug:∀ (k x:Nat),x < 128 ^ (k+1)->(fF x).length<=k+1
 | 0,x,h=>by rw [Cx (by simpa using h)]; simp
 | k+1,x,h=>by
  by_cases hx:x < 128
  ·rw [Cx hx]; simp
  ·rw [Ik hx]
   have:=Ug k (x / 128) (by rw [Nat.pow_succ] at h; omega)
   simp; omega
theorem Ah (h:x < 18446744073709551616):(fF x).length<=10:=Ug 9 x (Nat.lt_of_lt_of_le h (by decide))
theorem aiZ:∀ m:Fin 256,sN .or .u8 (m.val:Int) 128=((m.val % 128:Nat):Int)+128:=by decide+kernel
theorem Uh (x:Nat):IntKind.u8.wrap (x:Int)=((x % 256:Nat):Int):=by
 simp [IntKind.wrap,IntKind.bits,IntKind.signed]
theorem aby (x:Nat):sN .or .u8 (IntKind.u8.wrap (x:Int)) 128=((x % 128:Nat):Int)+128:=by
 rw [Uh]
 have:=aiZ ⟨x % 256,Nat.mod_lt _ (by decide)⟩
 simp only at this
 rw [this]
 omega
theorem ajH (x:Nat):(x:Int).fdiv (2 ^ min (7:Int).toNat IntKind.u64.bits)=((x / 128:Nat):Int):=by
 have:(2:Int) ^ min (7:Int).toNat IntKind.u64.bits=128:=by decide
 rw [this,Int.fdiv_eq_ediv_of_nonneg _ (by decide)]
 omega
structure IM where
 y:Nat
 out:List Int
 A:Option Addr
 c:Nat
def Dq (x:Nat) (g:IM):Prop:=g.y < 18446744073709551616/\g.out++fF g.y=fF x/\x < 18446744073709551616
theorem Dq.len {g:IM} (h:Dq x g):g.out.length < 10:=by
 have:=bi List.length h.2.1
 have h1:=Ah h.2.2
 have:=Il g.y
 simp at *
 omega
theorem Dq.next {g:IM} (h:Dq x g) (hy:¬ g.y < 128) (A:Option Addr) (c:Nat):Dq x ⟨g.y / 128,g.out++[((g.y % 128:Nat):Int)+128],A,c⟩:=by
 refine ⟨by have:=h.1; simp only; omega, ?_,h.2.2⟩
 rw [<- h.2.1,Ik hy]
 simp
theorem ahE:bP .u8 (((x % 128:Nat):Int)+128):=ET (by omega)
theorem RN (x:Nat) (hx:x < 18446744073709551616) (L:List HP):Fn prog 296 #[.int .u64 (x:Int)] L (λv L'=>∃ A c,v=.slice A (fF x).length c/\L'=aN (aI .u8) 5 A c (fF x)::L):=by
 refine aH func296 J J J J<|aa<|ae J<|O<|aa<|ae J<|O<|ar<|aX<|cY (σ:=IM) [] (λg=>Dq x g) (λg kv=>(0,.int .u64 (g.y:Int))::(3,.slice g.A g.out.length g.c)::kv) (λg=>aN (aI .u8) 5 g.A g.c g.out::L) (λg=>g.y) (⟨x,[],none,0⟩) J (⟨hx,J,hx⟩) (du _ _ _ _) (dc J) λg hg=> ?_
 have hl:=hg.len
 refine ar<|aa<|Y J<|ab J J (eV J J)<|O<|bz J (λh5=> ?_) (λh5=> ?_)
 ·refine az<|ai<|ar<|aX<|aQ<|Y J<|Y J<|ab J J (lO J)<|ab J J (tS (by simp) J J)<|br 11 (v':=.int .u8 (((g.y % 128:Nat):Int)+128)) J (by rw [aby])<|ef J J J J J J λix=>eh (aI .u8) [((g.y % 128:Nat):Int)+128] (bV.const λM=>z4 (xs:=[((g.y % 128:Nat):Int)+128]) (by simpa using ahE) M) J (by simp)<|bF<|aV 12 (.slice (some ⟨ix,0,none⟩) [((g.y % 128:Nat):Int)+128].length 1) J<|fi J J J J J slk (by (try simp only [eQ,dO,ej]); omega) λlF kV=>ae J<|O<|bA<|ai<|aQ<|Y J<|ab J J (Da J J (by omega))<|br 7 (v':=.int .u64 ((g.y / 128:Nat):Int)) J (by rw [ajH])<|ae J<|O<|ai ?_
  exact ⟨⟨g.y / 128,g.out++[((g.y % 128:Nat):Int)+128],lF,kV⟩,hg.next (by omega) lF kV,by simp only; omega,bO rfl⟩
 refine cw<|aY<|aY<|cu<|ai<|aa<|Y J<|Y J<|ab J J (lO J)<|br 16 (v':=.int .u8 (g.y:Int)) J (by rw [Uh,Ee (by omega)])<|ef J J J J J J λb17=>eh (aI .u8) [(g.y:Int)] (bV.const λM=>z4 (xs:=[(g.y:Int)]) (by simpa using ET (by omega)) M) J (by simp)<|bF<|aV 17 (.slice (some ⟨b17,0,none⟩) [(g.y:Int)].length 1) J<|fi J J J J J slk (by (try simp only [eQ,dO,ej]); omega) λoP n4=>ae J<|O<|av ?_
 have e:g.out++[(g.y:Int)]=fF x:=by rw [<- hg.2.1,Cx (by omega)]
 rw [e]
 exact aZ J J al (⟨oP,n4,J,J⟩)
open Go Go.Proofs Go.Proofs.Tryz
theorem yb (h:x < 18446744073709551616):IntKind.u64.wrap (x:Int)=(x:Int):=IntWalk.u64_in _ (by omega)
theorem YA {xs:List Int} (hk:a_ L (aI .u8) A c xs) (hb:xs.length<=140737488355328):Fn prog 274 #[.slice A xs.length c] L (λv L'=>∃ A' c',v=.slice A' xs.length c'/\L'=aN (aI .u8) 5 A' c' xs::L):=by
 refine aH func274 J J J J<|aa<|ae J<|O<|ar<|aa<|Y J<|ab J J (fR J J (dh.wg))<|O<|bz J (λh4=> ?_) (λh4=> ?_)
 ·subst h4
  refine yu hk.yi (λ_ h=>h) (λe=> ?_)
  subst e
  exact yw (A:=none) (aI .u8) 5<|aa<|ae J<|O<|av<|aU<|aZ J J al (⟨none,0,J,J⟩)
 refine az<|ai<|aa<|ef J J J J J J λb5=>eh (k:=0) (aI .u8) [] (bV.const λM=>J) J (by simp)<|aV 5 (.slice (some ⟨b5,0,none⟩) ([]:List Int).length 0) J<|Y J<|fi J J J J J (hk) (by (try simp only [eQ,dO,ej]); omega) λA7 c7=>ae J<|O<|av ?_
 simp only [dm]
 exact aZ J J al (⟨A7,c7,J,J⟩)
theorem Zh {xs:List Int} (hk:a_ L (aI .u8) A c xs):Fn prog 372 #[.slice A xs.length c] L (λv L'=>v=.slice A xs.length xs.length/\L'=L):=by
 exact aH func372 J J J J<|hk.lens λhl=>aa<|ae J<|O<|aa<|Y J<|Y J<|ab J J (bY J)<|Y J<|ab J J (bY J)<|ab J J (Ma J J J (by omega))<|br 8 (v':=.slice A xs.length xs.length) J (by simp)<|ae J<|O<|av<|cI J J
theorem abz {B:Option Addr} {xs ys:List Int} (hk:a_ L (aI .u8) A c xs) (gV:a_ L (aI .u8) B d ys) (hy:0 < ys.length) (hb:xs.length+ys.length<=140737488355328):Fn prog 295 #[.slice A xs.length c,.slice B ys.length d] L (λv L'=>∃ A' c',v=.slice A' (xs++ys).length c'/\L'=aN (aI .u8) 5 A' c' (xs++ys)::L):=by
 refine aH func295 J J J J<|aa<|ae J<|O<|aa<|Y J<|aJ J J (YA hk (by omega)) ?_
 rintro _ _ ⟨A6,c6,rfl,rfl⟩
 exact bF<|aB J J (Zh slk)<|Y J<|Yx J J J J J (a_.cap (c:=c6) slk) gV.tail (by omega) (by omega) λA9 c9=>ae J<|O<|av<|aZ J J al (⟨A9,c9,J,J⟩)
theorem ac_ {xs:List Int} (hk:a_ L (aI .u8) A c xs) (x:Nat) (hx:x < 18446744073709551616) (hb:xs.length+10<=140737488355328):Fn prog 191 #[.slice A xs.length c,.int .u64 (x:Int)] L (λv L'=>∃ A' c',v=.slice A' (xs++fF x).length c'/\L'=aN (aI .u8) 5 A' c' (xs++fF x)::L):=by
 have hl:=Ah hx
 refine aH func191 J J J J<|aa<|ae J<|O<|aa<|Y J<|Y J<|aJ J J (RN x hx _) ?_
 rintro _ _ ⟨A7,c7,rfl,rfl⟩
 refine bF<|aJ J J (abz hk.tail slk (Il x) (by omega)) ?_
 rintro _ _ ⟨A8,c8,rfl,rfl⟩
 exact ae J<|O<|av<|aZ J J al (⟨A8,c8,J,J⟩)
open Go Go.Proofs
def val:List Int->Nat
 | []=>0
 | d::ds=>d.toNat % 128+128 * val ds
theorem HK (c:Int):∀ ds:List Int,val (ds++[c])=val ds+(c.toNat % 128) * 128 ^ ds.length
 | []=>by simp [val]
 | d::ds=>by
  simp only [dL,val,HK c ds,dO,Nat.pow_succ]
  rw [Nat.mul_add,zR,Nat.mul_comm (128 ^ ds.length) 128,Nat.mul_left_comm]
theorem M9:∀ ds:List Int,val ds < 128 ^ ds.length
 | []=>by simp [val]
 | d::ds=>by
  have:=M9 ds
  simp only [val,dO,Nat.pow_succ]
  omega
def ra (ds:List Int):Prop:=∀ d∈ds,128<=d/\d<=255
theorem Ui:∀ (ds:List Int) (c:Int),ra ds->0<=c->c < 128->(c≠0\/ds=[])->fF (val (ds++[c]))=ds++[c]
 | [],c,_,h0,h1,_=>by
  simp only [dm,val]
  rw [Cx (by omega)]
  congr 1; omega
 | d::ds,c,hd,h0,h1,hc=>by
  have hc':c≠0:=by
   rcases hc with h | h
   ·exact h
   ·cases h
  have ih:=Ui ds c (λx hx=>hd x (by simp [hx])) h0 h1 (.inl hc')
  have sY:1<=val (ds++[c]):=by
   rw [HK]
   have h2:1<=c.toNat % 128:=by omega
   have h3:1<=128 ^ ds.length:=Nat.pos_of_ne_zero (by simp)
   have:=Nat.mul_le_mul h2 h3
   omega
  have mK:=hd d (by simp)
  simp only [dL,val]
  rw [Ik (by omega)]
  have e1:(d.toNat % 128+128 * val (ds++[c])) / 128=val (ds++[c]):=by omega
  rw [e1,ih]
  congr 1
  omega
theorem EF:∀ (n x:Nat),x<=n->∃ ds c,fF x=ds++[c]/\ra ds/\0<=c/\c < 128/\(c≠0\/ds=[])/\x=val (ds++[c])
 | n,x,hn=>by
  by_cases hx:x < 128
  ·exact ⟨[],x,by rw [Cx hx]; rfl,λd hd=>(by cases hd),by omega,by omega,.inr rfl,by simp only [dm,val]; omega⟩
  ·match n,hn with
   | 0,hn=>omega
   | n+1,hn=>
   obtain ⟨ds,c,h1,h2,h3,h4,h5,h6⟩:=EF n (x / 128) (by omega)
   refine ⟨((x % 128:Nat)+128:Int)::ds,c,by rw [Ik hx,h1]; rfl, ?_,h3,h4, ?_, ?_⟩
   ·intro d hd
    rcases ig.1 hd with rfl | hd
    ·omega
    ·exact h2 d hd
   ·left
    rcases h5 with h | h
    ·exact h
    ·subst h
     simp only [dm,val] at h6
     omega
   ·simp only [dL,val, <- h6]
    omega
theorem Uj (x:Nat):val (fF x)=x:=by
 obtain ⟨ds,c,h1,_,_,_,_,h6⟩:=EF x x (fo _)
 rw [h1, <- h6]
variable{y:Nat}
theorem agh (h:fF x=fF y):x=y:=by rw [<- Uj x,h,Uj]
def nn (bs:List Int) (x n e:Nat):Prop:=
 (e=0/\x < 18446744073709551616/\bs.take n=fF x/\n=(fF x).length/\n<=bs.length)\/(e=10/\x=0/\n=0/\∀ y,y < 18446744073709551616->¬ fF y <+:bs)
variable{bs:List Int}
theorem Mf (hp:fF y <+:bs) (hi:ra (bs.take i)):i < (fF y).length:=by
 obtain ⟨ds,c,h1,h2,h3,h4,h5,h6⟩:=EF y y (fo _)
 apply zM
 intro cL
 obtain ⟨t,ht⟩:=hp
 have hm:c∈bs.take i:=by
  rw [<- ht,List.take_append,gQ (by omega),h1]
  simp
 have:=hi c hm
 omega
variable{c:Int}
theorem M_ (hp:fF y <+:bs) (hi:ra (bs.take i)) (hc:bs[i]? =some c) (h1:c < 128):∃ ds,fF y=ds++[c]/\ds.length=i/\0<=c/\(c≠0\/ds=[])/\y=val (ds++[c]):=by
 have hl:=Mf hp hi
 obtain ⟨ds,c',g1,g2,g3,g4,g5,g6⟩:=EF y y (fo _)
 obtain ⟨t,ht⟩:=hp
 have eP:(fF y).length=ds.length+1:=by rw [g1]; simp
 have JA:(ds++[c'])[i]? =some c:=by
  have e:(fF y++t)[i]? =(fF y)[i]? :=kF hl
  rw [ht,hc] at e
  rw [<- g1]
  exact e.symm
 have:i=ds.length:=by
  apply zM
  intro iS
  rw [kF (by omega)] at JA
  have:=g2 c (eA JA)
  omega
 subst this
 simp at JA
 subst JA
 exact ⟨ds,g1,rfl,g3,g5,g6⟩
theorem H7 {i acc:Nat} (hi:ra (bs.take i)) (hc:bs[i]? =some c) (h0:0<=c) (h1:c < 128) (h2:c≠0\/i=0) (ha:acc=val (bs.take (i+1))) (cL:acc < 18446744073709551616):nn bs acc (i+1) 0:=by
 have eG:i < bs.length:=(dX.1 hc).1
 have e:bs.take (i+1)=bs.take i++[c]:=by rw [rE,hc]; rfl
 have g:=Ui (bs.take i) c hi h0 h1 (h2.imp id λh=>by subst h; simp)
 rw [<- e, <- ha] at g
 exact .inl ⟨rfl,cL,g.symm,by rw [g]; simp; omega,by omega⟩
theorem Ty (hi:ra (bs.take i)) (hc:bs[i]? =some 0) (h:0 < i):nn bs 0 0 10:=
 .inr ⟨rfl,rfl,rfl,λy _ hp=>by
  obtain ⟨ds,_,h2,_,h4,_⟩:=M_ hp hi hc (by decide)
  rcases h4 with h4 | h4
  ·exact h4 rfl
  ·subst h4; simp at h2; omega⟩
theorem agi (hi:ra (bs.take 9)) (hc:bs[9]? =some c) (h:1 < c) (alz:c<=255):nn bs 0 0 10:=
 .inr ⟨rfl,rfl,rfl,λy hy hp=>by
  by_cases h1:c < 128
  ·obtain ⟨ds,_,h2,_,_,h5⟩:=M_ hp hi hc h1
   rw [HK,h2] at h5
   have:2<=c.toNat % 128:=by omega
   have:=nB (128 ^ 9) this
   omega
  ·have h9:ra (bs.take 10):=by
    intro d hd
    rw [rE,hc] at hd
    rcases gD.1 hd with hd | hd
    ·exact hi d hd
    ·simp at hd; omega
   have:=Mf hp h9
   have:=Ah hy
   omega⟩
theorem agj (hi:ra (bs.take i)) (h:bs.length<=i\/10<=i):nn bs 0 0 10:=
 .inr ⟨rfl,rfl,rfl,λy hy hp=>by
  have h1:=Mf hp hi
  have h2:=hp.length_le
  have h3:=Ah hy
  omega⟩
theorem K_ {n e x' n' e':Nat} (h:nn bs x n e) (k:nn bs x' n' e'):x=x'/\n=n'/\e=e':=by
 have pre:∀ {x n},bs.take n=fF x->fF x <+:bs:=λh=>h ▸ Hh _ _
 rcases h with ⟨h1,h2,h3,h4,h5⟩ | ⟨h1,h2,h3,h4⟩ <;> rcases k with ⟨k1,k2,k3,k4,k5⟩ | ⟨k1,k2,k3,k4⟩
 ·subst h1; subst k1
  have:fF x=fF x':=by
   obtain ⟨ds,c,a1,a2,a3,a4,a5,a6⟩:=EF x x (fo _)
   have hx:=pre h3
   obtain ⟨t,ht⟩:=hx
   have hH:ra (bs.take ds.length):=by rw [<- ht,a1]; simp [a2]
   have hc:bs[ds.length]? =some c:=by rw [<- ht,a1]; simp
   obtain ⟨ds',b1,b2,_⟩:=M_ (pre k3) hH hc a4
   have e1:n=n':=by rw [h4,k4,a1,b1]; simp [b2]
   rw [<- h3, <- k3,e1]
  have e:=agh this
  subst e
  exact ⟨rfl,by omega,rfl⟩
 ·exact absurd (pre h3) (k4 _ h2)
 ·exact absurd (pre k3) (h4 _ k2)
 ·subst h1; subst h2; subst h3; subst k1; subst k2; subst k3; exact ⟨rfl,rfl,rfl⟩
theorem Lc (hx:x < 18446744073709551616) (t:List Int):nn (fF x++t) x (fF x).length 0:=.inl ⟨rfl,hx,by simp,rfl,by simp⟩
theorem ahF (a b:Nat) (ha:a < 18446744073709551616) (hb:b < 18446744073709551616):sN .or .u64 (a:Int) (b:Int)=((a ||| b:Nat):Int):=by
 have Jz:a ||| b < 2 ^ 64:=Nat.or_lt_two_pow ha hb
 simp only [sN]
 have e:(BitVec.ofInt IntKind.u64.bits (a:Int) ||| BitVec.ofInt IntKind.u64.bits (b:Int)).toNat=a ||| b:=by
  show (BitVec.ofInt 64 (a:Int) ||| BitVec.ofInt 64 (b:Int)).toNat=a ||| b
  simp only [BitVec.ofInt_natCast,BitVec.toNat_or,BitVec.toNat_ofNat]
  rw [Ee ha,Ee hb]
 rw [e]
 exact yb Jz
theorem ahG {a:Nat} (h:a < 128 ^ i):a ||| m * 128 ^ i=a+m * 128 ^ i:=by
 have e:128 ^ i=2 ^ (7 * i):=by rw [Nat.pow_mul]
 rw [e] at h ⊢
 have:=Nat.shiftLeft_add_eq_or_of_lt h m
 rw [Nat.shiftLeft_eq] at this
 rw [Nat.or_comm, <- this,Nat.add_comm]
theorem ac':∀ m:Fin 256,sN .and .u8 (m.val:Int) 127=((m.val % 128:Nat):Int):=by decide+kernel
theorem UY (h:0<=c/\c<=255):sN .and .u8 c 127=((c.toNat % 128:Nat):Int):=by
 have:=ac' ⟨c.toNat,by omega⟩
 simp only at this
 rwa [Int.toNat_of_nonneg h.1] at this
theorem Ss (hc:bs[i]? =some c) (h0:0<=c) (hi:i<=9) (h9:i=9->c<=1):
  sN .or .u64 ((val (bs.take i):Nat):Int) (IntKind.u64.wrap (((c.toNat % 128:Nat):Int) * 2 ^ min ((7 * i:Nat):Int).toNat IntKind.u64.bits))=((val (bs.take (i+1)):Nat):Int)/\val (bs.take (i+1)) < 18446744073709551616:=by
 have eG:i < bs.length:=(dX.1 hc).1
 have e:bs.take (i+1)=bs.take i++[c]:=by rw [rE,hc]; rfl
 have hl:(bs.take i).length=i:=by simp; omega
 have hv:=M9 (bs.take i)
 rw [hl] at hv
 have e2:val (bs.take (i+1))=val (bs.take i)+(c.toNat % 128) * 128 ^ i:=by rw [e,HK,hl]
 have cL:val (bs.take (i+1)) < 18446744073709551616:=by
  by_cases h:i=9
  ·have:=h9 h
   subst h
   have:c.toNat % 128<=1:=by omega
   have:=nB (128 ^ 9) this
   omega
  ·have:=M9 (bs.take (i+1))
   have n3:(bs.take (i+1)).length=i+1:=by simp; omega
   rw [n3] at this
   have h2:128 ^ (i+1)<=128 ^ 9:=Nat.pow_le_pow_right (by decide) (by omega)
   omega
 refine ⟨?_,cL⟩
 have hm:min ((7 * i:Nat):Int).toNat IntKind.u64.bits=7 * i:=by
  show min ((7 * i:Nat):Int).toNat 64=7 * i
  omega
 have hp:(2:Int) ^ (7 * i)=((128 ^ i:Nat):Int):=by rw [show (128:Nat)=2 ^ 7 from rfl, <- Nat.pow_mul]; simp
 rw [hm,hp, <- Int.natCast_mul]
 have hb:(c.toNat % 128) * 128 ^ i < 18446744073709551616:=by omega
 rw [yb hb,ahF _ _ (by omega) hb,ahG hv,e2]
open Go Go.Proofs Go.Proofs.Tryz
theorem Su {u:Int} (h:ra (bs.take i)) (hu:bs[i]? =some u) (h1:128<=u) (h2:u<=255):ra (bs.take (i+1)):=by
 intro d hd
 rw [rE,hu] at hd
 rcases gD.1 hd with hd | hd
 ·exact h d hd
 ·simp at hd; omega
theorem QI {c:Nat} (hk:a_ L (aI .u8) A c bs):Fn prog 125 #[.slice A bs.length c] L (λv L'=>(∃ x n e:Nat,v=.tuple #[.int .u64 (x:Int),.int .i64 (n:Int),.int .i64 (e:Int)]/\nn bs x n e)/\L'=L):=by
 refine aH func125 J J J J<|hk.lens λhl=>aa<|ae J<|ae J<|ae J<|O<|aa<|ae J<|O<|ar<|aa<|Y J<|Y J<|ab J J (bY J)<|ab J J (aiW J J)<|br 11 (v':=.int .i64 ((min bs.length 10:Nat):Int)) J (by congr 1; omega)<|ab J J (Ii J J (by omega))<|br 12 (v':=.slice A (bs.take 10).length c) J (by simp; omega)<|ab J J (bY J)<|Y J<|O<|aX<|cY (σ:=Nat) [12,13] (λi=>i<=(bs.take 10).length/\ra (bs.take i)) (λi kv=>(14,.int .i64 (i:Int))::(5,.int .u64 ((val (bs.take i):Nat):Int))::kv) (λi=>L) (λi=>(bs.take 10).length - i) (0) J (⟨dF _,by simp [ra]⟩) (al) (dc J) λi hi=> ?_
 have ht:(bs.take 10).length=min 10 bs.length:=gq
 refine aa<|ab J J (bU J J)<|O<|ar<|bz J (λgU=> ?_) (λgU=> ?_)
 ·refine az<|ai<|ar<|aX<|aa<|Y J ?_
  obtain ⟨u,hu⟩:∃ u,(bs.take 10)[i]? =some u:=⟨_,cj (by omega)⟩
  have uc:bs[i]? =some u:=by rw [m8] at hu; split at hu; exact hu; cases hu
  refine uG J J J (hk.take 10) hu λajI alA alB=> ?_
  have ud:=I1 ajI
  refine ab J J (rG J J)<|ae J<|ae J<|O<|ar<|aa<|Y J<|ab J J (ce J J)<|Y J<|dl 21 J (λkW=> ?_) (λkW=> ?_)
  ·refine aj J<|Y J<|aj J<|ab J J (eE J J)<|aA J<|O<|bz J (λmN=> ?_) (λmN=> ?_)
   ·exact cw<|aY<|z9 J<|aY<|aY<|cu<|ai<|aa<|ae J<|ae J<|ae J<|O<|av<|ja (.inl J) J (bf.tmp J) (bf.tmp J) (bf.tmp J) bu.g (⟨⟨0,0,10,J,agi (c:=u) (by have e:i=9:=(by omega); subst e; exact hi.2) (by have e:i=9:=(by omega); subst e; exact uc) (by omega) (by omega)⟩,J⟩)
   refine az<|ai<|aa ?_
   have h9:i=9->u<=1:=by intro e; omega
   have hp:=Ss uc ud.1 (by omega) h9
   refine Y J<|Y J<|ab J J (tS (by simp) J J)<|br 27 (v':=.int .u8 ((u.toNat % 128:Nat):Int)) J (by rw [UY ud])<|ab J J (lO J)<|br 28 (v':=.int .u64 ((u.toNat % 128:Nat):Int)) J (by rw [yb (by omega)])<|Y J<|ab J J (C' J J (by omega))<|br 30 (v':=.int .i64 ((7 * i:Nat):Int)) J (by congr 1)<|ab J J (Vm J J (by omega))<|ab J J (tS (by simp) J J)<|br 32 (v':=.int .u64 ((val (bs.take (i+1)):Nat):Int)) J (by rw [hp.1])<|ae J<|O<|ar<|aa<|Y J<|ab J J (eV J J)<|O<|bz J (λmq=> ?_) (λmq=> ?_)
   ·refine cw<|aY<|cu<|ai<|aQ<|ab J J (bE J J (by omega))<|cz 44 J<|Y J<|O<|ai ?_
    exact ⟨i+1,⟨by omega,Su hi.2 uc (by omega) (by omega)⟩,by omega,bO rfl⟩
   refine az<|ai<|ar<|aa<|Y J<|ab J J (ce J J)<|Y J<|dl 37 J (λlG=> ?_) (λlG=> ?_)
   ·refine aj J<|Y J<|aj J<|ab J J (eE J J)<|aA J<|O<|bz J (λOX=> ?_) (λOX=> ?_)
    ·exact cw<|aY<|z9 J<|aY<|aY<|cu<|ai<|aa<|ae J<|ae J<|ae J<|O<|av<|ja (.inl J) J (bf.tmp J) (bf.tmp J) (bf.tmp J) bu.g (⟨⟨0,0,10,J,Ty (i:=i) hi.2 (by rw [uc]; congr 1) (by omega)⟩,J⟩)
    exact az<|ai<|aa<|Y J<|Y J<|ab J J (bE J J (by omega))<|cz 43 J<|ae J<|ae J<|ae J<|O<|av<|db<|aU<|aU<|db<|aU<|ja (.inl J) J (bf.tmp J) (bf.tmp J) (bf.tmp J) bu.g (⟨⟨val (bs.take (i+1)),i+1,0,J,H7 hi.2 uc ud.1 (by omega) (by omega) J hp.2⟩,J⟩)
   exact ah J<|ah J<|aA J<|O<|aT J<|az<|ai<|aa<|Y J<|Y J<|ab J J (bE J J (by omega))<|cz 43 J<|ae J<|ae J<|ae J<|O<|av<|db<|aU<|aU<|db<|aU<|ja (.inl J) J (bf.tmp J) (bf.tmp J) (bf.tmp J) bu.g (⟨⟨val (bs.take (i+1)),i+1,0,J,H7 hi.2 uc ud.1 (by omega) (by omega) J hp.2⟩,J⟩)
  refine ah J<|ah J<|aA J<|O<|aT J<|az<|ai<|aa ?_
  have h9:i=9->u<=1:=by intro e; omega
  have hp:=Ss uc ud.1 (by omega) h9
  refine Y J<|Y J<|ab J J (tS (by simp) J J)<|br 27 (v':=.int .u8 ((u.toNat % 128:Nat):Int)) J (by rw [UY ud])<|ab J J (lO J)<|br 28 (v':=.int .u64 ((u.toNat % 128:Nat):Int)) J (by rw [yb (by omega)])<|Y J<|ab J J (C' J J (by omega))<|br 30 (v':=.int .i64 ((7 * i:Nat):Int)) J (by congr 1)<|ab J J (Vm J J (by omega))<|ab J J (tS (by simp) J J)<|br 32 (v':=.int .u64 ((val (bs.take (i+1)):Nat):Int)) J (by rw [hp.1])<|ae J<|O<|ar<|aa<|Y J<|ab J J (eV J J)<|O<|bz J (λmq=> ?_) (λmq=> ?_)
  ·refine cw<|aY<|cu<|ai<|aQ<|ab J J (bE J J (by omega))<|cz 44 J<|Y J<|O<|ai ?_
   exact ⟨i+1,⟨by omega,Su hi.2 uc (by omega) (by omega)⟩,by omega,bO rfl⟩
  refine az<|ai<|ar<|aa<|Y J<|ab J J (ce J J)<|Y J<|dl 37 J (λlG=> ?_) (λlG=> ?_)
  ·refine aj J<|Y J<|aj J<|ab J J (eE J J)<|aA J<|O<|bz J (λOX=> ?_) (λOX=> ?_)
   ·exact cw<|aY<|z9 J<|aY<|aY<|cu<|ai<|aa<|ae J<|ae J<|ae J<|O<|av<|ja (.inl J) J (bf.tmp J) (bf.tmp J) (bf.tmp J) bu.g (⟨⟨0,0,10,J,Ty (i:=i) hi.2 (by rw [uc]; congr 1) (by omega)⟩,J⟩)
   exact az<|ai<|aa<|Y J<|Y J<|ab J J (bE J J (by omega))<|cz 43 J<|ae J<|ae J<|ae J<|O<|av<|db<|aU<|aU<|db<|aU<|ja (.inl J) J (bf.tmp J) (bf.tmp J) (bf.tmp J) bu.g (⟨⟨val (bs.take (i+1)),i+1,0,J,H7 hi.2 uc ud.1 (by omega) (by omega) J hp.2⟩,J⟩)
  exact ah J<|ah J<|aA J<|O<|aT J<|az<|ai<|aa<|Y J<|Y J<|ab J J (bE J J (by omega))<|cz 43 J<|ae J<|ae J<|ae J<|O<|av<|db<|aU<|aU<|db<|aU<|ja (.inl J) J (bf.tmp J) (bf.tmp J) (bf.tmp J) bu.g (⟨⟨val (bs.take (i+1)),i+1,0,J,H7 hi.2 uc ud.1 (by omega) (by omega) J hp.2⟩,J⟩)
 exact cw<|aY<|aY<|cu<|ai<|aa<|ae J<|ae J<|ae J<|O<|av<|ja (.inl J) J (bf.tmp J) (bf.tmp J) (bf.tmp J) bu.g (⟨⟨0,0,10,J,agj hi.2 (by omega)⟩,J⟩)
end Go.SL
