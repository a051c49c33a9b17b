/- What the law of this claim needs, together: the logic, data in memory, the walks of functions. -/
import Derived.Test.YtojddiieiggpjaaGreatDoorWpA
import Derived.Laws.OwnMore
import Derived.Maps.RangeRun
import Derived.Maps.Keyed
import Derived.Carry
import Derived.SizedLaws
import Derived.OpenShut
import Derived.ProofKit
import Derived.RowsInLaws
import Derived.RangeFuncRecord
import Derived.Ground.NamesProg
import Derived.Shelf.Lay
import Derived.Shelf.Sort.Plain
import Derived.Shelf.Slices.In.SortNone
import Derived.Shelf.SlMaps.Clone
import Derived.Sort.Walk0
set_option linter.unusedVariables false
set_option linter.unusedSimpArgs false
set_option linter.unusedSectionVars false
namespace Go.SL
open Go Go.Proofs Go.Proofs.Tryz
def iJ (s:ByteArray):List Int:=fF s.size++f4 s
def nI (c:Int):Prop:=(97<=c/\c<=122)\/(48<=c/\c<=57)\/c=45
instance (c:Int):Decidable (nI c):=by unfold nI; exact inferInstance
def fy (s:ByteArray):Prop:=(∀ c∈f4 s,nI c)/\s.size≠0/\s.size<=32
instance (s:ByteArray):Decidable (fy s):=by unfold fy; exact inferInstance
variable{i:Nat}
theorem z6 {α:Type} {p:α->Prop} {xs:List α} {u:α} (h:∀ c∈xs.take i,p c) (hu:xs[i]? =some u) (hp:p u):∀ c∈xs.take (i+1),p c:=by
 intro c hc
 rw [rE,hu] at hc
 rcases gD.1 hc with hc | hc
 ·exact h c hc
 ·simp at hc; subst hc; exact hp
variable{s:ByteArray}
theorem H8 {u:Int} (hu:(f4 s)[i]? =some u) (h:¬ nI u):¬ fy s:=λ⟨k,_⟩=>h (k u (eA hu))
theorem H9 (s:ByteArray):s=⟨#[]⟩↔s.size=0:=by
 constructor
 ·rintro rfl; rfl
 ·intro h
  cases s with
  | mk d=>
   have:d.size=0:=h
   rw [Array.size_eq_zero_iff] at this
   rw [this]
theorem rH (L:List HP) (s:ByteArray) (hb:s.size<=cE):Fn prog 112 #[.string s] L (λv L'=>v=.bool (decide (fy s))/\L'=L):=by
 have fW:=nE s
 refine aH func112 J J J J<|aa<|ae J<|O<|ar<|aa<|Y J<|El J J (hb) λA6 c6=>ab J J (bY J)<|Y J<|O<|aX<|cY (σ:=Nat) [0,6,7] (λi=>i<=(f4 s).length/\∀ c∈(f4 s).take i,nI c) (λi kv=>(8,.int .i64 (i:Int))::kv) (λi=>sl (aI .u8) A6 c6 (f4 s)::L) (λi=>(f4 s).length - i) (0) J (⟨dF _,by simp⟩) (al) (dc J) λi hi=>aa<|ab J J (bU J J)<|O<|ar<|bz J (λh9=> ?_) (λh9=> ?_)
 ·refine az<|ai<|ar<|aX<|aa ?_
  obtain ⟨u,hu⟩:∃ u,(f4 s)[i]? =some u:=⟨_,cj (by omega)⟩
  refine uG J J J slk hu λN7 VV VW=> ?_
  have ud:=I1 N7
  refine ab J J (rG J J)<|ae J<|O<|aa<|Y J<|ab J J (bU J J)<|Y J<|dl 14 J (λgK=> ?_) (λgK=> ?_)
  ·refine ah J<|ah J<|aA J<|Y J<|aj J<|Y J<|aj J<|ab J J (bU J J)<|aj J<|Y J<|dl 21 J (λkW=> ?_) (λkW=> ?_)
   ·refine ah J<|ah J<|aj J<|aA J<|aA J<|Y J<|aj J<|Y J<|aj J<|ab J J (dB J J)<|aA J<|O<|bz J (λkX=> ?_) (λkX=> ?_)
    ·exact aa<|ae J<|O<|av<|db<|aU<|aU<|db<|aU<|aZ J J al (⟨by rw [cJ (H8 hu (by unfold nI; omega))],J⟩)
    refine az<|bA<|ai<|aQ<|ab J J (bE J J (by simp only [cE] at hb; omega))<|cz 30 J<|Y J<|O<|ai ?_
    exact ⟨i+1,⟨by omega,z6 hi.2 hu (by unfold nI; omega)⟩,by omega,bO rfl⟩
   refine aj J<|Y J<|aj J<|ab J J (eE J J)<|aj J<|aA J<|aA J<|Y J<|dl 26 J (λno=> ?_) (λno=> ?_)
   ·refine aj J<|Y J<|aj J<|ab J J (dB J J)<|aA J<|O<|bz J (λkX=> ?_) (λkX=> ?_)
    ·exact aa<|ae J<|O<|av<|db<|aU<|aU<|db<|aU<|aZ J J al (⟨by rw [cJ (H8 hu (by unfold nI; omega))],J⟩)
    refine az<|bA<|ai<|aQ<|ab J J (bE J J (by simp only [cE] at hb; omega))<|cz 30 J<|Y J<|O<|ai ?_
    exact ⟨i+1,⟨by omega,z6 hi.2 hu (by unfold nI; omega)⟩,by omega,bO rfl⟩
   refine ah J<|ah J<|aA J<|O<|aT J<|az<|bA<|ai<|aQ<|ab J J (bE J J (by simp only [cE] at hb; omega))<|cz 30 J<|Y J<|O<|ai ?_
   exact ⟨i+1,⟨by omega,z6 hi.2 hu (by unfold nI; omega)⟩,by omega,bO rfl⟩
  refine aj J<|Y J<|aj J<|ab J J (eE J J)<|aA J<|Y J<|dl 18 J (λjG=> ?_) (λjG=> ?_)
  ·refine aj J<|Y J<|aj J<|ab J J (bU J J)<|aj J<|Y J<|dl 21 J (λkW=> ?_) (λkW=> ?_)
   ·refine ah J<|ah J<|aj J<|aA J<|aA J<|Y J<|aj J<|Y J<|aj J<|ab J J (dB J J)<|aA J<|O<|bz J (λkX=> ?_) (λkX=> ?_)
    ·exact aa<|ae J<|O<|av<|db<|aU<|aU<|db<|aU<|aZ J J al (⟨by rw [cJ (H8 hu (by unfold nI; omega))],J⟩)
    refine az<|bA<|ai<|aQ<|ab J J (bE J J (by simp only [cE] at hb; omega))<|cz 30 J<|Y J<|O<|ai ?_
    exact ⟨i+1,⟨by omega,z6 hi.2 hu (by unfold nI; omega)⟩,by omega,bO rfl⟩
   refine aj J<|Y J<|aj J<|ab J J (eE J J)<|aj J<|aA J<|aA J<|Y J<|dl 26 J (λno=> ?_) (λno=> ?_)
   ·refine aj J<|Y J<|aj J<|ab J J (dB J J)<|aA J<|O<|bz J (λkX=> ?_) (λkX=> ?_)
    ·exact aa<|ae J<|O<|av<|db<|aU<|aU<|db<|aU<|aZ J J al (⟨by rw [cJ (H8 hu (by unfold nI; omega))],J⟩)
    refine az<|bA<|ai<|aQ<|ab J J (bE J J (by simp only [cE] at hb; omega))<|cz 30 J<|Y J<|O<|ai ?_
    exact ⟨i+1,⟨by omega,z6 hi.2 hu (by unfold nI; omega)⟩,by omega,bO rfl⟩
   refine ah J<|ah J<|aA J<|O<|aT J<|az<|bA<|ai<|aQ<|ab J J (bE J J (by simp only [cE] at hb; omega))<|cz 30 J<|Y J<|O<|ai ?_
   exact ⟨i+1,⟨by omega,z6 hi.2 hu (by unfold nI; omega)⟩,by omega,bO rfl⟩
  refine ah J<|ah J<|ah J<|g8 J J J<|g8 J J J<|ah J<|aA J<|Y J<|ah J<|ah J<|aA J<|O<|aT J<|az<|bA<|ai<|aQ<|ab J J (bE J J (by simp only [cE] at hb; omega))<|cz 30 J<|Y J<|O<|ai ?_
  exact ⟨i+1,⟨by omega,z6 hi.2 hu (by unfold nI; omega)⟩,by omega,bO rfl⟩
 refine cw<|aY<|aY<|cu<|ai<|aa<|Y J<|ab J J (yh J J)<|Y J<|dl 33 J (λr6=> ?_) (λr6=> ?_)
 ·refine aj J<|Y J<|aj J<|ab J J (uI J)<|aj J<|ab J J (sX J J)<|aA J<|ae J<|O<|av ?_
  have eH:∀ c∈f4 s,nI c:=by have:=hi.2; rwa [gQ (by omega)] at this
  exact aZ J J al (⟨by rw [gX.2 (show fy s↔(s.size:Int)<=32 from ⟨λh=>by have:=h.2.2; omega,λh=>⟨eH,λe=>r6 ((H9 s).2 e),by omega⟩⟩)],J⟩)
 refine ah J<|ah J<|ah J<|aA J<|ae J<|O<|av ?_
 have eH:∀ c∈f4 s,nI c:=by have:=hi.2; rwa [gQ (by omega)] at this
 exact aZ J J al (⟨by rw [cJ (λh=>h.2.1 ((H9 s).1 (eX.1 r6)))],J⟩)
def ti (bs:List Int) (most:Int) (s:ByteArray) (n e:Nat):Prop:=
 (e=0/\(s.size:Int)<=most/\bs.take n=iJ s/\n=(iJ s).length/\n<=bs.length)\/(e=10/\s=⟨#[]⟩/\n=0/\∀ s':ByteArray,(s'.size:Int)<=most->¬ iJ s' <+:bs)
open Go
class oJ {α:Type} (R:bZ α) (f:outParam (α->List Value)):Prop where
 e:∀ M x cs,R.fO M x cs->cs=f x
variable{k:IntKind}
instance:oJ (aI k) (λx=>[.int k x]):=⟨λ_ _ _ h=>h.1⟩
instance:oJ jO (λx=>[.string x]):=⟨λ_ _ _ h=>h.1⟩
section
variable {r:Option Nat} {n:Nat} {P:Program} {ops:Array Oper} {rest:List Oper} {K:St->Prop} {Q:Exit->St->Prop} {D:List Deferred} {E:cZ} {L L':List HP} {d:Nat} {ty:TypeId} {pos:String} {af:Array Edge}
variable {α:Type} {R:bZ α} {A:Option Addr} {c:Nat} {xs:List α}
variable{t:TypeId}{w:World}
theorem aeH {x:α} (hx:xs[i]? =some x) {W:World} (hs:bH W w (aN R t A c xs::L)):∃ g,A=some ⟨g,0,none⟩:=by
 obtain ⟨M,k,hd,hM,hk,h1,h2,eW,l1,l2,hp,hsep⟩:=hs.ex
 rcases hp.2 with ⟨_,rfl⟩ | ⟨g,cur,rfl,_⟩
 ·simp at hx
 ·exact ⟨g,rfl⟩
variable{te:TypeId}{L0:List HP}{c':Code}
theorem CQ (A:Option Addr) (c:Nat) [ho:md L A c α R te xs L0] {x:α} (hx:xs[i]? =some x) (h:∀ g,A=some ⟨g,0,none⟩->T r n P c' ⟨D,E,L⟩ Q):T r n P c' ⟨D,E,L⟩ Q:=λW a w hh=>by
 obtain ⟨g,hA⟩:=aeH hx (hh.2.ay ho.g)
 exact h g hA W a w hh
def ahH (M h:Mem) (R:bZ α) (t:TypeId) (g c:Nat) (xs:List α) (i:Nat) (l:List Value):Prop:=
 ∃ cur,h g=some (.cells cur t (0,0))/\cur.size=c * R.sz/\xs.length<=c/\c<=9223372036854775807/\xs.length<=cE/\i < xs.length/\l.length=R.sz∧
  (∀ k x,k≠i->xs[k]? =some x->∃ l,R.fO M x l/\∀ j v,l[j]? =some v->cur[k * R.sz+j]? =some v)/\(∀ j v,l[j]? =some v->cur[i * R.sz+j]? =some v)
def sZ (R:bZ α) (t:TypeId) (g c:Nat) (xs:List α) (i:Nat) (l:List Value):HP:=
 ⟨λM h=>ahH M h R t g c xs i l,λhM hh ⟨cur,a1,a2,a3,a4,a5,a6,a7,a8,a9⟩=>⟨cur,hh _ _ a1,a2,a3,a4,a5,a6,a7,λk x hk hx=>let ⟨l,hl,hc⟩:=a8 k x hk hx; ⟨l,R.mono hM hl,hc⟩,a9⟩⟩
class wF (L:List HP) (g:Nat) (α:outParam Type) (R:outParam (bZ α)) (t:outParam TypeId) (c:outParam Nat) (xs:outParam (List α)) (i:outParam Nat) (l:outParam (List Value)) (L':outParam (List HP)):Prop where
 g:am L (sZ R t g c xs i l::L')
variable{g:Nat}{l:List Value}
instance {p:HP} {L L':List HP} {α:Type} {R:bZ α} {c:Nat} {xs:List α} [h:wF L g α R t c xs i l L']:wF (p::L) g α R t c xs i l (p::L'):=⟨(am.cons p h.g).trans (am.swap p _ _)⟩
instance {L:List HP} {α:Type} {R:bZ α} {c:Nat} {xs:List α}:wF (sZ R t g c xs i l::L) g α R t c xs i l L:=⟨am.refl _⟩
theorem Sv {x:α} (hx:xs[i]? =some x) {W:World} (hs:bH W w (aN R t A c xs::L)):∃ g l,A=some ⟨g,0,none⟩/\l.length=R.sz/\bH W w (sZ R t g c xs i l::is R x l::L):=by
 obtain ⟨M,k,hd,hM,hk,h1,h2,eW,l1,l2,hp,hsep⟩:=hs.ex
 rcases hp.2 with ⟨_,rfl⟩ | ⟨g,cur,rfl,hg,ew,gt,hc,eH⟩
 ·simp at hx
 ·obtain ⟨l,hl,OY⟩:=eH i x hx
  exact ⟨g,l,rfl,R.len hl,⟨M,k,hd,hM,hk,h1,h2,eW,l1,l2,⟨cur,hg,ew,gt,hc,hp.1,(dX.1 hx).1,R.len hl,λk x _ hx=>eH k x hx,OY⟩,Mem.emp,h2,Mem.iD _,Mem.iu _,Mem.le_refl _,hl,hsep⟩,hs.os,hs.tape,hs.output,hs.size⟩
theorem z_ [ho:md L A c α R te xs L0] {x:α} (hx:xs[i]? =some x) (h:∀ g l,A=some ⟨g,0,none⟩->l.length=R.sz->TL r n P ops rest ⟨D,E,sZ R te g c xs i l::is R x l::L0⟩ K):TL r n P ops rest ⟨D,E,L⟩ K:=λW a w hh=>by
 obtain ⟨g,l,hA,hl,hs⟩:=Sv hx (hh.2.ay ho.g)
 exact h g l hA hl W a w ⟨hh.1,hs⟩
theorem CR [ho:md L A c α R te xs L0] {x:α} (hx:xs[i]? =some x) (h:∀ g l,A=some ⟨g,0,none⟩->l.length=R.sz->T r n P c' ⟨D,E,sZ R te g c xs i l::is R x l::L0⟩ Q):T r n P c' ⟨D,E,L⟩ Q:=λW a w hh=>by
 obtain ⟨g,l,hA,hl,hs⟩:=Sv hx (hh.2.ay ho.g)
 exact h g l hA hl W a w ⟨hh.1,hs⟩
variable{x:Operand}{j:Nat}
theorem Hv {i:Operand} {e:TypeId} {ik:IntKind} {u:α} [ho:md L A c α R te xs L0] [ht:dy P t (.slice e)] [hz:hJ P e R.sz] {k:Nat} (hd:Nat.blt d n=true) (hx:ev E x=some (.slice A k c)) (hi:ev E i=some (.int ik (j:Int))) (oQ:k=xs.length) (hu:xs[j]? =some u) 
  (h:∀ b l,A=some ⟨b,0,none⟩->l.length=R.sz->TL r n P ops rest ⟨D,(d,.pointer (some ⟨b,j * R.sz+0,none⟩))::E,sZ R te b c xs j l::is R u l::L0⟩ K):TL r n P ops (⟨some d,.indexAddr t x i,ty,pos,af,none⟩::rest) ⟨D,E,L⟩ K:=by
 subst oQ
 have cL:j < xs.length:=(dX.1 hu).1
 refine z_ (A:=A) (c:=c) hu λg l hA hl=> ?_
 subst hA
 exact ab hd J (qK hx hi cL (b:=g) (o:=j * R.sz) ⟨0,J,by omega⟩) (h g l J hl)
theorem Uk {o:World} (h:bH o w (sZ R t g c xs i l::L)):∀ j v,l[j]? =some v->w.cell? ⟨g,i * R.sz+j,none⟩=some v:=λj v hj=>by
 obtain ⟨M,k,hd,hM,hk,h1,h2,eW,l1,l2,⟨cur,hg,_,_,_,_,_,_,_,hc⟩,hs⟩:=h.ex
 rw [rK (hk _ _ (l1 _ _ hg))]
 exact hc j v hj
variable{v:Value}
theorem fQ [ht:iG P t false] [hc:wF L g α R te c xs i l L0] (hx:ev E x=some (.pointer (some ⟨g,i * R.sz+j,none⟩))) (hv:kO l j=some v):Yl P E L (.load t x) ty v:=λn D W a w dst pos af gd ha hs=>by
 simp only [execOp,ha.ev hx,Instr.loadAt,Instr.sureAddr,Sem.run_bind,Sem.run_pure,Result.andThen_ok,Ci (Uk (hs.ay hc.g) j v (z8 hv))]
variable{vs:List Value}
theorem QV {m:Nat} [ht:iG P t true] [hz:hJ P t m] [hc:wF L g α R te c xs i l L0] (hx:ev E x=some (.pointer (some ⟨g,i * R.sz+j,none⟩))) (hv:mg j m l=some vs):Yl P E L (.load t x) ty (.agg vs.toArray):=λn D W a w dst pos af gd ha hs=>by
 obtain ⟨e,hl⟩:=CN hv
 have ai0:=Uk (hs.ay hc.g)
 have gR:=Hj (P:=P) (t:=t) (w:=w) (b:=g) (o:=i * R.sz+j) (vs:=vs) (k:=m) (hk:=by rw [e]; simp; omega) (λq v hq=>by
  rw [e,m8] at hq
  split at hq
  ·rw [qF] at hq
   have:=ai0 _ _ hq
   rwa [zR]
  ·cases hq)
 simp only [execOp,ha.ev hx,Instr.loadAt,Instr.sureAddr,Sem.run_bind,Sem.run_pure,Result.andThen_ok,gR]
theorem fc {y:Operand} {m:Nat} {l':List Value} [hz:hJ P t m] [hc:wF L g α R te c xs i l L0] (hx:ev E x=some (.pointer (some ⟨g,i * R.sz+j,none⟩))) (hy:ev E y=some v) (hp:rJ v=some vs) 
  (hm:Nat.beq vs.length m=true) (h1:mh vs=true) (hl:qh j l vs=some l') (h:TL r n P ops rest ⟨D,E,sZ R te g c xs i l'::L0⟩ K):TL r n P ops (⟨none,.store t x y,ty,pos,af,none⟩::rest) ⟨D,E,L⟩ K:=
 yo rfl rfl (λ_ e=>by cases e) λW a w hh=>by
  have jN:=hh.2.ay hc.g
  obtain ⟨M,k,hd,hM,hk,q1,q2,eW,l1,l2,⟨cur,hg,a2,a3,a4,a5,a6,a7,a8,a9⟩,hs⟩:=jN.ex
  have xg:vs.length=m:=qC hm
  obtain ⟨e,gt⟩:=Ig hl
  have BL:l'.length=l.length:=by rw [e]; simp; omega
  have hw:w.heap[g]? =some (.cells cur te (0,0)):=hk _ _ (l1 _ _ hg)
  have fV:i * R.sz+j+vs.length<=cur.toList.length:=by
   have:(i+1) * R.sz<=c * R.sz:=nB _ (by omega)
   rw [jI] at this
   simp only [Array.length_toList,a2]; omega
  have cK:=run_storeCells_at P g (i * R.sz+j) te vs 0 cur w hw (by simpa using fV) (ED h1)
  simp only [sD] at cK
  let oK:Array Value:=(cur.toList.take (i * R.sz+j)++vs++cur.toList.drop (i * R.sz+j+vs.length)).toArray
  have AG:bH W w (own g (.cells cur te (0,0))::nV (λM=>(∀ k x,k≠i->xs[k]? =some x->∃ l,R.fO M x l/\∀ j v,l[j]? =some v->cur[k * R.sz+j]? =some v)) (λhM h k x hk hx=>let ⟨l,a,b⟩:=h k x hk hx; ⟨l,R.mono hM a,b⟩)::L0):=
   ⟨⟨M,k,hd,hM,hk,q1,q2,eW,l1,l2,hg,Mem.emp,q2,Mem.iD _,Mem.iu _,Mem.le_refl _,a8,hs⟩,jN.os,jN.tape,jN.output,jN.size⟩
  have py:=bH.set AG (w':=w.setRow g oK) (y:=.cells oK te (0,0))
   (by simp only [World.setRow,qD,if_true,hw,qI]) (λi hi=>by simp only [World.setRow,qD]; rw [if_neg (Ne.symm hi)]) rfl rfl rfl (by simp [World.setRow])
  refine ⟨.skip,w.setRow g oK,sZ R te g c xs i l'::L0, ?_,.inl rfl,py.ay λN mm ⟨k1,k2,kd,m1,m2,ha,k3,k4,BG,m3,m4,xk,fm⟩=> ?_,h⟩
  ·have gR:(storeVar t ⟨g,i * R.sz+j,none⟩ v).run P w=.ok () (w.setRow g oK):=by
    simp only [storeVar,wd hp,Sem.run_bind,hz.run,Result.andThen_ok,qH,xg,ne_eq,not_true_eq_false,if_false,Sem.run_pure]
    simpa [oK] using cK
   simp only [execOp,hh.1.ev hx,hh.1.ev hy,Instr.storeAt,Instr.sureAddr,Sem.run_bind,Sem.run_pure,Result.andThen_ok,gR]
  ·have kU:cur.toList.length=c * R.sz:=by simp [a2]
   have mn:(cur.toList.take (i * R.sz+j)).length=i * R.sz+j:=by rw [gq]; omega
   have kB:j+vs.length<=R.sz:=by omega
   refine ⟨k1,k4,Mem.i' kd (Mem.le_refl _) m4,m1,Mem.le_trans m4 m2,⟨oK,ha, ?_,a3,a4,a5,a6,by rw [BL]; exact a7,λq x hq kC=> ?_,λq v hq=> ?_⟩,fm⟩
   ·simp only [oK,qH,eQ,gq,uB,kU]; omega
   ·obtain ⟨lq,b1,b2⟩:=xk q x hq kC
    refine ⟨lq,b1,λp v hp=> ?_⟩
    have hb:=b2 p v hp
    have lE:p < R.sz:=by rw [<- R.len b1]; exact (dX.1 hp).1
    have hqk:q < xs.length:=(dX.1 kC).1
    simp only [oK,tB]
    rcases Nat.lt_or_gt_of_ne hq with cL | hgt
    ·have:(q+1) * R.sz<=i * R.sz:=nB _ cL
     rw [jI] at this
     rw [fh,kF (by omega),m8,if_pos (by omega)]
     simpa using hb
    ·have:(i+1) * R.sz<=q * R.sz:=nB _ hgt
     rw [jI] at this
     rw [nA (by simp only [eQ,mn]; omega),qF]
     simp only [eQ,mn]
     rw [show i * R.sz+j+vs.length+(q * R.sz+p - (i * R.sz+j+vs.length))=q * R.sz+p by omega]
     simpa using hb
   ·simp only [oK,tB]
    rw [e] at hq
    by_cases h0:q < j
    ·have Gf:l[q]? =some v:=by
      rw [fh,kF (by rw [gq]; omega),m8,if_pos h0] at hq
      exact hq
     rw [fh,kF (by omega),m8,if_pos (by omega)]
     simpa using a9 q v Gf
    ·have cL:(l.take j).length=j:=by rw [gq]; omega
     by_cases y_:q < j+vs.length
     ·rw [fh,nA (by omega),cL,kF (by omega)] at hq
      rw [fh,nA (by omega),mn,show i * R.sz+q - (i * R.sz+j)=q - j by omega,kF (by omega)]
      exact hq
     ·have Gf:l[q]? =some v:=by
       rw [nA (by simp only [eQ,cL]; omega),qF] at hq
       simp only [eQ,cL] at hq
       rwa [show j+vs.length+(q - (j+vs.length))=q by omega] at hq
      rw [nA (by simp only [eQ,mn]; omega),qF]
      simp only [eQ,mn]
      rw [show i * R.sz+j+vs.length+(i * R.sz+q - (i * R.sz+j+vs.length))=i * R.sz+q by omega]
      simpa using a9 q v Gf
theorem MP (x:α) (hk:bV L (λM=>R.fO M x l)):am (sZ R t g c xs i l::L) (aN R t (some ⟨g,0,none⟩) c (xs.set i x)::L):=λM k ⟨h1,h2,hd,l1,l2,⟨cur,a1,a2,a3,a4,a5,a6,a7,a8,a9⟩,hs⟩=>by
 have ajJ:=hk M h2 hs
 refine ⟨h1,h2,hd,l1,l2,⟨by simpa using a5,.inr ⟨g,cur,rfl,a1,a2,by simpa using a3,a4,λq y hq=> ?_⟩⟩,hs⟩
 rw [uz] at hq
 split at hq
 ·rename_i e
  subst e
  first | (rw [if_pos a6] at hq; cases hq) | cases hq
  exact ⟨l,ajJ,a9⟩
 ·rename_i e
  exact a8 q y (λh=>e h.symm) hq
theorem jK (g:Nat) (x:α) [hf:wF L g α R te c xs i l L0] (hk:bV L0 (λM=>R.fO M x l)) (h:TL r n P ops rest ⟨D,E,aN R te (some ⟨g,0,none⟩) c (xs.set i x)::L0⟩ K):TL r n P ops rest ⟨D,E,L⟩ K:=bX (hf.g.trans (MP x hk)) h
theorem Nx (g:Nat) (x:α) [hf:wF L g α R te c xs i l L0] (hk:bV L0 (λM=>R.fO M x l)) (h:T r n P c' ⟨D,E,aN R te (some ⟨g,0,none⟩) c (xs.set i x)::L0⟩ Q):T r n P c' ⟨D,E,L⟩ Q:=b_ (hf.g.trans (MP x hk)) h
theorem Ku {M:Mem} {z:List Value} {x:α} (hr:R.fO M x z):∀ k,f9 M R (List.replicate k x) (pY k z)
 | 0=>rfl
 | k+1=>⟨z,pY k z,hr,Ku hr k,rfl⟩
theorem wq {y:Operand} {e:TypeId} {z:Value} {size bytes m k:Nat} {zl:List Value} (R:bZ α) (u:α) [ht:dy P t (.slice e)] [he:mD P e z size bytes] (hd:Nat.blt d n=true) (hx:ev E x=some (.int .i64 (m:Int))) (hy:ev E y=some (.int .i64 (k:Int))) (hmk:m<=k) (hk:k<=281474976710656) (hb:k * bytes<=281474976710656) (ew:Nat.beq R.sz size=true) (sY:Nat.blt 0 size=true) (hz:rJ z=some zl) (hr:∀ M,R.fO M u zl) 
  (h:∀ b,TL r n P ops rest ⟨D,(d,.slice (some ⟨b,0,none⟩) (List.replicate m u).length k)::E,aN R e (some ⟨b,0,none⟩) k (List.replicate m u)::L⟩ K):TL r n P ops (⟨some d,.makeSlice t x y,ty,pos,af,none⟩::rest) ⟨D,E,L⟩ K:=
 ma rfl hd rfl (λ_ e=>by cases e) λW a w hh=>by
  obtain ⟨i,hi,hiz,ajK,hib⟩:=xW (P:=P) (e:=e) (z:=z) (size:=size) (bytes:=bytes)
  have N9:R.sz=size:=qC ew
  have alt:0 < size:=by simpa using sY
  have ga:zl.length=size:=by rw [<- N9]; exact R.len (hr Mem.emp)
  have hbi:(bytes:Int) * (k:Int)<=281474976710656:=by
   have:(bytes:Int) * (k:Int)=((k * bytes:Nat):Int):=by rw [Nat.mul_comm]; simp
   rw [this]; omega
  have Db:madeCells z.cells (k * size)=(pY k zl).toArray:=by
   unfold madeCells
   rw [wd hz, <- ga]
   exact Kz zl k
  have gR:=run_make (P:=P) w t e i z ht.under hi hiz .i64 .i64 (m:Int) (k:Int) (by omega) (by omega) (by rw [hib]; exact hbi) (by omega)
  simp only [zQ,ajK,Db] at gR
  refine ⟨.slice (some ⟨w.heap.size,0,none⟩) (List.replicate m u).length k,w.alloc (.cells (pY k zl).toArray e),aN R e (some ⟨w.heap.size,0,none⟩) k (List.replicate m u)::L, ?_,(hh.2.alloc _).ay λM q ⟨h1,h2,hd,l1,l2,hp,hs⟩=>⟨h1,h2,hd,l1,l2,⟨by simp only [tC,cE]; omega,.inr ⟨_,_,rfl,hp,by simp [Hq,ga,N9],by simpa using hmk,by omega,λi v hv=> ?_⟩⟩,hs⟩,h _⟩
  ·simp [execOp,hh.1.ev hx,hh.1.ev hy,gR]
  ·rw [List.getElem?_replicate] at hv
   split at hv
   ·rename_i cL
    cases hv
    refine ⟨zl,hr M,λj v hj=> ?_⟩
    have kB:=(dX.1 hj).1
    have fV:i * zl.length+j < k * zl.length:=by
     have:(i+1) * zl.length<=k * zl.length:=nB _ (by omega)
     rw [jI] at this; omega
    rw [tB,N9, <- ga,LB _ _ _ fV,Nat.mul_comm i,Nat.mul_add_mod,Ee kB,getElem!_pos zl j kB]
    rw [cj kB] at hj
    exact hj
   ·cases hv
theorem dJ {E E':cZ} {d:Nat} (hd:dM E d=none) (hs:∀ i u,dM E i=some u->dM E' i=some u):∀ i u,dM E i=some u->dM ((d,v)::E') i=some u:=λi u h=>by
 simp only [dM]
 cases e:Nat.beq d i with
 | true=>
  have:d=i:=qC e
  subst this
  rw [hd] at h; cases h
 | false=>exact hs i u h
theorem dI {E:cZ}:∀ i u,dM E i=some u->dM E i=some u:=λ_ _ h=>h
theorem dH {E':cZ} {p:Prop} [Decidable p] (hl:dM E' g=some v) (e:v=.bool (decide p)) (hs:∀ i u,dM E i=some u->dM E' i=some u) (hg:am L' L):
  TL r n P ops [] ⟨D,E',L'⟩ (λs'=>∀ W a w,Holds n W s' a w->Holds n W ⟨D,(g,.bool (decide p))::E,L⟩ a w):=
 O (iY (dC (by rw [hl,e]) hs) hg)
end
open Go Go.MapKept Go.WideShapes
open Go.ChangeMaps (setBlock)
structure hU (κ:Type) where
 enc:κ->Value
 ok:κ->Prop
 inj:∀ a b,enc a=enc b->a=b
def eL:hU Int:=⟨λx=>.int .i64 x,bP .i64,λa b h=>by injection h⟩
def fb:hU ByteArray:=⟨λs=>.string s,λs=>s.size<=cE,λa b h=>by injection h⟩
class kw (P:Program) (t:TypeId) {κ:Type} (K:hU κ):Prop where
 law:Maps.Keyed P t
 key:∀ k,K.ok k->∃ l,keyOf P t (K.enc k)=some l
theorem Mg {n:Int} (h:bP k n):(Lit.int k n).wf=true:=by
 simp only [Lit.wf,kc,decide_eq_true_eq]; exact h
variable{P:Program}{t:TypeId}
instance [ht:dy P t (.int .i64)]:kw P t eL:=⟨Maps.int_keyed ht.under,λk hk=>⟨_,Maps.keyOf_int_mk ht.under (Mg hk)⟩⟩
instance [ht:dy P t .string]:kw P t fb:=⟨Maps.string_keyed ht.under,λk hk=>⟨_,WideMaps.keyOf_string_mk ht.under (by have:k.size<=cE:=hk; simp only [cE] at this; simp only [maxLen]; omega)⟩⟩
def ij:Bool->List Value->Value
 | true,cs=>.agg cs.toArray
 | false,[v]=>v
 | false,_=>undef
class yT {α:Type} (R:bZ α) (f:outParam (α->Value)):Prop where
 e:∀ M x cs,R.fO M x cs->ij false cs=f x
instance:yT (aI k) (λx=>.int k x):=⟨λM x cs h=>by rw [h.1]; rfl⟩
instance:yT uU (λx=>.bool x):=⟨λM x cs h=>by rw [h]; rfl⟩
def gl:bZ Nat:=⟨1,λ_ b cs=>cs=[.pointer (some ⟨b,0,none⟩)],λ_ h=>h,λh=>by simp [h],λh v hv=>by rw [h] at hv; simp at hv; subst hv; rfl⟩
section pairs
variable {κ α:Type} [DecidableEq κ]
def cq (m:List (κ × α)) (k:κ):Option α:=(m.find? λp=>decide (p.1=k)).map (·.2)
def fS (m:List (κ × α)) (k:κ):List (κ × α):=m.filter λp=> !decide (p.1=k)
def ND (m:List (κ × α)):Prop:=m.Pairwise λp q=>p.1≠q.1
theorem wj {m:List (κ × α)} {k:κ} {u:α} (h:cq m k=some u):(k,u)∈m:=by
 unfold cq at h
 cases e:m.find? λp=>decide (p.1=k) with
 | none=>rw [e] at h; cases h
 | some p=>
  rw [e] at h
  simp only [qI,kH] at h
  have h1:=G8 e
  have h2:=List.find?_some e
  have h3:p.1=k:=by simpa using h2
  obtain ⟨a,b⟩:=p
  simp only at h h3
  subst h; subst h3; exact h1
theorem o9 {m:List (κ × α)} {k:κ}:cq m k=none↔∀ p∈m,p.1≠k:=by
 unfold cq
 rw [Option.map_eq_none_iff,vR]
 exact ⟨λh p hp e=>h p hp (by simpa using e),λh p hp e=>h p hp (by simpa using e)⟩
theorem Sw:∀ {m:List (κ × α)} {k:κ} {u v:α},ND m->(k,u)∈m->(k,v)∈m->u=v
 | [],_,_,_,_,h,_=>by cases h
 | p::m,k,u,v,hn,h1,h2=>by
  obtain ⟨a,b⟩:=qG.1 hn
  rcases ig.1 h1 with h1 | h1 <;> rcases ig.1 h2 with h2 | h2
  ·rw [<- h1] at h2; exact (bi Prod.snd h2).symm
  ·exact absurd (by rw [<- h1]) (a _ h2)
  ·exact absurd (by rw [<- h2]) (a _ h1)
  ·exact Sw b h1 h2
theorem zW {m:List (κ × α)} (hn:ND m) {k:κ} {u:α} (h:(k,u)∈m):cq m k=some u:=by
 cases e:cq m k with
 | none=>exact absurd rfl (o9.1 e _ h)
 | some v=>rw [Sw hn (wj e) h]
theorem Ul {m m':List (κ × α)} (h:m.Perm m') (hn:ND m):ND m':=(h.pairwise_iff (λ{_ _} iS=>Ne.symm iS)).1 hn
theorem ada {m m':List (κ × α)} (h:m.Perm m') (hn:ND m) (k:κ):cq m k=cq m' k:=by
 cases e:cq m' k with
 | none=>exact o9.2 λp hp=>o9.1 e p (h.mem_iff.1 hp)
 | some u=>exact zW hn (h.mem_iff.2 (wj e))
theorem yc (p:κ × α) (m:List (κ × α)) (k:κ):cq (p::m) k=if p.1=k then some p.2 else cq m k:=by
 unfold cq
 rw [List.find?_cons]
 by_cases h:p.1=k <;> simp [h]
theorem ahI {m:List (κ × α)} (h:ND m) (k:κ):ND (fS m k):=h.filter _
theorem agk {m:List (κ × α)} {k:κ} {p:κ × α}:p∈fS m k↔p∈m/\p.1≠k:=by simp [fS]
theorem ahJ {m:List (κ × α)} (h:ND m) (k:κ) (u:α):ND ((k,u)::fS m k):=
 qG.2 ⟨λq hq=>λe=>(agk.1 hq).2 e.symm,ahI h k⟩
theorem EG {m:List (κ × α)} (k q:κ):cq (fS m k) q=if q=k then none else cq m q:=by
 unfold fS
 induction m with
 | nil=>simp [cq]
 | cons p m ih=>
  by_cases hp:p.1=k
  ·rw [Km (by simp [hp]),ih,yc]
   by_cases hq:q=k
   ·simp [hq]
   ·simp [hq,hp,Ne.symm hq]
  ·rw [List.filter_cons_of_pos (by simp [hp]),yc,ih,yc]
   by_cases hq:q=k
   ·subst hq; simp [hp]
   ·simp [hq]
theorem uK {m:List (κ × α)} {k:κ} (h:cq m k=none):fS m k=m:=rD.2 λp hp=>by simpa using o9.1 h p hp
end pairs
section
variable {κ α:Type} {K:hU κ} {R:bZ α} {ag:Bool}
def wG (K:hU κ) (R:bZ α) (ag:Bool) (M:Mem) (e:MapEntry) (p:κ × α):Prop:=e.key=K.enc p.1/\K.ok p.1/\∃ cs,R.fO M p.2 cs/\e.val=ij ag cs
def fB (K:hU κ) (R:bZ α) (ag:Bool) (M:Mem) (es:List MapEntry) (l:List (κ × α)):Prop:=
 es.length=l.length/\∀ (i:Nat) (e:MapEntry) (p:κ × α),es[i]? =some e->l[i]? =some p->wG K R ag M e p
variable{M:Mem}
theorem fB.mono {N:Mem} (hM:M.le N) {es:List MapEntry} {l:List (κ × α)} (h:fB K R ag M es l):fB K R ag N es l:=
 ⟨h.1,λi e p he hp=>let ⟨a,b,cs,c,d⟩:=h.2 i e p he hp; ⟨a,b,cs,R.mono hM c,d⟩⟩
variable{e:MapEntry}
theorem fB.at_ {es:List MapEntry} {l:List (κ × α)} (h:fB K R ag M es l) (he:es[i]? =some e):∃ p,l[i]? =some p/\wG K R ag M e p:=by
 have hi:=(dX.1 he).1
 obtain ⟨p,hp⟩:∃ p,l[i]? =some p:=⟨_,cj (by rw [<- h.1]; exact hi)⟩
 exact ⟨p,hp,h.2 i e p he hp⟩
theorem fB.mem {es:List MapEntry} {l:List (κ × α)} (h:fB K R ag M es l) (he:e∈es):∃ p∈l,wG K R ag M e p:=by
 obtain ⟨i,hi⟩:=od he
 obtain ⟨p,hp,hr⟩:=h.at_ hi
 exact ⟨p,eA hp,hr⟩
theorem fB.ajL {es:List MapEntry} {l:List (κ × α)} (h:fB K R ag M es l) {p:κ × α} (hp:p∈l):∃ e∈es,wG K R ag M e p:=by
 obtain ⟨i,hi⟩:=od hp
 have eG:=(dX.1 hi).1
 obtain ⟨e,he⟩:∃ e,es[i]? =some e:=⟨_,cj (by rw [h.1]; exact eG)⟩
 exact ⟨e,eA he,h.2 i e p he hi⟩
theorem fB.nd [DecidableEq κ] {es:List MapEntry} {l:List (κ × α)} (h:fB K R ag M es l) (hs:es.Pairwise λx y=>x.key≠y.key):ND l:=by
 rw [ND,xR]
 intro i j hi hj kA e
 rw [xR] at hs
 have WL:i < es.length:=by rw [h.1]; exact hi
 have qq:j < es.length:=by rw [h.1]; exact hj
 have h1:=h.2 i _ _ (cj WL) (cj hi)
 have h2:=h.2 j _ _ (cj qq) (cj hj)
 exact hs i j WL qq kA (by rw [h1.1,h2.1,e])
theorem fB.push {es:List MapEntry} {l:List (κ × α)} (h:fB K R ag M es l) {p:κ × α} (hp:wG K R ag M e p):fB K R ag M (es++[e]) (l++[p]):=by
 refine ⟨by simp [h.1],λi e' p' he mO=> ?_⟩
 by_cases hi:i < es.length
 ·rw [kF hi] at he
  rw [kF (by rw [<- h.1]; exact hi)] at mO
  exact h.2 i e' p' he mO
 ·rw [nA (by omega)] at he
  rw [nA (by have:=h.1; omega)] at mO
  have hz:i - es.length=0:=by
   have:=(dX.1 he).1
   simp at this; omega
  have n5:i - l.length=0:=by have:=h.1; omega
  rw [hz] at he; rw [n5] at mO
  simp at he mO
  subst he; subst mO; exact hp
theorem fB.set {es:List MapEntry} {l:List (κ × α)} (h:fB K R ag M es l) {p:κ × α} (j:Nat) (hp:wG K R ag M e p):fB K R ag M (es.set j e) (l.set j p):=by
 refine ⟨by simp [h.1],λi e' p' he mO=> ?_⟩
 rw [uz] at he mO
 by_cases kA:j=i
 ·subst kA
  simp only [if_true] at he mO
  split at he
  ·cases he
   split at mO
   ·cases mO; exact hp
   ·cases mO
  ·cases he
 ·rw [if_neg kA] at he mO
  exact h.2 i e' p' he mO
theorem fB.erase {es:List MapEntry} {l:List (κ × α)} (h:fB K R ag M es l) (j:Nat):fB K R ag M (es.eraseIdx j) (l.eraseIdx j):=by
 refine ⟨by simp only [List.length_eraseIdx,h.1],λi e' p' he mO=> ?_⟩
 rw [List.getElem?_eraseIdx] at he mO
 by_cases kA:i < j
 ·rw [if_pos kA] at he mO; exact h.2 i e' p' he mO
 ·rw [if_neg kA] at he mO; exact h.2 _ e' p' he mO
def ai1 (K:hU κ) (R:bZ α) (ag:Bool) (M h:Mem) (b:Nat) (m:List (κ × α)):Prop:=
 ∃ es clock l,h b=some (.map es clock)/\Stamped es clock/\l.Perm m/\fB K R ag M es.toList l
def cy (K:hU κ) (R:bZ α) (ag:Bool) (b:Nat) (m:List (κ × α)):HP:=
 ⟨λM h=>ai1 K R ag M h b m,λhM hh ⟨es,c,l,h1,h2,h3,h4⟩=>⟨es,c,l,hh _ _ h1,h2,h3,h4.mono hM⟩⟩
class iI (L:List HP) (b:Nat) (κ:outParam Type) (α:outParam Type) (K:outParam (hU κ)) (R:outParam (bZ α)) (ag:outParam Bool) (m:outParam (List (κ × α))) (L':outParam (List HP)):Prop where
 g:am L (cy K R ag b m::L')
instance {p:HP} {L L':List HP} {b:Nat} {κ α:Type} {K:hU κ} {R:bZ α} {ag:Bool} {m:List (κ × α)} [h:iI L b κ α K R ag m L']:iI (p::L) b κ α K R ag m (p::L'):=⟨(am.cons p h.g).trans (am.swap p _ _)⟩
instance {L:List HP} {b:Nat} {κ α:Type} {K:hU κ} {R:bZ α} {ag:Bool} {m:List (κ × α)}:iI (cy K R ag b m::L) b κ α K R ag m L:=⟨am.refl _⟩
end
section
variable {r:Option Nat} {n:Nat} {P:Program} {ops:Array Oper} {rest:List Oper} {KK:St->Prop} {Q:Exit->St->Prop} {D:List Deferred} {E:cZ} {L L' L0:List HP} {d:Nat} {ty:TypeId} {pos:String} {af:Array Edge}
variable {κ α:Type} [DecidableEq κ] {K:hU κ} {R:bZ α} {ag:Bool} {b:Nat} {m:List (κ × α)}
theorem agl:bV (cy K R ag b m::L) (λ_=>ND m):=λM h ⟨h1,h2,hd,l1,l2,⟨es,c,l,q1,q2,q3,q4⟩,hs⟩=>Ul q3 (q4.nd ((stamped_iff es c).1 q2).2.2)
theorem I3 {c:Code} [hf:iI L b κ α K R ag m L0] (h:ND m->T r n P c ⟨D,E,L⟩ Q):T r n P c ⟨D,E,L⟩ Q:=yu (φ:=λ_=>ND m) (bV.dT hf.g agl) (λ_ h=>h) h
variable{kt et:TypeId}
theorem o7 (K:hU κ) (R:bZ α) (ag:Bool) [ht:dy P t (.map kt et)] (hd:Nat.blt d n=true) (h:∀ b,TL r n P ops rest ⟨D,(d,.map (some b))::E,cy K R ag b []::L⟩ KK):
  TL r n P ops (⟨some d,.makeMap t none,ty,pos,af,none⟩::rest) ⟨D,E,L⟩ KK:=
 ma rfl hd rfl (λ_ e=>by cases e) λW a w hh=>⟨_,w.alloc (.map #[] 0),cy K R ag w.heap.size []::L,by simp only [execOp,Instr.makeMap]; rfl,
  (hh.2.alloc _).ay λM k ⟨h1,h2,hd,l1,l2,hp,hs⟩=>⟨h1,h2,hd,l1,l2,⟨#[],0,[],hp,stamped_empty 0,uC _,⟨rfl,λi e p he=>by simp at he⟩⟩,hs⟩,h _⟩
theorem H_ [hk:kw P kt K] {k:κ} (cX:K.ok k) {M:Mem} {es:Array MapEntry} {clock:Nat} {l:List (κ × α)} (cK:Stamped es clock) (hp:l.Perm m) (he:fB K R ag M es.toList l) (w:World):
  (cq m k=none/\(Instr.findKey kt (K.enc k) es.toList).run P w=.ok none w/\∀ e∈es.toList,e.key≠K.enc k)∨
  ∃ j e u cs,cq m k=some u/\(Instr.findKey kt (K.enc k) es.toList).run P w=.ok (some (j,e.val)) w/\es.toList[j]? =some e/\e.key=K.enc k/\l[j]? =some (k,u)/\R.fO M u cs/\e.val=ij ag cs:=by
 obtain ⟨lx,BM⟩:=hk.key k cX
 have hnd:=Ul hp (he.nd ((stamped_iff es clock).1 cK).2.2)
 rcases hk.law.find w BM es.toList (λe oR=>by obtain ⟨p,_,h1,h2,_⟩:=he.mem oR; rw [h1]; exact hk.key _ h2) with ⟨h1,h2⟩ | ⟨j,e,h1,h2,h3⟩
 ·refine .inl ⟨o9.2 λp DF e=> ?_,h1,h2⟩
  obtain ⟨e',oR,q1,_⟩:=he.ajL (hp.mem_iff.2 DF)
  exact h2 e' oR (by rw [q1,e])
 ·obtain ⟨p,lE,q1,q2,cs,q3,q4⟩:=he.at_ h2
  have vy:p.1=k:=K.inj _ _ (by rw [<- q1,h3])
  obtain ⟨pk,pu⟩:=p
  simp only at vy; subst vy
  exact .inr ⟨j,e,pu,cs,zW hnd (hp.mem_iff.1 (eA lE)),h1,h2,h3,lE,q3,q4⟩
theorem HW [hk:kw P kt K] {k:κ} (cX:K.ok k) (em:Bool) (w:World):(Instr.checkKey em 10000 kt (K.enc k)).run P w=.ok () w:=by
 obtain ⟨lx,BM⟩:=hk.key k cX
 exact hk.law.check w em BM
variable{z:Value}{W w:World}
theorem wk [ht:dy P t (.map kt et)] [hk:kw P kt K] [hz:l_ P et z] {k:κ} (cX:K.ok k) (c:Bool) (hs:bH W w (cy K R ag b m::L)):
  (cq m k=none/\(Instr.lookup t (.map (some b)) (K.enc k) c).run P w=.ok (if c then .tuple #[z,.bool false] else z) w)∨
  ∃ u cs,cq m k=some u/\bH W w (is R u cs::cy K R ag b m::L)/\(Instr.lookup t (.map (some b)) (K.enc k) c).run P w=.ok (if c then .tuple #[ij ag cs,.bool true] else ij ag cs) w:=by
 obtain ⟨M,q,hd,hM,hq,h1,h2,eW,l1,l2,⟨es,clock,l,hb,cK,hp,he⟩,hsep⟩:=hs.ex
 have gu:w.heap[b]? =some (.map es clock):=hq _ _ (l1 _ _ hb)
 have hc:=HW (P:=P) (kt:=kt) cX es.isEmpty w
 rcases H_ (P:=P) (kt:=kt) cX cK hp he w with ⟨g1,g2,g3⟩ | ⟨j,e,u,cs,g1,g2,g3,g4,g5,g6,g7⟩
 ·exact .inl ⟨g1,by cases c <;> simp [Instr.lookup,ht.run,MapKept.run_getObj_map gu,hc,g2,hz.run,Result.andThen]⟩
 ·refine .inr ⟨u,cs,g1,⟨⟨M,q,hd,hM,hq,Mem.emp,q,Mem.iD _,Mem.iu _,Mem.le_refl _,g6,h1,h2,eW,l1,l2,⟨es,clock,l,hb,cK,hp,he⟩,hsep⟩,hs.os,hs.tape,hs.output,hs.size⟩, ?_⟩
  rw [<- g7]
  cases c <;> simp [Instr.lookup,ht.run,MapKept.run_getObj_map gu,hc,g2,hz.run,Result.andThen]
variable{x y:Operand}
theorem Sx {k:κ} [ht:dy P t (.map kt et)] [hf:iI L b κ α K R ag m L0] [hk:kw P kt K] [hz:l_ P et z] (hd:Nat.blt d n=true) (hx:ev E x=some (.map (some b))) (hy:ev E y=some (K.enc k)) (cX:K.ok k) 
  (h0:cq m k=none->TL r n P ops rest ⟨D,(d,z)::E,L⟩ KK) (h1:∀ u cs,cq m k=some u->TL r n P ops rest ⟨D,(d,ij ag cs)::E,is R u cs::cy K R ag b m::L0⟩ KK):
  TL r n P ops (⟨some d,.lookup t x y false,ty,pos,af,none⟩::rest) ⟨D,E,L⟩ KK:=
 ma rfl hd rfl (λ_ e=>by cases e) λW a w hh=>by
  rcases wk (P:=P) (t:=t) (kt:=kt) (et:=et) (z:=z) cX false (hh.2.ay hf.g) with ⟨g1,g2⟩ | ⟨u,cs,g1,g2,g3⟩
  ·exact ⟨z,w,L,by simp [execOp,hh.1.ev hx,hh.1.ev hy,g2],hh.2,h0 g1⟩
  ·exact ⟨ij ag cs,w,_,by simp [execOp,hh.1.ev hx,hh.1.ev hy,g3],g2,h1 u cs g1⟩
theorem Zi {k:κ} [ht:dy P t (.map kt et)] [hf:iI L b κ α K R ag m L0] [hk:kw P kt K] [hz:l_ P et z] (hd:Nat.blt d n=true) (hx:ev E x=some (.map (some b))) (hy:ev E y=some (K.enc k)) (cX:K.ok k) 
  (h0:cq m k=none->TL r n P ops rest ⟨D,(d,.tuple #[z,.bool false])::E,L⟩ KK) (h1:∀ u cs,cq m k=some u->TL r n P ops rest ⟨D,(d,.tuple #[ij ag cs,.bool true])::E,is R u cs::cy K R ag b m::L0⟩ KK):
  TL r n P ops (⟨some d,.lookup t x y true,ty,pos,af,none⟩::rest) ⟨D,E,L⟩ KK:=
 ma rfl hd rfl (λ_ e=>by cases e) λW a w hh=>by
  rcases wk (P:=P) (t:=t) (kt:=kt) (et:=et) (z:=z) cX true (hh.2.ay hf.g) with ⟨g1,g2⟩ | ⟨u,cs,g1,g2,g3⟩
  ·exact ⟨.tuple #[z,.bool false],w,L,by simp [execOp,hh.1.ev hx,hh.1.ev hy,g2],hh.2,h0 g1⟩
  ·exact ⟨.tuple #[ij ag cs,.bool true],w,_,by simp [execOp,hh.1.ev hx,hh.1.ev hy,g3],g2,h1 u cs g1⟩
def nP (f:α->Value) (z:Value):Option α->Value
 | none=>z
 | some u=>f u
theorem pT {k:κ} {m:List (κ × α)} {R:bZ α} {f:α->Value} [hv:yT R f] [ht:dy P t (.map kt et)] [hf:iI L b κ α K R false m L0] [hk:kw P kt K] [hz:l_ P et z] (hx:ev E x=some (.map (some b))) (hy:ev E y=some (K.enc k)) (cX:K.ok k):
  Yl P E L (.lookup t x y false) ty (nP f z (cq m k)):=λn D W a w dst pos af g ha hs=>by
 rcases wk (P:=P) (t:=t) (kt:=kt) (et:=et) (z:=z) cX false (hs.ay hf.g) with ⟨g1,g2⟩ | ⟨u,cs,g1,g2,g3⟩
 ·rw [g1]; simp [execOp,ha.ev hx,ha.ev hy,nP,g2]
 ·obtain ⟨M,q,_,_,_,h1,h2,_,_,_,hi,_⟩:=g2.ex
  have e:=hv.e _ _ _ hi
  rw [g1]; simp only [nP, <- e]
  simp [execOp,ha.ev hx,ha.ev hy,g3]
theorem aan {k:κ} {m:List (κ × α)} {R:bZ α} {f:α->Value} [hv:yT R f] [ht:dy P t (.map kt et)] [hf:iI L b κ α K R false m L0] [hk:kw P kt K] [hz:l_ P et z] (hx:ev E x=some (.map (some b))) (hy:ev E y=some (K.enc k)) (cX:K.ok k):
  Yl P E L (.lookup t x y true) ty (.tuple #[nP f z (cq m k),.bool (cq m k).isSome]):=λn D W a w dst pos af g ha hs=>by
 rcases wk (P:=P) (t:=t) (kt:=kt) (et:=et) (z:=z) cX true (hs.ay hf.g) with ⟨g1,g2⟩ | ⟨u,cs,g1,g2,g3⟩
 ·rw [g1]; simp [execOp,ha.ev hx,ha.ev hy,nP,g2]
 ·obtain ⟨M,q,_,_,_,h1,h2,_,_,_,hi,_⟩:=g2.ex
  have e:=hv.e _ _ _ hi
  rw [g1]; simp only [nP, <- e]
  simp [execOp,ha.ev hx,ha.ev hy,g3]
abbrev IN (K:hU κ) (R:bZ α) (ag:Bool) (es:List MapEntry) (l:List (κ × α)):HP:=nV (λM=>fB K R ag M es l) (λhM h=>h.mono hM)
theorem Cy (h:bH W w (cy K R ag b m::L)):∃ es clock l,Stamped es clock/\l.Perm m/\bH W w (own b (.map es clock)::IN K R ag es.toList l::L):=by
 obtain ⟨M,k,hd,hM,hk,h1,h2,eW,l1,l2,⟨es,c,l,q1,q2,q3,q4⟩,hs⟩:=h.ex
 exact ⟨es,c,l,q2,q3,⟨M,k,hd,hM,hk,h1,h2,eW,l1,l2,q1,Mem.emp,h2,Mem.iD _,Mem.iu _,Mem.le_refl _,q4,hs⟩,h.os,h.tape,h.output,h.size⟩
theorem Ct {es:Array MapEntry} {clock:Nat} {l:List (κ × α)} (h1:Stamped es clock) (h2:l.Perm m):am (own b (.map es clock)::IN K R ag es.toList l::L) (cy K R ag b m::L):=λM k ⟨g1,g2,gd,l1,l2,hp,g3,g4,gd',l3,l4,he,hs⟩=>
 ⟨g1,g4,Mem.i' gd (Mem.le_refl _) l4,l1,Mem.le_trans l4 l2,⟨es,clock,l,hp,h1,h2,he⟩,hs⟩
theorem vY {x y:Obj} (h:bH W w (own b x::L)):bH W (setBlock w b y) (own b y::L):=by
 have hb:=h.pX
 have cL:b < w.heap.size:=(uy.1 hb).1
 exact bH.set h (by simp [setBlock,cL]) (λi hi=>by simp [setBlock,G6 (Ne.symm hi)]) rfl rfl rfl (by simp [setBlock])
theorem z5:∀ {l:List (κ × α)} {j:Nat} {k:κ} {u:α},ND l->l[j]? =some (k,u)->fS l k=l.eraseIdx j
 | [],j,k,u,_,h=>by simp at h
 | p::l,0,k,u,hn,h=>by
  simp at h; subst h
  obtain ⟨a,b⟩:=qG.1 hn
  have:cq l k=none:=o9.2 λq hq e=>a q hq e.symm
  have h2:=uK this
  unfold fS at h2 ⊢
  rw [Km (by simp),h2]; simp
 | p::l,j+1,k,u,hn,h=>by
  obtain ⟨a,b⟩:=qG.1 hn
  have h':l[j]? =some (k,u):=by simpa using h
  have hp:p.1≠k:=a _ (eA h')
  have ih:=z5 b h'
  unfold fS at ih ⊢
  rw [List.filter_cons_of_pos (by simp [hp]),ih]; simp
theorem EH:∀ {l:List (κ × α)} {j:Nat} {p:κ × α},j < l.length->(l.set j p).Perm (p::l.eraseIdx j)
 | [],j,p,h=>by simp at h
 | q::l,0,p,h=>by simp
 | q::l,j+1,p,h=>by
  simp only [Hb,Ha]
  exact ((EH (by simpa using h)).cons q).trans (List.Perm.swap _ _ _)
theorem LD {l m:List (κ × α)} (h:l.Perm m) (k:κ):(fS l k).Perm (fS m k):=h.filter _
variable{cs:List Value}
theorem Um [ht:dy P t (.map kt et)] [hk:kw P kt K] {k:κ} (cX:K.ok k) {u:α} {m':List (κ × α)} (hr:bV L (λM=>R.fO M u cs)) (hm:((k,u)::fS m k).Perm m') (hs:bH W w (cy K R ag b m::L)):
  ∃ w',(Instr.mapUpdate t (.map (some b)) (K.enc k) (ij ag cs)).run P w=.ok () w'/\bH W w' (cy K R ag b m'::L):=by
 obtain ⟨es,clock,l,cK,hp,dt⟩:=Cy hs
 have gu:w.heap[b]? =some (.map es clock):=dt.pX
 obtain ⟨M,_,he⟩:=dt.uS (φ:=λM=>fB K R ag M es.toList l) (bV.tail bV.head)
 have hnd:ND l:=he.nd ((stamped_iff es clock).1 cK).2.2
 obtain ⟨lx,BM⟩:=hk.key k cX
 have hc:=HW (P:=P) (kt:=kt) cX false w
 have Ny:=hk.law.stays w BM
 rcases H_ (P:=P) (kt:=kt) cX cK hp he w with ⟨g1,g2,g3⟩ | ⟨j,e,u0,Gg,g1,g2,g3,g4,g5,g6,g7⟩
 ·refine ⟨setBlock w b (.map (es.push ⟨K.enc k,ij ag cs,clock⟩) (clock+1)), ?_,(vY dt).ay (am.trans ?_ (Ct (l:=l++[(k,u)]) (stamped_push (val:=ij ag cs) cK g3) ?_))⟩
  ·simp [Instr.mapUpdate,ht.run,MapKept.run_getObj_map gu,hc,g2,MapKept.run_setObj_map _ gu,Result.andThen,setBlock]
  ·intro N q ⟨a1,a2,ad,b1,b2,ho,a3,a4,r8,b3,b4,iU,hsep⟩
   refine ⟨a1,a2,ad,b1,b2,ho,a3,a4,r8,b3,b4, ?_,hsep⟩
   show fB K R ag N (es.push ⟨K.enc k,ij ag cs,clock⟩).toList (l++[(k,u)])
   rw [Array.toList_push]
   exact fB.push iU ⟨rfl,cX,cs,hr N a4 hsep,rfl⟩
  ·refine List.Perm.trans ?_ hm
   rw [uK g1]
   exact (D_ _ _).trans (hp.cons _)
 ·have hj:es[j]? =some e:=by simpa using g3
  have Dc:(es.modify j (λe'=>{e' with key:=K.enc k,val:=ij ag cs})).toList=es.toList.set j {e with key:=K.enc k,val:=ij ag cs}:=by rw [Array.toList_modify,ChangeMaps.modify_eq_set _ _ _ _ g3]
  refine ⟨setBlock w b (.map (es.modify j (λe'=>{e' with key:=K.enc k,val:=ij ag cs})) clock), ?_,(vY dt).ay (am.trans ?_ (Ct (l:=l.set j (k,u)) (stamped_modify cK j (λe'=>{e' with key:=K.enc k,val:=ij ag cs}) (λ_ _=>rfl) (λe' _ Gh=>by rw [hj] at Gh; cases Gh; exact g4.symm)) ?_))⟩
  ·simp [Instr.mapUpdate,ht.run,MapKept.run_getObj_map gu,hc,g2,hj,g4,Ny,MapKept.run_setObj_map _ gu,Result.andThen,setBlock]
  ·intro N q ⟨a1,a2,ad,b1,b2,ho,a3,a4,r8,b3,b4,iU,hsep⟩
   refine ⟨a1,a2,ad,b1,b2,ho,a3,a4,r8,b3,b4, ?_,hsep⟩
   show fB K R ag N (es.modify j _).toList (l.set j (k,u))
   rw [Dc]
   exact fB.set iU j ⟨rfl,cX,cs,hr N a4 hsep,rfl⟩
  ·refine List.Perm.trans ?_ hm
   refine (EH (dX.1 g5).1).trans (List.Perm.cons _ ?_)
   rw [<- z5 hnd g5]
   exact LD hp k
theorem sH {z:Operand} {k:κ} {u:α} (m':List (κ × α)) [ht:dy P t (.map kt et)] [hf:iI L b κ α K R ag m L0] [hk:kw P kt K] (hx:ev E x=some (.map (some b))) (hy:ev E y=some (K.enc k)) (hz:ev E z=some (ij ag cs)) (cX:K.ok k) (hr:bV L0 (λM=>R.fO M u cs)) (hm:((k,u)::fS m k).Perm m') 
  (h:TL r n P ops rest ⟨D,E,cy K R ag b m'::L0⟩ KK):TL r n P ops (⟨none,.mapUpdate t x y z,ty,pos,af,none⟩::rest) ⟨D,E,L⟩ KK:=
 yo rfl rfl (λ_ e=>by cases e) λW a w hh=>by
  obtain ⟨w',gR,hs⟩:=Um (P:=P) (t:=t) (kt:=kt) (et:=et) cX hr hm (hh.2.ay hf.g)
  exact ⟨.skip,w',_,by simp [execOp,hh.1.ev hx,hh.1.ev hy,hh.1.ev hz,gR],.inl rfl,hs,h⟩
theorem agm {ty0:TypeId} [ht:dy P t (.map kt et)] [hk:kw P kt K] {k:κ} (cX:K.ok k) (hs:bH W w (cy K R ag b m::L)) (u:TypeId):
  ∃ w',(Builtin.delete_ #[t,u] ty0 #[.map (some b),K.enc k]).run P w=.ok (.tuple #[]) w'/\bH W w' (cy K R ag b (fS m k)::L):=by
 obtain ⟨es,clock,l,cK,hp,dt⟩:=Cy hs
 have gu:w.heap[b]? =some (.map es clock):=dt.pX
 obtain ⟨M,_,he⟩:=dt.uS (φ:=λM=>fB K R ag M es.toList l) (bV.tail bV.head)
 have hnd:ND l:=he.nd ((stamped_iff es clock).1 cK).2.2
 have hc:=HW (P:=P) (kt:=kt) cX es.isEmpty w
 rcases H_ (P:=P) (kt:=kt) cX cK hp he w with ⟨g1,g2,g3⟩ | ⟨j,e,u0,Gg,g1,g2,g3,g4,g5,g6,g7⟩
 ·refine ⟨setBlock w b (.map es clock), ?_,(vY dt).ay (Ct cK ?_)⟩
  ·simp [Builtin.delete_,ht.run,MapKept.run_getObj_map gu,hc,g2,MapKept.run_setObj_map _ gu,Result.andThen,setBlock]
  ·rw [uK g1]; exact hp
 ·have kB:j < es.toList.length:=(dX.1 g3).1
  have DG:j < es.size:=by simpa using kB
  have N5:(es.eraseIdxIfInBounds j).toList=es.toList.eraseIdx j:=by
   unfold Array.eraseIdxIfInBounds
   rw [dif_pos DG]
   simp
  refine ⟨setBlock w b (.map (es.eraseIdxIfInBounds j) clock), ?_,(vY dt).ay (am.trans ?_ (Ct (l:=l.eraseIdx j) (stamped_erase cK j) ?_))⟩
  ·simp [Builtin.delete_,ht.run,MapKept.run_getObj_map gu,hc,g2,MapKept.run_setObj_map _ gu,Result.andThen,setBlock]
  ·intro N q ⟨a1,a2,ad,b1,b2,ho,a3,a4,r8,b3,b4,iU,hsep⟩
   refine ⟨a1,a2,ad,b1,b2,ho,a3,a4,r8,b3,b4, ?_,hsep⟩
   show fB K R ag N (es.eraseIdxIfInBounds j).toList (l.eraseIdx j)
   rw [N5]
   exact fB.erase iU j
  ·rw [<- z5 hnd g5]
   exact LD hp k
theorem Es {u:TypeId} {k:κ} [ht:dy P t (.map kt et)] [hf:iI L b κ α K R ag m L0] [hk:kw P kt K] (hx:ev E x=some (.map (some b))) (hy:ev E y=some (K.enc k)) (cX:K.ok k) 
  (h:TL r n P ops rest ⟨D,E,cy K R ag b (fS m k)::L0⟩ KK):TL r n P ops (⟨none,.call {callee:=.builtin .delete,args:=#[x,y],argTypes:=#[t,u]},ty,pos,af,none⟩::rest) ⟨D,E,L⟩ KK:=
 yo rfl rfl (λ_ e=>by cases e) λW a w hh=>by
  obtain ⟨w',gR,hs⟩:=agm (P:=P) (t:=t) (kt:=kt) (et:=et) (ty0:=ty) cX (hh.2.ay hf.g) u
  exact ⟨_,w',_,by simp [execOp,resolve,invoke,builtin,hh.1.ev hx,hh.1.ev hy,gR]; rfl,.inr ⟨_,rfl⟩,hs,h⟩
theorem Cz [ht:dy P t (.map kt et)] [hf:iI L b κ α K R ag m L0] (hx:ev E x=some (.map (some b))):Yl P E L (.call {callee:=.builtin .len,args:=#[x],argTypes:=#[t]}) ty (.int .i64 (m.length:Int)):=λn D W a w dst pos af g ha hs=>by
 obtain ⟨es,clock,l,cK,hp,dt⟩:=Cy (hs.ay hf.g)
 have gu:w.heap[b]? =some (.map es clock):=dt.pX
 obtain ⟨M,_,he⟩:=dt.uS (φ:=λM=>fB K R ag M es.toList l) (bV.tail bV.head)
 have:es.size=m.length:=by have:=he.1; rw [<- hp.length_eq, <- this]; simp
 simp [execOp,resolve,invoke,builtin,Builtin.len_,ha.ev hx,ht.run,MapKept.run_getObj_map gu,Result.andThen,goInt,this]
theorem dh.map_nil [ht:dy P t (.map kt et)] {A:Option Nat}:dh P t (.map A) (.map none) (decide (A=none)):=λd w=>by
 cases A <;> simp [Op.equalIn,ht.run]
theorem LE:∀ {n:Nat} {l:List Nat},l.Nodup->(∀ x∈l,x < n)->l.length<=n
 | 0,l,_,h=>by
  cases l with
  | nil=>simp
  | cons x l=>have:=h x (by simp); omega
 | n+1,l,hn,h=>by
  by_cases hm:n∈l
  ·have h1:(l.erase n).length=l.length - 1:=List.length_erase_of_mem hm
   have h2:=LE (n:=n) (hn.erase n) (λx hx=>by
    have h3:=(hn.mem_erase_iff).1 hx
    have h4:=h x h3.2
    have h5:=h3.1
    omega)
   have h0:0 < l.length:=List.length_pos_of_mem hm
   omega
  ·have h2:=LE (n:=n) hn (λx hx=>by
    have h4:=h x hx
    have h5:x≠n:=λe=>hm (e ▸ hx)
    omega)
   omega
def aeI (K:hU κ) (R:bZ α) (ag:Bool) (M h:Mem) (b it:Nat) (m done:List (κ × α)):Prop:=
 ∃ (es:Array MapEntry) (clock:Nat) (l:List (κ × α)) (seen:Array Nat) (js:List Nat),h b=some (.map es clock)/\h it=some (.mapIter (some b) clock seen clock)/\it≠b/\Stamped es clock/\l.Perm m/\fB K R ag M es.toList l∧
  js.Nodup/\(∀ j∈js,j < l.length)/\seen.toList.map some=js.map (λj=>(es.toList[j]?).map (·.born))/\done.map some=js.map (λj=>l[j]?)
def na (K:hU κ) (R:bZ α) (ag:Bool) (b it:Nat) (m done:List (κ × α)):HP:=
 ⟨λM h=>aeI K R ag M h b it m done,λhM hh ⟨es,c,l,seen,js,h1,h2,h3,h4,h5,h6,h7⟩=>⟨es,c,l,seen,js,hh _ _ h1,hh _ _ h2,h3,h4,h5,h6.mono hM,h7⟩⟩
class wH (L:List HP) (it:Nat) (b:outParam Nat) (κ:outParam Type) (α:outParam Type) (K:outParam (hU κ)) (R:outParam (bZ α)) (ag:outParam Bool) (m:outParam (List (κ × α))) (done:outParam (List (κ × α))) (L':outParam (List HP)):Prop where
 g:am L (na K R ag b it m done::L')
omit [DecidableEq κ] in
theorem agn {p:HP} {L L':List HP} {b it:Nat} {κ α:Type} {K:hU κ} {R:bZ α} {ag:Bool} {m done:List (κ × α)} (h:wH L it b κ α K R ag m done L'):wH (p::L) it b κ α K R ag m done (p::L'):=⟨(am.cons p h.g).trans (am.swap p _ _)⟩
instance {p:HP} {L L':List HP} {b it:Nat} {κ α:Type} {K:hU κ} {R:bZ α} {ag:Bool} {m done:List (κ × α)} [h:wH L it b κ α K R ag m done L']:wH (p::L) it b κ α K R ag m done (p::L'):=agn h
instance {L:List HP} {b it:Nat} {κ α:Type} {K:hU κ} {R:bZ α} {ag:Bool} {m done:List (κ × α)}:wH (na K R ag b it m done::L) it b κ α K R ag m done L:=⟨am.refl _⟩
theorem Aa [ht:dy P t (.map kt et)] [hf:iI L b κ α K R ag m L0] (hd:Nat.blt d n=true) (hx:ev E x=some (.map (some b))) (h:∀ it,TL r n P ops rest ⟨D,(d,.pointer (some ⟨it,0,none⟩))::E,na K R ag b it m []::L0⟩ KK):
  TL r n P ops (⟨some d,.range t x,ty,pos,af,none⟩::rest) ⟨D,E,L⟩ KK:=
 ma rfl hd rfl (λ_ e=>by cases e) λW a w hh=>by
  obtain ⟨es,clock,l,cK,hp,dt⟩:=Cy (hh.2.ay hf.g)
  have gu:w.heap[b]? =some (.map es clock):=dt.pX
  have gR:=run_range_map (P:=P) w t kt et b es clock ht.under gu
  refine ⟨_,_,na K R ag b w.heap.size m []::L0,by simp [execOp,hh.1.ev hx,gR],(dt.alloc (.mapIter (some b) clock #[] clock)).ay λM q ⟨a1,a2,ad,b1,b2,ho,a3,a4,r8,b3,b4,hb,a5,a6,ad2,b5,b6,he,hsep⟩=> ?_,h _⟩
  have iS:w.heap.size≠b:=by have:=(uy.1 gu).1; omega
  refine ⟨a1.join a3,a6,Mem.uH (Mem.i' ad (Mem.le_refl _) (Mem.le_trans b6 b4)) (Mem.i' r8 (Mem.le_refl _) b6),Mem.join_le b1 (Mem.le_trans b3 b2),Mem.le_trans b6 (Mem.le_trans b4 b2),⟨es,clock,l,#[],[], ?_, ?_,iS,cK,hp,he,List.nodup_nil,λj hj=>by simp at hj,rfl,rfl⟩,hsep⟩
  ·exact Mem.tG (Mem.i' ad (Mem.le_refl _) b3) _ _ hb
  ·exact Mem.tH _ _ _ _ ho
theorem Ai {it:Nat} {done:List (κ × α)} [hf:wH L it b κ α K R ag m done L0] (hd:Nat.blt d n=true) (hx:ev E x=some (.pointer (some ⟨it,0,none⟩))) 
  (h0:done.Perm m->TL r n P ops rest ⟨D,(d,.tuple #[.bool false])::E,L⟩ KK)
  (h1:∀ p cs,p∈m->(∀ q∈done,q.1≠p.1)->done.length < m.length->TL r n P ops rest ⟨D,(d,.tuple #[.bool true,K.enc p.1,ij ag cs])::E,na K R ag b it m (done++[p])::L0⟩ KK):
  TL r n P ops (⟨some d,.next x false,ty,pos,af,none⟩::rest) ⟨D,E,L⟩ KK:=
 ma rfl hd rfl (λ_ e=>by cases e) λW a w hh=>by
  obtain ⟨M,q,eW,hM,hq,a1,a2,ad,l1,l2,⟨es,clock,l,seen,js,hb,zf,iS,cK,hp,he,JB,BN,Dd,oy⟩,hsep⟩:=(hh.2.ay hf.g).ex
  have gu:w.heap[b]? =some (.map es clock):=hq _ _ (l1 _ _ hb)
  have OZ:w.heap[it]? =some (.mapIter (some b) clock seen clock):=hq _ _ (l1 _ _ zf)
  have I4:=(stamped_iff es clock).1 cK
  have hnd:ND l:=he.nd I4.2.2
  have fV:∀ (j:Nat) (e:MapEntry),es.toList[j]? =some e->(seen.contains e.born=true↔j∈js):=λj e hj=>by
   rw [Array.contains_iff_mem, <- Array.mem_toList_iff]
   constructor
   ·intro q'
    have:some e.born∈seen.toList.map some:=fY.2 ⟨_,q',rfl⟩
    rw [Dd] at this
    obtain ⟨j',qq,e2⟩:=fY.1 this
    have N_:j' < es.toList.length:=by rw [he.1]; exact BN j' qq
    rw [cj N_] at e2
    simp only [qI,kH] at e2
    have rZ:=I4.2.1
    rw [List.Nodup,xR] at rZ
    have kB:=(dX.1 hj).1
    have O0:j'=j:=by
     refine zM λajM=> ?_
     rcases Nat.lt_or_gt_of_ne ajM with cL | cL
     ·exact rZ j' j (by simpa using N_) (by simpa using kB) cL (by rw [Hi,Hi,e2, <- (dX.1 hj).2])
     ·exact rZ j j' (by simpa using kB) (by simpa using N_) cL (by rw [Hi,Hi,e2, <- (dX.1 hj).2])
    rw [<- O0]; exact qq
   ·intro qq
    have:(es.toList[j]?).map (·.born)∈js.map (λj=>(es.toList[j]?).map (·.born)):=fY.2 ⟨j,qq,rfl⟩
    rw [<- Dd,hj] at this
    obtain ⟨x,hx,e2⟩:=fY.1 this
    simp only [qI,kH] at e2
    rw [<- e2]; exact hx
  rcases run_next_at (P:=P) w ty it b clock clock seen es clock OZ gu cK.1 (fo _) with ⟨g0,Oa⟩ | ⟨e,vo,w1,ze,Oa⟩
  ·refine ⟨.tuple #[.bool false],w,L,by simp [execOp,hh.1.ev hx,Oa],hh.2,h0 ?_⟩
   have eH:=all_seen es seen g0
   have tW:js.Perm (List.range l.length):=(List.perm_ext_iff_of_nodup JB List.nodup_range).2 λj=>⟨λhj=>sC.2 (BN j hj),λhj=>by
    have kB:j < es.toList.length:=by rw [he.1]; exact sC.1 hj
    exact (fV j _ (cj kB)).1 (eH _ (Ef kB))⟩
   have h2:=tW.map (λj=>l[j]?)
   have h3:(List.range l.length).map (λj=>l[j]?)=l.map some:=by
    apply zP
    intro i
    by_cases hi:i < l.length
    ·simp [hi]
    ·simp [hi]
   rw [h3, <- oy] at h2
   have h4:=h2.filterMap id
   simp only [List.filterMap_map,Function.comp_def,id,List.filterMap_some] at h4
   exact h4.trans hp
  ·obtain ⟨oR,tj⟩:=mem_left vo
   obtain ⟨j,hj⟩:=od oR
   obtain ⟨p,lE,ajN⟩:=he.at_ hj
   have zg:j∉js:=λh=>by rw [(fV j e hj).2 h] at tj; cases tj
   obtain ⟨r1,r2,cs,r3,r4⟩:=ajN
   have hpd:∀ q∈done,q.1≠p.1:=λq h=>by
    have:some q∈done.map some:=fY.2 ⟨_,h,rfl⟩
    rw [oy] at this
    obtain ⟨j',qq,e2⟩:=fY.1 this
    have O0:j'≠j:=λe=>zg (e ▸ qq)
    have Do:=hnd
    rw [ND,xR] at Do
    have u1:=dX.1 lE
    have u2:=dX.1 e2
    rcases Nat.lt_or_gt_of_ne O0 with cL | cL
    ·have:=Do j' j u2.1 u1.1 cL
     rw [u2.2,u1.2] at this; exact this
    ·have:=Do j j' u1.1 u2.1 cL
     rw [u2.2,u1.2] at this; exact Ne.symm this
   refine ⟨.tuple #[.bool true,K.enc p.1,ij ag cs],setBlock w1 it (.mapIter (some b) clock (seen.push e.born) clock),na K R ag b it m (done++[p])::L0,by simp [execOp,hh.1.ev hx,Oa,r1,r4], ?_,h1 p cs (hp.mem_iff.1 (eA lE)) hpd (by
    have e1:done.length=js.length:=by have:=bi List.length oy; simpa using this
    have:=LE (l:=j::js) (n:=l.length) (vV.2 ⟨zg,JB⟩) (λx hx=>by rcases ig.1 hx with rfl | hx; exact (dX.1 lE).1; exact BN x hx)
    rw [e1, <- hp.length_eq]; simp only [dO] at this; omega)⟩
   have dt:bH W w (own it (.mapIter (some b) clock seen clock)::own b (.map es clock)::IN K R ag es.toList l::L0):=by
    refine ⟨⟨M,q,eW,hM,hq,Mem.one it (.mapIter (some b) clock seen clock),(Mem.one b (.map es clock)).join a2, ?_,Mem.C2 (l1 _ _ zf),Mem.join_le (Mem.C2 (l1 _ _ hb)) l2,Mem.CE _ _,Mem.one b (.map es clock),a2, ?_,Mem.tH _ _,Mem.tG ?_,Mem.CE _ _,Mem.emp,a2,Mem.iD _,Mem.iu _,Mem.le_refl _,he,hsep⟩,hh.2.os,hh.2.tape,hh.2.output,hh.2.size⟩
    ·intro i
     by_cases hi:i=it
     ·right
      subst hi
      have:a2 i=none:=by
       rcases ad i with h | h
       ·rw [zf] at h; cases h
       ·exact h
      simp [Mem.join,Mem.one,iS,this]
     ·left; simp [Mem.one,hi]
    all_goals
     intro i
     by_cases hi:i=b
     ·right
      subst hi
      rcases ad i with h | h
      ·rw [hb] at h; cases h
      ·exact h
     ·left; simp [Mem.one,hi]
   have eF:bH W w1 (own it (.mapIter (some b) clock seen clock)::own b (.map es clock)::IN K R ag es.toList l::L0):=by
    rcases ze with rfl | rfl
    ·exact dt
    ·exact dt.drew
   refine (vY (y:=.mapIter (some b) clock (seen.push e.born) clock) eF).ay λN k ⟨c1,c2,cd,m1,m2,tf,c3,c4,cd',m3,m4,hb1,c5,c6,cd2,m5,m6,iU,JC⟩=> ?_
   refine ⟨c1.join c3,c6,Mem.uH (Mem.i' cd (Mem.le_refl _) (Mem.le_trans m6 m4)) (Mem.i' cd' (Mem.le_refl _) m6),Mem.join_le m1 (Mem.le_trans m3 m2),Mem.le_trans m6 (Mem.le_trans m4 m2),⟨es,clock,l,seen.push e.born,js++[j],Mem.tG (Mem.i' cd (Mem.le_refl _) m3) _ _ hb1,Mem.tH _ _ _ _ tf,iS,cK,hp,iU, ?_, ?_, ?_, ?_⟩,JC⟩
   ·rw [He]
    exact ⟨JB,by simp,λx hx y hy=>by simp at hy; subst hy; exact λe=>zg (e ▸ hx)⟩
   ·intro x hx
    rcases gD.1 hx with hx | hx
    ·exact BN x hx
    ·simp at hx; subst hx; exact (dX.1 lE).1
   ·rw [Array.toList_push,kp,kp,Dd,List.map_singleton,List.map_singleton,hj]; rfl
   ·rw [kp,kp,oy]
    simp [lE]
theorem CF {it:Nat} {done:List (κ × α)} {p:κ × α} [hf:wH L it b κ α K R ag m (done++[p]) L0] (hd:Nat.blt d n=true) (hx:ev E x=some (.pointer (some ⟨it,0,none⟩))) 
  (h:∀ cs,K.ok p.1->TL r n P ops rest ⟨D,(d,.tuple #[K.enc p.1,ij ag cs])::E,is R p.2 cs::na K R ag b it m (done++[p])::L0⟩ KK):
  TL r n P ops (⟨some d,.entry x,ty,pos,af,none⟩::rest) ⟨D,E,L⟩ KK:=
 ma rfl hd rfl (λ_ e=>by cases e) λW a w hh=>by
  have hs:=hh.2.ay hf.g
  obtain ⟨M,q,eW,hM,hq,a1,a2,ad,l1,l2,hm,hsep⟩:=hs.ex
  have xg:=hm
  obtain ⟨es,clock,l,seen,js,hb,zf,iS,cK,hp,he,JB,BN,Dd,oy⟩:=xg
  have gu:w.heap[b]? =some (.map es clock):=hq _ _ (l1 _ _ hb)
  have OZ:w.heap[it]? =some (.mapIter (some b) clock seen clock):=hq _ _ (l1 _ _ zf)
  have I4:=(stamped_iff es clock).1 cK
  rcases List.eq_nil_or_concat js with rfl | ⟨js',j,rfl⟩
  ·simp at oy
  ·have eP:done.length=js'.length:=by have:=bi List.length oy; simp at this; exact this
   rw [List.concat_eq_append] at Dd oy BN
   have lE:l[j]? =some p:=by
    have h1:=bi List.getLast? oy
    simpa using h1.symm
   obtain ⟨e,O1⟩:∃ e,es.toList[j]? =some e:=⟨_,cj (by rw [he.1]; exact BN j (by simp))⟩
   have ai2:∃ s0:Array Nat,seen=s0.push e.born:=by
    have h1:=bi List.getLast? Dd
    simp only [kp,kq,List.map_nil,List.getLast?_append,List.getLast?_singleton,Option.some_or,O1,qI] at h1
    rcases List.eq_nil_or_concat seen.toList with h | ⟨t,y,h⟩
    ·rw [h] at h1; simp at h1
    ·rw [h] at h1
     simp at h1
     exact ⟨t.toArray,by rw [<- Array.toArray_toList (xs:=seen),h, <- h1]; simp⟩
   obtain ⟨s0,rfl⟩:=ai2
   have gR:=run_entry_at (P:=P) w it b clock s0 es clock e OZ gu (eA O1) I4.2.1
   obtain ⟨r1,r2,cs,r3,r4⟩:=he.2 j e p O1 lE
   exact ⟨.tuple #[K.enc p.1,ij ag cs],w,is R p.2 cs::na K R ag b it m (done++[p])::L0,by simp [execOp,hh.1.ev hx,gR,r1,r4],
    ⟨⟨M,q,eW,hM,hq,Mem.emp,q,Mem.iD _,Mem.iu _,Mem.le_refl _,r3,a1,a2,ad,l1,l2,hm,hsep⟩,hs.os,hs.tape,hs.output,hs.size⟩,h cs r2⟩
theorem abA {it:Nat} {R:bZ α} {m done:List (κ × α)} {p:κ × α} {f:α->Value} [hv:yT R f] [hf:wH L it b κ α K R false m (done++[p]) L0] (hd:Nat.blt d n=true) (hx:ev E x=some (.pointer (some ⟨it,0,none⟩))) 
  (h:K.ok p.1->(∃ M cs,R.fO M p.2 cs)->TL r n P ops rest ⟨D,(d,.tuple #[K.enc p.1,f p.2])::E,na K R false b it m (done++[p])::L0⟩ KK):
  TL r n P ops (⟨some d,.entry x,ty,pos,af,none⟩::rest) ⟨D,E,L⟩ KK:=CF hd hx λcs cX W a w hh=>by
 obtain ⟨M,k,_,_,_,h1,h2,_,_,_,hi,_⟩:=hh.2.ex
 have e:=hv.e _ _ _ hi
 rw [e] at hh
 exact h cX ⟨M,cs,hi⟩ W a w ⟨hh.1,hh.2.ay (am.drop _ _)⟩
theorem ago {done:List (κ × α)} {p:κ × α} (h:∀ q∈done,q.1≠p.1):((p.1,p.2)::fS done p.1).Perm (done++[p]):=by
 rw [uK (o9.2 h)]
 exact (D_ _ _).symm
theorem abB {it:Nat} {done:List (κ × α)}:am (na K R ag b it m done::L) (cy K R ag b m::L):=λM k ⟨h1,h2,hd,l1,l2,⟨es,clock,l,seen,js,hb,zf,iS,cK,hp,he,_⟩,hs⟩=>⟨h1,h2,hd,l1,l2,⟨es,clock,l,hb,cK,hp,he⟩,hs⟩
end
open Go
class jz (L:List HP) (k:Nat) (p:outParam HP) (R:outParam (List HP)):Prop where
 g:am L (p::R)
variable{L R:List HP}{p:HP}
instance {q:HP} {k:Nat} [h:jz L k p R]:jz (q::L) k p (q::R):=⟨(am.cons q h.g).trans (am.swap q _ R)⟩
theorem Ld {M:Mem} {B:List HP}:∀ {A:List HP} {h h1 h2:Mem},Sep A M h1->Sep B M h2->h1.lR h2->h1.le h->h2.le h->Sep (A++B) M h
 | [],h,h1,h2,_,hb,_,_,l2=>Sep.mono (Mem.le_refl _) l2 hb
 | p::A,h,h1,h2,⟨a1,a2,ad,m1,m2,hp,hs⟩,hb,hd,l1,l2=>by
  refine ⟨a1,a2.join h2, ?_,Mem.le_trans m1 l1,Mem.join_le (Mem.le_trans m2 l1) l2,hp,Ld (h:=a2.join h2) hs hb (Mem.i' hd m2 (Mem.le_refl _)) (Mem.tH _ _) (Mem.tG (Mem.i' hd m2 (Mem.le_refl _)))⟩
  exact Mem.o8 (Mem.uH (Mem.o8 ad) (Mem.o8 (Mem.i' hd m1 (Mem.le_refl _))))
theorem Sy {M:Mem} {B:List HP}:∀ {A:List HP} {h:Mem},Sep (A++B) M h->∃ h1 h2,h1.lR h2/\h1.le h/\h2.le h/\Sep A M h1/\Sep B M h2
 | [],h,hs=>⟨Mem.emp,h,Mem.iD _,Mem.iu _,Mem.le_refl _,trivial,hs⟩
 | p::A,h,⟨a1,a2,ad,m1,m2,hp,hs⟩=>by
  obtain ⟨b1,b2,bd,n1,n2,hA,hB⟩:=Sy hs
  refine ⟨a1.join b1,b2, ?_,Mem.join_le m1 (Mem.le_trans n1 m2),Mem.le_trans n2 m2,⟨a1,b1,Mem.i' ad (Mem.le_refl _) n1,Mem.tH _ _,Mem.tG (Mem.i' ad (Mem.le_refl _) n1),hp,hA⟩,hB⟩
  exact Mem.uH (Mem.i' ad (Mem.le_refl _) n2) bd
def oS {β:Type} (f:β->List HP):HP:=⟨λM h=>∃ x,Sep (f x) M h,λhM hh ⟨x,h⟩=>⟨x,Sep.mono hM hh h⟩⟩
theorem o_ {β:Type} {f:β->List HP} (x:β):am (f x++L) (oS f::L):=λM h hs=>by
 obtain ⟨h1,h2,hd,l1,l2,hA,hB⟩:=Sy hs
 exact ⟨h1,h2,hd,l1,l2,⟨x,hA⟩,hB⟩
variable{W w:World}
theorem sI {β:Type} {f:β->List HP} (h:bH W w (oS f::L)):∃ x,bH W w (f x++L):=by
 obtain ⟨M,k,hd,hM,hk,h1,h2,eW,l1,l2,⟨x,hx⟩,hs⟩:=h.ex
 exact ⟨x,⟨M,k,hd,hM,hk,Ld hx hs eW l1 l2⟩,h.os,h.tape,h.output,h.size⟩
section
variable {r:Option Nat} {n:Nat} {P:Program} {ops:Array Oper} {rest:List Oper} {K:St->Prop} {Q:Exit->St->Prop} {D:List Deferred} {E:cZ} {L L':List HP} {d:Nat} {ty:TypeId} {pos:String} {af:Array Edge}
theorem aP (k:Nat) [hf:jz L k p R] (h:TL r n P ops rest ⟨D,E,p::R⟩ K):TL r n P ops rest ⟨D,E,L⟩ K:=bX hf.g h
theorem cQ (k:Nat) {c:Code} [hf:jz L k p R] (h:T r n P c ⟨D,E,p::R⟩ Q):T r n P c ⟨D,E,L⟩ Q:=b_ hf.g h
theorem ahK {β:Type} {f:β->List HP} (h:∀ x,TL r n P ops rest ⟨D,E,f x++L⟩ K):TL r n P ops rest ⟨D,E,oS f::L⟩ K:=λW a w hh=>by
 obtain ⟨x,hx⟩:=sI hh.2
 exact h x W a w ⟨hh.1,hx⟩
theorem IP {β:Type} {f:β->List HP} {c:Code} (h:∀ x,T r n P c ⟨D,E,f x++L⟩ Q):T r n P c ⟨D,E,oS f::L⟩ Q:=λW a w hh=>by
 obtain ⟨x,hx⟩:=sI hh.2
 exact h x W a w ⟨hh.1,hx⟩
end
open Go Go.Proofs
structure aW where
 dot:Int × Int
 d7:List Int
 aK:ByteArray
 eO:Int
 di:ByteArray
 eZ:Int
 jy:Bool
structure bQ where
 kind:Int
 bC:Int
 cH:Int
 bj:Int × Int
 slot:Int
 en:dZ
 d_:List dj
 seen:List Int
 events:List aW
 jq:Int
abbrev fv (e:aW) (p:Option Addr × Nat):List Value:=[.int .i64 e.dot.1,.int .i64 e.dot.2,.slice p.1 e.d7.length p.2,.string e.aK,.int .i64 e.eO,.string e.di,.int .i64 e.eZ,.bool e.jy]
def kj (e:aW):Prop:=bP .i64 e.dot.1/\bP .i64 e.dot.2/\e.d7.length<=17592186043904/\e.aK.size<=cE/\bP .i64 e.eO/\e.di.size<=cE/\bP .i64 e.eZ
def bK:bZ aW:=mo 8 fv (λe p=>[sl (aI .i64) p.1 p.2 e.d7]) kj (λ_ _=>rfl) (λ_ _=>rfl)
abbrev WS:=List Int × Bool
def ct (most n:Int) (s:WS):WS:=if n < 0\/n > most then (s.1,true) else (s.1++fF n.toNat,s.2)
def jc (t:ByteArray) (s:WS):WS:=let u:=ct 65536 (t.size:Int) (s.1,s.2 || !decide (fy t)); (u.1++f4 t,u.2)
def rN (b:Bool) (s:WS):WS:=ct 1 (if b then 1 else 0) s
def kJ (v:List Int):Bool:=decide (0 < v.length/\v[v.length - 1]? =some 0)
def pt (v:List Int) (s:WS):WS:=v.foldl (λs n=>ct 2147483647 n s) s
def j6 (v:List Int) (s:WS):WS:=pt v (ct 7 (v.length:Int) (s.1,s.2 || kJ v))
def lS (a:Int × Int) (s:WS):WS:=ct 6 a.2 (ct 2147483647 a.1 s)
def nQ (x:dv) (s:WS):WS:=j6 x.cut (ct 2147483647 x.eO (jc x.aK (jc x.cV s)))
def pb (x:dv):Bool:=decide (x.cV≠sO) || decide (x.aK≠sO) || decide (x.eO≠0) || decide (0 < (x.cut.length:Int))
def mE (e:dZ) (s:WS):WS:=let u:=rN e.fe s; if e.fe=true then (u.1,u.2 || pb e.order) else nQ e.order u
def iZ (e:aW) (s:WS):WS:=rN e.jy (ct 1000 e.eZ (jc e.di (ct 2147483647 e.eO (jc e.aK (j6 e.d7 (ct 2147483647 e.dot.2 (ct 6 e.dot.1 s)))))))
def qR (v:dj) (s:WS):WS:=mE v.en (lS v.bj (ct 2147483647 v.slot s))
def nK (l:List dj) (s:WS):WS:=l.foldl (λs v=>qR v s) s
def pg (l:List aW) (s:WS):WS:=l.foldl (λs v=>iZ v s) s
def fT (m:bQ) (s:WS):WS:=ct 4611686018427387904 m.jq (pg m.events (ct 4096 (m.events.length:Int) (j6 m.seen (nK m.d_ (ct 4096 (m.d_.length:Int)
 (mE m.en (ct 2147483647 m.slot (lS m.bj (ct 6 m.cH (ct 6 m.bC (ct 255 m.kind s)))))))))))
def jd (x:dv):Nat:=x.cV.size+x.aK.size+10 * x.cut.length+60
def pm (e:aW):Nat:=e.aK.size+e.di.size+10 * e.d7.length+100
def C4 (v:dj):Nat:=jd v.en.order+50
def CS (l:List dj):Nat:=(l.map C4).sum
def CT (l:List aW):Nat:=(l.map pm).sum
def iP (m:bQ):Nat:=jd m.en.order+CS m.d_+10 * m.seen.length+CT m.events+200
theorem iE (most n:Int) (s:WS) (hm:most<=4611686018427387904):s.1.length<=(ct most n s).1.length/\(ct most n s).1.length<=s.1.length+10:=by
 unfold ct; split
 ·simp
 ·have:=Ah (x:=n.toNat) (by omega)
  simp; omega
theorem yd (t:ByteArray) (s:WS):s.1.length<=(jc t s).1.length/\(jc t s).1.length<=s.1.length+10+t.size:=by
 have:=iE 65536 (t.size:Int) (s.1,s.2 || !decide (fy t)) (by decide)
 simp only [jc,eQ,nE]; simp only at this; omega
theorem Le (b:Bool) (s:WS):s.1.length<=(rN b s).1.length/\(rN b s).1.length<=s.1.length+10:=iE _ _ s (by decide)
theorem LF:∀ (v:List Int) (s:WS),s.1.length<=(pt v s).1.length/\(pt v s).1.length<=s.1.length+10 * v.length
 | [],s=>by simp [pt]
 | n::v,s=>by
  have h1:=iE 2147483647 n s (by decide)
  have h2:=LF v (ct 2147483647 n s)
  simp only [pt,Ch,dO] at h2 ⊢; omega
theorem EI (v:List Int) (s:WS):s.1.length<=(j6 v s).1.length/\(j6 v s).1.length<=s.1.length+10+10 * v.length:=by
 have h1:=iE 7 (v.length:Int) (s.1,s.2 || kJ v) (by decide)
 have h2:=LF v (ct 7 (v.length:Int) (s.1,s.2 || kJ v))
 unfold j6; simp only at h1; omega
theorem H' (a:Int × Int) (s:WS):s.1.length<=(lS a s).1.length/\(lS a s).1.length<=s.1.length+20:=by
 have h1:=iE 2147483647 a.1 s (by decide)
 have h2:=iE 6 a.2 (ct 2147483647 a.1 s) (by decide)
 unfold lS; omega
theorem Sz (x:dv) (s:WS):s.1.length<=(nQ x s).1.length/\(nQ x s).1.length<=s.1.length+(jd x - 20):=by
 have h1:=yd x.cV s
 have h2:=yd x.aK (jc x.cV s)
 have h3:=iE 2147483647 x.eO (jc x.aK (jc x.cV s)) (by decide)
 have h4:=EI x.cut (ct 2147483647 x.eO (jc x.aK (jc x.cV s)))
 unfold nQ jd; omega
theorem Lg (e:dZ) (s:WS):s.1.length<=(mE e s).1.length/\(mE e s).1.length<=s.1.length+(jd e.order - 10):=by
 have h1:=Le e.fe s
 have h2:=Sz e.order (rN e.fe s)
 unfold mE; simp only []
 split
 ·simp only [jd]; omega
 ·simp only [jd] at h2 ⊢; omega
theorem RO (e:aW) (s:WS):s.1.length<=(iZ e s).1.length/\(iZ e s).1.length<=s.1.length+(pm e - 20):=by
 have h1:=iE 6 e.dot.1 s (by decide)
 have h2:=iE 2147483647 e.dot.2 (ct 6 e.dot.1 s) (by decide)
 have h3:=EI e.d7 (ct 2147483647 e.dot.2 (ct 6 e.dot.1 s))
 have h4:=yd e.aK (j6 e.d7 (ct 2147483647 e.dot.2 (ct 6 e.dot.1 s)))
 have h5:=iE 2147483647 e.eO (jc e.aK (j6 e.d7 (ct 2147483647 e.dot.2 (ct 6 e.dot.1 s)))) (by decide)
 have h6:=yd e.di (ct 2147483647 e.eO (jc e.aK (j6 e.d7 (ct 2147483647 e.dot.2 (ct 6 e.dot.1 s)))))
 have h7:=iE 1000 e.eZ (jc e.di (ct 2147483647 e.eO (jc e.aK (j6 e.d7 (ct 2147483647 e.dot.2 (ct 6 e.dot.1 s)))))) (by decide)
 have h8:=Le e.jy (ct 1000 e.eZ (jc e.di (ct 2147483647 e.eO (jc e.aK (j6 e.d7 (ct 2147483647 e.dot.2 (ct 6 e.dot.1 s)))))))
 unfold iZ pm; omega
theorem abC (v:dj) (s:WS):s.1.length<=(qR v s).1.length/\(qR v s).1.length<=s.1.length+(C4 v - 10):=by
 have h1:=iE 2147483647 v.slot s (by decide)
 have h2:=H' v.bj (ct 2147483647 v.slot s)
 have h3:=Lg v.en (lS v.bj (ct 2147483647 v.slot s))
 unfold qR C4; simp only [jd] at h3 ⊢; omega
theorem KR:∀ (l:List dj) (s:WS),s.1.length<=(nK l s).1.length/\(nK l s).1.length<=s.1.length+CS l
 | [],s=>by simp [nK,CS]
 | v::l,s=>by
  have h1:=abC v s
  have h2:=KR l (qR v s)
  simp only [nK,Ch,CS,kq,zS] at h2 ⊢; omega
theorem KS:∀ (l:List aW) (s:WS),s.1.length<=(pg l s).1.length/\(pg l s).1.length<=s.1.length+CT l
 | [],s=>by simp [pg,CT]
 | v::l,s=>by
  have h1:=RO v s
  have h2:=KS l (iZ v s)
  simp only [pg,Ch,CT,kq,zS] at h2 ⊢; omega
abbrev JD (b:Nat) (s:WS) (p:Option Addr × Nat):List HP:=[cells b [.slice p.1 s.1.length p.2,.bool s.2] 412,aN (aI .u8) 5 p.1 p.2 s.1]
def wr (b:Nat) (s:WS):HP:=oS (JD b s)
section
variable {r:Option Nat} {n:Nat} {P:Program} {ops:Array Oper} {rest:List Oper} {K:St->Prop} {Q:Exit->St->Prop} {D:List Deferred} {E:cZ} {L L':List HP} {b:Nat} {s:WS}
theorem Fz {c:Code} (h:∀ A c',T r n P c ⟨D,E,cells b [.slice A s.1.length c',.bool s.2] 412::aN (aI .u8) 5 A c' s.1::L⟩ Q):T r n P c ⟨D,E,wr b s::L⟩ Q:=IP (f:=JD b s) λp=>h p.1 p.2
theorem ai3 (h:∀ A c',TL r n P ops rest ⟨D,E,cells b [.slice A s.1.length c',.bool s.2] 412::aN (aI .u8) 5 A c' s.1::L⟩ K):TL r n P ops rest ⟨D,E,wr b s::L⟩ K:=ahK (f:=JD b s) λp=>h p.1 p.2
theorem Ac {A:Option Addr} {c:Nat}:am (cells b [.slice A s.1.length c,.bool s.2] 412::aN (aI .u8) 5 A c s.1::L) (wr b s::L):=o_ (f:=JD b s) (A,c)
end
variable{b:Nat}{s:WS}
instance:jz (wr b s::L) b (wr b s) L:=⟨am.refl _⟩
open Go Go.Proofs Go.Proofs.Tryz
theorem ahL {n:Int} (h0:0<=n) (h1:n < 18446744073709551616):IntKind.u64.wrap n=((n.toNat:Nat):Int):=by
 rw [show n=((n.toNat:Nat):Int) by omega,zQ,yb (by omega)]
theorem mB (most n:Int) (hn:bP .i64 n) (hm:most<=4611686018427387904) (hb:s.1.length+10<=140737488355328):Fn prog 288 #[.pointer (some ⟨b,0,none⟩),.int .i64 n,.int .i64 most] (wr b s::L) (λv L'=>v=.tuple #[]/\L'=wr b (ct most n s)::L):=by
 have hn:=i64In hn
 refine aH func288 J J J J<|Fz λA c=>ar<|aa<|jJ 7 12 (n < 0\/n > most) ?_ ?_
 ·refine Y J<|ab J J (bU J J)<|Y J<|dl 8 J (λh8=> ?_) (λh8=> ?_)
  ·refine ah J<|ah J<|ah J<|aA J<|dH J ?_ (by repeat (first | exact dI | refine dJ rfl ?_)) al
   exact bi Value.bool (dV (by omega)).symm
  refine aj J<|Y J<|aj J<|Y J<|aj J<|ab J J (eE J J)<|aA J<|dH J ?_ (by repeat (first | exact dI | refine dJ rfl ?_)) al
  exact bi Value.bool (gX.2 (by omega))
 refine O<|bz J (λf2=> ?_) (λf2=> ?_)
 ·have hw:ct most n s=(s.1,true):=by rw [ct,if_pos f2]
  refine aa<|Y J<|aS J<|ao J<|aE J J<|O<|av<|aU ?_
  rw [hw]
  exact aF.ay (Ac (s:=(s.1,true)))<|kR J
 have hw:ct most n s=(s.1++fF n.toNat,s.2):=by rw [ct,if_neg f2]
 have hg:=Ah (x:=n.toNat) (by omega)
 refine az<|ai<|i5 (cells b [.slice A s.1.length c,.bool s.2] 412::[]) [11] [0,2,4,6,8,10,12,15,17,18,20,23] (by kernel_rfl) al<|aq J J<|aq J J<|aL J J<|aw J J<|aG J J J<|aq J J<|ak J J (lO J)<|er 22 (v':=.int .u64 ((n.toNat:Nat):Int)) J (by rw [ahL (by omega) (by omega)])<|an J<|aJ J J (RN n.toNat (by omega) _) ?_
 rintro _ _ ⟨xp,xq,rfl,rfl⟩
 refine bF<|au<|an J<|fi J J J J J slk (by (try simp only [eQ,dO,ej]); omega) λzh zj=>au<|aL J J<|aw J J<|an J<|aE J J<|gZ J<|aR ?_
 rw [hw]
 exact aF.ay (Ac (s:=(s.1++fF n.toNat,s.2)))<|ei J
theorem HL (t:ByteArray) (ht:t.size<=cE) (hb:s.1.length+10+t.size<=140737488355328):Fn prog 370 #[.pointer (some ⟨b,0,none⟩),.string t] (wr b s::L) (λv L'=>v=.tuple #[]/\L'=wr b (jc t s)::L):=by
 have hl:=iE 65536 (t.size:Int) (s.1,s.2 || !decide (fy t)) (by decide)
 simp only at hl
 refine aH func370 J J J J<|Fz λA c=>aa<|Y J<|Y J<|aS J<|ao J<|ax J J<|jJ 5 13 (s.2=true\/¬ fy t) ?_ ?_
 ·refine Y J<|nH 9 J (λh9=> ?_) (λh9=> ?_)
  ·refine ah J<|ah J<|ah J<|aA J<|dH J ?_ (by repeat (first | exact dI | refine dJ rfl ?_)) al
   exact bi Value.bool (dV (by simp [*])).symm
  refine aj J<|Y J<|aj J<|aB J J (rH _ t ht)<|aj J<|ab J J (iF J)<|aA J<|dH J ?_ (by repeat (first | exact dI | refine dJ rfl ?_)) al
  exact bi Value.bool (gX.2 (by simp [*]))
 refine br 13 (v':=.bool (s.2 || !decide (fy t))) J (by cases s.2 <;> simp)<|aS J<|ao J<|aE J J<|bX (Ac (s:=(s.1,s.2 || !decide (fy t))))<|O<|aa<|Y J<|Y J<|ab J J (uI J)<|aB J J (mB 65536 (t.size:Int) (da (by simp only [cE] at ht; omega)) (by decide) (by simp only; omega)) ?_
 generalize hu:ct 65536 (t.size:Int) (s.1,s.2 || !decide (fy t))=u at *
 refine O<|Fz λA2 c2=>aQ<|Y J<|Y J<|aS J<|ao J<|ax J J<|Y J<|Kt J J J J (by (try simp only [eQ,dO,ej]); omega) λA26 c26=>aS J<|ao J<|aE J J<|O<|aF.ay (Ac (s:=(u.1++f4 t,u.2))) ?_
 rw [show (u.1++f4 t,u.2)=jc t s by rw [jc,hu]]
 exact ei J
theorem Rj (t:Bool) (hb:s.1.length+10<=140737488355328):Fn prog 369 #[.pointer (some ⟨b,0,none⟩),.bool t] (wr b s::L) (λv L'=>v=.tuple #[]/\L'=wr b (rN t s)::L):=by
 refine aH func369 J J J J<|ar<|aa<|Y J<|O<|gF J (λh4=> ?_) (λh4=> ?_)
 ·subst h4
  refine aa<|Y J<|aB J J (mB 1 1 (by decide) (by decide) hb)<|O<|av<|aU ?_
  rw [show ct 1 1 s=rN true s from rfl]
  exact kR J
 subst h4
 refine az<|ai<|aQ<|Y J<|aB J J (mB 1 0 (by decide) (by decide) hb)<|O ?_
 rw [show ct 1 0 s=rN false s from rfl]
 exact ei J
variable{v:List Int}
theorem abD {n:Int} (h:v[i]? =some n):pt (v.take (i+1)) s=ct 2147483647 n (pt (v.take i) s):=by
 rw [qQ h,pt,Ec]; rfl
variable{A:Option Addr}{c:Nat}
theorem KA (hk:a_ L (aI .i64) A c v) (hb:s.1.length+10+10 * v.length<=140737488355328):Fn prog 292 #[.pointer (some ⟨b,0,none⟩),.slice A v.length c] (wr b s::L) (λr L'=>r=.tuple #[]/\L'=wr b (j6 v s)::L):=by
 have hl:=iE 7 (v.length:Int) (s.1,s.2 || kJ v) (by decide)
 simp only at hl
 refine aH func292 J J J J<|Fz λA1 c1=>aa<|Y J<|Y J<|aS J<|ao J<|ax J J<|jJ 14 24 (s.2=true\/kJ v=true) ?_ ?_
 ·refine Y J<|nH 11 J (λgJ=> ?_) (λgJ=> ?_)
  ·refine ah J<|ah J<|ah J<|ah J<|g8 J J J<|g8 J J J<|g8 J J J<|g8 J J J<|g8 J J J<|g8 J J J<|g8 J J J<|ah J<|aA J<|dH J ?_ (by repeat (first | exact dI | refine dJ rfl ?_)) al
   exact bi Value.bool (dV (by simp [*])).symm
  refine aj J<|Y J<|aj J<|ab J J (bY J)<|aj J<|ab J J (eE J J)<|aj J<|Y J<|dl 15 J (λgU=> ?_) (λgU=> ?_)
  ·refine aj J<|Y J<|aj J<|Y J<|aj J<|ab J J (bY J)<|aj J<|ab J J (jb J J (by omega))<|aj J ?_
   obtain ⟨u,hu⟩:∃ u,v[v.length - 1]? =some u:=⟨_,cj (by omega)⟩
   refine br 19 (v':=.int .i64 ((v.length - 1:Nat):Int)) J (by congr 1; omega)<|uG J J J hk.tail.tail hu λalC alD alE=>aj J<|ab J J (rG J J)<|aj J<|ab J J (ce J J)<|aj J<|aA J<|aA J<|dH J ?_ (by repeat (first | exact dI | refine dJ rfl ?_)) al
   exact bi Value.bool (gX.2 (by simp [kJ,hu,gJ]; omega))
  refine ah J<|ah J<|ah J<|ah J<|ah J<|ah J<|ah J<|aj J<|aA J<|aA J<|dH J ?_ (by repeat (first | exact dI | refine dJ rfl ?_)) al
  exact bi Value.bool (cJ (by simp [kJ,gJ]; omega)).symm
 refine br 24 (v':=.bool (s.2 || kJ v)) J (by cases s.2 <;> simp)<|aS J<|ao J<|aE J J<|bX (Ac (s:=(s.1,s.2 || kJ v)))<|O<|aa<|Y J<|Y J<|ab J J (bY J)<|aB J J (mB 7 (v.length:Int) (da (by omega)) (by decide) (by simp only; omega)) ?_
 generalize hu:ct 7 (v.length:Int) (s.1,s.2 || kJ v)=u at *
 refine O<|aa<|Y J<|ab J J (bY J)<|Y J<|O<|aX<|cY (σ:=Nat) [0,31,32] (λi=>i<=v.length) (λi kv=>(33,.int .i64 (i:Int))::kv) (λi=>wr b (pt (v.take i) u)::L) (λi=>v.length - i) (0) J (dF _) (bu.g (L':=wr b u::L)) (dc J) λi hi=>aa<|ab J J (bU J J)<|O<|ar<|bz J (λmq=> ?_) (λmq=> ?_)
 ·refine az<|ai<|ar<|aX<|aa ?_
  obtain ⟨q,hq⟩:∃ q,v[i]? =some q:=⟨_,cj (by omega)⟩
  have eG:=LF (v.take i) u
  rw [gq,Nat.min_eq_left (by omega)] at eG
  have jF:=abD (s:=u) hq
  refine uG J J J hk.tail hq λajO alF alG=>ab J J (rG J J)<|ae J<|O<|aQ<|Y J<|Y J<|aP b<|aB J J (mB 2147483647 q ajO (by decide) (by omega)) ?_
  rw [<- jF]
  refine O<|bA<|ai<|aQ<|ab J J (bE J J (by omega))<|cz 40 J<|Y J<|O<|ai ?_
  exact ⟨i+1,(by omega),by omega,bO rfl⟩
 refine cw<|aY<|aY<|cu ?_
 have e:v.take i=v:=gQ (by omega)
 rw [e,show pt v u=j6 v s by rw [j6,hu]]
 exact ei J
theorem QW (a:Int × Int) (h1:bP .i64 a.1) (h2:bP .i64 a.2) (hb:s.1.length+20<=140737488355328):Fn prog 289 #[.pointer (some ⟨b,0,none⟩),.agg #[.int .i64 a.1,.int .i64 a.2]] (wr b s::L) (λv L'=>v=.tuple #[]/\L'=wr b (lS a s)::L):=by
 have hl:=iE 2147483647 a.1 s (by decide)
 refine aH func289 J J J J<|aa<|bS J J J λb3=>O<|aa<|Y J<|ao J<|ax J J<|aP b<|aB J J (mB 2147483647 a.1 h1 (by decide) (by omega))<|O<|aQ<|Y J<|ao J<|ax J J<|aP b<|aB J J (mB 6 a.2 h2 (by decide) (by omega))<|O ?_
 rw [<- lS]
 exact ei J
theorem RP (x:dv) (hx:fC x) (hk:a_ L (aI .i64) A c x.cut) (hb:s.1.length+jd x<=140737488355328):Fn prog 343 #[.pointer (some ⟨b,0,none⟩),.agg (List.toArray (pj x (A,c)))] (wr b s::L) (λv L'=>v=.tuple #[]/\L'=wr b (nQ x s)::L):=by
 have h1:=yd x.cV s
 have h2:=yd x.aK (jc x.cV s)
 have h3:=iE 2147483647 x.eO (jc x.aK (jc x.cV s)) (by decide)
 simp only [jd] at hb
 refine aH func343 J J J J<|aa<|bS J J J λb3=>O<|aa<|Y J<|ao J<|ax J J<|aP b<|aB J J (HL x.cV hx.1 (by omega))<|O<|aa<|Y J<|ao J<|ax J J<|aP b<|aB J J (HL x.aK hx.2.1 (by omega))<|O<|aa<|Y J<|ao J<|ax J J<|aP b<|aB J J (mB 2147483647 x.eO hx.2.2.1 (by decide) (by omega))<|O<|aQ<|Y J<|ao J<|ax J J<|aP b<|aB J J (KA hk.tail (by omega))<|O ?_
 rw [<- nQ]
 exact ei J
theorem Rk (e:dZ) (hx:fC e.order) (hk:a_ L (aI .i64) A c e.order.cut) (hb:s.1.length+10+jd e.order<=140737488355328):Fn prog 290 #[.pointer (some ⟨b,0,none⟩),.agg (List.toArray (hO e (A,c)))] (wr b s::L) (λv L'=>v=.tuple #[]/\L'=wr b (mE e s)::L):=by
 have h1:=Le e.fe s
 refine aH func290 J J J J<|aa<|bS J J J λb3=>O<|aa<|Y J<|ao J<|ax J J<|aP b<|aB J J (Rj e.fe (by omega)) ?_
 generalize hu:rN e.fe s=u at *
 refine O<|ar<|aa<|ao J<|ax J J<|ab J J (ff J)<|O<|gF J (λf0=> ?_) (λf0=> ?_)
 ·have hw:mE e s=nQ e.order u:=by simp only [mE,hu]; rw [if_neg]; simpa using f0
  refine aa<|Y J<|ao J<|bD J J<|aP b<|aB J J (RP (s:=u) e.order hx hk.tail (by omega))<|O<|av<|aU ?_
  rw [hw]
  exact kR J
 have hw:mE e s=(u.1,u.2 || pb e.order):=by simp only [mE,hu]; rw [if_pos]; simpa using f0
 refine az<|ai<|cQ b<|Fz λA2 c2=>aQ<|Y J<|Y J<|aS J<|ao J<|ax J J<|jJ 25 44 (u.2=true\/pb e.order=true) ?_ ?_
 ·refine Y J<|nH 20 J (λjU=> ?_) (λjU=> ?_)
  ·refine ah J<|ah J<|ah J<|ah J<|aA J<|Y J<|ah J<|ah J<|ah J<|ah J<|aA J<|Y J<|ah J<|ah J<|ah J<|ah J<|aA J<|Y J<|ah J<|ah J<|ah J<|ah J<|ah J<|aA J<|dH J ?_ (by repeat (first | exact dI | refine dJ rfl ?_)) al
   exact bi Value.bool (dV (by simp [*,pb,sO])).symm
  refine aj J<|ao J<|aj J<|ao J<|aj J<|ax J J<|aj J<|ab J J (yh J J)<|aA J<|Y J<|dl 26 J (λno=> ?_) (λno=> ?_)
  ·refine ah J<|ah J<|ah J<|ah J<|aA J<|Y J<|ah J<|ah J<|ah J<|ah J<|aA J<|Y J<|ah J<|ah J<|ah J<|ah J<|ah J<|aA J<|dH J ?_ (by repeat (first | exact dI | refine dJ rfl ?_)) al
   exact bi Value.bool (dV (by simp [*,pb,sO])).symm
  refine aj J<|ao J<|aj J<|ao J<|aj J<|ax J J<|aj J<|ab J J (yh J J)<|aA J<|Y J<|dl 32 J (λh32=> ?_) (λh32=> ?_)
  ·refine ah J<|ah J<|ah J<|ah J<|aA J<|Y J<|ah J<|ah J<|ah J<|ah J<|ah J<|aA J<|dH J ?_ (by repeat (first | exact dI | refine dJ rfl ?_)) al
   exact bi Value.bool (dV (by simp [*,pb,sO])).symm
  refine aj J<|ao J<|aj J<|ao J<|aj J<|ax J J<|aj J<|ab J J (dB J J)<|aA J<|Y J<|dl 38 J (λr9=> ?_) (λr9=> ?_)
  ·refine ah J<|ah J<|ah J<|ah J<|ah J<|aA J<|dH J ?_ (by repeat (first | exact dI | refine dJ rfl ?_)) al
   exact bi Value.bool (dV (by simp [*,pb,sO])).symm
  refine aj J<|ao J<|aj J<|ao J<|aj J<|ax J J<|aj J<|ab J J (bY J)<|aj J<|ab J J (eE J J)<|aA J<|dH J ?_ (by repeat (first | exact dI | refine dJ rfl ?_)) al
  exact bi Value.bool (gX.2 (by simp [*,pb,sO]))
 refine br 44 (v':=.bool (u.2 || pb e.order)) J (by cases u.2 <;> simp)<|aS J<|ao J<|aE J J<|bX (Ac (s:=(u.1,u.2 || pb e.order)))<|O ?_
 rw [hw]
 exact ei J
theorem Rl (e:aW) (hx:kj e) (hk:a_ L (aI .i64) A c e.d7) (hb:s.1.length+pm e<=140737488355328):Fn prog 293 #[.pointer (some ⟨b,0,none⟩),.agg (List.toArray (fv e (A,c)))] (wr b s::L) (λv L'=>v=.tuple #[]/\L'=wr b (iZ e s)::L):=by
 have h1:=iE 6 e.dot.1 s (by decide)
 have h2:=iE 2147483647 e.dot.2 (ct 6 e.dot.1 s) (by decide)
 have h3:=EI e.d7 (ct 2147483647 e.dot.2 (ct 6 e.dot.1 s))
 have h4:=yd e.aK (j6 e.d7 (ct 2147483647 e.dot.2 (ct 6 e.dot.1 s)))
 have h5:=iE 2147483647 e.eO (jc e.aK (j6 e.d7 (ct 2147483647 e.dot.2 (ct 6 e.dot.1 s)))) (by decide)
 have h6:=yd e.di (ct 2147483647 e.eO (jc e.aK (j6 e.d7 (ct 2147483647 e.dot.2 (ct 6 e.dot.1 s)))))
 have h7:=iE 1000 e.eZ (jc e.di (ct 2147483647 e.eO (jc e.aK (j6 e.d7 (ct 2147483647 e.dot.2 (ct 6 e.dot.1 s)))))) (by decide)
 simp only [pm] at hb
 obtain ⟨q1,q2,q3,q4,q5,q6,q7⟩:=hx
 refine aH func293 J J J J<|aa<|bS J J J λb3=>O<|aa<|Y J<|ao J<|ao J<|ax J J<|aP b<|aB J J (mB 6 e.dot.1 q1 (by decide) (by omega))<|O<|aa<|Y J<|ao J<|ao J<|ax J J<|aP b<|aB J J (mB 2147483647 e.dot.2 q2 (by decide) (by omega))<|O<|aa<|Y J<|ao J<|ax J J<|aP b<|aB J J (KA hk.tail (by omega))<|O<|aa<|Y J<|ao J<|ax J J<|aP b<|aB J J (HL e.aK q4 (by omega))<|O<|aa<|Y J<|ao J<|ax J J<|aP b<|aB J J (mB 2147483647 e.eO q5 (by decide) (by omega))<|O<|aa<|Y J<|ao J<|ax J J<|aP b<|aB J J (HL e.di q6 (by omega))<|O<|aa<|Y J<|ao J<|ax J J<|aP b<|aB J J (mB 1000 e.eZ q7 (by decide) (by omega))<|O<|aQ<|Y J<|ao J<|ax J J<|aP b<|aB J J (Rj e.jy (by omega))<|O ?_
 rw [<- iZ]
 exact ei J
theorem aao (v:dj) (hx:pU v) (hk:a_ L (aI .i64) A c v.en.order.cut) (hb:s.1.length+C4 v<=140737488355328):Fn prog 291 #[.pointer (some ⟨b,0,none⟩),.agg (List.toArray (tT v (A,c)))] (wr b s::L) (λr L'=>r=.tuple #[]/\L'=wr b (qR v s)::L):=by
 have h1:=iE 2147483647 v.slot s (by decide)
 have h2:=H' v.bj (ct 2147483647 v.slot s)
 simp only [C4] at hb
 obtain ⟨q1,q2,q3,q4⟩:=hx
 refine aH func291 J J J J<|aa<|bS J J J λb3=>O<|aa<|Y J<|ao J<|ax J J<|aP b<|aB J J (mB 2147483647 v.slot q1 (by decide) (by omega))<|O<|aa<|Y J<|ao J<|bD J J<|aP b<|aB J J (QW v.bj q2 q3 (by omega))<|O<|aQ<|Y J<|ao J<|bD J J<|aP b<|aB J J (Rk v.en q4 hk.tail (by omega))<|O ?_
 rw [<- qR]
 exact ei J
open Go Go.Proofs Go.Proofs.Tryz
structure gg where
 cut:Option Addr × Nat
 d_:Option Addr × Nat
 seen:Option Addr × Nat
 events:Option Addr × Nat
abbrev dq (m:bQ) (p:gg):List Value:=[.int .i64 m.kind,.int .i64 m.bC,.int .i64 m.cH,.int .i64 m.bj.1,.int .i64 m.bj.2,.int .i64 m.slot,.bool m.en.fe,.string m.en.order.cV,.string m.en.order.aK,.int .i64 m.en.order.eO,.slice p.cut.1 m.en.order.cut.length p.cut.2,
 .slice p.d_.1 m.d_.length p.d_.2,.slice p.seen.1 m.seen.length p.seen.2,.slice p.events.1 m.events.length p.events.2,.int .i64 m.jq]
structure fN (L:List HP) (m:bQ) (p:gg):Prop where
 cut:a_ L (aI .i64) p.cut.1 p.cut.2 m.en.order.cut
 d_:a_ L dz p.d_.1 p.d_.2 m.d_
 seen:a_ L (aI .i64) p.seen.1 p.seen.2 m.seen
 events:a_ L bK p.events.1 p.events.2 m.events
structure gf (m:bQ):Prop where
 kind:bP .i64 m.kind
 bC:bP .i64 m.bC
 cH:bP .i64 m.cH
 b1:bP .i64 m.bj.1
 b2:bP .i64 m.bj.2
 slot:bP .i64 m.slot
 en:fC m.en.order
 jq:bP .i64 m.jq
variable{m:bQ}
theorem fN.tail {p0:HP} {p:gg} (h:fN L m p):fN (p0::L) m p:=⟨h.cut.tail,h.d_.tail,h.seen.tail,h.events.tail⟩
theorem Zj {v:List dj} {n:dj} (h:v[i]? =some n):nK (v.take (i+1)) s=qR n (nK (v.take i) s):=by
 rw [qQ h,nK,Ec]; rfl
theorem Zk {v:List aW} {n:aW} (h:v[i]? =some n):pg (v.take (i+1)) s=iZ n (pg (v.take i) s):=by
 rw [qQ h,pg,Ec]; rfl
variable{α:Type}
theorem SA (f:α->Nat) {l:List α} {x:α} (h:l[i]? =some x):((l.take i).map f).sum+f x<=(l.map f).sum:=by
 have h1:l=l.take i++x::l.drop (i+1):=by rw [<- yp h,qE]
 have h2:(l.map f).sum=((l.take i++x::l.drop (i+1)).map f).sum:=by rw [<- h1]
 rw [h2]; simp only [kp,kq,List.sum_append,zS]; omega
set_option maxRecDepth 10000 in
theorem adb (m:bQ) (p:gg) (hx:gf m) (hk:fN L m p) (hb:s.1.length+iP m<=140737488355328):Fn prog 185 #[.pointer (some ⟨b,0,none⟩),.agg (List.toArray (dq m p))] (wr b s::L) (λv L'=>v=.tuple #[]/\L'=wr b (fT m s)::L):=by
 have h1:=iE 255 m.kind s (by decide)
 have h2:=iE 6 m.bC (ct 255 m.kind s) (by decide)
 have h3:=iE 6 m.cH (ct 6 m.bC (ct 255 m.kind s)) (by decide)
 have h4:=H' m.bj (ct 6 m.cH (ct 6 m.bC (ct 255 m.kind s)))
 have h5:=iE 2147483647 m.slot (lS m.bj (ct 6 m.cH (ct 6 m.bC (ct 255 m.kind s)))) (by decide)
 have h6:=Lg m.en (ct 2147483647 m.slot (lS m.bj (ct 6 m.cH (ct 6 m.bC (ct 255 m.kind s)))))
 generalize hu:mE m.en (ct 2147483647 m.slot (lS m.bj (ct 6 m.cH (ct 6 m.bC (ct 255 m.kind s)))))=u at h6
 have h7:=iE 4096 (m.d_.length:Int) u (by decide)
 generalize tn:ct 4096 (m.d_.length:Int) u=u2 at h7
 have h8:=KR m.d_ u2
 have h9:=EI m.seen (nK m.d_ u2)
 have f0:=iE 4096 (m.events.length:Int) (j6 m.seen (nK m.d_ u2)) (by decide)
 generalize WM:ct 4096 (m.events.length:Int) (j6 m.seen (nK m.d_ u2))=u3 at f0
 have gJ:=KS m.events u3
 have I5:fT m s=ct 4611686018427387904 m.jq (pg m.events u3):=by rw [<- WM, <- tn, <- hu]; rfl
 have cs:jd m.en.order=m.en.order.cV.size+m.en.order.aK.size+10 * m.en.order.cut.length+60:=rfl
 simp only [iP] at hb
 refine aH func185 J J J J<|hk.d_.tail.lens λza=>hk.events.tail.lens λn3=> ?_
 simp only [cE] at za n3
 refine aa<|bS J J J λb3=>O<|aa<|Y J<|ao J<|ax J J<|aP b<|aB J J (mB 255 m.kind hx.kind (by decide) (by omega))<|O<|aa<|Y J<|ao J<|ax J J<|aP b<|aB J J (mB 6 m.bC hx.bC (by decide) (by omega))<|O<|aa<|Y J<|ao J<|ax J J<|aP b<|aB J J (mB 6 m.cH hx.cH (by decide) (by omega))<|O<|aa<|Y J<|ao J<|bD J J<|aP b<|aB J J (QW m.bj hx.b1 hx.b2 (by omega))<|O<|aa<|Y J<|ao J<|ax J J<|aP b<|aB J J (mB 2147483647 m.slot hx.slot (by decide) (by omega))<|O<|aa<|Y J<|ao J<|bD J J<|aP b<|aB J J (Rk m.en hx.en hk.cut.tail (by omega)) ?_
 rw [hu]
 refine O<|aa<|Y J<|ao J<|ax J J<|ab J J (bY J)<|aP b<|aB J J (mB 4096 (m.d_.length:Int) (da (by omega)) (by decide) (by omega)) ?_
 rw [tn]
 refine O<|ar<|aa<|ao J<|ax J J<|ab J J (bY J)<|Y J<|O<|aX<|cY (σ:=Nat) [0,3,38,39] (λi=>i<=m.d_.length) (λi kv=>(40,.int .i64 (i:Int))::kv) (λi=>wr b (nK (m.d_.take i) u2)::cells b3 (dq m p) 174::L) (λi=>m.d_.length - i) (0) J (dF _) (bu.g (L':=wr b u2::cells b3 (dq m p) 174::L)) (dc J) λi hi=>aa<|ab J J (bU J J)<|O<|ar<|bz J (λue=> ?_) (λue=> ?_)
 ·refine az<|ai<|ar<|aX<|aa ?_
  obtain ⟨q,hq⟩:∃ q,m.d_[i]? =some q:=⟨_,cj (by omega)⟩
  have eG:=KR (m.d_.take i) u2
  have JC:=SA C4 hq
  have jF:=Zj (s:=u2) hq
  refine EE J J J hk.d_.tail.tail hq λalH alI alJ=>Nw λpq cX=> ?_
  simp only [dL,dm]
  refine ab J J (uD (vs:=tT q pq) J J)<|bB J J λb5=>aE J J<|O<|aQ<|Y J<|bD J J<|aP b<|aB J J (aao q cX (A:=pq.1) (c:=pq.2) slk (by simp only [CS] at eG hb ⊢; omega)) ?_
  rw [<- jF]
  refine O<|bA<|ai<|aQ<|ab J J (bE J J (by omega))<|cz 47 J<|Y J<|O<|ai ?_
  exact ⟨i+1,(by omega),by omega,bO rfl⟩
 refine cw<|aY<|aY<|cu<|ai ?_
 have e:m.d_.take i=m.d_:=gQ (by omega)
 rw [e]
 refine aa<|Y J<|ao J<|ax J J<|aP b<|aB J J (KA hk.seen.tail (by omega))<|O<|aa<|Y J<|ao J<|ax J J<|ab J J (bY J)<|aP b<|aB J J (mB 4096 (m.events.length:Int) (da (by omega)) (by decide) (by omega)) ?_
 rw [WM]
 refine O<|ar<|aa<|ao J<|ax J J<|ab J J (bY J)<|Y J<|O<|aX<|cY (σ:=Nat) [0,3,58,59] (λi=>i<=m.events.length) (λi kv=>(60,.int .i64 (i:Int))::kv) (λi=>wr b (pg (m.events.take i) u3)::cells b3 (dq m p) 174::L) (λi=>m.events.length - i) (0) J (dF _) (bu.g (L':=wr b u3::cells b3 (dq m p) 174::L)) (dc J) λi hi=>aa<|ab J J (bU J J)<|O<|ar<|bz J (λh61=> ?_) (λh61=> ?_)
 ·refine az<|ai<|ar<|aX<|aa ?_
  obtain ⟨q,hq⟩:∃ q,m.events[i]? =some q:=⟨_,cj (by omega)⟩
  have eG:=KS (m.events.take i) u3
  have JC:=SA pm hq
  have jF:=Zk (s:=u3) hq
  refine EE J J J hk.events.tail.tail hq λalK alL alM=>Nw λpq cX=> ?_
  simp only [dL,dm]
  refine ab J J (uD (vs:=fv q pq) J J)<|bB J J λb7=>aE J J<|O<|aQ<|Y J<|bD J J<|aP b<|aB J J (Rl q cX (A:=pq.1) (c:=pq.2) slk (by simp only [CT] at eG hb ⊢; omega)) ?_
  rw [<- jF]
  refine O<|bA<|ai<|aQ<|ab J J (bE J J (by omega))<|cz 67 J<|Y J<|O<|ai ?_
  exact ⟨i+1,(by omega),by omega,bO rfl⟩
 refine cw<|aY<|aY<|cu<|ai ?_
 have e:m.events.take i=m.events:=gQ (by omega)
 rw [e]
 refine aQ<|Y J<|ao J<|ax J J<|aP b<|aB J J (mB 4611686018427387904 m.jq hx.jq (by decide) (by omega))<|O ?_
 rw [<- I5]
 exact ei J
def f' (s:WS):List Int:=if s.2=true\/65536 < s.1.length then [] else s.1
def j7 (s:WS):Int:=if s.2=true then 1 else if 65536 < s.1.length then 3 else 0
def I6 (s:WS) (v:Value) (L L':List HP):Prop:=∃ A c,v=.tuple #[.slice A (f' s).length c,.int .i64 (j7 s)]/\L'=aN (aI .u8) 5 A c (f' s)::L
theorem KC (f:FuncId) (cap:Value) (s:WS) [li prog f] (h:∀ b,Fn prog f #[.pointer (some ⟨b,0,none⟩),cap] (wr b ([],false)::L) (λv L'=>v=.tuple #[]/\L'=wr b s::L)):Fn prog 183 #[.func (.func f) #[] #[cap]] L (λv L'=>I6 s v L L'):=by
 refine aH func183 J J J J<|aa<|ae J<|ae J<|O<|aa<|ab J J (bI J J)<|bS J J J λb6=>bX (du (aI .u8) 5 none _)<|bX (am.swap _ _ _)<|bX (Ac (b:=b6) (s:=([],false)) (A:=none) (c:=0))<|ae J<|O<|aa<|Y J<|Y J<|jx (fs:=[]) (cs:=[cap]) J J J (h b6) ?_
 rintro _ _ ⟨rfl,rfl⟩
 refine ai3 λA9 c9=>O<|ar<|aX<|aa<|Y J<|aS J<|ao J<|ax J J<|ae J<|O<|gF J (λf0=> ?_) (λf0=> ?_)
 ·have alN:=f0
  refine aa<|ae J<|ae J<|O<|av<|db<|aU ?_
  have e1:f' s=[]:=by simp [f',f0]
  have e2:j7 s=1:=by simp [j7,f0]
  refine aF.ay (du (aI .u8) 5 none _) ?_
  exact eS J J J al (⟨none,0,by rw [e1,e2]; rfl,by rw [e1]⟩)
 refine aa<|Y J<|aS J<|ao J<|ax J J<|ab J J (bY J)<|ab J J (eE J J)<|ae J<|O<|bz J (λgU=> ?_) (λgU=> ?_)
 ·refine aa<|ae J<|ae J<|O<|av<|db<|aU ?_
  have e1:f' s=[]:=by simp [f',show 65536 < s.1.length by omega]
  have e2:j7 s=3:=by simp [j7,f0,show 65536 < s.1.length by omega]
  refine aF.ay (du (aI .u8) 5 none _) ?_
  exact eS J J J al (⟨none,0,by rw [e1,e2]; rfl,by rw [e1]⟩)
 refine az<|bA<|ai<|aa<|Y J<|aS J<|ao J<|ax J J<|ae J<|ae J<|O<|av ?_
 have e1:f' s=s.1:=by rw [f',if_neg (by simp [f0]; omega)]
 have e2:j7 s=0:=by rw [j7,if_neg (by simp [f0]),if_neg (by omega)]
 exact eS J J J al (⟨A9,c9,by rw [e1,e2],by rw [e1]⟩)
variable{bm:Nat}
theorem aap (m:bQ) (p:gg) (hx:gf m) (hk:fN L m p) (hb:iP m<=140737488355328):Fn prog 184 #[.pointer (some ⟨b,0,none⟩),.pointer (some ⟨bm,0,none⟩)] (wr b ([],false)::cells bm (dq m p) 174::L) (λv L'=>v=.tuple #[]/\L'=wr b (fT m ([],false))::cells bm (dq m p) 174::L):=by
 exact aH func184 J J J J<|aQ<|Y J<|ab J J (kg (vs:=dq m p) J J)<|aB J J (adb m p hx hk.tail (by simpa using hb))<|O<|ei J
theorem uL (m:bQ) (p:gg) (hx:gf m) (hk:fN L m p) (hb:iP m<=140737488355328):Fn prog 101 #[.agg (List.toArray (dq m p))] L (λv L'=>I6 (fT m ([],false)) v L L'):=by
 refine aH func101 J J J J<|aa<|bS J J J λb1=>ae J<|ae J<|O<|aa<|ab J J (gy J J)<|aJ J J (KC 184 (.pointer (some ⟨b1,0,none⟩)) (fT m ([],false)) (λb↦aap m p hx hk hb)) ?_
 rintro _ _ ⟨A5,c5,rfl,rfl⟩
 exact ab J J (aO J J)<|ab J J (aO J J)<|ae J<|ae J<|O<|av<|eS J J J al (⟨A5,c5,J,J⟩)
theorem Zl (x:dv) (hx:fC x) (hk:a_ L (aI .i64) A c x.cut) (hb:jd x<=140737488355328):Fn prog 342 #[.pointer (some ⟨b,0,none⟩),.pointer (some ⟨bm,0,none⟩)] (wr b ([],false)::cells bm (pj x (A,c)) 156::L) (λv L'=>v=.tuple #[]/\L'=wr b (nQ x ([],false))::cells bm (pj x (A,c)) 156::L):=by
 exact aH func342 J J J J<|aQ<|Y J<|ab J J (kg (vs:=pj x (A,c)) J J)<|aB J J (RP x hx hk.tail (by simpa using hb))<|O<|ei J
theorem adc (x:dv) (hx:fC x) (hk:a_ L (aI .i64) A c x.cut) (hb:jd x<=140737488355328):Fn prog 239 #[.agg (List.toArray (pj x (A,c)))] L (λv L'=>I6 (nQ x ([],false)) v L L'):=by
 refine aH func239 J J J J<|aa<|bS J J J λb1=>ae J<|ae J<|O<|aa<|ab J J (gy J J)<|aJ J J (KC 342 (.pointer (some ⟨b1,0,none⟩)) (nQ x ([],false)) (λb↦Zl x hx hk hb)) ?_
 rintro _ _ ⟨A5,c5,rfl,rfl⟩
 exact ab J J (aO J J)<|ab J J (aO J J)<|ae J<|ae J<|O<|av<|eS J J J al (⟨A5,c5,J,J⟩)
theorem YB (x:aW) (hx:kj x) (hk:a_ L (aI .i64) A c x.d7) (hb:pm x<=140737488355328):Fn prog 314 #[.pointer (some ⟨b,0,none⟩),.pointer (some ⟨bm,0,none⟩)] (wr b ([],false)::cells bm (fv x (A,c)) 49::L) (λv L'=>v=.tuple #[]/\L'=wr b (iZ x ([],false))::cells bm (fv x (A,c)) 49::L):=by
 exact aH func314 J J J J<|aQ<|Y J<|ab J J (kg (vs:=fv x (A,c)) J J)<|aB J J (Rl x hx hk.tail (by simpa using hb))<|O<|ei J
theorem Et (x:aW) (hx:kj x) (hk:a_ L (aI .i64) A c x.d7) (hb:pm x<=140737488355328):Fn prog 201 #[.agg (List.toArray (fv x (A,c)))] L (λv L'=>I6 (iZ x ([],false)) v L L'):=by
 refine aH func201 J J J J<|aa<|bS J J J λb1=>ae J<|ae J<|O<|aa<|ab J J (gy J J)<|aJ J J (KC 314 (.pointer (some ⟨b1,0,none⟩)) (iZ x ([],false)) (λb↦YB x hx hk hb)) ?_
 rintro _ _ ⟨A5,c5,rfl,rfl⟩
 exact ab J J (aO J J)<|ab J J (aO J J)<|ae J<|ae J<|O<|av<|eS J J J al (⟨A5,c5,J,J⟩)
open Go Go.Proofs Go.Proofs.Tryz
def de (most n:Int):Prop:=0<=n/\n<=most
instance (most n:Int):Decidable (de most n):=by unfold de; exact inferInstance
def pz (v:List Int):Prop:=(∀ n∈v,de 2147483647 n)/\v.length<=7/\kJ v=false
instance (v:List Int):Decidable (pz v):=by unfold pz; exact inferInstance
def jr (a:Int × Int):Prop:=de 2147483647 a.1/\de 6 a.2
instance (a:Int × Int):Decidable (jr a):=by unfold jr; exact inferInstance
def nR (x:dv):Prop:=fy x.cV/\fy x.aK/\de 2147483647 x.eO/\pz x.cut
instance (x:dv):Decidable (nR x):=by unfold nR; exact inferInstance
def f_ (e:dZ):Prop:=if e.fe=true then pb e.order=false else nR e.order
instance (e:dZ):Decidable (f_ e):=by unfold f_; exact inferInstance
def nb (e:aW):Prop:=de 6 e.dot.1/\de 2147483647 e.dot.2/\pz e.d7/\fy e.aK/\de 2147483647 e.eO/\fy e.di/\de 1000 e.eZ
def mF (v:dj):Prop:=de 2147483647 v.slot/\jr v.bj/\f_ v.en
def lT (m:bQ):Prop:=de 255 m.kind/\de 6 m.bC/\de 6 m.cH/\jr m.bj/\de 2147483647 m.slot/\f_ m.en/\(m.d_.length<=4096/\∀ v∈m.d_,mF v)/\pz m.seen/\(m.events.length<=4096/\∀ v∈m.events,nb v)/\de 4611686018427387904 m.jq
theorem m9 {most n:Int}:(ct most n s).2=false↔s.2=false/\de most n:=by
 unfold ct de; split
 ·simp; omega
 ·simp; omega
variable{t:ByteArray}
theorem HX:(jc t s).2=false↔s.2=false/\fy t:=by
 show (ct 65536 (t.size:Int) (s.1,s.2 || !decide (fy t))).2=false↔_
 rw [m9]
 constructor
 ·rintro ⟨h,_⟩
  simpa using h
 ·rintro ⟨h1,h2⟩
  refine ⟨by simp [h1,h2], ?_⟩
  have:=h2.2.2
  unfold de; omega
variable{b:Bool}
theorem Lh:(rN b s).2=false↔s.2=false:=by
 unfold rN
 rw [m9]
 cases b <;> simp [de]
theorem SB:∀ {v:List Int} {s:WS},(pt v s).2=false↔s.2=false/\∀ n∈v,de 2147483647 n
 | [],s=>by simp [pt]
 | n::v,s=>by
  show (pt v (ct 2147483647 n s)).2=false↔_
  rw [SB,m9]
  simp [and_assoc]
theorem Mh:(j6 v s).2=false↔s.2=false/\pz v:=by
 unfold j6 pz
 rw [SB,m9]
 simp only [Ea]
 constructor
 ·rintro ⟨⟨⟨h1,h2⟩,h3⟩,h4⟩
  exact ⟨h1,h4,by unfold de at h3; omega,h2⟩
 ·rintro ⟨h1,h4,h3,h2⟩
  exact ⟨⟨⟨h1,h2⟩,by unfold de; omega⟩,h4⟩
variable{a:Int × Int}
theorem Tz:(lS a s).2=false↔s.2=false/\jr a:=by
 unfold lS jr; rw [m9,m9,and_assoc]
variable{x:dv}
theorem SC:(nQ x s).2=false↔s.2=false/\nR x:=by
 unfold nQ nR; rw [Mh,m9,HX,HX]; simp only [and_assoc]
variable{e:dZ}
theorem RQ:(mE e s).2=false↔s.2=false/\f_ e:=by
 unfold mE f_
 simp only []
 split
 ·simp [Lh]
 ·rw [SC,Lh]
theorem RR {e:aW}:(iZ e s).2=false↔s.2=false/\nb e:=by
 unfold iZ nb; rw [Lh,m9,HX,m9,HX,Mh,m9,m9]; simp only [and_assoc]
theorem abE {v:dj}:(qR v s).2=false↔s.2=false/\mF v:=by
 unfold qR mF; rw [RQ,Tz,m9]; simp only [and_assoc]
theorem Rm:∀ {v:List dj} {s:WS},(nK v s).2=false↔s.2=false/\∀ n∈v,mF n
 | [],s=>by simp [nK]
 | n::v,s=>by
  show (nK v (qR n s)).2=false↔_
  rw [Rm,abE]
  simp [and_assoc]
theorem Rn:∀ {v:List aW} {s:WS},(pg v s).2=false↔s.2=false/\∀ n∈v,nb n
 | [],s=>by simp [pg]
 | n::v,s=>by
  show (pg v (iZ n s)).2=false↔_
  rw [Rn,RR]
  simp [and_assoc]
theorem TA {k:Nat} {most:Nat}:de (most:Int) (k:Int)↔k<=most:=by unfold de; omega
theorem TB:(fT m s).2=false↔s.2=false/\lT m:=by
 unfold fT lT
 rw [m9,Rn,m9,Mh,Rm,m9,RQ,m9,Tz,m9,m9,m9]
 have h1:de 4096 (m.d_.length:Int)↔m.d_.length<=4096:=TA (most:=4096)
 have h2:de 4096 (m.events.length:Int)↔m.events.length<=4096:=TA (most:=4096)
 rw [h1,h2]; simp only [and_assoc]
def sP (e:dZ):bQ:=⟨0,0,0,(0,0),0,e,[],[],[],0⟩
theorem Zm:lT (sP e)↔f_ e:=by
 simp [lT,sP,de,jr,pz,kJ]
theorem aeJ (h:pb x=false):x.cV.size=0/\x.aK.size=0/\x.cut.length=0:=by
 simp only [pb,Ea,decide_eq_false_iff_not,eX] at h
 exact ⟨(H9 _).1 h.1.1.1,(H9 _).1 h.1.1.2,by have:=h.2; omega⟩
theorem aaq (h:f_ e):jd e.order<=300:=by
 unfold f_ at h
 split at h
 ·have:=aeJ h
  unfold jd; omega
 ·have h1:=h.1.2.2; have h2:=h.2.1.2.2; have h3:=h.2.2.2.2.1
  unfold jd; omega
theorem ade (e:dZ) (hb:jd e.order<=140737488355000):(fT (sP e) ([],false)).1.length<=jd e.order+200:=by
 have h1:=iE 255 0 ([],false) (by decide)
 have h2:=iE 6 0 (ct 255 0 ([],false)) (by decide)
 have h3:=iE 6 0 (ct 6 0 (ct 255 0 ([],false))) (by decide)
 have h4:=H' (0,0) (ct 6 0 (ct 6 0 (ct 255 0 ([],false))))
 have h5:=iE 2147483647 0 (lS (0,0) (ct 6 0 (ct 6 0 (ct 255 0 ([],false))))) (by decide)
 have h6:=Lg e (ct 2147483647 0 (lS (0,0) (ct 6 0 (ct 6 0 (ct 255 0 ([],false))))))
 have h7:=iE 4096 0 (mE e (ct 2147483647 0 (lS (0,0) (ct 6 0 (ct 6 0 (ct 255 0 ([],false))))))) (by decide)
 have h8:=EI [] (ct 4096 0 (mE e (ct 2147483647 0 (lS (0,0) (ct 6 0 (ct 6 0 (ct 255 0 ([],false))))))))
 have h9:=iE 4096 0 (j6 [] (ct 4096 0 (mE e (ct 2147483647 0 (lS (0,0) (ct 6 0 (ct 6 0 (ct 255 0 ([],false))))))))) (by decide)
 have f0:=iE 4611686018427387904 0 (ct 4096 0 (j6 [] (ct 4096 0 (mE e (ct 2147483647 0 (lS (0,0) (ct 6 0 (ct 6 0 (ct 255 0 ([],false)))))))))) (by decide)
 have e1:fT (sP e) ([],false)=ct 4611686018427387904 0 (ct 4096 0 (j6 [] (ct 4096 0 (mE e (ct 2147483647 0 (lS (0,0) (ct 6 0 (ct 6 0 (ct 255 0 ([],false)))))))))):=rfl
 rw [e1]
 simp only [ej] at *
 have:60<=jd e.order:=by unfold jd; omega
 omega
theorem abF (hb:jd e.order<=140737488355000):j7 (fT (sP e) ([],false))=if f_ e then 0 else 1:=by
 have u7:=TB (m:=sP e) (s:=([],false))
 rw [Zm] at u7
 unfold j7
 by_cases h:f_ e
 ·have h1:(fT (sP e) ([],false)).2=false:=u7.2 ⟨rfl,h⟩
  have h2:=ade e hb
  have h3:=aaq h
  rw [if_neg (by rw [h1]; simp),if_neg (by omega),if_pos h]
 ·have h1:(fT (sP e) ([],false)).2=true:=by
   cases hh:(fT (sP e) ([],false)).2 with
   | true=>rfl
   | false=>exact absurd (u7.1 hh).2 h
  rw [if_pos h1,if_neg h]
theorem adf:j7 (nQ x ([],false))=if nR x then 0 else 1:=by
 have u7:=SC (x:=x) (s:=([],false))
 unfold j7
 by_cases h:nR x
 ·have h1:(nQ x ([],false)).2=false:=u7.2 ⟨rfl,h⟩
  have h2:=Sz x ([],false)
  have h3:jd x<=300:=by
   have h1:=h.1.2.2; have h2:=h.2.1.2.2; have h3:=h.2.2.2.2.1
   unfold jd; omega
  rw [if_neg (by rw [h1]; simp),if_neg (by simp only [ej] at h2; omega),if_pos h]
 ·have h1:(nQ x ([],false)).2=true:=by
   cases hh:(nQ x ([],false)).2 with
   | true=>rfl
   | false=>exact absurd (u7.1 hh).2 h
  rw [if_pos h1,if_neg h]
theorem i0:bP .i64 0:=by decide
theorem Kv (e:dZ) (hx:fC e.order) (hk:a_ L (aI .i64) A c e.order.cut) (hb:jd e.order<=140737488355000):Fn prog 101 #[.agg (List.toArray (dq (sP e) ⟨(A,c),(none,0),(none,0),(none,0)⟩))] L (λv L'=>(∃ B d k,v=.tuple #[.slice B k d,.int .i64 (if f_ e then 0 else 1)])/\L'=L):=
 (uL (sP e) ⟨(A,c),(none,0),(none,0),(none,0)⟩ ⟨i0,i0,i0,i0,i0,i0,hx,i0⟩ ⟨hk,dP,dP,dP⟩ (by simp only [iP,sP,CS,CT]; simp; omega)).mono λv L' h=>by
  obtain ⟨B,d,h1,h2⟩:=h
  subst h2
  exact ⟨L,am.drop _ _,⟨B,d,_,by rw [h1,abF hb]⟩,rfl⟩
theorem YC (x:dv) (hx:fC x) (hk:a_ L (aI .i64) A c x.cut) (hb:jd x<=140737488355000):Fn prog 239 #[.agg (List.toArray (pj x (A,c)))] L (λv L'=>(∃ B d k,v=.tuple #[.slice B k d,.int .i64 (if nR x then 0 else 1)])/\L'=L):=
 (adc x hx hk (by omega)).mono λv L' h=>by
  obtain ⟨B,d,h1,h2⟩:=h
  subst h2
  exact ⟨L,am.drop _ _,⟨B,d,_,by rw [h1,adf]⟩,rfl⟩
open Go Go.Proofs Go.Proofs.Tryz
theorem Qw (s:ByteArray):strOfNums (f4 s)=s:=by
 cases s with
 | mk d=>
  simp only [strOfNums,f4,sE]
  congr 1
  have:(List.map ((λn:Int=>UInt8.ofNat n.toNat) ∘ λb:UInt8=>(b.toNat:Int)) d.toList)=d.toList:=by
   conv=>rhs; rw [<- Cj d.toList]
   apply zN
   intro b _
   simp
  rw [this]
theorem Qx {xs:List Int} (h:∀ x∈xs,0<=x/\x<=255):f4 (strOfNums xs)=xs:=by
 simp only [f4,strOfNums_data,sE]
 conv=>rhs; rw [<- Cj xs]
 apply zN
 intro x hx
 have:=h x hx
 simp only [Function.comp_apply,id]
 rw [UInt8.toNat_ofNat_of_lt' (by show x.toNat < 256; omega)]
 omega
variable{s:ByteArray}
theorem QX (h:f4 s=f4 t):s=t:=by rw [<- Qw s,h,Qw]
theorem Li (s:ByteArray):(iJ s).length=(fF s.size).length+s.size:=by simp [iJ,nE]
theorem a_.agp {xs:List Int} (h:a_ L (aI k) A c xs):bV L (λ_=>∀ x∈xs,bP k x):=h.mono λM h x hx=>by
 rcases h.2.2 with e | ⟨b,o,e,cs,t,fr,hb,eH⟩
 ·subst e; cases hx
 ·obtain ⟨i,hi⟩:=od hx
  obtain ⟨l,hl,_⟩:=eH i x hi
  exact hl.2
theorem ahM {xs:List Int} (h:∀ x∈xs,bP .u8 x):∀ x∈xs,0<=x/\x<=255:=λx hx=>I1 (h x hx)
variable{bs:List Int}
theorem EX (h:iJ s <+:bs):fF s.size <+:bs:=(List.prefix_append _ _).trans h
variable{most:Int}
theorem Ia (hm:most<=9223372036854775807) {x n:Nat} (h:nn bs x n 10):ti bs most ⟨#[]⟩ 0 10:=by
 rcases h with ⟨h,_⟩ | ⟨_,_,_,h⟩
 ·cases h
 ·exact .inr ⟨rfl,rfl,rfl,λs hs hp=>h s.size (by omega) (EX hp)⟩
theorem TC {n k:Nat} (h:nn bs n k 0) (hs:s.size < 18446744073709551616) (hp:iJ s <+:bs):s.size=n/\k=(fF n).length/\k+n<=bs.length:=by
 have h1:nn bs s.size (fF s.size).length 0:=.inl ⟨rfl,hs,(List.prefix_iff_eq_take.1 (EX hp)).symm,rfl,(EX hp).length_le⟩
 obtain ⟨e1,e2,_⟩:=K_ h h1
 have:=hp.length_le
 rw [Li] at this
 exact ⟨e1.symm,by rw [e2, <- e1],by rw [e2,e1]; exact this⟩
theorem Im (hm:most<=9223372036854775807) {n k:Nat} (h:nn bs n k 0) (hb:most < 0\/most < (n:Int)\/bs.length < k+n):ti bs most ⟨#[]⟩ 0 10:=
 .inr ⟨rfl,rfl,rfl,λs hs hp=>by
  obtain ⟨h1,h2,h3⟩:=TC h (by omega) hp
  omega⟩
theorem aeK {n k:Nat} (h:nn bs n k 0) (eH:∀ x∈bs,0<=x/\x<=255) (h1:(n:Int)<=most) (h2:k+n<=bs.length):ti bs most (strOfNums ((bs.take (k+n)).drop k)) (k+n) 0:=by
 rcases h with ⟨_,h3,h4,h5,h6⟩ | ⟨h,_⟩
 ·have hs:(strOfNums ((bs.take (k+n)).drop k)).size=n:=by rw [strOfNums_size]; simp; omega
  have ht:bs.take (k+n)=iJ (strOfNums ((bs.take (k+n)).drop k)):=by
   unfold iJ
   rw [hs,Qx (λx hx=>eH x (Cf (List.mem_of_mem_drop hx))), <- h4]
   conv=>lhs; rw [<- qE k (bs.take (k+n))]
   rw [List.take_take,Nat.min_eq_left (by omega)]
  exact .inl ⟨rfl,by rw [hs]; exact h1,ht,by rw [<- ht]; simp; omega,h2⟩
 ·cases h
theorem abG (hm:most<=9223372036854775807) {s':ByteArray} {n e n' e':Nat} (h:ti bs most s n e) (k:ti bs most s' n' e'):s=s'/\n=n'/\e=e':=by
 have pre:∀ {s n},bs.take n=iJ s->iJ s <+:bs:=λh=>h ▸ Hh _ _
 rcases h with ⟨h1,h2,h3,h4,h5⟩ | ⟨h1,h2,h3,h4⟩ <;> rcases k with ⟨k1,k2,k3,k4,k5⟩ | ⟨k1,k2,k3,k4⟩
 ·have hu:nn bs s.size (fF s.size).length 0:=.inl ⟨rfl,by omega,(List.prefix_iff_eq_take.1 (EX (pre h3))).symm,rfl,(EX (pre h3)).length_le⟩
  obtain ⟨e1,_,_⟩:=TC hu (by omega) (pre k3)
  have en:n=n':=by rw [h4,k4,Li,Li,e1]
  have:iJ s=iJ s':=by rw [<- h3, <- k3,en]
  have es:s=s':=by
   unfold iJ at this
   rw [e1] at this
   exact QX (List.append_cancel_left this)
  exact ⟨es,en,by rw [h1,k1]⟩
 ·exact absurd (pre h3) (k4 _ h2)
 ·exact absurd (pre k3) (h4 _ k2)
 ·exact ⟨by rw [h2,k2],by rw [h3,k3],by rw [h1,k1]⟩
theorem Vv {x n e:Nat} (h:nn bs x n e):(e=0/\x < 18446744073709551616/\n<=10/\n<=bs.length/\0 < n)\/(e=10/\x=0/\n=0):=by
 rcases h with ⟨h1,h2,h3,h4,h5⟩ | ⟨h1,h2,h3,h4⟩
 ·have:=Ah h2; have:=Il x; exact .inl ⟨h1,h2,by omega,h5,by omega⟩
 ·exact .inr ⟨h1,h2,h3⟩
theorem YD (hk:a_ L (aI .u8) A c bs) (most:Int) (hm:bP .i64 most):Fn prog 62 #[.slice A bs.length c,.int .i64 most] L (λv L'=>(∃ (s:ByteArray) (n e:Nat),v=.tuple #[.string s,.int .i64 (n:Int),.int .i64 (e:Int)]/\ti bs most s n e)/\L'=L):=by
 have hm:=i64In hm
 refine aH func62 J J J J<|hk.lens λhl=>yu hk.agp (λ_ h=>h) λeH=> ?_
 simp only [cE] at hl
 refine aa<|ae J<|ae J<|ae J<|O<|aa<|Y J<|aJ J J (QI hk) ?_
 rintro _ _ ⟨⟨n,k,e,rfl,hr⟩,rfl⟩
 have he:=Vv hr
 refine Y J<|ab J J (aO J J)<|ab J J (aO J J)<|ab J J (aO J J)<|ae J<|ae J<|ae J<|O<|ar<|aa<|Y J<|ab J J (dB J J)<|Y J<|dl 19 J (λj9=> ?_) (λj9=> ?_)
 ·refine ah J<|ah J<|aA J<|Y J<|ah J<|ah J<|ah J<|ah J<|aA J<|Y J<|ah J<|ah J<|ah J<|ah J<|ah J<|ah J<|ah J<|aA J<|O<|cg J<|aa<|ae J<|ae J<|ae J<|O<|av<|aU ?_
  exact ja (.inl rfl) rfl (bf.tmp rfl) (bf.tmp rfl) (bf.tmp rfl) bu.g (⟨⟨⟨#[]⟩,0,10,rfl,by rcases he with ⟨rfl,_⟩ | ⟨rfl,_⟩; exact Im hm.2 hr (by omega); exact Ia hm.2 hr⟩,rfl⟩)
 refine aj J<|Y J<|aj J<|ab J J (bU J J)<|aA J<|Y J<|dl 23 J (λgv=> ?_) (λgv=> ?_)
 ·refine ah J<|ah J<|ah J<|ah J<|aA J<|Y J<|ah J<|ah J<|ah J<|ah J<|ah J<|ah J<|ah J<|aA J<|O<|cg J<|aa<|ae J<|ae J<|ae J<|O<|av<|aU ?_
  exact ja (.inl rfl) rfl (bf.tmp rfl) (bf.tmp rfl) (bf.tmp rfl) bu.g (⟨⟨⟨#[]⟩,0,10,rfl,by rcases he with ⟨rfl,_⟩ | ⟨rfl,_⟩; exact Im hm.2 hr (by omega); exact Ia hm.2 hr⟩,rfl⟩)
 refine aj J<|Y J<|aj J<|Y J<|aj J<|ab J J (lO J)<|br 26 (v':=.int .u64 most) J (by rw [show most=((most.toNat:Nat):Int) by omega,yb (by omega)])<|aj J<|ab J J (eE J J)<|aA J<|Y J<|dl 29 J (λkX=> ?_) (λkX=> ?_)
 ·refine ah J<|ah J<|ah J<|ah J<|ah J<|ah J<|ah J<|aA J<|O<|cg J<|aa<|ae J<|ae J<|ae J<|O<|av<|aU ?_
  exact ja (.inl rfl) rfl (bf.tmp rfl) (bf.tmp rfl) (bf.tmp rfl) bu.g (⟨⟨⟨#[]⟩,0,10,rfl,by rcases he with ⟨rfl,_⟩ | ⟨rfl,_⟩; exact Im hm.2 hr (by omega); exact Ia hm.2 hr⟩,rfl⟩)
 refine aj J<|Y J<|aj J<|Y J<|aj J<|ab J J (bY J)<|aj J<|Y J<|aj J<|ab J J (jb J J (by omega))<|br 34 (v':=.int .i64 ((bs.length - k:Nat):Int)) J (by congr 1; omega)<|aj J<|ab J J (lO J)<|br 35 (v':=.int .u64 ((bs.length - k:Nat):Int)) J (by rw [yb (by omega)])<|aj J<|ab J J (eE J J)<|aA J<|O<|bz J (λlG=> ?_) (λlG=> ?_)
 ·refine aa<|ae J<|ae J<|ae J<|O<|av<|aU ?_
  exact ja (.inl rfl) rfl (bf.tmp rfl) (bf.tmp rfl) (bf.tmp rfl) bu.g (⟨⟨⟨#[]⟩,0,10,rfl,by rcases he with ⟨rfl,_⟩ | ⟨rfl,_⟩; exact Im hm.2 hr (by omega); exact Ia hm.2 hr⟩,rfl⟩)
 refine az<|ai<|aa ?_
 have he0:e=0:=by omega
 subst he0
 exact Y J<|Y J<|ab J J (lO J)<|br 40 (v':=.int .i64 (n:Int)) J (by rw [IntWalk.i64_in _ (by omega)])<|ab J J (bE J J (by omega))<|aV 41 (.int .i64 ((k+n:Nat):Int)) J<|ae J<|O<|aa<|Y J<|Y J<|Y J<|ab J J (aeB J J J (by omega))<|br 45 (v':=.slice (oI A k c 1) ((bs.take (k+n)).drop k).length (c - k)) J (by simp; omega)<|ab J J (KN J (hk.cut k (k+n) c (by omega) (by omega) (by omega)))<|Y J<|ae J<|ae J<|ae J<|O<|av<|ja (.inl J) J (bf.tmp J) (bf.tmp J) (bf.tmp J) bu.g (⟨⟨strOfNums ((bs.take (k+n)).drop k),k+n,0,J,aeK hr (ahM eH) (by omega) (by omega)⟩,J⟩)
open Go Go.Proofs
def f5 (n:Int):List Int:=fF n.toNat
def jC (b:α->List Int) (l:List α):List Int:=(l.map b).flatten
def rW (v:List Int):List Int:=f5 (v.length:Int)++jC f5 v
def uP (b:Bool):List Int:=f5 (if b then 1 else 0)
def wW (a:Int × Int):List Int:=f5 a.1++f5 a.2
def wI (x:dv):List Int:=iJ x.cV++(iJ x.aK++(f5 x.eO++rW x.cut))
def pn (e:dZ):List Int:=uP e.fe++(if e.fe=true then [] else wI e.order)
def qS (e:aW):List Int:=f5 e.dot.1++(f5 e.dot.2++(rW e.d7++(iJ e.aK++(f5 e.eO++(iJ e.di++(f5 e.eZ++uP e.jy))))))
def rO (v:dj):List Int:=f5 v.slot++(wW v.bj++pn v.en)
def kS (m:bQ):List Int:=f5 m.kind++(f5 m.bC++(f5 m.cH++(wW m.bj++(f5 m.slot++(pn m.en++(f5 (m.d_.length:Int)++(jC rO m.d_++(rW m.seen++(f5 (m.events.length:Int)++(jC qS m.events++f5 m.jq))))))))))
variable{s:WS}
theorem m_ {most n:Int} (hs:s.2=false) (h:de most n):ct most n s=(s.1++f5 n,false):=by
 unfold de at h; unfold ct
 rw [if_neg (by omega),hs]; rfl
theorem Ib (hs:s.2=false) (h:fy t):jc t s=(s.1++iJ t,false):=by
 have h2:=h.2.2
 unfold jc
 rw [m_ (by simp [hs,h]) (by unfold de; omega)]
 simp [iJ,f5]
theorem SD (hs:s.2=false):rN b s=(s.1++uP b,false):=by
 unfold rN; rw [m_ hs (by cases b <;> simp [de])]; rfl
theorem TD:∀ {v:List Int} {s:WS},s.2=false->(∀ n∈v,de 2147483647 n)->pt v s=(s.1++jC f5 v,false)
 | [],s,hs,_=>by simp [pt,jC, <- hs]
 | n::v,s,hs,h=>by
  show pt v (ct 2147483647 n s)=_
  rw [m_ hs (h n ie),TD rfl (λm hm=>h m (gO _ hm))]
  simp [jC]
theorem MQ (hs:s.2=false) (h:pz v):j6 v s=(s.1++rW v,false):=by
 unfold j6
 have h7:=h.2.1
 rw [m_ (by simp [hs,h.2.2]) (by unfold de; omega),TD rfl h.1]
 simp [rW]
theorem Un (hs:s.2=false) (h:jr a):lS a s=(s.1++wW a,false):=by
 unfold lS; rw [m_ hs h.1,m_ rfl h.2]; simp [wW]
theorem aeL (hs:s.2=false) (h:nR x):nQ x s=(s.1++wI x,false):=by
 unfold nQ; rw [Ib hs h.1,Ib rfl h.2.1,m_ rfl h.2.2.1,MQ rfl h.2.2.2]; simp [wI]
theorem SE (hs:s.2=false) (h:f_ e):mE e s=(s.1++pn e,false):=by
 unfold f_ at h
 unfold mE
 rw [SD hs]
 simp only []
 split at h
 ·rename_i hn; simp [pn,hn,h]
 ·rename_i hn; rw [if_neg hn,aeL rfl h]; simp [pn,hn]
theorem LG {e:aW} (hs:s.2=false) (h:nb e):iZ e s=(s.1++qS e,false):=by
 obtain ⟨h1,h2,h3,h4,h5,h6,h7⟩:=h
 unfold iZ; rw [m_ hs h1,m_ rfl h2,MQ rfl h3,Ib rfl h4,m_ rfl h5,Ib rfl h6,m_ rfl h7,SD rfl]; simp [qS]
theorem adg {v:dj} (hs:s.2=false) (h:mF v):qR v s=(s.1++rO v,false):=by
 unfold qR; rw [m_ hs h.1,Un rfl h.2.1,SE rfl h.2.2]; simp [rO]
theorem RT:∀ {l:List dj} {s:WS},s.2=false->(∀ v∈l,mF v)->nK l s=(s.1++jC rO l,false)
 | [],s,hs,_=>by simp [nK,jC, <- hs]
 | n::v,s,hs,h=>by
  show nK v (qR n s)=_
  rw [adg hs (h n ie),RT rfl (λm hm=>h m (gO _ hm))]
  simp [jC]
theorem RU:∀ {l:List aW} {s:WS},s.2=false->(∀ v∈l,nb v)->pg l s=(s.1++jC qS l,false)
 | [],s,hs,_=>by simp [pg,jC, <- hs]
 | n::v,s,hs,h=>by
  show pg v (iZ n s)=_
  rw [LG hs (h n ie),RU rfl (λm hm=>h m (gO _ hm))]
  simp [jC]
theorem agq (hs:s.2=false) (h:lT m):fT m s=(s.1++kS m,false):=by
 obtain ⟨h1,h2,h3,h4,h5,h6,⟨h7,h8⟩,h9,⟨ha,hb⟩,hc⟩:=h
 unfold fT
 rw [m_ hs h1,m_ rfl h2,m_ rfl h3,Un rfl h4,m_ rfl h5,SE rfl h6,m_ (most:=4096) (n:=(m.d_.length:Int)) rfl (by unfold de; omega),RT rfl h8,MQ rfl h9,m_ (most:=4096) (n:=(m.events.length:Int)) rfl (by unfold de; omega),RU rfl hb,m_ rfl hc]
 simp [kS]
def PF (ok:α->Prop) (b:α->List Int):Prop:=∀ x y r r',ok x->ok y->b x++r=b y++r'->x=y/\r=r'
variable{r r':List Int}
theorem Na {x y:Nat} (hx:x < 18446744073709551616) (hy:y < 18446744073709551616) (h:fF x++r=fF y++r'):x=y/\r=r':=by
 have h1:=Lc hx r
 rw [h] at h1
 obtain ⟨rfl,_,_⟩:=K_ h1 (Lc hy r')
 exact ⟨rfl,List.append_cancel_left h⟩
theorem jn (hm:most<=4611686018427387904):PF (de most) f5:=λx y r r' hx hy h=>by
 unfold de at hx hy
 obtain ⟨h1,h2⟩:=Na (x:=x.toNat) (y:=y.toNat) (by omega) (by omega) h
 exact ⟨by omega,h2⟩
theorem UZ {s:ByteArray} (hs:s.size < 18446744073709551616) (ht:t.size < 18446744073709551616) (h:iJ s++r=iJ t++r'):s=t/\r=r':=by
 unfold iJ at h
 rw [fh,fh] at h
 obtain ⟨h1,h2⟩:=Na hs ht h
 obtain ⟨h3,h4⟩:=List.append_inj h2 (by rw [nE,nE,h1])
 exact ⟨QX h3,h4⟩
theorem yq:PF fy iJ:=λs t r r' hs ht h=>UZ (by have:=hs.2.2; omega) (by have:=ht.2.2; omega) h
theorem U0 {α:Type} {ok:α->Prop} {b:α->List Int} (hb:PF ok b):∀ (v w:List α) (r r':List Int),v.length=w.length->(∀ x∈v,ok x)->(∀ x∈w,ok x)->jC b v++r=jC b w++r'->v=w/\r=r'
 | [],[],r,r',_,_,_,h=>⟨rfl,by simpa [jC] using h⟩
 | [],y::w,_,_,hl,_,_,_=>by simp at hl
 | x::v,[],_,_,hl,_,_,_=>by simp at hl
 | x::v,y::w,r,r',hl,hv,hw,h=>by
  simp only [jC,kq,List.flatten_cons,fh] at h
  obtain ⟨rfl,h2⟩:=hb x y _ _ (hv x ie) (hw y ie) h
  obtain ⟨rfl,h3⟩:=U0 hb v w r r' (by simpa using hl) (λx hx=>hv x (gO _ hx)) (λx hx=>hw x (gO _ hx)) h2
  exact ⟨rfl,h3⟩
theorem CU {α:Type} {ok:α->Prop} {b:α->List Int} (hb:PF ok b) {v w:List α} (hl:v.length<=4096) (n3:w.length<=4096) (hv:∀ x∈v,ok x) (hw:∀ x∈w,ok x) (h:f5 (v.length:Int)++(jC b v++r)=f5 (w.length:Int)++(jC b w++r')):v=w/\r=r':=by
 obtain ⟨h1,h2⟩:=jn (most:=4096) (by decide) _ _ _ _ (by unfold de; omega) (by unfold de; omega) h
 exact U0 hb v w r r' (by omega) hv hw h2
theorem E6:PF pz rW:=λv w r r' hv hw h=>by
 unfold rW at h
 rw [fh,fh] at h
 have h7:=hv.2.1; have h8:=hw.2.1
 exact CU (jn (most:=2147483647) (by decide)) (by omega) (by omega) hv.1 hw.1 h
theorem Ix:PF jr wW:=λv w r r' hv hw h=>by
 unfold wW at h
 rw [fh,fh] at h
 obtain ⟨h1,h⟩:=jn (by decide) _ _ _ _ hv.1 hw.1 h
 obtain ⟨h2,h⟩:=jn (by decide) _ _ _ _ hv.2 hw.2 h
 exact ⟨Prod.ext h1 h2,h⟩
theorem Mi {a:Bool} (h:uP a++r=uP b++r'):a=b/\r=r':=by
 obtain ⟨h1,h2⟩:=jn (most:=1) (by decide) _ _ _ _ (by cases a <;> simp [de]) (by cases b <;> simp [de]) h
 exact ⟨by cases a <;> cases b <;> simp at h1 ⊢,h2⟩
theorem agr:PF nR wI:=λv w r r' hv hw h=>by
 unfold wI at h
 simp only [fh] at h
 obtain ⟨h1,h⟩:=yq _ _ _ _ hv.1 hw.1 h
 obtain ⟨h2,h⟩:=yq _ _ _ _ hv.2.1 hw.2.1 h
 obtain ⟨h3,h⟩:=jn (by decide) _ _ _ _ hv.2.2.1 hw.2.2.1 h
 obtain ⟨h4,h⟩:=E6 _ _ _ _ hv.2.2.2 hw.2.2.2 h
 refine ⟨?_,h⟩
 cases v; cases w
 simp only at h1 h2 h3 h4
 subst h1; subst h2; subst h3; subst h4
 rfl
theorem SF (h:pb x=false):x=⟨sO,sO,0,[]⟩:=by
 cases x with
 | mk t c n v=>
  simp only [pb,Ea,decide_eq_false_iff_not,eX] at h
  obtain ⟨⟨⟨rfl,rfl⟩,rfl⟩,h⟩:=h
  obtain rfl:v=[]:=rC (by omega)
  rfl
theorem Mj:PF f_ pn:=λv w r r' hv hw h=>by
 unfold pn at h
 rw [fh,fh] at h
 obtain ⟨h1,h⟩:=Mi h
 unfold f_ at hv hw
 cases v with
 | mk a x=>
 cases w with
 | mk b y=>
 simp only at h1 h hv hw
 subst h1
 cases a with
 | true=>
  simp only [if_true] at h hv hw
  rw [SF hv,SF hw]
  exact ⟨rfl,by simpa using h⟩
 | false=>
  simp only [lM,if_false] at h hv hw
  obtain ⟨hz,hy⟩:=agr _ _ _ _ hv hw h
  subst hz
  exact ⟨rfl,hy⟩
theorem Mk:PF nb qS:=λv w r r' hv hw h=>by
 unfold qS at h
 simp only [fh] at h
 obtain ⟨v1,v2,v3,v4,v5,v6,v7⟩:=hv
 obtain ⟨w1,w2,w3,w4,w5,w6,w7⟩:=hw
 obtain ⟨h1,h⟩:=jn (by decide) _ _ _ _ v1 w1 h
 obtain ⟨h2,h⟩:=jn (by decide) _ _ _ _ v2 w2 h
 obtain ⟨h3,h⟩:=E6 _ _ _ _ v3 w3 h
 obtain ⟨h4,h⟩:=yq _ _ _ _ v4 w4 h
 obtain ⟨h5,h⟩:=jn (by decide) _ _ _ _ v5 w5 h
 obtain ⟨h6,h⟩:=yq _ _ _ _ v6 w6 h
 obtain ⟨h7,h⟩:=jn (by decide) _ _ _ _ v7 w7 h
 obtain ⟨h8,h⟩:=Mi h
 refine ⟨?_,h⟩
 cases v; cases w
 simp only at h1 h2 h3 h4 h5 h6 h7 h8
 subst h3; subst h4; subst h5; subst h6; subst h7; subst h8
 rw [Prod.ext h1 h2]
theorem Ml:PF mF rO:=λv w r r' hv hw h=>by
 unfold rO at h
 simp only [fh] at h
 obtain ⟨h1,h⟩:=jn (by decide) _ _ _ _ hv.1 hw.1 h
 obtain ⟨h2,h⟩:=Ix _ _ _ _ hv.2.1 hw.2.1 h
 obtain ⟨h3,h⟩:=Mj _ _ _ _ hv.2.2 hw.2.2 h
 refine ⟨?_,h⟩
 cases v; cases w
 simp only at h1 h2 h3
 subst h1; subst h2; subst h3
 rfl
theorem ahN:PF lT kS:=λv w r r' hv hw h=>by
 unfold kS at h
 simp only [fh] at h
 obtain ⟨v1,v2,v3,v4,v5,v6,⟨v7,v8⟩,v9,⟨va,vb⟩,vc⟩:=hv
 obtain ⟨w1,w2,w3,w4,w5,w6,⟨w7,w8⟩,w9,⟨wa,wb⟩,wc⟩:=hw
 obtain ⟨h1,h⟩:=jn (by decide) _ _ _ _ v1 w1 h
 obtain ⟨h2,h⟩:=jn (by decide) _ _ _ _ v2 w2 h
 obtain ⟨h3,h⟩:=jn (by decide) _ _ _ _ v3 w3 h
 obtain ⟨h4,h⟩:=Ix _ _ _ _ v4 w4 h
 obtain ⟨h5,h⟩:=jn (by decide) _ _ _ _ v5 w5 h
 obtain ⟨h6,h⟩:=Mj _ _ _ _ v6 w6 h
 obtain ⟨h7,h⟩:=CU Ml v7 w7 v8 w8 h
 obtain ⟨h8,h⟩:=E6 _ _ _ _ v9 w9 h
 obtain ⟨h9,h⟩:=CU Mk va wa vb wb h
 obtain ⟨ha,h⟩:=jn (by decide) _ _ _ _ vc wc h
 refine ⟨?_,h⟩
 cases v; cases w
 simp only at h1 h2 h3 h4 h5 h6 h7 h8 h9 ha
 subst h1; subst h2; subst h3; subst h4; subst h5; subst h6; subst h7; subst h8; subst h9; subst ha
 rfl
open Go Go.Lib
def Mm (M N:Mem) (R:bZ α) (A:Option Addr) (c:Nat) (xs:List α):Prop:=
 xs.length<=c/\xs.length<=cE/\(xs=[]\/∃ b o,A=some ⟨b,o,none⟩/\∃ cs t fr,N b=some (.cells cs t fr)/\∀ i x,xs[i]? =some x->∃ l,R.fO M x l/\∀ j v,l[j]? =some v->cs[o+i * R.sz+j]? =some v)
def bR (L:List HP) (R:bZ α) (A:Option Addr) (c:Nat) (xs:List α):Prop:=∀ M h N,M.lR h->Sep L M h->M.le N->h.le N->Mm M N R A c xs
section
variable {α:Type} {R:bZ α} {A:Option Addr} {c:Nat} {xs:List α} {L L':List HP}
theorem a_.n (h:a_ L R A c xs):bR L R A c xs:=λM k N hd hs hM hk=>by
 obtain ⟨a,b,e⟩:=h M k hs
 refine ⟨a,b,e.imp id ?_⟩
 rintro ⟨b,o,rfl,cs,t,fr,hb,eH⟩
 exact ⟨b,o,rfl,cs,t,fr,hM _ _ hb,eH⟩
theorem bR.tail (h:bR L R A c xs):bR (p::L) R A c xs:=λM k N hd ⟨h1,h2,eW,l1,l2,hp,hs⟩ hM hk=>h M h2 N (Mem.i' hd (Mem.le_refl _) l2) hs hM (Mem.le_trans l2 hk)
theorem bR.dT (g:am L L') (h:bR L' R A c xs):bR L R A c xs:=λM k N hd hs hM hk=>h M k N hd (g M k hs) hM hk
theorem gp {t:TypeId}:bR (aN R t A c xs::L) R A c xs:=λM k N hd ⟨h1,h2,eW,l1,l2,hp,hs⟩ hM hk=>by
 refine ⟨?_,hp.1, ?_⟩
 ·rcases hp.2 with ⟨rfl,rfl⟩ | ⟨g,cur,_,_,_,hl,_⟩
  ·simp
  ·exact hl
 ·rcases hp.2 with ⟨_,e⟩ | ⟨g,cur,e,hg,ew,hl,hc,hx⟩
  ·exact .inl e
  ·exact .inr ⟨g,0,e,cur,t,(0,0),hk _ _ (l1 _ _ hg),λi x hi=>let ⟨l,a,b⟩:=hx i x hi; ⟨l,a,λj v hj=>by rw [nD]; exact b j v hj⟩⟩
theorem bR.nil:bR L R A c ([]:List α):=λM k N _ _ _ _=>⟨dF _,dF _,.inl rfl⟩
theorem bR.len (h:bR L R A c xs) (hs:bH W w L):xs.length<=c/\xs.length<=cE:=by
 obtain ⟨M,k,hd,hM,hk,hsep⟩:=hs.ex
 have:=h M k (heapOf w) hd hsep hM hk
 exact ⟨this.1,this.2.1⟩
end
class Fm (L:List HP) (A:Option Addr) (c:Nat) (α:outParam Type) (R:outParam (bZ α)) (xs:outParam (List α)):Prop where
 k:bR L R A c xs
instance {R:bZ α} {xs:List α} [h:Fm L A c α R xs]:Fm (p::L) A c α R xs:=⟨h.k.tail⟩
instance {R:bZ α} {xs:List α}:Fm (sl R A c xs::L) A c α R xs:=⟨a_.n (bV.wC λ_ _ h=>h)⟩
variable{t:TypeId}
instance {R:bZ α} {xs:List α}:Fm (aN R t A c xs::L) A c α R xs:=⟨gp⟩
theorem bJ {R:bZ α} {xs:List α} [h:Fm L A c α R xs]:bR L R A c xs:=h.k
section
variable {r:Option Nat} {n:Nat} {P:Program} {ops:Array Oper} {rest:List Oper} {K:St->Prop} {Q:Exit->St->Prop} {D:List Deferred} {E:cZ} {L L':List HP} {d:Nat} {ty:TypeId} {pos:String} {af:Array Edge}
variable {α:Type} {R:bZ α} {A:Option Addr} {c:Nat} {xs ys:List α}
variable{c':Code}
theorem bR.lens (hk:bR L R A c xs) (h:xs.length<=c/\xs.length<=cE->T r n P c' ⟨D,E,L⟩ Q):T r n P c' ⟨D,E,L⟩ Q:=λW a w hh=>h (hk.len hh.2) W a w hh
theorem bR.yi (hk:bR L R none c xs) (h:xs=[]->T r n P c' ⟨D,E,L⟩ Q):T r n P c' ⟨D,E,L⟩ Q:=λW a w hh=>by
 obtain ⟨M,k,hd,hM,ko,hsep⟩:=hh.2.ex
 rcases (hk M k (heapOf w) hd hsep hM ko).2.2 with e | ⟨b,o,e,_⟩
 ·exact h e W a w hh
 ·cases e
theorem XW {M N:Mem} (hN:N.le (heapOf w)) (h:Mm M N R A c xs):∃ cs,f9 M R xs cs/\(xs.length=0\/∃ a,A=some a/\∀ j v,cs[j]? =some v->w.cell? (a.add j)=some v):=by
 rcases h.2.2 with rfl | ⟨b,o,rfl,cur,t,fr,hb,eH⟩
 ·exact ⟨[],rfl,.inl rfl⟩
 ·obtain ⟨cs,h1,h2⟩:=Ei (R:=R) (M:=M) (cur:=cur) (o:=o) (xs:=xs) (k:=0) (λi x hi=>by
   obtain ⟨l,a,b⟩:=eH i x hi
   exact ⟨l,a,λj v hj=>by rw [nD]; exact b j v hj⟩)
  refine ⟨cs,h1,.inr ⟨_,rfl,λj v hj=> ?_⟩⟩
  rw [Addr.add_plain,rK (hN _ _ hb)]
  simpa using h2 j v hj
variable{x:Operand}{e:TypeId}
theorem vZ {y:Operand} {u:TypeId} {z:Value} {bytes c2:Nat} {A2:Option Addr} {L0:List HP} [ht:dy P t (.slice e)] [hu:dy P u (.slice e)] (hd:Nat.blt d n=true) (hx:ev E x=some (.slice A xs.length c)) (hy:ev E y=some (.slice A2 ys.length c2)) [hf:md L A c α R e xs L0] 
  [he:mD P e z R.sz bytes] (hz:z.cells.size=R.sz) (hb:Nat.blt 0 bytes=true) (rV:bR L0 R A2 c2 ys) (jP:(xs.length+ys.length) * bytes<=140737488355328)
  (h:∀ A' c',TL r n P ops rest ⟨D,(d,.slice A' (xs++ys).length c')::E,aN R e A' c' (xs++ys)::L0⟩ K):
  TL r n P ops (⟨some d,.call {callee:=.builtin .append,args:=#[x,y],argTypes:=#[t,u]},ty,pos,af,none⟩::rest) ⟨D,E,L⟩ K:=
 ma rfl hd rfl (λ_ e=>by cases e) λW a w hh=>by
  have hs:=hh.2.ay hf.g
  obtain ⟨M',k',I2,xn,ko,g1,g2,gd,m1,m2,hp,Fi⟩:=hs.ex
  obtain ⟨cs,h1,h2⟩:=XW (Mem.le_refl _) (rV M' g2 (heapOf w) (Mem.i' I2 (Mem.le_refl _) m2) Fi xn (Mem.le_trans m2 ko))
  have fW:vt P u R.sz (.slice A2 ys.length c2) ys.length cs w:=LA (u:=u) (e:=e) h2 h1.length h1.one
  have jN:bH W w (aN R e A c xs::nV (λM=>f9 M R ys cs) (λhM h=>xX hM h)::L0):=
   ⟨⟨M',k',I2,xn,ko,g1,g2,gd,m1,m2,hp,Mem.emp,g2,Mem.iD _,Mem.iu _,Mem.le_refl _,h1,Fi⟩,hs.os,hs.tape,hs.output,hs.size⟩
  obtain ⟨A',c',w',hr,fm⟩:=K9 (P:=P) (t:=t) (u:=u) (by simpa using hb) hz jN fW (λN m hm _=>by obtain ⟨_,_,_,_,_,hp,_⟩:=hm; exact hp) jP ty
  refine ⟨_,w',_, ?_,fm.ay (am.cons _ (am.drop _ _)),h A' c'⟩
  simp [execOp,resolve,invoke,builtin,hh.1.ev hx,hh.1.ev hy,hr]
variable{j:Nat}
theorem f6 {i:Operand} {ik:IntKind} {k:Nat} {u:α} [ht:dy P t (.slice e)] [hz:hJ P e R.sz] (hd:Nat.blt d n=true) (hx:ev E x=some (.slice A k c)) (hi:ev E i=some (.int ik (j:Int))) (oQ:k=xs.length) (hk:bR L R A c xs) (hu:xs[j]? =some u) 
  (h:∀ b o,A=some ⟨b,o,none⟩->bR L R (some ⟨b,o,none⟩) c xs->TL r n P ops rest ⟨D,(d,.pointer (some ⟨b,o+j * R.sz+0,none⟩))::E,L⟩ K):TL r n P ops (⟨some d,.indexAddr t x i,ty,pos,af,none⟩::rest) ⟨D,E,L⟩ K:=λW a w hh=>by
 subst oQ
 obtain ⟨M,q,eW,hM,hq,hsep⟩:=hh.2.ex
 rcases (hk M q (heapOf w) eW hsep hM hq).2.2 with e | ⟨b,o,e,_⟩
 ·rw [e] at hu; simp at hu
 ·subst e
  have cL:j < xs.length:=(dX.1 hu).1
  exact ab hd J (qK hx hi cL (b:=b) (o:=o+j * R.sz) ⟨o,J,J⟩) (h b o J hk) W a w hh
variable{b o:Nat}
theorem iX {i:Operand} {ik:IntKind} {k:Nat} {u:α} [ht:dy P t (.slice e)] [hz:hJ P e R.sz] (hx:ev E x=some (.slice (some ⟨b,o,none⟩) k c)) (hi:ev E i=some (.int ik (j:Int))) (oQ:k=xs.length) (hu:xs[j]? =some u):
  Yl P E L (.indexAddr t x i) ty (.pointer (some ⟨b,o+j * R.sz+0,none⟩)):=by
 subst oQ
 have cL:j < xs.length:=(dX.1 hu).1
 exact qK hx hi cL (b:=b) (o:=o+j * R.sz) ⟨o,rfl,rfl⟩
theorem gr {u:α} (hk:bR L R A c xs) (hu:xs[j]? =some u) (h:∀ b o,A=some ⟨b,o,none⟩->T r n P c' ⟨D,E,L⟩ Q):T r n P c' ⟨D,E,L⟩ Q:=λW a w hh=>by
 obtain ⟨M,q,eW,hM,hq,hsep⟩:=hh.2.ex
 rcases (hk M q (heapOf w) eW hsep hM hq).2.2 with e | ⟨b,o,e,_⟩
 ·rw [e] at hu; simp at hu
 ·exact h b o e W a w hh
theorem C5 {u:α} (hk:bR L R (some ⟨b,o,none⟩) c xs) (hu:xs[j]? =some u) (hs:bH W w L):∃ l,l.length=R.sz/\bH W w (is R u l::L)/\∀ q v,l[q]? =some v->w.cell? ⟨b,o+j * R.sz+q,none⟩=some v:=by
 obtain ⟨M,k,eW,hM,hq,hsep⟩:=hs.ex
 rcases (hk M k (heapOf w) eW hsep hM hq).2.2 with e | ⟨b',o',e,cs,t,fr,hb,eH⟩
 ·rw [e] at hu; simp at hu
 ·cases e
  obtain ⟨l,hl,hc⟩:=eH j u hu
  refine ⟨l,R.len hl,⟨⟨M,k,eW,hM,hq,Mem.emp,k,Mem.iD _,Mem.iu _,Mem.le_refl _,hl,hsep⟩,hs.os,hs.tape,hs.output,hs.size⟩,λq v hv=> ?_⟩
  rw [rK hb]
  exact hc q v hv
variable{q m:Nat}{l vs:List Value}
theorem KT [ht:iG P t true] [hz:hJ P t m] (hc:∀ q v,l[q]? =some v->w.cell? ⟨b,o+q,none⟩=some v) (hv:mg q m l=some vs):(loadVar t ⟨b,o+q,none⟩).run P w=.ok (.agg vs.toArray) w:=by
 obtain ⟨e,hl⟩:=CN hv
 refine Hj (hk:=by rw [e]; simp; omega) (λi v hi=> ?_)
 rw [e,m8] at hi
 split at hi
 ·rw [qF] at hi
  have:=hc _ _ hi
  rwa [zR]
 ·cases hi
section ex
variable {β:Type} {sz:Nat} {f:α->β->List Value} {g:α->β->List HP} {ok:α->Prop} {eP:∀ x p,(f x p).length=sz} {jf:∀ x p,mh (f x p)=true}
theorem C6 {u:α} (h:bH W w (is (mo sz f g ok eP jf) u l::L)):∃ p,l=f u p/\ok u/\bH W w (g u p++L):=by
 obtain ⟨M,k,hd,hM,hk,h3,h4,BK,l3,l4,⟨p,e,hs,cX⟩,hL⟩:=h.ex
 exact ⟨p,e,cX,⟨M,k,hd,hM,hk,MO hs (Sep.mono (Mem.le_refl _) l4 hL)⟩,h.os,h.tape,h.output,h.size⟩
theorem kh {u:α} {vs:β->List Value} [ht:iG P t true] [hz:hJ P t m] (hd:Nat.blt d n=true) (hx:ev E x=some (.pointer (some ⟨b,o+j * sz+q,none⟩))) (hk:bR L (mo sz f g ok eP jf) (some ⟨b,o,none⟩) c xs) (hu:xs[j]? =some u) (hv:∀ p,mg q m (f u p)=some (vs p)) 
  (h:∀ p,ok u->TL r n P ops rest ⟨D,(d,.agg (vs p).toArray)::E,g u p++L⟩ K):TL r n P ops (⟨some d,.load t x,ty,pos,af,none⟩::rest) ⟨D,E,L⟩ K:=
 ma rfl hd rfl (λ_ e=>by cases e) λW a w hh=>by
  obtain ⟨l,hl,hs,hc⟩:=C5 hk hu hh.2
  obtain ⟨p,rfl,cX,eF⟩:=C6 hs
  have hc:∀ (q:Nat) (v:Value),(f u p)[q]? =some v->w.cell? ⟨b,o+j * sz+q,none⟩=some v:=hc
  exact ⟨_,w,_,by simp only [execOp,hh.1.ev hx,Instr.loadAt,Instr.sureAddr,Sem.run_bind,Sem.run_pure,Result.andThen_ok,KT hc (hv p)],eF,h p cX⟩
theorem KU {u:α} {v:β->Value} [ht:iG P t false] (hd:Nat.blt d n=true) (hx:ev E x=some (.pointer (some ⟨b,o+j * sz+q,none⟩))) (hk:bR L (mo sz f g ok eP jf) (some ⟨b,o,none⟩) c xs) (hu:xs[j]? =some u) (hv:∀ p,kO (f u p) q=some (v p)) 
  (h:∀ p,ok u->TL r n P ops rest ⟨D,(d,v p)::E,g u p++L⟩ K):TL r n P ops (⟨some d,.load t x,ty,pos,af,none⟩::rest) ⟨D,E,L⟩ K:=
 ma rfl hd rfl (λ_ e=>by cases e) λW a w hh=>by
  obtain ⟨l,hl,hs,hc⟩:=C5 hk hu hh.2
  obtain ⟨p,rfl,cX,eF⟩:=C6 hs
  have hc:∀ (q:Nat) (v:Value),(f u p)[q]? =some v->w.cell? ⟨b,o+j * sz+q,none⟩=some v:=hc
  exact ⟨_,w,_,by simp only [execOp,hh.1.ev hx,Instr.loadAt,Instr.sureAddr,Sem.run_bind,Sem.run_pure,Result.andThen_ok,Ci (hc q _ (z8 (hv p)))],eF,h p cX⟩
theorem SG {u:α} {v:Value} [ht:iG P t false] (hx:ev E x=some (.pointer (some ⟨b,o+j * sz+q,none⟩))) (hk:bR L (mo sz f g ok eP jf) (some ⟨b,o,none⟩) c xs) (hu:xs[j]? =some u) (hv:∀ p,kO (f u p) q=some v):Yl P E L (.load t x) ty v:=λn D W a w dst pos af gd ha hs=>by
 obtain ⟨l,hl,dt,hc⟩:=C5 hk hu hs
 obtain ⟨p,rfl,cX,eF⟩:=C6 dt
 have hc:∀ (q:Nat) (v:Value),(f u p)[q]? =some v->w.cell? ⟨b,o+j * sz+q,none⟩=some v:=hc
 simp only [execOp,ha.ev hx,Instr.loadAt,Instr.sureAddr,Sem.run_bind,Sem.run_pure,Result.andThen_ok,Ci (hc q _ (z8 (hv p)))]
theorem abH {u:α} [ht:iG P t true] [hz:hJ P t m] (hx:ev E x=some (.pointer (some ⟨b,o+j * sz+q,none⟩))) (hk:bR L (mo sz f g ok eP jf) (some ⟨b,o,none⟩) c xs) (hu:xs[j]? =some u) (hv:∀ p,mg q m (f u p)=some vs):Yl P E L (.load t x) ty (.agg vs.toArray):=λn D W a w dst pos af gd ha hs=>by
 obtain ⟨l,hl,dt,hc⟩:=C5 hk hu hs
 obtain ⟨p,rfl,cX,eF⟩:=C6 dt
 have hc:∀ (q:Nat) (v:Value),(f u p)[q]? =some v->w.cell? ⟨b,o+j * sz+q,none⟩=some v:=hc
 simp only [execOp,ha.ev hx,Instr.loadAt,Instr.sureAddr,Sem.run_bind,Sem.run_pure,Result.andThen_ok,KT hc (hv p)]
end ex
theorem gi {u:α} {v:Value} {f:α->List Value} [hf:oJ R f] [ht:iG P t false] (hx:ev E x=some (.pointer (some ⟨b,o+j * R.sz+q,none⟩))) (hk:bR L R (some ⟨b,o,none⟩) c xs) (hu:xs[j]? =some u) (hv:kO (f u) q=some v):Yl P E L (.load t x) ty v:=λn D W a w dst pos af gd ha hs=>by
 obtain ⟨l,hl,dt,hc⟩:=C5 hk hu hs
 obtain ⟨M,k,_,_,_,h1,h2,_,_,_,hi,_⟩:=dt.ex
 rw [hf.e _ _ _ hi] at hc
 simp only [execOp,ha.ev hx,Instr.loadAt,Instr.sureAddr,Sem.run_bind,Sem.run_pure,Result.andThen_ok,Ci (hc q _ (z8 hv))]
theorem x_ {u:α} {f:α->List Value} [hf:oJ R f] [ht:iG P t true] [hz:hJ P t m] (hx:ev E x=some (.pointer (some ⟨b,o+j * R.sz+q,none⟩))) (hk:bR L R (some ⟨b,o,none⟩) c xs) (hu:xs[j]? =some u) (hv:mg q m (f u)=some vs):Yl P E L (.load t x) ty (.agg vs.toArray):=λn D W a w dst pos af gd ha hs=>by
 obtain ⟨l,hl,dt,hc⟩:=C5 hk hu hs
 obtain ⟨M,k,_,_,_,h1,h2,_,_,_,hi,_⟩:=dt.ex
 rw [hf.e _ _ _ hi] at hc
 simp only [execOp,ha.ev hx,Instr.loadAt,Instr.sureAddr,Sem.run_bind,Sem.run_pure,Result.andThen_ok,KT hc hv]
theorem KV {p:Prop} {u:α} (hk:bR L R A c xs) (hu:xs[j]? =some u) (hp:∀ M l,R.fO M u l->p) (h:p->T r n P c' ⟨D,E,L⟩ Q):T r n P c' ⟨D,E,L⟩ Q:=λW a w hh=>by
 obtain ⟨M,q,eW,hM,hq,hsep⟩:=hh.2.ex
 rcases (hk M q (heapOf w) eW hsep hM hq).2.2 with e | ⟨b,o,e,cs,t,fr,hb,eH⟩
 ·rw [e] at hu; simp at hu
 ·obtain ⟨l,hl,_⟩:=eH j u hu
  exact h (hp M l hl) W a w hh
theorem Em {p:Prop} {u:α} (hk:bR L R A c xs) (hu:xs[j]? =some u) (hp:∀ M l,R.fO M u l->p) (h:p->TL r n P ops rest ⟨D,E,L⟩ K):TL r n P ops rest ⟨D,E,L⟩ K:=λW a w hh=>by
 obtain ⟨M,q,eW,hM,hq,hsep⟩:=hh.2.ex
 rcases (hk M q (heapOf w) eW hsep hM hq).2.2 with e | ⟨b,o,e,cs,t,fr,hb,eH⟩
 ·rw [e] at hu; simp at hu
 ·obtain ⟨l,hl,_⟩:=eH j u hu
  exact h (hp M l hl) W a w hh
theorem bR.take (h:bR L R A c xs) (j:Nat):bR L R A c (xs.take j):=λM k N hd hs hM hk=>by
 obtain ⟨a,b,e⟩:=h M k N hd hs hM hk
 refine ⟨by rw [gq]; omega,by rw [gq]; omega, ?_⟩
 rcases e with e | ⟨b,o,e,cs,t,fr,hb,eH⟩
 ·left; simp [e]
 ·right
  refine ⟨b,o,e,cs,t,fr,hb,λi x hi=>eH i x ?_⟩
  rw [m8] at hi
  split at hi
  ·exact hi
  ·cases hi
theorem bR.cut (h:bR L R A c xs) (i j cap:Nat) (kA:i<=j) (hj:j<=xs.length) (wV:j<=cap):bR L R (oI A i cap R.sz) (cap - i) ((xs.take j).drop i):=λM k N hd hs hM hk=>by
 obtain ⟨a,b,e⟩:=h M k N hd hs hM hk
 have eP:((xs.take j).drop i).length=j - i:=by simp; omega
 refine ⟨by rw [eP]; omega,by rw [eP]; omega, ?_⟩
 by_cases ajF:i=j
 ·left; apply rC; omega
 ·rcases e with e | ⟨b,o,rfl,cs,t,fr,hb,eH⟩
  ·subst e; left; simp
  ·right
   refine ⟨b,o+i * R.sz, ?_,cs,t,fr,hb,λk x hk=> ?_⟩
   ·unfold oI; rw [if_neg (by omega)]; simp [Addr.add_plain]
   ·rw [qF,m8] at hk
    split at hk
    ·obtain ⟨l,hl,hc⟩:=eH _ _ hk
     refine ⟨l,hl,λq v hq=> ?_⟩
     have:=hc q v hq
     rwa [jI, <- zR] at this
    ·cases hk
theorem bR.drop (h:bR L R A c xs) (hi:i<=xs.length) (hs:bH W w L):bR L R (oI A i c R.sz) (c - i) (xs.drop i):=by
 have h1:=h.len hs
 have:=h.cut i xs.length c hi (fo _) h1.1
 rwa [Cg] at this
end
open Go Go.Proofs Go.Proofs.Tryz
instance:DecidableEq dv:=λa b=>decidable_of_iff (a.cV=b.cV/\a.aK=b.aK/\a.eO=b.eO/\a.cut=b.cut) (by cases a; cases b; simp)
instance:DecidableEq dZ:=λa b=>decidable_of_iff (a.fe=b.fe/\a.order=b.order) (by cases a; cases b; simp)
instance:DecidableEq dj:=λa b=>decidable_of_iff (a.slot=b.slot/\a.bj=b.bj/\a.en=b.en) (by cases a; cases b; simp)
instance:DecidableEq aW:=λa b=>decidable_of_iff (a.dot=b.dot/\a.d7=b.d7/\a.aK=b.aK/\a.eO=b.eO/\a.di=b.di/\a.eZ=b.eZ/\a.jy=b.jy) (by cases a; cases b; simp)
theorem qP {a b:dv}:a=b↔a.cV=b.cV/\a.aK=b.aK/\a.eO=b.eO/\a.cut=b.cut:=by cases a; cases b; simp
theorem sJ {a b:dZ}:a=b↔a.fe=b.fe/\a.order=b.order:=by cases a; cases b; simp
theorem LH {xs ys:List Int} {x y:Int} (h:xs.take i=ys.take i) (hx:xs[i]? =some x) (hy:ys[i]? =some y) (e:x=y):xs.take (i+1)=ys.take (i+1):=by
 rw [rE,rE,h,hx,hy,e]
theorem Mn {α:Type} {xs ys:List α} (h:xs.take i=ys.take i) (h1:xs.length<=i) (h2:ys.length<=i):xs=ys:=by
 rwa [gQ h1,gQ h2] at h
variable{B:Option Addr}{d:Nat}
theorem Qr {xs ys:List Int} (hk:bR L (aI .i64) A c xs) (gV:bR L (aI .i64) B d ys):Fn prog 247 #[.slice A xs.length c,.slice B ys.length d] L (λv L'=>v=.bool (decide (xs=ys))/\L'=L):=by
 refine aH func247 J J J J<|hk.lens λhl=> ?_
 simp only [cE] at hl
 refine aa<|ae J<|O<|ar<|aa<|Y J<|ab J J (bY J)<|Y J<|ab J J (bY J)<|ab J J (dB J J)<|O<|bz J (λf0=> ?_) (λf0=> ?_)
 ·exact aa<|ae J<|O<|av<|aU<|aZ J J al (⟨by rw [cJ]; rintro rfl; exact f0 rfl,J⟩)
 refine az<|ai<|ar<|aa<|ae J<|O<|aX<|cY (σ:=Nat) [0,1] (λi=>i<=xs.length/\xs.take i=ys.take i) (λi kv=>(5,.int .i64 (i:Int))::kv) (λi=>L) (λi=>xs.length - i) (0) J (⟨dF _,J⟩) (al) (dc J) λi hi=>ar<|aa<|Y J<|Y J<|ab J J (bY J)<|ab J J (bU J J)<|O<|bz J (λgK=> ?_) (λgK=> ?_)
 ·refine az<|ai<|ar<|aX ?_
  have hx:=cj (show i < xs.length by omega)
  have hy:=cj (show i < ys.length by omega)
  refine gr hk hx λb1 o1 e1=>gr gV hy λb2 o2 e2=> ?_
  subst e1
  subst e2
  refine bW _ [] [0,2,4,6,8,10,12,14,16] (by kernel_rfl) (am.refl _)<|aq J J<|aq J J<|ak J J (iX (R:=aI .i64) (xs:=xs) J J J hx)<|ak J J (gi (q:=0) J hk hx J)<|aq J J<|aq J J<|ak J J (iX (R:=aI .i64) (xs:=ys) J J J hy)<|ak J J (gi (q:=0) J gV hy J)<|ak J J (dB J J)<|aR<|bz J (λj_=> ?_) (λj_=> ?_)
  ·exact aa<|ae J<|O<|av<|db<|aU<|aU<|db<|aU<|aZ J J al (⟨by rw [cJ]; rintro rfl; exact j_ rfl,J⟩)
  refine az<|bA<|ai<|aQ<|Y J<|ab J J (bE J J (by omega))<|br 16 (v':=.int .i64 ((i+1:Nat):Int)) J (by simp)<|ae J<|O<|ai ?_
  exact ⟨i+1,⟨by omega,LH hi.2 hx hy (eX.1 j_)⟩,by omega,bO rfl⟩
 exact cw<|aY<|aY<|cu<|ai<|aa<|ae J<|O<|av<|aZ J J al (⟨by rw [dV (Mn hi.2 (by omega) (by omega))],J⟩)
theorem YE (a b:dv) (hk:bR L (aI .i64) A c a.cut) (gV:bR L (aI .i64) B d b.cut):Fn prog 140 #[.agg (List.toArray (pj a (A,c))),.agg (List.toArray (pj b (B,d)))] L (λv L'=>v=.bool (decide (a=b))/\L'=L):=by
 refine aH func140 J J J J<|aa<|bS J J J λb2=>bS J J J λb3=>ae J<|O<|aa<|ao J<|ax J J<|ao J<|ax J J<|jJ 22 30 (a=b) ?_ ?_
 ·refine ab J J (kI J J)<|Y J<|dl 10 J (λf0=> ?_) (λf0=> ?_)
  ·refine aj J<|ao J<|aj J<|ax J J<|aj J<|ao J<|aj J<|ax J J<|aj J<|ab J J (kI J J)<|aA J<|Y J<|dl 17 J (λgx=> ?_) (λgx=> ?_)
   ·refine aj J<|ao J<|aj J<|ax J J<|aj J<|ao J<|aj J<|ax J J<|aj J<|ab J J (ce J J)<|aA J<|Y J<|dl 24 J (λmN=> ?_) (λmN=> ?_)
    ·refine aj J<|ao J<|aj J<|ax J J<|aj J<|ao J<|aj J<|ax J J<|aj J<|aB J J (Qr hk.tail.tail gV.tail.tail)<|aA J<|dH J ?_ (by repeat (first | exact dI | refine dJ rfl ?_)) al
     exact bi Value.bool (gX.2 (by simp [qP, *]))
    refine ah J<|ah J<|ah J<|ah J<|ah J<|aA J<|dH J ?_ (by repeat (first | exact dI | refine dJ rfl ?_)) al
    exact bi Value.bool (cJ (by simp [qP, *])).symm
   refine ah J<|ah J<|ah J<|ah J<|ah J<|aA J<|Y J<|ah J<|ah J<|ah J<|ah J<|ah J<|aA J<|dH J ?_ (by repeat (first | exact dI | refine dJ rfl ?_)) al
   exact bi Value.bool (cJ (by simp [qP, *])).symm
  refine ah J<|ah J<|ah J<|ah J<|ah J<|aA J<|Y J<|ah J<|ah J<|ah J<|ah J<|ah J<|aA J<|Y J<|ah J<|ah J<|ah J<|ah J<|ah J<|aA J<|dH J ?_ (by repeat (first | exact dI | refine dJ rfl ?_)) al
  exact bi Value.bool (cJ (by simp [qP, *])).symm
 exact ae J<|O<|av<|cI J J
theorem Yf (a b:dZ) (hk:bR L (aI .i64) A c a.order.cut) (gV:bR L (aI .i64) B d b.order.cut):Fn prog 72 #[.agg (List.toArray (hO a (A,c))),.agg (List.toArray (hO b (B,d)))] L (λv L'=>v=.bool (decide (a=b))/\L'=L):=by
 refine aH func72 J J J J<|aa<|bS J J J λb2=>bS J J J λb3=>ae J<|O<|aa<|ao J<|ax J J<|ao J<|ax J J<|ab J J (fR J J (dh.bool))<|br 9 (v':=.bool (decide (a.fe=b.fe))) J (bi Value.bool (by cases a.fe <;> cases b.fe <;> rfl))<|jJ 7 16 (a=b) ?_ ?_
 ·refine Y J<|dl 10 J (λf0=> ?_) (λf0=> ?_)
  ·refine aj J<|ao J<|aj J<|bD J J<|aj J<|ao J<|aj J<|bD J J<|aj J<|aB J J (YE a.order b.order hk.tail.tail gV.tail.tail)<|aA J<|dH J ?_ (by repeat (first | exact dI | refine dJ rfl ?_)) al
   exact bi Value.bool (gX.2 (by simp [sJ, *]))
  refine ah J<|ah J<|ah J<|ah J<|ah J<|aA J<|dH J ?_ (by repeat (first | exact dI | refine dJ rfl ?_)) al
  exact bi Value.bool (cJ (by simp [sJ, *])).symm
 exact ae J<|O<|av<|cI J J
open Go Go.Proofs Go.Proofs.Tryz
abbrev wJ (a:Int × Int):Value:=.agg (List.toArray [.int .i64 a.1,.int .i64 a.2])
theorem SH:prog.eqGuardType prog.depth 47=false:=by kernel_rfl
theorem aeM:prog.stoodInHeld 47=false:=by kernel_rfl
theorem ahO (dd:Nat) (w:World) (a b:Int × Int):(Op.equalIn (dd+2) 47 (wJ a) (wJ b)).run prog w=.ok (decide (a=b)) w:=by
 have hn:∀ x y,(Op.equalIn (dd+1) 3 (.int .i64 x) (.int .i64 y)).run prog w=.ok (decide (x=y)) w:=λx y=>dh.int (k:=.i64) dd w
 generalize hdd:dd+1=d1 at hn
 have:dd+2=d1+1:=by omega
 rw [this]
 simp [Op.equalIn,runUnderlying47,aeM,part,isAgg3,hn]
 by_cases h1:a.1=b.1 <;> by_cases h2:a.2=b.2 <;> simp [h1,h2,Prod.ext_iff]
variable{E:cZ}{ty:TypeId}
theorem Uo (w:World) (a b:Int × Int):(Op.equal 47 (wJ a) (wJ b)).run prog w=.ok (decide (a=b)) w:=ahO 9998 w a b
variable{x y:Operand}{t':TypeId}
theorem aeN {b:Int × Int} (hx:ev E x=some (wJ a)) (hy:ev E y=some (wJ b)):Yl prog E L (.binOp .eql 47 x y t') ty (.bool (decide (a=b))):=λn D W ac w dst pos af g hv hs=>by
 have h3:∀ xs ys:Array Value,Go.binOp .eql 47 (.agg xs) (.agg ys)=(do Pure.pure (Value.bool (<- Op.equal 47 (.agg xs) (.agg ys))):Sem Value):=λxs ys=>by simp only [Go.binOp]
 simp only [execOp,hv.ev hx,hv.ev hy,eqGuard,h3]
 simp [SH,Uo]
theorem aeO {b:Int × Int} (hx:ev E x=some (wJ a)) (hy:ev E y=some (wJ b)):Yl prog E L (.binOp .neq 47 x y t') ty (.bool (decide (a≠b))):=λn D W ac w dst pos af g hv hs=>by
 have h3:∀ xs ys:Array Value,Go.binOp .neq 47 (.agg xs) (.agg ys)=(do Pure.pure (Value.bool (!(<- Op.equal 47 (.agg xs) (.agg ys)))):Sem Value):=λxs ys=>by simp only [Go.binOp]
 simp only [execOp,hv.ev hx,hv.ev hy,eqGuard,h3]
 simp [SH,Uo]
open Go Go.Proofs Go.Proofs.Tryz
theorem Ad {a b:aW}:a=b↔a.dot=b.dot/\a.d7=b.d7/\a.aK=b.aK/\a.eO=b.eO/\a.di=b.di/\a.eZ=b.eZ/\a.jy=b.jy:=by cases a; cases b; simp
theorem ahP {a b:bQ}:a=b↔a.kind=b.kind/\a.bC=b.bC/\a.cH=b.cH/\a.bj=b.bj/\a.slot=b.slot/\a.en=b.en/\a.d_=b.d_/\a.seen=b.seen/\a.events=b.events/\a.jq=b.jq:=by cases a; cases b; simp
instance:DecidableEq bQ:=λa b=>decidable_of_iff _ ahP.symm
theorem Yg (a b:aW) (hk:bR L (aI .i64) A c a.d7) (gV:bR L (aI .i64) B d b.d7):Fn prog 141 #[.agg (List.toArray (fv a (A,c))),.agg (List.toArray (fv b (B,d)))] L (λv L'=>v=.bool (decide (a=b))/\L'=L):=by
 refine aH func141 J J J J<|aa<|bS J J J λb2=>bS J J J λb3=>ae J<|O<|aa<|ao J<|bD J J<|ao J<|bD J J<|jJ 43 51 (a=b) ?_ ?_
 ·refine ab J J (aeN (a:=a.dot) (b:=b.dot) J J)<|Y J<|dl 10 J (λf0=> ?_) (λf0=> ?_)
  ·refine aj J<|ao J<|aj J<|ax J J<|aj J<|ao J<|aj J<|ax J J<|aj J<|aB J J (Qr hk.tail.tail gV.tail.tail)<|aA J<|Y J<|dl 17 J (λgx=> ?_) (λgx=> ?_)
   ·refine aj J<|ao J<|aj J<|ax J J<|aj J<|ao J<|aj J<|ax J J<|aj J<|ab J J (kI J J)<|aA J<|Y J<|dl 24 J (λmN=> ?_) (λmN=> ?_)
    ·refine aj J<|ao J<|aj J<|ax J J<|aj J<|ao J<|aj J<|ax J J<|aj J<|ab J J (ce J J)<|aA J<|Y J<|dl 31 J (λjV=> ?_) (λjV=> ?_)
     ·refine aj J<|ao J<|aj J<|ax J J<|aj J<|ao J<|aj J<|ax J J<|aj J<|ab J J (kI J J)<|aA J<|Y J<|dl 38 J (λr9=> ?_) (λr9=> ?_)
      ·refine aj J<|ao J<|aj J<|ax J J<|aj J<|ao J<|aj J<|ax J J<|aj J<|ab J J (ce J J)<|aA J<|Y J<|dl 45 J (λxr=> ?_) (λxr=> ?_)
       ·refine aj J<|ao J<|aj J<|ax J J<|aj J<|ao J<|aj J<|ax J J<|aj J<|ab J J (fR J J (dh.bool))<|br 50 (v':=.bool (decide (a.jy=b.jy))) J (bi Value.bool (by cases a.jy <;> cases b.jy <;> rfl))<|aA J<|dH J ?_ (by repeat (first | exact dI | refine dJ rfl ?_)) al
        exact bi Value.bool (gX.2 (by simp [Ad, *]))
       refine ah J<|ah J<|ah J<|ah J<|ah J<|aA J<|dH J ?_ (by repeat (first | exact dI | refine dJ rfl ?_)) al
       exact bi Value.bool (cJ (by simp [Ad, *])).symm
      refine ah J<|ah J<|ah J<|ah J<|ah J<|aA J<|Y J<|ah J<|ah J<|ah J<|ah J<|ah J<|aA J<|dH J ?_ (by repeat (first | exact dI | refine dJ rfl ?_)) al
      exact bi Value.bool (cJ (by simp [Ad, *])).symm
     refine ah J<|ah J<|ah J<|ah J<|ah J<|aA J<|Y J<|ah J<|ah J<|ah J<|ah J<|ah J<|aA J<|Y J<|ah J<|ah J<|ah J<|ah J<|ah J<|aA J<|dH J ?_ (by repeat (first | exact dI | refine dJ rfl ?_)) al
     exact bi Value.bool (cJ (by simp [Ad, *])).symm
    refine ah J<|ah J<|ah J<|ah J<|ah J<|aA J<|Y J<|ah J<|ah J<|ah J<|ah J<|ah J<|aA J<|Y J<|ah J<|ah J<|ah J<|ah J<|ah J<|aA J<|Y J<|ah J<|ah J<|ah J<|ah J<|ah J<|aA J<|dH J ?_ (by repeat (first | exact dI | refine dJ rfl ?_)) al
    exact bi Value.bool (cJ (by simp [Ad, *])).symm
   refine ah J<|ah J<|ah J<|ah J<|ah J<|aA J<|Y J<|ah J<|ah J<|ah J<|ah J<|ah J<|aA J<|Y J<|ah J<|ah J<|ah J<|ah J<|ah J<|aA J<|Y J<|ah J<|ah J<|ah J<|ah J<|ah J<|aA J<|Y J<|ah J<|ah J<|ah J<|ah J<|ah J<|aA J<|dH J ?_ (by repeat (first | exact dI | refine dJ rfl ?_)) al
   exact bi Value.bool (cJ (by simp [Ad, *])).symm
  refine ah J<|ah J<|ah J<|ah J<|ah J<|aA J<|Y J<|ah J<|ah J<|ah J<|ah J<|ah J<|aA J<|Y J<|ah J<|ah J<|ah J<|ah J<|ah J<|aA J<|Y J<|ah J<|ah J<|ah J<|ah J<|ah J<|aA J<|Y J<|ah J<|ah J<|ah J<|ah J<|ah J<|aA J<|Y J<|ah J<|ah J<|ah J<|ah J<|ah J<|aA J<|dH J ?_ (by repeat (first | exact dI | refine dJ rfl ?_)) al
  exact bi Value.bool (cJ (by simp [Ad, *])).symm
 exact ae J<|O<|av<|cI J J
open Go Go.RowKit Go.ChangeShapes Go.WideShapes
theorem Up {α:Type} {p:Nat->α->Prop}:∀ (n:Nat),(∀ i,i < n->∃ a,p i a)->∃ xs:List α,xs.length=n/\∀ i a,xs[i]? =some a->p i a
 | 0,_=>⟨[],rfl,λi a h=>by simp at h⟩
 | n+1,h=>by
  obtain ⟨xs,h1,h2⟩:=Up n (λi hi=>h i (by omega))
  obtain ⟨a,ha⟩:=h n (by omega)
  refine ⟨xs++[a],by simp [h1],λi b hb=> ?_⟩
  by_cases hi:i < xs.length
  ·rw [kF hi] at hb; exact h2 i b hb
  ·rw [nA (by omega)] at hb
   have:i=n:=by
    have:=(dX.1 hb).1
    simp at this; omega
   subst this
   rw [h1] at hb
   simp at hb
   subst hb; exact ha
theorem Uq {α β:Type} {f:α->Option β}:∀ {l:List α} {r:List β},l.mapM f=some r->r.length=l.length/\∀ (i:Nat) (x:α),l[i]? =some x->f x=r[i]?
 | [],r,h=>by simp at h; subst h; simp
 | x::l,r,h=>by
  simp only [List.mapM_cons] at h
  cases e:f x with
  | none=>rw [e] at h; cases h
  | some y=>
   rw [e] at h
   cases e2:l.mapM f with
   | none=>rw [e2] at h; cases h
   | some r'=>
    rw [e2] at h
    cases h
    obtain ⟨h1,h2⟩:=Uq e2
    refine ⟨by simp [h1],λi z hz=> ?_⟩
    cases i with
    | zero=>simp at hz; subst hz; simpa using e
    | succ i=>simpa using h2 i z (by simpa using hz)
structure I7 (H:Type) where
 f:DataW H->Nat
 one:∀ d,1<=f d
 str:∀ b,b.length+1<=f (.lit (.string b))
 slice:∀ e s,(e.map f).sum+1<=f (.slice e s)
 agg:∀ ps,(ps.map f).sum+1<=f (.agg ps)
 ptr:∀ d,f d+1<=f (.ptr d)
def yF (P:Program) (t:TypeId) (R:bZ α) (φ:α->Prop) (μ:α->Nat):Prop:=
 ∀ (H:Type) (enc:TypeId × Value->H) (W:World) (held:Bool) (jB:Nat) (cs:List Value) (d:DataW H) (ps:List MemPlace),DataW.trod enc P W 0 (λ_=>true) held jB t cs=some (d,ps)->(∀ n∈d.weights P t,n<=reachBytes)→
  ∃ a,R.fO (heapOf W) a cs/\φ a/\∀ B:I7 H,μ a<=B.f d
theorem TE:reachBytes=140737488351232:=rfl
variable{e:TypeId}
theorem Vw {n:Int} (h:(Lit.int k n).wf=true):bP k n:=by
 simp only [Lit.wf,kc,decide_eq_true_eq] at h
 exact h
theorem LJ (ht:P.underlying t=some (.int k)):yF P t (aI k) (λ_=>True) (λ_=>1):=λH enc W held jB cs d ps h hw=>by
 obtain ⟨n,rfl,hx,hwf⟩:=DataW.trod_int ht h
 exact ⟨n,⟨rfl,Vw hwf⟩,trivial,λB=>B.one d⟩
theorem abI (ht:P.underlying t=some .bool):yF P t uU (λ_=>True) (λ_=>1):=λH enc W held jB cs d ps h hw=>by
 obtain ⟨b,rfl,hx⟩:=DataW.trod_bool ht h
 exact ⟨b,rfl,trivial,λB=>B.one d⟩
theorem LK (ht:P.underlying t=some .string):yF P t jO (λs=>s.size<=140737488351232) (λs=>s.size+1):=λH enc W held jB cs d ps h hw=>by
 obtain ⟨s,rfl,hx,hs⟩:=DataW.trod_string ht h
 cases hx
 have:=hw s.data.toList.length (by simp [DataW.weights])
 rw [TE] at this
 have ew:s.size=s.data.toList.length:=Lib.size_eq s
 exact ⟨s,⟨rfl,by rw [ew]; simp only [cE]; omega⟩,by show s.size<=_; rw [ew]; exact this,λB=>by show s.size+1<=_; rw [ew]; exact B.str _⟩
def U1 (R:bZ α):bZ (List α):=⟨1,λM xs cs=>∃ A c,cs=[.slice A xs.length c]/\sliceAt M R A c xs,λhM ⟨A,c,e,h⟩=>⟨A,c,e,h.mono hM⟩,λ⟨A,c,e,h⟩=>by rw [e]; rfl,λ⟨A,c,e,h⟩ v hv=>by rw [e] at hv; simp at hv; subst hv; rfl⟩
theorem Qy {H:Type} {d:DataW H} {n:Nat}:∀ {l:List (DataW H)},d∈l->n∈d.weights P e->n∈DataW.weightsAll P e l
 | x::l,hd,hn=>by
  simp only [DataW.weightsAll,gD]
  rcases ig.1 hd with rfl | hd
  ·exact .inl hn
  ·exact .inr (Qy hd hn)
 | [],hd,_=>by cases hd
theorem RV {α β:Type} {f:α->Nat} {g:β->Nat}:∀ {xs:List α} {ys:List β},xs.length=ys.length->(∀ (i:Nat) (x:α) (y:β),xs[i]? =some x->ys[i]? =some y->f x<=g y)->(xs.map f).sum<=(ys.map g).sum
 | [],[],_,_=>by simp
 | x::xs,y::ys,hl,h=>by
  have h0:=h 0 x y rfl rfl
  have ih:=RV (xs:=xs) (ys:=ys) (by simpa using hl) (λi a b ha hb=>h (i+1) a b (by simpa using ha) (by simpa using hb))
  simp only [kq,zS]
  omega
 | [],_::_,hl,_=>by simp at hl
 | _::_,[],hl,_=>by simp at hl
theorem reads_slice {α:Type} {R:bZ α} {φ:α->Prop} {μ:α->Nat} (ht:P.underlying t=some (.slice e)) (ew:P.cellsOf e=R.sz) (h0:0 < R.sz) (hb:0 < P.bytesOf e) (he:yF P e R φ μ):yF P t (U1 R) (λxs=>xs.length * P.bytesOf e<=140737488351232/\∀ x∈xs,φ x) (λxs=>(xs.map μ).sum+1):=λH enc W held jB cs d ps h hw=>by
 rcases DataW.trod_slice ht h with ⟨rfl,hx⟩ | ⟨a,len,cap,De,rest,n,rfl,rfl,hx,_,hl,hm,eP,vo,JC,_⟩
 ·exact ⟨[],⟨none,0,rfl,sliceAt.nil _ _ _ _⟩,⟨by simp,λx hx=>by cases hx⟩,λB=>B.one d⟩
 ·cases hx
  have WN:∀ n∈((De.map (·.1)).length+(rest.map (·.1)).length) * P.bytesOf e::(DataW.weightsAll P e (De.map (·.1))++DataW.weightsAll P e (rest.map (·.1))),n<=reachBytes:=by
   intro n hn; exact hw n (by simpa [DataW.weights,ht] using hn)
  have U2:len * P.bytesOf e<=140737488351232:=by
   have:=WN _ (ie)
   rw [TE] at this
   simp only [gY,eP] at this
   exact kf (nB _ (by omega)) this
  have gt:len<=140737488351232:=kf (G_ _ hb) U2
  have eH:∀ i,i < len->∃ x:α,((∃ l,R.fO (heapOf W) x l/\∀ j v,l[j]? =some v->W.cell? ((a.add (i * R.sz)).add j)=some v)/\φ x)/\∀ y,De[i]? =some y->∀ B:I7 H,μ x<=B.f y.1:=by
   intro i hi
   have h1:=vo i hi
   rw [ew,cj (by omega)] at h1
   cases hc:World.cells? W 0 (a.add (i * R.sz)) R.sz with
   | none=>rw [hc] at h1; cases h1
   | some tg=>
    rw [hc] at h1
    simp only [xU] at h1
    obtain ⟨x,nm,vr,JE⟩:=he H enc W held n tg (De[i]'(by omega)).1 (De[i]'(by omega)).2 h1 (λk hk=>WN k (gO _ (List.mem_append_left _ (Qy (fY.2 ⟨_,Ef (by omega),rfl⟩) hk))))
    refine ⟨x,⟨⟨tg,nm,λj v hj=> ?_⟩,vr⟩,λy hy B=>by rw [cj (by omega)] at hy; cases hy; exact JE B⟩
    simp only [World.cells?,dF,if_true] at hc
    obtain ⟨g1,g2⟩:=Uq hc
    have kB:=(dX.1 hj).1
    have:=g2 j j (by rw [List.getElem?_range (by simpa [g1] using kB)])
    rw [this,hj]
  obtain ⟨xs,kY,rk⟩:=Up len eH
  subst kY
  refine ⟨xs,⟨some a,cap,rfl,hl,by simp only [cE]; omega, ?_⟩,⟨U2,λx hx=>let ⟨i,hi⟩:=od hx; (rk i x hi).1.2⟩,λB=> ?_⟩
  ·cases xs with
   | nil=>exact .inl rfl
   | cons x0 xs=>
    right
    obtain ⟨⟨⟨l0,O2,n6⟩,_⟩,_⟩:=rk 0 x0 rfl
    have WO:=R.len O2
    obtain ⟨v0,hv0⟩:∃ v,l0[0]? =some v:=⟨_,cj (by omega)⟩
    have JF:=n6 0 v0 hv0
    obtain ⟨b,off,spot⟩:=a
    have ai4:spot=none:=by simpa [Addr.add] using World.cell?_spot JF
    subst ai4
    obtain ⟨c,t',fr,VX⟩:∃ c t' fr,W.heap[b]? =some (.cells c t' fr):=by
     simp only [World.cell?,Addr.add_plain] at JF
     split at JF
     ·exact ⟨_,_,_,by assumption⟩
     ·cases JF
    refine ⟨b,off,rfl,c,t',fr,VX,λi x hi=> ?_⟩
    obtain ⟨⟨⟨l,hr,hc⟩,_⟩,_⟩:=rk i x hi
    refine ⟨l,hr,λj v hj=> ?_⟩
    have:=hc j v hj
    rw [Addr.add_plain,Addr.add_plain,rK VX] at this
    exact this
  ·refine kf ?_ (B.slice _ _)
   have:=RV (f:=μ) (g:=λy:DataW H × List MemPlace=>B.f y.1) (xs:=xs) (ys:=De) eP.symm (λi x y hx hy=>(rk i x hx).2 y hy B)
   simp only [sE]
   show (xs.map μ).sum+1<=_
   have e2:(B.f ∘ λx:DataW H × List MemPlace=>x.1)=λy=>B.f y.1:=rfl
   rw [e2]
   omega
variable{H:Type}{v:Value}{ps:List MemPlace}
theorem adh {α:Type} {R:bZ α} {φ:α->Prop} {μ:α->Nat} (hr:yF P t R φ μ) {enc:TypeId × Value->H} {d:DataW H} (h:DataW.Trod enc P W 0 (λ_=>true) true t v d ps) (hw:∀ n∈d.weights P t,n<=reachBytes):∃ a,R.fO (heapOf W) a v.cells.toList/\φ a/\∀ B:I7 H,μ a<=B.f d:=
 let ⟨jB,h⟩:=h
 hr H enc W true jB _ d ps h hw
theorem arg_slice {α:Type} {R:bZ α} {φ:List α->Prop} {μ:List α->Nat} (ht:P.underlying t=some (.slice e)) (hr:yF P t (U1 R) φ μ) {enc:TypeId × Value->H} {base:Nat} {d:DataW H} (hval:Value.okWide P W .any base t v) (h:DataW.Trod enc P W 0 (λ_=>true) true t v d ps) (hw:∀ n∈d.weights P t,n<=reachBytes):
  ∃ A c xs,v=.slice A xs.length c/\sliceAt (heapOf W) R A c xs/\φ xs/\∀ B:I7 H,μ xs<=B.f d:=by
 obtain ⟨A,n,c,rfl⟩:=okWide_slice ht hval
 obtain ⟨xs,⟨A',c',e,h1⟩,h2⟩:=adh hr h hw
 simp only [Value.cells,List.cons.injEq,and_true] at e
 cases e
 exact ⟨_,_,xs,rfl,h1,h2⟩
theorem arg_int (ht:P.underlying t=some (.int k)) {H:Type} {enc:TypeId × Value->H} {base:Nat} {d:DataW H} (hval:Value.okWide P W .any base t v) (h:DataW.Trod enc P W 0 (λ_=>true) true t v d ps):∃ n,v=.int k n/\bP k n:=by
 obtain ⟨n,rfl,_,_,hw⟩:=open_int ht hval h
 exact ⟨n,rfl,Vw hw⟩
variable{enc:TypeId × Value->H}{held:Bool}
theorem XX {k:Nat}:∀ {ts:List TypeId} {ds:List (DataW H)} {i:Nat} {t:TypeId} {d:DataW H},ts[i]? =some t->ds[i]? =some d->k∈d.weights P t->k∈DataW.weightsEach P ts ds:=
 λht hd hk=>DataW.weights_mem_each ht hd _ hk
variable{cs:List Value}
theorem Zn {fs:Array Field} {jB:Nat} {d:DataW H} (ht:P.underlying t=some (.struct fs)) (h:DataW.trod enc P W 0 (λ_=>true) held jB t cs=some (d,ps)) (hw:∀ n∈d.weights P t,n<=reachBytes):
  ∃ (ds:List (DataW H)) (n:Nat),d=.agg ds/\cs.length=P.cellsOf t/\ds.length=fs.size/\∀ (i:Nat) (f:Field),fs[i]? =some f->∃ d' ps',ds[i]? =some d'/\DataW.trod enc P W 0 (λ_=>true) held n f.type ((cs.drop f.offset).take (P.cellsOf f.type))=some (d',ps')/\∀ k∈d'.weights P f.type,k<=reachBytes:=by
 obtain ⟨xs,n,_,hx,hl,eP,hf⟩:=DataW.trod_struct ht h
 cases hx
 refine ⟨_,n,rfl,hl,by simp [eP],λi f hi=> ?_⟩
 have eG:i < xs.length:=by rw [eP]; exact (uy.1 hi).1
 have h1:=hf i f hi
 rw [cj eG] at h1
 refine ⟨xs[i].1,xs[i].2,by simp [eG],h1,λk hk=>hw k ?_⟩
 simp only [DataW.weights,ht]
 exact XX (i:=i) (t:=f.type) (d:=xs[i].1) (by simp [hi]) (by simp [eG]) hk
theorem aeP (h:Sep L (heapOf W) Mem.emp):bH W W L:=⟨⟨heapOf W,Mem.emp,Mem.o8 (Mem.iD _),Mem.le_refl _,Mem.iu _,h⟩,rfl,rfl,rfl,fo _⟩
variable{M:Mem}
theorem sep_nil:Sep [] M Mem.emp:=trivial
theorem sep_cons (h:p.holds M Mem.emp) (k:Sep L M Mem.emp):Sep (p::L) M Mem.emp:=⟨Mem.emp,Mem.emp,Mem.iD _,Mem.le_refl _,Mem.le_refl _,h,k⟩
theorem aeQ {w':World} (h:bH W w' (base (heapOf W)::L)):Below W.heap.size W w':=by
 obtain ⟨M,k,hd,hM,hk,h1,h2,eW,l1,l2,hp,hs⟩:=h.ex
 refine ⟨h.os,h.tape,h.output,h.size,λj hj=> ?_⟩
 have e:heapOf W j=some (W.heap[j]'hj):=D' hj
 have:=hM _ _ (hp _ _ e)
 rw [D' hj]
 exact this
variable{f:FuncId}
theorem law_calls {args:Array Value} (hs:Sep (base (heapOf W)::L) (heapOf W) Mem.emp) (h:Fn P f args (base (heapOf W)::L) (λv L'=>v=.bool true/\L'=base (heapOf W)::L)):Calls P f args W λe W'=>e=.returned (.bool true)/\Below W.heap.size W W':=
 (h W W (aeP hs)).mono λe w' ⟨v,L',he,⟨hv,hL⟩,jN⟩=>by
  subst he; subst hv; subst hL
  exact ⟨rfl,aeQ jN⟩
theorem QJ {H:Type} {enc:TypeId × Value->H} {P:Program} {W W':World} (hl:laidOutB P=true) (hb:Below W.heap.size W W'):∀ {ts:List TypeId} {vs:List Value} {ds:List (DataW H)} {ps:List MemPlace},ts.all (λt=>P.readableRec t && decide (t < P.types.size))=true->DataW.TrodAll enc P W 0 (λ_=>true) true ts vs ds ps->(∀ x∈ps,x.block < W.heap.size)→
  DataW.TrodAll enc P W' 0 (λb=>decide (b < W.heap.size)) true ts vs ds ps
 | [],_,_,_,_,h,_=>by
  obtain ⟨rfl,rfl,rfl⟩:=trodAll_nil h
  exact trodAll_mk0
 | t::ts,vs,ds,ps,zk,h,hp=>by
  obtain ⟨v,vs1,d,ds1,a,b,rfl,rfl,rfl,h1,h2⟩:=trodAll_cons h
  simp only [List.all_cons,kc,decide_eq_true_eq] at zk
  exact trodAll_cons_mk (Below.trod hl zk.1.1 zk.1.2 h1 hb (λx hx=>hp x (List.mem_append_left _ hx))) (QJ hl hb zk.2 h2 (λx hx=>hp x (List.mem_append_right _ hx)))
theorem post_true {enc:TypeId × Value->H} {f:Func} {s:ChangeSpec} {apart fresh handsOn:Bool} {W':World} {args:Array Value} {ds gs:List (DataW H)} {before:List MemPlace} {tb:TypeId} 
  (hW:DataW.Whole enc P f.params.toList s.vars apart W args.toList ds gs before) (hb:Below W.heap.size W W') (hl:laidOutB P=true) (zk:f.params.toList.all (λt=>P.readableRec t && decide (t < P.types.size))=true) (hr:f.resultTypes=#[tb]) (WP:P.underlying tb=some .bool) (hv:s.vars=[])
  (O3:s.fn H (ds++gs)={results:=[.lit (.bool true)],args:=ds}):s.post enc P f apart fresh handsOn false W args (.bool true) W':=by
 have hW':=hW
 obtain ⟨p,q,hA,hV,rfl,hfz,hnd⟩:=hW
 rw [hv] at hV
 obtain ⟨rfl,rfl⟩:=trodVars_none hV
 refine ⟨ds,[],p++[],[],p,[],hW', ?_, ?_, ?_,hb.frame _,λh=>by cases h⟩
 ·rw [O3,hr]
  exact trodAll_cons_mk (shut_bool WP true) trodAll_mk0
 ·rw [O3]
  exact QJ hl hb zk hA (λx hx=>by simpa using hW'.lt x (by simpa using hx))
 ·rw [O3,hv]
  exact (by simp [DataW.TrodVars])
open Go Go.Proofs Go.Proofs.Tryz
theorem MR:prog.cellsOf 3=1:=by kernel_rfl
theorem ags:prog.cellsOf 4=1:=by kernel_rfl
theorem MS:prog.cellsOf 9=1:=by kernel_rfl
open Go Go.Proofs
def dE:bZ bQ:=mo 15 dq (λm p=>[sl (aI .i64) p.cut.1 p.cut.2 m.en.order.cut,sl dz p.d_.1 p.d_.2 m.d_,sl (aI .i64) p.seen.1 p.seen.2 m.seen,sl bK p.events.1 p.events.2 m.events]) gf (λ_ _=>rfl) (λ_ _=>rfl)
theorem Aj {α:Type} {R:bZ α} {xs:List α} (k:sliceAt M R A c xs) (h:Sep L M Mem.emp):Sep (sl R A c xs::L) M Mem.emp:=⟨Mem.emp,Mem.emp,Mem.iD _,Mem.le_refl _,Mem.le_refl _,k,h⟩
open Go Go.Proofs
abbrev nk (m:bQ) (p:gg):Value:=.agg (List.toArray (dq m p))
theorem In (h:j7 s=0):s.2=false/\f' s=s.1:=by
 unfold j7 at h
 split at h
 ·simp at h
 ·rename_i h1
  split at h
  ·simp at h
  ·rename_i h2
   have y_:s.2=false:=by simpa using h1
   exact ⟨y_,by rw [f',if_neg (by rw [y_]; simp; omega)]⟩
theorem CV (h:j7 (fT m ([],false))=0):lT m/\f' (fT m ([],false))=kS m:=by
 obtain ⟨h1,h2⟩:=In h
 have hr:=(TB.1 h1).2
 rw [h2,agq rfl hr]
 exact ⟨hr,rfl⟩
theorem adi {m:aW} (h:j7 (iZ m ([],false))=0):nb m/\f' (iZ m ([],false))=qS m:=by
 obtain ⟨h1,h2⟩:=In h
 have hr:=(RR.1 h1).2
 rw [h2,LG rfl hr]
 exact ⟨hr,rfl⟩
theorem fN.lay {p:gg} (h:fN L m p):am L (sl (aI .i64) p.cut.1 p.cut.2 m.en.order.cut::sl dz p.d_.1 p.d_.2 m.d_::sl (aI .i64) p.seen.1 p.seen.2 m.seen::sl bK p.events.1 p.events.2 m.events::L):=
 (a_.lay h.events).trans ((a_.lay h.seen.tail).trans ((a_.lay h.d_.tail.tail).trans (a_.lay h.cut.tail.tail.tail)))
theorem ahQ (a:Int) {n:Int} (hn:0 < n):a.tmod n=a % n\/a.tmod n=a % n - n:=by
 rw [Int.tmod_eq_emod]
 split
 ·left; omega
 ·right; omega
theorem aeR (a:Int) {n:Int} (hn:0 < n):-n < a.tmod n/\a.tmod n < n:=by
 have h1:=Int.emod_nonneg a (by omega:n≠0)
 have h2:=Int.emod_lt_of_pos a hn
 rw [Int.tmod_eq_emod]
 split
 ·omega
 ·rename_i h
  have h3:a % n≠0:=λe=>h (.inr (Int.dvd_of_emod_eq_zero e))
  omega
theorem ahR (a:Int) {n:Int} (hn:0 < n):(a.tmod n+n).tmod n=a % n:=by
 have h1:=Int.emod_nonneg a (by omega:n≠0)
 have h2:=Int.emod_lt_of_pos a hn
 rcases ahQ a hn with h | h
 ·rw [h,Int.tmod_eq_emod_of_nonneg (by omega),Int.add_emod_right,Int.emod_eq_of_lt h1 h2]
 ·rw [h,show a % n - n+n=a % n by omega,Int.tmod_eq_emod_of_nonneg h1,Int.emod_eq_of_lt h1 h2]
section
variable {α:Type} {p:α->Bool} {l:List α} {x:α}
def u9 (p:α->Bool):List α->Nat
 | []=>0
 | x::r=>if p x then u9 p r+1 else 0
def u_ (p:α->Bool) (x:α) (l:List α):List α:=l.take (u9 p l)++x::l.drop (u9 p l)
theorem SI:∀ l:List α,∀ q∈l.take (u9 p l),p q=true
 | [],q,hq=>by simp at hq
 | x::r,q,hq=>by
  cases hx:p x with
  | false=>simp [u9,hx] at hq
  | true=>
   simp [u9,hx] at hq
   rcases hq with rfl | hq
   ·exact hx
   ·exact SI r q hq
theorem SJ {r:α->α->Prop}:∀ {l:List α},l.Pairwise r->(∀ a∈l,∀ b∈l,r a b->p b=true->p a=true)->∀ q∈l.drop (u9 p l),p q=false
 | [],_,_,q,hq=>by simp at hq
 | x::t,hs,hm,q,hq=>by
  cases hx:p x with
  | true=>
   simp [u9,hx] at hq
   exact SJ (qG.1 hs).2 (λa ha b hb=>hm a (gO _ ha) b (gO _ hb)) q hq
  | false=>
   simp [u9,hx] at hq
   rcases hq with rfl | hq
   ·exact hx
   ·cases hpq:p q with
    | false=>rfl
    | true=>rw [hm x ie q (gO _ hq) ((qG.1 hs).1 q hq) hpq] at hx; cases hx
theorem Ew (p:α->Bool) (x:α) (l:List α):(u_ p x l).Perm (x::l):=by
 unfold u_
 refine vU.trans (List.Perm.cons _ ?_)
 rw [qE]
theorem TG (p:α->Bool) (x:α) (l:List α):(u_ p x l).length=l.length+1:=(Ew p x l).length_eq
theorem EJ {q:α}:q∈u_ p x l↔q=x\/q∈l:=by rw [(Ew p x l).mem_iff]; simp
theorem KW {r:α->α->Prop} (hs:l.Pairwise r) (h1:∀ q∈l,p q=true->r q x) (h2:∀ q∈l,p q=false->r x q) (hm:∀ a∈l,∀ b∈l,r a b->p b=true->p a=true):(u_ p x l).Pairwise r:=by
 unfold u_
 have e:=qE (u9 p l) l
 have fm:=hs
 rw [<- e] at fm
 obtain ⟨q1,q2,q3⟩:=Eb.1 fm
 refine Eb.2 ⟨q1,qG.2 ⟨λq hq=>h2 q (List.mem_of_mem_drop hq) (SJ hs hm q hq),q2⟩,λa ha b hb=> ?_⟩
 rcases ig.1 hb with rfl | hb
 ·exact h1 a (Cf ha) (SI l a ha)
 ·exact q3 a ha b hb
end
theorem aeS {α:Type} {xs ys:List α} {x y:α} (h:xs.take i=ys.take i) (hx:xs[i]? =some x) (hy:ys[i]? =some y) (e:x=y):xs.take (i+1)=ys.take (i+1):=by
 rw [rE,rE,h,hx,hy,e]
theorem agt {α:Type} {xs ys:List α} (h:xs.take i=ys.take i) (h1:xs.length<=i) (h2:ys.length<=i):xs=ys:=by
 rwa [gQ h1,gQ h2] at h
theorem ll {α:Type} {l:List α} {s:α} (h:l[i]? =some s):l.take (i+1)=l.take i++[s]:=by rw [rE,h]; rfl
open Go
structure gm where
 node:Int
 prom:Int × Int
 V:List dj
abbrev ji (V:List dj):List (Int × dj):=V.map λv=>(v.slot,v)
def Bd (V:List dj):Prop:=V.Pairwise λp q=>p.slot < q.slot
structure AI (s:gm):Prop where
 node:0<=s.node/\s.node<=6
 prom:jr s.prom
 inc:Bd s.V
 len:s.V.length<=4096
 ok:∀ v∈s.V,mF v/\pU v
abbrev yG:dZ:=⟨true,⟨⟨#[]⟩,⟨#[]⟩,0,[]⟩⟩
def oL (m:bQ):dj:=⟨m.slot,m.bj,m.en⟩
def t2 (V:List dj) (v:dj):List dj:=u_ (λq:dj=>decide (q.slot < v.slot)) v (V.filter λq=> !decide (q.slot=v.slot))
def fZ (s:gm) (m:bQ):Prop:=j7 (fT m ([],false))=0/\m.cH=s.node/\(m.kind=1\/m.kind=3)
def fA (s:gm) (m:bQ):Prop:=ni m.bj s.prom < 0\/(m.kind=3/\cq (ji s.V) m.slot=none/\4096<=s.V.length)
def fE (s:gm) (m:bQ):Prop:=s.prom≠m.bj\/(m.kind=3/\cq (ji s.V) m.slot≠some (oL m))
instance (s:gm) (m:bQ):Decidable (fZ s m):=by unfold fZ; exact inferInstance
instance (s:gm) (m:bQ):Decidable (fA s m):=by unfold fA; exact inferInstance
noncomputable instance (s:gm) (m:bQ):Decidable (fE s m):=Classical.propDecidable _
noncomputable def eY (s:gm) (m:bQ):ByteArray:=if fZ s m/\¬ fA s m/\fE s m then strOfNums (f' (fT m ([],false))) else ⟨#[]⟩
def ow (V:List dj) (slot:Int):List dj:=V.filter λv=>decide (slot<=v.slot)
def s_ (s:gm) (m:bQ) (kind:Int) (bj:Int × Int) (d_:List dj):bQ:=⟨kind,s.node,m.bC,bj,m.slot,yG,d_,[],[],0⟩
def jW (s:gm) (m:bQ):gm:=if fZ s m/\¬ fA s m then ⟨s.node,m.bj,if m.kind=1 then s.V else t2 s.V (oL m)⟩ else s
def fk (s:gm) (m:bQ):bQ:=if fZ s m then (if fA s m then s_ s m 5 s.prom [] else if m.kind=1 then s_ s m 2 m.bj (ow s.V m.slot) else s_ s m 4 m.bj []) else ⟨0,0,0,(0,0),0,⟨false,⟨⟨#[]⟩,⟨#[]⟩,0,[]⟩⟩,[],[],[],0⟩
variable{s:gm}{V:List dj}
theorem TH (h:fZ s m):lT m:=(CV h.1).1
variable{v:dj}
theorem Mo {k:Int} (h:cq (ji V) k=some v):v∈V/\v.slot=k:=by
 have:=wj h
 obtain ⟨q,hq,e⟩:=fY.1 this
 cases e
 exact ⟨hq,rfl⟩
theorem adj {k:Int}:cq (ji V) k=none↔∀ v∈V,v.slot≠k:=by
 rw [o9]
 constructor
 ·intro h v hv; exact h (v.slot,v) (fY.2 ⟨v,hv,rfl⟩)
 ·rintro h q hq; obtain ⟨v,hv,rfl⟩:=fY.1 hq; exact h v hv
theorem agu (h:Bd V):ND (ji V):=oh.2 (h.imp λh e=>by dsimp only at e; omega)
theorem aeT (h:Bd V) (hv:v∈V):cq (ji V) v.slot=some v:=zW (agu h) (fY.2 ⟨v,hv,rfl⟩)
theorem aeU (k:Int):fS (ji V) k=ji (V.filter λq=> !decide (q.slot=k)):=by
 unfold fS; rw [Eg]; rfl
theorem aeV:((v.slot,v)::fS (ji V) v.slot).Perm (ji (t2 V v)):=by
 rw [aeU]
 exact ((Ew (λq:dj=>decide (q.slot < v.slot)) v (V.filter λq=> !decide (q.slot=v.slot))).map λq:dj=>(q.slot,q)).symm
theorem agv {q:dj}:q∈t2 V v↔q=v\/(q∈V/\q.slot≠v.slot):=by
 unfold t2; rw [EJ,ke]; simp
theorem agw (h:Bd V):Bd (t2 V v):=by
 refine KW (h.filter _) (λq _ hq=>by simpa using hq) (λq hq cL=> ?_) (λa _ b _ rl hb=>by simp at hb ⊢; omega)
 have h1:=(ke.1 hq).2
 simp at h1 cL
 show v.slot < q.slot
 omega
theorem Yh (h:Bd V) (hv:v∈V):(V.filter λq=> !decide (q.slot=v.slot)).length+1=V.length:=by
 induction V with
 | nil=>cases hv
 | cons x r ih=>
  obtain ⟨h1,h2⟩:=qG.1 h
  rw [uA,dO]
  rcases ig.1 hv with rfl | hv
  ·have e:r.filter (λq=> !decide (q.slot=v.slot))=r:=rD.2 λq hq=>by have:=h1 q hq; simp; omega
   simp [e]
  ·have:=h1 v hv
   have e:(!decide (x.slot=v.slot))=true:=by simp; omega
   rw [if_pos e,dO,ih h2 hv]
theorem agx (h:Bd V):(t2 V v).length=if (cq (ji V) v.slot).isSome then V.length else V.length+1:=by
 unfold t2; rw [TG]
 cases hg:cq (ji V) v.slot with
 | none=>
  have:=adj.1 hg
  rw [rD.2 (λq hq=>by simpa using this q hq)]; simp
 | some u=>
  obtain ⟨h1,h2⟩:=Mo hg
  have:=Yh h h1
  rw [h2] at this
  simp; omega
theorem AI.step (h:AI s) (hx:gf m):AI (jW s m):=by
 unfold jW
 split
 ·rename_i hc
  obtain ⟨hm,hn⟩:=hc
  have hr:=TH hm
  by_cases hk:m.kind=1
  ·rw [if_pos hk]; exact ⟨h.node,hr.2.2.2.1,h.inc,h.len,h.ok⟩
  ·rw [if_neg hk]
   refine ⟨h.node,hr.2.2.2.1,agw h.inc, ?_,λv hv=> ?_⟩
   ·have hl:=agx (v:=oL m) h.inc
    have h3:m.kind=3:=by rcases hm.2.2 with e | e; exact absurd e hk; exact e
    have eP:=h.len
    show (t2 s.V (oL m)).length<=4096
    rw [hl]
    split
    ·exact eP
    ·rename_i hs
     have hg:cq (ji s.V) m.slot=none:=by
      cases e:cq (ji s.V) m.slot with
      | none=>rfl
      | some u=>exact absurd (by show (cq (ji s.V) m.slot).isSome=true; rw [e]; rfl) hs
     have:¬ 4096<=s.V.length:=λe=>hn (.inr ⟨h3,hg,e⟩)
     omega
   ·rcases agv.1 hv with rfl | ⟨hv,_⟩
    ·exact ⟨⟨hr.2.2.2.2.1,hr.2.2.2.1,hr.2.2.2.2.2.1⟩,hx.slot,hx.b1,hx.b2,hx.en⟩
    ·exact h.ok v hv
 ·exact h
theorem AI.drop (h:AI s) (k:Int):AI ⟨s.node,s.prom,ow s.V k⟩:=⟨h.node,h.prom,h.inc.filter _,kf (kG _ _) h.len,λv hv=>h.ok v (ke.1 hv).1⟩
open Go
structure mP where
 slot:Int
 en:dZ
 by_:List Bool
structure PP where
 node:Int
 nodes:Int
 phase:Int
 bj:Int × Int
 seen:Int × Int
 bC:Int
 next:Int
 told:List Bool
 kept:List dj
 F:List mP
abbrev r_:List Bool:=List.replicate 7 false
def oz (node nodes:Int):PP:=⟨node,nodes,0,(0,0),(0,0),0,0,r_,[],[]⟩
def kL (p:PP):PP:={p with phase:=0,bj:=(0,0),next:=0,told:=r_,kept:=[],F:=[]}
def uf (m:bQ) (node:Int) (to:Int):bQ:={m with bC:=node,cH:=to}
def qi (node nodes:Int) (m:bQ) (bs:List Bool) (k:Nat):List bQ:=((List.range k).filter λi:Nat=> !decide (nX bs nodes (i:Int))).map λi:Nat=>uf m node (i:Int)
def FA (p:PP) (m:bQ) (bs:List Bool):List bQ:=qi p.node p.nodes m bs p.nodes.toNat
abbrev Vx (p:PP):bQ:=⟨1,0,0,p.bj,p.bC,yG,[],[],[],0⟩
abbrev FB (p:PP) (slot:Int) (e:dZ):bQ:=⟨3,0,0,p.bj,slot,e,[],[],[],0⟩
def wK (p:PP):List bQ:=FA p (Vx p) p.told
def ta (p:PP) (f:mP):List bQ:=FA p (FB p f.slot f.en) f.by_
def wL (b:Int × Int):Prop:=0<=b.1/\b.1<=2147483647/\0<=b.2/\b.2 < 7
instance (b:Int × Int):Decidable (wL b):=by unfold wL; exact inferInstance
def i_ (a b:Int × Int):Int × Int:=if ni a b < 0 then b else a
def kM (p:PP) (floor:Int × Int) (slot:Int):Int:=if slot < 0\/2147483647 < slot\/¬ wL floor then 1 else (j1 (i_ floor p.seen) p.node).2
def iN (p:PP) (floor:Int × Int) (slot:Int):PP:=if kM p floor slot=0 then {kL p with phase:=1,bj:=(j1 (i_ floor p.seen) p.node).1,seen:=(j1 (i_ floor p.seen) p.node).1,bC:=slot} else p
def ku (p:PP) (floor:Int × Int) (slot:Int):List bQ:=if kM p floor slot=0 then wK (iN p floor slot) else []
def t3 (p:PP) (slot:Int) (e:dZ):PP:={p with F:=⟨slot,e,r_⟩::p.F,next:=slot+1}
def vd (p:PP) (slot:Int) (e:dZ):List bQ:=ta p ⟨slot,e,r_⟩
def Nz (p:PP):Int:=p.kept.foldl (λm v=>max m v.slot) (p.bC - 1)
def uV (l:List dj) (slot:Int):dZ:=(tU (qa slot l)).en
def jo (p:PP) (l:List dj):Nat->PP × List bQ
 | 0=>({p with phase:=2,next:=p.bC,kept:=[]},[])
 | k+1=>(t3 (jo p l k).1 (p.bC+k) (uV l (p.bC+k)),(jo p l k).2++vd (jo p l k).1 (p.bC+k) (uV l (p.bC+k)))
def wM (p:PP):PP × List bQ:=if 4096<=Nz p - p.bC then (kL p,[]) else jo p p.kept (Nz p - p.bC+1).toNat
def uO (bs:List Bool) (n:Int):Prop:=n / 2+1<=((yS bs n).length:Int)
instance (bs:List Bool) (n:Int):Decidable (uO bs n):=by unfold uO; exact inferInstance
def wv (p:PP) (m:bQ):Prop:=p.phase=1/\m.bj=p.bj/\m.slot=p.bC/\th p.nodes m.bC/\¬ nX p.told p.nodes m.bC
instance (p:PP) (m:bQ):Decidable (wv p m):=by unfold wv; exact inferInstance
def tX (p:PP) (m:bQ):PP:={p with told:=jh p.told p.nodes m.bC,kept:=p.kept++m.d_}
def ng (p:PP) (m:bQ):PP × List bQ:=if wv p m then (if uO (tX p m).told p.nodes then wM (tX p m) else (tX p m,[])) else (p,[])
def Be (F:List mP) (slot:Int):Option mP:=F.find? λf=>decide (f.slot=slot)
def yH (F:List mP) (slot:Int):List mP:=F.filter λf=> !decide (f.slot=slot)
def ww (F:List mP) (slot:Int) (n node:Int):List mP:=F.map λf=>if f.slot=slot then {f with by_:=jh f.by_ n node} else f
def jR (p:PP) (m:bQ):PP × List dj:=
 if p.phase=2/\m.bj=p.bj then
  match Be p.F m.slot with
  | none=>(p,[])
  | some f=>if uO (jh f.by_ p.nodes m.bC) p.nodes then ({p with F:=yH p.F m.slot},[⟨m.slot,p.bj,f.en⟩]) else ({p with F:=ww p.F m.slot p.nodes m.bC},[])
 else (p,[])
def wN (p:PP) (m:bQ):PP:=if p.phase≠0/\0 < ni m.bj p.bj then {kL p with seen:=i_ p.seen m.bj} else p
def Ap (p:PP) (m:bQ):Prop:=m.cH=p.node/\m.bC < p.nodes/\j7 (fT m ([],false))=0
instance (p:PP) (m:bQ):Decidable (Ap p m):=by unfold Ap; exact inferInstance
def gn (p:PP) (m:bQ):PP × List bQ × List dj:=
 if ¬ Ap p m then (p,[],[])
 else if m.kind=2 then ((ng p m).1,(ng p m).2,[])
 else if m.kind=4 then ((jR p m).1,[],(jR p m).2)
 else if m.kind=5 then (wN p m,[],[])
 else (p,[],[])
def qX (p:PP) (e:dZ):Int:=if ¬ f_ e then 1 else if p.phase≠2 then 4 else if 4096<=(p.F.length:Int)\/2147483647 < p.next then 2 else 0
def nS (p:PP) (e:dZ):PP:=if qX p e=0 then t3 p p.next e else p
def qY (p:PP) (e:dZ):List bQ:=if qX p e=0 then vd p p.next e else []
def Aq (p:PP):List bQ:=if p.phase=1 then wK p else (p.F.reverse.map (ta p)).flatten
def tK (p:PP):List dj:=p.F.reverse.map λf=>⟨f.slot,p.bj,f.en⟩
open Go
variable{args:Array Value}
variable{ψ:Value->Prop}
theorem Vy {φ:Mem->Prop} (hm:∀ {M N:Mem},M.le N->φ M->φ N) (h:∀ L,bV L φ->Fn P f args L (λv L'=>ψ v/\L'=L)) (hφ:∀ M k N,M.lR k->Sep L M k->M.le N->k.le N->φ N):Fn P f args L (λv L'=>ψ v/\L'=L):=λo w hs=>by
 obtain ⟨M,k,hd,hM,ko,hsep⟩:=hs.ex
 have h3:=hφ M k (heapOf w) hd hsep hM ko
 have hw:bH o w [base (heapOf w)]:=⟨⟨heapOf w,Mem.emp,Mem.Tl _,Mem.le_refl _,Mem.iu _,Mem.emp,Mem.emp,Mem.iD _,Mem.iu _,Mem.iu _,Mem.le_refl _,trivial⟩,hs.os,hs.tape,hs.output,hs.size⟩
 refine (h [base (heapOf w)] (λN m ⟨_,_,_,_,_,hb,_⟩=>hm hb h3) o w hw).mono ?_
 rintro e w' ⟨v,L',rfl,⟨hψ,rfl⟩,fm⟩
 obtain ⟨M',k',_,xn,_,_,_,_,_,_,hb,_⟩:=fm.ex
 have gt:(heapOf w).le (heapOf w'):=Mem.le_trans hb xn
 exact ⟨v,L,rfl,⟨hψ,rfl⟩,⟨⟨M,k,hd,Mem.le_trans hM gt,Mem.le_trans ko gt,hsep⟩,fm.os,fm.tape,fm.output,fm.size⟩⟩
theorem zX {α:Type} {N:Mem} {R:bZ α} {xs:List α} (hM:M.le N) (h:Mm M N R A c xs):sliceAt N R A c xs:=by
 obtain ⟨a,b,h⟩:=h
 refine ⟨a,b,h.imp id ?_⟩
 rintro ⟨b,o,rfl,cs,t,fr,hb,eH⟩
 exact ⟨b,o,rfl,cs,t,fr,hb,λi x hi=>let ⟨l,u,v⟩:=eH i x hi; ⟨l,R.mono hM u,v⟩⟩
variable{l:List Value}
theorem jZ {α:Type} {R:bZ α} {x:α} (h:bV L (λM=>R.fO M x l)):bV L (λM=>f9 M R [x] l):=h.mono λM h=>⟨l,[],h,rfl,by simp⟩
theorem U3 {α:Type} {R:bZ α} {xs:List α} (h:∀ L,a_ L R A c xs->Fn P f args L (λv L'=>ψ v/\L'=L)) (hk:bR L R A c xs):Fn P f args L (λv L'=>ψ v/\L'=L):=
 Vy (φ:=λM=>sliceAt M R A c xs) (λhM h=>h.mono hM) h λM k N hd hs hM ko=>zX hM (hk M k N hd hs hM ko)
class yU {α:Type} (R:bZ α) (β:outParam Type) (sz:outParam Nat) (f:outParam (α->β->List Value)) (g:outParam (α->β->List HP)) (ok:outParam (α->Prop)):Prop where
 e:∃ eP jf,R=mo sz f g ok eP jf
section
variable {r:Option Nat} {n:Nat} {P:Program} {ops:Array Oper} {rest:List Oper} {KK:St->Prop} {Q:Exit->St->Prop} {D:List Deferred} {E:cZ} {L L0:List HP} {d:Nat} {ty:TypeId} {pos:String} {af:Array Edge}
variable {α β κ:Type} [DecidableEq κ] {sz:Nat} {f:α->β->List Value} {g:α->β->List HP} {ok:α->Prop} {eP:∀ x p,(f x p).length=sz} {jf:∀ x p,mh (f x p)=true} {K:hU κ} {b:Nat} {m:List (κ × α)}
theorem Ur:∀ {l:List Value},(∀ v∈l,v.oneCell'=true)->mh l=true
 | [],_=>rfl
 | v::l,h=>by
  unfold mh
  rw [h v ie,Ur λu hu=>h u (gO _ hu)]; rfl
theorem Df {a b:Int} (hx:ev E x=some (.int k a)) (hy:ev E y=some (.int k b)):Yl P E L (.call {callee:=.builtin .max,args:=#[x,y],argTypes:=#[t,t']}) ty (.int k (max a b)):=λn D W ac w dst pos af g ha hs=>by
 have e:(if a < b then b else a)=max a b:=by omega
 simp [execOp,resolve,invoke,builtin,ha.ev hx,ha.ev hy,Builtin.max_,Builtin.max2,e]
theorem U4 {u:α} (h:∀ p,l=f u p->ok u->TL r n P ops rest ⟨D,E,g u p++L⟩ KK):TL r n P ops rest ⟨D,E,is (mo sz f g ok eP jf) u l::L⟩ KK:=λW a w hh=>by
 obtain ⟨p,e,o,hs⟩:=C6 hh.2
 exact h p e o W a w ⟨hh.1,hs⟩
variable{kt et:TypeId}
theorem KX {R:bZ α} [hR:yU R β sz f g ok] {z:Value} {k:κ} [ht:dy P t (.map kt et)] [hf:iI L b κ α K R true m L0] [hk:kw P kt K] [hz:l_ P et z] (hd:Nat.blt d n=true) (hx:ev E x=some (.map (some b))) (hy:ev E y=some (K.enc k)) (cX:K.ok k) 
  (h0:cq m k=none->TL r n P ops rest ⟨D,(d,z)::E,L⟩ KK) (h1:∀ u p,cq m k=some u->ok u->TL r n P ops rest ⟨D,(d,.agg (f u p).toArray)::E,g u p++(cy K R true b m::L0)⟩ KK):
  TL r n P ops (⟨some d,.lookup t x y false,ty,pos,af,none⟩::rest) ⟨D,E,L⟩ KK:=by
 obtain ⟨eP,jf,rfl⟩:=hR.e
 exact Sx hd hx hy cX h0 λu cs hu=>U4 λp e ho=>by subst e; exact h1 u p hu ho
theorem o4 {R:bZ α} [hR:yU R β sz f g ok] {z:Value} {k:κ} [ht:dy P t (.map kt et)] [hf:iI L b κ α K R true m L0] [hk:kw P kt K] [hz:l_ P et z] (hd:Nat.blt d n=true) (hx:ev E x=some (.map (some b))) (hy:ev E y=some (K.enc k)) (cX:K.ok k) 
  (h0:cq m k=none->TL r n P ops rest ⟨D,(d,.tuple #[z,.bool false])::E,L⟩ KK) (h1:∀ u p,cq m k=some u->ok u->TL r n P ops rest ⟨D,(d,.tuple #[.agg (f u p).toArray,.bool true])::E,g u p++(cy K R true b m::L0)⟩ KK):
  TL r n P ops (⟨some d,.lookup t x y true,ty,pos,af,none⟩::rest) ⟨D,E,L⟩ KK:=by
 obtain ⟨eP,jf,rfl⟩:=hR.e
 exact Zi hd hx hy cX h0 λu cs hu=>U4 λp e ho=>by subst e; exact h1 u p hu ho
variable{c:Code}
theorem NA {R:bZ α} [hR:yU R β sz f g ok] {u:α} (h:∀ p,l=f u p->ok u->T r n P c ⟨D,E,g u p++L⟩ Q):T r n P c ⟨D,E,is R u l::L⟩ Q:=by
 obtain ⟨eP,jf,rfl⟩:=hR.e
 exact λW a w hh=>by
  obtain ⟨p,e,o,hs⟩:=C6 hh.2
  exact h p e o W a w ⟨hh.1,hs⟩
theorem pS {R:bZ α} {i:Operand} {ik:IntKind} {j k g c:Nat} {xs:List α} {u:α} [ht:dy P t (.slice e)] [hz:hJ P e R.sz] (hx:ev E x=some (.slice (some ⟨g,0,none⟩) k c)) (hi:ev E i=some (.int ik (j:Int))) (oQ:k=xs.length) (hu:xs[j]? =some u):
  Yl P E L (.indexAddr t x i) ty (.pointer (some ⟨g,j * R.sz+0,none⟩)):=(iX (R:=R) (xs:=xs) hx hi oQ hu).val (by rw [nD])
theorem pd {l:List α} {x:α} (h:l[i]? =some x):l.set i x=l:=by
 obtain ⟨h1,h2⟩:=dX.1 h
 rw [<- h2,List.set_getElem_self]
theorem U5 (g:Nat) {v v':Value} (hl:dM E g=some v) (e:v=v') (h:T r n P c ⟨D,(g,v')::E,L⟩ Q):T r n P c ⟨D,E,L⟩ Q:=by
 subst e
 exact λW a w hh=>h W a w ⟨hh.1.less (HU hl),hh.2⟩
theorem Ae {σ:Type} {x:Code} {kv:cZ} (ks:List Nat) (I:σ->Prop) (U:σ->cZ->cZ) (M:σ->List HP) (hk:IJ ks E=some kv) 
  (h1:T r n P x ⟨D,E,L⟩ (p9 (λs'=>∃ y,I y/\∀ W a w,Holds n W s' a w->Holds n W ⟨D,U y kv,M y⟩ a w) Q)) (h2:∀ y,I y->T r n P c ⟨D,U y kv,M y⟩ Q):T r n P x ⟨D,E,L⟩ (p9 (λs'=>T r n P c s' Q) Q):=
 h1.mono λe s q=>by
  cases e with
  | normal=>
   obtain ⟨y,hy,hh⟩:=q
   exact λW a w h=>h2 y hy W a w (hh W a w h)
  | _=>exact q
theorem Us {R:bZ α} {zl:List Value} {k:κ} [ht:dy P t (.map kt et)] [hf:iI L b κ α K R true m L0] [hk:kw P kt K] [hz:l_ P et (.agg zl.toArray)] (hd:Nat.blt d n=true) (hx:ev E x=some (.map (some b))) (hy:ev E y=some (K.enc k)) (cX:K.ok k) (ga:zl.length=R.sz) (sa:mh zl=true) 
  (h:∀ cs,cs.length=R.sz->mh cs=true->TL r n P ops rest ⟨D,(d,.tuple #[.agg cs.toArray,.bool (cq m k).isSome])::E,L⟩ KK):
  TL r n P ops (⟨some d,.lookup t x y true,ty,pos,af,none⟩::rest) ⟨D,E,L⟩ KK:=
 ma rfl hd rfl (λ_ e=>by cases e) λW a w hh=>by
  rcases wk (P:=P) (t:=t) (kt:=kt) (et:=et) (z:=.agg zl.toArray) cX true (hh.2.ay hf.g) with ⟨g1,g2⟩ | ⟨u,cs,g1,g2,g3⟩
  ·exact ⟨.tuple #[.agg zl.toArray,.bool false],w,L,by simp [execOp,hh.1.ev hx,hh.1.ev hy,g2],hh.2,by have:=h zl ga sa; rw [g1] at this; exact this⟩
  ·obtain ⟨M,q,_,_,_,h1,h2,_,_,_,hi,_⟩:=g2.ex
   have e1:cs.length=R.sz:=R.len hi
   have e2:mh cs=true:=Ur λv hv=>R.one hi v hv
   exact ⟨.tuple #[.agg cs.toArray,.bool true],w,L,by simp [execOp,hh.1.ev hx,hh.1.ev hy,g3,ij],hh.2,by have:=h cs e1 e2; rw [g1] at this; exact this⟩
end
open Go Go.Proofs Go.Proofs.Tryz
theorem gz {xs:List Int} (hk:bR L (aI .i64) A c xs) (hb:xs.length<=17592186043904):Fn prog 76 #[.slice A xs.length c] L (λv L'=>∃ A' c',v=.slice A' xs.length c'/\L'=aN (aI .i64) 3 A' c' xs::L):=by
 refine aH func76 J J J J<|aa<|ae J<|O<|ar<|aa<|Y J<|ab J J (fR J J (dh.wg))<|O<|bz J (λh4=> ?_) (λh4=> ?_)
 ·subst h4
  refine hk.yi λe=> ?_
  subst e
  exact yw (A:=none) (aI .i64) 3<|aa<|ae J<|O<|av<|aU<|aZ J J al (⟨none,0,J,J⟩)
 refine az<|ai<|aa<|ef J J J J J J λb5=>eh (k:=0) (aI .i64) [] (bV.const λM=>J) J (by simp)<|aV 5 (.slice (some ⟨b5,0,none⟩) ([]:List Int).length 0) J<|Y J<|vZ J J J J J hk (by simp; omega) λA7 c7=>ae J<|O<|av ?_
 simp only [dm]
 exact aZ J J al (⟨A7,c7,J,J⟩)
open Go
variable{r:Option Nat}{n:Nat}{s:St}{Q:Exit->St->Prop}
theorem Ut {ops:Array Oper} {X:List (Nat × Nat)}:∀ {l:List Nat} {p:Nat->Prop},(∀ e∈X,∀ s1 s2,l=s1++e.2::s2->e.1∈s1\/p e.1)->VS [] ops p l->VS X ops p l
 | [],_,_,_=>trivial
 | k::r,p,h,⟨h1,h2⟩=>by
  refine ⟨λo ho e he=> ?_,Ut (λx hx s1 s2 e=> ?_) h2⟩
  ·rcases gD.1 he with he | he
   ·exact h1 o ho e (by rw [Lz]; exact he)
   ·obtain ⟨x,hx,rfl⟩:=fY.1 he
    have hx:=ke.1 hx
    have hk:x.2=k:=qC hx.2
    rcases h x hx.1 [] r (by rw [hk]; rfl) with h | h
    ·cases h
    ·exact h
  ·rcases h x hx (k::s1) s2 (by rw [e]; rfl) with h | h
   ·rcases ig.1 h with h | h
    ·exact .inr (.inl h)
    ·exact .inl h
   ·exact .inr (.inr h)
def RD (r:Option Nat) (n:Nat) (P:Program) (l:List Oper) (X:List (Nat × Nat)) (s:St) (Q:Exit->St->Prop):Prop:=
 ∀ W a w,Holds n W s a w->∀ sched:List Nat,VS [] l.toArray (λi=>(Array.replicate l.length false).getD i false=true) sched->(∀ e∈X,∀ s1 s2,sched=s1++e.2::s2->e.1∈s1)->(∀ i,i < l.length->i∈sched)->sched.Nodup->(∀ i∈sched,i < l.length)->sched.length=l.length→
  wpOpsIn (Fw r) 0 P l.toArray (λe a w=>∃ s',Q e s'/\Holds n W s' a w) sched a w
variable{l:List Oper}{X:List (Nat × Nat)}
theorem agy (Fl:List HP) (B tl:List Nat) (π:List (Nat × Bool)) (cX:qO X l B tl π=true) (oO:am s.L Fl) (h:TF r n P l.toArray tl Fl π s (λs'=>Q .normal s')):RD r n P l X s Q:=λW a w hh sched k1 hX k2 k3 k4 k5=>
 ES (λa' w' s' hk vq=>⟨s',hk,vq⟩) _ _ _ (HJ Fl B tl π cX oO h hh (Ut (λe he s1 s2 h=>.inl (hX e he s1 s2 h)) k1) k2 k3 k4 k5)
theorem fq (i j:Nat) (kA:i≠j) (h1:RD r n P l ((i,j)::X) s Q) (h2:RD r n P l ((j,i)::X) s Q):RD r n P l X s Q:=λW a w hh sched k1 hX k2 k3 k4 k5=>by
 rcases LZ kA sched with ho | ho
 ·exact h1 W a w hh sched k1 (λe he=>by rcases ig.1 he with rfl | he; exact ho; exact hX e he) k2 k3 k4 k5
 ·exact h2 W a w hh sched k1 (λe he=>by rcases ig.1 he with rfl | he; exact ho; exact hX e he) k2 k3 k4 k5
theorem SK {id:Nat} (B:List Nat) (t1:P.follows .mixedOrders=true) (hm:rL [] B l 0=true) (h:RD r n P l [] s Q):T r n P (.region id l.toArray true) s Q:=λW a w hh=>by
 refine wpIn_region_draw λt=> ?_
 simp only [Region.schedule,t1,Bool.true_or,if_true]
 obtain ⟨k1,k2,k3,k4,k5⟩:=LY hm l.length t (Array.replicate l.length false) (by simp) (MK l)
 have jp:Region.linearise .any l.toArray t=Region.linearise.go .any l.toArray l.length t (Array.replicate l.length false) []:=by
  simp [Region.linearise]
 rw [jp]
 exact h W a _ ⟨hh.1,hh.2.drew⟩ _ k1 (λe he=>by cases he) (λi hi=>k2 i hi (by simp [sA,hi])) k3 (λi hi=>(k4 i hi).1) k5
theorem ajP {id:Nat} {y:Code} (B:List Nat) (t1:P.follows .mixedOrders=true) (hm:rL [] B l 0=true) (h:RD r n P l [] s (p9 (λs'=>T r n P y s' Q) Q)):T r n P (.seq (.region id l.toArray true) y) s Q:=ar (SK B t1 hm h)
theorem dN (Fl:List HP) (tl p:List Nat) (cX:qO X l (uT X l) tl (wE p)=true) (oO:am s.L Fl) (h:TF r n P l.toArray tl Fl (wE p) s (λs'=>Q .normal s')):RD r n P l X s Q:=agy Fl (uT X l) tl (wE p) cX oO h
theorem iQ {id:Nat} {y:Code} [hx:Ff P] (hm:rL [] (uT [] l) l 0=true) (h:RD r n P l [] s (p9 (λs'=>T r n P y s' Q) Q)):T r n P (.seq (.region id l.toArray true) y) s Q:=ajP (uT [] l) hx.m hm h
theorem NB {id:Nat} [hx:Ff P] (hm:rL [] (uT [] l) l 0=true) (h:RD r n P l [] s Q):T r n P (.region id l.toArray true) s Q:=SK (uT [] l) hx.m hm h
open Go
abbrev gG:=Int × dZ
def qj (l:List gG) (k:Int):Prop:=(cq l k).isSome=true
def Ob (l:List gG):Prop:=l.Pairwise λp q=>p.1 < q.1
variable{l:List gG}
theorem TI {k:Int}:qj l k↔∃ e,(k,e)∈l:=by
 unfold qj
 constructor
 ·intro h
  obtain ⟨e,he⟩:=xS.1 h
  exact ⟨e,wj he⟩
 ·rintro ⟨e,he⟩
  cases h:cq l k with
  | some _=>rfl
  | none=>exact absurd rfl (o9.1 h _ he)
theorem TJ {k:Int}:qj l k↔∃ p∈l,p.1=k:=by
 rw [TI]
 constructor
 ·rintro ⟨e,he⟩; exact ⟨_,he,rfl⟩
 ·rintro ⟨⟨a,e⟩,he,rfl⟩; exact ⟨e,he⟩
def rb:Nat->List gG->Nat
 | n,[]=>n
 | n,p::r=>if p.1=(n:Int) then rb (n+1) r else n
abbrev eb (l:List gG):Nat:=rb 0 l
theorem SN:∀ {l:List gG} {n:Nat},Ob l->(∀ p∈l,(n:Int)<=p.1)->n<=rb n l/\rb n l<=n+l.length/\(∀ i,i < rb n l - n->∃ e,l[i]? =some (((n+i:Nat):Int),e))/\(∀ p∈l.drop (rb n l - n),((rb n l:Nat):Int) < p.1)/\(∀ p∈l.take (rb n l - n),p.1 < ((rb n l:Nat):Int))
 | [],n,_,_=>by simp [rb]
 | p::r,n,hi,hn=>by
  have hp:=hn p ie
  obtain ⟨tf,dW⟩:=qG.1 hi
  by_cases e:p.1=(n:Int)
  ·have hr:∀ q∈r,((n+1:Nat):Int)<=q.1:=λq hq=>by have:=tf q hq; omega
   obtain ⟨h1,h2,h3,h4,h5⟩:=SN dW hr
   simp only [rb,if_pos e]
   have ed:rb (n+1) r - n=(rb (n+1) r - (n+1))+1:=by omega
   refine ⟨by omega,by simp; omega,λi cL=> ?_, ?_, ?_⟩
   ·cases i with
    | zero=>exact ⟨p.2,by simp; rw [<- e]⟩
    | succ i=>
     obtain ⟨x,hx⟩:=h3 i (by omega)
     exact ⟨x,by rw [show n+(i+1)=n+1+i by omega]; simpa using hx⟩
   ·rw [ed]; simpa using h4
   ·rw [ed]
    intro q hq
    simp at hq
    rcases hq with rfl | hq
    ·rw [e]; omega
    ·exact h5 q hq
  ·simp only [rb,if_neg e]
   refine ⟨fo _,by omega,λi cL=>by omega, ?_, ?_⟩
   ·simp only [Nat.sub_self,List.drop_zero]
    intro q hq
    rcases ig.1 hq with rfl | hq
    ·omega
    ·have:=tf q hq; omega
   ·simp
structure LI (l:List gG):Prop where
 inc:Ob l
 len:l.length<=65536
 keys:∀ p∈l,0<=p.1/\p.1<=2147483647
 VY:∀ p∈l,f_ p.2/\fC p.2.order
theorem LI.spec (h:LI l):eb l<=l.length/\(∀ i,i < eb l->∃ e,l[i]? =some ((i:Int),e))/\(∀ p∈l.drop (eb l),((eb l:Nat):Int) < p.1)/\(∀ p∈l.take (eb l),p.1 < ((eb l:Nat):Int)):=by
 obtain ⟨h1,h2,h3,h4,h5⟩:=SN (n:=0) h.inc (λp hp=>(h.keys p hp).1)
 simp only [Nat.sub_zero,nD] at h2 h3 h4 h5
 exact ⟨h2,h3,h4,h5⟩
theorem LI.below (h:LI l) {k:Nat} (hk:k < eb l):qj l (k:Int):=by
 obtain ⟨e,he⟩:=h.spec.2.1 k hk
 exact TI.2 ⟨e,eA he⟩
theorem LI.O4 (h:LI l):¬ qj l ((eb l:Nat):Int):=λhk=>by
 obtain ⟨p,hp,e⟩:=TJ.1 hk
 rw [<- qE (eb l) l] at hp
 rcases gD.1 hp with hp | hp
 ·have:=h.spec.2.2.2 p hp; omega
 ·have:=h.spec.2.2.1 p hp; omega
def lB (l:List gG) (k:Int) (e:dZ):List gG:=u_ (λp:gG=>decide (p.1 < k)) (k,e) l
def kr (l:List gG) (slot:Int) (e:dZ):List gG × Int:=
 if ¬ (f_ e/\0<=slot/\slot<=2147483647) then (l,1) else match cq l slot with
 | some x=>if x=e then (l,5) else (l,180)
 | none=>if 65536<=l.length then (l,2) else (lB l slot e,0)
variable{k:Int}
theorem LI.put (h:LI l) {e:dZ} (hk:cq l k=none) (h0:0<=k/\k<=2147483647) (he:f_ e/\fC e.order) (hl:l.length < 65536):LI (lB l k e):=by
 have iS:=o9.1 hk
 refine ⟨KW h.inc (λq _ hq=>by simpa using hq) (λq hq cL=> ?_) (λa _ b _ rl hb=>by simp at hb ⊢; omega),by unfold lB; rw [TG]; omega,λp hp=> ?_,λp hp=> ?_⟩
 ·have:=iS q hq
  simp at cL
  show k < q.1
  omega
 ·rcases EJ.1 hp with rfl | hp
  ·exact h0
  ·exact h.keys p hp
 ·rcases EJ.1 hp with rfl | hp
  ·exact he
  ·exact h.VY p hp
theorem LI.nil:LI []:=⟨List.Pairwise.nil,by simp,by simp,by simp⟩
theorem adk {e:dZ} (hk:cq l k=none):((k,e)::fS l k).Perm (lB l k e):=by
 rw [uK hk]; exact (Ew _ _ _).symm
theorem aeW {j:Int} {e:dZ}:qj (lB l k e) j↔j=k\/qj l j:=by
 simp only [TJ,lB,EJ]
 constructor
 ·rintro ⟨p,rfl | hp,rfl⟩
  ·exact .inl rfl
  ·exact .inr ⟨p,hp,rfl⟩
 ·rintro (rfl | ⟨p,hp,rfl⟩)
  ·exact ⟨_,.inl rfl,rfl⟩
  ·exact ⟨p,.inr hp,rfl⟩
def ints (a:Int) (n:Nat):List Int:=(List.range n).map λi:Nat=>a+(i:Int)
open Go
def jD (l n:Nat) (E:cZ) (ps:Array Tmp) (assign body:Code) (b0:Nat) (st:LoopState) (j:Option Code):HP:=
 ⟨λ_ h=>∃ (fn:FuncId) (tmps:Array Value),tmps.size=n/\(∀ i v,dM E i=some v->tmps[i]? =some v)/\h l=some (.loop {state:=st,pending:=j,fn:=fn,tmps:=tmps,params:=ps,assign:=assign,body:=body,defers:=b0}),
  λ_ hh ⟨fn,tmps,h1,h2,h3⟩=>⟨fn,tmps,h1,h2,hh _ _ h3⟩⟩
def Bf (b:Nat):Deferred:={target:=.collected b,args:=#[]}
abbrev rX (b:Nat):HP:=own b (.deferred (some []))
section
variable {l n:Nat} {E:cZ} {ps:Array Tmp} {assign body:Code} {b0:Nat} {st O5:LoopState} {j j':Option Code} {L L':List HP} {o w:World} {P:Program}
abbrev NC (fn:FuncId) (tmps:Array Value) (ps:Array Tmp) (assign body:Code) (b0:Nat) (st:LoopState) (j:Option Code):Obj:=.loop {state:=st,pending:=j,fn:=fn,tmps:=tmps,params:=ps,assign:=assign,body:=body,defers:=b0}
theorem HY (h:bH o w (jD l n E ps assign body b0 st j::L)):∃ fn tmps,tmps.size=n/\(∀ i v,dM E i=some v->tmps[i]? =some v)/\bH o w (own l (NC fn tmps ps assign body b0 st j)::L):=by
 obtain ⟨M,k,hd,hM,hk,h1,h2,eW,l1,l2,⟨fn,tmps,a,b,c⟩,hs⟩:=h.ex
 exact ⟨fn,tmps,a,b,⟨M,k,hd,hM,hk,h1,h2,eW,l1,l2,c,hs⟩,h.os,h.tape,h.output,h.size⟩
theorem Lj {fn:FuncId} {tmps:Array Value} (h1:tmps.size=n) (h2:∀ i v,dM E i=some v->tmps[i]? =some v):am (own l (NC fn tmps ps assign body b0 st j)::L) (jD l n E ps assign body b0 st j::L):=
 λM h ⟨a1,a2,ad,m1,m2,hp,hs⟩=>⟨a1,a2,ad,m1,m2,⟨fn,tmps,h1,h2,hp⟩,hs⟩
theorem bH.put {b:Nat} {x y:Obj} (h:bH o w (own b x::L)):bH o (w.putObj b y) (own b y::L):=by
 have hb:=h.pX
 exact h.set (World.putObj_heap_same (uy.1 hb).1) (λi hi=>World.putObj_heap_other hi) rfl rfl rfl (by simp)
end
def Iy (P:Program) (l:Nat) (vs:List Value) (L:List HP) (Φ:Value->List HP->Prop):Prop:=
 ∀ r o w,bH o w L->∃ f tmps assign body,(Instr.yield l vs.toArray).run P w=.ok (.round l f tmps assign body) w/\RoundIn (Fw r) 0 P l f tmps assign body w (λe w'=>∃ v L',e=.returned v/\Φ v L'/\bH o w' L')
section
variable {r:Option Nat} {n:Nat} {P:Program} {ops:Array Oper} {rest:List Oper} {K:St->Prop} {Q:Exit->St->Prop} {D:List Deferred} {E:cZ} {L L':List HP} {d:Nat} {ty:TypeId} {pos:String} {af:Array Edge}
variable{l:Nat}{vs:List Value}{ts:Array TypeId}
theorem Yi {c:Operand} {xs:List Operand} {a:Act} {dst:Option Tmp} {nx:Next} (ha:j5 n D a E) (hf:ev E c=some (.func (.yield l) #[] #[])) (hx:ml E xs=some vs) (hy:(Instr.yield l vs.toArray).run P w=.ok nx w):
  (execOp a.eval ⟨dst,.call {callee:=.value c,args:=xs.toArray,argTypes:=ts},ty,pos,af,none⟩).run P w=.ok nx w:=by
 simp [execOp,resolve,invoke,ha.ev hf,Deferred.ofValue,ha.ml hx,hy]
variable{Φ:Value->List HP->Prop}
theorem yj {c:Operand} {xs:List Operand} (hd:Nat.blt d n=true) (hf:ev E c=some (.func (.yield l) #[] #[])) (hx:ml E xs=some vs) (spec:Iy P l vs L Φ) 
  (h:∀ v L',Φ v L'->TL r n P ops rest ⟨D,(d,v)::E,L'⟩ K):TL r n P ops (⟨some d,.call {callee:=.value c,args:=xs.toArray,argTypes:=ts},ty,pos,af,none⟩::rest) ⟨D,E,L⟩ K:=λW a w hh=>by
 refine wpListIn_plain rfl λK' hK=>⟨λ_ _=>trivial, ?_⟩
 obtain ⟨f,tmps,assign,body,hy,hr⟩:=spec r W w hh.2
 rw [Oper.semAt_eq _ _ _ (λ_ e=>by cases e),Yi hh.1 hf hx hy]
 refine ⟨λhx=>by simp at hx,hr.mono ?_⟩
 rintro e w' ⟨v,L',rfl,hΦ,hs⟩
 exact hK _ _ (h v L' hΦ W _ _ ⟨hh.1.put (by simpa using hd) v,hs⟩)
def FC:List (Tmp × Value)->cZ->cZ
 | [],E=>E
 | (t,v)::r,E=>FC r ((t,v)::E)
theorem TK:∀ {ts:List (Tmp × Value)} {tm:Array Value} {E:cZ},tm.size=n->(∀ i v,dM E i=some v->tm[i]? =some v)->(∀ p∈ts,p.1 < n)→
  (ts.foldl (λtmps (p:Tmp × Value)=>tmps.setIfInBounds p.1 p.2) tm).size=n/\∀ i v,dM (FC ts E) i=some v->(ts.foldl (λtmps (p:Tmp × Value)=>tmps.setIfInBounds p.1 p.2) tm)[i]? =some v
 | [],tm,E,hs,hv,_=>⟨hs,hv⟩
 | (t,u)::r,tm,E,hs,hv,hl=>by
  have ht:=hl (t,u) ie
  refine TK (ts:=r) (tm:=tm.setIfInBounds t u) (E:=(t,u)::E) (by simpa using hs) (λi v hi=> ?_) (λp hp=>hl p (gO _ hp))
  have AF:j5 n [] (({tmps:=tm,defers:=[]}:Act).put (some t) u) ((t,u)::E):=j5.put (a:={tmps:=tm,defers:=[]}) (E:=E) (D:=[]) ⟨hs,rfl,hv⟩ ht u
  exact AF.get i v hi
def ahS (l n:Nat) (E:cZ) (ps:Array Tmp) (assign body:Code) (b0:Nat) (j:Option Code) (Φ:Value->List HP->Prop):Exit->St->Prop
 | .normal,s=>∃ L3,am s.L (jD l n E ps assign body b0 .busy j::L3)/\Φ (.bool true) (jD l n E ps assign body b0 .ready none::L3)
 | .ret,s=>∃ L3,am s.L (jD l n E ps assign body b0 .busy j::L3)/\Φ (.bool false) (jD l n E ps assign body b0 .done (some .ret)::L3)
 | .exit id,s=>∃ L3,am s.L (jD l n E ps assign body b0 .busy j::L3)/\Φ (.bool false) (jD l n E ps assign body b0 .done (some (.exit id))::L3)
 | _,_=>False
variable{ps:Array Tmp}
theorem Mp {assign body:Code} {b0:Nat} {j jump:Option Code} {o:World} (h:bH o w (jD l n E ps assign body b0 .busy j::L)):
  ∃ w',(Instr.endRound l jump).run P w=.ok (.bool jump.isNone) w'/\bH o w' (jD l n E ps assign body b0 (if jump.isNone then .ready else .done) jump::L):=by
 obtain ⟨fn,tmps,h1,h2,hs⟩:=HY h
 exact ⟨_,run_endRound jump hs.pX,(hs.put).ay (Lj h1 h2)⟩
theorem adl {assign body:Code} {b0:Nat} {j:Option Code} (ew:vs.length=ps.size) (JG:∀ t∈ps,t < n) 
  (h:T (some l) n P assign ⟨[],FC (ps.toList.zip vs) E,jD l n E ps assign body b0 .ready j::L⟩ (λe s=>e=.normal/\∃ L2,am s.L (jD l n E ps assign body b0 .ready j::L2)/\T (some l) n P body ⟨s.D,s.E,jD l n E ps assign body b0 .busy j::L2⟩ (ahS l n E ps assign body b0 j Φ))):
  Iy P l vs (jD l n E ps assign body b0 .ready j::L) Φ:=λr o w hs=>by
 obtain ⟨fn,tmps,h1,h2,dt⟩:=HY hs
 have hy:=run_yield (P:=P) (args:=vs.toArray) dt.pX (by simpa using ew)
 refine ⟨_,_,_,_,hy,roundIn_of_wpIn trivial ?_⟩
 have Fj:(ps.zip vs.toArray).foldl (λtmps (t,a)=>tmps.setIfInBounds t a) tmps=(ps.toList.zip vs).foldl (λtmps (p:Tmp × Value)=>tmps.setIfInBounds p.1 p.2) tmps:=by
  rw [<- Array.foldl_toList,Array.toList_zip]
 have py:=TK (n:=n) (ts:=ps.toList.zip vs) (tm:=tmps) (E:=E) h1 h2 (λp hp=>JG _ (by have:=(List.of_mem_zip hp).1; simpa using this))
 have AF:j5 n [] {tmps:=(ps.zip vs.toArray).foldl (λtmps (t,a)=>tmps.setIfInBounds t a) tmps,defers:=[]} (FC (ps.toList.zip vs) E):=by
  rw [Fj]; exact ⟨py.1,rfl,py.2⟩
 refine wpIn_mono (h o _ w ⟨AF,hs⟩) ?_
 rintro e a' w' ⟨s',⟨rfl,L2,hg,hb⟩,hk⟩
 obtain ⟨WQ,Vz,k1,k2,k3⟩:=HY (hk.2.ay hg)
 refine ⟨_,run_beginRound k3.pX rfl,wpIn_mono (hb o a' _ ⟨hk.1,(k3.put).ay (Lj k1 k2)⟩) ?_⟩
 rintro e a2 w2 ⟨s2,hq,gV⟩
 cases e with
 | normal=>
  obtain ⟨L3,g,hΦ⟩:=hq
  obtain ⟨w3,hr,qr⟩:=Mp (P:=P) (jump:=none) (gV.2.ay g)
  exact ⟨_,w3,hr,_,_,rfl,hΦ,qr⟩
 | ret=>
  obtain ⟨L3,g,hΦ⟩:=hq
  obtain ⟨w3,hr,qr⟩:=Mp (P:=P) (jump:=some .ret) (gV.2.ay g)
  exact ⟨_,w3,hr,_,_,rfl,hΦ,qr⟩
 | exit id=>
  obtain ⟨L3,g,hΦ⟩:=hq
  obtain ⟨w3,hr,qr⟩:=Mp (P:=P) (jump:=some (.exit id)) (gV.2.ay g)
  exact ⟨_,w3,hr,_,_,rfl,hΦ,qr⟩
 | goto t=>exact hq.elim
 | panic c=>exact hq.elim
 | outgrown=>exact hq.elim
def Iz (r:Option Nat) (n:Nat) (P:Program) (D:List Deferred) (E:cZ) (L2:List HP) (Q:Exit->St->Prop):Option Code->Prop
 | none=>Q .normal ⟨D,E,L2⟩
 | some c=>T r n P c ⟨D,E,L2⟩ Q
theorem aar {g:Operand} [hc:li P f] {fs:List Value} {assign body:Code} {Φ':Nat->Nat->Value->List HP->Prop} (hg:ev E g=some (.func (.func f) fs.toArray cs.toArray)) 
  (spec:∀ l b0,Fn P f (fs++[Value.func (.yield l) #[] #[]]++cs).toArray (jD l n E ps assign body b0 .ready none::rX b0::L) (Φ' l b0))
  (h:∀ l b0 v L',Φ' l b0 v L'->∃ st j L2,st≠.busy/\am L' (jD l n E ps assign body b0 st j::L2)/\Iz none n P (Bf b0::D) E L2 Q j):
  T none n P (.rangeFunc g ps assign body) ⟨D,E,L⟩ Q:=λo a w hh=>by
 refine wpIn_rangeFunc λfn _=> ?_
 have ahT:=run_enterLoop_outer (P:=P) (w:=w) fn a.tmps ps assign body
 have dt:=(hh.2.alloc (.deferred (some []))).alloc (.loop {state:=.ready,pending:=none,fn:=fn,tmps:=a.tmps,params:=ps,assign:=assign,body:=body,defers:=w.heap.size})
 have ew:(w.alloc (.deferred (some []))).heap.size=w.heap.size+1:=World.size_alloc _ _
 rw [ew] at dt
 have eF:=dt.ay (Lj (ps:=ps) (assign:=assign) (body:=body) (b0:=w.heap.size) (st:=.ready) (j:=none) hh.1.size hh.1.get)
 refine ⟨_,_,_,{target:=.fn (.func f) cs.toArray,args:=(fs++[Value.func (.yield (w.heap.size+1)) #[] #[]]).toArray},(w.alloc (.deferred (some []))).alloc (NC fn a.tmps ps assign body w.heap.size .ready none),f,(fs++[Value.func (.yield (w.heap.size+1)) #[] #[]]++cs).toArray,_,ahT, ?_,λ_ _=>trivial, ?_,λhx=>by simp at hx,((spec _ _).VR eF).mono ?_⟩
 ·have lH:a.eval (.const (Value.func (.yield (w.heap.size+1)) #[] #[]))=Value.func (.yield (w.heap.size+1)) #[] #[]:=rfl
  simp [resolve,hh.1.ev hg,Deferred.ofValue,lH]
 ·simp [invoke,hc.run]
 ·rintro e w' ⟨v,L',rfl,hΦ,hs⟩
  obtain ⟨st,j,L2,cK,hgv,hb⟩:=h _ _ v L' hΦ
  obtain ⟨WQ,Vz,k1,k2,k3⟩:=HY (hs.ay hgv)
  refine ⟨_,_,run_endLoop k3.pX cK, ?_⟩
  have hk:Holds n o ⟨Bf w.heap.size::D,E,L2⟩ {a with defers:=[{target:=.collected w.heap.size,args:=#[]}]++a.defers} (w'.putObj (w.heap.size+1) (.loop {state:=.exhausted,pending:=j,fn:=WQ,tmps:=Vz,params:=ps,assign:=assign,body:=body,defers:=w.heap.size})):=
   ⟨⟨hh.1.size,by simp [Bf,hh.1.defers],hh.1.get⟩,(k3.put).ay (am.drop _ _)⟩
  cases j with
  | none=>exact ⟨_,hb,hk⟩
  | some c=>exact hb o _ _ hk
def NE (P:Program) (fn:Func) (Φ:Value->List HP->Prop) (e:Exit) (s:St):Prop:=
 ∃ (bs:List Nat) (L2:List HP),s.D=bs.map Bf/\am s.L (bs.map rX++L2)/\aF P fn Φ e ⟨[],s.E,L2⟩
theorem QY {fn:Func} {R:Ending->World->Prop} {o:World} {L2:List HP} {tmps:Array Value}:∀ (bs:List Nat) (w:World),bH o w (bs.map rX++L2)->(∀ w',bH o w' L2->∃ v,(results fn tmps).run P w'=.ok v w'/\R (.returned v) w')->LeavesInM (Fw none) 0 P fn tmps R (bs.map Bf) .returning w
 | [],w,hs,hr=>hr w hs
 | b::bs,w,hs,hr=>by
  refine ⟨by simp,.inl ⟨b,_,rfl,run_takeDeferred (bH.pX hs), ?_⟩⟩
  exact QY bs _ ((bH.put (y:=.deferred none) hs).ay (am.drop _ _)) hr
theorem ye {fn:Func} {c:Code} {args:List Value} {E0:cZ} (hf:P.funcs[f]? =some fn) (hb:fn.body=some c) (hn:fn.ntmps=n) (hE:Bc 0 args=some E0) (hl:Nat.ble args.length n=true) 
  (h:T none n P c ⟨[],E0,L⟩ (NE P fn Φ)):Fn P f args.toArray L Φ:=λW w hs=>by
 refine callsIn_wide.1 (callsIn_of_wp_marks (F:=Fence.wide) (n:=0) hf hb trivial ?_)
 have ew:args.length<=n:=by simpa using hl
 have AF:j5 n [] {tmps:=args.toArray++Array.replicate (fn.ntmps - args.toArray.size) undef,defers:=[]} E0:=by
  refine ⟨by simp [hn]; omega,rfl,λj v hv=> ?_⟩
  obtain ⟨_,h2⟩:=Ly hE j v hv
  simp only [Nat.sub_zero] at h2
  have hj:j < args.length:=(dX.1 h2).1
  simp [Array.getElem?_append,hj]
  simpa [cj hj] using h2
 refine wpIn_mono (h W _ w ⟨AF,hs⟩) ?_
 rintro e a' w' ⟨s',⟨bs,L2,hD,hg,q⟩,hk⟩
 have key:(∃ v L',Φ v L'/\∀ n W a w,Holds n W ⟨[],s'.E,L2⟩ a w->bH W w L'/\(results fn a.tmps).run P w=.ok v w)->LeavesInM Fence.wide 0 P fn a'.tmps (λe w'=>∃ v L',e=.returned v/\Φ v L'/\bH W w' L') a'.defers .returning w':=by
  rintro ⟨v,L',hΦ,hr⟩
  rw [hk.1.defers,hD]
  refine QY (L2:=L2) (o:=W) bs w' (hk.2.ay hg) (λw2 h2=> ?_)
  obtain ⟨k1,k2⟩:=hr n W {tmps:=a'.tmps,defers:=[]} w2 ⟨⟨hk.1.size,rfl,hk.1.get⟩,h2⟩
  exact ⟨v,k2,v,L',rfl,hΦ,k1⟩
 cases e <;> simp only [aF] at q
 case normal=>exact key q.2
 case ret=>exact key q.2
end
open Go
inductive gH {τ α:Type} (step:τ->α->τ->Prop) (stop:τ->Bool):τ->List α->τ->Prop
 | nil (s:τ):gH step stop s [] s
 | halt {s s':τ} {x:α} {xs:List α}:step s x s'->stop s'=true->gH step stop s (x::xs) s'
 | go {s s' s2:τ} {x:α} {xs:List α}:step s x s'->stop s'=false->gH step stop s' xs s2->gH step stop s (x::xs) s2
theorem gH.snoc {τ α:Type} {step:τ->α->τ->Prop} {stop:τ->Bool} {s s1 s2:τ} {xs:List α} {x:α} (h:gH step stop s xs s1) (h0:stop s=false) (h1:stop s1=false) (h2:step s1 x s2):gH step stop s (xs++[x]) s2:=by
 induction h with
 | nil s=>
  cases e:stop s2 with
  | true=>exact .halt h2 e
  | false=>exact .go h2 e (.nil _)
 | halt a b=>rw [b] at h1; cases h1
 | go a b c ih=>exact .go a b (ih b h1 h2)
theorem gH.more {τ α:Type} {step:τ->α->τ->Prop} {stop:τ->Bool} {s s1:τ} {xs:List α} (h:gH step stop s xs s1) (h1:stop s1=true) (h0:stop s=false) (ys:List α):gH step stop s (xs++ys) s1:=by
 induction h with
 | nil s=>rw [h1] at h0; cases h0
 | halt a b=>exact .halt a b
 | go a b c ih=>exact .go a b (ih h1 b)
def fP (l:Nat) (p:HP):HP:=p
instance {l:Nat}:jz (fP l p::L) l (fP l p) L:=⟨am.refl _⟩
def EY (P:Program) (l:Nat) {τ:Type} (C:τ->HP) (val:α->List Value) (ok:α->List HP->Prop) (step:τ->α->τ->Prop) (stop:τ->Bool) (ek:τ->Nat) (N:Nat):Prop:=
 ∀ s x Lx,stop s=false->ok x Lx->ek s < N->Iy P l (val x) (fP l (C s)::Lx) (λv L'=>∃ s',step s x s'/\v=.bool (!stop s')/\L'=fP l (C s')::Lx)
abbrev Ak (P:Program) (l:Nat) {τ:Type} (C:τ->HP) (val:α->List Value) (ok:α->Prop) (step:τ->α->τ->Prop) (stop:τ->Bool) (ek:τ->Nat) (N:Nat):Prop:=EY P l C val (λx _=>ok x) step stop ek N
def IQ (P:Program) (c:Value) (val:α->List Value) (ok:α->List HP->Prop) (N:Nat) (Lf:List HP) (hY:Bool->List α->Prop):Prop:=
 ∃ f fs cs,c=.func (.func f) fs.toArray cs.toArray/\li P f/\∀ (τ:Type) (l:Nat) (C:τ->HP) (step:τ->α->τ->Prop) (stop:τ->Bool) (ek:τ->Nat) (s0:τ) (Lx:List HP),stop s0=false->ek s0=0->(∀ s x s',step s x s'->ek s'=ek s+1)->EY P l C val ok step stop ek N→
  Fn P f (fs++[Value.func (.yield l) #[] #[]]++cs).toArray (fP l (C s0)::(Lf++Lx)) (λv L'=>∃ xs s',hY (stop s') xs/\gH step stop s0 xs s'/\L'=fP l (C s')::(Lf++Lx))
abbrev oA (P:Program) (c:Value) (val:α->List Value) (ok:α->Prop) (N:Nat) (Lf:List HP) (hY:Bool->List α->Prop):Prop:=IQ P c val (λx _=>ok x) N Lf hY
def sb (L:List HP):HP:=oS λ_:Unit=>L
variable{L':List HP}
theorem g9:am (L++L') (sb L::L'):=o_ (f:=λ_:Unit=>L) ()
theorem mC:am (sb L::L') (L++L'):=λM h ⟨h1,h2,hd,l1,l2,⟨_,hx⟩,hs⟩=>Ld hx hs hd l1 l2
theorem am.perm (h:L.Perm L'):am L L':=by
 induction h with
 | nil=>exact am.refl _
 | cons x _ ih=>exact am.cons x ih
 | swap x y l=>exact am.swap _ _ _
 | trans _ _ h1 h2=>exact h1.trans h2
section
variable {n:Nat} {P:Program} {Q:Exit->St->Prop} {D:List Deferred} {E:cZ} {L:List HP}
abbrev LS (σ:Type):=σ × Option Code
def Oc {σ:Type} (l n:Nat) (E:cZ) (ps:Array Tmp) (assign body:Code) (b0:Nat) (C:σ->List HP) (s:LS σ):HP:=sb (jD l n E ps assign body b0 (if s.2.isNone then .ready else .done) s.2::C s.1)
theorem Cm {L2:List HP} (h:Q .normal ⟨D,E,L2⟩):Iz r n P D E L2 Q none:=h
theorem xY {g:Operand} {c:Value} {σ:Type} {val:α->List Value} {ok:α->List HP->Prop} {hY:Bool->List α->Prop} {ps:Array Tmp} {assign body:Code} {N:Nat} {Lf Lr:List HP} (C:σ->List HP) (step:LS σ->α->LS σ->Prop) (ek:σ->Nat) (s0:σ) 
  (hg:ev E g=some c) (hi:IQ P c val ok N Lf hY) (hL:am L (C s0++(Lf++Lr))) (JG:∀ t∈ps,t < n) (hval:∀ x,(val x).length=ps.size) (h0:ek s0=0) (ip:∀ s x s',step s x s'->ek s'.1=ek s.1+1)
  (ai5:∀ l b0 s x Lx,ok x Lx->ek s < N->T (some l) n P assign ⟨[],FC (ps.toList.zip (val x)) E,jD l n E ps assign body b0 .ready none::(C s++Lx)⟩ (λe s1=>e=.normal/\∃ L2,am s1.L (jD l n E ps assign body b0 .ready none::L2)∧
   T (some l) n P body ⟨s1.D,s1.E,jD l n E ps assign body b0 .busy none::L2⟩ (λe s2=>∃ s' j,(match e with | .normal=>j=none | .ret=>j=some Code.ret | .exit id=>j=some (Code.exit id) | _=>False)/\step (s,none) x (s',j)/\am s2.L (jD l n E ps assign body b0 .busy none::(C s'++Lx)))))
  (h:∀ b0 xs (s:LS σ),hY (!s.2.isNone) xs->gH step (λs=> !s.2.isNone) (s0,none) xs s->Iz none n P (Bf b0::D) E (rX b0::(C s.1++(Lf++Lr))) Q s.2):
  T none n P (.rangeFunc g ps assign body) ⟨D,E,L⟩ Q:=by
 obtain ⟨f,fs,cs,rfl,VA,tY⟩:=hi
 have hy:∀ l b0,EY P l (λs:LS σ=>Oc l n E ps assign body b0 C s) val ok step (λs=> !s.2.isNone) (λs=>ek s.1) N:=by
  intro l b0 s x Lx hs hx cL
  obtain ⟨s,j⟩:=s
  have hj:j=none:=by cases j <;> simp at hs ⊢
  subst hj
  have key:Iy P l (val x) (jD l n E ps assign body b0 .ready none::(C s++Lx)) (λv L'=>∃ s':LS σ,step (s,none) x s'/\v=.bool (!(!s'.2.isNone))/\L'=jD l n E ps assign body b0 (if s'.2.isNone then .ready else .done) s'.2::(C s'.1++Lx)):=by
   refine adl (hval x) JG ((ai5 l b0 s x Lx hx cL).mono ?_)
   rintro e s1 ⟨rfl,L2,sc,hb⟩
   refine ⟨rfl,L2,sc,hb.mono ?_⟩
   rintro e s2 ⟨s',j,hj,cK,O6⟩
   cases e with
   | normal=>dsimp only at hj; subst hj; exact ⟨_,O6,(s',none),cK,rfl,rfl⟩
   | ret=>dsimp only at hj; subst hj; exact ⟨_,O6,(s',some .ret),cK,rfl,rfl⟩
   | exit id=>dsimp only at hj; subst hj; exact ⟨_,O6,(s',some (.exit id)),cK,rfl,rfl⟩
   | goto t=>exact hj.elim
   | panic c=>exact hj.elim
   | outgrown=>exact hj.elim
  intro r o w hw
  obtain ⟨f1,tm,amJ,bd,h1,h2⟩:=key r o w (hw.ay (mC (L:=jD l n E ps assign body b0 .ready none::C s)))
  refine ⟨f1,tm,amJ,bd,h1,h2.mono ?_⟩
  rintro e w' ⟨v,L',rfl,⟨s',k1,k2,rfl⟩,hw'⟩
  exact ⟨v,_,rfl,⟨s',k1,k2,rfl⟩,hw'.ay (g9 (L:=jD l n E ps assign body b0 (if s'.2.isNone then .ready else .done) s'.2::C s'.1))⟩
 refine aar (Φ':=λl b0 v L'=>∃ xs s',hY (!s'.2.isNone) xs/\gH step (λs=> !s.2.isNone) (s0,none) xs s'/\L'=fP l (Oc l n E ps assign body b0 C s')::(Lf++rX b0::Lr)) hg (λl b0=> ?_) ?_
 ·refine Tm ?_ (tY (LS σ) l (λs=>Oc l n E ps assign body b0 C s) step (λs=> !s.2.isNone) (λs=>ek s.1) (s0,none) (rX b0::Lr) rfl h0 ip (hy l b0))
  refine am.trans (am.cons _ (am.cons _ hL)) (am.trans (am.perm ?_) (g9 (L:=jD l n E ps assign body b0 .ready none::C s0) (L':=Lf++rX b0::Lr)))
  show (jD l n E ps assign body b0 .ready none::rX b0::(C s0++(Lf++Lr))).Perm (jD l n E ps assign body b0 .ready none::(C s0++(Lf++rX b0::Lr)))
  refine List.Perm.cons _ ?_
  rw [<- fh, <- fh]
  exact (vU (l₁:=C s0++Lf)).symm
 ·rintro l b0 v L' ⟨xs,s',k1,k2,rfl⟩
  refine ⟨_,s'.2,rX b0::(C s'.1++(Lf++Lr)), ?_,(mC (L:=jD l n E ps assign body b0 (if s'.2.isNone then .ready else .done) s'.2::C s'.1)).trans (am.cons _ (am.perm ?_)),h b0 xs s' k1 k2⟩
  rotate_left
  ·show (C s'.1++(Lf++rX b0::Lr)).Perm (rX b0::(C s'.1++(Lf++Lr)))
   rw [<- fh, <- fh]; exact vU
  split <;> simp
end
section
variable {P:Program} {fn:Func} {Φ:Value->List HP->Prop} {e:Exit} {E:cZ} {L L2:List HP} {b:Nat}
theorem ai6 (h:aF P fn Φ e ⟨[],E,L⟩):NE P fn Φ e ⟨[],E,L⟩:=⟨[],L,rfl,am.refl _,h⟩
theorem qZ [hf:cR L (rX b) L2] (h:aF P fn Φ e ⟨[],E,L2⟩):NE P fn Φ e ⟨[Bf b],E,L⟩:=⟨[b],L2,rfl,hf.g,h⟩
theorem gH.all {σ α:Type} {step:LS σ->α->LS σ->Prop} {s s':LS σ} {xs:List α} (hn:∀ s x s',step s x s'->s'.2=none) (h:gH step (λs=> !s.2.isNone) s xs s') (h0:s.2=none):s'.2=none:=by
 induction h with
 | nil s=>exact h0
 | halt a b=>have:=hn _ _ _ a; simp [this] at b
 | go a b c ih=>exact ih (hn _ _ _ a)
end
open Go Go.Proofs Go.Proofs.Tryz
theorem tc {κ:Type} [DecidableEq κ] {K:hU κ} {R:bZ α} {ag:Bool} {b:Nat} {m done:List (κ × α)} {L0:List HP} (it:Nat) [hf:wH L it b κ α K R ag m done L0]:am L (cy K R ag b m::L0):=hf.g.trans abB
structure FD where
 xs:List Int
 A:Option Addr
 c:Nat
def U6:LS FD->Int->LS FD->Prop:=λs x s'=>s'.2=none/\s'.1.xs=s.1.xs++[x]
theorem agz {s s':LS FD} {xs:List Int} (h0:s.2=none) (h:gH U6 (λs=> !s.2.isNone) s xs s'):s'.2=none/\s'.1.xs=s.1.xs++xs:=by
 induction h with
 | nil s=>exact ⟨h0,by simp⟩
 | halt a b=>rw [a.1] at b; simp at b
 | go a b c ih=>have:=ih a.1; rw [a.2] at this; simpa using this
variable{hY:Bool->List Int->Prop}
theorem Yj {c:Value} {N:Nat} {Lf Lr:List HP} (hi:oA prog c (λk:Int=>[.int .i64 k]) (λk=>bP .i64 k) N Lf hY) (hN:N<=1099511627776):Fn prog 413 #[.slice none 0 0,c] (Lf++Lr) (λv L'=>∃ A' c' xs,v=.slice A' xs.length c'/\hY false xs/\L'=aN (aI .i64) 3 A' c' xs::(Lf++Lr)):=by
 refine ye func413 J J J J<|aa<|bS J J J λb2=>ae J<|O<|ar<|aa<|Y J<|O<|aX<|xY (λg:FD=>[cells b2 [.slice g.A g.xs.length g.c] 34,aN (aI .i64) 3 g.A g.c g.xs]) (U6) (λg:FD=>g.xs.length) (⟨[],none,0⟩) J (hi) ((du (aI .i64) 3 none _).trans (am.swap _ _ _)) (by decide) (λ_=>J) J (λs x s' h=>by rw [h.2]; simp) (λBg Bh g x Lx hx cL=> ?_) (λBi xs g oM gR=> ?_)
 ·obtain ⟨xs,A,c⟩:=g
  dsimp only at cL
  try simp only [dL,dm]
  refine aQ<|ae J<|O ?_
  refine ⟨rfl,_,cR.g, ?_⟩
  refine aX<|aQ<|ax J J<|Y J<|ef J J J J J J λmr=> ?_
  refine eh (k:=1) (aI .i64) [x] (bV.const λM=>⟨[.int .i64 x],[],⟨J,hx⟩,J,J⟩) J (by decide)<|bF<|aV 10 (.slice (some ⟨mr,0,none⟩) [x].length 1) J ?_
  exact fi J J J J J slk (by simp only [dO,ej]; omega) λkZ k9=>aE J J<|O<|bA<|⟨⟨xs++[x],kZ,k9⟩,none,J,⟨J,J⟩,al⟩
 obtain ⟨⟨ys,A,c⟩,j⟩:=g
 obtain ⟨rfl,h2⟩:=agz rfl gR
 dsimp only at h2
 rw [dm] at h2
 subst h2
 try simp only [dL,dm]
 exact Cm<|bA<|ai<|aa<|ax rfl rfl<|ae rfl<|O<|av<|qZ<|aZ rfl rfl al (⟨A,c,ys,rfl,oM,rfl⟩)
theorem Zo {c:Value} {N:Nat} {Lf Lr:List HP} (hi:oA prog c (λk:Int=>[.int .i64 k]) (λk=>bP .i64 k) N Lf hY) (hN:N<=1099511627776):Fn prog 362 #[c] (Lf++Lr) (λv L'=>∃ A' c' xs,v=.slice A' xs.length c'/\hY false xs/\L'=aN (aI .i64) 3 A' c' xs::(Lf++Lr)):=by
 refine aH func362 J J J J<|aa<|ae J<|O<|aa<|Y J<|aJ J J (Yj hi hN) ?_
 rintro _ _ ⟨A4,c4,xs,rfl,hs,rfl⟩
 exact ae J<|O<|av<|aZ J J al (⟨A4,c4,xs,J,hs,J⟩)
theorem aas {β:Type} {R:bZ β} {ag:Bool} {b bx:Nat} {m:List (Int × β)} {τ:Type} {l:Nat} {C:τ->HP} {step:τ->Int->τ->Prop} {stop:τ->Bool} {ek:τ->Nat} {s0:τ} {Lx:List HP} (h0:stop s0=false) (n6:ek s0=0) (ip:∀ s x s',step s x s'->ek s'=ek s+1) (hy:Ak prog l C (λk:Int=>[.int .i64 k]) (λk=>bP .i64 k) step stop ek m.length):
  Fn prog 364 #[.func (.yield l) #[] #[],.pointer (some ⟨bx,0,none⟩)] (fP l (C s0)::cells bx [.map (some b)] 135::cy eL R ag b m::Lx)
   (λv L'=>∃ xs s',(stop s'=false->xs.Perm (m.map (·.1)))/\gH step stop s0 xs s'/\L'=fP l (C s')::cells bx [.map (some b)] 135::cy eL R ag b m::Lx):=by
 refine aH func364 J J J J<|aa<|ax J J<|Aa J J λit=>O<|aX<|cY (σ:=List (Int × β) × τ) [0,5] (λg=>gH step stop s0 (g.1.map (·.1)) g.2/\stop g.2=false/\ek g.2=g.1.length) (λg kv=>kv) (λg=>fP l (C g.2)::na eL R ag b it m g.1::cells bx [.map (some b)] 135::Lx) (λg=>m.length - g.1.length) (([],s0)) J (⟨.nil _,h0,n6⟩) (al) (dc J) ?_
 rintro ⟨done,s⟩ ⟨hr,hs,hc⟩
 dsimp only at hr hs hc ⊢
 refine aa<|Ai J J (λhp=> ?_) (λq1 xo hq mK cL=> ?_)
 ·refine ab J J (aO J J)<|aV 7 (.bool false) J<|O<|ar<|aT J<|cw<|aY<|aY<|cu ?_
  exact aF.ay (tc it)<|lj (.inr J) J bu.g (⟨_,s,λ_=>hp.map _,hr,J⟩)
 refine ab J J (aO J J)<|aV 7 (.bool true) J<|O<|ar<|cg J<|az<|ai<|aX<|aa<|CF J J λJH xt=>ab J J (aO J J)<|ae J<|O<|aa<|Y J<|Y J ?_
 refine aP l<|yj J J J (hy s q1.1 _ hs xt (by omega)) ?_
 rintro _ _ ⟨s2,cK,rfl,rfl⟩
 refine ab J J (ff J)<|O<|gF J (λka=> ?_) (λka=> ?_)
 ·have eF:stop s2=true:=by simpa using ka
  refine av<|db<|aU<|db ?_
  exact aF.ay (tc it)<|lj (.inl J) J bu.g (⟨_,s2,λh=>(by rw [eF] at h; cases h),hr.snoc h0 hs cK,J⟩)
 have eF:stop s2=false:=by simpa using ka
 refine az<|bA<|ai ?_
 exact ⟨(done++[q1],s2),⟨by rw [kp]; exact hr.snoc h0 hs cK,eF,by rw [ip _ _ _ cK,hc]; simp⟩,by simp only [eQ,dO,ej]; omega,bO rfl⟩
end Go.SL
namespace Go.Proofs
open Go.Shelf
shelf_lay Lays.n189 Nm 189 at Tryz as Tryz.lays189
end Go.Proofs
namespace Go.SL
open Go Go.Proofs Go.Proofs.Tryz
def oT (xs:List Int):List Int:=xs.mergeSort λx y=>decide (x<=y)
theorem Mq (xs:List Int):(oT xs).Perm xs:=List.mergeSort_perm xs _
theorem HM (xs:List Int):(oT xs).length=xs.length:=(Mq xs).length_eq
theorem abJ (xs:List Int):(oT xs).Pairwise (λx y=>x<=y):=by
 have:=Kn (le:=λx y:Int=>decide (x<=y)) (λa b c h1 h2=>by simp at h1 h2 ⊢; omega) (λa b=>by simp; omega) xs
 exact this.imp λh=>by simpa using h
theorem Nb {xs ys:List Int} (h:xs.Perm ys) (hy:ys.Pairwise (λx y=>x < y)):oT xs=ys:=by
 have h1:(oT xs).Perm ys:=(Mq xs).trans h
 exact h1.eq_of_pairwise (λa b _ _ h1 h2=>by omega) (abJ xs) (hy.imp λh=>by omega)
variable{w:World}{L:List HP}
theorem bH.ahead {o:World} (h:bH o w L) (n:Nat):bH o (Go.Sort.ahead w n) L:=⟨h.ex,h.os,h.tape,h.output,h.size⟩
theorem bH.grow {o:World} (h:bH o w L) (xs:Array Obj):bH o (Go.Sort.grow w xs) L:=by
 obtain ⟨M,k,hd,hM,hk,hs⟩:=h.ex
 have gt:(heapOf w).le (heapOf (Go.Sort.grow w xs)):=λb x hb=>by
  have cL:=(uy.1 (show w.heap[b]? =some x from hb)).1
  show (Go.Sort.grow w xs).heap[b]? =some x
  rw [Go.Sort.heap_grow_old w xs cL]; exact hb
 exact ⟨⟨M,k,hd,Mem.le_trans hM gt,Mem.le_trans hk gt,hs⟩,h.os,h.tape,h.output,kf h.size (by simp [Go.Sort.grow])⟩
variable{A:Option Addr}{c:Nat}
theorem adm {xs:List Int} (hb:xs.length < 4611686018427387904):Fn prog 363 #[.slice A xs.length c] (aN (aI .i64) 3 A c xs::L) (λv L'=>v=.tuple #[]/\L'=aN (aI .i64) 3 A c (oT xs)::L):=λo w hs=>by
 obtain ⟨M,k,hd,hM,hk,h1,h2,eW,l1,l2,hp,hsep⟩:=hs.ex
 rcases hp.2 with ⟨rfl,rfl⟩ | ⟨g,cur,rfl,hg,ew,hl,hc,hx⟩
 ·refine (Any.slices_Sort_int_none lays189 A 0 w).mono ?_
  rintro e w' ⟨rfl,rfl⟩
  exact ⟨_,_,rfl,⟨rfl,rfl⟩,by rw [show oT []=[] by simp [oT]]; exact hs⟩
 ·have gu:w.heap[g]? =some (.cells cur 3 (0,0)):=hk _ _ (l1 _ _ hg)
  have cL:g < w.heap.size:=(uy.1 gu).1
  have FE:∀ i x,xs[i]? =some x->cur[i]? =some (Value.int .i64 x)/\bP .i64 x:=λi x hi=>by
   obtain ⟨l,⟨rfl,gV⟩,h⟩:=hx i x hi
   have:=h 0 _ rfl
   exact ⟨by simpa [aI] using this,gV⟩
  have fV:∀ x∈xs,bP .i64 x:=λx hx=>by
   obtain ⟨i,hi⟩:=od hx
   exact (FE i x hi).2
  have hH:Go.Sort.Holds (Value.int .i64) w g 0 xs.toArray:=λj hj=>by
   have qq:j < xs.length:=by simpa using hj
   refine ⟨?_,by simp [World.frozen?,gu]⟩
   rw [nD,rK gu,(FE j _ (cj qq)).1]
   simp [qq]
  have jf:bH o w (own g (.cells cur 3 (0,0))::L):=⟨⟨M,k,hd,hM,hk,h1,h2,eW,l1,l2,hg,hsep⟩,hs.os,hs.tape,hs.output,hs.size⟩
  refine (Any.slices_Sort_int lays189 g 0 c xs w hH cL hb).mono ?_
  rintro e w' ⟨rfl,n,os,rfl⟩
  have Od:bH o (Go.Sort.putRow (Value.int .i64) (Go.Sort.ahead w n) g 0 (oT xs).toArray) (own g (.cells (Go.Sort.putCells (Value.int .i64) 0 (oT xs).toArray cur) 3 (0,0))::L):=by
   refine (jf.ahead n).set ?_ ?_ rfl rfl rfl ?_
   ·show ((Go.Sort.ahead w n).heap.modify g (Go.Sort.onCells _))[g]? =_
    rw [qD,if_pos rfl,show (Go.Sort.ahead w n).heap[g]? =w.heap[g]? from rfl,gu]; rfl
   ·intro i hi
    show ((Go.Sort.ahead w n).heap.modify g (Go.Sort.onCells _))[i]? =_
    rw [qD,if_neg (Ne.symm hi)]
   ·show _<=((Go.Sort.ahead w n).heap.modify g (Go.Sort.onCells _)).size
    simp
  refine ⟨_,_,rfl,⟨rfl,rfl⟩,(Od.grow os).ay λN m ⟨a1,a2,ad,m1,m2,ha,fm⟩=>⟨a1,a2,ad,m1,m2,⟨by rw [HM]; exact hp.1,.inr ⟨g,_,rfl,ha, ?_,by rw [HM]; exact hl,hc,λi x hi=> ?_⟩⟩,fm⟩⟩
  ·simp [Go.Sort.putCells,ew]
  ·have hm:=eA hi
   have eG:i < (oT xs).length:=(dX.1 hi).1
   refine ⟨[.int .i64 x],⟨rfl,fV x ((Mq xs).mem_iff.1 hm)⟩,λj v hj=> ?_⟩
   have O7:j=0:=by
    have:=(dX.1 hj).1
    simp at this; exact this
   subst O7
   simp at hj
   subst hj
   have JI:i < cur.size:=by rw [ew]; rw [HM] at eG; simp [aI]; omega
   have vr:(oT xs)[i]=x:=by
    have:=hi; rw [cj eG] at this; exact ez this
   simp [Go.Sort.putCells,aI,Array.getElem?_mapIdx,eG,vr,D' JI]
open Go Go.Proofs Go.Proofs.Tryz
theorem KY {c:Value} {N:Nat} {Lf Lr:List HP} {hY:Bool->List Int->Prop} (hi:oA prog c (λk:Int=>[.int .i64 k]) (λk=>bP .i64 k) N Lf hY) (hN:N<=1099511627776):Fn prog 272 #[c] (Lf++Lr) (λv L'=>∃ A' c' xs,v=.slice A' (oT xs).length c'/\hY false xs/\L'=aN (aI .i64) 3 A' c' (oT xs)::(Lf++Lr)):=by
 refine aH func272 J J J J<|aa<|ae J<|O<|aa<|Y J<|aJ J J (Zo hi hN) ?_
 rintro _ _ ⟨A5,c5,xs,rfl,hs,rfl⟩
 refine EQ Uc (λ_ h=>h) λug=> ?_
 simp only [cE] at ug
 refine ae J<|O<|aa<|Y J<|aB J J (adm (by omega))<|O<|aa<|Y J<|ae J<|O<|av ?_
 rw [<- HM xs]
 exact aZ J J al (⟨A5,c5,xs,J,hs,J⟩)
variable{b:Nat}
theorem abK {β:Type} {R:bZ β} {ag:Bool} {bx:Nat} {m:List (Int × β)}:oA prog (.func (.func 364) #[] #[.pointer (some ⟨bx,0,none⟩)]) (λk:Int=>[.int .i64 k]) (λk=>bP .i64 k) m.length [cells bx [.map (some b)] 135,cy eL R ag b m] (λs ks=>s=false->ks.Perm (m.map (·.1))):=
 ⟨_,[],[.pointer (some ⟨bx,0,none⟩)],rfl,inferInstance,λτ l C step stop ek s0 Lx h0 hc ip hy=>(aas h0 hc ip hy).rM λv L' ⟨xs,s',a1,a2,a3⟩=>⟨xs,s',a1,a2,a3⟩⟩
theorem abL:Fn prog 273 #[.map (some b)] L (λv L'=>∃ bx,v=.func (.func 364) #[] #[.pointer (some ⟨bx,0,none⟩)]/\L'=cells bx [.map (some b)] 135::L):=by
 exact aH func273 J J J J<|aa<|bS J J J λb1=>ae J<|O<|aa<|ab J J (gy J J)<|ae J<|O<|av<|aZ J J al (⟨b1,J,J⟩)
open Go Go.Proofs Go.Proofs.Tryz
instance:yU jm (Option Addr × Nat) 5 hO (λe p=>[sl (aI .i64) p.1 p.2 e.order.cut]) (λe=>fC e.order):=⟨⟨_,_,rfl⟩⟩
abbrev ve (e:dZ) (p:Option Addr × Nat):Value:=.agg (List.toArray (hO e p))
variable{B:Option Addr}{d:Nat}
theorem Qs {xs ys:List Int} (hk:bR L (aI .i64) A c xs) (gV:bR L (aI .i64) B d ys):Fn prog 339 #[.slice A xs.length c,.slice B ys.length d] L (λv L'=>v=.bool (decide (xs=ys))/\L'=L):=by
 refine aH func339 J J J J<|hk.lens λhl=> ?_
 simp only [cE] at hl
 refine aa<|ae J<|O<|ar<|aa<|Y J<|ab J J (bY J)<|Y J<|ab J J (bY J)<|ab J J (dB J J)<|O<|bz J (λf0=> ?_) (λf0=> ?_)
 ·exact aa<|ae J<|O<|av<|aU<|aZ J J al (⟨by rw [cJ]; rintro rfl; exact f0 rfl,J⟩)
 refine az<|ai<|ar<|aa<|Y J<|ab J J (bY J)<|Y J<|O<|aX<|cY (σ:=Nat) [0,1,12] (λi=>i<=xs.length/\xs.take i=ys.take i) (λi kv=>(13,.int .i64 (i:Int))::kv) (λi=>L) (λi=>xs.length - i) (0) J (⟨dF _,J⟩) (al) (dc J) λi hi=>aa<|ab J J (bU J J)<|O<|ar<|bz J (λgK=> ?_) (λgK=> ?_)
 ·refine az<|ai<|ar<|aX<|aa<|Y J<|ae J<|O ?_
  have hx:=cj (show i < xs.length by omega)
  have hy:=cj (show i < ys.length by omega)
  refine gr hk hx λb1 o1 e1=>gr gV hy λb2 o2 e2=> ?_
  subst e1
  subst e2
  refine bW _ [] [0,2,4,6,8,10,12,14,16] (by kernel_rfl) (am.refl _)<|aq J J<|aq J J<|ak J J (iX (R:=aI .i64) (xs:=xs) J J J hx)<|ak J J (gi (q:=0) J hk hx J)<|aq J J<|aq J J<|ak J J (iX (R:=aI .i64) (xs:=ys) J J J hy)<|ak J J (gi (q:=0) J gV hy J)<|ak J J (dB J J)<|aR<|bz J (λmN=> ?_) (λmN=> ?_)
  ·exact aa<|ae J<|O<|av<|db<|aU<|aU<|db<|aU<|aZ J J al (⟨by rw [cJ]; rintro rfl; exact mN rfl,J⟩)
  refine az<|bA<|ai<|aQ<|ab J J (bE J J (by omega))<|br 25 (v':=.int .i64 ((i+1:Nat):Int)) J (by simp)<|Y J<|O<|ai ?_
  exact ⟨i+1,⟨by omega,LH hi.2 hx hy (eX.1 mN)⟩,by omega,bO rfl⟩
 exact cw<|aY<|aY<|cu<|ai<|aa<|ae J<|O<|av<|aZ J J al (⟨by rw [dV (Mn hi.2 (by omega) (by omega))],J⟩)
theorem QK (e:dZ) (hk:bR L (aI .i64) A c e.order.cut) (ho:fC e.order):Fn prog 236 #[ve e (A,c)] L (λv L'=>∃ p,v=ve e p/\L'=aN (aI .i64) 3 p.1 p.2 e.order.cut::L):=by
 refine aH func236 J J J J<|aa<|bS J J J λb1=>bB J J λb2=>O<|aa<|ao J<|ao J<|ax J J<|aJ J J (gz hk.tail.tail ho.2.2.2) ?_
 rintro _ _ ⟨A6,c6,rfl,rfl⟩
 exact ao J<|ao J<|aE J J<|O<|aa<|bD J J<|aE J J<|O<|av<|eK (.inl J) J (bf.agg J J) bu.g (⟨(A6,c6),J,J⟩)
theorem aat (a b:dZ) (hk:bR L (aI .i64) A c a.order.cut) (gV:bR L (aI .i64) B d b.order.cut):Fn prog 235 #[ve a (A,c),ve b (B,d)] L (λv L'=>v=.bool (decide (a=b))/\L'=L):=by
 refine aH func235 J J J J<|aa<|bS J J J λb2=>bS J J J λb3=>ae J<|O<|iQ (by kernel_rfl)<|fq 4 5 (by decide) ?_ ?_
 ·refine dN _ [] [0,2,4,6,9,11,13,15] (by kernel_rfl) (am.refl _)<|aw J J<|cf J J J<|aw J J<|cf J J J<|an J<|bB J J λb5=>au<|an J<|bB J J λb6=>au<|an J<|aE J J<|au<|an J<|aE J J<|au<|aR<|ai<|aa<|ao J<|ax J J<|ao J<|ax J J<|ab J J (fR J J (dh.bool))<|br 15 (v':=.bool (decide (a.fe=b.fe))) J (bi Value.bool (by cases a.fe <;> cases b.fe <;> rfl))<|jJ 28 43 (a=b) ?_ ?_
  ·refine Y J<|dl 16 J (λeI=> ?_) (λeI=> ?_)
   ·refine aj J<|ao J<|aj J<|ax J J<|aj J<|ao J<|aj J<|ax J J<|aj J<|ab J J (kI J J)<|aA J<|Y J<|dl 23 J (λgv=> ?_) (λgv=> ?_)
    ·refine aj J<|ao J<|aj J<|ax J J<|aj J<|ao J<|aj J<|ax J J<|aj J<|ab J J (kI J J)<|aA J<|Y J<|dl 30 J (λoU=> ?_) (λoU=> ?_)
     ·refine aj J<|ao J<|aj J<|ax J J<|aj J<|ao J<|aj J<|ax J J<|aj J<|ab J J (ce J J)<|aA J<|Y J<|dl 37 J (λlG=> ?_) (λlG=> ?_)
      ·refine aj J<|ao J<|aj J<|ax J J<|aj J<|ao J<|aj J<|ax J J<|aj J<|aB J J (Qs hk.tail.tail.tail.tail gV.tail.tail.tail.tail)<|aA J<|dH J ?_ (by repeat (first | exact dI | refine dJ rfl ?_)) al
       exact bi Value.bool (gX.2 (by simp [sJ,qP, *]))
      refine ah J<|ah J<|ah J<|ah J<|ah J<|aA J<|dH J ?_ (by repeat (first | exact dI | refine dJ rfl ?_)) al
      exact bi Value.bool (cJ (by simp [sJ,qP, *])).symm
     refine ah J<|ah J<|ah J<|ah J<|ah J<|aA J<|Y J<|ah J<|ah J<|ah J<|ah J<|ah J<|aA J<|dH J ?_ (by repeat (first | exact dI | refine dJ rfl ?_)) al
     exact bi Value.bool (cJ (by simp [sJ,qP, *])).symm
    refine ah J<|ah J<|ah J<|ah J<|ah J<|aA J<|Y J<|ah J<|ah J<|ah J<|ah J<|ah J<|aA J<|Y J<|ah J<|ah J<|ah J<|ah J<|ah J<|aA J<|dH J ?_ (by repeat (first | exact dI | refine dJ rfl ?_)) al
    exact bi Value.bool (cJ (by simp [sJ,qP, *])).symm
   refine ah J<|ah J<|ah J<|ah J<|ah J<|aA J<|Y J<|ah J<|ah J<|ah J<|ah J<|ah J<|aA J<|Y J<|ah J<|ah J<|ah J<|ah J<|ah J<|aA J<|Y J<|ah J<|ah J<|ah J<|ah J<|ah J<|aA J<|dH J ?_ (by repeat (first | exact dI | refine dJ rfl ?_)) al
   exact bi Value.bool (cJ (by simp [sJ,qP, *])).symm
  exact ae J<|O<|av<|cI J J
 refine dN _ [] [0,2,4,6,11,9,13,15] (by kernel_rfl) (am.refl _)<|aw J J<|cf J J J<|aw J J<|cf J J J<|an J<|bB J J λb6=>au<|an J<|bB J J λb5=>au<|an J<|aE J J<|au<|an J<|aE J J<|au<|aR<|ai<|aa<|ao J<|ax J J<|ao J<|ax J J<|ab J J (fR J J (dh.bool))<|br 15 (v':=.bool (decide (a.fe=b.fe))) J (bi Value.bool (by cases a.fe <;> cases b.fe <;> rfl))<|jJ 28 43 (a=b) ?_ ?_
 ·refine Y J<|dl 16 J (λeI=> ?_) (λeI=> ?_)
  ·refine aj J<|ao J<|aj J<|ax J J<|aj J<|ao J<|aj J<|ax J J<|aj J<|ab J J (kI J J)<|aA J<|Y J<|dl 23 J (λgv=> ?_) (λgv=> ?_)
   ·refine aj J<|ao J<|aj J<|ax J J<|aj J<|ao J<|aj J<|ax J J<|aj J<|ab J J (kI J J)<|aA J<|Y J<|dl 30 J (λoU=> ?_) (λoU=> ?_)
    ·refine aj J<|ao J<|aj J<|ax J J<|aj J<|ao J<|aj J<|ax J J<|aj J<|ab J J (ce J J)<|aA J<|Y J<|dl 37 J (λlG=> ?_) (λlG=> ?_)
     ·refine aj J<|ao J<|aj J<|ax J J<|aj J<|ao J<|aj J<|ax J J<|aj J<|aB J J (Qs hk.tail.tail.tail.tail gV.tail.tail.tail.tail)<|aA J<|dH J ?_ (by repeat (first | exact dI | refine dJ rfl ?_)) al
      exact bi Value.bool (gX.2 (by simp [sJ,qP, *]))
     refine ah J<|ah J<|ah J<|ah J<|ah J<|aA J<|dH J ?_ (by repeat (first | exact dI | refine dJ rfl ?_)) al
     exact bi Value.bool (cJ (by simp [sJ,qP, *])).symm
    refine ah J<|ah J<|ah J<|ah J<|ah J<|aA J<|Y J<|ah J<|ah J<|ah J<|ah J<|ah J<|aA J<|dH J ?_ (by repeat (first | exact dI | refine dJ rfl ?_)) al
    exact bi Value.bool (cJ (by simp [sJ,qP, *])).symm
   refine ah J<|ah J<|ah J<|ah J<|ah J<|aA J<|Y J<|ah J<|ah J<|ah J<|ah J<|ah J<|aA J<|Y J<|ah J<|ah J<|ah J<|ah J<|ah J<|aA J<|dH J ?_ (by repeat (first | exact dI | refine dJ rfl ?_)) al
   exact bi Value.bool (cJ (by simp [sJ,qP, *])).symm
  refine ah J<|ah J<|ah J<|ah J<|ah J<|aA J<|Y J<|ah J<|ah J<|ah J<|ah J<|ah J<|aA J<|Y J<|ah J<|ah J<|ah J<|ah J<|ah J<|aA J<|Y J<|ah J<|ah J<|ah J<|ah J<|ah J<|aA J<|dH J ?_ (by repeat (first | exact dI | refine dJ rfl ?_)) al
  exact bi Value.bool (cJ (by simp [sJ,qP, *])).symm
 exact ae J<|O<|av<|cI J J
abbrev O8 (b:Nat) (l:List gG) (bt:Nat):List HP:=[cells b [.map (some bt),.int .i64 ((eb l:Nat):Int)] 285,cy eL jm true bt l,pure (LI l)]
def lr (b:Nat) (l:List gG):HP:=oS (O8 b l)
variable{l:List gG}
instance:jz (lr b l::L) b (lr b l) L:=⟨am.refl _⟩
section
variable {r:Option Nat} {n:Nat} {P:Program} {ops:Array Oper} {rest:List Oper} {K:St->Prop} {Q:Exit->St->Prop} {D:List Deferred} {E:cZ} {L L':List HP} {b:Nat} {l:List gG}
theorem aeX {p:Prop} {W:World} (h:bH W w (pure p::L)):p/\bH W w L:=by
 obtain ⟨M,k,hd,hM,hk,h1,h2,eW,l1,l2,hp,hs⟩:=h.ex
 exact ⟨hp,h.ay (am.drop _ _)⟩
theorem Uu {W:World} (h:bH W w (lr b l::L)):∃ bt,LI l/\bH W w (cells b [.map (some bt),.int .i64 ((eb l:Nat):Int)] 285::cy eL jm true bt l::L):=by
 obtain ⟨bt,hp⟩:=sI h
 obtain ⟨hi,hs⟩:=aeX (hp.ay (am.mH 2 (O8 b l bt++L)))
 exact ⟨bt,hi,hs⟩
theorem I8 {c:Code} (h:∀ bt,LI l->T r n P c ⟨D,E,cells b [.map (some bt),.int .i64 ((eb l:Nat):Int)] 285::cy eL jm true bt l::L⟩ Q):T r n P c ⟨D,E,lr b l::L⟩ Q:=λW a w hh=>by
 obtain ⟨bt,hi,hs⟩:=Uu hh.2
 exact h bt hi W a w ⟨hh.1,hs⟩
theorem VB {c:Code} (h:LI l->T r n P c ⟨D,E,lr b l::L⟩ Q):T r n P c ⟨D,E,lr b l::L⟩ Q:=λW a w hh=>by
 obtain ⟨bt,hi,hs⟩:=Uu hh.2
 exact h hi W a w hh
theorem uM {bt:Nat} {L1 L2:List HP} (b:Nat) (l:List gG) [h1:fL L b [.map (some bt),.int .i64 ((eb l:Nat):Int)] 285 L1] [h2:iI L1 bt Int dZ eL jm true l L2] (hi:LI l):am L (lr b l::L2):=by
 refine am.trans (h1.g.trans (am.cons _ h2.g)) ?_
 refine am.trans ?_ (o_ (f:=O8 b l) bt)
 exact am.cons _ (am.cons _ (am.sF hi))
end
theorem Lk (L:List HP):Fn prog 118 #[] L (λv L'=>∃ b,v=.pointer (some ⟨b,0,none⟩)/\L'=lr b []::L):=by
 exact aH func118 J J J J<|aa<|ae J<|O<|aa<|o7 eL jm true J λbt=>ab J J (bI J J)<|bS J J J λb3=>ae J<|O<|av<|aF.ay (uM (bt:=bt) b3 [] LI.nil)<|aZ J J al (⟨b3,J,J⟩)
theorem KZ:Fn prog 172 #[.pointer (some ⟨b,0,none⟩)] (lr b l::L) (λv L'=>v=.bool true/\L'=lr b l::L):=by
 exact aH func172 J J J J<|I8 λbt hi=>aa<|ae J<|O<|aa<|Y J<|ab J J (f8 J J (dh.eJ))<|br 4 (v':=.bool true) J (by simp)<|Y J<|aj J<|Y J<|aj J<|aS J<|aj J<|ao J<|aj J<|ax J J<|aj J<|ab J J (f8 J J (dh.map_nil))<|br 10 (v':=.bool true) J (by simp)<|aA J<|ae J<|O<|av<|aF.ay (uM b l hi)<|cI J J
theorem uE:Fn prog 90 #[.pointer (some ⟨b,0,none⟩)] (lr b l::L) (λv L'=>v=.int .i64 ((eb l:Nat):Int)/\L'=lr b l::L):=by
 exact aH func90 J J J J<|aa<|ae J<|O<|ar<|aa<|Y J<|aP b<|aB J J (KZ)<|aV 4 (.bool true) J<|ab J J (df J)<|O<|aT J<|az<|ai<|I8 λbt hi=>aa<|Y J<|aS J<|ao J<|ax J J<|ae J<|O<|av<|aF.ay (uM b l hi)<|cI J J
def d8 (l:List gG) (k:Int):dZ:=(cq l k).getD ⟨true,⟨⟨#[]⟩,⟨#[]⟩,0,[]⟩⟩
theorem HN (k:Int) (hk:bP .i64 k):Fn prog 133 #[.pointer (some ⟨b,0,none⟩),.int .i64 k] (lr b l::L) (λv L'=>∃ p,v=.tuple #[ve (d8 l k) p,.bool (cq l k).isSome]/\fC (d8 l k).order/\L'=aN (aI .i64) 3 p.1 p.2 (d8 l k).order.cut::lr b l::L):=by
 refine aH func133 J J J J<|aa<|bB J J λb4=>ae J<|O<|ar<|aa<|Y J<|aP b<|aB J J (KZ)<|aV 9 (.bool true) J<|O<|cg J<|I8 λbt hi=>aa<|Y J<|aS J<|ao J<|ax J J<|Y J<|o4 (k:=k) J J J hk (λhn=> ?_) (λu p hu mQ=> ?_)
 ·refine Y J<|ab J J (aO J J)<|ab J J (aO J J)<|aV 18 (.bool false) J<|bB J J λb6=>aE J J<|ae J<|O<|aa<|Y J<|O<|aT J<|az<|ai<|aa<|ab J J (bI J J)<|aE J J<|ae J<|O<|av ?_
  have e1:d8 l k=⟨true,⟨⟨#[]⟩,⟨#[]⟩,0,[]⟩⟩:=by unfold d8; rw [hn]; rfl
  rw [e1,hn]
  refine aF.ay (du (aI .i64) 3 none _)<|aF.ay (am.cons _ (uM b l hi)) ?_
  exact kK (.inl rfl) rfl (bf.agg rfl rfl) (bf.tmp rfl) bu.g (⟨(none,0),rfl,⟨by decide,by decide,by decide,by decide⟩,rfl⟩)
 refine Y J ?_
 simp only [dL,dm]
 refine ab J J (aO J J)<|ab J J (aO J J)<|aV 18 (.bool true) J<|bB J J λb6=>aE J J<|ae J<|O<|aa<|Y J<|O<|cg J<|aa<|bD J J<|aJ J J (QK u bJ mQ) ?_
 rintro _ _ ⟨q,rfl,rfl⟩
 refine aE J J<|ae J<|O<|av<|aU ?_
 have e2:d8 l k=u:=by unfold d8; rw [hu]; rfl
 rw [e2,hu]
 exact aF.ay (uM b l hi)<|kK (.inl J) J (bf.agg J J) (bf.tmp J) bu.g (⟨q,J,mQ,J⟩)
open Go Go.Proofs Go.Proofs.Tryz
theorem VZ {l:List Value} (h:l.length=5):∃ a b c d e,l=[a,b,c,d,e]:=by
 match l,h with
 | [a,b,c,d,e],_=>exact ⟨a,b,c,d,e,rfl⟩
theorem YF (slot:Int) (e:dZ) (hs:bP .i64 slot) (ho:fC e.order) (hb:jd e.order<=140737488355000) (hk:bR L (aI .i64) A c e.order.cut):Fn prog 129 #[.pointer (some ⟨b,0,none⟩),.int .i64 slot,ve e (A,c)] (lr b l::L) (λv L'=>v=.int .i64 (kr l slot e).2/\L'=lr b (kr l slot e).1::L):=by
 refine aH func129 J J J J<|aa<|bS J J J λb5=>ae J<|O<|ar<|aa<|Y J<|aP b<|aB J J (KZ)<|aV 14 (.bool true) J<|ab J J (df J)<|O<|aT J<|az<|ai<|ar<|aa<|bD J J<|ab J J (bI J J)<|aJ J J (U3 (λL hk↦Kv e ho hk hb) hk.tail.tail) ?_
 rintro _ _ ⟨⟨B19,d19,k19,rfl⟩,rfl⟩
 refine Y J<|ab J J (aO J J)<|ab J J (aO J J)<|ae J<|ae J<|O<|aa<|Y J<|ab J J (dB J J)<|br 23 (v':=.bool (decide (¬ f_ e))) J (by by_cases hr:f_ e <;> simp [hr])<|jJ 8 31 (¬ (f_ e/\0<=slot/\slot<=2147483647)) ?_ ?_
 ·refine Y J<|dl 24 J (λmN=> ?_) (λmN=> ?_)
  ·refine ah J<|ah J<|aA J<|Y J<|ah J<|ah J<|aA J<|dH J ?_ (by repeat (first | exact dI | refine dJ rfl ?_)) al
   exact bi Value.bool (dV (by by_cases hr:f_ e <;> simp_all <;> omega)).symm
  refine aj J<|Y J<|aj J<|ab J J (bU J J)<|aA J<|Y J<|dl 28 J (λxu=> ?_) (λxu=> ?_)
  ·refine ah J<|ah J<|aA J<|dH J ?_ (by repeat (first | exact dI | refine dJ rfl ?_)) al
   exact bi Value.bool (dV (by by_cases hr:f_ e <;> simp_all <;> omega)).symm
  refine aj J<|Y J<|aj J<|ab J J (eE J J)<|aA J<|dH J ?_ (by repeat (first | exact dI | refine dJ rfl ?_)) al
  exact bi Value.bool (gX.2 (by by_cases hr:f_ e <;> simp_all <;> omega))
 refine O<|bz J (λjV=> ?_) (λjV=> ?_)
 ·refine aa<|ae J<|O<|av<|aU ?_
  have dt:kr l slot e=(l,1):=by unfold kr; rw [if_pos jV]
  rw [dt]
  exact cI J J
 refine az<|ai ?_
 have sd:=eX.1 jV
 refine cQ b<|I8 λbt hi=>aa<|Y J<|aS J<|ao J<|ax J J<|Y J<|o4 (k:=slot) J J J hs (λhn=> ?_) (λu p hu mQ=> ?_)
 ·refine Y J<|ab J J (aO J J)<|ab J J (aO J J)<|aV 40 (.bool false) J<|bB J J λb9=>aE J J<|ae J<|O<|ar<|aX<|aa<|Y J<|Y J<|ah J<|ah J<|ah J<|ah J<|aA J<|ae J<|O<|aT J<|aa<|Y J<|ae J<|O<|aT J<|aa<|Y J<|aS J<|ao J<|ax J J<|ab J J (Cz J)<|ab J J (eV J J)<|ae J<|O<|bz J (λh51=> ?_) (λh51=> ?_)
  ·refine aa<|ae J<|O<|av<|db<|aU ?_
   have dt:kr l slot e=(l,2):=by unfold kr; rw [if_neg jV,hn]; simp only; rw [if_pos (by omega)]
   rw [dt]
   exact aF.ay (uM b l hi)<|cI J J
  refine az<|bA<|ai ?_
  have dt:kr l slot e=(lB l slot e,0):=by unfold kr; rw [if_neg jV,hn]; simp only; rw [if_neg (by omega)]
  have dW:LI (lB l slot e):=hi.put hn sd.2 ⟨sd.1,ho⟩ (by omega)
  have DF:eb l<=eb (lB l slot e):=Nat.le_of_not_lt λcL=>dW.O4 (aeW.2 (.inr (hi.below cL)))
  have JG:=dW.spec.1
  have lE:=dW.len
  refine bW _ [7] [0,2,4,6,8,10,13,15] (by kernel_rfl) (am.refl _)<|aq J J<|aL J J<|aw J J<|aG J J J<|aq J J<|cf J J J<|an J<|aJ J J (QK e hk.tail.tail.tail.tail ho) ?_
  rintro _ _ ⟨q,rfl,rfl⟩
  refine bF<|au<|an J<|sH (R:=jm) (k:=slot) (u:=e) (cs:=hO e q) (lB l slot e) J J J hs (fI q (lk slk) ho) (adk hn)<|gZ J<|aR<|aX<|cY (σ:=Nat) [0] (λn=>n<=eb (lB l slot e)) (λn kv=>kv) (λn=>cells b [.map (some bt),.int .i64 (n:Int)] 285::cy eL jm true bt (lB l slot e)::L) (λn=>eb (lB l slot e) - n) (eb l) J (DF) (al) (dc J) λn hn=>aX<|ar<|iQ (by kernel_rfl)<|fq 8 12 (by decide) ?_ ?_
  ·refine dN _ [] [0,2,4,6,8,10,12,14,17,18,20,22,25,27,28] (by kernel_rfl) (am.refl _)<|aq J J<|aL J J<|aw J J<|aG J J J<|aq J J<|aL J J<|aw J J<|aG J J J<|an J<|Us (k:=(n:Int)) J J J (da (by omega)) J J λcs mM DH=> ?_
   obtain ⟨c0,c1,c2,c3,c4,rfl⟩:=VZ mM
   refine au<|aq J J<|ak J J (aO J J)<|ak J J (aO J J)<|an J<|bB J J λuh=>au<|an J<|H5 J J J J DH J<|au<|ak J J (bT J)<|aR<|ai<|aa<|Y J<|ab J J (ff J)<|O<|gF J (λBO=> ?_) (λBO=> ?_)
   ·have hg:¬ qj (lB l slot e) (n:Int):=by unfold qj; simpa using BO
    have Gi:eb (lB l slot e)=n:=by rcases Hc hn with h | h; exact absurd (dW.below h) hg; exact h.symm
    refine aa<|ae J<|O<|av<|aU<|db<|aU<|db ?_
    subst Gi
    rw [dt]
    exact aF.ay (uM b (lB l slot e) dW)<|cI J J
   have hg:qj (lB l slot e) (n:Int):=by unfold qj; simpa using BO
   have hn4:n < eb (lB l slot e):=by rcases Hc hn with h | h; exact h; (subst h; exact absurd hg dW.O4)
   refine az<|ai<|aQ<|Y J<|aS J<|ao J<|ax J J<|ab J J (bE J J (by omega))<|cz 83 J<|aS J<|ao J<|aE J J<|O<|bA<|ai ?_
   exact ⟨n+1,(by omega),by omega,bO rfl⟩
  refine dN _ [] [0,2,4,6,8,10,12,14,25,17,18,20,22,27,28] (by kernel_rfl) (am.refl _)<|aq J J<|aL J J<|aw J J<|aG J J J<|aq J J<|aL J J<|aw J J<|aG J J J<|an J<|bB J J λuh=>au<|an J<|Us (k:=(n:Int)) J J J (da (by omega)) J J λcs mM DH=> ?_
  obtain ⟨c0,c1,c2,c3,c4,rfl⟩:=VZ mM
  refine au<|aq J J<|ak J J (aO J J)<|ak J J (aO J J)<|an J<|H5 J J J J DH J<|au<|ak J J (bT J)<|aR<|ai<|aa<|Y J<|ab J J (ff J)<|O<|gF J (λBO=> ?_) (λBO=> ?_)
  ·have hg:¬ qj (lB l slot e) (n:Int):=by unfold qj; simpa using BO
   have Gi:eb (lB l slot e)=n:=by rcases Hc hn with h | h; exact absurd (dW.below h) hg; exact h.symm
   refine aa<|ae J<|O<|av<|aU<|db<|aU<|db ?_
   subst Gi
   rw [dt]
   exact aF.ay (uM b (lB l slot e) dW)<|cI J J
  have hg:qj (lB l slot e) (n:Int):=by unfold qj; simpa using BO
  have hn4:n < eb (lB l slot e):=by rcases Hc hn with h | h; exact h; (subst h; exact absurd hg dW.O4)
  refine az<|ai<|aQ<|Y J<|aS J<|ao J<|ax J J<|ab J J (bE J J (by omega))<|cz 83 J<|aS J<|ao J<|aE J J<|O<|bA<|ai ?_
  exact ⟨n+1,(by omega),by omega,bO rfl⟩
 refine Y J ?_
 simp only [dL,dm]
 refine ab J J (aO J J)<|ab J J (aO J J)<|aV 40 (.bool true) J<|bB J J λb9=>aE J J<|ae J<|O<|ar<|aX<|aa<|Y J<|Y J<|aj J<|bD J J<|aj J<|bD J J<|aj J<|aB J J (aat u e bJ hk.tail.tail.tail.tail.tail)<|aj J<|ab J J (iF J)<|aA J<|ae J<|O<|bz J (λue=> ?_) (λue=> ?_)
 ·refine aa<|ae J<|O<|av<|db<|aU ?_
  have dt:kr l slot e=(l,180):=by unfold kr; rw [if_neg jV,hu]; simp only; rw [if_neg ue]
  rw [dt]
  exact aF.ay (uM b l hi)<|cI J J
 refine aa<|Y J<|ae J<|O<|cg J<|aa<|ae J<|O<|av<|db<|aU ?_
 have dt:kr l slot e=(l,5):=by unfold kr; rw [if_neg jV,hu]; simp only; rw [if_pos (eX.1 ue)]
 rw [dt]
 exact aF.ay (uM b l hi)<|cI J J
theorem ahU (h:Ob l):ND l:=h.imp λh=>by omega
variable{i:Nat}
theorem LI.get_at (h:LI l) (hi:i < eb l):∃ e,l[i]? =some ((i:Int),e)/\cq l (i:Int)=some e/\fC e.order:=by
 obtain ⟨e,he⟩:=h.spec.2.1 i hi
 have hm:=eA he
 exact ⟨e,he,zW (ahU h.inc) hm,(h.VY _ hm).2⟩
abbrev sS:=Int × dZ × (Option Addr × Nat)
abbrev Uv (x:sS):List Value:=[.int .i64 x.1,ve x.2.1 x.2.2]
def U7 (x:sS) (L:List HP):Prop:=bP .i64 x.1/\fC x.2.1.order/\a_ L (aI .i64) x.2.2.1 x.2.2.2 x.2.1.order.cut
def AJ (x:sS):gG:=(x.1,x.2.1)
def je (l:List gG) (slot:Int):List gG:=(l.take (eb l)).drop (max slot 0).toNat
def NF (l:List gG) (slot:Int) (st:Bool) (xs:List sS):Prop:=(st=false->xs.map AJ=je l slot)/\xs.map AJ <+:je l slot
theorem Ro (slot:Int):Fn prog 139 #[.pointer (some ⟨b,0,none⟩),.int .i64 slot] L (λv L'=>∃ bl bs,v=.func (.func 246) #[] #[.pointer (some ⟨bs,0,none⟩),.pointer (some ⟨bl,0,none⟩)]/\L'=cells bl [.pointer (some ⟨b,0,none⟩)] 92::cells bs [.int .i64 slot] 3::L):=by
 exact aH func139 J J J J<|aa<|bS J J J λb2=>bS J J J λb3=>ae J<|O<|aa<|ab J J (gy J J)<|ae J<|O<|av<|aZ J J al (⟨b2,b3,J,J⟩)
theorem abM {bl bs:Nat} {slot:Int} (fW:bP .i64 slot) 
  {τ:Type} {ly:Nat} {C:τ->HP} {step:τ->sS->τ->Prop} {stop:τ->Bool} {ek:τ->Nat} {s0:τ} {Lx:List HP} (h0:stop s0=false) (n6:ek s0=0) (ip:∀ s x s',step s x s'->ek s'=ek s+1) (hy:EY prog ly C Uv U7 step stop ek 65536):
  Fn prog 246 #[.func (.yield ly) #[] #[],.pointer (some ⟨bs,0,none⟩),.pointer (some ⟨bl,0,none⟩)] (fP ly (C s0)::lr b l::cells bl [.pointer (some ⟨b,0,none⟩)] 92::cells bs [.int .i64 slot] 3::Lx)
   (λv L'=>∃ xs s',NF l slot (stop s') xs/\gH step stop s0 xs s'/\L'=fP ly (C s')::lr b l::cells bl [.pointer (some ⟨b,0,none⟩)] 92::cells bs [.int .i64 slot] 3::Lx):=by
 have fW:=i64In fW
 obtain ⟨f,hf⟩:∃ f:Nat,f=(max slot 0).toNat:=⟨_,rfl⟩
 have ia:je l slot=(l.take (eb l)).drop f:=by rw [hf]; rfl
 refine aH func246 J J J J<|cQ b<|VB λhi=> ?_
 have eP:=hi.len
 have lE:=hi.spec.1
 refine aa<|ax J J<|ab J J (Df J J)<|br 8 (v':=.int .i64 (f:Int)) J (by congr 1; omega)<|ae J<|O<|aX<|cY (σ:=List sS × τ) [0,2] (λg=>g.1.map AJ=(je l slot).take g.1.length/\gH step stop s0 g.1 g.2/\stop g.2=false/\ek g.2=g.1.length/\(g.1.length=0\/f+g.1.length<=eb l)) (λg kv=>(4,.int .i64 ((f+g.1.length:Nat):Int))::kv) (λg=>fP ly (C g.2)::lr b l::cells bl [.pointer (some ⟨b,0,none⟩)] 92::cells bs [.int .i64 slot] 3::Lx) (λg=>eb l - (f+g.1.length)) (([],s0)) J (⟨J,.nil _,h0,n6,.inl J⟩) (al) (dc J) ?_
 rintro ⟨xs,st⟩ ⟨hx,hr,hs,hc,kY⟩
 dsimp only at hx hr hs hc kY ⊢
 refine ar<|aa<|Y J<|ax J J<|aP b<|aB J J (uE)<|ab J J (bU J J)<|O<|bz J (λf2=> ?_) (λf2=> ?_)
 ·refine az<|ai<|ar<|aX<|aa ?_
  obtain ⟨e,he,DD,zm⟩:=hi.get_at (i:=f+xs.length) (by omega)
  have qp:d8 l ((f+xs.length:Nat):Int)=e:=by unfold d8; rw [DD]; rfl
  have fV:bP .i64 ((f+xs.length:Nat):Int):=da (by omega)
  refine ax J J<|Y J<|aP b<|aJ J J (HN ((f+xs.length:Nat):Int) fV) ?_
  rintro _ _ ⟨q,rfl,_,rfl⟩
  rw [qp]
  refine bF<|Y J<|ab J J (aO J J)<|ab J J (aO J J)<|bB J J λb5=>aE J J<|ae J<|O<|aa<|Y J<|Y J<|bD J J<|aP ly<|yj J J J (hy st (((f+xs.length:Nat):Int),e,q) _ hs ⟨fV,zm,slk⟩ (by omega)) ?_
  rintro _ _ ⟨s2,cK,rfl,rfl⟩
  refine ab J J (ff J)<|O ?_
  have xv:(je l slot)[xs.length]? =some (((f+xs.length:Nat):Int),e):=by rw [ia,qF,List.getElem?_take_of_lt (by omega)]; exact he
  have jF:(xs++[(((f+xs.length:Nat):Int),e,q)]).map AJ=(je l slot).take (xs++[(((f+xs.length:Nat):Int),e,q)]).length:=by rw [kp,hx,eQ,Ce,qQ xv]; rfl
  refine gF J (λj_=> ?_) (λj_=> ?_)
  ·have eF:stop s2=true:=by simpa using j_
   refine av<|db<|aU<|aU<|db ?_
   exact lj (.inl rfl) rfl bu.g (⟨_,s2,⟨λh=>(by rw [eF] at h; cases h),by rw [jF]; exact Hh _ _⟩,hr.snoc h0 hs cK,rfl⟩)
  have eF:stop s2=false:=by simpa using j_
  refine az<|bA<|ai<|aQ<|Y J<|ab J J (bE J J (by omega))<|br 14 (v':=.int .i64 ((f+(xs++[((((f+xs.length:Nat):Int),e,q):sS)]).length:Nat):Int)) J (by simp; omega)<|ae J<|O<|ai ?_
  exact ⟨(xs++[(((f+xs.length:Nat):Int),e,q)],s2),⟨jF,hr.snoc h0 hs cK,eF,by dsimp only; rw [ip _ _ _ cK,hc]; simp,.inr (by simp; omega)⟩,by simp; omega,bO rfl⟩
 refine cw<|aY<|aY<|cu ?_
 have eH:xs.map AJ=je l slot:=by rw [hx,gQ (by rw [ia,uB,gq]; omega)]
 exact lj (.inr rfl) rfl bu.g (⟨_,st,⟨λ_=>eH,by rw [eH]; exact List.prefix_rfl⟩,hr,rfl⟩)
theorem SO {bl bs:Nat} {slot:Int} (fW:bP .i64 slot):IQ prog (.func (.func 246) #[] #[.pointer (some ⟨bs,0,none⟩),.pointer (some ⟨bl,0,none⟩)]) Uv U7 65536 [lr b l,cells bl [.pointer (some ⟨b,0,none⟩)] 92,cells bs [.int .i64 slot] 3] (NF l slot):=
 ⟨_,[],[.pointer (some ⟨bs,0,none⟩),.pointer (some ⟨bl,0,none⟩)],rfl,inferInstance,λτ ly C step stop ek s0 Lx h0 hc ip hy=>(abM fW h0 hc ip hy).rM λv L' ⟨xs,s',a1,a2,a3⟩=>⟨xs,s',a1,a2,a3⟩⟩
open Go Go.Proofs
structure jk where
 id:Int
 x:dv
abbrev qk (o:jk) (p:Option Addr × Nat):List Value:=[.int .i64 o.id,.string o.x.cV,.string o.x.aK,.int .i64 o.x.eO,.slice p.1 o.x.cut.length p.2]
abbrev FF (o:jk) (p:Option Addr × Nat):Value:=.agg (List.toArray (qk o p))
def tZ (o:jk):Prop:=bP .i64 o.id/\fC o.x
def vf:bZ jk:=mo 5 qk (λo p=>[sl (aI .i64) p.1 p.2 o.x.cut]) tZ (λ_ _=>rfl) (λ_ _=>rfl)
abbrev rc:jk:=⟨0,⟨sO,sO,0,[]⟩⟩
theorem EZ:tZ rc:=⟨by decide,by unfold fC; decide⟩
structure SM where
 os:List jk
 dn:Int
def i7 (os:List jk) (aK:ByteArray):Nat:=(os.filter λo=>decide (o.x.aK=aK)).length
def lU (os:List jk) (t:ByteArray):Option jk:=os.find? λo=>decide (o.x.cV=t)
def rd (os:List jk) (t:ByteArray):Nat:=match os.findIdx? λo=>decide (o.x.cV=t) with | some i=>i+1 | none=>0
def kz (os:List jk) (x:dv):jk:=⟨((os.length:Nat):Int)+1,x⟩
def eo (s:SM) (e:dZ):SM × jk × Bool × Int:=
 if ¬ f_ e then (s,rc,false,1)
 else if e.fe=true then (⟨s.os,s.dn+1⟩,rc,false,0)
 else match lU s.os e.order.cV with
  | some o=>(⟨s.os,s.dn+1⟩,o,false,0)
  | none=>
   if e.order.eO≠(i7 s.os e.order.aK:Int) then (⟨s.os,s.dn+1⟩,rc,false,190)
   else if 65536<=s.os.length then (⟨s.os,s.dn+1⟩,rc,false,2)
   else (⟨s.os++[kz s.os e.order],s.dn+1⟩,kz s.os e.order,true,0)
def uW (os:List jk) (id:Int):Option jk:=if 1<=id/\id<=(os.length:Int) then os[(id - 1).toNat]? else none
def xw (o:Option jk):jk:=o.getD rc
theorem adn {os:List jk} {t:ByteArray}:lU os t=none↔rd os t=0:=by
 unfold lU rd
 rw [vR]
 cases e:os.findIdx? λo=>decide (o.x.cV=t) with
 | none=>simp [List.findIdx?_eq_none_iff] at e; simp; exact λo ho=>e o ho
 | some i=>
  simp
  obtain ⟨h,h2,_⟩:=Kk.1 e
  exact ⟨_,Ef h,by simpa using h2⟩
theorem aeY (os:List jk) (t:ByteArray):lU os t=uW os (rd os t:Int):=by
 unfold lU rd
 cases e:os.findIdx? λo=>decide (o.x.cV=t) with
 | none=>
  simp [List.findIdx?_eq_none_iff] at e
  simp [uW]
  exact λo ho=>e o ho
 | some i=>
  obtain ⟨h,h2,h3⟩:=Kk.1 e
  simp only []
  rw [uW,if_pos (by omega),show (((i+1:Nat):Int) - 1).toNat=i by omega,cj h]
  exact List.find?_eq_some_iff_getElem.2 ⟨h2,i,h,rfl,λj hj=>by simpa using h3 j hj⟩
theorem Io (os:List jk) (c:ByteArray):i7 os c<=os.length:=kG _ _
def yV (s:SM) (tk ep:List (ByteArray × Int)):Prop:=
 s.os.length<=65536/\(∀ t,(cq tk t).getD 0=(rd s.os t:Int))/\(∀ c,(cq ep c).getD 0=(i7 s.os c:Int))
structure SP where
 A:Option Addr
 c:Nat
 bt:Nat
 be:Nat
 tk:List (ByteArray × Int)
 ep:List (ByteArray × Int)
abbrev JJ (b:Nat) (s:SM) (p:SP):List HP:=[cells b [.slice p.A s.os.length p.c,.map (some p.bt),.map (some p.be),.int .i64 s.dn] 357,aN vf 64 p.A p.c s.os,cy fb (aI .i64) false p.bt p.tk,cy fb (aI .i64) false p.be p.ep,pure (yV s p.tk p.ep)]
def sm (b:Nat) (s:SM):HP:=oS (JJ b s)
variable{s:SM}
instance:jz (sm b s::L) b (sm b s) L:=⟨am.refl _⟩
section
variable {r:Option Nat} {n:Nat} {P:Program} {ops:Array Oper} {rest:List Oper} {K:St->Prop} {Q:Exit->St->Prop} {D:List Deferred} {E:cZ} {L L':List HP} {b:Nat} {s:SM}
theorem Uw {p:SP}:am (JJ b s p++L) (pure (yV s p.tk p.ep)::cells b [.slice p.A s.os.length p.c,.map (some p.bt),.map (some p.be),.int .i64 s.dn] 357::aN vf 64 p.A p.c s.os::cy fb (aI .i64) false p.bt p.tk::cy fb (aI .i64) false p.be p.ep::L):=am.mH 4 _
theorem HO {p:Prop} {W:World} (h:bH W w (pure p::L)):p/\bH W w L:=by
 obtain ⟨M,k,hd,hM,hk,h1,h2,eW,l1,l2,hp,hs⟩:=h.ex
 exact ⟨hp,h.ay (am.drop _ _)⟩
theorem Oe {c:Code} (h:∀ p:SP,yV s p.tk p.ep->T r n P c ⟨D,E,cells b [.slice p.A s.os.length p.c,.map (some p.bt),.map (some p.be),.int .i64 s.dn] 357::aN vf 64 p.A p.c s.os::cy fb (aI .i64) false p.bt p.tk::cy fb (aI .i64) false p.be p.ep::L⟩ Q):T r n P c ⟨D,E,sm b s::L⟩ Q:=λW a w hh=>by
 obtain ⟨p,hp⟩:=sI hh.2
 obtain ⟨hi,hs⟩:=HO (hp.ay Uw)
 exact h p hi W a w ⟨hh.1,hs⟩
theorem IR (h:∀ p:SP,yV s p.tk p.ep->TL r n P ops rest ⟨D,E,cells b [.slice p.A s.os.length p.c,.map (some p.bt),.map (some p.be),.int .i64 s.dn] 357::aN vf 64 p.A p.c s.os::cy fb (aI .i64) false p.bt p.tk::cy fb (aI .i64) false p.be p.ep::L⟩ K):TL r n P ops rest ⟨D,E,sm b s::L⟩ K:=λW a w hh=>by
 obtain ⟨p,hp⟩:=sI hh.2
 obtain ⟨hi,hs⟩:=HO (hp.ay Uw)
 exact h p hi W a w ⟨hh.1,hs⟩
variable{tk ep:List (ByteArray × Int)}
theorem aeZ {c bt be:Nat} {os:List jk} {dn:Int} {L1 L2 L3 L4:List HP} (b:Nat) [h1:fL L b [.slice A os.length c,.map (some bt),.map (some be),.int .i64 dn] 357 L1] [h2:md L1 A c jk vf 64 os L2] [h3:iI L2 bt ByteArray Int fb (aI .i64) false tk L3] [h4:iI L3 be ByteArray Int fb (aI .i64) false ep L4] (hi:yV ⟨os,dn⟩ tk ep):am L (sm b ⟨os,dn⟩::L4):=by
 refine am.trans (h1.g.trans (am.cons _ (h2.g.trans (am.cons _ (h3.g.trans (am.cons _ h4.g)))))) ?_
 refine am.trans ?_ (o_ (f:=JJ b ⟨os,dn⟩) ⟨A,c,bt,be,tk,ep⟩)
 exact am.cons _ (am.cons _ (am.cons _ (am.cons _ (am.sF hi))))
theorem tP {c bt be:Nat} {L1 L2 L3 L4:List HP} (b:Nat) (s:SM) [h1:fL L b [.slice A s.os.length c,.map (some bt),.map (some be),.int .i64 s.dn] 357 L1] [h2:md L1 A c jk vf 64 s.os L2] [h3:iI L2 bt ByteArray Int fb (aI .i64) false tk L3] [h4:iI L3 be ByteArray Int fb (aI .i64) false ep L4] (hi:yV s tk ep):am L (sm b s::L4):=by
 refine am.trans (h1.g.trans (am.cons _ (h2.g.trans (am.cons _ (h3.g.trans (am.cons _ h4.g)))))) ?_
 refine am.trans ?_ (o_ (f:=JJ b s) ⟨A,c,bt,be,tk,ep⟩)
 exact am.cons _ (am.cons _ (am.cons _ (am.cons _ (am.sF hi))))
end
open Go Go.Proofs Go.Proofs.Tryz
theorem YG (L:List HP):Fn prog 119 #[] L (λv L'=>∃ b bt be,v=.pointer (some ⟨b,0,none⟩)/\L'=cells b [.slice none 0 0,.map (some bt),.map (some be),.int .i64 0] 357::cy fb (aI .i64) false bt []::cy fb (aI .i64) false be []::L):=by
 exact aH func119 J J J J<|aa<|ae J<|O<|aa<|o7 fb (aI .i64) false J λbt=>o7 fb (aI .i64) false J λbe=>ab J J (bI J J)<|bS J J J λb4=>ae J<|O<|av<|aZ J J al (⟨b4,bt,be,J,J⟩)
theorem KD (L:List HP):Fn prog 119 #[] L (λv L'=>∃ b,v=.pointer (some ⟨b,0,none⟩)/\L'=sm b ⟨[],0⟩::L):=
 (YG L).mono λv L' ⟨b,bt,be,h1,h2⟩=>by
  subst h2
  exact ⟨_,(du vf 64 none _).trans (aeZ b (A:=none) (c:=0) (os:=[]) (dn:=0) (bt:=bt) (be:=be) ⟨by simp,λt=>by simp [cq,rd],λc=>by simp [cq,i7]⟩),b,h1,rfl⟩
theorem Ek:Fn prog 237 #[.pointer (some ⟨b,0,none⟩)] (sm b s::L) (λv L'=>v=.bool true/\L'=sm b s::L):=by
 exact aH func237 J J J J<|Oe λp hi=>aa<|ae J<|O<|aa<|Y J<|ab J J (f8 J J (dh.eJ))<|br 4 (v':=.bool true) J (by simp)<|Y J<|aj J<|Y J<|aj J<|aS J<|aj J<|ao J<|aj J<|ax J J<|aj J<|ab J J (f8 J J (dh.map_nil))<|br 10 (v':=.bool true) J (by simp)<|aA J<|ae J<|O<|av<|aF.ay (tP b s hi)<|cI J J
theorem Eh (o:jk) (ho:tZ o) (hk:a_ L (aI .i64) A c o.x.cut):Fn prog 238 #[FF o (A,c)] L (λv L'=>∃ A' c',v=FF o (A',c')/\L'=sl (aI .i64) A' c' o.x.cut::L):=by
 refine aH func238 J J J J<|aa<|bS J J J λb1=>bB J J λb2=>O<|aa<|ao J<|ax J J<|aJ J J (Qv hk.tail.tail ho.2.2.2.2) ?_
 rintro _ _ ⟨A5,c5,rfl,rfl⟩
 exact bF<|ao J<|aE J J<|O<|aa<|bD J J<|aE J J<|O<|av<|eK (.inl J) J (bf.agg J J) bu.g (⟨A5,c5,J,J⟩)
theorem ado {os:List jk} {id:Int} (h:id < 1\/id > (os.length:Int)):uW os id=none:=by
 unfold uW; rw [if_neg (by omega)]
theorem Zp (id:Int) (DI:bP .i64 id):Fn prog 281 #[.pointer (some ⟨b,0,none⟩),.int .i64 id] (sm b s::L) (λv L'=>∃ A c,v=.tuple #[FF (xw (uW s.os id)) (A,c),.bool (uW s.os id).isSome]/\L'=sl (aI .i64) A c (xw (uW s.os id)).x.cut::sm b s::L):=by
 have DI:=i64In DI
 refine aH func281 J J J J<|aa<|bB J J λb4=>ae J<|O<|ar<|aa<|Y J<|aP b<|aB J J (Ek)<|aV 7 (.bool true) J<|ab J J (df J)<|IR λp hi=>Y J<|jJ 12 21 (id < 1\/id > (s.os.length:Int)) ?_ ?_
 ·refine aj J<|Y J<|aj J<|ab J J (bU J J)<|aA J<|Y J<|dl 13 J (λka=> ?_) (λka=> ?_)
  ·refine ah J<|ah J<|ah J<|ah J<|ah J<|ah J<|ah J<|aA J<|dH J ?_ (by repeat (first | exact dI | refine dJ rfl ?_)) al
   exact bi Value.bool (dV (by omega)).symm
  refine aj J<|Y J<|aj J<|Y J<|aj J<|aS J<|aj J<|ao J<|aj J<|ax J J<|aj J<|ab J J (bY J)<|aj J<|ab J J (eE J J)<|aA J<|dH J ?_ (by repeat (first | exact dI | refine dJ rfl ?_)) al
  exact bi Value.bool (gX.2 (by omega))
 refine O<|bz J (λkW=> ?_) (λkW=> ?_)
 ·have hn:=ado kW
  refine aa<|ab J J (bI J J)<|aE J J<|ae J<|O<|av<|aU ?_
  rw [hn,show xw none=rc from rfl]
  exact aF.ay (tP b s hi)<|aF.ay (dP (A:=none) (c:=0) (R:=aI .i64)).lay<|kK (.inl J) J (bf.agg J J) (bf.tmp J) bu.g (⟨none,0,J,J⟩)
 refine az<|ai<|aa<|Y J<|aS J<|ao J<|ax J J<|Y J<|ab J J (jb J J (by omega)) ?_
 have cL:(id - 1).toNat < s.os.length:=by omega
 obtain ⟨o,ho⟩:∃ o,s.os[(id - 1).toNat]? =some o:=⟨_,cj cL⟩
 have hg:uW s.os id=some o:=by rw [uW,if_pos (by omega),ho]
 refine br 28 (v':=.int .i64 (((id - 1).toNat:Nat):Int)) J (by congr 1; omega)<|f6 J J J (J) (bJ) (ho) λalO alP alQ ajQ=> ?_
 have ajR:=ho
 refine kh J J ajQ ajR (λ_=>J) λp30 ajS=> ?_
 simp only [dL,dm]
 refine aJ J J (Eh o ajS slk) ?_
 rintro _ _ ⟨vz,vA,rfl,rfl⟩
 refine aE J J<|ae J<|O<|av ?_
 rw [hg,show xw (some o)=o from rfl]
 exact aF.ay (tP b s hi)<|kK (.inl J) J (bf.agg J J) (bf.tmp J) bu.g (⟨vz,vA,J,J⟩)
theorem tF (t:ByteArray) (ht:t.size<=cE):Fn prog 176 #[.pointer (some ⟨b,0,none⟩),.string t] (sm b s::L) (λv L'=>∃ A c,v=.tuple #[FF (xw (lU s.os t)) (A,c),.bool (lU s.os t).isSome]/\L'=sl (aI .i64) A c (xw (lU s.os t)).x.cut::sm b s::L):=by
 refine aH func176 J J J J<|aa<|bB J J λb4=>ae J<|O<|ar<|aa<|Y J<|aP b<|aB J J (Ek)<|aV 7 (.bool true) J<|ab J J (df J)<|O<|aT J<|az<|ai<|aa<|IR λp hi=>Y J<|Y J<|aS J<|ao J<|ax J J<|Y J<|ab J J (pT (k:=t) J J ht)<|br 16 (v':=.int .i64 (rd s.os t:Int)) J (by have:=hi.2.1 t; cases e:cq p.tk t <;> rw [e] at this <;> simp at this <;> simp [nP,this])<|bX (tP b s hi) ?_
 have BP:rd s.os t<=s.os.length:=by unfold rd; split; (rename_i h; have:=(Kk.1 h).1; omega); omega
 refine aP b<|aJ J J (Zp (rd s.os t:Int) (da (by have:=hi.1; omega))) ?_
 rintro _ _ ⟨n7,mR,rfl,rfl⟩
 refine ab J J (aO J J)<|ab J J (aO J J)<|aE J J<|ae J<|O<|av ?_
 rw [aeY]
 exact kK (.inl rfl) rfl (bf.agg rfl rfl) (bf.tmp rfl) bu.g (⟨n7,mR,rfl,rfl⟩)
theorem Kr (t:ByteArray) (ht:t.size<=cE):Fn prog 285 #[.pointer (some ⟨b,0,none⟩),.string t] (sm b s::L) (λv L'=>v=.int .i64 (i7 s.os t:Int)/\L'=sm b s::L):=by
 exact aH func285 J J J J<|aa<|ae J<|O<|ar<|aa<|Y J<|aP b<|aB J J (Ek)<|aV 6 (.bool true) J<|ab J J (df J)<|O<|aT J<|az<|ai<|aa<|IR λp hi=>Y J<|aS J<|ao J<|ax J J<|Y J<|ab J J (pT (k:=t) J J ht)<|br 13 (v':=.int .i64 (i7 s.os t:Int)) J (by have:=hi.2.2 t; cases e:cq p.ep t <;> rw [e] at this <;> simp at this <;> simp [nP,this])<|ae J<|O<|av<|aF.ay (tP b s hi)<|cI J J
theorem Hr:Fn prog 132 #[.pointer (some ⟨b,0,none⟩)] (sm b s::L) (λv L'=>v=.int .i64 s.dn/\L'=sm b s::L):=by
 exact aH func132 J J J J<|aa<|ae J<|O<|ar<|aa<|Y J<|aP b<|aB J J (Ek)<|aV 4 (.bool true) J<|ab J J (df J)<|O<|aT J<|az<|ai<|aa<|IR λp hi=>Y J<|aS J<|ao J<|ax J J<|ae J<|O<|av<|aF.ay (tP b s hi)<|cI J J
open Go Go.Proofs Go.Proofs.Tryz
variable{l:List Value}
theorem SQ {α:Type} {R:bZ α} {x:α} (h:bV L (λM=>R.fO M x l)):bV L (λM=>f9 M R [x] l):=h.mono λM h=>⟨l,[],h,rfl,by simp⟩
theorem Ux {o:jk} (hk:a_ L (aI .i64) A c o.x.cut) (ho:tZ o):bV L (λM=>vf.fO M o (qk o (A,c))):=fI (A,c) (lk hk) ho
theorem ae0 {os:List jk} {x:dv} (h:lU os x.cV=none) (t:ByteArray):(rd (os++[kz os x]) t:Int)=if x.cV=t then (os.length:Int)+1 else (rd os t:Int):=by
 unfold rd
 rw [List.findIdx?_append]
 have h0:=adn.1 h
 by_cases ht:x.cV=t
 ·subst ht
  have h1:(os.findIdx? λo=>decide (o.x.cV=x.cV))=none:=by
   unfold rd at h0; split at h0
   ·omega
   ·assumption
  rw [h1]; simp [kz,List.findIdx?_cons]
 ·rw [if_neg ht]
  cases e:os.findIdx? λo=>decide (o.x.cV=t) with
  | some i=>simp
  | none=>simp [kz,List.findIdx?_cons,ht]
theorem ae1 (os:List jk) (x:dv) (c:ByteArray):(i7 (os++[kz os x]) c:Int)=if x.aK=c then (i7 os c:Int)+1 else (i7 os c:Int):=by
 unfold i7
 rw [nC,eQ]
 by_cases h:x.aK=c <;> simp [kz,h]
theorem TM {tk ep:List (ByteArray × Int)} {x:dv} {k:Int} (hi:yV s tk ep) (h:lU s.os x.cV=none) (hl:s.os.length < 65536) (hk:k=(i7 s.os x.aK:Int)+1) (dn:Int):
  yV ⟨s.os++[kz s.os x],dn⟩ ((x.cV,(s.os.length:Int)+1)::fS tk x.cV) ((x.aK,k)::fS ep x.aK):=by
 refine ⟨by simp; omega,λt=> ?_,λc=> ?_⟩
 ·rw [yc,ae0 h]
  by_cases ht:x.cV=t
  ·simp [ht]
  ·rw [if_neg ht,if_neg ht,EG,if_neg (Ne.symm ht)]; exact hi.2.1 t
 ·rw [yc,ae1]
  by_cases ht:x.aK=c
  ·simp [ht,hk]
  ·rw [if_neg ht,if_neg ht,EG,if_neg (Ne.symm ht)]; exact hi.2.2 c
abbrev ahV (e:dZ) (p:Option Addr × Nat):Value:=.agg (List.toArray (hO e p))
theorem Cn (e:dZ) (hx:fC e.order) (hk:a_ L (aI .i64) A c e.order.cut) (hb:jd e.order<=140737488355000) (hd:bP .i64 (s.dn+1)):Fn prog 134 #[.pointer (some ⟨b,0,none⟩),ahV e (A,c)] (sm b s::L)
  (λv L'=>∃ A' c',v=.tuple #[FF (eo s e).2.1 (A',c'),.bool (eo s e).2.2.1,.int .i64 (eo s e).2.2.2]/\L'=sl (aI .i64) A' c' (eo s e).2.1.x.cut::sm b (eo s e).1::L):=by
 have hd:=i64In hd
 refine aH func134 J J J J ?_
 refine b_ (a_.lay hk.tail)<|aa<|bS J J J λb3=>bB J J λb4=>ae J<|ae J<|O<|ar<|aa<|Y J ?_
 refine aP b<|aB J J (Ek)<|aV 14 (.bool true) J<|ab J J (df J)<|O<|aT J<|az<|ai<|ar<|aa<|bD J J<|ab J J (bI J J)<|aJ J J (Kv e hx slk hb) ?_
 rintro _ _ ⟨⟨B,d0,k0,rfl⟩,rfl⟩
 refine Y J<|ab J J (aO J J)<|ab J J (aO J J)<|ae J<|ae J<|O<|aa<|Y J<|ab J J (dB J J)<|O<|bz J (λmN=> ?_) (λmN=> ?_)
 ·have hr:¬ f_ e:=λh=>by rw [if_pos h] at mN; exact mN rfl
  refine aa<|ab J J (bI J J)<|aE J J<|ae J<|ae J<|O<|av<|aU ?_
  have pI:eo s e=(s,rc,false,1):=by unfold eo; rw [if_pos hr]
  rw [pI]
  exact aF.ay (dP (A:=none) (c:=0) (R:=aI .i64)).lay<|ja (.inl J) J (bf.agg J J) (bf.tmp J) (bf.tmp J) bu.g (⟨none,0,J,J⟩)
 have hr:f_ e:=zM λh=>by rw [if_neg h] at mN; omega
 refine az<|ai ?_
 refine cQ b<|Oe λp hi=>aa<|Y J<|aS J<|ao J<|ax J J<|ab J J (bE J J (by omega))<|aS J<|ao J<|aE J J ?_
 refine bX (tP b ⟨s.os,s.dn+1⟩ hi)<|O<|ar<|aa<|ao J<|ax J J<|O<|gF J (λmq=> ?_) (λmq=> ?_)
 ·refine aa<|ab J J (bI J J)<|aE J J<|ae J<|ae J<|O<|av<|aU ?_
  have pI:eo s e=(⟨s.os,s.dn+1⟩,rc,false,0):=by unfold eo; rw [if_neg (λh=>h hr),if_pos mq]
  rw [pI]
  exact aF.ay (dP (A:=none) (c:=0) (R:=aI .i64)).lay<|ja (.inl J) J (bf.agg J J) (bf.tmp J) (bf.tmp J) bu.g (⟨none,0,J,J⟩)
 refine az<|ai<|aa<|ao J<|bD J J<|bB J J λb9=>aE J J<|O<|ar<|aa<|Y J<|ao J<|ax J J ?_
 refine aP b<|aJ J J (tF e.order.cV hx.1) ?_
 rintro _ _ ⟨Gj,Gk,rfl,rfl⟩
 refine Y J<|ab J J (aO J J)<|ab J J (aO J J)<|bB J J λmr=>aE J J<|ae J<|O<|aa<|Y J<|O<|gF J (λxr=> ?_) (λxr=> ?_)
 ·obtain ⟨o,ho⟩:=xS.1 xr
  have pI:eo s e=(⟨s.os,s.dn+1⟩,o,false,0):=by unfold eo; rw [if_neg (λh=>h hr),if_neg (by simp [mq])]; simp only [ho]
  refine aa<|bD J J<|aE J J<|ae J<|ae J<|O<|av<|aU ?_
  simp only [ho,show xw (some o)=o from rfl]
  rw [pI]
  exact ja (.inl rfl) rfl (bf.agg rfl rfl) (bf.tmp rfl) (bf.tmp rfl) bu.g (⟨Gj,Gk,rfl,rfl⟩)
 have ht:lU s.os e.order.cV=none:=by simpa using xr
 refine az<|ai<|ar<|aX ?_
 refine cQ b<|Oe λp2 dW=> ?_
 dsimp only at dW ⊢
 refine bW _ [] [0,2,4,6,8,10,12,14,16,18,20] (by kernel_rfl) (am.refl _)<|aw J J<|aG J J J<|aq J J<|aL J J<|aw J J<|aG J J J<|aw J J<|aG J J J<|ak J J (pT (k:=e.order.aK) J J hx.2.1)<|er 56 (v':=.int .i64 (i7 s.os e.order.aK:Int)) J (by have:=dW.2.2 e.order.aK; cases e0:cq p2.ep e.order.aK <;> rw [e0] at this <;> simp at this <;> simp [nP,this])<|ak J J (dB J J)<|ak J J (bT J)<|aR<|bz J (λui=> ?_) (λui=> ?_)
 ·refine aa<|ab J J (bI J J)<|aE J J<|ae J<|ae J<|O<|av<|db<|aU ?_
  have pI:eo s e=(⟨s.os,s.dn+1⟩,rc,false,190):=by unfold eo; rw [if_neg (λh=>h hr),if_neg (by simp [mq])]; simp only [ht]; rw [if_pos ui]
  rw [pI]
  refine aF.ay (tP b ⟨s.os,s.dn+1⟩ dW) ?_
  exact aF.ay (dP (A:=none) (c:=0) (R:=aI .i64)).lay<|ja (.inl J) J (bf.agg J J) (bf.tmp J) (bf.tmp J) bu.g (⟨none,0,J,J⟩)
 refine aa<|Y J<|aS J<|ao J<|ax J J<|ab J J (bY J)<|ab J J (eV J J)<|ae J<|O<|bz J (λh59=> ?_) (λh59=> ?_)
 ·refine aa<|ab J J (bI J J)<|aE J J<|ae J<|ae J<|O<|av<|db<|aU ?_
  have pI:eo s e=(⟨s.os,s.dn+1⟩,rc,false,2):=by unfold eo; rw [if_neg (λh=>h hr),if_neg (by simp [mq])]; simp only [ht]; rw [if_neg ui,if_pos (by omega)]
  rw [pI]
  refine aF.ay (tP b ⟨s.os,s.dn+1⟩ dW) ?_
  exact aF.ay (dP (A:=none) (c:=0) (R:=aI .i64)).lay<|ja (.inl J) J (bf.agg J J) (bf.tmp J) (bf.tmp J) bu.g (⟨none,0,J,J⟩)
 refine az<|bA<|ai ?_
 have jX:tZ (kz s.os e.order):=⟨da (by show -9223372036854775808<=((s.os.length:Nat):Int)+1/\((s.os.length:Nat):Int)+1<=9223372036854775807; omega),hx⟩
 refine Yd _ _ 15 16 (by decide) [0,1,3,7,15,31,0,64,0,256,0,1024,0,4096,16383,32767,65535,131071] [] [(0,true),(1,true),(2,true),(3,true),(4,true),(5,true),(6,true),(7,true),(8,true),(9,true),(10,true),(11,true),(12,true),(13,true),(14,true),(15,false),(16,false),(17,false)] [0,1,3,7,15,31,0,64,0,256,0,1024,0,4096,16383,98303,0,131071] [] [(0,true),(1,true),(2,true),(3,true),(4,true),(5,true),(6,true),(7,true),(8,true),(9,true),(10,true),(11,true),(12,true),(13,true),(14,true),(16,false),(15,false),(17,false)] (by kernel_rfl) (by decide+kernel) (by decide+kernel) (am.refl _) (am.refl _) ?_ ?_
 ·refine aq J J<|aL J J<|aw J J<|aG J J J<|ak J J (bY J)<|ak J J (bE J J (by omega))<|aw J J<|aG J J J<|aw J J<|aG J J J<|aw J J<|aG J J J<|aw J J<|aG J J J<|ak J J (bI J J)<|an J<|aJ J J (Eh (kz s.os e.order) jX slk) ?_
  rintro _ _ ⟨O9,O_,rfl,rfl⟩
  refine au<|an J<|bB J J λix=>au<|an J<|aE J J<|au<|aR<|bW (cells b [.slice p2.A s.os.length p2.c,.map (some p2.bt),.map (some p2.be),.int .i64 (s.dn+1)] 357::cells ix (qk (kz s.os e.order) (O9,O_)) 64::[]) [10] [0,2,4,6,8,10,13,15,16,18,21] (by kernel_rfl) al<|aq J J<|aq J J<|aL J J<|aw J J<|aG J J J<|cf J J J<|an J<|ef J J J J J J λO'=> ?_
  refine eh (k:=1) vf [kz s.os e.order] (SQ (Ux slk jX)) J (by decide)<|bF<|aV 89 (.slice (some ⟨O',0,none⟩) [kz s.os e.order].length 1) J<|au<|an J ?_
  refine fi J J J J J slk (by (try simp only [eQ,dO,ej]); omega) λA90 c90=>au<|aL J J<|aw J J<|an J<|aE J J<|gZ J<|aR<|bW _ [8] [0,2,4,6,8,10,12,14,17] (by kernel_rfl) (am.refl _)<|aq J J<|aL J J<|aw J J<|aG J J J<|aw J J<|aG J J J<|aw J J<|aG J J J<|an J ?_
  refine sH (k:=e.order.cV) (u:=(s.os.length:Int)+1) (cs:=[.int .i64 ((s.os.length:Int)+1)]) _ J J J hx.1 (by exact bV.const λM=>⟨rfl,jX.1⟩) (uC _)<|gZ J<|aR<|bW _ [8] [0,2,4,6,8,10,12,14,17] (by kernel_rfl) (am.refl _)<|aq J J<|aL J J<|aw J J<|aG J J J<|aw J J<|aG J J J<|ak J J (pT (k:=e.order.aK) J J hx.2.1)<|er 107 (v':=.int .i64 (i7 s.os e.order.aK:Int)) J (by have:=dW.2.2 e.order.aK; cases e0:cq p2.ep e.order.aK <;> rw [e0] at this <;> simp at this <;> simp [nP,this])<|ak J J (bE J J (by have:=Io s.os e.order.aK; omega))<|an J ?_
  refine sH (k:=e.order.aK) (u:=(i7 s.os e.order.aK:Int)+1) (cs:=[.int .i64 ((i7 s.os e.order.aK:Int)+1)]) _ J J J hx.2.1 (by exact bV.const λM=>⟨rfl,da (by have:=Io s.os e.order.aK; omega)⟩) (uC _)<|gZ J<|aR<|aa<|bD J J<|aJ J J (Eh (kz s.os e.order) jX slk) ?_
  rintro _ _ ⟨Of,Og,rfl,rfl⟩
  refine aE J J<|ae J<|ae J<|O<|av ?_
  have pI:eo s e=(⟨s.os++[kz s.os e.order],s.dn+1⟩,kz s.os e.order,true,0):=by unfold eo; rw [if_neg (λh=>h hr),if_neg (by simp [mq])]; simp only [ht]; rw [if_neg ui,if_neg (by omega)]
  rw [pI]
  exact aF.ay (tP b ⟨s.os++[kz s.os e.order],s.dn+1⟩ (TM dW ht (by show s.os.length < 65536; omega) J _))<|ja (.inl J) J (bf.agg J J) (bf.tmp J) (bf.tmp J) bu.g (⟨Of,Og,J,J⟩)
 refine aq J J<|aL J J<|aw J J<|aG J J J<|ak J J (bY J)<|ak J J (bE J J (by omega))<|aw J J<|aG J J J<|aw J J<|aG J J J<|aw J J<|aG J J J<|aw J J<|aG J J J<|ak J J (bI J J)<|an J<|bB J J λix=>au<|an J<|aJ J J (Eh (kz s.os e.order) jX slk) ?_
 rintro _ _ ⟨O9,O_,rfl,rfl⟩
 refine au<|an J<|aE J J<|au<|aR<|bW (cells b [.slice p2.A s.os.length p2.c,.map (some p2.bt),.map (some p2.be),.int .i64 (s.dn+1)] 357::cells ix (qk (kz s.os e.order) (O9,O_)) 64::[]) [10] [0,2,4,6,8,10,13,15,16,18,21] (by kernel_rfl) al<|aq J J<|aq J J<|aL J J<|aw J J<|aG J J J<|cf J J J<|an J<|ef J J J J J J λO'=> ?_
 refine eh (k:=1) vf [kz s.os e.order] (SQ (Ux slk jX)) J (by decide)<|bF<|aV 89 (.slice (some ⟨O',0,none⟩) [kz s.os e.order].length 1) J<|au<|an J ?_
 refine fi J J J J J slk (by (try simp only [eQ,dO,ej]); omega) λA90 c90=>au<|aL J J<|aw J J<|an J<|aE J J<|gZ J<|aR<|bW _ [8] [0,2,4,6,8,10,12,14,17] (by kernel_rfl) (am.refl _)<|aq J J<|aL J J<|aw J J<|aG J J J<|aw J J<|aG J J J<|aw J J<|aG J J J<|an J ?_
 refine sH (k:=e.order.cV) (u:=(s.os.length:Int)+1) (cs:=[.int .i64 ((s.os.length:Int)+1)]) _ J J J hx.1 (by exact bV.const λM=>⟨rfl,jX.1⟩) (uC _)<|gZ J<|aR<|bW _ [8] [0,2,4,6,8,10,12,14,17] (by kernel_rfl) (am.refl _)<|aq J J<|aL J J<|aw J J<|aG J J J<|aw J J<|aG J J J<|ak J J (pT (k:=e.order.aK) J J hx.2.1)<|er 107 (v':=.int .i64 (i7 s.os e.order.aK:Int)) J (by have:=dW.2.2 e.order.aK; cases e0:cq p2.ep e.order.aK <;> rw [e0] at this <;> simp at this <;> simp [nP,this])<|ak J J (bE J J (by have:=Io s.os e.order.aK; omega))<|an J ?_
 refine sH (k:=e.order.aK) (u:=(i7 s.os e.order.aK:Int)+1) (cs:=[.int .i64 ((i7 s.os e.order.aK:Int)+1)]) _ J J J hx.2.1 (by exact bV.const λM=>⟨rfl,da (by have:=Io s.os e.order.aK; omega)⟩) (uC _)<|gZ J<|aR<|aa<|bD J J<|aJ J J (Eh (kz s.os e.order) jX slk) ?_
 rintro _ _ ⟨Of,Og,rfl,rfl⟩
 refine aE J J<|ae J<|ae J<|O<|av ?_
 have pI:eo s e=(⟨s.os++[kz s.os e.order],s.dn+1⟩,kz s.os e.order,true,0):=by unfold eo; rw [if_neg (λh=>h hr),if_neg (by simp [mq])]; simp only [ht]; rw [if_neg ui,if_neg (by omega)]
 rw [pI]
 exact aF.ay (tP b ⟨s.os++[kz s.os e.order],s.dn+1⟩ (TM dW ht (by show s.os.length < 65536; omega) J _))<|ja (.inl J) J (bf.agg J J) (bf.tmp J) (bf.tmp J) bu.g (⟨Of,Og,J,J⟩)
open Go Go.Proofs Go.Proofs.Tryz
theorem aau {xs ys:List Int} (hk:bR L (aI .i64) A c xs) (gV:bR L (aI .i64) B d ys):Fn prog 69 #[.slice A xs.length c,.slice B ys.length d] L (λv L'=>v=.bool (decide (xs=ys))/\L'=L):=by
 refine aH func69 J J J J<|hk.lens λhl=> ?_
 simp only [cE] at hl
 refine aa<|ae J<|O<|ar<|aa<|Y J<|ab J J (bY J)<|Y J<|ab J J (bY J)<|ab J J (dB J J)<|O<|bz J (λf0=> ?_) (λf0=> ?_)
 ·exact aa<|ae J<|O<|av<|aU<|aZ J J al (⟨by rw [cJ]; rintro rfl; exact f0 rfl,J⟩)
 refine az<|ai<|ar<|aa<|ae J<|O<|aX<|cY (σ:=Nat) [0,1] (λi=>i<=xs.length/\xs.take i=ys.take i) (λi kv=>(5,.int .i64 (i:Int))::kv) (λi=>L) (λi=>xs.length - i) (0) J (⟨dF _,J⟩) (al) (dc J) λi hi=>ar<|aa<|Y J<|Y J<|ab J J (bY J)<|ab J J (bU J J)<|O<|bz J (λgK=> ?_) (λgK=> ?_)
 ·refine az<|ai<|ar<|aX ?_
  have hx:=cj (show i < xs.length by omega)
  have hy:=cj (show i < ys.length by omega)
  refine gr hk hx λb1 o1 e1=>gr gV hy λb2 o2 e2=> ?_
  subst e1
  subst e2
  refine bW _ [] [0,2,4,6,8,10,12,14,16] (by kernel_rfl) (am.refl _)<|aq J J<|aq J J<|ak J J (iX (R:=aI .i64) (xs:=xs) J J J hx)<|ak J J (gi (q:=0) J hk hx J)<|aq J J<|aq J J<|ak J J (iX (R:=aI .i64) (xs:=ys) J J J hy)<|ak J J (gi (q:=0) J gV hy J)<|ak J J (dB J J)<|aR<|bz J (λj_=> ?_) (λj_=> ?_)
  ·exact aa<|ae J<|O<|av<|db<|aU<|aU<|db<|aU<|aZ J J al (⟨by rw [cJ]; rintro rfl; exact j_ rfl,J⟩)
  refine az<|bA<|ai<|aQ<|Y J<|ab J J (bE J J (by omega))<|br 16 (v':=.int .i64 ((i+1:Nat):Int)) J (by simp)<|ae J<|O<|ai ?_
  exact ⟨i+1,⟨by omega,LH hi.2 hx hy (eX.1 j_)⟩,by omega,bO rfl⟩
 exact cw<|aY<|aY<|cu<|ai<|aa<|ae J<|O<|av<|aZ J J al (⟨by rw [dV (Mn hi.2 (by omega) (by omega))],J⟩)
open Go Go.Proofs
def ajT (t c:ByteArray) (n:Int):dZ:=⟨false,⟨t,c,n,[]⟩⟩
abbrev le2:dZ:=ajT ⟨#[117]⟩ ⟨#[99]⟩ 0
open Go
def uj (a b:ByteArray):Bool:=Op.bytesLess a.toList b.toList
variable{a b:ByteArray}
theorem Ip:uj a b=true↔a.data.toList < b.data.toList:=by
 unfold uj; rw [Go.Proofs.bytesLess_eq,ByteArray.toList_eq,ByteArray.toList_eq]; simp
theorem SR {c:ByteArray} (h1:uj a b=true) (h2:uj b c=true):uj a c=true:=by
 rw [Ip] at *; exact List.lt_trans h1 h2
theorem E1 (a:ByteArray):¬ uj a a=true:=by
 rw [Ip]; exact List.lt_irrefl _
theorem agA (h:a≠b) (h2:¬ uj a b=true):uj b a=true:=by
 rw [Ip] at *
 refine zM λh3=>h ?_
 have h4:a.data.toList=b.data.toList:=List.le_antisymm (List.not_lt.1 h3) (List.not_lt.1 h2)
 cases a; cases b
 exact bi ByteArray.mk (Array.toList_inj.1 h4)
structure dQ where
 name:ByteArray
 dA:Nat
 bytes:List Int
 gj:Int
def fM (l:List dQ) (k:ByteArray):Option dQ:=l.find? λe=>decide (e.name=k)
def iR (l:List dQ) (k:ByteArray):List dQ:=l.filter λe=> !decide (e.name=k)
def jt (l:List dQ) (e:dQ):List dQ:=u_ (λq:dQ=>uj q.name e.name) e (iR l e.name)
def gS (l:List dQ):Nat:=(l.map λe=>e.bytes.length).sum
def j8 (l:List dQ):Prop:=l.Pairwise λp q=>uj p.name q.name=true
structure eM where
 size:Int
 calls:Int
 l:List dQ
structure KI (s:eM):Prop where
 size:0<=s.size/\s.size<=268435456
 calls:-1<=s.calls/\bP .i64 s.calls
 inc:j8 s.l
 len:s.l.length<=64
 eU:(gS s.l:Int)<=s.size
 ok:∀ e∈s.l,e.name.size<=32/\0<=e.gj/\e.gj<=(e.bytes.length:Int)/\∀ x∈e.bytes,0<=x/\x<=255
def jA (s:eM):Int:=s.size - (gS s.l:Int)
def oC (s:eM):eM:=⟨s.size,if 0 < s.calls then s.calls - 1 else s.calls,s.l⟩
variable{l:List dQ}{s:eM}
variable{k:ByteArray}{e:dQ}
theorem uJ (h:fM l k=some e):e∈l/\e.name=k:=⟨G8 h,by simpa using List.find?_some h⟩
theorem RW:fM l k=none↔∀ e∈l,e.name≠k:=by unfold fM; rw [vR]; simp
theorem Ic:e∈iR l k↔e∈l/\e.name≠k:=by unfold iR; rw [ke]; simp
theorem j8.del (h:j8 l) (k:ByteArray):j8 (iR l k):=h.filter _
theorem Mr {q:dQ}:q∈jt l e↔q=e\/(q∈l/\q.name≠e.name):=by unfold jt; rw [EJ,Ic]
theorem j8.put (h:j8 l) (e:dQ):j8 (jt l e):=
 KW (h.del _) (λq _ hq=>hq) (λq hq cL=>agA (λe2=>(Ic.1 hq).2 e2) (by rw [cL]; simp)) (λa _ b _ rl hb=>SR rl hb)
theorem j8.inj (h:j8 l) {p q:dQ} (hp:p∈l) (hq:q∈l) (e:p.name=q.name):p=q:=by
 obtain ⟨i,hi,rfl⟩:=List.mem_iff_getElem.1 hp
 obtain ⟨j,hj,rfl⟩:=List.mem_iff_getElem.1 hq
 rcases Nat.lt_trichotomy i j with h1 | h1 | h1
 ·have:=(xR.1 h) i j hi hj h1; rw [e] at this; exact absurd this (E1 _)
 ·subst h1; rfl
 ·have:=(xR.1 h) j i hj hi h1; rw [e] at this; exact absurd this (E1 _)
theorem j8.find (h:j8 l) (he:e∈l):fM l e.name=some e:=by
 cases hf:fM l e.name with
 | none=>exact absurd rfl (RW.1 hf e he)
 | some q=>obtain ⟨h1,h2⟩:=uJ hf; rw [h.inj h1 he h2]
theorem CA (h:j8 l) (he:e∈l):(e::iR l e.name).Perm l:=by
 induction l with
 | nil=>cases he
 | cons x r ih=>
  obtain ⟨h1,h2⟩:=qG.1 h
  unfold iR
  rw [uA]
  rcases ig.1 he with rfl | he
  ·have hr:r.filter (λq=> !decide (q.name=e.name))=r:=rD.2 λq hq=>by have:=h1 q hq; simp; rintro e2; rw [e2] at this; exact E1 _ this
   rw [if_neg (by simp),hr]
  ·have hx:x.name≠e.name:=λe2=>by have:=h1 e he; rw [e2] at this; exact E1 _ this
   rw [if_pos (by simpa using hx)]
   exact (List.Perm.swap _ _ _).trans ((ih h2 he).cons x)
theorem LL (h:fM l k=none):iR l k=l:=rD.2 λq hq=>by simpa using RW.1 h q hq
theorem CB (e:dQ) (l:List dQ):gS (e::l)=e.bytes.length+gS l:=by simp [gS]
theorem LM {a b:List dQ} (h:a.Perm b):gS a=gS b:=(h.map _).sum_nat
theorem Ex (e:dQ):(jt l e).Perm (e::iR l e.name):=Ew _ _ _
theorem EK (e:dQ):gS (jt l e)=e.bytes.length+gS (iR l e.name):=by rw [LM (Ex e),CB]
theorem CG (h:j8 l) (he:e∈l):gS (iR l e.name)+e.bytes.length=gS l:=by rw [<- LM (CA h he),CB]; omega
theorem TN (h:j8 l) (he:e∈l):(iR l e.name).length+1=l.length:=by rw [<- (CA h he).length_eq]; rfl
theorem Ms (e:dQ):(jt l e).length=(iR l e.name).length+1:=by rw [(Ex e).length_eq]; rfl
theorem agB (k:ByteArray):(iR l k).length<=l.length:=kG _ _
theorem aav (h:j8 l) (k:ByteArray):gS (iR l k)<=gS l:=by
 cases hf:fM l k with
 | none=>rw [LL hf]; exact fo _
 | some e=>obtain ⟨h1,rfl⟩:=uJ hf; have:=CG h h1; omega
def kT (s:eM):Prop:=s.calls=0
instance (s:eM):Decidable (kT s):=by unfold kT; exact inferInstance
def wx (s:eM) (k:ByteArray):Int:=if kT s then 31 else if (fM s.l k).isSome then 0 else 4
def ii (s:eM) (k:ByteArray) (b:List Int) (dA:Nat):eM × Int:=
 if ¬ fy k then (s,30) else if kT s then (s,31) else if jA s < (b.length:Int)\/(fM s.l k=none/\64<=s.l.length) then (s,2)
 else (oC ⟨s.size,s.calls,jt s.l (match fM s.l k with | some e=>⟨k,e.dA,e.bytes++b,e.gj⟩ | none=>⟨k,dA,b,0⟩)⟩,0)
def oD (s:eM) (k:ByteArray):eM × Int:=match fM s.l k with
 | some e=>if kT s then (s,31) else (oC ⟨s.size,s.calls,jt s.l ⟨k,e.dA,e.bytes,(e.bytes.length:Int)⟩⟩,0)
 | none=>(s,if kT s then 31 else 4)
def V0 (s:eM) (k:ByteArray) (n:Int):eM × Int:=match fM s.l k with
 | some e=>if kT s then (s,31) else if n < 0\/(e.bytes.length:Int) < n then (s,1) else (oC ⟨s.size,s.calls,jt s.l ⟨k,e.dA,e.bytes.take n.toNat,n⟩⟩,0)
 | none=>(s,if kT s then 31 else 4)
theorem KI.done (h:KI s):KI (oC s):=by
 refine ⟨h.size, ?_,h.inc,h.len,h.eU,h.ok⟩
 have h1:=h.calls.1
 have h2:=i64In h.calls.2
 unfold oC; dsimp only
 split
 ·exact ⟨by omega,da (by omega)⟩
 ·exact ⟨h1,da (by omega)⟩
theorem KI.append (h:KI s) (k:ByteArray) (b:List Int) (dA:Nat) (hb:∀ x∈b,0<=x/\x<=255):KI (ii s k b dA).1:=by
 unfold ii
 split
 ·exact h
 ·rename_i hn
  have hn:=eX.1 hn
  split
  ·exact h
  ·split
   ·exact h
   ·rename_i hc
    refine KI.done ?_
    have I9:k.size<=32:=hn.2.2
    have ht:=h.eU
    cases hf:fM s.l k with
    | some e=>
     obtain ⟨he,rfl⟩:=uJ hf
     have h1:=CG h.inc he
     have h2:=TN h.inc he
     have h3:=h.len
     have ho:=h.ok e he
     refine ⟨h.size,h.calls,h.inc.put _,by dsimp only; rw [Ms]; dsimp only; omega, ?_,λq hq=> ?_⟩
     ·dsimp only
      rw [EK]; dsimp only
      unfold jA at hc
      rw [eQ]; omega
     ·rcases Mr.1 hq with rfl | ⟨hq,_⟩
      ·refine ⟨I9,ho.2.1,by dsimp only; rw [eQ]; have:=ho.2.2.1; omega,λx hx=> ?_⟩
       rcases gD.1 hx with hx | hx
       ·exact ho.2.2.2 x hx
       ·exact hb x hx
      ·exact h.ok q hq
    | none=>
     have h1:=LL hf
     have h3:s.l.length < 64:=Nat.lt_of_not_le λe=>hc (.inr ⟨hf,e⟩)
     refine ⟨h.size,h.calls,h.inc.put _,by dsimp only; rw [Ms]; dsimp only; rw [h1]; omega, ?_,λq hq=> ?_⟩
     ·dsimp only
      rw [EK]; dsimp only
      rw [h1]
      unfold jA at hc
      omega
     ·rcases Mr.1 hq with rfl | ⟨hq,_⟩
      ·exact ⟨I9,qJ _,by dsimp only; omega,hb⟩
      ·exact h.ok q hq
theorem KI.change (h:KI s) (he:e∈s.l) (bs:List Int) (n:Int) (h1:bs.length<=e.bytes.length) (h2:∀ x∈bs,0<=x/\x<=255) (h3:0<=n/\n<=(bs.length:Int)):KI ⟨s.size,s.calls,jt s.l ⟨e.name,e.dA,bs,n⟩⟩:=by
 have q1:=CG h.inc he
 have q2:=TN h.inc he
 have q3:=h.len
 have q4:=h.eU
 refine ⟨h.size,h.calls,h.inc.put _,by dsimp only; rw [Ms]; dsimp only; omega, ?_,λq hq=> ?_⟩
 ·dsimp only; rw [EK]; dsimp only; omega
 ·rcases Mr.1 hq with rfl | ⟨hq,_⟩
  ·exact ⟨(h.ok e he).1,h3.1,h3.2,h2⟩
  ·exact h.ok q hq
theorem KI.sync (h:KI s) (k:ByteArray):KI (oD s k).1:=by
 unfold oD
 cases hf:fM s.l k with
 | none=>exact h
 | some e=>
  obtain ⟨he,rfl⟩:=uJ hf
  dsimp only
  split
  ·exact h
  ·exact (h.change he e.bytes _ (fo _) (h.ok e he).2.2.2 ⟨by omega,qJ _⟩).done
theorem KI.cut (h:KI s) (k:ByteArray) (n:Int):KI (V0 s k n).1:=by
 unfold V0
 cases hf:fM s.l k with
 | none=>exact h
 | some e=>
  obtain ⟨he,rfl⟩:=uJ hf
  dsimp only
  split
  ·exact h
  ·split
   ·exact h
   ·exact (h.change he _ _ (by rw [gq]; omega) (λx hx=>(h.ok e he).2.2.2 x (Cf hx)) ⟨by omega,by rw [gq]; omega⟩).done
theorem KI.del (h:KI s) (k:ByteArray):KI ⟨s.size,s.calls,iR s.l k⟩:=
 ⟨h.size,h.calls,h.inc.del k,kf (agB k) h.len,by have:=aav h.inc k; have:=h.eU; dsimp only; omega,λe he=>h.ok e (Ic.1 he).1⟩
open Go
def gP:HP:=pure True
def c_ (ps:List HP):HP:=sb ps
variable{ps:List HP}
theorem wh {p:HP} (h:ps[i]? =some p):am (c_ ps::L) (p::c_ (ps.set i gP)::L):=by
 obtain ⟨hi,he⟩:=dX.1 h
 have e1:ps=ps.take i++p::ps.drop (i+1):=by
  conv=>lhs; rw [<- qE i ps,xQ hi,he]
 have e2:ps.set i gP=ps.take i++gP::ps.drop (i+1):=List.set_eq_take_append_cons_drop.trans (by rw [if_pos hi])
 refine (mC (L:=ps) (L':=L)).trans ?_
 refine am.trans (B:=p::((ps.take i++ps.drop (i+1))++L)) ?_ (am.cons p ?_)
 ·conv=>lhs; rw [e1]
  refine am.perm ?_
  rw [fh,fh,dL]
  exact vU
 ·refine (am.sF (p:=True) trivial).trans ?_
  refine am.trans (B:=(ps.take i++gP::ps.drop (i+1))++L) ?_ (by rw [<- e2]; exact g9 (L:=ps.set i gP) (L':=L))
  refine am.perm ?_
  rw [fh,fh,dL]
  exact vU.symm
theorem EL {q:HP} (hi:i < ps.length):am (q::c_ (ps.set i gP)::L) (c_ (ps.set i q)::L):=by
 have e2:∀ x,ps.set i x=ps.take i++x::ps.drop (i+1):=λx=>List.set_eq_take_append_cons_drop.trans (by rw [if_pos hi])
 refine (am.cons q (mC (L:=ps.set i gP) (L':=L))).trans ?_
 refine am.trans (B:=ps.set i q++L) ?_ (g9 (L:=ps.set i q) (L':=L))
 rw [e2,e2]
 refine am.trans (B:=gP::(q::(ps.take i++(ps.drop (i+1)++L)))) (am.perm ?_) ((am.drop _ _).trans (am.perm ?_))
 ·rw [fh,dL]
  refine List.Perm.trans (List.Perm.cons q vU) (List.Perm.swap _ _ _)
 ·rw [fh,dL]
  exact vU.symm
theorem bR.cap {α:Type} {R:bZ α} {xs:List α} (h:bR L R A c xs):bR L R A xs.length xs:=λM k N hd hs hM hk=>let ⟨_,b,e⟩:=h M k N hd hs hM hk; ⟨fo _,b,e⟩
theorem wt {l:List Value} (h:l.length=1):∃ v,l=[v]:=by
 match l,h with
 | [v],_=>exact ⟨v,rfl⟩
theorem Mt {β:Type} {f:β->HP} {bs:List β} {b:β}:am (f b::sb (bs.map f)::L) (sb ((bs++[b]).map f)::L):=by
 refine (am.cons (f b) (mC (L:=bs.map f) (L':=L))).trans (am.trans (am.perm ?_) (g9 (L:=(bs++[b]).map f) (L':=L)))
 rw [kp,fh]
 exact vU.symm
theorem adp {P:Program} {E:cZ} {ty:TypeId} {α:Type} {R:bZ α} {xs:List α} {x:Operand} {t:TypeId} {g j q:Nat} {u:α} {v:Value} {f:α->List Value} [hf:oJ R f] [ht:iG P t false] (hx:ev E x=some (.pointer (some ⟨g,j * R.sz+q,none⟩))) (hk:bR L R (some ⟨g,0,none⟩) c xs) (hu:xs[j]? =some u) (hv:kO (f u) q=some v):Yl P E L (.load t x) ty v:=
 gi (o:=0) (by rw [nD]; exact hx) hk hu hv
theorem RX {r:Option Nat} {n:Nat} {P:Program} {Q:Exit->St->Prop} {D:List Deferred} {E:cZ} {id:Nat} {j:Option Code} (h:j=none\/j=some (.exit id)) (h1:j=none->Q .normal ⟨D,E,L⟩) (h2:j=some (.exit id)->Q (.exit id) ⟨D,E,L⟩):Iz r n P D E L Q j:=by
 rcases h with h | h
 ·have:=h1 h; subst h; exact this
 ·have:=h2 h; subst h; exact cw this
open Go Go.Proofs Go.Proofs.Tryz
def l6:bZ Nat:=⟨1,λ_ b cs=>cs=[.pointer (some ⟨b,0,none⟩)],λ_ h=>h,λh=>by simp [h],λh v hv=>by rw [h] at hv; simp at hv; subst hv; rfl⟩
instance:yT l6 (λb=>.pointer (some ⟨b,0,none⟩)):=⟨λM x cs h=>by rw [h]; rfl⟩
theorem agC (b:Nat):∀ M,l6.fO M b [.pointer (some ⟨b,0,none⟩)]:=λ_=>rfl
abbrev gI (l:List dQ):List (ByteArray × Nat):=l.map λe=>(e.name,e.dA)
def E7 (e:dQ) (A:Option Addr) (c:Nat):List HP:=[cells e.dA [.slice A e.bytes.length c,.int .i64 e.gj] 268,aN (aI .u8) 5 A c e.bytes]
def fH (e:dQ):HP:=oS λp:Option Addr × Nat=>E7 e p.1 p.2
theorem HZ {qs:List HP} (h:ps.Perm qs):am (c_ ps::L) (c_ qs::L):=(mC.trans (am.perm (h.append_right L))).trans g9
theorem aaw {a:HP} {r:List HP}:am (c_ (a::r)::L) (a::c_ r::L):=(mC (L:=a::r) (L':=L)).trans (am.cons a g9)
theorem LN {a:HP} {r:List HP}:am (a::c_ r::L) (c_ (a::r)::L):=(am.cons a (mC (L:=r) (L':=L))).trans (g9 (L:=a::r) (L':=L))
abbrev Gl (b bt:Nat) (s:eM):List HP:=[cells b [.map (some bt),.int .i64 (jA s),.int .i64 s.calls] 134,cy fb l6 false bt (gI s.l),c_ (s.l.map fH),pure (KI s)]
def dk (b bt:Nat) (s:eM):HP:=sb (Gl b bt s)
variable{b bt:Nat}
instance:jz (dk b bt s::L) b (dk b bt s) L:=⟨am.refl _⟩
section
variable {r:Option Nat} {n:Nat} {P:Program} {ops:Array Oper} {rest:List Oper} {K:St->Prop} {Q:Exit->St->Prop} {D:List Deferred} {E:cZ} {L L':List HP} {b bt:Nat} {s:eM}
theorem MT {W:World} (h:bH W w (dk b bt s::L)):KI s/\bH W w (cells b [.map (some bt),.int .i64 (jA s),.int .i64 s.calls] 134::cy fb l6 false bt (gI s.l)::c_ (s.l.map fH)::L):=by
 have hp:=h.ay (mC (L:=Gl b bt s) (L':=L))
 obtain ⟨M,k,hd,hM,hk,h1,h2,eW,l1,l2,hq,hs⟩:=(hp.ay (am.mH 3 (Gl b bt s++L))).ex
 exact ⟨hq,(hp.ay (am.mH 3 (Gl b bt s++L))).ay (am.drop _ _)⟩
variable{c:Code}
theorem wX (h:KI s->T r n P c ⟨D,E,cells b [.map (some bt),.int .i64 (jA s),.int .i64 s.calls] 134::cy fb l6 false bt (gI s.l)::c_ (s.l.map fH)::L⟩ Q):T r n P c ⟨D,E,dk b bt s::L⟩ Q:=λW a w hh=>by
 obtain ⟨h1,hs⟩:=MT hh.2
 exact h h1 W a w ⟨hh.1,hs⟩
theorem ai7 (h:KI s->TL r n P ops rest ⟨D,E,cells b [.map (some bt),.int .i64 (jA s),.int .i64 s.calls] 134::cy fb l6 false bt (gI s.l)::c_ (s.l.map fH)::L⟩ K):TL r n P ops rest ⟨D,E,dk b bt s::L⟩ K:=λW a w hh=>by
 obtain ⟨h1,hs⟩:=MT hh.2
 exact h h1 W a w ⟨hh.1,hs⟩
theorem ai8 (h:KI s->T r n P c ⟨D,E,dk b bt s::L⟩ Q):T r n P c ⟨D,E,dk b bt s::L⟩ Q:=λW a w hh=>by
 obtain ⟨h1,hs⟩:=MT hh.2
 exact h h1 W a w hh
variable{L1 L2 L3:List HP}
theorem pf (b bt:Nat) (s:eM) [h1:fL L b [.map (some bt),.int .i64 (jA s),.int .i64 s.calls] 134 L1] [h2:iI L1 bt ByteArray Nat fb l6 false (gI s.l) L2] [h3:cR L2 (c_ (s.l.map fH)) L3] (hi:KI s):am L (dk b bt s::L3):=by
 refine am.trans (h1.g.trans (am.cons _ (h2.g.trans (am.cons _ h3.g)))) ?_
 refine am.trans ?_ (g9 (L:=Gl b bt s) (L':=L3))
 exact am.cons _ (am.cons _ (am.cons _ (am.sF hi)))
theorem As {L0:List HP} [hf:cR L (c_ (l.map fH)) L0] (hi:j8 l) (he:e∈l) (h:∀ A c',T r n P c ⟨D,E,cells e.dA [.slice A e.bytes.length c',.int .i64 e.gj] 268::aN (aI .u8) 5 A c' e.bytes::c_ ((iR l e.name).map fH)::L0⟩ Q):T r n P c ⟨D,E,L⟩ Q:=
 b_ (hf.g.trans ((HZ ((CA hi he).symm.map fH)).trans aaw)) (IP (f:=λp:Option Addr × Nat=>E7 e p.1 p.2) λp=>h p.1 p.2)
theorem Oh {c:Nat} (e:dQ) [h1:fL L e.dA [.slice A e.bytes.length c,.int .i64 e.gj] 268 L1] [h2:md L1 A c Int (aI .u8) 5 e.bytes L2] [h3:cR L2 (c_ ((iR l e.name).map fH)) L3]:am L (c_ ((jt l e).map fH)::L3):=by
 refine am.trans (h1.g.trans (am.cons _ (h2.g.trans (am.cons _ h3.g)))) ?_
 refine am.trans (o_ (f:=λp:Option Addr × Nat=>E7 e p.1 p.2) (L:=c_ ((iR l e.name).map fH)::L3) (A,c)) ?_
 exact LN.trans (HZ ((Ex e).symm.map fH))
theorem E8 {c:Nat} [h1:fL L e.dA [.slice A e.bytes.length c,.int .i64 e.gj] 268 L1] [h2:md L1 A c Int (aI .u8) 5 e.bytes L2] [h3:cR L2 (c_ ((iR l e.name).map fH)) L3] (hi:j8 l) (he:e∈l):am L (c_ (l.map fH)::L3):=by
 refine am.trans (h1.g.trans (am.cons _ (h2.g.trans (am.cons _ h3.g)))) ?_
 refine am.trans (o_ (f:=λp:Option Addr × Nat=>E7 e p.1 p.2) (L:=c_ ((iR l e.name).map fH)::L3) (A,c)) ?_
 exact LN.trans (HZ ((CA hi he).map fH))
end
theorem adq (l:List dQ) (k:ByteArray):cq (gI l) k=(fM l k).map (·.dA):=by
 unfold cq gI fM
 rw [List.find?_map]
 show Option.map (·.2) (Option.map (λe:dQ=>(e.name,e.dA)) (l.find? λe=>decide (e.name=k)))=_
 cases l.find? λe=>decide (e.name=k) <;> rfl
theorem adr (l:List dQ) (k:ByteArray):fS (gI l) k=gI (iR l k):=by
 unfold fS gI iR; rw [Eg]; rfl
theorem ae2 (l:List dQ) (e:dQ):((e.name,e.dA)::fS (gI l) e.name).Perm (gI (jt l e)):=by
 rw [adr]; exact ((Ex e).map λe:dQ=>(e.name,e.dA)).symm
def j3 (size:Int):eM:=⟨size,-1,[]⟩
theorem agD {n:Int} (h:0<=n/\n<=268435456):KI (j3 n):=⟨h,⟨qJ _,show bP .i64 (-1) from da (by decide)⟩,List.Pairwise.nil,dF _,by show ((0:Nat):Int)<=n; omega,by simp [j3]⟩
theorem ahW {n:Int} (h:0<=n/\n<=268435456):am (cells b [.map (some bt),.int .i64 n,.int .i64 (-1)] 134::cy fb l6 false bt ([]:List (ByteArray × Nat))::L) (dk b bt (j3 n)::L):=by
 have hl:jA (j3 n)=n:=by unfold jA j3 gS; simp
 refine am.trans (B:=cells b [.map (some bt),.int .i64 (jA (j3 n)),.int .i64 (j3 n).calls] 134::cy fb l6 false bt (gI (j3 n).l)::c_ ((j3 n).l.map fH)::L) ?_ (pf b bt (j3 n) (agD h))
 rw [hl]
 exact am.cons _ (am.cons _ (g9 (L:=[])))
theorem abN (n:Int) (h:0<=n/\n<=268435456) (L:List HP):Fn prog 25 #[.int .i64 n] L (λv L'=>∃ b bt,v=.tuple #[.pointer (some ⟨b,0,none⟩),.int .i64 0]/\L'=dk b bt (j3 n)::L):=by
 exact aH func25 J J J J<|aa<|ae J<|ae J<|O<|ar<|aa<|Y J<|ab J J (bU J J)<|Y J<|dx 6 J (by omega)<|aj J<|Y J<|aj J<|ab J J (eE J J)<|dx 8 J (by omega)<|aA J<|O<|aT J<|az<|ai<|aa<|o7 fb l6 false J λbt=>Y J<|ab J J (bI J J)<|bS J J J λr5=>ae J<|ae J<|O<|av<|aF.ay (show am _ (cells r5 [.map (some bt),.int .i64 n,.int .i64 (-1)] 134::cy fb l6 false bt ([]:List (ByteArray × Nat))::L) from al)<|aF.ay (ahW h)<|eS J J J al (⟨r5,bt,J,J⟩)
theorem Ck:Fn prog 108 #[.pointer (some ⟨b,0,none⟩)] (dk b bt s::L) (λv L'=>v=.bool true/\L'=dk b bt s::L):=by
 exact aH func108 J J J J<|wX λhi=>aa<|ae J<|O<|aa<|Y J<|ab J J (f8 J J (dh.eJ))<|br 4 (v':=.bool true) J (by simp)<|Y J<|aj J<|Y J<|aj J<|aS J<|aj J<|ao J<|aj J<|ax J J<|aj J<|ab J J (f8 J J (dh.map_nil))<|br 10 (v':=.bool true) J (by simp)<|aA J<|ae J<|O<|av<|aF.ay (pf b bt s hi)<|cI J J
theorem Hw:Fn prog 109 #[.pointer (some ⟨b,0,none⟩)] (dk b bt s::L) (λv L'=>v=.bool (decide (kT s))/\L'=dk b bt s::L):=by
 exact aH func109 J J J J<|aa<|ae J<|O<|aa<|Y J<|aB J J (Ck)<|aV 4 (.bool true) J<|Y J<|aj J<|ai7 λhi=>Y J<|aj J<|aS J<|aj J<|ao J<|aj J<|ax J J<|aj J<|ab J J (ce J J)<|aA J<|ae J<|O<|av<|aF.ay (pf b bt s hi)<|cI J J
theorem Kw:Fn prog 310 #[.pointer (some ⟨b,0,none⟩)] (dk b bt s::L) (λv L'=>v=.int .i64 0/\L'=dk b bt (oC s)::L):=by
 refine aH func310 J J J J<|wX λhi=> ?_
 have hc:=hi.calls.1
 have kb:=i64In hi.calls.2
 refine aa<|ae J<|O<|ar<|aa<|Y J<|aS J<|ao J<|ax J J<|ab J J (eE J J)<|O<|bz J (λh7=> ?_) (λh7=> ?_)
 ·refine aQ<|Y J<|aS J<|ao J<|ax J J<|ab J J (jb J J (by omega))<|aS J<|ao J<|aE J J<|O<|ai<|aa<|ae J<|O<|av ?_
  have e:oC s=⟨s.size,s.calls - 1,s.l⟩:=by unfold oC; rw [if_pos h7]
  refine aF.ay (pf b bt ⟨s.size,s.calls - 1,s.l⟩ (by have:=hi.done; rwa [e] at this)) ?_
  exact aZ J J al (⟨J,by rw [e]⟩)
 refine az<|ai<|aa<|ae J<|O<|av ?_
 have e:oC s=s:=by unfold oC; rw [if_neg h7]
 refine aF.ay (pf b bt s hi) ?_
 exact aZ J J al (⟨J,by rw [e]⟩)
abbrev kl (l:List dQ) (k:ByteArray):Value:=.pointer ((fM l k).map λe=>⟨e.dA,0,none⟩)
theorem EO (l:List dQ) (k:ByteArray):nP (λb=>.pointer (some ⟨b,0,none⟩)) (.pointer none) (cq (gI l) k)=kl l k:=by
 rw [adq]; unfold kl; cases fM l k <;> rfl
theorem Hs (k:ByteArray) (hk:k.size<=cE):Fn prog 322 #[.pointer (some ⟨b,0,none⟩),.string k] (dk b bt s::L) (λv L'=>v=.tuple #[kl s.l k,.int .i64 (if (fM s.l k).isSome then 0 else 4)]/\L'=dk b bt s::L):=by
 refine aH func322 J J J J<|aa<|ae J<|ae J<|O<|ar<|aa<|Y J<|aB J J (Ck)<|aV 8 (.bool true) J<|ab J J (df J)<|O<|aT J<|az<|ai<|wX λhi=>aa<|Y J<|aS J<|ao J<|ax J J<|Y J<|ab J J (pT (k:=k) J J hk)<|br 15 (v':=kl s.l k) J (EO s.l k)<|ae J<|O<|ar ?_
 rcases hf:fM s.l k with _ | e
 ·rw [show kl s.l k=.pointer none by unfold kl; rw [hf]; rfl]
  exact aa<|Y J<|ab J J (fR J J (dh.eJ))<|br 17 (v':=.bool true) J (by simp)<|O<|cg J<|aa<|ae J<|ae J<|O<|av<|aU<|aF.ay (pf b bt s hi)<|eS J J J al (⟨J,J⟩)
 rw [show kl s.l k=.pointer (some ⟨e.dA,0,none⟩) by unfold kl; rw [hf]; rfl]
 exact aa<|Y J<|ab J J (fR J J (dh.eJ))<|br 17 (v':=.bool false) J (by simp)<|O<|aT J<|az<|ai<|aa<|Y J<|ae J<|ae J<|O<|av<|aF.ay (pf b bt s hi)<|eS J J J al (⟨J,J⟩)
end Go.SL
