/- What the law of this claim needs, together: the logic, data in memory, the walks of functions. -/
import Derived.Test.YtojddiieiggpjaaGreatDoorWpC
import Derived.KernelRfl
set_option linter.unusedVariables false
set_option linter.unusedSimpArgs false
set_option linter.unusedSectionVars false
namespace Go.SL
open Go Go.Proofs Go.Proofs.Tryz
variable{P:Program}{f:FuncId}{args:Array Value}{L:List HP}
theorem Va {β:Type} {φ:Mem->Prop} (hm:∀ {M N:Mem},M.le N->φ M->φ N) {ψ:Value->β->Prop} {G:β->HP} (hG:∀ x M h,(G x).holds M h->(G x).holds Mem.emp h) (h:∀ L,bV L φ->Fn P f args L (λv L'=>∃ x,ψ v x/\L'=G x::L)) (hφ:∀ M k N,M.lR k->Sep L M k->M.le N->k.le N->φ N):Fn P f args L (λv L'=>∃ x,ψ v x/\L'=G x::L):=λo w hs=>by
 obtain ⟨M,k,hd,hM,ko,hsep⟩:=hs.ex
 have h3:=hφ M k (heapOf w) hd hsep hM ko
 have hw:bH o w [base (heapOf w)]:=⟨⟨heapOf w,Mem.emp,Mem.Tl _,Mem.le_refl _,Mem.iu _,Mem.emp,Mem.emp,Mem.iD _,Mem.iu _,Mem.iu _,Mem.le_refl _,trivial⟩,hs.os,hs.tape,hs.output,hs.size⟩
 refine (h [base (heapOf w)] (λN m ⟨_,_,_,_,_,hb,_⟩=>hm hb h3) o w hw).mono ?_
 rintro e w' ⟨v,L',rfl,⟨x,hψ,rfl⟩,fm⟩
 obtain ⟨M',k',eW,xn,gV,a,a2,hda,ha,ha2,hg,b,b2,_,_,_,hb,_⟩:=fm.ex
 have gt:(heapOf w).le (heapOf w'):=Mem.le_trans hb xn
 have Wm:k.lR a:=Mem.i' eW (Mem.le_trans ko hb) ha
 refine ⟨v,_,rfl,⟨x,hψ,rfl⟩,⟨⟨M,k.join a, ?_,Mem.le_trans hM gt,Mem.join_le (Mem.le_trans ko gt) (Mem.le_trans ha gV),a,k,Mem.o8 Wm,Mem.tG Wm,Mem.tH _ _,(G x).mono (Mem.iu _) (Mem.le_refl _) (hG x M' a hg),hsep⟩,fm.os,fm.tape,fm.output,fm.size⟩⟩
 exact Mem.o8 (Mem.uH (Mem.o8 hd) (Mem.o8 (Mem.i' eW (Mem.le_trans hM hb) ha)))
theorem TZ (A:Option Addr) (c:Nat) (xs:List lm) (M h:Mem) (H:(aN kP 70 A c xs).holds M h):(aN kP 70 A c xs).holds Mem.emp h:=H
abbrev zA (bl:Nat) (node:Int) (S:Option Addr) (n cs:Nat):List Value:=[.pointer (some ⟨bl,0,none⟩),.int .i64 node,.slice S n cs]
abbrev yz (s:List dv):Prop:=s.length<=65536/\∀ x∈s,nR x
structure GF where
 bl:Nat
 S:Option Addr
 cs:Nat
abbrev Xa (b:Nat) (node:Int) (by_:List (List aW)) (ap:List Int) (s:List dv) (p:GF):List HP:=[cells b (zA p.bl node p.S s.length p.cs) 131,og p.bl by_ ap,aN hP 156 p.S p.cs s]
def rp (b:Nat) (node:Int) (by_:List (List aW)) (ap:List Int) (s:List dv):HP:=n_ (Xa b node by_ ap s) (λ_=>yz s)
variable{b:Nat}{by_:List (List aW)}{ap:List Int}{s:List dv}
instance {node:Int}:jz (rp b node by_ ap s::L) b (rp b node by_ ap s) L:=⟨am.refl _⟩
abbrev vI (b:Nat) (node:Int) (by_:List (List aW)) (ap:List Int) (s:List dv) (p:GF) (L:List HP):List HP:=cells b (zA p.bl node p.S s.length p.cs) 131::og p.bl by_ ap::aN hP 156 p.S p.cs s::L
variable{r:Option Nat}{n:Nat}{ops:Array Oper}{rest:List Oper}{K:St->Prop}{Q:Exit->St->Prop}{D:List Deferred}{E:cZ}{L' L0:List HP}{node:Int}
variable{c:Code}
theorem xe (h:∀ p,yz s->T r n P c ⟨D,E,vI b node by_ ap s p L⟩ Q):T r n P c ⟨D,E,rp b node by_ ap s::L⟩ Q:=sT h
theorem ajh (h:∀ p,yz s->TL r n P ops rest ⟨D,E,vI b node by_ ap s p L⟩ K):TL r n P ops rest ⟨D,E,rp b node by_ ap s::L⟩ K:=yy h
variable{L1 L2 L3:List HP}
theorem tM {bl cs:Nat} {S:Option Addr} (b:Nat) (node:Int) (by_:List (List aW)) (ap:List Int) (s:List dv) [h1:fL L b [.pointer (some ⟨bl,0,none⟩),.int .i64 node,.slice S s.length cs] 131 L1] [h2:cR L1 (og bl by_ ap) L2] [h3:cR L2 (aN hP 156 S cs s) L3] (hi:yz s):am L (rp b node by_ ap s::L3):=
 (h1.g.trans (am.cons _ (h2.g.trans (am.cons _ h3.g)))).trans (nG (F:=Xa b node by_ ap s) (φ:=λ_=>yz s) ⟨bl,S,cs⟩ hi)
theorem NP (h:vD by_ ap->yz s->T r n P c ⟨D,E,rp b node by_ ap s::L⟩ Q):T r n P c ⟨D,E,rp b node by_ ap s::L⟩ Q:=λW a w hh=>by
 obtain ⟨p,hi,h2⟩:=tL hh.2
 obtain ⟨q,hq,_⟩:=tL (h2.ay (am.mH 1 _))
 exact h hq.1 hi W a w hh
theorem Lq (node:Int) (h:0<=node/\node<=6) (L:List HP):Fn prog 120 #[.int .i64 node] L (λv L'=>∃ b,v=.tuple #[.pointer (some ⟨b,0,none⟩),.int .i64 0]/\L'=rp b node (List.replicate 7 []) [] []::L):=by
 refine aH func120 J J J J<|aa<|ae J<|ae J<|O<|ar<|aa<|Y J<|ab J J (bU J J)<|dx 5 J (by omega)<|Y J<|aj J<|Y J<|aj J<|ab J J (eV J J)<|dx 8 J (by omega)<|aA J<|O<|aT J<|az<|ai<|aa<|aJ J J (aco _) ?_
 rintro _ _ ⟨bl,rfl,rfl⟩
 refine Y J<|ab J J (bI J J)<|bS J J J λr5=>ae J<|ae J<|O<|av ?_
 refine aF.ay (du hP 156 none _) ?_
 exact aF.ay (tM (bl:=bl) (S:=none) (cs:=0) r5 node (List.replicate 7 []) [] [] ⟨by decide,by simp⟩)<|eS J J J al (⟨r5,J,J⟩)
theorem zY {node:Int}:Fn prog 56 #[.pointer (some ⟨b,0,none⟩)] (rp b node by_ ap s::L) (λv L'=>v=.bool true/\L'=rp b node by_ ap s::L):=by
 refine aH func56 J J J J<|xe λp hi=>aa<|ae J<|O<|aa<|Y J<|ab J J (f8 J J (dh.eJ))<|br 4 (v':=.bool true) J (by simp)<|Y J<|aj J<|Y J<|aj J<|aS J<|aj J<|ao J<|aj J<|ax J J<|aj J<|ab J J (f8 J J (dh.eJ))<|br 10 (v':=.bool true) J (by simp)<|aA J<|ae J<|O<|av ?_
 exact aF.ay (tM (bl:=p.bl) (S:=p.S) (cs:=p.cs) b node by_ ap s hi)<|cI J J
theorem S6 {node:Int} {p:GF}:Fn prog 56 #[.pointer (some ⟨b,0,none⟩)] (vI b node by_ ap s p L) (λv L'=>v=.bool true/\L'=vI b node by_ ap s p L):=by
 exact aH func56 J J J J<|aa<|ae J<|O<|aa<|Y J<|ab J J (f8 J J (dh.eJ))<|br 4 (v':=.bool true) J (by simp)<|Y J<|aj J<|Y J<|aj J<|aS J<|aj J<|ao J<|aj J<|ax J J<|aj J<|ab J J (f8 J J (dh.eJ))<|br 10 (v':=.bool true) J (by simp)<|aA J<|ae J<|O<|av<|cI J J
theorem Cq {node:Int}:Fn prog 287 #[.pointer (some ⟨b,0,none⟩)] (rp b node by_ ap s::L) (λv L'=>v=.int .i64 node/\L'=rp b node by_ ap s::L):=by
 refine aH func287 J J J J<|aa<|ae J<|O<|ar<|aa<|Y J<|aB J J (zY)<|aV 4 (.bool true) J<|ab J J (df J)<|O<|aT J<|az<|ai<|xe λp hi=>aa<|Y J<|aS J<|ao J<|ax J J<|ae J<|O<|av ?_
 exact aF.ay (tM (bl:=p.bl) (S:=p.S) (cs:=p.cs) b node by_ ap s hi)<|cI J J
theorem vX {node:Int}:Fn prog 138 #[.pointer (some ⟨b,0,none⟩)] (rp b node by_ ap s::L) (λv L'=>∃ A c,v=.slice A (dK ap).length c/\L'=aN (aI .i64) 3 A c (dK ap)::rp b node by_ ap s::L):=by
 refine aH func138 J J J J<|aa<|ae J<|O<|ar<|aa<|Y J<|aB J J (zY)<|aV 4 (.bool true) J<|ab J J (df J)<|O<|aT J<|az<|ai<|xe λp hi=>aa<|Y J<|aS J<|ao J<|ax J J ?_
 refine aP p.bl<|aJ J J (QC) ?_
 rintro _ _ ⟨np,nq,rfl,rfl⟩
 refine ae J<|O<|av ?_
 exact aF.ay (tM (bl:=p.bl) (S:=p.S) (cs:=p.cs) b node by_ ap s hi)<|aZ J J al (⟨np,nq,J,J⟩)
theorem ZC {node:Int} {p:GF}:Fn prog 138 #[.pointer (some ⟨b,0,none⟩)] (vI b node by_ ap s p L) (λv L'=>∃ A c,v=.slice A (dK ap).length c/\L'=aN (aI .i64) 3 A c (dK ap)::vI b node by_ ap s p L):=by
 refine aH func138 J J J J<|aa<|ae J<|O<|ar<|aa<|Y J<|aB J J (S6)<|aV 4 (.bool true) J<|ab J J (df J)<|O<|aT J<|az<|ai<|aa<|Y J<|aS J<|ao J<|ax J J ?_
 refine aP p.bl<|aJ J J (QC) ?_
 rintro _ _ ⟨np,nq,rfl,rfl⟩
 exact ae J<|O<|av<|aZ J J al (⟨np,nq,J,J⟩)
theorem Hy {node:Int} (name:ByteArray):Fn prog 240 #[.pointer (some ⟨b,0,none⟩),.string name] (rp b node by_ ap s::L) (λv L'=>v=.int .i64 (sQ s name:Int)/\L'=rp b node by_ ap s::L):=by
 refine aH func240 J J J J<|aa<|ae J<|O<|ar<|aa<|Y J<|aB J J (zY)<|aV 6 (.bool true) J<|ab J J (df J)<|O<|aT J<|az<|ai<|xe λp hi=>aa<|Y J<|aS J<|ao J<|ax J J<|Y J<|aB J J (U3 (λL hk↦ab_ name hk) (bR.dT bu.g (gp (R:=hP) (t:=156) (A:=p.S) (c:=p.cs) (xs:=s) (L:=[]))))<|ae J<|O<|av ?_
 exact aF.ay (tM (bl:=p.bl) (S:=p.S) (cs:=p.cs) b node by_ ap s hi)<|cI J J
theorem ZD {node:Int}:Fn prog 23 #[.pointer (some ⟨b,0,none⟩),.slice none 0 0,.int .i64 65536] (rp b node by_ ap s::L) (λv L'=>∃ A c,v=.slice A by_.flatten.length c/\L'=aN bK 49 A c by_.flatten::rp b node by_ ap s::L):=by
 refine aH func23 J J J J<|aa<|ae J<|O<|ar<|aa<|Y J<|aB J J (zY)<|aV 8 (.bool true) J<|ab J J (df J)<|O<|aT J<|az<|ai<|xe λp hi=>aa<|Y J<|aS J<|ao J<|ax J J<|Y J<|Y J ?_
 refine aP p.bl<|aJ J J (Zw) ?_
 rintro _ _ ⟨rm,rn,rfl,rfl⟩
 refine ae J<|O<|av ?_
 exact aF.ay (tM (bl:=p.bl) (S:=p.S) (cs:=p.cs) b node by_ ap s hi)<|aZ J J al (⟨rm,rn,J,J⟩)
theorem YW (x:dv) (p:Option Addr × Nat) (hk:bR L (aI .i64) p.1 p.2 x.cut) (ho:fC x):Fn prog 241 #[C8 x p] L (λr L'=>∃ q,r=C8 x q/\L'=aN (aI .i64) 3 q.1 q.2 x.cut::L):=by
 refine aH func241 J J J J<|aa<|bS J J J λb1=>bB J J λb2=>O<|aa<|ao J<|ax J J<|aJ J J (gz hk.tail.tail (by have:=ho.2.2.2; omega)) ?_
 rintro _ _ ⟨A5,c5,rfl,rfl⟩
 exact ao J<|aE J J<|O<|aa<|bD J J<|aE J J<|O<|av<|eK (.inl J) J (bf.agg J J) bu.g (⟨(A5,c5),J,J⟩)
def nc (s:List dv) (x:dv):List dv:=if nR x/\x.eO=(sQ s x.aK:Int) then s++[x] else s
theorem agZ {x:dv} (h:yz s) (hl:s.length < 65536):yz (nc s x):=by
 unfold nc
 split
 ·rename_i hx
  exact ⟨by simp; omega,λy hy=>(gD.1 hy).elim (h.2 y) (λh1=>by simp at h1; rw [h1]; exact hx.1)⟩
 ·exact h
theorem Cl {node:Int} (x:dv) (p0:Option Addr × Nat) (hk:a_ L (aI .i64) p0.1 p0.2 x.cut) (ho:fC x) (hb:jd x<=140737488355000) (hl:s.length < 65536):Fn prog 135 #[.pointer (some ⟨b,0,none⟩),C8 x p0] (rp b node by_ ap s::L) (λv L'=>(∃ e:Int,v=.int .i64 e)/\L'=rp b node by_ ap (nc s x)::L):=by
 refine aH func135 J J J J ?_
 refine b_ (a_.lay (a_.tail hk))<|aa<|bS J J J λb3=>ae J<|O<|ar<|aa<|Y J ?_
 refine aP b<|aB J J (zY)<|aV 8 (.bool true) J<|ab J J (df J)<|O<|aT J<|az<|ai<|ar<|aa<|bD J J<|aJ J J (YC x ho (a_.dT bu.g (slk (L:=[sl (aI .i64) p0.1 p0.2 x.cut]))) hb) ?_
 rintro _ _ ⟨⟨B12,d12,GG,rfl⟩,rfl⟩
 refine Y J<|ab J J (aO J J)<|ab J J (aO J J)<|ae J<|ae J<|O<|bW (cells b3 (pj x p0) 156::[]) [] [0,2,4,6,8,10,12,14,17,18,20] (by kernel_rfl) al<|aq J J<|ak J J (dB J J)<|er 16 (v':=.bool (decide (¬ nR x))) J (by by_cases h:nR x <;> simp [h])<|aq J J<|gE 17 J (λgx=> ?_) (λgx=> ?_)
 ·refine aD J J<|aD J J<|aD J J<|aD J J<|aD J J<|an J<|ah J<|au<|aD J J<|ak J J (d9 J J)<|aR<|cg J<|aa<|ae J<|O<|av<|aU ?_
  have gt:nc s x=s:=if_neg (λh=>by first | exact gx h.1 | exact j_ h.2)
  rw [gt]
  exact aZ J J al (⟨⟨_,J⟩,J⟩)
 refine aC J J (dp J)<|aC J J (dY J J)<|aC J J (cU J)<|aC J J (dp J)<|aC J J (dY J J)<|an J<|aj J ?_
 refine aP b<|aB J J (Hy x.aK)<|au<|aC J J (dB J J)<|ak J J (dG J J)<|aR<|bz J (λj_=> ?_) (λj_=> ?_)
 ·refine aa<|ae J<|O<|av<|aU ?_
  have gt:nc s x=s:=if_neg (λh=>by first | exact gx h.1 | exact j_ h.2)
  rw [gt]
  exact aZ J J al (⟨⟨_,J⟩,J⟩)
 refine az<|ai ?_
 have gt:nc s x=s++[x]:=if_pos ⟨eX.1 gx,eX.1 j_⟩
 refine cQ b<|xe λp hi=>bW (cells b (zA p.bl node p.S s.length p.cs) 131::cells b3 (pj x p0) 156::[]) [11] [0,2,4,6,8,10,13,15,17,18,20,23] (by kernel_rfl) al<|aq J J<|aq J J<|aL J J<|aw J J<|aG J J J<|cf J J J<|an J<|aJ J J (YW x p0 bJ ho) ?_
 rintro _ _ ⟨Px,rfl,rfl⟩
 refine bF<|au<|an J<|ef J J J J J J λPy=> ?_
 refine eh (k:=1) hP [x] (jZ (fI Px (lk slk) ho)) J (by decide)<|bF<|aV 33 (.slice (some ⟨Py,0,none⟩) [x].length 1) J<|au<|an J ?_
 refine fi J J J J J slk (by simp only [dO,ej]; omega) λrq rt=>au<|aL J J<|aw J J<|an J<|aE J J<|gZ J<|aR<|aa<|ae J<|O<|av ?_
 rw [gt]
 exact aF.ay (tM (bl:=p.bl) (S:=rq) (cs:=rt) b node by_ ap (s++[x]) (by rw [<- gt]; exact agZ hi hl))<|aZ J J al (⟨⟨_,J⟩,J⟩)
theorem UK {node:Int} {p:GF} (aK:ByteArray):Fn prog 252 #[.pointer (some ⟨b,0,none⟩),.string aK] (vI b node by_ ap s p L) (λv L'=>∃ A c,v=.slice A (by_.flatten.filter λe=>decide (e.aK=aK)).length c/\L'=aN bK 49 A c (by_.flatten.filter λe=>decide (e.aK=aK))::vI b node by_ ap s p L):=by
 refine ye func252 J J J J<|aa<|bS J J J λb3=>ae J<|O<|ar<|aa<|Y J ?_
 refine bX (L':=vI b node by_ ap s p (cells b3 [.string aK] 9::L)) al<|aB J J (S6)<|aV 8 (.bool true) J<|ab J J (df J)<|O<|aT J<|az<|ai<|aa<|bB J J λb5=>O<|ar<|aa<|Y J<|aS J<|ao J<|ax J J<|aJ J J (R6) ?_
 rintro _ _ ⟨bl,rfl,rfl⟩
 refine O<|aX<|xY (λg:Bo=>[cells b5 [.slice g.A g.xs.length g.c] 42,aN bK 49 g.A g.c g.xs,cells b3 [.string aK] 9]) (Ni (λe=>decide (e.aK=aK))) (λg:Bo=>g.k) (⟨0,[],none,0,fo _⟩) J (R7 (b:=p.bl) (bl:=bl) (by_:=by_) (ap:=ap)) ((du bK 49 none _).trans (show am _ ([cells b5 [.slice none ([]:List aW).length 0] 42,aN bK 49 none 0 [],cells b3 [.string aK] 9]++([og p.bl by_ ap,cells bl [.pointer (some ⟨p.bl,0,none⟩)] 128]++(cells b (zA p.bl node p.S s.length p.cs) 131::aN hP 156 p.S p.cs s::L))) from bu.g (L':=cells b5 [.slice none ([]:List aW).length 0] 42::aN bK 49 none 0 []::cells b3 [.string aK] 9::og p.bl by_ ap::cells bl [.pointer (some ⟨p.bl,0,none⟩)] 128::cells b (zA p.bl node p.S s.length p.cs) 131::aN hP 156 p.S p.cs s::L))) (by decide) (λ_=>J) J (λs x s' h=>h.2.1) (λBg Bh g x Lx hx cL=> ?_) (λBi xs g oM gR=> ?_)
 ·obtain ⟨k,xs,A,c,gt⟩:=g
  dsimp only at cL ⊢
  simp only [dL,dm]
  refine b_ (a_.lay (a_.dT al hx.2)) ?_
  try simp only [dL,dm]
  refine aQ<|bB J J λb6=>aE J J<|O ?_
  refine ⟨rfl,_,cR.g, ?_⟩
  refine aX<|aa<|ao J<|ax J J<|ax J J<|ab J J (kI J J)<|O<|bz J (λj9=> ?_) (λj9=> ?_)
  ·refine aQ<|ax J J<|bD J J<|ef J J J J J J λBU=> ?_
   refine eh (k:=1) bK [x.1] (EA x.2 slk hx.1.1) J (by decide)<|bF<|aV 22 (.slice (some ⟨BU,0,none⟩) [x.1].length 1) J ?_
   refine fi J J J J J slk (by simp only [dO,ej]; omega) λxp xq=>aE J J<|O<|bA ?_
   exact ⟨⟨k+1,xs++[x.1],xp,xq,by simp; omega⟩,none,rfl,⟨rfl,rfl,by dsimp only; rw [if_pos (by simpa using j9)]⟩,al⟩
  refine az<|bA ?_
  exact ⟨⟨k+1,xs,A,c,by omega⟩,none,rfl,⟨rfl,rfl,by dsimp only; rw [if_neg (by simpa using j9),tE]⟩,al⟩
 obtain ⟨⟨k2,ys,A4,c4,Wk⟩,j⟩:=g
 obtain ⟨hj,h2⟩:=UJ rfl gR
 dsimp only at hj h2
 subst hj
 have rk:=oM.1 rfl
 rw [rk,dm] at h2
 subst h2
 try simp only [dL,dm]
 exact Cm<|bA<|ai<|aa<|ax rfl rfl<|ae rfl<|O<|av<|qZ<|aZ rfl rfl al (⟨A4,c4,rfl,rfl⟩)
theorem T0 (h:vD by_ ap) (p:aW->Bool):∀ e∈by_.flatten.filter p,0<=e.eZ/\e.eZ<=1000:=λe he=>by
 obtain ⟨es,tj,Pw⟩:=List.mem_flatten.1 (ke.1 he).1
 exact (h.ok es tj e Pw).2.1
theorem aa0 {node:Int} (aK:ByteArray):Fn prog 145 #[.pointer (some ⟨b,0,none⟩),.string aK] (rp b node by_ ap s::L) (λv L'=>∃ A c xs,v=.slice A xs.length c/\l9 (rT (by_.flatten.filter λe=>decide (e.aK=aK)) s) aK xs/\L'=aN kP 70 A c xs::rp b node by_ ap s::L):=by
 refine aH func145 J J J J<|aa<|ae J<|O<|ar<|aa<|Y J<|aB J J (zY)<|aV 6 (.bool true) J<|ab J J (df J)<|O<|aT J<|az<|ai<|NP λBV qx=> ?_
 have PB:(by_.flatten.filter λe=>decide (e.aK=aK)).length<=by_.flatten.length:=kG _ _
 have wY:=BV.eU
 refine xe λp hi=>bW (cells b (zA p.bl node p.S s.length p.cs) 131::[]) [] [0,2,6,8,10,12,14,5,17,18] (by kernel_rfl) al<|aq J J<|aq J J<|aq J J<|aL J J<|aw J J<|aG J J J<|aq J J<|an J<|aJ J J (UK aK) ?_
 rintro _ _ ⟨np,nq,rfl,rfl⟩
 refine bF<|au<|an J<|aJ J J ((show Fn _ _ _ _ (λv L'↦∃ x:Option Addr × Nat × List lm,(v=.slice x.1 x.2.2.length x.2.1/\l9 (rT (by_.flatten.filter λe↦decide (e.aK=aK)) s) aK x.2.2)/\L'=aN kP 70 x.1 x.2.1 x.2.2::_) from Va (φ:=λM↦sliceAt M bK np nq (by_.flatten.filter λe↦decide (e.aK=aK))/\sliceAt M hP p.S p.cs s) (λhM h↦⟨h.1.mono hM,h.2.mono hM⟩) (λx M h H↦TZ _ _ _ M h H) (λL hk↦(adN aK (hk.mono λ_ h↦h.1) (hk.mono λ_ h↦h.2) (by omega) (T0 BV _)).rM λv L' ⟨A',c',xs,h1,h2,h3⟩↦⟨(A',c',xs),⟨h1,h3⟩,h2⟩) (λM k N hd hs hM ko↦⟨zX hM (a_.n (a_.dT bu.g (slk (L:=[sl bK np nq (by_.flatten.filter λe↦decide (e.aK=aK))]))) M k N hd hs hM ko),zX hM (bR.dT bu.g (gp (R:=hP) (t:=156) (A:=p.S) (c:=p.cs) (xs:=s) (L:=[])) M k N hd hs hM ko)⟩))) ?_
 rintro _ _ ⟨⟨rm,rn,akF⟩,⟨rfl,akG⟩,rfl⟩
 refine au<|ak J J (bT J)<|aR<|av ?_
 exact aF.ay (tM (bl:=p.bl) (S:=p.S) (cs:=p.cs) b node by_ ap s hi)<|aZ J J al (⟨rm,rn,akF,J,akG,J⟩)
theorem Hz {node:Int} (aK:ByteArray) (ep:Int):Fn prog 351 #[.pointer (some ⟨b,0,none⟩),.string aK,.int .i64 ep] (rp b node by_ ap s::L) (λv L'=>∃ A c xs,v=.tuple #[.slice A xs.length c,.bool (Au (dK ap) s aK ep)]/\l9 (sU (by_.flatten.filter λe=>decide (e.aK=aK)) s aK ep) aK xs/\L'=aN kP 70 A c xs::rp b node by_ ap s::L):=by
 refine aH func351 J J J J<|aa<|ae J<|ae J<|O<|ar<|aa<|Y J<|aB J J (zY)<|aV 9 (.bool true) J<|ab J J (df J)<|O<|aT J<|az<|ai<|NP λBV qx=> ?_
 have PB:(by_.flatten.filter λe=>decide (e.aK=aK)).length<=by_.flatten.length:=kG _ _
 have wY:=BV.eU
 refine xe λp hi=>bW (cells b (zA p.bl node p.S s.length p.cs) 131::[]) [] [0,2,6,8,10,12,14,16,20,24,26,28,30,32,34,5,19,23,37,38,40] (by kernel_rfl) al<|aq J J<|aq J J<|aq J J<|aL J J<|aw J J<|aG J J J<|aq J J<|aq J J<|aq J J<|aq J J<|aL J J<|aw J J<|aG J J J<|aq J J<|aq J J<|an J<|aJ J J (UK aK) ?_
 rintro _ _ ⟨lF,kV,rfl,rfl⟩
 refine bF<|au<|an J<|aJ J J ((show Fn _ _ _ _ (λv L'↦∃ x:Option Addr × Nat × List lm,(v=.slice x.1 x.2.2.length x.2.1/\l9 (sU (by_.flatten.filter λe↦decide (e.aK=aK)) s aK ep) aK x.2.2)/\L'=aN kP 70 x.1 x.2.1 x.2.2::_) from Va (φ:=λM↦sliceAt M bK lF kV (by_.flatten.filter λe↦decide (e.aK=aK))/\sliceAt M hP p.S p.cs s) (λhM h↦⟨h.1.mono hM,h.2.mono hM⟩) (λx M h H↦TZ _ _ _ M h H) (λL hk↦(aca aK ep (hk.mono λ_ h↦h.1) (hk.mono λ_ h↦h.2) (by omega) (T0 BV _)).rM λv L' ⟨A',c',xs,h1,h2,h3⟩↦⟨(A',c',xs),⟨h1,h3⟩,h2⟩) (λM k N hd hs hM ko↦⟨zX hM (a_.n (a_.dT bu.g (slk (L:=[sl bK lF kV (by_.flatten.filter λe↦decide (e.aK=aK))]))) M k N hd hs hM ko),zX hM (bR.dT bu.g (gp (R:=hP) (t:=156) (A:=p.S) (c:=p.cs) (xs:=s) (L:=[])) M k N hd hs hM ko)⟩))) ?_
 rintro _ _ ⟨⟨ru,rv,Wn⟩,⟨rfl,akH⟩,rfl⟩
 refine au<|an J ?_
 refine aP p.bl ?_
 refine bX (L':=vI b node by_ ap s p (aN kP 70 ru rv Wn::sl bK lF kV (by_.flatten.filter λe=>decide (e.aK=aK))::L)) al<|aJ J J (ZC) ?_
 rintro _ _ ⟨mS,k_,rfl,rfl⟩
 refine au<|an J<|aB J J (Vy (φ:=λM↦sliceAt M (aI .i64) mS k_ (dK ap)/\sliceAt M hP p.S p.cs s) (λhM h↦⟨h.1.mono hM,h.2.mono hM⟩) (λL hk↦acb aK ep (a_.n (hk.mono λ_ h↦h.1)) (hk.mono λ_ h↦h.2)) (λM k N hd hs hM ko↦⟨zX hM (bR.dT bu.g (gp (R:=aI .i64) (t:=3) (A:=mS) (c:=k_) (xs:=dK ap) (L:=[])) M k N hd hs hM ko),zX hM (bR.dT bu.g (gp (R:=hP) (t:=156) (A:=p.S) (c:=p.cs) (xs:=s) (L:=[])) M k N hd hs hM ko)⟩))<|au<|ak J J (bT J)<|ak J J (bT J)<|aR<|av ?_
 exact aF.ay (tM (bl:=p.bl) (S:=p.S) (cs:=p.cs) b node by_ ap s hi)<|eS J J J al (⟨ru,rv,Wn,J,akH,J⟩)
open Go
open Go.MapKept Go.WideShapes
open Go.ChangeMaps (setBlock)
section lists
variable {α β:Type}
end lists
open Go
open Go.MapKept Go.WideShapes
open Go.ChangeMaps (setBlock)
section
variable {r:Option Nat} {n:Nat} {P:Program} {ops:Array Oper} {rest:List Oper} {KK:St->Prop} {D:List Deferred} {E:cZ} {L L' L0:List HP} {d:Nat} {ty:TypeId} {pos:String} {af:Array Edge}
variable {κ α:Type} [DecidableEq κ] {K:hU κ} {R:bZ α} {ag:Bool} {b:Nat} {m:List (κ × α)}
theorem adQ {t kt et ty0:TypeId} [ht:dy P t (.map kt et)] {W w:World} (hs:bH W w (cy K R ag b m::L)):
  ∃ w',(Builtin.clear_ #[t] ty0 #[.map (some b)]).run P w=.ok (.tuple #[]) w'/\bH W w' (cy K R ag b []::L):=by
 obtain ⟨es,clock,l,cK,hp,dt⟩:=Cy hs
 have gu:w.heap[b]? =some (.map es clock):=dt.pX
 refine ⟨setBlock w b (.map #[] clock), ?_,(vY dt).ay (am.trans ?_ (Ct (l:=[]) (es:=#[]) (clock:=clock) (stamped_empty _) (uC _)))⟩
 ·simp [Builtin.clear_,ht.run,MapKept.run_getObj_map gu,MapKept.run_setObj_map _ gu,Result.andThen,setBlock]
 ·intro N q ⟨a1,a2,ad,b1,b2,ho,a3,a4,r8,b3,b4,iU,hsep⟩
  exact ⟨a1,a2,ad,b1,b2,ho,a3,a4,r8,b3,b4,⟨rfl,λi e p he=>by simp at he⟩,hsep⟩
theorem S7 {x:Operand} {t kt et:TypeId} [ht:dy P t (.map kt et)] [hf:iI L b κ α K R ag m L0] (hx:ev E x=some (.map (some b))) 
  (h:TL r n P ops rest ⟨D,E,cy K R ag b []::L0⟩ KK):TL r n P ops (⟨none,.call {callee:=.builtin .clear,args:=#[x],argTypes:=#[t]},ty,pos,af,none⟩::rest) ⟨D,E,L⟩ KK:=
 yo rfl rfl (λ_ e=>by cases e) λW a w hh=>by
  obtain ⟨w',gR,hs⟩:=adQ (P:=P) (t:=t) (kt:=kt) (et:=et) (ty0:=ty) (hh.2.ay hf.g)
  exact ⟨_,w',_,by simp [execOp,resolve,invoke,builtin,hh.1.ev hx,gR]; rfl,.inr ⟨_,rfl⟩,hs,h⟩
end
open Go Go.Proofs Go.Proofs.Tryz
abbrev J2 (b:Nat) (s:gm) (bt:Nat):List HP:=[cells b [.int .i64 s.node,.int .i64 s.prom.1,.int .i64 s.prom.2,.map (some bt)] 282,cy eL dz true bt (ji s.V),pure (AI s)]
def ac (b:Nat) (s:gm):HP:=oS (J2 b s)
variable{s:gm}
instance:jz (ac b s::L) b (ac b s) L:=⟨am.refl _⟩
theorem MV {W w:World} (h:bH W w (ac b s::L)):∃ bt,AI s/\bH W w (cells b [.int .i64 s.node,.int .i64 s.prom.1,.int .i64 s.prom.2,.map (some bt)] 282::cy eL dz true bt (ji s.V)::L):=by
 obtain ⟨bt,hp⟩:=sI h
 obtain ⟨M,k,hd,hM,hk,h1,h2,eW,l1,l2,hq,hs⟩:=(hp.ay (am.mH 2 (J2 b s bt++L))).ex
 exact ⟨bt,hq,(hp.ay (am.mH 2 (J2 b s bt++L))).ay (am.drop _ _)⟩
theorem vi (h:∀ bt,AI s->T r n P c ⟨D,E,cells b [.int .i64 s.node,.int .i64 s.prom.1,.int .i64 s.prom.2,.map (some bt)] 282::cy eL dz true bt (ji s.V)::L⟩ Q):T r n P c ⟨D,E,ac b s::L⟩ Q:=λW a w hh=>by
 obtain ⟨bt,hi,hs⟩:=MV hh.2
 exact h bt hi W a w ⟨hh.1,hs⟩
theorem IU (h:AI s->T r n P c ⟨D,E,ac b s::L⟩ Q):T r n P c ⟨D,E,ac b s::L⟩ Q:=λW a w hh=>by
 obtain ⟨bt,hi,hs⟩:=MV hh.2
 exact h hi W a w hh
theorem ge {bt:Nat} (b:Nat) (s:gm) [h1:fL L b [.int .i64 s.node,.int .i64 s.prom.1,.int .i64 s.prom.2,.map (some bt)] 282 L1] [h2:iI L1 bt Int dj eL dz true (ji s.V) L2] (hi:AI s):am L (ac b s::L2):=by
 refine am.trans (h1.g.trans (am.cons _ h2.g)) ?_
 refine am.trans ?_ (o_ (f:=J2 b s) bt)
 exact am.cons _ (am.cons _ (am.sF hi))
def AL (n:Int):gm:=⟨n,(0,0),[]⟩
theorem ag0 {n:Int} (h:0<=n/\n<=6):AI (AL n):=⟨h,by unfold AL jr de; simp,List.Pairwise.nil,dF _,by simp [AL]⟩
theorem MB (n:Int) (h:0<=n/\n<=6) (L:List HP):Fn prog 121 #[.int .i64 n] L (λv L'=>∃ b,v=.tuple #[.pointer (some ⟨b,0,none⟩),.int .i64 0]/\L'=ac b (AL n)::L):=by
 exact aH func121 J J J J<|aa<|ae J<|ae J<|O<|ar<|aa<|Y J<|ab J J (bU J J)<|Y J<|dx 6 J (by omega)<|aj J<|Y J<|aj J<|ab J J (eV J J)<|dx 8 J (by omega)<|aA J<|O<|aT J<|az<|ai<|aa<|Y J<|o7 eL dz true J λbt=>ab J J (bI J J)<|bS J J J λr5=>ae J<|ae J<|O<|av<|aF.ay (ge (bt:=bt) r5 (AL n) (ag0 h))<|eS J J J al (⟨r5,J,J⟩)
theorem Er:Fn prog 171 #[.pointer (some ⟨b,0,none⟩)] (ac b s::L) (λv L'=>v=.bool true/\L'=ac b s::L):=by
 exact aH func171 J J J J<|vi λbt hi=>aa<|ae J<|O<|aa<|Y J<|ab J J (f8 J J (dh.eJ))<|br 4 (v':=.bool true) J (by simp)<|Y J<|aj J<|Y J<|aj J<|aS J<|aj J<|ao J<|aj J<|ax J J<|aj J<|ab J J (f8 J J (dh.map_nil))<|br 10 (v':=.bool true) J (by simp)<|aA J<|ae J<|O<|av<|aF.ay (ge b s hi)<|cI J J
theorem Kq:Fn prog 89 #[.pointer (some ⟨b,0,none⟩)] (ac b s::L) (λv L'=>v=nj s.prom/\L'=ac b s::L):=by
 exact aH func89 J J J J<|aa<|bB J J λb2=>O<|ar<|aa<|Y J<|aP b<|aB J J (Er)<|aV 4 (.bool true) J<|ab J J (df J)<|O<|aT J<|az<|ai<|cQ b<|vi λbt hi=>aa<|Y J<|aS J<|ao J<|bD J J<|aE J J<|O<|av<|aF.ay (ge b s hi)<|eK (.inl J) J (bf.agg J J) bu.g (⟨J,J⟩)
abbrev FW (v:dj) (p:Option Addr × Nat):Value:=.agg (List.toArray (tT v p))
variable{A:Option Addr}
theorem QO {c:Nat} (v:dj) (hk:bR L (aI .i64) A c v.en.order.cut) (ho:fC v.en.order):Fn prog 341 #[FW v (A,c)] L (λr L'=>∃ p,r=FW v p/\L'=aN (aI .i64) 3 p.1 p.2 v.en.order.cut::L):=by
 refine aH func341 J J J J<|aa<|bS J J J λb1=>bB J J λb2=>O<|aa<|ao J<|ao J<|ao J<|ax J J<|aJ J J (gz hk.tail.tail (by have:=ho.2.2.2; omega)) ?_
 rintro _ _ ⟨A7,c7,rfl,rfl⟩
 exact ao J<|ao J<|ao J<|aE J J<|O<|aa<|bD J J<|aE J J<|O<|av<|eK (.inl J) J (bf.agg J J) bu.g (⟨(A7,c7),J,J⟩)
open Go Go.Proofs
structure gb where
 slot:Int
 en:dZ
 by_:List Bool
 vb:Nat
structure mu where
 node:Int
 nodes:Int
 phase:Int
 bj:Int × Int
 seen:Int × Int
 bC:Int
 next:Int
 bt:Nat
 told:List Bool
 A:Option Addr
 c:Nat
 kept:List dj
 bm:Nat
 F:List gb
abbrev gb.pl (f:gb):mP:=⟨f.slot,f.en,f.by_⟩
abbrev mu.pl (s:mu):PP:=⟨s.node,s.nodes,s.phase,s.bj,s.seen,s.bC,s.next,s.told,s.kept,s.F.map gb.pl⟩
def mV:bZ (dZ × Nat):=mo 6 (λf p=>hO f.1 p++[.pointer (some ⟨f.2,0,none⟩)]) (λf p=>[sl (aI .i64) p.1 p.2 f.1.order.cut]) (λf=>fC f.1.order) (λ_ _=>rfl) (λ_ _=>rfl)
instance:yU mV (Option Addr × Nat) 6 (λf p=>hO f.1 p++[.pointer (some ⟨f.2,0,none⟩)]) (λf p=>[sl (aI .i64) p.1 p.2 f.1.order.cut]) (λf=>fC f.1.order):=⟨_,_,rfl⟩
abbrev nT (F:List gb):List (Int × (dZ × Nat)):=F.map λf=>(f.slot,(f.en,f.vb))
abbrev gC (s:mu):List Value:=[.int .i64 s.node,.int .i64 s.nodes,.int .i64 s.phase,.int .i64 s.bj.1,.int .i64 s.bj.2,.int .i64 s.seen.1,.int .i64 s.seen.2,.int .i64 s.bC,.int .i64 s.next,.pointer (some ⟨s.bt,0,none⟩),.slice s.A s.kept.length s.c,.map (some s.bm)]
def Ax (bs:List Bool):Nat:=(bs.filter id).length
structure PI (s:PP):Prop where
 nodes:1<=s.nodes/\s.nodes<=7
 node:0<=s.node/\s.node < s.nodes
 phase:0<=s.phase/\s.phase<=2
 told:s.told.length=7
 by_:∀ f∈s.F,f.by_.length=7
 inc:s.F.Pairwise λf g=>g.slot < f.slot
 len:s.F.length<=4096
 so:∀ f∈s.F,0<=f.slot/\f.slot < s.next
 next:0<=s.next/\s.next<=2147483648
 bC:0<=s.bC/\s.bC<=2147483647
 kept:s.kept.length<=4096 * Ax s.told
 bj:jr s.bj
 seen:jr s.seen
 ut:∀ v∈s.kept,mF v/\pU v
 rx:∀ f∈s.F,f_ f.en/\fC f.en.order
 uu:s.phase=1->s.F=[]
theorem adR {ps qs:List HP} (h:ps.Perm qs):am (c_ ps::L) (c_ qs::L):=(mC.trans (am.perm (h.append_right L))).trans g9
theorem aa1 {a:HP} {r:List HP}:am (c_ (a::r)::L) (a::c_ r::L):=(mC (L:=a::r) (L':=L)).trans (am.cons a g9)
theorem adS {a:HP} {r:List HP}:am (a::c_ r::L) (c_ (a::r)::L):=(am.cons a (mC (L:=r) (L':=L))).trans (g9 (L:=a::r) (L':=L))
def rg (F:List gb) (n:Int):List HP:=F.map λf=>iH f.vb f.by_ n
def qy (F:List gb) (n:Int):HP:=c_ (rg F n)
abbrev Xb (b:Nat) (s:mu):List HP:=[cells b (gC s) 279,iH s.bt s.told s.nodes,aN dz 323 s.A s.c s.kept,cy eL mV true s.bm (nT s.F),qy s.F s.nodes]
abbrev Xc (b:Nat) (p:PP) (s:mu):List HP:=pure (s.pl=p/\PI p)::Xb b s
def pr (b:Nat) (p:PP):HP:=oS (Xc b p)
variable{p:PP}
instance:jz (pr b p::L) b (pr b p) L:=⟨am.refl _⟩
theorem MW {W w:World} (h:bH W w (pr b p::L)):∃ s:mu,s.pl=p/\PI p/\bH W w (Xb b s++L):=by
 obtain ⟨s,hp⟩:=sI h
 obtain ⟨M,k,hd,hM,hk,h1,h2,eW,l1,l2,hq,hs⟩:=hp.ex
 exact ⟨s,hq.1,hq.2,hp.ay (am.drop _ _)⟩
theorem lX (h:∀ s:mu,s.pl=p->PI p->T r n P c ⟨D,E,cells b (gC s) 279::iH s.bt s.told s.nodes::aN dz 323 s.A s.c s.kept::cy eL mV true s.bm (nT s.F)::qy s.F s.nodes::L⟩ Q):T r n P c ⟨D,E,pr b p::L⟩ Q:=λW a w hh=>by
 obtain ⟨s,h1,h2,hs⟩:=MW hh.2
 exact h s h1 h2 W a w ⟨hh.1,hs⟩
theorem aji (h:PI p->T r n P c ⟨D,E,pr b p::L⟩ Q):T r n P c ⟨D,E,pr b p::L⟩ Q:=λW a w hh=>by
 obtain ⟨s,h1,h2,hs⟩:=MW hh.2
 exact h h2 W a w hh
variable{ty:TypeId}
theorem Jf {op:Op} {v:Value} [hf:jz L b (pr b p) L0] (h:∀ s:mu,s.pl=p->Yl P E (cells b (gC s) 279::L0) op ty v):Yl P E L op ty v:=λn D W a w dst pos af gd ha hs=>by
 obtain ⟨s,h1,h2,fm⟩:=MW (hs.ay hf.g)
 exact h s h1 n D W a w dst pos af gd ha (fm.ay (am.cons _ ((am.drop _ _).trans ((am.drop _ _).trans ((am.drop _ _).trans (am.drop _ _))))))
theorem fD {L4 L5:List HP} (b:Nat) (s:mu) (p:PP) [h1:fL L b (gC s) 279 L1] [h2:fL L1 s.bt (vc s.told s.nodes) 409 L2] [h3:cR L2 (aN dz 323 s.A s.c s.kept) L3] [h4:iI L3 s.bm Int (dZ × Nat) eL mV true (nT s.F) L4] [h5:cR L4 (qy s.F s.nodes) L5] (hp:s.pl=p) (hi:PI p):am L (pr b p::L5):=by
 refine am.trans (h1.g.trans (am.cons _ (h2.g.trans (am.cons _ (h3.g.trans (am.cons _ (h4.g.trans (am.cons _ h5.g)))))))) ?_
 refine am.trans ?_ (o_ (f:=Xc b p) s)
 exact am.sF ⟨hp,hi⟩
open Go Go.Proofs Go.Proofs.Tryz
theorem NQ:jr (0,0):=by decide
theorem S8 (bs:List Bool):Ax bs<=bs.length:=kG _ _
theorem MC (h:PI p):PI (kL p):=⟨h.nodes,h.node,by simp [kL],by simp [kL],by simp [kL],by simp [kL],by simp [kL],by simp [kL],by simp [kL],h.bC,by simp [kL],NQ,h.seen,by simp [kL],by simp [kL],λ_=>rfl⟩
theorem ag1 {node nodes:Int} (h:1<=nodes/\nodes<=7) (h2:0<=node/\node < nodes):PI (oz node nodes):=⟨h,h2,by simp [oz],by simp [oz],by simp [oz],by simp [oz],by simp [oz],by simp [oz],by simp [oz],by simp [oz],by simp [oz],NQ,NQ,by simp [oz],by simp [oz],λ_=>rfl⟩
abbrev Nj (node nodes:Int):List Value:=[.int .i64 node,.int .i64 nodes,.int .i64 0,.int .i64 0,.int .i64 0,.int .i64 0,.int .i64 0,.int .i64 0,.int .i64 0,.pointer none,.slice none 0 0,.map none]
theorem v_:Fn prog 166 #[.pointer (some ⟨b,0,none⟩)] (pr b p::L) (λv L'=>v=.bool true/\L'=pr b p::L):=by
 refine aH func166 J J J J<|lX λs hs hi=> ?_
 subst hs
 have h1:1<=s.nodes/\s.nodes<=7:=hi.nodes
 exact aa<|ae J<|O<|aa<|Y J<|ab J J (f8 J J (dh.eJ))<|br 4 (v':=.bool true) J (by simp)<|Y J<|aj J<|Y J<|aj J<|aS J<|aj J<|ao J<|aj J<|ax J J<|aj J<|ab J J (eE J J)<|fd 10 J (by omega)<|aA J<|ae J<|O<|av<|aF.ay (fD b s _ J hi)<|cI J J
theorem ZE {node nodes:Int} (h1:1<=nodes/\nodes<=7):Fn prog 166 #[.pointer (some ⟨b,0,none⟩)] (cells b (Nj node nodes) 279::L) (λv L'=>v=.bool true/\L'=cells b (Nj node nodes) 279::L):=by
 exact aH func166 J J J J<|aa<|ae J<|O<|aa<|Y J<|ab J J (f8 J J (dh.eJ))<|br 4 (v':=.bool true) J (by simp)<|Y J<|aj J<|Y J<|aj J<|aS J<|aj J<|ao J<|aj J<|ax J J<|aj J<|ab J J (eE J J)<|fd 10 J (by omega)<|aA J<|ae J<|O<|av<|cI J J
theorem Cr:Fn prog 95 #[.pointer (some ⟨b,0,none⟩)] (pr b p::L) (λv L'=>v=.tuple #[]/\L'=pr b (kL p)::L):=by
 refine aH func95 J J J J<|aa<|Y J<|aP b<|aB J J (v_)<|O<|xZ J (J)<|lX λs hs hi=> ?_
 subst hs
 have h1:1<=s.nodes/\s.nodes<=7:=hi.nodes
 refine aa<|Y J<|Y J<|Y J<|Y J<|ab J J (bI J J)<|aS J<|ao J<|aE J J<|aS J<|ao J<|aE J J<|aS J<|ao J<|aE J J<|aS J<|ao J<|aE J J<|O<|ar<|aa<|Y J<|aS J<|ao J<|ax J J<|ab J J (fR J J (dh.map_nil))<|O<|K6 J (J)<|az<|ai<|aa<|Y J<|aS J<|ao J<|ax J J<|S7 J<|O<|aQ<|Y J<|Y J<|aS J<|ao J<|ax J J<|aJ J J (KQ h1 _) ?_
 rintro _ _ ⟨bt,rfl,rfl⟩
 exact Y J<|ab J J (aO J J)<|ab J J (aO J J)<|aS J<|ao J<|aE J J<|O<|aF.ay (du dz 323 none _)<|aF.ay (show am _ (qy [] s.nodes::_) from g9 (L:=([]:List HP)))<|aF.ay (fD b ⟨s.node,s.nodes,0,(0,0),s.seen,s.bC,0,bt,r_,none,0,[],s.bm,[]⟩ (kL s.pl) J (MC hi))<|ei J
theorem ZF {node nodes:Int} (h1:1<=nodes/\nodes<=7) (h2:0<=node/\node < nodes):Fn prog 95 #[.pointer (some ⟨b,0,none⟩)] (cells b (Nj node nodes) 279::L) (λv L'=>v=.tuple #[]/\L'=pr b (oz node nodes)::L):=by
 refine aH func95 J J J J<|aa<|Y J<|g_ b<|aB J J (ZE h1)<|O<|xZ J (J)<|aa<|Y J<|Y J<|Y J<|Y J<|ab J J (bI J J)<|aS J<|ao J<|aE J J<|aS J<|ao J<|aE J J<|aS J<|ao J<|aE J J<|aS J<|ao J<|aE J J<|O<|ar<|aa<|Y J<|aS J<|ao J<|ax J J<|ab J J (fR J J (dh.map_nil))<|O<|xZ J (J)<|aQ<|Y J<|o7 eL mV true J λbm=>aS J<|ao J<|aE J J<|O<|ai<|aa<|Y J<|aS J<|ao J<|ax J J<|S7 J<|O<|aQ<|Y J<|Y J<|aS J<|ao J<|ax J J<|aJ J J (KQ h1 _) ?_
 rintro _ _ ⟨bt,rfl,rfl⟩
 exact Y J<|ab J J (aO J J)<|ab J J (aO J J)<|aS J<|ao J<|aE J J<|O<|aF.ay (du dz 323 none _)<|aF.ay (show am _ (qy [] nodes::_) from g9 (L:=([]:List HP)))<|aF.ay (fD b ⟨node,nodes,0,(0,0),(0,0),0,0,bt,r_,none,0,[],bm,[]⟩ (oz node nodes) J (ag1 h1 h2))<|ei J
theorem MD {node nodes:Int} (h1:1<=nodes/\nodes<=7) (h2:0<=node/\node < nodes) (L:List HP):Fn prog 122 #[.int .i64 node,.int .i64 nodes] L (λv L'=>∃ b,v=.tuple #[.pointer (some ⟨b,0,none⟩),.int .i64 0]/\L'=pr b (oz node nodes)::L):=by
 exact aH func122 J J J J<|aa<|ae J<|ae J<|O<|ar<|aa<|Y J<|ab J J (bU J J)<|dx 8 J (by omega)<|Y J<|aj J<|Y J<|aj J<|ab J J (eE J J)<|dx 11 J (by omega)<|aA J<|Y J<|aj J<|Y J<|aj J<|ab J J (bU J J)<|dx 15 J (by omega)<|aA J<|Y J<|aj J<|Y J<|aj J<|Y J<|aj J<|ab J J (eV J J)<|dx 20 J (by omega)<|aA J<|O<|aT J<|az<|ai<|aa<|Y J<|Y J<|ab J J (bI J J)<|bS J J J λb25=>ae J<|O<|aa<|Y J<|aB J J (ZF h1 h2)<|O<|aa<|Y J<|ae J<|ae J<|O<|av<|eS J J J al (⟨b25,J,J⟩)
theorem Q6:Fn prog 136 #[.pointer (some ⟨b,0,none⟩)] (pr b p::L) (λv L'=>v=.int .i64 p.phase/\L'=pr b p::L):=by
 refine aH func136 J J J J<|aa<|ae J<|O<|ar<|aa<|Y J<|aP b<|aB J J (v_)<|aV 4 (.bool true) J<|ab J J (df J)<|O<|aT J<|az<|ai<|cQ b<|lX λs hs hi=> ?_
 subst hs
 exact aa<|Y J<|aS J<|ao J<|ax J J<|ae J<|O<|av<|aF.ay (fD b s _ J hi)<|cI J J
theorem aa2:Fn prog 269 #[.pointer (some ⟨b,0,none⟩)] (pr b p::L) (λv L'=>v=.int .i64 p.next/\L'=pr b p::L):=by
 refine aH func269 J J J J<|aa<|ae J<|O<|ar<|aa<|Y J<|aP b<|aB J J (v_)<|aV 4 (.bool true) J<|ab J J (df J)<|O<|aT J<|az<|ai<|cQ b<|lX λs hs hi=> ?_
 subst hs
 exact aa<|Y J<|aS J<|ao J<|ax J J<|ae J<|O<|av<|aF.ay (fD b s _ J hi)<|cI J J
theorem YX:Fn prog 93 #[.pointer (some ⟨b,0,none⟩)] (pr b p::L) (λv L'=>v=nj p.bj/\L'=pr b p::L):=by
 refine aH func93 J J J J<|aa<|bB J J λb2=>O<|ar<|aa<|Y J<|aP b<|aB J J (v_)<|aV 4 (.bool true) J<|ab J J (df J)<|O<|aT J<|az<|ai<|cQ b<|lX λs hs hi=> ?_
 subst hs
 exact aa<|Y J<|aS J<|ao J<|bD J J<|aE J J<|O<|av<|aF.ay (fD b s _ J hi)<|eK (.inl J) J (bf.agg J J) bu.g (⟨J,J⟩)
theorem Hu {c:Nat} (e:dZ) (hk:bR L (aI .i64) A c e.order.cut) (ho:fC e.order):Fn prog 366 #[.agg (List.toArray (hO e (A,c)))] L (λr L'=>∃ p,r=.agg (List.toArray (hO e p))/\L'=aN (aI .i64) 3 p.1 p.2 e.order.cut::L):=by
 refine aH func366 J J J J<|aa<|bS J J J λb1=>bB J J λb2=>O<|aa<|ao J<|ao J<|ax J J<|aJ J J (gz hk.tail.tail (by have:=ho.2.2.2; omega)) ?_
 rintro _ _ ⟨A6,c6,rfl,rfl⟩
 exact ao J<|ao J<|aE J J<|O<|aa<|bD J J<|aE J J<|O<|av<|eK (.inl J) J (bf.agg J J) bu.g (⟨(A6,c6),J,J⟩)
theorem X3 (b:Int × Int) (L:List HP):Fn prog 167 #[nj b] L (λv L'=>v=.bool (decide (wL b))/\L'=L):=by
 refine aH func167 J J J J<|aa<|bS J J J λb1=>ae J<|O<|aa<|ao J<|ax J J<|ab J J (eV J J)<|Y J<|dl 6 J (λh6=> ?_) (λh6=> ?_)
 ·refine aj J<|ao J<|aj J<|ax J J<|aj J<|ab J J (sX J J)<|aA J<|Y J<|dl 11 J (λgJ=> ?_) (λgJ=> ?_)
  ·refine aj J<|ao J<|aj J<|ax J J<|aj J<|ab J J (eV J J)<|aA J<|Y J<|dl 16 J (λeI=> ?_) (λeI=> ?_)
   ·exact aj J<|ao J<|aj J<|ax J J<|aj J<|ab J J (bU J J)<|aA J<|ae J<|O<|av<|aZ J J al (⟨bi Value.bool (gX.2 ⟨λh=>⟨h6,gJ,eI,h⟩,λh:wL b=>h.2.2.2⟩),J⟩)
   exact ah J<|ah J<|ah J<|aA J<|ae J<|O<|av<|aZ J J al (⟨bi Value.bool (cJ (λh:wL b=>eI h.2.2.1)).symm,J⟩)
  exact ah J<|ah J<|ah J<|aA J<|Y J<|ah J<|ah J<|ah J<|aA J<|ae J<|O<|av<|aZ J J al (⟨bi Value.bool (cJ (λh:wL b=>gJ h.2.1)).symm,J⟩)
 exact ah J<|ah J<|ah J<|aA J<|Y J<|ah J<|ah J<|ah J<|aA J<|Y J<|ah J<|ah J<|ah J<|aA J<|ae J<|O<|av<|aZ J J al (⟨bi Value.bool (cJ (λh:wL b=>h6 h.1)).symm,J⟩)
theorem Hm (a b:Int × Int) (L:List HP):Fn prog 169 #[nj a,nj b] L (λv L'=>v=nj (i_ a b)/\L'=L):=by
 refine aH func169 J J J J<|aa<|bS J J J λb2=>bS J J J λb3=>bB J J λb4=>O<|ar<|aa<|bD J J<|bD J J<|aB J J (tI a b _)<|ab J J (bU J J)<|O<|bz J (λh8=> ?_) (λh8=> ?_)
 ·exact aa<|bD J J<|aE J J<|O<|av<|aU<|eK (.inl J) J (bf.agg J J) bu.g (⟨by rw [i_,if_pos h8],J⟩)
 exact az<|ai<|aa<|bD J J<|aE J J<|O<|av<|eK (.inl J) J (bf.agg J J) bu.g (⟨by rw [i_,if_neg h8],J⟩)
open Go Go.Proofs Go.Proofs.Tryz
variable{ag:Bool}{bx:Nat}
theorem aa3 {β:Type} {R:bZ β} {m:List (Int × β)} {τ:Type} {l:Nat} {C:τ->HP} {step:τ->Int->τ->Prop} {stop:τ->Bool} {ek:τ->Nat} {s0:τ} {Lx:List HP} (h0:stop s0=false) (n6:ek s0=0) (ip:∀ s x s',step s x s'->ek s'=ek s+1) (hy:Ak prog l C (λk:Int=>[.int .i64 k]) (λk=>bP .i64 k) step stop ek m.length):
  Fn prog 451 #[.func (.yield l) #[] #[],.pointer (some ⟨bx,0,none⟩)] (fP l (C s0)::cells bx [.map (some b)] 280::cy eL R ag b m::Lx)
   (λv L'=>∃ xs s',(stop s'=false->xs.Perm (m.map (·.1)))/\gH step stop s0 xs s'/\L'=fP l (C s')::cells bx [.map (some b)] 280::cy eL R ag b m::Lx):=by
 refine aH func451 J J J J<|aa<|ax J J<|Aa J J λit=>O<|aX<|cY (σ:=List (Int × β) × τ) [0,5] (λg=>gH step stop s0 (g.1.map (·.1)) g.2/\stop g.2=false/\ek g.2=g.1.length) (λg kv=>kv) (λg=>fP l (C g.2)::na eL R ag b it m g.1::cells bx [.map (some b)] 280::Lx) (λg=>m.length - g.1.length) (([],s0)) J (⟨.nil _,h0,n6⟩) (al) (dc J) ?_
 rintro ⟨done,s⟩ ⟨hr,hs,hc⟩
 dsimp only at hr hs hc ⊢
 refine aa<|Ai J J (λhp=> ?_) (λq1 xo hq mK cL=> ?_)
 ·exact ab J J (aO J J)<|aV 7 (.bool false) J<|O<|ar<|aT J<|cw<|aY<|aY<|cu<|aF.ay (tc it)<|lj (.inr J) J bu.g (⟨_,s,λ_=>hp.map _,hr,J⟩)
 refine ab J J (aO J J)<|aV 7 (.bool true) J<|O<|ar<|cg J<|az<|ai<|aX<|aa<|CF J J λJH xt=>ab J J (aO J J)<|ae J<|O<|aa<|Y J<|Y J<|aP l<|yj J J J (hy s q1.1 _ hs xt (by omega)) ?_
 rintro _ _ ⟨s2,cK,rfl,rfl⟩
 refine ab J J (ff J)<|O<|gF J (λka=> ?_) (λka=> ?_)
 ·have eF:stop s2=true:=by simpa using ka
  exact av<|db<|aU<|db<|aF.ay (tc it)<|lj (.inl J) J bu.g (⟨_,s2,λh=>(by rw [eF] at h; cases h),hr.snoc h0 hs cK,J⟩)
 have eF:stop s2=false:=by simpa using ka
 refine az<|bA<|ai ?_
 exact ⟨(done++[q1],s2),⟨by rw [kp]; exact hr.snoc h0 hs cK,eF,by rw [ip _ _ _ cK,hc]; simp⟩,by simp only [eQ,dO,ej]; omega,bO rfl⟩
theorem acq {β:Type} {R:bZ β} {m:List (Int × β)}:oA prog (.func (.func 451) #[] #[.pointer (some ⟨bx,0,none⟩)]) (λk:Int=>[.int .i64 k]) (λk=>bP .i64 k) m.length [cells bx [.map (some b)] 280,cy eL R ag b m] (λs ks=>s=false->ks.Perm (m.map (·.1))):=
 ⟨_,[],[.pointer (some ⟨bx,0,none⟩)],rfl,inferInstance,λτ l C step stop ek s0 Lx h0 hc ip hy=>(aa3 h0 hc ip hy).rM λv L' ⟨xs,s',a1,a2,a3⟩=>⟨xs,s',a1,a2,a3⟩⟩
theorem acr:Fn prog 399 #[.map (some b)] L (λv L'=>∃ bx,v=.func (.func 451) #[] #[.pointer (some ⟨bx,0,none⟩)]/\L'=cells bx [.map (some b)] 280::L):=by
 exact aH func399 J J J J<|aa<|bS J J J λb1=>ae J<|O<|aa<|ab J J (gy J J)<|ae J<|O<|av<|aZ J J al (⟨b1,J,J⟩)
open Go Go.Proofs Go.Proofs.Tryz
instance:yU dz (Option Addr × Nat) 8 tT (λv p=>[sl (aI .i64) p.1 p.2 v.en.order.cut]) pU:=⟨_,_,rfl⟩
def Ay (V:List dj):List Int:=V.map λv=>v.slot
variable{i:Nat}{v:dj}
theorem acs {V:List dj} (h:V[i]? =some v) (slot:Int):ow (V.take (i+1)) slot=ow (V.take i) slot++if slot<=v.slot then [v] else []:=by
 unfold ow
 rw [ll h,nC]
 by_cases hs:slot<=v.slot <;> simp [hs]
structure AbG where
 i:Nat
 A:Option Addr
 c:Nat
theorem ZG (slot:Int):Fn prog 340 #[.pointer (some ⟨b,0,none⟩),.int .i64 slot] (ac b s::L) (λv L'=>∃ A c,v=.slice A (ow s.V slot).length c/\L'=aN dz 323 A c (ow s.V slot)::ac b s::L):=by
 refine aH func340 J J J J<|aa<|ae J<|O<|aa<|ae J<|O<|ar<|vi λbt hi=> ?_
 have eP:=hi.len
 refine aa<|Y J<|aS J<|ao J<|ax J J<|aJ J J (acr) ?_
 rintro _ _ ⟨bx,rfl,rfl⟩
 refine bX (show am _ (cells bx [.map (some bt)] 280::cy eL dz true bt (ji s.V)::cells b [.int .i64 s.node,.int .i64 s.prom.1,.int .i64 s.prom.2,.map (some bt)] 282::L) from al)<|aJ J J (KY (Lf:=[cells bx [.map (some bt)] 280,cy eL dz true bt (ji s.V)]) (Lr:=cells b [.int .i64 s.node,.int .i64 s.prom.1,.int .i64 s.prom.2,.map (some bt)] 282::L) (acq (R:=dz) (ag:=true) (b:=bt) (bx:=bx) (m:=ji s.V)) (by simp; omega)) ?_
 rintro _ _ ⟨lF,kV,ks,rfl,tW,rfl⟩
 rw [show oT ks=Ay s.V from Nb (by have:=tW rfl; rwa [sE] at this) (oh.2 hi.inc)]
 simp only [dL,dm]
 refine bF<|ab J J (bY J)<|br 14 (v':=.int .i64 (s.V.length:Int)) J (by simp [Ay])<|Y J<|bX (show am _ (aN dz 323 none 0 (ow (s.V.take 0) slot)::_) from du dz 323 none _)<|O<|aX<|cY (σ:=AbG) [0,1,13,14] (λg=>g.i<=s.V.length) (λg kv=>(5,.slice g.A (ow (s.V.take g.i) slot).length g.c)::(15,.int .i64 (g.i:Int))::kv) (λg=>aN dz 323 g.A g.c (ow (s.V.take g.i) slot)::sl (aI .i64) lF kV (Ay s.V)::cells b [.int .i64 s.node,.int .i64 s.prom.1,.int .i64 s.prom.2,.map (some bt)] 282::cy eL dz true bt (ji s.V)::L) (λg=>s.V.length - g.i) (⟨0,none,0⟩) J (dF _) (al) (dc J) ?_
 rintro ⟨i,X,cx⟩ eG
 dsimp only at eG ⊢
 refine aa<|ab J J (bU J J)<|O<|ar<|bz J (λeI=> ?_) (λeI=> ?_)
 ·refine az<|ai<|ar<|aX ?_
  obtain ⟨v,hv⟩:∃ v,s.V[i]? =some v:=⟨_,cj (by omega)⟩
  have Xd:=eA hv
  have ul:=(hi.ok v Xd).2
  have hu:(Ay s.V)[i]? =some v.slot:=by unfold Ay; rw [e_,hv]; rfl
  have jS:=aeT hi.inc Xd
  have gW:=acs hv slot
  have ze:(ow (s.V.take i) slot).length<=(s.V.take i).length:=kG _ _
  have mn:(s.V.take i).length<=s.V.length:=by rw [gq]; omega
  refine gr (bJ (A:=lF) (c:=kV) (R:=aI .i64)) hu λbq oq eq=> ?_
  subst eq
  refine aa<|ab J J (iX (R:=aI .i64) (xs:=Ay s.V) J J J hu)<|ab J J (gi (R:=aI .i64) (c:=kV) (xs:=Ay s.V) (q:=0) J bJ hu J)<|ae J<|O<|aa<|Y J<|Y J<|ab J J (eV J J)<|O<|bz J (λkW=> ?_) (λkW=> ?_)
  ·rw [if_pos kW] at gW
   refine aQ<|Y J<|Y J<|aS J<|ao J<|ax J J<|Y J ?_
   refine KX (R:=dz) (k:=v.slot) J J J ul.1 (λhn=>absurd hn (by rw [jS]; simp)) (λu p tn mQ=> ?_)
   rw [jS] at tn
   obtain rfl:=ez tn
   simp only [dL,dm]
   refine aJ J J (QO v bJ ul.2.2.2) ?_
   rintro _ _ ⟨q,rfl,rfl⟩
   refine bF<|ef J J J J J J λb30=>eh (k:=1) dz [v] (jZ (fI q (lk slk) ul)) J (by decide)<|bF<|aV 30 (.slice (some ⟨b30,0,none⟩) [v].length 1) J<|fi J J J J J slk (by simp only [dO,ej]; omega) λvz vA=> ?_
   rw [<- gW]
   refine ae J<|O<|bA<|ai<|aQ<|ab J J (bE J J (by omega))<|cz 32 J<|Y J<|bX (show am _ (aN dz 323 none 0 (ow (s.V.take 0) slot)::_) from du dz 323 none _)<|O<|ai ?_
   exact ⟨⟨i+1,vz,vA⟩,(by simp only; omega),by simp only; omega,bO rfl⟩
  rw [if_neg kW,tE] at gW
  rw [<- gW]
  refine az<|bA<|ai<|aQ<|ab J J (bE J J (by omega))<|cz 32 J<|Y J<|bX (show am _ (aN dz 323 none 0 (ow (s.V.take 0) slot)::_) from du dz 323 none _)<|O<|ai ?_
  exact ⟨⟨i+1,X,cx⟩,(by simp only; omega),by simp only; omega,bO rfl⟩
 refine cw<|aY<|aY<|cu<|ai<|aa<|Y J<|ae J<|O<|av ?_
 rw [gQ (show s.V.length<=i by omega)]
 exact aF.ay (ge b s hi)<|aF.ay (show am _ (aN dz 323 X cx (ow s.V slot)::ac b s::L) from al)<|aZ J J al (⟨X,cx,J,J⟩)
open Go Go.Proofs
theorem Jg {op:Op} {v:Value} [hf:jz L b (ac b s) L0] (h:∀ bt,Yl P E (cells b [.int .i64 s.node,.int .i64 s.prom.1,.int .i64 s.prom.2,.map (some bt)] 282::cy eL dz true bt (ji s.V)::L0) op ty v):Yl P E L op ty v:=λn D W a w dst pos af gd ha hs=>by
 obtain ⟨bt,_,fm⟩:=MV (hs.ay hf.g)
 exact h bt n D W a w dst pos af gd ha fm
open Go Go.Proofs Go.Proofs.Tryz
theorem Hn {B:Option Addr} {c d:Nat} {xs ys:List Int} (hk:bR L (aI .i64) A c xs) (gV:bR L (aI .i64) B d ys):Fn prog 339 #[.slice A xs.length c,.slice B ys.length d] L (λv L'=>v=.bool (decide (xs=ys))/\L'=L):=by
 refine aH func339 J J J J<|hk.lens λhl=> ?_
 simp only [cE] at hl
 refine aa<|ae J<|O<|ar<|aa<|Y J<|ab J J (bY J)<|Y J<|ab J J (bY J)<|ab J J (dB J J)<|O<|bz J (λf0=> ?_) (λf0=> ?_)
 ·exact aa<|ae J<|O<|av<|aU<|aZ J J al (⟨by rw [cJ]; rintro rfl; exact f0 rfl,J⟩)
 refine az<|ai<|ar<|aa<|Y J<|ab J J (bY J)<|Y J<|O<|aX<|cY (σ:=Nat) [0,1,12] (λi=>i<=xs.length/\xs.take i=ys.take i) (λi kv=>(13,.int .i64 (i:Int))::kv) (λi=>L) (λi=>xs.length - i) (0) J (⟨dF _,J⟩) (al) (dc J) λi hi=>aa<|ab J J (bU J J)<|O<|ar<|bz J (λgK=> ?_) (λgK=> ?_)
 ·refine az<|ai<|ar<|aX<|aa<|Y J<|ae J<|O ?_
  have hx:=cj (show i < xs.length by omega)
  have hy:=cj (show i < ys.length by omega)
  refine gr hk hx λb1 o1 e1=>gr gV hy λb2 o2 e2=> ?_
  subst e1
  subst e2
  refine bW _ [] [0,2,4,6,8,10,12,14,16] (by kernel_rfl) (am.refl _)<|aq J J<|aq J J<|ak J J (iX (R:=aI .i64) (xs:=xs) J J J hx)<|ak J J (gi (q:=0) J hk hx J)<|aq J J<|aq J J<|ak J J (iX (R:=aI .i64) (xs:=ys) J J J hy)<|ak J J (gi (q:=0) J gV hy J)<|ak J J (dB J J)<|aR<|bz J (λmN=> ?_) (λmN=> ?_)
  ·exact aa<|ae J<|O<|av<|db<|aU<|aU<|db<|aU<|aZ J J al (⟨by rw [cJ]; rintro rfl; exact mN rfl,J⟩)
  refine az<|bA<|ai<|aQ<|ab J J (bE J J (by omega))<|br 25 (v':=.int .i64 ((i+1:Nat):Int)) J (by simp)<|Y J<|O<|ai ?_
  exact ⟨i+1,⟨by omega,aeS hi.2 hx hy (eX.1 mN)⟩,by omega,bO rfl⟩
 exact cw<|aY<|aY<|cu<|ai<|aa<|ae J<|O<|av<|aZ J J al (⟨by rw [dV (agt hi.2 (by omega) (by omega))],J⟩)
open Go Go.Proofs Go.Proofs.Tryz
noncomputable def dU (s:gm) (m:bQ):Value:=.agg #[.string (eY s m),.bool (decide (fZ s m)),.bool (decide (fZ s m/\fA s m))]
set_option maxRecDepth 20000 in
theorem aa4 (m:bQ) (p:gg) (hx:gf m) (hk:fN L m p) (hc:iP m<=140737488355328) (hm:¬ fZ s m):Fn prog 233 #[.pointer (some ⟨b,0,none⟩),.agg (List.toArray (dq m p))] (ac b s::L) (λv L'=>v=dU s m/\L'=ac b s::L):=by
 refine aH func233 J J J J<|aa<|bS J J J λb3=>bB J J λb4=>O<|aa<|bD J J<|aJ J J (uL m p hx hk.tail.tail.tail hc) ?_
 rintro _ _ ⟨rm,rn,rfl,rfl⟩
 refine Y J<|ab J J (aO J J)<|ab J J (aO J J)<|ae J<|ae J<|O<|ar<|bW _ [] [0,3,4,6,8,10,12,14,16,18,20,22,24,26,28,30,32,34,36,38,40,42,44,46,48,50] (by kernel_rfl) (am.refl _)<|aq J J<|an J<|aP b<|aB J J (Er)<|aV 20 (.bool true) J<|au<|ak J J (df J)<|aq J J<|aC J J (cU J)<|aC J J (dB J J)<|ak J J (dG J J)<|aq J J<|gE 26 J (λno=> ?_) (λno=> ?_)
 ·refine aD J J<|aD J J<|aD J J<|aD J J<|aD J J<|aD J J<|aD J J<|ak J J (d9 J J)<|aq J J<|aD J J<|aD J J<|aD J J<|aD J J<|dS J J J J<|dS J J J J<|dS J J J J<|aD J J<|ak J J (d9 J J)<|aR<|cg J<|aa<|ab J J (bI J J)<|aE J J<|O<|av<|aU ?_
  have hj:dU s m=.agg #[.string ⟨#[]⟩,.bool false,.bool false]:=by unfold dU eY; rw [if_neg (λh=>hm h.1),cJ hm,cJ (λh=>hm h.1)]
  rw [hj]
  exact eK (.inl rfl) rfl (bf.agg rfl rfl) bu.g (⟨rfl,rfl⟩)
 refine aC J J (dp J)<|aC J J (dY J J)<|aC J J (cU J)<|aC J J (gc J)<|aC J J (dp J)<|aC J J (Jg (b:=b) λbt=>dY J J)<|aC J J (dB J J)<|ak J J (dG J J)<|aq J J<|gE 35 J (λBW=> ?_) (λBW=> ?_)
 ·refine aD J J<|aD J J<|aD J J<|aD J J<|dS J J J J<|dS J J J J<|dS J J J J<|aD J J<|ak J J (d9 J J)<|aR<|cg J<|aa<|ab J J (bI J J)<|aE J J<|O<|av<|aU ?_
  have hj:dU s m=.agg #[.string ⟨#[]⟩,.bool false,.bool false]:=by unfold dU eY; rw [if_neg (λh=>hm h.1),cJ hm,cJ (λh=>hm h.1)]
  rw [hj]
  exact eK (.inl rfl) rfl (bf.agg rfl rfl) bu.g (⟨rfl,rfl⟩)
 refine aC J J (dp J)<|aC J J (dY J J)<|aC J J (dB J J)<|pJ 38 J (by unfold fZ at hm; omega)<|aC J J (cU J)<|aC J J (dp J)<|aC J J (dY J J)<|aC J J (dB J J)<|pJ 42 J (by unfold fZ at hm; omega)<|aC J J (d9 J J)<|ak J J (dG J J)<|aR<|cg J<|aa<|ab J J (bI J J)<|aE J J<|O<|av<|aU ?_
 have hj:dU s m=.agg #[.string ⟨#[]⟩,.bool false,.bool false]:=by unfold dU eY; rw [if_neg (λh=>hm h.1),cJ hm,cJ (λh=>hm h.1)]
 rw [hj]
 exact eK (.inl rfl) rfl (bf.agg rfl rfl) bu.g (⟨rfl,rfl⟩)
set_option maxRecDepth 20000 in
theorem ZH (m:bQ) (p:gg) (hx:gf m) (hk:fN L m p) (hc:iP m<=140737488355328) (hm:fZ s m) (h1:m.kind=1):Fn prog 233 #[.pointer (some ⟨b,0,none⟩),.agg (List.toArray (dq m p))] (ac b s::L) (λv L'=>v=dU s m/\L'=ac b s::L):=by
 refine aH func233 J J J J<|aa<|bS J J J λb3=>bB J J λb4=>O<|aa<|bD J J<|aJ J J (uL m p hx hk.tail.tail.tail hc) ?_
 rintro _ _ ⟨rm,rn,rfl,rfl⟩
 refine Y J<|ab J J (aO J J)<|ab J J (aO J J)<|ae J<|ae J<|O<|ar<|bW _ [] [0,3,4,6,8,10,12,14,16,18,20,22,24,26,28,30,32,34,36,38,40,42,44,46,48,50] (by kernel_rfl) (am.refl _)<|aq J J<|an J<|aP b<|aB J J (Er)<|aV 20 (.bool true) J<|au<|ak J J (df J)<|aq J J<|aC J J (cU J)<|aC J J (dB J J)<|lZ 24 J (by have:=hm.1; omega)<|ak J J (dG J J)<|aq J J<|aC J J (dp J)<|aC J J (dY J J)<|aC J J (cU J)<|aC J J (gc J)<|aC J J (dp J)<|aC J J (Jg (b:=b) λbt=>dY J J)<|aC J J (dB J J)<|lZ 33 J (by have:=hm.2.1; omega)<|ak J J (dG J J)<|aq J J<|aC J J (dp J)<|aC J J (dY J J)<|aC J J (dB J J)<|lZ 38 J (by omega)<|aC J J (cU J)<|aD J J<|aD J J<|aD J J<|aC J J (dG J J)<|ak J J (dG J J)<|aR<|aT J<|az<|ai ?_
 rcases hg:cq (ji s.V) m.slot with _ | u
 ·refine cQ b<|vi λbt hi=>iQ (by kernel_rfl)<|fq 6 10 (by decide) ?_ ?_
  ·refine dN _ [] [0,2,4,6,8,10,13,14,16,18,21,23,24] (by kernel_rfl) (am.refl _)<|aq J J<|aL J J<|aw J J<|aG J J J<|aw J J<|aG J J J<|an J ?_
   refine o4 (R:=dz) (k:=m.slot) J J J hx.slot (λhn=> ?_) (λu p hu mQ=>absurd hu (by rw [hg]; simp))
   refine au<|aq J J<|ak J J (aO J J)<|ak J J (aO J J)<|an J<|bB J J λb7=>au<|an J<|aE J J<|au<|ak J J (bT J)<|aR<|ai<|aa<|ao J<|ax J J<|ab J J (ce J J)<|dx 58 J (by omega)<|ae J<|O<|ar<|bW _ [] [0,2,4,6,8,10,13,14,16,18,20,22,24,26,28,30,32,34,36,38,40,42,44] (by kernel_rfl) (am.refl _)<|aw J J<|cf J J J<|aq J J<|aL J J<|aw J J<|cf J J J<|an J<|aB J J (tI m.bj s.prom _)<|au<|ak J J (bU J J)<|aq J J<|gE 67 J (λnu=> ?_) (λnu=> ?_)
   ·refine aD J J<|aD J J<|dS J J J J<|dS J J J J<|aD J J<|aD J J<|dS J J J J<|dS J J J J<|dS J J J J<|dS J J J J<|dS J J J J<|dS J J J J<|aD J J<|ak J J (d9 J J)<|aR<|cg J<|aa<|ab J J (bI J J)<|aE J J<|O<|av<|aU ?_
    have hn:fA s m:=.inl (by omega)
    have hj:dU s m=.agg #[.string ⟨#[]⟩,.bool true,.bool true]:=by unfold dU eY; rw [if_neg (λh=>h.2.1 hn),dV hm,dV (And.intro hm hn)]
    rw [hj]
    exact aF.ay (ge b s hi)<|eK (.inl J) J (bf.agg J J) bu.g (⟨J,J⟩)
   refine aC J J (cU J)<|aC J J (cU J)<|aD J J<|aD J J<|aC J J (dG J J)<|aC J J (cU J)<|aD J J<|aD J J<|aD J J<|aD J J<|aD J J<|aD J J<|aC J J (dG J J)<|ak J J (dG J J)<|aR<|aT J<|az<|ai ?_
   have hn:¬ fA s m:=by unfold fA; omega
   refine bW _ [] [0,2,4,6,8,10,12,14] (by kernel_rfl) (am.refl _)<|aq J J<|aL J J<|aw J J<|cf J J J<|aw J J<|cf J J J<|ak J J (ot J J)<|er 89 (v':=.bool (decide (s.prom≠m.bj))) J (by by_cases h:s.prom=m.bj <;> simp [h])<|ak J J (bT J)<|aR<|ar<|aa<|Y J<|O<|aT J<|az<|ai<|ar<|aa<|Y J<|ab J J (iF J)<|O<|bz J (λlC=> ?_) (λlC=> ?_)
   ·refine aQ<|ae J<|O<|ai<|aa<|Y J<|aV 149 (.slice none ([]:List Int).length 0) J<|ab J J (i9 (A:=none) (c:=0) (xs:=[]) J .nil)<|ab J J (bI J J)<|aE J J<|O<|av ?_
    have fg:¬ fE s m:=by unfold fE; rintro (h | h); exact lC h; omega
    have hj:dU s m=.agg #[.string (strOfNums []),.bool true,.bool false]:=by unfold dU eY; rw [if_neg (λh=>fg h.2.2),dV hm,cJ (λh=>hn h.2)]; rfl
    rw [hj]
    exact aF.ay (ge b s hi)<|eK (.inl J) J (bf.agg J J) bu.g (⟨J,J⟩)
   refine az<|ai<|aa<|Y J<|ab J J (i9 J bJ)<|ab J J (bI J J)<|aE J J<|O<|av ?_
   have fg:fE s m:=.inl (eX.1 lC)
   have hj:dU s m=.agg #[.string (strOfNums (f' (fT m ([],false)))),.bool true,.bool false]:=by unfold dU eY; rw [if_pos ⟨hm,hn,fg⟩,dV hm,cJ (λh=>hn h.2)]
   rw [hj]
   exact aF.ay (ge b s hi)<|eK (.inl J) J (bf.agg J J) bu.g (⟨J,J⟩)
  refine dN _ [] [0,2,4,6,8,10,21,13,14,16,18,23,24] (by kernel_rfl) (am.refl _)<|aq J J<|aL J J<|aw J J<|aG J J J<|aw J J<|aG J J J<|an J<|bB J J λb7=>au<|an J ?_
  refine o4 (R:=dz) (k:=m.slot) J J J hx.slot (λhn=> ?_) (λu p hu mQ=>absurd hu (by rw [hg]; simp))
  refine au<|aq J J<|ak J J (aO J J)<|ak J J (aO J J)<|an J<|aE J J<|au<|ak J J (bT J)<|aR<|ai<|aa<|ao J<|ax J J<|ab J J (ce J J)<|dx 58 J (by omega)<|ae J<|O<|ar<|bW _ [] [0,2,4,6,8,10,13,14,16,18,20,22,24,26,28,30,32,34,36,38,40,42,44] (by kernel_rfl) (am.refl _)<|aw J J<|cf J J J<|aq J J<|aL J J<|aw J J<|cf J J J<|an J<|aB J J (tI m.bj s.prom _)<|au<|ak J J (bU J J)<|aq J J<|gE 67 J (λnu=> ?_) (λnu=> ?_)
  ·refine aD J J<|aD J J<|dS J J J J<|dS J J J J<|aD J J<|aD J J<|dS J J J J<|dS J J J J<|dS J J J J<|dS J J J J<|dS J J J J<|dS J J J J<|aD J J<|ak J J (d9 J J)<|aR<|cg J<|aa<|ab J J (bI J J)<|aE J J<|O<|av<|aU ?_
   have hn:fA s m:=.inl (by omega)
   have hj:dU s m=.agg #[.string ⟨#[]⟩,.bool true,.bool true]:=by unfold dU eY; rw [if_neg (λh=>h.2.1 hn),dV hm,dV (And.intro hm hn)]
   rw [hj]
   exact aF.ay (ge b s hi)<|eK (.inl J) J (bf.agg J J) bu.g (⟨J,J⟩)
  refine aC J J (cU J)<|aC J J (cU J)<|aD J J<|aD J J<|aC J J (dG J J)<|aC J J (cU J)<|aD J J<|aD J J<|aD J J<|aD J J<|aD J J<|aD J J<|aC J J (dG J J)<|ak J J (dG J J)<|aR<|aT J<|az<|ai ?_
  have hn:¬ fA s m:=by unfold fA; omega
  refine bW _ [] [0,2,4,6,8,10,12,14] (by kernel_rfl) (am.refl _)<|aq J J<|aL J J<|aw J J<|cf J J J<|aw J J<|cf J J J<|ak J J (ot J J)<|er 89 (v':=.bool (decide (s.prom≠m.bj))) J (by by_cases h:s.prom=m.bj <;> simp [h])<|ak J J (bT J)<|aR<|ar<|aa<|Y J<|O<|aT J<|az<|ai<|ar<|aa<|Y J<|ab J J (iF J)<|O<|bz J (λlC=> ?_) (λlC=> ?_)
  ·refine aQ<|ae J<|O<|ai<|aa<|Y J<|aV 149 (.slice none ([]:List Int).length 0) J<|ab J J (i9 (A:=none) (c:=0) (xs:=[]) J .nil)<|ab J J (bI J J)<|aE J J<|O<|av ?_
   have fg:¬ fE s m:=by unfold fE; rintro (h | h); exact lC h; omega
   have hj:dU s m=.agg #[.string (strOfNums []),.bool true,.bool false]:=by unfold dU eY; rw [if_neg (λh=>fg h.2.2),dV hm,cJ (λh=>hn h.2)]; rfl
   rw [hj]
   exact aF.ay (ge b s hi)<|eK (.inl J) J (bf.agg J J) bu.g (⟨J,J⟩)
  refine az<|ai<|aa<|Y J<|ab J J (i9 J bJ)<|ab J J (bI J J)<|aE J J<|O<|av ?_
  have fg:fE s m:=.inl (eX.1 lC)
  have hj:dU s m=.agg #[.string (strOfNums (f' (fT m ([],false)))),.bool true,.bool false]:=by unfold dU eY; rw [if_pos ⟨hm,hn,fg⟩,dV hm,cJ (λh=>hn h.2)]
  rw [hj]
  exact aF.ay (ge b s hi)<|eK (.inl J) J (bf.agg J J) bu.g (⟨J,J⟩)
 refine cQ b<|vi λbt hi=>iQ (by kernel_rfl)<|fq 6 10 (by decide) ?_ ?_
 ·refine dN _ [] [0,2,4,6,8,10,13,14,16,18,21,23,24] (by kernel_rfl) (am.refl _)<|aq J J<|aL J J<|aw J J<|aG J J J<|aw J J<|aG J J J<|an J ?_
  refine o4 (R:=dz) (k:=m.slot) J J J hx.slot (λhn=>absurd hn (by rw [hg]; simp)) (λu2 p2 hu mQ=> ?_)
  rw [hg] at hu
  obtain rfl:=ez hu
  simp only [dL,dm]
  refine au<|aq J J<|ak J J (aO J J)<|ak J J (aO J J)<|an J<|bB J J λb7=>au<|an J<|aE J J<|au<|ak J J (bT J)<|aR<|ai<|aa<|ao J<|ax J J<|ab J J (ce J J)<|dx 58 J (by omega)<|ae J<|O<|ar<|bW _ [] [0,2,4,6,8,10,13,14,16,18,20,22,24,26,28,30,32,34,36,38,40,42,44] (by kernel_rfl) (am.refl _)<|aw J J<|cf J J J<|aq J J<|aL J J<|aw J J<|cf J J J<|an J<|aB J J (tI m.bj s.prom _)<|au<|ak J J (bU J J)<|aq J J<|gE 67 J (λnu=> ?_) (λnu=> ?_)
  ·refine aD J J<|aD J J<|dS J J J J<|dS J J J J<|aD J J<|aD J J<|dS J J J J<|dS J J J J<|dS J J J J<|dS J J J J<|dS J J J J<|dS J J J J<|aD J J<|ak J J (d9 J J)<|aR<|cg J<|aa<|ab J J (bI J J)<|aE J J<|O<|av<|aU ?_
   have hn:fA s m:=.inl (by omega)
   have hj:dU s m=.agg #[.string ⟨#[]⟩,.bool true,.bool true]:=by unfold dU eY; rw [if_neg (λh=>h.2.1 hn),dV hm,dV (And.intro hm hn)]
   rw [hj]
   exact aF.ay (ge b s hi)<|eK (.inl J) J (bf.agg J J) bu.g (⟨J,J⟩)
  refine aC J J (cU J)<|aC J J (cU J)<|aD J J<|aD J J<|aC J J (dG J J)<|aC J J (cU J)<|aD J J<|aD J J<|aD J J<|aD J J<|aD J J<|aD J J<|aC J J (dG J J)<|ak J J (dG J J)<|aR<|aT J<|az<|ai ?_
  have hn:¬ fA s m:=by unfold fA; omega
  refine bW _ [] [0,2,4,6,8,10,12,14] (by kernel_rfl) (am.refl _)<|aq J J<|aL J J<|aw J J<|cf J J J<|aw J J<|cf J J J<|ak J J (ot J J)<|er 89 (v':=.bool (decide (s.prom≠m.bj))) J (by by_cases h:s.prom=m.bj <;> simp [h])<|ak J J (bT J)<|aR<|ar<|aa<|Y J<|O<|aT J<|az<|ai<|ar<|aa<|Y J<|ab J J (iF J)<|O<|bz J (λlC=> ?_) (λlC=> ?_)
  ·refine aQ<|ae J<|O<|ai<|aa<|Y J<|aV 149 (.slice none ([]:List Int).length 0) J<|ab J J (i9 (A:=none) (c:=0) (xs:=[]) J .nil)<|ab J J (bI J J)<|aE J J<|O<|av ?_
   have fg:¬ fE s m:=by unfold fE; rintro (h | h); exact lC h; omega
   have hj:dU s m=.agg #[.string (strOfNums []),.bool true,.bool false]:=by unfold dU eY; rw [if_neg (λh=>fg h.2.2),dV hm,cJ (λh=>hn h.2)]; rfl
   rw [hj]
   exact aF.ay (ge b s hi)<|eK (.inl J) J (bf.agg J J) bu.g (⟨J,J⟩)
  refine az<|ai<|aa<|Y J<|ab J J (i9 J bJ)<|ab J J (bI J J)<|aE J J<|O<|av ?_
  have fg:fE s m:=.inl (eX.1 lC)
  have hj:dU s m=.agg #[.string (strOfNums (f' (fT m ([],false)))),.bool true,.bool false]:=by unfold dU eY; rw [if_pos ⟨hm,hn,fg⟩,dV hm,cJ (λh=>hn h.2)]
  rw [hj]
  exact aF.ay (ge b s hi)<|eK (.inl J) J (bf.agg J J) bu.g (⟨J,J⟩)
 refine dN _ [] [0,2,4,6,8,10,21,13,14,16,18,23,24] (by kernel_rfl) (am.refl _)<|aq J J<|aL J J<|aw J J<|aG J J J<|aw J J<|aG J J J<|an J<|bB J J λb7=>au<|an J ?_
 refine o4 (R:=dz) (k:=m.slot) J J J hx.slot (λhn=>absurd hn (by rw [hg]; simp)) (λu2 p2 hu mQ=> ?_)
 rw [hg] at hu
 obtain rfl:=ez hu
 simp only [dL,dm]
 refine au<|aq J J<|ak J J (aO J J)<|ak J J (aO J J)<|an J<|aE J J<|au<|ak J J (bT J)<|aR<|ai<|aa<|ao J<|ax J J<|ab J J (ce J J)<|dx 58 J (by omega)<|ae J<|O<|ar<|bW _ [] [0,2,4,6,8,10,13,14,16,18,20,22,24,26,28,30,32,34,36,38,40,42,44] (by kernel_rfl) (am.refl _)<|aw J J<|cf J J J<|aq J J<|aL J J<|aw J J<|cf J J J<|an J<|aB J J (tI m.bj s.prom _)<|au<|ak J J (bU J J)<|aq J J<|gE 67 J (λnu=> ?_) (λnu=> ?_)
 ·refine aD J J<|aD J J<|dS J J J J<|dS J J J J<|aD J J<|aD J J<|dS J J J J<|dS J J J J<|dS J J J J<|dS J J J J<|dS J J J J<|dS J J J J<|aD J J<|ak J J (d9 J J)<|aR<|cg J<|aa<|ab J J (bI J J)<|aE J J<|O<|av<|aU ?_
  have hn:fA s m:=.inl (by omega)
  have hj:dU s m=.agg #[.string ⟨#[]⟩,.bool true,.bool true]:=by unfold dU eY; rw [if_neg (λh=>h.2.1 hn),dV hm,dV (And.intro hm hn)]
  rw [hj]
  exact aF.ay (ge b s hi)<|eK (.inl J) J (bf.agg J J) bu.g (⟨J,J⟩)
 refine aC J J (cU J)<|aC J J (cU J)<|aD J J<|aD J J<|aC J J (dG J J)<|aC J J (cU J)<|aD J J<|aD J J<|aD J J<|aD J J<|aD J J<|aD J J<|aC J J (dG J J)<|ak J J (dG J J)<|aR<|aT J<|az<|ai ?_
 have hn:¬ fA s m:=by unfold fA; omega
 refine bW _ [] [0,2,4,6,8,10,12,14] (by kernel_rfl) (am.refl _)<|aq J J<|aL J J<|aw J J<|cf J J J<|aw J J<|cf J J J<|ak J J (ot J J)<|er 89 (v':=.bool (decide (s.prom≠m.bj))) J (by by_cases h:s.prom=m.bj <;> simp [h])<|ak J J (bT J)<|aR<|ar<|aa<|Y J<|O<|aT J<|az<|ai<|ar<|aa<|Y J<|ab J J (iF J)<|O<|bz J (λlC=> ?_) (λlC=> ?_)
 ·refine aQ<|ae J<|O<|ai<|aa<|Y J<|aV 149 (.slice none ([]:List Int).length 0) J<|ab J J (i9 (A:=none) (c:=0) (xs:=[]) J .nil)<|ab J J (bI J J)<|aE J J<|O<|av ?_
  have fg:¬ fE s m:=by unfold fE; rintro (h | h); exact lC h; omega
  have hj:dU s m=.agg #[.string (strOfNums []),.bool true,.bool false]:=by unfold dU eY; rw [if_neg (λh=>fg h.2.2),dV hm,cJ (λh=>hn h.2)]; rfl
  rw [hj]
  exact aF.ay (ge b s hi)<|eK (.inl J) J (bf.agg J J) bu.g (⟨J,J⟩)
 refine az<|ai<|aa<|Y J<|ab J J (i9 J bJ)<|ab J J (bI J J)<|aE J J<|O<|av ?_
 have fg:fE s m:=.inl (eX.1 lC)
 have hj:dU s m=.agg #[.string (strOfNums (f' (fT m ([],false)))),.bool true,.bool false]:=by unfold dU eY; rw [if_pos ⟨hm,hn,fg⟩,dV hm,cJ (λh=>hn h.2)]
 rw [hj]
 exact aF.ay (ge b s hi)<|eK (.inl J) J (bf.agg J J) bu.g (⟨J,J⟩)
open Go Go.Proofs Go.Proofs.Tryz
set_option maxRecDepth 20000 in
theorem ZI (m:bQ) (p:gg) (hx:gf m) (hk:fN L m p) (hc:iP m<=140737488355328) (hm:fZ s m) (h3:m.kind=3) (hg:cq (ji s.V) m.slot=none):Fn prog 233 #[.pointer (some ⟨b,0,none⟩),.agg (List.toArray (dq m p))] (ac b s::L) (λv L'=>v=dU s m/\L'=ac b s::L):=by
 refine aH func233 J J J J<|aa<|bS J J J λb3=>bB J J λb4=>O<|aa<|bD J J<|aJ J J (uL m p hx hk.tail.tail.tail hc) ?_
 rintro _ _ ⟨rm,rn,rfl,rfl⟩
 refine Y J<|ab J J (aO J J)<|ab J J (aO J J)<|ae J<|ae J<|O<|ar<|bW _ [] [0,3,4,6,8,10,12,14,16,18,20,22,24,26,28,30,32,34,36,38,40,42,44,46,48,50] (by kernel_rfl) (am.refl _)<|aq J J<|an J<|aP b<|aB J J (Er)<|aV 20 (.bool true) J<|au<|ak J J (df J)<|aq J J<|aC J J (cU J)<|aC J J (dB J J)<|lZ 24 J (by have:=hm.1; omega)<|ak J J (dG J J)<|aq J J<|aC J J (dp J)<|aC J J (dY J J)<|aC J J (cU J)<|aC J J (gc J)<|aC J J (dp J)<|aC J J (Jg (b:=b) λbt=>dY J J)<|aC J J (dB J J)<|lZ 33 J (by have:=hm.2.1; omega)<|ak J J (dG J J)<|aq J J<|aC J J (dp J)<|aC J J (dY J J)<|aC J J (dB J J)<|pJ 38 J (by omega)<|aC J J (cU J)<|aC J J (dp J)<|aC J J (dY J J)<|aC J J (dB J J)<|lZ 42 J (by omega)<|aC J J (d9 J J)<|ak J J (dG J J)<|aR<|aT J<|az<|ai<|cQ b<|vi λbt hi=>iQ (by kernel_rfl)<|fq 6 10 (by decide) ?_ ?_
 ·refine dN _ [] [0,2,4,6,8,10,13,14,16,18,21,23,24] (by kernel_rfl) (am.refl _)<|aq J J<|aL J J<|aw J J<|aG J J J<|aw J J<|aG J J J<|an J ?_
  refine o4 (R:=dz) (k:=m.slot) J J J hx.slot (λhn=> ?_) (λu p hu mQ=>absurd hu (by rw [hg]; simp))
  refine au<|aq J J<|ak J J (aO J J)<|ak J J (aO J J)<|oH 55 (.bool false) J<|an J<|bB J J λb7=>au<|an J<|aE J J<|au<|ak J J (bT J)<|aR<|ai<|aa<|ao J<|ax J J<|ab J J (ce J J)<|fd 58 J h3<|ae J<|O<|ar<|bW _ [] [0,2,4,6,8,10,13,14,16,18,20,22,24,26,28,30,32,34,36,38,40,42,44] (by kernel_rfl) (am.refl _)<|aw J J<|cf J J J<|aq J J<|aL J J<|aw J J<|cf J J J<|an J<|aB J J (tI m.bj s.prom _)<|au<|ak J J (bU J J)<|aq J J<|gE 67 J (λnu=> ?_) (λnu=> ?_)
  ·refine aD J J<|aD J J<|dS J J J J<|dS J J J J<|aD J J<|aD J J<|dS J J J J<|dS J J J J<|dS J J J J<|dS J J J J<|dS J J J J<|dS J J J J<|aD J J<|ak J J (d9 J J)<|aR<|cg J<|aa<|ab J J (bI J J)<|aE J J<|O<|av<|aU ?_
   have hn:fA s m:=by unfold fA; rw [hg]; first | (left; omega) | (right; exact ⟨h3,rfl,by omega⟩)
   have hj:dU s m=.agg #[.string ⟨#[]⟩,.bool true,.bool true]:=by unfold dU eY; rw [if_neg (λh=>h.2.1 hn),dV hm,dV (And.intro hm hn)]
   rw [hj]
   exact aF.ay (ge b s hi)<|eK (.inl J) J (bf.agg J J) bu.g (⟨J,J⟩)
  refine aC J J (cU J)<|aC J J (cU J)<|aC J J (cU J)<|aC J J (j0 J)<|aC J J (d9 J J)<|aC J J (cU J)<|aC J J (cU J)<|aC J J (gc J)<|aC J J (dp J)<|aC J J (dY J J)<|aC J J (Cz J)<|er 78 (v':=.int .i64 (s.V.length:Int)) J (by simp)<|aC J J (eV J J)<|aC J J (d9 J J)<|ak J J (dG J J)<|aR<|bz J (λPC=> ?_) (λPC=> ?_)
  ·refine aa<|ab J J (bI J J)<|aE J J<|O<|av<|aU ?_
   have hn:fA s m:=by unfold fA; rw [hg]; first | (left; omega) | (right; exact ⟨h3,rfl,by omega⟩)
   have hj:dU s m=.agg #[.string ⟨#[]⟩,.bool true,.bool true]:=by unfold dU eY; rw [if_neg (λh=>h.2.1 hn),dV hm,dV (And.intro hm hn)]
   rw [hj]
   exact aF.ay (ge b s hi)<|eK (.inl J) J (bf.agg J J) bu.g (⟨J,J⟩)
  refine az<|ai ?_
  have hn:¬ fA s m:=by unfold fA; rintro (h | ⟨_,_,h⟩) <;> omega
  refine bW _ [] [0,2,4,6,8,10,12,14] (by kernel_rfl) (am.refl _)<|aq J J<|aL J J<|aw J J<|cf J J J<|aw J J<|cf J J J<|ak J J (ot J J)<|er 89 (v':=.bool (decide (s.prom≠m.bj))) J (by by_cases h:s.prom=m.bj <;> simp [h])<|ak J J (bT J)<|aR<|ar<|aa<|Y J<|O<|cg J<|iQ (by kernel_rfl)<|fq 6 7 (by decide) ?_ ?_
  ·refine dN _ [] [0,2,4,6,8,10,13,15,17,19] (by kernel_rfl) (am.refl _)<|aw J J<|aw J J<|cf J J J<|aw J J<|aw J J<|cf J J J<|an J<|bB J J λuh=>au<|an J<|bB J J λix=>au<|an J<|aE J J<|au<|an J<|aE J J<|au<|aR<|ai<|aa<|Y J<|Y J<|ah J<|ah J<|ah J<|ah J<|ah J<|aA J<|Y J<|ah J<|ah J<|ah J<|ah J<|ah J<|ah J<|ah J<|aA J<|Y J<|ah J<|ah J<|ah J<|ah J<|ah J<|aA J<|Y J<|ah J<|ah J<|ah J<|ah J<|ah J<|aA J<|Y J<|ah J<|ah J<|ah J<|ah J<|ah J<|aA J<|Y J<|ah J<|ah J<|ah J<|ah J<|ah J<|aA J<|ae J<|O<|aQ<|Y J<|Y J<|dl 143 J (λqo=> ?_) (λqo=> ?_)
   ·refine ah J<|ah J<|aA J<|ae J<|O<|ai<|ar<|aa<|Y J<|ab J J (df J)<|O<|aT J<|az<|ai<|aa<|Y J<|ab J J (i9 J bJ)<|ab J J (bI J J)<|aE J J<|O<|av ?_
    have fg:fE s m:=.inr ⟨h3,by rw [hg]; simp⟩
    have hj:dU s m=.agg #[.string (strOfNums (f' (fT m ([],false)))),.bool true,.bool false]:=by unfold dU eY; rw [if_pos ⟨hm,hn,fg⟩,dV hm,cJ (λh=>hn h.2)]
    rw [hj]
    exact aF.ay (ge b s hi)<|eK (.inl J) J (bf.agg J J) bu.g (⟨J,J⟩)
   refine aj J<|Y J<|aj J<|ab J J (j0 J)<|aA J<|ae J<|O<|ai<|ar<|aa<|Y J<|ab J J (df J)<|O<|aT J<|az<|ai<|aa<|Y J<|ab J J (i9 J bJ)<|ab J J (bI J J)<|aE J J<|O<|av ?_
   have fg:fE s m:=.inr ⟨h3,by rw [hg]; simp⟩
   have hj:dU s m=.agg #[.string (strOfNums (f' (fT m ([],false)))),.bool true,.bool false]:=by unfold dU eY; rw [if_pos ⟨hm,hn,fg⟩,dV hm,cJ (λh=>hn h.2)]
   rw [hj]
   exact aF.ay (ge b s hi)<|eK (.inl J) J (bf.agg J J) bu.g (⟨J,J⟩)
  refine dN _ [] [0,2,4,6,8,10,15,13,17,19] (by kernel_rfl) (am.refl _)<|aw J J<|aw J J<|cf J J J<|aw J J<|aw J J<|cf J J J<|an J<|bB J J λix=>au<|an J<|bB J J λuh=>au<|an J<|aE J J<|au<|an J<|aE J J<|au<|aR<|ai<|aa<|Y J<|Y J<|ah J<|ah J<|ah J<|ah J<|ah J<|aA J<|Y J<|ah J<|ah J<|ah J<|ah J<|ah J<|ah J<|ah J<|aA J<|Y J<|ah J<|ah J<|ah J<|ah J<|ah J<|aA J<|Y J<|ah J<|ah J<|ah J<|ah J<|ah J<|aA J<|Y J<|ah J<|ah J<|ah J<|ah J<|ah J<|aA J<|Y J<|ah J<|ah J<|ah J<|ah J<|ah J<|aA J<|ae J<|O<|aQ<|Y J<|Y J<|dl 143 J (λqo=> ?_) (λqo=> ?_)
  ·refine ah J<|ah J<|aA J<|ae J<|O<|ai<|ar<|aa<|Y J<|ab J J (df J)<|O<|aT J<|az<|ai<|aa<|Y J<|ab J J (i9 J bJ)<|ab J J (bI J J)<|aE J J<|O<|av ?_
   have fg:fE s m:=.inr ⟨h3,by rw [hg]; simp⟩
   have hj:dU s m=.agg #[.string (strOfNums (f' (fT m ([],false)))),.bool true,.bool false]:=by unfold dU eY; rw [if_pos ⟨hm,hn,fg⟩,dV hm,cJ (λh=>hn h.2)]
   rw [hj]
   exact aF.ay (ge b s hi)<|eK (.inl J) J (bf.agg J J) bu.g (⟨J,J⟩)
  refine aj J<|Y J<|aj J<|ab J J (j0 J)<|aA J<|ae J<|O<|ai<|ar<|aa<|Y J<|ab J J (df J)<|O<|aT J<|az<|ai<|aa<|Y J<|ab J J (i9 J bJ)<|ab J J (bI J J)<|aE J J<|O<|av ?_
  have fg:fE s m:=.inr ⟨h3,by rw [hg]; simp⟩
  have hj:dU s m=.agg #[.string (strOfNums (f' (fT m ([],false)))),.bool true,.bool false]:=by unfold dU eY; rw [if_pos ⟨hm,hn,fg⟩,dV hm,cJ (λh=>hn h.2)]
  rw [hj]
  exact aF.ay (ge b s hi)<|eK (.inl J) J (bf.agg J J) bu.g (⟨J,J⟩)
 refine dN _ [] [0,2,4,6,8,10,21,13,14,16,18,23,24] (by kernel_rfl) (am.refl _)<|aq J J<|aL J J<|aw J J<|aG J J J<|aw J J<|aG J J J<|an J<|bB J J λb7=>au<|an J ?_
 refine o4 (R:=dz) (k:=m.slot) J J J hx.slot (λhn=> ?_) (λu p hu mQ=>absurd hu (by rw [hg]; simp))
 refine au<|aq J J<|ak J J (aO J J)<|ak J J (aO J J)<|oH 55 (.bool false) J<|an J<|aE J J<|au<|ak J J (bT J)<|aR<|ai<|aa<|ao J<|ax J J<|ab J J (ce J J)<|fd 58 J h3<|ae J<|O<|ar<|bW _ [] [0,2,4,6,8,10,13,14,16,18,20,22,24,26,28,30,32,34,36,38,40,42,44] (by kernel_rfl) (am.refl _)<|aw J J<|cf J J J<|aq J J<|aL J J<|aw J J<|cf J J J<|an J<|aB J J (tI m.bj s.prom _)<|au<|ak J J (bU J J)<|aq J J<|gE 67 J (λnu=> ?_) (λnu=> ?_)
 ·refine aD J J<|aD J J<|dS J J J J<|dS J J J J<|aD J J<|aD J J<|dS J J J J<|dS J J J J<|dS J J J J<|dS J J J J<|dS J J J J<|dS J J J J<|aD J J<|ak J J (d9 J J)<|aR<|cg J<|aa<|ab J J (bI J J)<|aE J J<|O<|av<|aU ?_
  have hn:fA s m:=by unfold fA; rw [hg]; first | (left; omega) | (right; exact ⟨h3,rfl,by omega⟩)
  have hj:dU s m=.agg #[.string ⟨#[]⟩,.bool true,.bool true]:=by unfold dU eY; rw [if_neg (λh=>h.2.1 hn),dV hm,dV (And.intro hm hn)]
  rw [hj]
  exact aF.ay (ge b s hi)<|eK (.inl J) J (bf.agg J J) bu.g (⟨J,J⟩)
 refine aC J J (cU J)<|aC J J (cU J)<|aC J J (cU J)<|aC J J (j0 J)<|aC J J (d9 J J)<|aC J J (cU J)<|aC J J (cU J)<|aC J J (gc J)<|aC J J (dp J)<|aC J J (dY J J)<|aC J J (Cz J)<|er 78 (v':=.int .i64 (s.V.length:Int)) J (by simp)<|aC J J (eV J J)<|aC J J (d9 J J)<|ak J J (dG J J)<|aR<|bz J (λPC=> ?_) (λPC=> ?_)
 ·refine aa<|ab J J (bI J J)<|aE J J<|O<|av<|aU ?_
  have hn:fA s m:=by unfold fA; rw [hg]; first | (left; omega) | (right; exact ⟨h3,rfl,by omega⟩)
  have hj:dU s m=.agg #[.string ⟨#[]⟩,.bool true,.bool true]:=by unfold dU eY; rw [if_neg (λh=>h.2.1 hn),dV hm,dV (And.intro hm hn)]
  rw [hj]
  exact aF.ay (ge b s hi)<|eK (.inl J) J (bf.agg J J) bu.g (⟨J,J⟩)
 refine az<|ai ?_
 have hn:¬ fA s m:=by unfold fA; rintro (h | ⟨_,_,h⟩) <;> omega
 refine bW _ [] [0,2,4,6,8,10,12,14] (by kernel_rfl) (am.refl _)<|aq J J<|aL J J<|aw J J<|cf J J J<|aw J J<|cf J J J<|ak J J (ot J J)<|er 89 (v':=.bool (decide (s.prom≠m.bj))) J (by by_cases h:s.prom=m.bj <;> simp [h])<|ak J J (bT J)<|aR<|ar<|aa<|Y J<|O<|cg J<|iQ (by kernel_rfl)<|fq 6 7 (by decide) ?_ ?_
 ·refine dN _ [] [0,2,4,6,8,10,13,15,17,19] (by kernel_rfl) (am.refl _)<|aw J J<|aw J J<|cf J J J<|aw J J<|aw J J<|cf J J J<|an J<|bB J J λuh=>au<|an J<|bB J J λix=>au<|an J<|aE J J<|au<|an J<|aE J J<|au<|aR<|ai<|aa<|Y J<|Y J<|ah J<|ah J<|ah J<|ah J<|ah J<|aA J<|Y J<|ah J<|ah J<|ah J<|ah J<|ah J<|ah J<|ah J<|aA J<|Y J<|ah J<|ah J<|ah J<|ah J<|ah J<|aA J<|Y J<|ah J<|ah J<|ah J<|ah J<|ah J<|aA J<|Y J<|ah J<|ah J<|ah J<|ah J<|ah J<|aA J<|Y J<|ah J<|ah J<|ah J<|ah J<|ah J<|aA J<|ae J<|O<|aQ<|Y J<|Y J<|dl 143 J (λqo=> ?_) (λqo=> ?_)
  ·refine ah J<|ah J<|aA J<|ae J<|O<|ai<|ar<|aa<|Y J<|ab J J (df J)<|O<|aT J<|az<|ai<|aa<|Y J<|ab J J (i9 J bJ)<|ab J J (bI J J)<|aE J J<|O<|av ?_
   have fg:fE s m:=.inr ⟨h3,by rw [hg]; simp⟩
   have hj:dU s m=.agg #[.string (strOfNums (f' (fT m ([],false)))),.bool true,.bool false]:=by unfold dU eY; rw [if_pos ⟨hm,hn,fg⟩,dV hm,cJ (λh=>hn h.2)]
   rw [hj]
   exact aF.ay (ge b s hi)<|eK (.inl J) J (bf.agg J J) bu.g (⟨J,J⟩)
  refine aj J<|Y J<|aj J<|ab J J (j0 J)<|aA J<|ae J<|O<|ai<|ar<|aa<|Y J<|ab J J (df J)<|O<|aT J<|az<|ai<|aa<|Y J<|ab J J (i9 J bJ)<|ab J J (bI J J)<|aE J J<|O<|av ?_
  have fg:fE s m:=.inr ⟨h3,by rw [hg]; simp⟩
  have hj:dU s m=.agg #[.string (strOfNums (f' (fT m ([],false)))),.bool true,.bool false]:=by unfold dU eY; rw [if_pos ⟨hm,hn,fg⟩,dV hm,cJ (λh=>hn h.2)]
  rw [hj]
  exact aF.ay (ge b s hi)<|eK (.inl J) J (bf.agg J J) bu.g (⟨J,J⟩)
 refine dN _ [] [0,2,4,6,8,10,15,13,17,19] (by kernel_rfl) (am.refl _)<|aw J J<|aw J J<|cf J J J<|aw J J<|aw J J<|cf J J J<|an J<|bB J J λix=>au<|an J<|bB J J λuh=>au<|an J<|aE J J<|au<|an J<|aE J J<|au<|aR<|ai<|aa<|Y J<|Y J<|ah J<|ah J<|ah J<|ah J<|ah J<|aA J<|Y J<|ah J<|ah J<|ah J<|ah J<|ah J<|ah J<|ah J<|aA J<|Y J<|ah J<|ah J<|ah J<|ah J<|ah J<|aA J<|Y J<|ah J<|ah J<|ah J<|ah J<|ah J<|aA J<|Y J<|ah J<|ah J<|ah J<|ah J<|ah J<|aA J<|Y J<|ah J<|ah J<|ah J<|ah J<|ah J<|aA J<|ae J<|O<|aQ<|Y J<|Y J<|dl 143 J (λqo=> ?_) (λqo=> ?_)
 ·refine ah J<|ah J<|aA J<|ae J<|O<|ai<|ar<|aa<|Y J<|ab J J (df J)<|O<|aT J<|az<|ai<|aa<|Y J<|ab J J (i9 J bJ)<|ab J J (bI J J)<|aE J J<|O<|av ?_
  have fg:fE s m:=.inr ⟨h3,by rw [hg]; simp⟩
  have hj:dU s m=.agg #[.string (strOfNums (f' (fT m ([],false)))),.bool true,.bool false]:=by unfold dU eY; rw [if_pos ⟨hm,hn,fg⟩,dV hm,cJ (λh=>hn h.2)]
  rw [hj]
  exact aF.ay (ge b s hi)<|eK (.inl J) J (bf.agg J J) bu.g (⟨J,J⟩)
 refine aj J<|Y J<|aj J<|ab J J (j0 J)<|aA J<|ae J<|O<|ai<|ar<|aa<|Y J<|ab J J (df J)<|O<|aT J<|az<|ai<|aa<|Y J<|ab J J (i9 J bJ)<|ab J J (bI J J)<|aE J J<|O<|av ?_
 have fg:fE s m:=.inr ⟨h3,by rw [hg]; simp⟩
 have hj:dU s m=.agg #[.string (strOfNums (f' (fT m ([],false)))),.bool true,.bool false]:=by unfold dU eY; rw [if_pos ⟨hm,hn,fg⟩,dV hm,cJ (λh=>hn h.2)]
 rw [hj]
 exact aF.ay (ge b s hi)<|eK (.inl J) J (bf.agg J J) bu.g (⟨J,J⟩)
open Go Go.Proofs Go.Proofs.Tryz
theorem kQ {a b:dZ}:a=b↔a.fe=b.fe/\a.order.cV=b.order.cV/\a.order.aK=b.order.aK/\a.order.eO=b.order.eO/\a.order.cut=b.order.cut:=by
 obtain ⟨a1,a2,a3,a4,a5⟩:=a
 obtain ⟨b1,b2,b3,b4,b5⟩:=b
 simp
set_option maxHeartbeats 4000000 in
set_option maxRecDepth 20000 in
theorem ZJ (m:bQ) (p:gg) (hx:gf m) (hk:fN L m p) (hc:iP m<=140737488355328) (hm:fZ s m) (h3:m.kind=3) {u:dj} (hg:cq (ji s.V) m.slot=some u):Fn prog 233 #[.pointer (some ⟨b,0,none⟩),.agg (List.toArray (dq m p))] (ac b s::L) (λv L'=>v=dU s m/\L'=ac b s::L):=by
 refine aH func233 J J J J<|aa<|bS J J J λb3=>bB J J λb4=>O<|aa<|bD J J<|aJ J J (uL m p hx hk.tail.tail.tail hc) ?_
 rintro _ _ ⟨rm,rn,rfl,rfl⟩
 refine Y J<|ab J J (aO J J)<|ab J J (aO J J)<|ae J<|ae J<|O<|ar<|bW _ [] [0,3,4,6,8,10,12,14,16,18,20,22,24,26,28,30,32,34,36,38,40,42,44,46,48,50] (by kernel_rfl) (am.refl _)<|aq J J<|an J<|aP b<|aB J J (Er)<|aV 20 (.bool true) J<|au<|ak J J (df J)<|aq J J<|aC J J (cU J)<|aC J J (dB J J)<|lZ 24 J (by have:=hm.1; omega)<|ak J J (dG J J)<|aq J J<|aC J J (dp J)<|aC J J (dY J J)<|aC J J (cU J)<|aC J J (gc J)<|aC J J (dp J)<|aC J J (Jg (b:=b) λbt=>dY J J)<|aC J J (dB J J)<|lZ 33 J (by have:=hm.2.1; omega)<|ak J J (dG J J)<|aq J J<|aC J J (dp J)<|aC J J (dY J J)<|aC J J (dB J J)<|pJ 38 J (by omega)<|aC J J (cU J)<|aC J J (dp J)<|aC J J (dY J J)<|aC J J (dB J J)<|lZ 42 J (by omega)<|aC J J (d9 J J)<|ak J J (dG J J)<|aR<|aT J<|az<|ai<|cQ b<|vi λbt hi=>iQ (by kernel_rfl)<|fq 6 10 (by decide) ?_ ?_
 ·refine dN _ [] [0,2,4,6,8,10,13,14,16,18,21,23,24] (by kernel_rfl) (am.refl _)<|aq J J<|aL J J<|aw J J<|aG J J J<|aw J J<|aG J J J<|an J ?_
  refine o4 (R:=dz) (k:=m.slot) J J J hx.slot (λhn=>absurd hn (by rw [hg]; simp)) (λu2 p2 hu mQ=> ?_)
  rw [hg] at hu
  obtain rfl:=ez hu
  simp only [dL,dm]
  refine au<|aq J J<|ak J J (aO J J)<|ak J J (aO J J)<|oH 55 (.bool true) J<|an J<|bB J J λb7=>au<|an J<|aE J J<|au<|ak J J (bT J)<|aR<|ai<|aa<|ao J<|ax J J<|ab J J (ce J J)<|fd 58 J h3<|ae J<|O<|ar<|bW _ [] [0,2,4,6,8,10,13,14,16,18,20,22,24,26,28,30,32,34,36,38,40,42,44] (by kernel_rfl) (am.refl _)<|aw J J<|cf J J J<|aq J J<|aL J J<|aw J J<|cf J J J<|an J<|aB J J (tI m.bj s.prom _)<|au<|ak J J (bU J J)<|aq J J<|gE 67 J (λnu=> ?_) (λnu=> ?_)
  ·refine aD J J<|aD J J<|dS J J J J<|dS J J J J<|aD J J<|aD J J<|dS J J J J<|dS J J J J<|dS J J J J<|dS J J J J<|dS J J J J<|dS J J J J<|aD J J<|ak J J (d9 J J)<|aR<|cg J<|aa<|ab J J (bI J J)<|aE J J<|O<|av<|aU ?_
   have hn:fA s m:=.inl (by omega)
   have hj:dU s m=.agg #[.string ⟨#[]⟩,.bool true,.bool true]:=by unfold dU eY; rw [if_neg (λh=>h.2.1 hn),dV hm,dV (And.intro hm hn)]
   rw [hj]
   exact aF.ay (ge b s hi)<|eK (.inl J) J (bf.agg J J) bu.g (⟨J,J⟩)
  refine aC J J (cU J)<|aC J J (cU J)<|aC J J (cU J)<|aC J J (df J)<|aC J J (d9 J J)<|aC J J (cU J)<|aD J J<|aD J J<|aD J J<|aD J J<|aD J J<|aD J J<|aC J J (dG J J)<|ak J J (dG J J)<|aR<|aT J<|az<|ai ?_
  have hn:¬ fA s m:=by unfold fA; rw [hg]; rintro (h | ⟨_,h,_⟩); omega; cases h
  have rY:u=oL m↔u.bj=m.bj/\u.en=m.en:=by have GH:=(Mo hg).2; obtain ⟨u1,u2,u3⟩:=u; dsimp only at GH; subst GH; simp [oL]
  refine bW _ [] [0,2,4,6,8,10,12,14] (by kernel_rfl) (am.refl _)<|aq J J<|aL J J<|aw J J<|cf J J J<|aw J J<|cf J J J<|ak J J (ot J J)<|er 89 (v':=.bool (decide (s.prom≠m.bj))) J (by by_cases h:s.prom=m.bj <;> simp [h])<|ak J J (bT J)<|aR<|ar<|aa<|Y J<|O<|cg J<|iQ (by kernel_rfl)<|fq 6 7 (by decide) ?_ ?_
  ·refine dN _ [] [0,2,4,6,8,10,13,15,17,19] (by kernel_rfl) (am.refl _)<|aw J J<|aw J J<|cf J J J<|aw J J<|aw J J<|cf J J J<|an J<|bB J J λuh=>au<|an J<|bB J J λix=>au<|an J<|aE J J<|au<|an J<|aE J J<|au<|aR<|ai<|aa<|jJ 45 141 (u.bj=m.bj/\u.en=m.en) ?_ ?_
   ·refine Y J<|Y J<|aj J<|ao J<|aj J<|bD J J<|aj J<|ao J<|aj J<|bD J J<|aj J<|ab J J (H6 J J)<|aA J<|Y J<|dl 105 J (λBp=> ?_) (λBp=> ?_)
    ·refine aj J<|ao J<|aj J<|ao J<|aj J<|ax J J<|aj J<|ao J<|aj J<|ao J<|aj J<|ax J J<|aj J<|ab J J (fR J J (dh.bool))<|br 112 (v':=.bool (decide (u.en.fe=m.en.fe))) J (by cases u.en.fe <;> cases m.en.fe <;> rfl)<|aA J<|Y J<|dl 114 J (λBq=> ?_) (λBq=> ?_)
     ·refine aj J<|ao J<|aj J<|ax J J<|aj J<|ao J<|aj J<|ax J J<|aj J<|ab J J (kI J J)<|aA J<|Y J<|dl 121 J (λBr=> ?_) (λBr=> ?_)
      ·refine aj J<|ao J<|aj J<|ax J J<|aj J<|ao J<|aj J<|ax J J<|aj J<|ab J J (kI J J)<|aA J<|Y J<|dl 128 J (λBs=> ?_) (λBs=> ?_)
       ·refine aj J<|ao J<|aj J<|ax J J<|aj J<|ao J<|aj J<|ax J J<|aj J<|ab J J (ce J J)<|aA J<|Y J<|dl 135 J (λBt=> ?_) (λBt=> ?_)
        ·refine aj J<|ao J<|aj J<|ax J J<|aj J<|ao J<|aj J<|ax J J<|aj J<|aB J J (Hn bJ (bR.dT al hk.cut.n))<|aA J<|dH J ?_ (by repeat (first | exact dI | refine dJ rfl ?_)) al
         exact bi Value.bool (gX.2 (by rw [kQ]; simp_all))
        refine ah J<|ah J<|ah J<|ah J<|ah J<|aA J<|dH J ?_ (by repeat (first | exact dI | refine dJ rfl ?_)) al
        exact bi Value.bool (cJ (by rw [kQ]; simp_all)).symm
       refine ah J<|ah J<|ah J<|ah J<|ah J<|aA J<|Y J<|ah J<|ah J<|ah J<|ah J<|ah J<|aA J<|dH J ?_ (by repeat (first | exact dI | refine dJ rfl ?_)) al
       exact bi Value.bool (cJ (by rw [kQ]; simp_all)).symm
      refine ah J<|ah J<|ah J<|ah J<|ah J<|aA J<|Y J<|ah J<|ah J<|ah J<|ah J<|ah J<|aA J<|Y J<|ah J<|ah J<|ah J<|ah J<|ah J<|aA J<|dH J ?_ (by repeat (first | exact dI | refine dJ rfl ?_)) al
      exact bi Value.bool (cJ (by rw [kQ]; simp_all)).symm
     refine ah J<|ah J<|ah J<|ah J<|ah J<|aA J<|Y J<|ah J<|ah J<|ah J<|ah J<|ah J<|aA J<|Y J<|ah J<|ah J<|ah J<|ah J<|ah J<|aA J<|Y J<|ah J<|ah J<|ah J<|ah J<|ah J<|aA J<|dH J ?_ (by repeat (first | exact dI | refine dJ rfl ?_)) al
     exact bi Value.bool (cJ (by rw [kQ]; simp_all)).symm
    refine ah J<|ah J<|ah J<|ah J<|ah J<|ah J<|ah J<|aA J<|Y J<|ah J<|ah J<|ah J<|ah J<|ah J<|aA J<|Y J<|ah J<|ah J<|ah J<|ah J<|ah J<|aA J<|Y J<|ah J<|ah J<|ah J<|ah J<|ah J<|aA J<|Y J<|ah J<|ah J<|ah J<|ah J<|ah J<|aA J<|dH J ?_ (by repeat (first | exact dI | refine dJ rfl ?_)) al
    exact bi Value.bool (cJ (by rw [kQ]; simp_all)).symm
   refine ae J<|O<|aQ<|Y J<|Y J<|dl 143 J (λqo=> ?_) (λqo=> ?_)
   ·refine ah J<|ah J<|aA J<|ae J<|O<|ai<|ar<|aa<|Y J<|ab J J (df J)<|O<|aT J<|az<|ai<|aa<|Y J<|ab J J (i9 J bJ)<|ab J J (bI J J)<|aE J J<|O<|av ?_
    have fg:fE s m:=by unfold fE; rw [hg]; simp only [ne_eq,kH,rY]; simp_all
    have hj:dU s m=.agg #[.string (strOfNums (f' (fT m ([],false)))),.bool true,.bool false]:=by unfold dU eY; rw [if_pos ⟨hm,hn,fg⟩,dV hm,cJ (λh=>hn h.2)]
    rw [hj]
    exact aF.ay (ge b s hi)<|eK (.inl J) J (bf.agg J J) bu.g (⟨J,J⟩)
   refine aj J<|Y J<|aj J<|ab J J (iF J)<|aA J<|ae J<|O<|ai<|ar<|aa<|Y J<|ab J J (iF J)<|O<|bz J (λlC=> ?_) (λlC=> ?_)
   ·refine aQ<|ae J<|O<|ai<|aa<|Y J<|aV 149 (.slice none ([]:List Int).length 0) J<|ab J J (i9 (A:=none) (c:=0) (xs:=[]) J .nil)<|ab J J (bI J J)<|aE J J<|O<|av ?_
    have fg:¬ fE s m:=by unfold fE; rw [hg]; simp only [ne_eq,kH,rY]; simp_all
    have hj:dU s m=.agg #[.string (strOfNums []),.bool true,.bool false]:=by unfold dU eY; rw [if_neg (λh=>fg h.2.2),dV hm,cJ (λh=>hn h.2)]; rfl
    rw [hj]
    exact aF.ay (ge b s hi)<|eK (.inl J) J (bf.agg J J) bu.g (⟨J,J⟩)
   refine az<|ai<|aa<|Y J<|ab J J (i9 J bJ)<|ab J J (bI J J)<|aE J J<|O<|av ?_
   have fg:fE s m:=by unfold fE; rw [hg]; simp only [ne_eq,kH,rY]; simp_all
   have hj:dU s m=.agg #[.string (strOfNums (f' (fT m ([],false)))),.bool true,.bool false]:=by unfold dU eY; rw [if_pos ⟨hm,hn,fg⟩,dV hm,cJ (λh=>hn h.2)]
   rw [hj]
   exact aF.ay (ge b s hi)<|eK (.inl J) J (bf.agg J J) bu.g (⟨J,J⟩)
  refine dN _ [] [0,2,4,6,8,10,15,13,17,19] (by kernel_rfl) (am.refl _)<|aw J J<|aw J J<|cf J J J<|aw J J<|aw J J<|cf J J J<|an J<|bB J J λix=>au<|an J<|bB J J λuh=>au<|an J<|aE J J<|au<|an J<|aE J J<|au<|aR<|ai<|aa<|jJ 45 141 (u.bj=m.bj/\u.en=m.en) ?_ ?_
  ·refine Y J<|Y J<|aj J<|ao J<|aj J<|bD J J<|aj J<|ao J<|aj J<|bD J J<|aj J<|ab J J (H6 J J)<|aA J<|Y J<|dl 105 J (λBp=> ?_) (λBp=> ?_)
   ·refine aj J<|ao J<|aj J<|ao J<|aj J<|ax J J<|aj J<|ao J<|aj J<|ao J<|aj J<|ax J J<|aj J<|ab J J (fR J J (dh.bool))<|br 112 (v':=.bool (decide (u.en.fe=m.en.fe))) J (by cases u.en.fe <;> cases m.en.fe <;> rfl)<|aA J<|Y J<|dl 114 J (λBq=> ?_) (λBq=> ?_)
    ·refine aj J<|ao J<|aj J<|ax J J<|aj J<|ao J<|aj J<|ax J J<|aj J<|ab J J (kI J J)<|aA J<|Y J<|dl 121 J (λBr=> ?_) (λBr=> ?_)
     ·refine aj J<|ao J<|aj J<|ax J J<|aj J<|ao J<|aj J<|ax J J<|aj J<|ab J J (kI J J)<|aA J<|Y J<|dl 128 J (λBs=> ?_) (λBs=> ?_)
      ·refine aj J<|ao J<|aj J<|ax J J<|aj J<|ao J<|aj J<|ax J J<|aj J<|ab J J (ce J J)<|aA J<|Y J<|dl 135 J (λBt=> ?_) (λBt=> ?_)
       ·refine aj J<|ao J<|aj J<|ax J J<|aj J<|ao J<|aj J<|ax J J<|aj J<|aB J J (Hn bJ (bR.dT al hk.cut.n))<|aA J<|dH J ?_ (by repeat (first | exact dI | refine dJ rfl ?_)) al
        exact bi Value.bool (gX.2 (by rw [kQ]; simp_all))
       refine ah J<|ah J<|ah J<|ah J<|ah J<|aA J<|dH J ?_ (by repeat (first | exact dI | refine dJ rfl ?_)) al
       exact bi Value.bool (cJ (by rw [kQ]; simp_all)).symm
      refine ah J<|ah J<|ah J<|ah J<|ah J<|aA J<|Y J<|ah J<|ah J<|ah J<|ah J<|ah J<|aA J<|dH J ?_ (by repeat (first | exact dI | refine dJ rfl ?_)) al
      exact bi Value.bool (cJ (by rw [kQ]; simp_all)).symm
     refine ah J<|ah J<|ah J<|ah J<|ah J<|aA J<|Y J<|ah J<|ah J<|ah J<|ah J<|ah J<|aA J<|Y J<|ah J<|ah J<|ah J<|ah J<|ah J<|aA J<|dH J ?_ (by repeat (first | exact dI | refine dJ rfl ?_)) al
     exact bi Value.bool (cJ (by rw [kQ]; simp_all)).symm
    refine ah J<|ah J<|ah J<|ah J<|ah J<|aA J<|Y J<|ah J<|ah J<|ah J<|ah J<|ah J<|aA J<|Y J<|ah J<|ah J<|ah J<|ah J<|ah J<|aA J<|Y J<|ah J<|ah J<|ah J<|ah J<|ah J<|aA J<|dH J ?_ (by repeat (first | exact dI | refine dJ rfl ?_)) al
    exact bi Value.bool (cJ (by rw [kQ]; simp_all)).symm
   refine ah J<|ah J<|ah J<|ah J<|ah J<|ah J<|ah J<|aA J<|Y J<|ah J<|ah J<|ah J<|ah J<|ah J<|aA J<|Y J<|ah J<|ah J<|ah J<|ah J<|ah J<|aA J<|Y J<|ah J<|ah J<|ah J<|ah J<|ah J<|aA J<|Y J<|ah J<|ah J<|ah J<|ah J<|ah J<|aA J<|dH J ?_ (by repeat (first | exact dI | refine dJ rfl ?_)) al
   exact bi Value.bool (cJ (by rw [kQ]; simp_all)).symm
  refine ae J<|O<|aQ<|Y J<|Y J<|dl 143 J (λqo=> ?_) (λqo=> ?_)
  ·refine ah J<|ah J<|aA J<|ae J<|O<|ai<|ar<|aa<|Y J<|ab J J (df J)<|O<|aT J<|az<|ai<|aa<|Y J<|ab J J (i9 J bJ)<|ab J J (bI J J)<|aE J J<|O<|av ?_
   have fg:fE s m:=by unfold fE; rw [hg]; simp only [ne_eq,kH,rY]; simp_all
   have hj:dU s m=.agg #[.string (strOfNums (f' (fT m ([],false)))),.bool true,.bool false]:=by unfold dU eY; rw [if_pos ⟨hm,hn,fg⟩,dV hm,cJ (λh=>hn h.2)]
   rw [hj]
   exact aF.ay (ge b s hi)<|eK (.inl J) J (bf.agg J J) bu.g (⟨J,J⟩)
  refine aj J<|Y J<|aj J<|ab J J (iF J)<|aA J<|ae J<|O<|ai<|ar<|aa<|Y J<|ab J J (iF J)<|O<|bz J (λlC=> ?_) (λlC=> ?_)
  ·refine aQ<|ae J<|O<|ai<|aa<|Y J<|aV 149 (.slice none ([]:List Int).length 0) J<|ab J J (i9 (A:=none) (c:=0) (xs:=[]) J .nil)<|ab J J (bI J J)<|aE J J<|O<|av ?_
   have fg:¬ fE s m:=by unfold fE; rw [hg]; simp only [ne_eq,kH,rY]; simp_all
   have hj:dU s m=.agg #[.string (strOfNums []),.bool true,.bool false]:=by unfold dU eY; rw [if_neg (λh=>fg h.2.2),dV hm,cJ (λh=>hn h.2)]; rfl
   rw [hj]
   exact aF.ay (ge b s hi)<|eK (.inl J) J (bf.agg J J) bu.g (⟨J,J⟩)
  refine az<|ai<|aa<|Y J<|ab J J (i9 J bJ)<|ab J J (bI J J)<|aE J J<|O<|av ?_
  have fg:fE s m:=by unfold fE; rw [hg]; simp only [ne_eq,kH,rY]; simp_all
  have hj:dU s m=.agg #[.string (strOfNums (f' (fT m ([],false)))),.bool true,.bool false]:=by unfold dU eY; rw [if_pos ⟨hm,hn,fg⟩,dV hm,cJ (λh=>hn h.2)]
  rw [hj]
  exact aF.ay (ge b s hi)<|eK (.inl J) J (bf.agg J J) bu.g (⟨J,J⟩)
 refine dN _ [] [0,2,4,6,8,10,21,13,14,16,18,23,24] (by kernel_rfl) (am.refl _)<|aq J J<|aL J J<|aw J J<|aG J J J<|aw J J<|aG J J J<|an J<|bB J J λb7=>au<|an J ?_
 refine o4 (R:=dz) (k:=m.slot) J J J hx.slot (λhn=>absurd hn (by rw [hg]; simp)) (λu2 p2 hu mQ=> ?_)
 rw [hg] at hu
 obtain rfl:=ez hu
 simp only [dL,dm]
 refine au<|aq J J<|ak J J (aO J J)<|ak J J (aO J J)<|oH 55 (.bool true) J<|an J<|aE J J<|au<|ak J J (bT J)<|aR<|ai<|aa<|ao J<|ax J J<|ab J J (ce J J)<|fd 58 J h3<|ae J<|O<|ar<|bW _ [] [0,2,4,6,8,10,13,14,16,18,20,22,24,26,28,30,32,34,36,38,40,42,44] (by kernel_rfl) (am.refl _)<|aw J J<|cf J J J<|aq J J<|aL J J<|aw J J<|cf J J J<|an J<|aB J J (tI m.bj s.prom _)<|au<|ak J J (bU J J)<|aq J J<|gE 67 J (λnu=> ?_) (λnu=> ?_)
 ·refine aD J J<|aD J J<|dS J J J J<|dS J J J J<|aD J J<|aD J J<|dS J J J J<|dS J J J J<|dS J J J J<|dS J J J J<|dS J J J J<|dS J J J J<|aD J J<|ak J J (d9 J J)<|aR<|cg J<|aa<|ab J J (bI J J)<|aE J J<|O<|av<|aU ?_
  have hn:fA s m:=.inl (by omega)
  have hj:dU s m=.agg #[.string ⟨#[]⟩,.bool true,.bool true]:=by unfold dU eY; rw [if_neg (λh=>h.2.1 hn),dV hm,dV (And.intro hm hn)]
  rw [hj]
  exact aF.ay (ge b s hi)<|eK (.inl J) J (bf.agg J J) bu.g (⟨J,J⟩)
 refine aC J J (cU J)<|aC J J (cU J)<|aC J J (cU J)<|aC J J (df J)<|aC J J (d9 J J)<|aC J J (cU J)<|aD J J<|aD J J<|aD J J<|aD J J<|aD J J<|aD J J<|aC J J (dG J J)<|ak J J (dG J J)<|aR<|aT J<|az<|ai ?_
 have hn:¬ fA s m:=by unfold fA; rw [hg]; rintro (h | ⟨_,h,_⟩); omega; cases h
 have rY:u=oL m↔u.bj=m.bj/\u.en=m.en:=by have GH:=(Mo hg).2; obtain ⟨u1,u2,u3⟩:=u; dsimp only at GH; subst GH; simp [oL]
 refine bW _ [] [0,2,4,6,8,10,12,14] (by kernel_rfl) (am.refl _)<|aq J J<|aL J J<|aw J J<|cf J J J<|aw J J<|cf J J J<|ak J J (ot J J)<|er 89 (v':=.bool (decide (s.prom≠m.bj))) J (by by_cases h:s.prom=m.bj <;> simp [h])<|ak J J (bT J)<|aR<|ar<|aa<|Y J<|O<|cg J<|iQ (by kernel_rfl)<|fq 6 7 (by decide) ?_ ?_
 ·refine dN _ [] [0,2,4,6,8,10,13,15,17,19] (by kernel_rfl) (am.refl _)<|aw J J<|aw J J<|cf J J J<|aw J J<|aw J J<|cf J J J<|an J<|bB J J λuh=>au<|an J<|bB J J λix=>au<|an J<|aE J J<|au<|an J<|aE J J<|au<|aR<|ai<|aa<|jJ 45 141 (u.bj=m.bj/\u.en=m.en) ?_ ?_
  ·refine Y J<|Y J<|aj J<|ao J<|aj J<|bD J J<|aj J<|ao J<|aj J<|bD J J<|aj J<|ab J J (H6 J J)<|aA J<|Y J<|dl 105 J (λBp=> ?_) (λBp=> ?_)
   ·refine aj J<|ao J<|aj J<|ao J<|aj J<|ax J J<|aj J<|ao J<|aj J<|ao J<|aj J<|ax J J<|aj J<|ab J J (fR J J (dh.bool))<|br 112 (v':=.bool (decide (u.en.fe=m.en.fe))) J (by cases u.en.fe <;> cases m.en.fe <;> rfl)<|aA J<|Y J<|dl 114 J (λBq=> ?_) (λBq=> ?_)
    ·refine aj J<|ao J<|aj J<|ax J J<|aj J<|ao J<|aj J<|ax J J<|aj J<|ab J J (kI J J)<|aA J<|Y J<|dl 121 J (λBr=> ?_) (λBr=> ?_)
     ·refine aj J<|ao J<|aj J<|ax J J<|aj J<|ao J<|aj J<|ax J J<|aj J<|ab J J (kI J J)<|aA J<|Y J<|dl 128 J (λBs=> ?_) (λBs=> ?_)
      ·refine aj J<|ao J<|aj J<|ax J J<|aj J<|ao J<|aj J<|ax J J<|aj J<|ab J J (ce J J)<|aA J<|Y J<|dl 135 J (λBt=> ?_) (λBt=> ?_)
       ·refine aj J<|ao J<|aj J<|ax J J<|aj J<|ao J<|aj J<|ax J J<|aj J<|aB J J (Hn bJ (bR.dT al hk.cut.n))<|aA J<|dH J ?_ (by repeat (first | exact dI | refine dJ rfl ?_)) al
        exact bi Value.bool (gX.2 (by rw [kQ]; simp_all))
       refine ah J<|ah J<|ah J<|ah J<|ah J<|aA J<|dH J ?_ (by repeat (first | exact dI | refine dJ rfl ?_)) al
       exact bi Value.bool (cJ (by rw [kQ]; simp_all)).symm
      refine ah J<|ah J<|ah J<|ah J<|ah J<|aA J<|Y J<|ah J<|ah J<|ah J<|ah J<|ah J<|aA J<|dH J ?_ (by repeat (first | exact dI | refine dJ rfl ?_)) al
      exact bi Value.bool (cJ (by rw [kQ]; simp_all)).symm
     refine ah J<|ah J<|ah J<|ah J<|ah J<|aA J<|Y J<|ah J<|ah J<|ah J<|ah J<|ah J<|aA J<|Y J<|ah J<|ah J<|ah J<|ah J<|ah J<|aA J<|dH J ?_ (by repeat (first | exact dI | refine dJ rfl ?_)) al
     exact bi Value.bool (cJ (by rw [kQ]; simp_all)).symm
    refine ah J<|ah J<|ah J<|ah J<|ah J<|aA J<|Y J<|ah J<|ah J<|ah J<|ah J<|ah J<|aA J<|Y J<|ah J<|ah J<|ah J<|ah J<|ah J<|aA J<|Y J<|ah J<|ah J<|ah J<|ah J<|ah J<|aA J<|dH J ?_ (by repeat (first | exact dI | refine dJ rfl ?_)) al
    exact bi Value.bool (cJ (by rw [kQ]; simp_all)).symm
   refine ah J<|ah J<|ah J<|ah J<|ah J<|ah J<|ah J<|aA J<|Y J<|ah J<|ah J<|ah J<|ah J<|ah J<|aA J<|Y J<|ah J<|ah J<|ah J<|ah J<|ah J<|aA J<|Y J<|ah J<|ah J<|ah J<|ah J<|ah J<|aA J<|Y J<|ah J<|ah J<|ah J<|ah J<|ah J<|aA J<|dH J ?_ (by repeat (first | exact dI | refine dJ rfl ?_)) al
   exact bi Value.bool (cJ (by rw [kQ]; simp_all)).symm
  refine ae J<|O<|aQ<|Y J<|Y J<|dl 143 J (λqo=> ?_) (λqo=> ?_)
  ·refine ah J<|ah J<|aA J<|ae J<|O<|ai<|ar<|aa<|Y J<|ab J J (df J)<|O<|aT J<|az<|ai<|aa<|Y J<|ab J J (i9 J bJ)<|ab J J (bI J J)<|aE J J<|O<|av ?_
   have fg:fE s m:=by unfold fE; rw [hg]; simp only [ne_eq,kH,rY]; simp_all
   have hj:dU s m=.agg #[.string (strOfNums (f' (fT m ([],false)))),.bool true,.bool false]:=by unfold dU eY; rw [if_pos ⟨hm,hn,fg⟩,dV hm,cJ (λh=>hn h.2)]
   rw [hj]
   exact aF.ay (ge b s hi)<|eK (.inl J) J (bf.agg J J) bu.g (⟨J,J⟩)
  refine aj J<|Y J<|aj J<|ab J J (iF J)<|aA J<|ae J<|O<|ai<|ar<|aa<|Y J<|ab J J (iF J)<|O<|bz J (λlC=> ?_) (λlC=> ?_)
  ·refine aQ<|ae J<|O<|ai<|aa<|Y J<|aV 149 (.slice none ([]:List Int).length 0) J<|ab J J (i9 (A:=none) (c:=0) (xs:=[]) J .nil)<|ab J J (bI J J)<|aE J J<|O<|av ?_
   have fg:¬ fE s m:=by unfold fE; rw [hg]; simp only [ne_eq,kH,rY]; simp_all
   have hj:dU s m=.agg #[.string (strOfNums []),.bool true,.bool false]:=by unfold dU eY; rw [if_neg (λh=>fg h.2.2),dV hm,cJ (λh=>hn h.2)]; rfl
   rw [hj]
   exact aF.ay (ge b s hi)<|eK (.inl J) J (bf.agg J J) bu.g (⟨J,J⟩)
  refine az<|ai<|aa<|Y J<|ab J J (i9 J bJ)<|ab J J (bI J J)<|aE J J<|O<|av ?_
  have fg:fE s m:=by unfold fE; rw [hg]; simp only [ne_eq,kH,rY]; simp_all
  have hj:dU s m=.agg #[.string (strOfNums (f' (fT m ([],false)))),.bool true,.bool false]:=by unfold dU eY; rw [if_pos ⟨hm,hn,fg⟩,dV hm,cJ (λh=>hn h.2)]
  rw [hj]
  exact aF.ay (ge b s hi)<|eK (.inl J) J (bf.agg J J) bu.g (⟨J,J⟩)
 refine dN _ [] [0,2,4,6,8,10,15,13,17,19] (by kernel_rfl) (am.refl _)<|aw J J<|aw J J<|cf J J J<|aw J J<|aw J J<|cf J J J<|an J<|bB J J λix=>au<|an J<|bB J J λuh=>au<|an J<|aE J J<|au<|an J<|aE J J<|au<|aR<|ai<|aa<|jJ 45 141 (u.bj=m.bj/\u.en=m.en) ?_ ?_
 ·refine Y J<|Y J<|aj J<|ao J<|aj J<|bD J J<|aj J<|ao J<|aj J<|bD J J<|aj J<|ab J J (H6 J J)<|aA J<|Y J<|dl 105 J (λBp=> ?_) (λBp=> ?_)
  ·refine aj J<|ao J<|aj J<|ao J<|aj J<|ax J J<|aj J<|ao J<|aj J<|ao J<|aj J<|ax J J<|aj J<|ab J J (fR J J (dh.bool))<|br 112 (v':=.bool (decide (u.en.fe=m.en.fe))) J (by cases u.en.fe <;> cases m.en.fe <;> rfl)<|aA J<|Y J<|dl 114 J (λBq=> ?_) (λBq=> ?_)
   ·refine aj J<|ao J<|aj J<|ax J J<|aj J<|ao J<|aj J<|ax J J<|aj J<|ab J J (kI J J)<|aA J<|Y J<|dl 121 J (λBr=> ?_) (λBr=> ?_)
    ·refine aj J<|ao J<|aj J<|ax J J<|aj J<|ao J<|aj J<|ax J J<|aj J<|ab J J (kI J J)<|aA J<|Y J<|dl 128 J (λBs=> ?_) (λBs=> ?_)
     ·refine aj J<|ao J<|aj J<|ax J J<|aj J<|ao J<|aj J<|ax J J<|aj J<|ab J J (ce J J)<|aA J<|Y J<|dl 135 J (λBt=> ?_) (λBt=> ?_)
      ·refine aj J<|ao J<|aj J<|ax J J<|aj J<|ao J<|aj J<|ax J J<|aj J<|aB J J (Hn bJ (bR.dT al hk.cut.n))<|aA J<|dH J ?_ (by repeat (first | exact dI | refine dJ rfl ?_)) al
       exact bi Value.bool (gX.2 (by rw [kQ]; simp_all))
      refine ah J<|ah J<|ah J<|ah J<|ah J<|aA J<|dH J ?_ (by repeat (first | exact dI | refine dJ rfl ?_)) al
      exact bi Value.bool (cJ (by rw [kQ]; simp_all)).symm
     refine ah J<|ah J<|ah J<|ah J<|ah J<|aA J<|Y J<|ah J<|ah J<|ah J<|ah J<|ah J<|aA J<|dH J ?_ (by repeat (first | exact dI | refine dJ rfl ?_)) al
     exact bi Value.bool (cJ (by rw [kQ]; simp_all)).symm
    refine ah J<|ah J<|ah J<|ah J<|ah J<|aA J<|Y J<|ah J<|ah J<|ah J<|ah J<|ah J<|aA J<|Y J<|ah J<|ah J<|ah J<|ah J<|ah J<|aA J<|dH J ?_ (by repeat (first | exact dI | refine dJ rfl ?_)) al
    exact bi Value.bool (cJ (by rw [kQ]; simp_all)).symm
   refine ah J<|ah J<|ah J<|ah J<|ah J<|aA J<|Y J<|ah J<|ah J<|ah J<|ah J<|ah J<|aA J<|Y J<|ah J<|ah J<|ah J<|ah J<|ah J<|aA J<|Y J<|ah J<|ah J<|ah J<|ah J<|ah J<|aA J<|dH J ?_ (by repeat (first | exact dI | refine dJ rfl ?_)) al
   exact bi Value.bool (cJ (by rw [kQ]; simp_all)).symm
  refine ah J<|ah J<|ah J<|ah J<|ah J<|ah J<|ah J<|aA J<|Y J<|ah J<|ah J<|ah J<|ah J<|ah J<|aA J<|Y J<|ah J<|ah J<|ah J<|ah J<|ah J<|aA J<|Y J<|ah J<|ah J<|ah J<|ah J<|ah J<|aA J<|Y J<|ah J<|ah J<|ah J<|ah J<|ah J<|aA J<|dH J ?_ (by repeat (first | exact dI | refine dJ rfl ?_)) al
  exact bi Value.bool (cJ (by rw [kQ]; simp_all)).symm
 refine ae J<|O<|aQ<|Y J<|Y J<|dl 143 J (λqo=> ?_) (λqo=> ?_)
 ·refine ah J<|ah J<|aA J<|ae J<|O<|ai<|ar<|aa<|Y J<|ab J J (df J)<|O<|aT J<|az<|ai<|aa<|Y J<|ab J J (i9 J bJ)<|ab J J (bI J J)<|aE J J<|O<|av ?_
  have fg:fE s m:=by unfold fE; rw [hg]; simp only [ne_eq,kH,rY]; simp_all
  have hj:dU s m=.agg #[.string (strOfNums (f' (fT m ([],false)))),.bool true,.bool false]:=by unfold dU eY; rw [if_pos ⟨hm,hn,fg⟩,dV hm,cJ (λh=>hn h.2)]
  rw [hj]
  exact aF.ay (ge b s hi)<|eK (.inl J) J (bf.agg J J) bu.g (⟨J,J⟩)
 refine aj J<|Y J<|aj J<|ab J J (iF J)<|aA J<|ae J<|O<|ai<|ar<|aa<|Y J<|ab J J (iF J)<|O<|bz J (λlC=> ?_) (λlC=> ?_)
 ·refine aQ<|ae J<|O<|ai<|aa<|Y J<|aV 149 (.slice none ([]:List Int).length 0) J<|ab J J (i9 (A:=none) (c:=0) (xs:=[]) J .nil)<|ab J J (bI J J)<|aE J J<|O<|av ?_
  have fg:¬ fE s m:=by unfold fE; rw [hg]; simp only [ne_eq,kH,rY]; simp_all
  have hj:dU s m=.agg #[.string (strOfNums []),.bool true,.bool false]:=by unfold dU eY; rw [if_neg (λh=>fg h.2.2),dV hm,cJ (λh=>hn h.2)]; rfl
  rw [hj]
  exact aF.ay (ge b s hi)<|eK (.inl J) J (bf.agg J J) bu.g (⟨J,J⟩)
 refine az<|ai<|aa<|Y J<|ab J J (i9 J bJ)<|ab J J (bI J J)<|aE J J<|O<|av ?_
 have fg:fE s m:=by unfold fE; rw [hg]; simp only [ne_eq,kH,rY]; simp_all
 have hj:dU s m=.agg #[.string (strOfNums (f' (fT m ([],false)))),.bool true,.bool false]:=by unfold dU eY; rw [if_pos ⟨hm,hn,fg⟩,dV hm,cJ (λh=>hn h.2)]
 rw [hj]
 exact aF.ay (ge b s hi)<|eK (.inl J) J (bf.agg J J) bu.g (⟨J,J⟩)
theorem En (m:bQ) (p:gg) (hx:gf m) (hk:fN L m p) (hc:iP m<=140737488355328):Fn prog 233 #[.pointer (some ⟨b,0,none⟩),.agg (List.toArray (dq m p))] (ac b s::L) (λv L'=>v=dU s m/\L'=ac b s::L):=by
 by_cases hm:fZ s m
 ·rcases hm.2.2 with h1 | h3
  ·exact ZH m p hx hk hc hm h1
  ·rcases hg:cq (ji s.V) m.slot with _ | u
   ·exact ZI m p hx hk hc hm h3 hg
   ·exact ZJ m p hx hk hc hm h3 hg
 ·exact aa4 m p hx hk hc hm
open Go Go.Proofs Go.Proofs.Tryz
theorem Q7 (m:bQ) (p:gg) (hx:gf m) (hk:fN L m p) (hc:iP m<=140737488355328):Fn prog 267 #[.pointer (some ⟨b,0,none⟩),.agg (List.toArray (dq m p))] (ac b s::L) (λv L'=>v=.tuple #[.string (eY s m),.bool (decide (fZ s m))]/\L'=ac b s::L):=by
 exact aH func267 J J J J<|aa<|bS J J J λb3=>ae J<|ae J<|O<|aa<|Y J<|bD J J<|aP b<|aB J J (En m p hx hk.tail hc)<|bB J J λb6=>aE J J<|O<|bW _ [] [0,2,4,6,8,10] (by kernel_rfl) (am.refl _)<|aw J J<|aG J J J<|aw J J<|aG J J J<|ak J J (bT J)<|ak J J (bT J)<|aR<|av<|eS J J J al (⟨J,J⟩)
open Go Go.Proofs
structure RS where
 b:List Int
 n:Nat
 bad:Bool
structure eC {α:Type} (ok iv:α->Prop) (b:α->List Int) (s:RS) (x:α) (s':RS):Prop where
 snd:s'.bad=false->s.bad=false/\ok x/\s.b=b x++s'.b
 cmp:∀ y r,s.bad=false->ok y->s.b=b y++r->s'.bad=false
 eU:s'.n+s'.b.length=s.n+s.b.length
 iv:iv x
section
variable {α β:Type} {ok iv:α->Prop} {b:α->List Int} {s s1 s2:RS} {x:α}
theorem eC.seq {ok2 iv2:β->Prop} {b2:β->List Int} {y:β} (h1:eC ok iv b s x s1) (hp:PF ok b) (h2:eC ok2 iv2 b2 s1 y s2):eC (λp:α × β=>ok p.1/\ok2 p.2) (λp=>iv p.1/\iv2 p.2) (λp=>b p.1++b2 p.2) s (x,y) s2:=by
 refine ⟨λh=> ?_,λy r hs hy hb=> ?_,by rw [h2.eU,h1.eU],h1.iv,h2.iv⟩
 ·obtain ⟨a1,a2,a3⟩:=h2.snd h
  obtain ⟨c1,c2,c3⟩:=h1.snd a1
  exact ⟨c1,⟨c2,a2⟩,by rw [c3,a3,fh]⟩
 ·rw [fh] at hb
  have g1:=h1.cmp _ _ hs hy.1 hb
  obtain ⟨c1,c2,c3⟩:=h1.snd g1
  obtain ⟨_,e⟩:=hp _ _ _ _ c2 hy.1 (c3.symm.trans hb)
  exact h2.cmp _ _ g1 hy.2 e
theorem eC.map {ok2 iv2:β->Prop} {b2:β->List Int} (f:α->β) (g:β->α) (h:eC ok iv b s x s1) (hg:g (f x)=x) (cX:∀ y,ok2 y↔ok (g y)) (hb:∀ y,b2 y=b (g y)) (hiv:iv x->iv2 (f x)):eC ok2 iv2 b2 s (f x) s1:=by
 refine ⟨λk=> ?_,λy r hs hy he=>h.cmp (g y) r hs ((cX y).1 hy) (by rw [he,hb]),h.eU,hiv h.iv⟩
 obtain ⟨a1,a2,a3⟩:=h.snd k
 exact ⟨a1,(cX _).2 (by rw [hg]; exact a2),by rw [hb,hg]; exact a3⟩
theorem eC.bytes (h:eC ok iv b s x s1) (hb:∀ y,b y=b y):eC ok iv b s x s1:=h
end
def VK (s:RS) (x:Nat) (s':RS):Prop:=(s.bad=false/\∃ k,nn s.b x k 0/\s'=⟨s.b.drop k,s.n+k,false⟩)\/(s'=⟨s.b,s.n,true⟩/\x=0/\(s.bad=true\/nn s.b 0 0 10))
def NR (most:Int) (s:RS) (x:ByteArray) (s':RS):Prop:=(s.bad=false/\∃ k,ti s.b most x k 0/\s'=⟨s.b.drop k,s.n+k,false⟩)\/(s'=⟨s.b,s.n,true⟩/\x=⟨#[]⟩/\(s.bad=true\/ti s.b most ⟨#[]⟩ 0 10))
variable{bs:List Int}{k:Nat}
theorem S9 {x:Nat} (h:nn bs x k 0):bs=fF x++bs.drop k/\k<=bs.length/\x < 18446744073709551616:=by
 rcases h with ⟨_,h2,h3,h4,h5⟩ | ⟨h,_⟩
 ·exact ⟨by rw [<- h3,qE],h5,h2⟩
 ·cases h
variable{most:Int}{x:ByteArray}
theorem S_ (h:ti bs most x k 0):bs=iJ x++bs.drop k/\k<=bs.length/\(x.size:Int)<=most:=by
 rcases h with ⟨_,h2,h3,h4,h5⟩ | ⟨h,_⟩
 ·exact ⟨by rw [<- h3,qE],h5,h2⟩
 ·cases h
variable{s s':RS}
theorem akI (hm:0<=most/\most<=4611686018427387904) {x:Nat} (h:VK s x s'):
  ((x:Int)<=most->eC (de most) (de most) f5 s (x:Int) s')/\(most < (x:Int)->eC (de most) (de most) f5 s 0 ⟨s'.b,s'.n,true⟩):=by
 rcases h with ⟨h0,k,h1,rfl⟩ | ⟨rfl,rfl,h1⟩
 ·obtain ⟨e1,e2,e3⟩:=S9 h1
  have ht:s.n+k+(s.b.drop k).length=s.n+s.b.length:=by rw [uB]; omega
  refine ⟨λhx=>⟨λ_=>⟨h0,by unfold de; omega,by unfold f5; exact e1⟩,λ_ _ _ _ _=>rfl,ht,by unfold de; omega⟩,λhx=>⟨(λk=>by cases k),λy r _ hy hb=> ?_,ht,by unfold de; omega⟩⟩
  unfold de at hy
  rw [e1] at hb
  obtain ⟨e4,_⟩:=Na (y:=y.toNat) e3 (by omega) hb
  omega
 ·refine ⟨λhx=>⟨(λk=>by cases k),λy r hs hy hb=> ?_,rfl,by unfold de; omega⟩,λhx=>by omega⟩
  rcases h1 with h1 | h1
  ·rw [hs] at h1; cases h1
  ·unfold de at hy
   rw [hb] at h1
   have:=(K_ h1 (Lc (x:=y.toNat) (by omega) r)).2.2
   cases this
theorem Wo (h:NR 32 s x s'):(fy x->eC fy (λx=>x.size<=32) iJ s x s')/\(¬ fy x->eC fy (λx=>x.size<=32) iJ s x ⟨s'.b,s'.n,true⟩):=by
 rcases h with ⟨h0,k,h1,rfl⟩ | ⟨rfl,rfl,h1⟩
 ·obtain ⟨e1,e2,e3⟩:=S_ h1
  have ht:s.n+k+(s.b.drop k).length=s.n+s.b.length:=by rw [uB]; omega
  refine ⟨λhx=>⟨λ_=>⟨h0,hx,e1⟩,λ_ _ _ _ _=>rfl,ht,by omega⟩,λhx=>⟨(λk=>by cases k),λy r _ hy hb=> ?_,ht,by omega⟩⟩
  rw [e1] at hb
  have PD:=hy.2.2
  obtain ⟨e4,_⟩:=UZ (by omega) (by omega) hb
  rw [e4] at hx; exact absurd hy hx
 ·refine ⟨λhx=>absurd (by decide:(⟨#[]⟩:ByteArray).size=0) hx.2.1,λhx=>⟨(λk=>by cases k),λy r hs hy hb=> ?_,rfl,by decide⟩⟩
  rcases h1 with h1 | h1
  ·rw [hs] at h1; cases h1
  ·rw [hb] at h1
   have PD:=hy.2.2
   have:=(abG (s':=y) (n':=(iJ y).length) (e':=0) (by decide) h1 (.inl ⟨rfl,by omega,by simp,rfl,by simp⟩)).2.2
   cases this
abbrev PE (b:Nat) (s:RS) (p:Option Addr × Nat):List HP:=[cells b [.slice p.1 s.b.length p.2,.int .i64 (s.n:Int),.bool s.bad] 258,sl (aI .u8) p.1 p.2 s.b]
def gL (b:Nat) (s:RS):HP:=oS (PE b s)
def J3 (b:Nat) (n:Int) (bad:Bool):HP:=oS λv0:Value=>[cells b [v0,.int .i64 n,.bool bad] 258]
theorem Di (h:∀ A c',T r n P c ⟨D,E,cells b [.slice A s.b.length c',.int .i64 (s.n:Int),.bool s.bad] 258::sl (aI .u8) A c' s.b::L⟩ Q):T r n P c ⟨D,E,gL b s::L⟩ Q:=IP (f:=PE b s) λp=>h p.1 p.2
variable{c:Nat}
theorem rI (b:Nat) (s:RS) [h1:fL L b [.slice A s.b.length c,.int .i64 (s.n:Int),.bool s.bad] 258 L1] (hk:a_ L1 (aI .u8) A c s.b):am L (gL b s::L1):=by
 refine am.trans (h1.g.trans (am.cons _ hk.lay)) ?_
 exact o_ (f:=PE b s) (A,c)
instance {v0:Value} {m:Int} {bad:Bool} [h:fL L b [v0,.int .i64 m,.bool bad] 258 L1]:cR L (J3 b m bad) L1:=⟨h.g.trans (o_ (f:=λv0:Value=>[cells b [v0,.int .i64 m,.bool bad] 258]) v0)⟩
variable{t:TypeId}
theorem R' {x:Operand} {m:Int} {bad:Bool} [ht:iG P t false] (hx:ev E x=some (.pointer (some ⟨b,1,none⟩))):Yl P E (J3 b m bad::L) (.load t x) ty (.int .i64 m):=λn D W a w dst pos af g ha hs=>by
 obtain ⟨v0,hv⟩:=sI hs
 exact dY (L:=cells b [v0,.int .i64 m,.bool bad] 258::L) (ht:=ht) hx rfl n D W a w dst pos af g ha hv
instance:jz (gL b s::L) b (gL b s) L:=⟨am.refl _⟩
open Go Go.Proofs Go.Proofs.Tryz
theorem act (hn:s.n+s.b.length<=140737488355328):Fn prog 354 #[.pointer (some ⟨b,0,none⟩),.func (.func 125) #[] #[]] (gL b s::L) (λv L'=>∃ x s',v=.int .u64 ((x:Nat):Int)/\L'=gL b s'::L/\VK s x s'):=by
 refine aH func354 J J J J<|Di λA c=>aa<|ae J<|O<|aa<|Y J<|Y J<|aS J<|ao J<|ax J J<|jx J J J (QI slk) ?_
 rintro _ _ ⟨⟨x,k,e,rfl,hr⟩,rfl⟩
 have he:=Vv hr
 refine Y J<|ab J J (aO J J)<|ab J J (aO J J)<|ab J J (aO J J)<|ae J<|ae J<|ae J<|O<|ar<|aa<|Y J<|aS J<|ao J<|ax J J<|Y J<|nH 23 J (λgv=> ?_) (λgv=> ?_)
 ·exact ah J<|ah J<|aA J<|O<|cg J<|aa<|Y J<|aS J<|ao J<|aE J J<|O<|aa<|ae J<|O<|aa<|Y J<|ae J<|O<|av<|aU<|aF.ay (rI b ⟨s.b,s.n,true⟩ slk)<|aZ J J al (⟨0,⟨s.b,s.n,true⟩,J,J,.inr ⟨J,J,.inl gv⟩⟩)
 refine aj J<|Y J<|aj J<|ab J J (dB J J)<|aA J<|O<|bz J (λno=> ?_) (λno=> ?_)
 ·have u7:nn s.b 0 0 10:=by rcases he with ⟨e1,_⟩ | ⟨e1,e2,e3⟩; omega; (subst e1; subst e2; subst e3; exact hr)
  exact aa<|Y J<|aS J<|ao J<|aE J J<|O<|aa<|ae J<|O<|aa<|Y J<|ae J<|O<|av<|aU<|aF.ay (rI b ⟨s.b,s.n,true⟩ slk)<|aZ J J al (⟨0,⟨s.b,s.n,true⟩,J,J,.inr ⟨J,J,.inr u7⟩⟩)
 obtain rfl:e=0:=by omega
 have hk:=(S9 hr).2.1
 refine az<|ai<|bW (J3 b (s.n:Int) s.bad::[]) [19] [0,2,4,6,8,12,16,18,20,22,24,26,11,14,28,30,33,34,36,39] (by kernel_rfl) al<|aq J J<|aq J J<|aq J J<|aL J J<|aw J J<|aq J J<|aq J J<|aL J J<|aw J J<|ak J J (R' J)<|aq J J<|ak J J (bE J J (by omega))<|oH 44 (.int .i64 ((s.n+k:Nat):Int)) J<|an J<|ax J J<|au<|ak J J (EU J J (by omega))<|er 38 (v':=.slice (oI A k c 1) (s.b.drop k).length (c - k)) J (by rw [uB]; rfl)<|aL J J<|aw J J<|an J<|aE J J<|au<|aL J J<|aw J J<|an J<|aE J J<|gZ J<|aR<|aa<|Y J<|ae J<|O<|av<|aF.ay (rI b ⟨s.b.drop k,s.n+k,s.bad⟩ (a_.drop (slk (A:=A) (c:=c)) hk)) ?_
 rw [gv]
 exact aZ J J al (⟨x,⟨s.b.drop k,s.n+k,false⟩,J,J,.inl ⟨gv,k,hr,J⟩⟩)
theorem ajj {e:Nat} (h:ti bs most x n e):(e=0/\n<=bs.length)\/(e=10/\x=⟨#[]⟩/\n=0):=by
 rcases h with ⟨h1,h2,h3,h4,h5⟩ | ⟨h1,h2,h3,h4⟩
 ·exact .inl ⟨h1,h5⟩
 ·exact .inr ⟨h1,h2,h3⟩
theorem acu (hk:a_ L (aI .u8) A c bs):Fn prog 396 #[.slice A bs.length c] L (λv L'=>(∃ (s:ByteArray) (n e:Nat),v=.tuple #[.string s,.int .i64 (n:Int),.int .i64 (e:Int)]/\ti bs 32 s n e)/\L'=L):=by
 refine aH func396 J J J J<|aa<|ae J<|ae J<|ae J<|O<|aa<|Y J<|aJ J J (YD hk 32 (by decide)) ?_
 rintro _ _ ⟨⟨s,n,e,rfl,hr⟩,rfl⟩
 exact ab J J (aO J J)<|ab J J (aO J J)<|ab J J (aO J J)<|ae J<|ae J<|ae J<|O<|av<|ja (.inl J) J (bf.tmp J) (bf.tmp J) (bf.tmp J) bu.g (⟨⟨s,n,e,J,hr⟩,J⟩)
theorem acv (hn:s.n+s.b.length<=140737488355328):Fn prog 395 #[.pointer (some ⟨b,0,none⟩),.func (.func 396) #[] #[]] (gL b s::L) (λv L'=>∃ x s',v=.string x/\L'=gL b s'::L/\NR 32 s x s'):=by
 refine aH func395 J J J J<|Di λA c=>aa<|ae J<|O<|aa<|Y J<|Y J<|aS J<|ao J<|ax J J<|jx J J J (acu slk) ?_
 rintro _ _ ⟨⟨x,k,e,rfl,hr⟩,rfl⟩
 have he:=ajj hr
 refine Y J<|ab J J (aO J J)<|ab J J (aO J J)<|ab J J (aO J J)<|ae J<|ae J<|ae J<|O<|ar<|aa<|Y J<|aS J<|ao J<|ax J J<|Y J<|nH 23 J (λgv=> ?_) (λgv=> ?_)
 ·exact ah J<|ah J<|aA J<|O<|cg J<|aa<|Y J<|aS J<|ao J<|aE J J<|O<|aa<|ae J<|O<|aa<|Y J<|ae J<|O<|av<|aU<|aF.ay (rI b ⟨s.b,s.n,true⟩ slk)<|aZ J J al (⟨⟨#[]⟩,⟨s.b,s.n,true⟩,J,J,.inr ⟨J,J,.inl gv⟩⟩)
 refine aj J<|Y J<|aj J<|ab J J (dB J J)<|aA J<|O<|bz J (λno=> ?_) (λno=> ?_)
 ·have u7:ti s.b 32 ⟨#[]⟩ 0 10:=by rcases he with ⟨e1,_⟩ | ⟨e1,e2,e3⟩; omega; (subst e1; subst e2; subst e3; exact hr)
  exact aa<|Y J<|aS J<|ao J<|aE J J<|O<|aa<|ae J<|O<|aa<|Y J<|ae J<|O<|av<|aU<|aF.ay (rI b ⟨s.b,s.n,true⟩ slk)<|aZ J J al (⟨⟨#[]⟩,⟨s.b,s.n,true⟩,J,J,.inr ⟨J,J,.inr u7⟩⟩)
 obtain rfl:e=0:=by omega
 have hk:=(S_ hr).2.1
 refine az<|ai<|bW (J3 b (s.n:Int) s.bad::[]) [19] [0,2,4,6,8,12,16,18,20,22,24,26,11,14,28,30,33,34,36,39] (by kernel_rfl) al<|aq J J<|aq J J<|aq J J<|aL J J<|aw J J<|aq J J<|aq J J<|aL J J<|aw J J<|ak J J (R' J)<|aq J J<|ak J J (bE J J (by omega))<|oH 44 (.int .i64 ((s.n+k:Nat):Int)) J<|an J<|ax J J<|au<|ak J J (EU J J (by omega))<|er 38 (v':=.slice (oI A k c 1) (s.b.drop k).length (c - k)) J (by rw [uB]; rfl)<|aL J J<|aw J J<|an J<|aE J J<|au<|aL J J<|aw J J<|an J<|aE J J<|gZ J<|aR<|aa<|Y J<|ae J<|O<|av<|aF.ay (rI b ⟨s.b.drop k,s.n+k,s.bad⟩ (a_.drop (slk (A:=A) (c:=c)) hk)) ?_
 rw [gv]
 exact aZ J J al (⟨x,⟨s.b.drop k,s.n+k,false⟩,J,J,.inl ⟨gv,k,hr,J⟩⟩)
open Go Go.Proofs Go.Proofs.Tryz
theorem Ls {R:List HP} {x:Operand} [ht:iG P t false] [hf:jz L b (gL b s) R] (hx:ev E x=some (.pointer (some ⟨b,2,none⟩))):Yl P E L (.load t x) ty (.bool s.bad):=λn D W a w dst pos af g ha hs=>by
 obtain ⟨p,hv⟩:=sI (hs.ay hf.g)
 exact dY (L:=cells b [.slice p.1 s.b.length p.2,.int .i64 (s.n:Int),.bool s.bad] 258::sl (aI .u8) p.1 p.2 s.b::R) (ht:=ht) hx rfl n D W a w dst pos af g ha hv
theorem nF (most:Int) (hm:0<=most/\most<=4611686018427387904) (hn:s.n+s.b.length<=140737488355328):Fn prog 259 #[.pointer (some ⟨b,0,none⟩),.int .i64 most] (gL b s::L) (λv L'=>∃ x s',v=.int .i64 x/\L'=gL b s'::L/\eC (de most) (de most) f5 s x s'):=by
 refine aH func259 J J J J<|aa<|ae J<|O<|aa<|Y J<|aJ J J (act hn) ?_
 rintro _ _ ⟨x,s1,rfl,rfl,ht⟩
 have h:=akI hm ht
 refine ae J<|O<|ar<|aa<|Y J<|Y J<|ab J J (lO J)<|br 10 (v':=.int .u64 most) J (by rw [show most=((most.toNat:Nat):Int) by omega,yb (by omega)])<|ab J J (eE J J)<|O<|bz J (λgJ=> ?_) (λgJ=> ?_)
 ·exact Di λA c=>aa<|Y J<|aS J<|ao J<|aE J J<|O<|aa<|ae J<|O<|av<|aU<|aF.ay (rI b ⟨s1.b,s1.n,true⟩ slk)<|aZ J J al (⟨0,⟨s1.b,s1.n,true⟩,J,J,h.2 (by omega)⟩)
 exact az<|ai<|aa<|Y J<|ab J J (lO J)<|br 16 (v':=.int .i64 (x:Int)) J (by congr 1; exact IntWalk.i64_in _ (by omega))<|ae J<|O<|av<|aZ J J al (⟨(x:Int),s1,J,J,h.1 (by omega)⟩)
theorem ajk (h:NR 32 s x s'):eC fy (λx=>x.size<=32) iJ s x ⟨s'.b,s'.n,s'.bad || !decide (fy x)⟩:=by
 by_cases hx:fy x
 ·have:=(Wo h).1 hx; simpa [hx] using this
 ·have:=(Wo h).2 hx; simpa [hx] using this
theorem HQ (hn:s.n+s.b.length<=140737488355328):Fn prog 334 #[.pointer (some ⟨b,0,none⟩)] (gL b s::L) (λv L'=>∃ x s',v=.string x/\L'=gL b s'::L/\eC fy (λx=>x.size<=32) iJ s x s'):=by
 refine aH func334 J J J J<|aa<|ae J<|O<|aa<|Y J<|aJ J J (acv hn) ?_
 rintro _ _ ⟨x,s1,rfl,rfl,ht⟩
 have h:=ajk ht
 have ew:=h.iv
 refine ae J<|O<|Di λA c=>aa<|Y J<|Y J<|aS J<|ao J<|ax J J<|Y J<|nH 11 J (λgJ=> ?_) (λgJ=> ?_)
 ·exact ah J<|ah J<|ah J<|aA J<|br 15 (v':=.bool (s1.bad || !decide (fy x))) J (by rw [gJ]; rfl)<|aS J<|ao J<|aE J J<|O<|aa<|Y J<|ae J<|O<|av<|aF.ay (rI b ⟨s1.b,s1.n,s1.bad || !decide (fy x)⟩ slk)<|aZ J J al (⟨x,_,J,J,h⟩)
 exact aj J<|Y J<|aj J<|aB J J (rH _ x (by simp only [cE]; omega))<|aj J<|ab J J (ff J)<|aA J<|br 15 (v':=.bool (s1.bad || !decide (fy x))) J (by rw [gJ]; rfl)<|aS J<|ao J<|aE J J<|O<|aa<|Y J<|ae J<|O<|av<|aF.ay (rI b ⟨s1.b,s1.n,s1.bad || !decide (fy x)⟩ slk)<|aZ J J al (⟨x,_,J,J,h⟩)
theorem aic {x:Int} (h:eC (de 1) (de 1) f5 s x s'):eC (λ_:Bool=>True) (λ_=>True) uP s (decide (x=1)) s':=by
 have hx:=h.iv
 unfold de at hx
 exact h.map (λx=>decide (x=1)) (λb=>if b then 1 else 0) (by by_cases h1:x=1 <;> simp [h1]; omega) (λy=>⟨λ_=>by cases y <;> simp [de],λ_=>trivial⟩) (λy=>rfl) (λ_=>trivial)
theorem Ry (hn:s.n+s.b.length<=140737488355328):Fn prog 335 #[.pointer (some ⟨b,0,none⟩)] (gL b s::L) (λv L'=>∃ x s',v=.bool x/\L'=gL b s'::L/\eC (λ_:Bool=>True) (λ_=>True) uP s x s'):=by
 refine aH func335 J J J J<|aa<|ae J<|O<|aa<|Y J<|aJ J J (nF 1 (by decide) hn) ?_
 rintro _ _ ⟨x,s1,rfl,rfl,h⟩
 exact ab J J (ce J J)<|ae J<|O<|av<|aZ J J al (⟨decide (x=1),s1,J,J,aic h⟩)
structure sp {α:Type} (ok iv:α->Prop) (b:α->List Int) (n:Nat) (s:RS) (xs:List α) (s':RS):Prop where
 snd:s'.bad=false->s.bad=false/\(∀ x∈xs,ok x)/\s.b=jC b xs++s'.b
 cmp:∀ ys r,s.bad=false->(∀ y∈ys,ok y)->ys.length=n->s.b=jC b ys++r->s'.bad=false/\s'.b=jC b (ys.drop xs.length)++r
 eU:s'.n+s'.b.length=s.n+s.b.length
 iv:∀ x∈xs,iv x
variable{α:Type}
theorem adT (b:α->List Int) (x:α) (l:List α):jC b (x::l)=b x++jC b l:=by simp [jC]
theorem adU (b:α->List Int) (l:List α) (x:α):jC b (l++[x])=jC b l++b x:=by simp [jC]
section
variable {α:Type} {ok iv:α->Prop} {b:α->List Int} {n:Nat} {s s0 st O5:RS} {xs:List α} {x:α}
theorem sp.zero:sp ok iv b n s [] s:=⟨λh=>⟨h,by simp,by simp [jC]⟩,λys r h _ _ e=>⟨h,by simpa using e⟩,rfl,by simp⟩
theorem sp.next (hp:PF ok b) (h:sp ok iv b n s xs st) (hl:xs.length < n) (hx:eC ok iv b st x O5):sp ok iv b n s (xs++[x]) O5:=by
 refine ⟨λk=> ?_,λys r hs hy hn he=> ?_,by rw [hx.eU,h.eU],λy hy=> ?_⟩
 ·obtain ⟨a1,a2,a3⟩:=hx.snd k
  obtain ⟨c1,c2,c3⟩:=h.snd a1
  refine ⟨c1,λy hy=> ?_,by rw [c3,a3,adU,fh]⟩
  rcases gD.1 hy with hy | hy
  ·exact c2 y hy
  ·simp at hy; subst hy; exact a2
 ·obtain ⟨g1,g2⟩:=h.cmp ys r hs hy hn he
  have cL:xs.length < ys.length:=by omega
  rw [xQ cL,adT,fh] at g2
  have Xe:=hy _ (Ef cL)
  have k:=hx.cmp _ _ g1 Xe g2
  obtain ⟨a1,a2,a3⟩:=hx.snd k
  obtain ⟨_,e⟩:=hp _ _ _ _ a2 Xe (a3.symm.trans g2)
  exact ⟨k,by rw [e]; simp⟩
 ·rcases gD.1 hy with hy | hy
  ·exact h.iv y hy
  ·simp at hy; subst hy; exact hx.iv
def mv (ok:α->Prop) (most:Nat) (v:List α):Prop:=v.length<=most/\∀ x∈v,ok x
def qd (b:α->List Int) (v:List α):List Int:=f5 (v.length:Int)++jC b v
theorem sp.done {most:Nat} (hm:most<=4096) (h0:eC (de (most:Int)) (de (most:Int)) f5 s0 (n:Int) s) (h:sp ok iv b n s xs st) (hl:xs.length<=n) (hd:xs.length=n\/st.bad=true):eC (mv ok most) (mv iv most) (qd b) s0 xs st:=by
 have hn:=h0.iv
 unfold de at hn
 refine ⟨λk=> ?_,λys r hs hy he=> ?_,by rw [h.eU,h0.eU],by omega,h.iv⟩
 ·obtain ⟨a1,a2,a3⟩:=h.snd k
  obtain ⟨c1,c2,c3⟩:=h0.snd a1
  have hx:xs.length=n:=hd.resolve_right (by rw [k]; simp)
  exact ⟨c1,⟨by omega,a2⟩,by rw [c3,a3,qd,fh,hx]⟩
 ·have Gy:=hy.1
  unfold qd at he
  rw [fh] at he
  have hr:de (most:Int) (ys.length:Int):=by unfold de; omega
  have g1:=h0.cmp _ _ hs hr he
  obtain ⟨c1,c2,c3⟩:=h0.snd g1
  obtain ⟨e1,e2⟩:=jn (most:=(most:Int)) (by omega) _ _ _ _ c2 hr (c3.symm.trans he)
  exact (h.cmp ys r g1 hy.2 (by omega) e2).1
end
open Go Go.Proofs Go.Proofs.Tryz
theorem ME {α:Type} {R:bZ α} {x:α} {l:List Value} (h:bV L (λM=>R.fO M x l)):bV L (λM=>f9 M R [x] l):=h.mono λM h=>⟨l,[],h,rfl,by simp⟩
structure PG (α:Type) where
 xs:List α
 s:RS
 A:Option Addr
 c:Nat
abbrev FX (bx b:Nat):HP:=cells bx [.pointer (some ⟨b,0,none⟩)] 256
theorem ZK (hn:s.n+s.b.length<=140737488355328):Fn prog 357 #[.pointer (some ⟨bx,0,none⟩)] (gL b s::FX bx b::L) (λv L'=>∃ x s',v=.int .i64 x/\L'=gL b s'::FX bx b::L/\eC (de 2147483647) (de 2147483647) f5 s x s'):=by
 refine aH func357 J J J J<|aa<|ae J<|O<|aa<|ax J J<|aJ J J (nF 2147483647 (by decide) hn) ?_
 rintro _ _ ⟨x,s1,rfl,rfl,h⟩
 exact ae J<|O<|av<|aZ J J al (⟨x,s1,J,J,h⟩)
theorem YY (most:Nat) (yJ:most<=4096) (hn:s.n+s.b.length<=140737488355328):Fn prog 356 #[.pointer (some ⟨b,0,none⟩),.int .i64 (most:Int),.func (.func 357) #[] #[.pointer (some ⟨bx,0,none⟩)]] (gL b s::FX bx b::L) (λv L'=>∃ xs A c s',v=.slice A xs.length c/\L'=sl (aI .i64) A c xs::gL b s'::FX bx b::L/\eC (mv (de 2147483647) most) (mv (de 2147483647) most) (qd f5) s xs s'):=by
 refine aH func356 J J J J<|aa<|ae J<|O<|aa<|ae J<|O<|ar<|aa<|Y J<|Y J<|aJ J J (nF (most:Int) (by omega) hn) ?_
 rintro _ _ ⟨x0,s0,rfl,rfl,h0⟩
 obtain ⟨m,rfl⟩:∃ m:Nat,x0=(m:Int):=⟨x0.toNat,by have:=h0.iv; unfold de at this; omega⟩
 have hm:=h0.iv
 unfold de at hm
 have wY:=h0.eU
 refine ae J<|O<|aX<|cY (σ:=PG Int) [0,2] (λg=>g.xs.length<=m/\sp (de 2147483647) (de 2147483647) f5 m s0 g.xs g.s) (λg kv=>(8,.int .i64 ((m:Int) - (g.xs.length:Int)))::(7,.slice g.A g.xs.length g.c)::kv) (λg=>aN (aI .i64) 3 g.A g.c g.xs::gL b g.s::FX bx b::L) (λg=>m - g.xs.length) (⟨[],s0,none,0⟩) J (⟨dF _,sp.zero⟩) (du _ _ _ _) (dC (by show some (Value.int .i64 (m:Int))=some (Value.int .i64 ((m:Int) - (([]:List Int).length:Int))); simp) (dC J (dC J (dC J (iM))))) ?_
 rintro ⟨xs,st,A,c⟩ ⟨hl,nv⟩
 dsimp only at hl nv ⊢
 have VL:=nv.eU
 refine ar<|aa<|Y J<|ab J J (eE J J)<|Y J<|dl 14 J (λgK=> ?_) (λgK=> ?_)
 ·refine aj J<|Y J<|aj J<|aS J<|aj J<|ao J<|aj J<|ab J J (Ls J)<|aj J<|ab J J (ff J)<|aA J<|O<|gF J (λjU=> ?_) (λjU=> ?_)
  ·refine az<|ai<|ar<|aX<|aQ<|Y J<|Y J<|g_ bx<|aP b<|jx J J J (ZK (by omega)) ?_
   rintro _ _ ⟨x,s2,rfl,rfl,hx⟩
   refine ef J J J J J J λBQ=> ?_
   have hxv:=hx.iv
   unfold de at hxv
   refine eh (k:=1) (aI .i64) [x] (ME (bV.const λM=>⟨J,da (by omega)⟩)) J (by decide)<|bF<|aV 26 (.slice (some ⟨BQ,0,none⟩) [x].length 1) J<|fi J J J J J slk (by simp only [dO,ej]; omega) λDX DY=>ae J<|O<|bA<|ai<|aQ<|Y J<|ab J J (jb J J (by omega))<|br 22 (v':=.int .i64 ((m:Int) - ((xs++[x]).length:Int))) J (by congr 1; simp; omega)<|ae J<|O<|ai ?_
   exact ⟨⟨xs++[x],s2,DX,DY⟩,⟨by simp only [eQ,dO,ej]; omega,nv.next (jn (by decide)) (by omega) hx⟩,by simp only [eQ,dO,ej]; omega,bO rfl⟩
  refine cw<|aY<|aY<|cu<|ai ?_
  have hd:xs.length=m\/st.bad=true:=.inr (by simpa using jU)
  exact CP A c<|uF<|aa<|Y J<|ae J<|O<|av<|aZ J J al (⟨xs,A,c,st,J,J,nv.done yJ h0 hl hd⟩)
 refine ah J<|ah J<|ah J<|ah J<|ah J<|aA J<|O<|aT J<|cw<|aY<|aY<|cu<|ai ?_
 have hd:xs.length=m\/st.bad=true:=.inl (by omega)
 exact CP A c<|uF<|aa<|Y J<|ae J<|O<|av<|aZ J J al (⟨xs,A,c,st,J,J,nv.done yJ h0 hl hd⟩)
theorem ajl {s s1:RS} {v:List Int} (h:eC (mv (de 2147483647) 7) (mv (de 2147483647) 7) (qd f5) s v s1):eC pz (mv (de 2147483647) 7) rW s v ⟨s1.b,s1.n,s1.bad || kJ v⟩:=by
 refine ⟨λk=> ?_,λy r hs hy he=> ?_,h.eU,h.iv⟩
 ·simp only [Ea] at k
  obtain ⟨a1,a2,a3⟩:=h.snd k.1
  exact ⟨a1,⟨a2.2,a2.1,k.2⟩,a3⟩
 ·have g:=h.cmp y r hs ⟨hy.2.1,hy.1⟩ he
  obtain ⟨a1,a2,a3⟩:=h.snd g
  have e:=a3.symm.trans he
  unfold qd rW at e
  rw [fh,fh] at e
  have h1:=a2.1; have h2:=hy.2.1
  obtain ⟨e1,_⟩:=CU (jn (most:=2147483647) (by decide)) (by omega) (by omega) a2.2 hy.1 e
  subst e1
  simp only [g,hy.2.2,Bool.or_false]
theorem afm {α:Type} {R:bZ α} {xs:List α} {c':Code} (hk:bR L R A c xs) (h:∀ b o,(xs≠[]->A=some ⟨b,o,none⟩)->T r n P c' ⟨D,E,L⟩ Q):T r n P c' ⟨D,E,L⟩ Q:=by
 cases xs with
 | nil=>exact h 0 0 (λk=>absurd rfl k)
 | cons x xs=>exact gr (j:=0) (u:=x) hk rfl λb o e=>h b o (λ_=>e)
theorem KG (hn:s.n+s.b.length<=140737488355328):Fn prog 264 #[.pointer (some ⟨b,0,none⟩)] (gL b s::L) (λv L'=>∃ xs A c s',v=.slice A xs.length c/\L'=sl (aI .i64) A c xs::gL b s'::L/\eC pz (mv (de 2147483647) 7) rW s xs s'):=by
 refine aH func264 J J J J<|aa<|bS J J J λb1=>ae J<|O<|aa<|ax J J<|ab J J (gy J J)<|g_ b1<|aP b<|aJ J J (YY 7 (by decide) hn) ?_
 rintro _ _ ⟨v,A6,c6,s1,rfl,rfl,h⟩
 have hv:=ajl h
 have eP:=h.iv.1
 refine ae J<|O<|afm (bJ (A:=A6) (c:=c6)) λbq oq hA=>cQ b<|Di λAr cr=>bW _ [21] [0,2,4,6,8,10,12,14,16,18,20,22,24,26,28,30,32,34,36,38,40,43] (by kernel_rfl) (am.refl _)<|aG J J J<|aG J J J<|aL J J<|aw J J<|aG J J J<|aq J J<|L_ 12 J (λf2=> ?_) (λf2=> ?_)
 ·exact aD J J<|aD J J<|aD J J<|aD J J<|dS J J J J<|dS J J J J<|dS J J J J<|dS J J J J<|dS J J J J<|dS J J J J<|dS J J J J<|aD J J<|ak J J (d9 J J)<|er 25 (v':=.bool (s1.bad || kJ v)) J (by rw [f2]; rfl)<|aL J J<|aw J J<|an J<|aE J J<|gZ J<|aR<|aa<|Y J<|ae J<|O<|av<|aF.ay (rI b ⟨s1.b,s1.n,s1.bad || kJ v⟩ slk)<|aZ J J al (⟨v,A6,c6,_,J,J,hv⟩)
 refine aC J J (cU J)<|aC J J (bY J)<|aC J J (eE J J)<|aC J J (cU J)<|gE 16 J (λeI=> ?_) (λeI=> ?_)
 ·refine aC J J (cU J)<|aC J J (cU J)<|aC J J (bY J)<|aC J J (jb J J (by omega))<|er 20 (v':=.int .i64 ((v.length - 1:Nat):Int)) J (by congr 1; omega) ?_
  have iS:v≠[]:=λe=>by rw [e] at eI; simp at eI
  obtain ⟨q,hq⟩:∃ q,v[v.length - 1]? =some q:=⟨_,cj (by omega)⟩
  exact aC J J (iX (R:=aI .i64) (xs:=v) (b:=bq) (o:=oq) (by rw [<- hA iS]; rfl) J J hq)<|aC J J (gi (R:=aI .i64) (c:=c6) (xs:=v) (q:=0) J (by rw [<- hA iS]; exact bJ) hq J)<|aC J J (ce J J)<|aC J J (d9 J J)<|ak J J (dG J J)<|er 25 (v':=.bool (s1.bad || kJ v)) J (by rw [f2,show kJ v=decide (q=0) by unfold kJ; rw [hq]; simp; omega]; rfl)<|aL J J<|aw J J<|an J<|aE J J<|gZ J<|aR<|aa<|Y J<|ae J<|O<|av<|aF.ay (rI b ⟨s1.b,s1.n,s1.bad || kJ v⟩ slk)<|aZ J J al (⟨v,A6,c6,_,J,J,hv⟩)
 exact aD J J<|aD J J<|aD J J<|aD J J<|aD J J<|aD J J<|aD J J<|aC J J (dG J J)<|ak J J (dG J J)<|er 25 (v':=.bool (s1.bad || kJ v)) J (by rw [f2,show kJ v=false by unfold kJ; rw [cJ]; omega]; rfl)<|aL J J<|aw J J<|an J<|aE J J<|gZ J<|aR<|aa<|Y J<|ae J<|O<|av<|aF.ay (rI b ⟨s1.b,s1.n,s1.bad || kJ v⟩ slk)<|aZ J J al (⟨v,A6,c6,_,J,J,hv⟩)
open Go Go.Proofs Go.Proofs.Tryz
theorem Q8 (hn:s.n+s.b.length<=140737488355328):Fn prog 260 #[.pointer (some ⟨b,0,none⟩)] (gL b s::L) (λv L'=>∃ x s',v=wJ x/\L'=gL b s'::L/\eC jr jr wW s x s'):=by
 refine aH func260 J J J J<|aa<|bB J J λb2=>O<|aa<|Y J<|aP b<|aJ J J (nF 2147483647 (by decide) hn) ?_
 rintro _ _ ⟨x0,s0,rfl,rfl,h0⟩
 have DZ:=h0.eU
 refine ae J<|O<|aa<|Y J<|Y J<|aP b<|aJ J J (nF 6 (by decide) (by omega)) ?_
 rintro _ _ ⟨x1,s1,rfl,rfl,h1⟩
 exact ab J J (bI J J)<|aE J J<|O<|av<|eK (.inl J) J (bf.agg J J) bu.g (⟨(x0,x1),s1,J,J,h0.seq (jn (by decide)) h1⟩)
theorem ajm {s s0 s1 s2 s3:RS} {x0 x1:ByteArray} {x2:Int} {x3:List Int} (h0:eC fy (λx=>x.size<=32) iJ s x0 s0) (h1:eC fy (λx=>x.size<=32) iJ s0 x1 s1) (h2:eC (de 2147483647) (de 2147483647) f5 s1 x2 s2) (h3:eC pz (mv (de 2147483647) 7) rW s2 x3 s3):eC nR fC wI s ⟨x0,x1,x2,x3⟩ s3:=
 (h0.seq yq (h1.seq yq (h2.seq (jn (by decide)) h3))).map (ok2:=nR) (iv2:=fC) (b2:=wI) (λp=>(⟨p.1,p.2.1,p.2.2.1,p.2.2.2⟩:dv)) (λx=>(x.cV,(x.aK,(x.eO,x.cut)))) rfl (λy=>Iff.rfl) (λy=>rfl) (λ⟨a,b,c,d⟩=>by
  have h:=d.1
  unfold de at c
  dsimp only at a b c h
  exact ⟨by simp only [cE]; omega,by simp only [cE]; omega,da (by show -9223372036854775808<=x2/\x2<=9223372036854775807; omega),by show x3.length<=_; omega⟩)
theorem acw (hn:s.n+s.b.length<=140737488355328):Fn prog 355 #[.pointer (some ⟨b,0,none⟩)] (gL b s::L) (λv L'=>∃ x A c s',v=.agg (List.toArray (pj x (A,c)))/\L'=sl (aI .i64) A c x.cut::gL b s'::L/\eC nR fC wI s x s'):=by
 refine aH func355 J J J J<|aa<|bB J J λb2=>O<|aa<|Y J<|aP b<|aJ J J (HQ hn) ?_
 rintro _ _ ⟨x0,s0,rfl,rfl,h0⟩
 have DZ:=h0.eU
 refine ab J J (bI J J)<|bB J J λb3=>aE J J<|O<|aa<|Y J<|aP b<|aJ J J (HQ (by omega)) ?_
 rintro _ _ ⟨x1,s1,rfl,rfl,h1⟩
 have J4:=h1.eU
 refine ao J<|aE J J<|O<|aa<|Y J<|aP b<|aJ J J (nF 2147483647 (by decide) (by omega)) ?_
 rintro _ _ ⟨x2,s2,rfl,rfl,h2⟩
 have xD:=h2.eU
 refine ao J<|aE J J<|O<|aa<|Y J<|aP b<|aJ J J (KG (by omega)) ?_
 rintro _ _ ⟨x3,A3,c3,s3,rfl,rfl,h3⟩
 exact ao J<|aE J J<|O<|aa<|bD J J<|aE J J<|O<|av<|eK (.inl J) J (bf.agg J J) bu.g (⟨⟨x0,x1,x2,x3⟩,A3,c3,s3,J,J,ajm h0 h1 h2 h3⟩)
def CW (e:dZ):Prop:=fC e.order
theorem afn {s0:RS} (h0:eC (λ_:Bool=>True) (λ_=>True) uP s true s0):eC f_ CW pn s ⟨true,⟨⟨#[]⟩,⟨#[]⟩,0,[]⟩⟩ s0:=by
 refine ⟨λk=> ?_,λy r hs hy he=> ?_,h0.eU, ?_⟩
 ·obtain ⟨a1,_,a3⟩:=h0.snd k
  exact ⟨a1,by decide,by simpa [pn] using a3⟩
 ·unfold pn at he
  rw [fh] at he
  exact h0.cmp _ _ hs trivial he
 ·unfold CW fC; decide
theorem afo {s s0 s1:RS} {o:dv} (h0:eC (λ_:Bool=>True) (λ_=>True) uP s false s0) (h1:eC nR fC wI s0 o s1):eC f_ CW pn s ⟨false,o⟩ s1:=by
 refine ⟨λk=> ?_,λy r hs hy he=> ?_,by rw [h1.eU,h0.eU],h1.iv⟩
 ·obtain ⟨c1,c2,c3⟩:=h1.snd k
  obtain ⟨a1,_,a3⟩:=h0.snd c1
  exact ⟨a1,by unfold f_; simpa using c2,by rw [a3,c3]; simp [pn]⟩
 ·unfold pn at he
  rw [fh] at he
  have g:=h0.cmp _ _ hs trivial he
  obtain ⟨a1,_,a3⟩:=h0.snd g
  obtain ⟨e1,e2⟩:=Mi (a3.symm.trans he)
  unfold f_ at hy
  rw [<- e1] at hy e2
  exact h1.cmp y.order r g (by simpa using hy) (by simpa using e2)
theorem Rz (hn:s.n+s.b.length<=140737488355328):Fn prog 261 #[.pointer (some ⟨b,0,none⟩)] (gL b s::L) (λv L'=>∃ x A c s',v=.agg (List.toArray (hO x (A,c)))/\L'=sl (aI .i64) A c x.order.cut::gL b s'::L/\eC f_ CW pn s x s'):=by
 refine aH func261 J J J J<|aa<|bB J J λb2=>O<|ar<|aa<|Y J<|aP b<|aJ J J (Ry hn) ?_
 rintro _ _ ⟨x0,s0,rfl,rfl,h0⟩
 have DZ:=h0.eU
 refine O<|gF J (λh4=> ?_) (λh4=> ?_)
 ·refine aa<|ab J J (bI J J)<|aE J J<|O<|av<|aU ?_
  rw [h4] at h0
  exact aF.ay (dP (A:=none) (c:=0) (R:=aI .i64)).lay<|eK (.inl J) J (bf.agg J J) bu.g (⟨_,none,0,s0,J,J,afn h0⟩)
 refine az<|ai<|aa<|Y J<|aP b<|aJ J J (acw (by omega)) ?_
 rintro _ _ ⟨x1,A1,c1,s1,rfl,rfl,h1⟩
 refine ab J J (bI J J)<|aE J J<|O<|av ?_
 rw [h4] at h0
 exact eK (.inl rfl) rfl (bf.agg rfl rfl) bu.g (⟨⟨false,x1⟩,A1,c1,s1,rfl,rfl,afo h0 h1⟩)
variable{x0:Int}
theorem ag2 {s s0 s1 s2 s3 s4 s5 s6 s7:RS} {x1 x4 x6:Int} {x2:List Int} {x3 x5:ByteArray} {x7:Bool} (h0:eC (de 6) (de 6) f5 s x0 s0) (h1:eC (de 2147483647) (de 2147483647) f5 s0 x1 s1) (h2:eC pz (mv (de 2147483647) 7) rW s1 x2 s2) (h3:eC fy (λx=>x.size<=32) iJ s2 x3 s3) (h4:eC (de 2147483647) (de 2147483647) f5 s3 x4 s4) (h5:eC fy (λx=>x.size<=32) iJ s4 x5 s5) (h6:eC (de 1000) (de 1000) f5 s5 x6 s6) (h7:eC (λ_:Bool=>True) (λ_=>True) uP s6 x7 s7):eC nb kj qS s ⟨(x0,x1),x2,x3,x4,x5,x6,x7⟩ s7:=
 (h0.seq (jn (by decide)) (h1.seq (jn (by decide)) (h2.seq E6 (h3.seq yq (h4.seq (jn (by decide)) (h5.seq yq (h6.seq (jn (by decide)) h7))))))).map (ok2:=nb) (iv2:=kj) (b2:=qS) (λp=>(⟨(p.1,p.2.1),p.2.2.1,p.2.2.2.1,p.2.2.2.2.1,p.2.2.2.2.2.1,p.2.2.2.2.2.2.1,p.2.2.2.2.2.2.2⟩:aW)) (λx=>(x.dot.1,(x.dot.2,(x.d7,(x.aK,(x.eO,(x.di,(x.eZ,x.jy)))))))) rfl (λy=>by unfold nb; simp) (λy=>rfl) (λ⟨a,b,c,d,e,f,g,_⟩=>by
  have h:=c.1
  unfold de at a b e g
  dsimp only at a b d e f g h
  exact ⟨da (by show -9223372036854775808<=x0/\x0<=9223372036854775807; omega),da (by show -9223372036854775808<=x1/\x1<=9223372036854775807; omega),by show x2.length<=_; omega,by simp only [cE]; omega,da (by show -9223372036854775808<=x4/\x4<=9223372036854775807; omega),by simp only [cE]; omega,da (by show -9223372036854775808<=x6/\x6<=9223372036854775807; omega)⟩)
theorem aa5 (hn:s.n+s.b.length<=140737488355328):Fn prog 231 #[.pointer (some ⟨b,0,none⟩)] (gL b s::L) (λv L'=>∃ x A c s',v=.agg (List.toArray (fv x (A,c)))/\L'=sl (aI .i64) A c x.d7::gL b s'::L/\eC nb kj qS s x s'):=by
 refine aH func231 J J J J<|aa<|bB J J λb2=>O<|aa<|ab J J (bI J J)<|bB J J λb3=>aE J J<|O<|aa<|Y J<|aP b<|aJ J J (nF 6 (by decide) hn) ?_
 rintro _ _ ⟨x0,s0,rfl,rfl,h0⟩
 have DZ:=h0.eU
 refine ao J<|ao J<|aE J J<|O<|aa<|Y J<|aP b<|aJ J J (nF 2147483647 (by decide) (by omega)) ?_
 rintro _ _ ⟨x1,s1,rfl,rfl,h1⟩
 have J4:=h1.eU
 refine ao J<|ao J<|aE J J<|O<|aa<|Y J<|aP b<|aJ J J (KG (by omega)) ?_
 rintro _ _ ⟨x2,A2,c2,s2,rfl,rfl,h2⟩
 have xD:=h2.eU
 refine ao J<|aE J J<|O<|aa<|Y J<|aP b<|aJ J J (HQ (by omega)) ?_
 rintro _ _ ⟨x3,s3,rfl,rfl,h3⟩
 have PH:=h3.eU
 refine ao J<|aE J J<|O<|aa<|Y J<|aP b<|aJ J J (nF 2147483647 (by decide) (by omega)) ?_
 rintro _ _ ⟨x4,s4,rfl,rfl,h4⟩
 have ht4:=h4.eU
 refine ao J<|aE J J<|O<|aa<|Y J<|aP b<|aJ J J (HQ (by omega)) ?_
 rintro _ _ ⟨x5,s5,rfl,rfl,h5⟩
 have PJ:=h5.eU
 refine ao J<|aE J J<|O<|aa<|Y J<|aP b<|aJ J J (nF 1000 (by decide) (by omega)) ?_
 rintro _ _ ⟨x6,s6,rfl,rfl,h6⟩
 have ht6:=h6.eU
 refine ao J<|aE J J<|O<|aa<|Y J<|aP b<|aJ J J (Ry (by omega)) ?_
 rintro _ _ ⟨x7,s7,rfl,rfl,h7⟩
 exact ao J<|aE J J<|O<|aa<|bD J J<|aE J J<|O<|av<|eK (.inl J) J (bf.agg J J) bu.g (⟨⟨(x0,x1),x2,x3,x4,x5,x6,x7⟩,A2,c2,s7,J,J,ag2 h0 h1 h2 h3 h4 h5 h6 h7⟩)
theorem ag3 {s s0 s1 s2:RS} {x1:Int × Int} {x2:dZ} (h0:eC (de 2147483647) (de 2147483647) f5 s x0 s0) (h1:eC jr jr wW s0 x1 s1) (h2:eC f_ CW pn s1 x2 s2):eC mF pU rO s ⟨x0,x1,x2⟩ s2:=
 (h0.seq (jn (by decide)) (h1.seq Ix h2)).map (ok2:=mF) (iv2:=pU) (b2:=rO) (λp=>(⟨p.1,p.2.1,p.2.2⟩:dj)) (λx=>(x.slot,(x.bj,x.en))) rfl (λy=>Iff.rfl) (λy=>rfl) (λ⟨a,b,c⟩=>by
  obtain ⟨b1,b2⟩:=b
  unfold de at a b1 b2
  dsimp only at a b1 b2
  exact ⟨da (by show -9223372036854775808<=x0/\x0<=9223372036854775807; omega),da (by show -9223372036854775808<=x1.1/\x1.1<=9223372036854775807; omega),da (by show -9223372036854775808<=x1.2/\x1.2<=9223372036854775807; omega),c⟩)
theorem aa6 (hn:s.n+s.b.length<=140737488355328):Fn prog 263 #[.pointer (some ⟨b,0,none⟩)] (gL b s::L) (λv L'=>∃ x A c s',v=.agg (List.toArray (tT x (A,c)))/\L'=sl (aI .i64) A c x.en.order.cut::gL b s'::L/\eC mF pU rO s x s'):=by
 refine aH func263 J J J J<|aa<|bB J J λb2=>O<|aa<|Y J<|aP b<|aJ J J (nF 2147483647 (by decide) hn) ?_
 rintro _ _ ⟨x0,s0,rfl,rfl,h0⟩
 have DZ:=h0.eU
 refine ab J J (bI J J)<|bB J J λb3=>aE J J<|O<|aa<|Y J<|aP b<|aJ J J (Q8 (by omega)) ?_
 rintro _ _ ⟨x1,s1,rfl,rfl,h1⟩
 have J4:=h1.eU
 refine ao J<|aE J J<|O<|aa<|Y J<|aP b<|aJ J J (Rz (by omega)) ?_
 rintro _ _ ⟨x2,A2,c2,s2,rfl,rfl,h2⟩
 exact ao J<|aE J J<|O<|aa<|bD J J<|aE J J<|O<|av<|eK (.inl J) J (bf.agg J J) bu.g (⟨⟨x0,x1,x2⟩,A2,c2,s2,J,J,ag3 h0 h1 h2⟩)
theorem X4 (most:Nat) (yJ:most<=4096) (hn:s.n+s.b.length<=140737488355328):Fn prog 262 #[.pointer (some ⟨b,0,none⟩),.int .i64 (most:Int),.func (.func 263) #[.pointer (some ⟨b,0,none⟩)] #[]] (gL b s::L) (λv L'=>∃ xs A c s',v=.slice A xs.length c/\L'=sl dz A c xs::gL b s'::L/\eC (mv mF most) (mv pU most) (qd rO) s xs s'):=by
 refine aH func262 J J J J<|aa<|ae J<|O<|aa<|ae J<|O<|ar<|aa<|Y J<|Y J<|aJ J J (nF (most:Int) (by omega) hn) ?_
 rintro _ _ ⟨x0,s0,rfl,rfl,h0⟩
 obtain ⟨m,rfl⟩:∃ m:Nat,x0=(m:Int):=⟨x0.toNat,by have:=h0.iv; unfold de at this; omega⟩
 have hm:=h0.iv
 unfold de at hm
 have wY:=h0.eU
 refine ae J<|O<|aX<|cY (σ:=PG dj) [0,2] (λg=>g.xs.length<=m/\sp mF pU rO m s0 g.xs g.s) (λg kv=>(8,.int .i64 ((m:Int) - (g.xs.length:Int)))::(7,.slice g.A g.xs.length g.c)::kv) (λg=>aN dz 323 g.A g.c g.xs::gL b g.s::L) (λg=>m - g.xs.length) (⟨[],s0,none,0⟩) J (⟨dF _,sp.zero⟩) (du _ _ _ _) (dC (by show some (Value.int .i64 (m:Int))=some (Value.int .i64 ((m:Int) - (([]:List dj).length:Int))); simp) (dC J (dC J (dC J (iM))))) ?_
 rintro ⟨xs,st,A,c⟩ ⟨hl,nv⟩
 dsimp only at hl nv ⊢
 have VL:=nv.eU
 refine ar<|aa<|Y J<|ab J J (eE J J)<|Y J<|dl 14 J (λgK=> ?_) (λgK=> ?_)
 ·refine aj J<|Y J<|aj J<|aS J<|aj J<|ao J<|aj J<|ab J J (Ls J)<|aj J<|ab J J (ff J)<|aA J<|O<|gF J (λjU=> ?_) (λjU=> ?_)
  ·refine az<|ai<|ar<|aX<|aQ<|Y J<|Y J<|aP b<|jx J J J (aa6 (by omega)) ?_
   rintro _ _ ⟨x,J5,J6,s2,rfl,rfl,hx⟩
   refine ef J J J J J J λBQ=>eh (k:=1) dz [x] (ME (fI (J5,J6) (lk slk) hx.iv)) J (by decide)<|bF<|aV 26 (.slice (some ⟨BQ,0,none⟩) [x].length 1) J<|fi J J J J J slk (by simp only [dO,ej]; omega) λDX DY=>ae J<|O<|bA<|ai<|aQ<|Y J<|ab J J (jb J J (by omega))<|br 22 (v':=.int .i64 ((m:Int) - ((xs++[x]).length:Int))) J (by congr 1; simp; omega)<|ae J<|O<|ai ?_
   exact ⟨⟨xs++[x],s2,DX,DY⟩,⟨by simp only [eQ,dO,ej]; omega,nv.next Ml (by omega) hx⟩,by simp only [eQ,dO,ej]; omega,bO rfl⟩
  refine cw<|aY<|aY<|cu<|ai ?_
  have hd:xs.length=m\/st.bad=true:=.inr (by simpa using jU)
  exact CP A c<|uF<|aa<|Y J<|ae J<|O<|av<|aZ J J al (⟨xs,A,c,st,J,J,nv.done yJ h0 hl hd⟩)
 refine ah J<|ah J<|ah J<|ah J<|ah J<|aA J<|O<|aT J<|cw<|aY<|aY<|cu<|ai ?_
 have hd:xs.length=m\/st.bad=true:=.inl (by omega)
 exact CP A c<|uF<|aa<|Y J<|ae J<|O<|av<|aZ J J al (⟨xs,A,c,st,J,J,nv.done yJ h0 hl hd⟩)
theorem X5 (most:Nat) (yJ:most<=4096) (hn:s.n+s.b.length<=140737488355328):Fn prog 265 #[.pointer (some ⟨b,0,none⟩),.int .i64 (most:Int),.func (.func 231) #[.pointer (some ⟨b,0,none⟩)] #[]] (gL b s::L) (λv L'=>∃ xs A c s',v=.slice A xs.length c/\L'=sl bK A c xs::gL b s'::L/\eC (mv nb most) (mv kj most) (qd qS) s xs s'):=by
 refine aH func265 J J J J<|aa<|ae J<|O<|aa<|ae J<|O<|ar<|aa<|Y J<|Y J<|aJ J J (nF (most:Int) (by omega) hn) ?_
 rintro _ _ ⟨x0,s0,rfl,rfl,h0⟩
 obtain ⟨m,rfl⟩:∃ m:Nat,x0=(m:Int):=⟨x0.toNat,by have:=h0.iv; unfold de at this; omega⟩
 have hm:=h0.iv
 unfold de at hm
 have wY:=h0.eU
 refine ae J<|O<|aX<|cY (σ:=PG aW) [0,2] (λg=>g.xs.length<=m/\sp nb kj qS m s0 g.xs g.s) (λg kv=>(8,.int .i64 ((m:Int) - (g.xs.length:Int)))::(7,.slice g.A g.xs.length g.c)::kv) (λg=>aN bK 49 g.A g.c g.xs::gL b g.s::L) (λg=>m - g.xs.length) (⟨[],s0,none,0⟩) J (⟨dF _,sp.zero⟩) (du _ _ _ _) (dC (by show some (Value.int .i64 (m:Int))=some (Value.int .i64 ((m:Int) - (([]:List aW).length:Int))); simp) (dC J (dC J (dC J (iM))))) ?_
 rintro ⟨xs,st,A,c⟩ ⟨hl,nv⟩
 dsimp only at hl nv ⊢
 have VL:=nv.eU
 refine ar<|aa<|Y J<|ab J J (eE J J)<|Y J<|dl 14 J (λgK=> ?_) (λgK=> ?_)
 ·refine aj J<|Y J<|aj J<|aS J<|aj J<|ao J<|aj J<|ab J J (Ls J)<|aj J<|ab J J (ff J)<|aA J<|O<|gF J (λjU=> ?_) (λjU=> ?_)
  ·refine az<|ai<|ar<|aX<|aQ<|Y J<|Y J<|aP b<|jx J J J (aa5 (by omega)) ?_
   rintro _ _ ⟨x,J5,J6,s2,rfl,rfl,hx⟩
   refine ef J J J J J J λBQ=>eh (k:=1) bK [x] (ME (fI (J5,J6) (lk slk) hx.iv)) J (by decide)<|bF<|aV 26 (.slice (some ⟨BQ,0,none⟩) [x].length 1) J<|fi J J J J J slk (by simp only [dO,ej]; omega) λDX DY=>ae J<|O<|bA<|ai<|aQ<|Y J<|ab J J (jb J J (by omega))<|br 22 (v':=.int .i64 ((m:Int) - ((xs++[x]).length:Int))) J (by congr 1; simp; omega)<|ae J<|O<|ai ?_
   exact ⟨⟨xs++[x],s2,DX,DY⟩,⟨by simp only [eQ,dO,ej]; omega,nv.next Mk (by omega) hx⟩,by simp only [eQ,dO,ej]; omega,bO rfl⟩
  refine cw<|aY<|aY<|cu<|ai ?_
  have hd:xs.length=m\/st.bad=true:=.inr (by simpa using jU)
  exact CP A c<|uF<|aa<|Y J<|ae J<|O<|av<|aZ J J al (⟨xs,A,c,st,J,J,nv.done yJ h0 hl hd⟩)
 refine ah J<|ah J<|ah J<|ah J<|ah J<|aA J<|O<|aT J<|cw<|aY<|aY<|cu<|ai ?_
 have hd:xs.length=m\/st.bad=true:=.inl (by omega)
 exact CP A c<|uF<|aa<|Y J<|ae J<|O<|av<|aZ J J al (⟨xs,A,c,st,J,J,nv.done yJ h0 hl hd⟩)
open Go Go.Proofs Go.Proofs.Tryz
theorem ajn {s s0 s1 s2 s3 s4 s5 s6 s7 s8 s9:RS} {x1 x2 x4 x9:Int} {x3:Int × Int} {x5:dZ} {x6:List dj} {x7:List Int} {x8:List aW} (h0:eC (de 255) (de 255) f5 s x0 s0) (h1:eC (de 6) (de 6) f5 s0 x1 s1) (h2:eC (de 6) (de 6) f5 s1 x2 s2) (h3:eC jr jr wW s2 x3 s3) (h4:eC (de 2147483647) (de 2147483647) f5 s3 x4 s4) (h5:eC f_ CW pn s4 x5 s5) (h6:eC (mv mF 4096) (mv pU 4096) (qd rO) s5 x6 s6) (h7:eC pz (mv (de 2147483647) 7) rW s6 x7 s7) (h8:eC (mv nb 4096) (mv kj 4096) (qd qS) s7 x8 s8) (h9:eC (de 4611686018427387904) (de 4611686018427387904) f5 s8 x9 s9):eC lT gf kS s ⟨x0,x1,x2,x3,x4,x5,x6,x7,x8,x9⟩ s9:=
 have pv:PF (mv mF 4096) (qd rO):=λv w r r' hv hw e=>CU Ml hv.1 hw.1 hv.2 hw.2 (by unfold qd at e; rwa [fh,fh] at e)
 have pe:PF (mv nb 4096) (qd qS):=λv w r r' hv hw e=>CU Mk hv.1 hw.1 hv.2 hw.2 (by unfold qd at e; rwa [fh,fh] at e)
 (h0.seq (jn (by decide)) (h1.seq (jn (by decide)) (h2.seq (jn (by decide)) (h3.seq Ix (h4.seq (jn (by decide)) (h5.seq Mj (h6.seq pv (h7.seq E6 (h8.seq pe h9))))))))).map (ok2:=lT) (iv2:=gf) (b2:=kS)
  (λp=>(⟨p.1,p.2.1,p.2.2.1,p.2.2.2.1,p.2.2.2.2.1,p.2.2.2.2.2.1,p.2.2.2.2.2.2.1,p.2.2.2.2.2.2.2.1,p.2.2.2.2.2.2.2.2.1,p.2.2.2.2.2.2.2.2.2⟩:bQ)) (λx=>(x.kind,(x.bC,(x.cH,(x.bj,(x.slot,(x.en,(x.d_,(x.seen,(x.events,x.jq)))))))))) rfl (λy=>Iff.rfl) (λy=>by simp [kS,qd])
  (λ⟨a,b,c,d,e,f,g,h,i,j⟩=>by
   obtain ⟨d1,d2⟩:=d
   unfold de at a b c d1 d2 e j
   dsimp only at a b c d1 d2 e f j
   exact ⟨da (by show -9223372036854775808<=x0/\x0<=9223372036854775807; omega),da (by show -9223372036854775808<=x1/\x1<=9223372036854775807; omega),da (by show -9223372036854775808<=x2/\x2<=9223372036854775807; omega),da (by show -9223372036854775808<=x3.1/\x3.1<=9223372036854775807; omega),da (by show -9223372036854775808<=x3.2/\x3.2<=9223372036854775807; omega),da (by show -9223372036854775808<=x4/\x4<=9223372036854775807; omega),f,da (by show -9223372036854775808<=x9/\x9<=9223372036854775807; omega)⟩)
abbrev mL (m:bQ) (p:gg) (L:List HP):List HP:=sl (aI .i64) p.cut.1 p.cut.2 m.en.order.cut::sl dz p.d_.1 p.d_.2 m.d_::sl (aI .i64) p.seen.1 p.seen.2 m.seen::sl bK p.events.1 p.events.2 m.events::L
theorem adV (hn:s.n+s.b.length<=140737488355328):Fn prog 150 #[.pointer (some ⟨b,0,none⟩)] (gL b s::L) (λv L'=>∃ x p s',v=nk x p/\L'=mL x p (gL b s'::L)/\eC lT gf kS s x s'):=by
 refine aH func150 J J J J<|aa<|bB J J λb2=>O<|aa<|Y J<|aP b<|aJ J J (nF 255 (by decide) hn) ?_
 rintro _ _ ⟨x0,s0,rfl,rfl,h0⟩
 have DZ:=h0.eU
 refine ab J J (bI J J)<|bB J J λb3=>aE J J<|O<|aa<|Y J<|aP b<|aJ J J (nF 6 (by decide) (by omega)) ?_
 rintro _ _ ⟨x1,s1,rfl,rfl,h1⟩
 have J4:=h1.eU
 refine ao J<|aE J J<|O<|aa<|Y J<|aP b<|aJ J J (nF 6 (by decide) (by omega)) ?_
 rintro _ _ ⟨x2,s2,rfl,rfl,h2⟩
 have xD:=h2.eU
 refine ao J<|aE J J<|O<|aa<|Y J<|aP b<|aJ J J (Q8 (by omega)) ?_
 rintro _ _ ⟨x3,s3,rfl,rfl,h3⟩
 have PH:=h3.eU
 refine ao J<|aE J J<|O<|aa<|Y J<|aP b<|aJ J J (nF 2147483647 (by decide) (by omega)) ?_
 rintro _ _ ⟨x4,s4,rfl,rfl,h4⟩
 have ht4:=h4.eU
 refine ao J<|aE J J<|O<|aa<|Y J<|aP b<|aJ J J (Rz (by omega)) ?_
 rintro _ _ ⟨x5,A5,c5,s5,rfl,rfl,h5⟩
 have PJ:=h5.eU
 refine ao J<|aE J J<|O<|aa<|Y J<|Y J<|ab J J (gy J J)<|aP b<|aJ J J (X4 4096 (by decide) (by omega)) ?_
 rintro _ _ ⟨x6,A6,c6,s6,rfl,rfl,h6⟩
 have ht6:=h6.eU
 refine ao J<|aE J J<|O<|aa<|Y J<|aP b<|aJ J J (KG (by omega)) ?_
 rintro _ _ ⟨x7,A7,c7,s7,rfl,rfl,h7⟩
 have ht7:=h7.eU
 refine ao J<|aE J J<|O<|aa<|Y J<|Y J<|ab J J (gy J J)<|aP b<|aJ J J (X5 4096 (by decide) (by omega)) ?_
 rintro _ _ ⟨x8,A8,c8,s8,rfl,rfl,h8⟩
 have ht8:=h8.eU
 refine ao J<|aE J J<|O<|aa<|Y J<|aP b<|aJ J J (nF 4611686018427387904 (by decide) (by omega)) ?_
 rintro _ _ ⟨x9,s9,rfl,rfl,h9⟩
 exact ao J<|aE J J<|O<|aa<|bD J J<|aE J J<|O<|av<|eK (.inl J) J (bf.agg J J) bu.g (⟨⟨x0,x1,x2,x3,x4,x5,x6,x7,x8,x9⟩,⟨(A5,c5),(A6,c6),(A7,c7),(A8,c8)⟩,s9,J,J,ajn h0 h1 h2 h3 h4 h5 h6 h7 h8 h9⟩)
abbrev Bu:bQ:=⟨0,0,0,(0,0),0,⟨false,⟨⟨#[]⟩,⟨#[]⟩,0,[]⟩⟩,[],[],[],0⟩
theorem MX:gf Bu:=⟨by decide,by decide,by decide,by decide,by decide,by decide,by unfold fC; decide,by decide⟩
def PK (bs:List Int):RS:=⟨bs,0,false⟩
def E_ (bs:List Int) (m:bQ) (e:Int):Prop:=∃ x s',eC lT gf kS (PK bs) x s'/\((e=0/\m=x/\s'.bad=false/\s'.b=[]/\bs.length<=65536)\/(e=10/\(s'.bad=true\/s'.b≠[]\/65536 < bs.length)))
theorem ZL (hk:a_ L (aI .u8) A c bs) (hb:bs.length<=140737488355328):Fn prog 79 #[.slice A bs.length c] L (λv L'=>∃ m p e,v=.tuple #[nk m p,.int .i64 e]/\L'=mL m p L/\gf m/\E_ bs m e):=by
 refine aH func79 J J J J<|b_ hk.lay<|aa<|bB J J λb2=>ae J<|O<|aa<|Y J<|ab J J (bI J J)<|bS J J J λb8=>ae J<|O<|aa<|Y J<|bX (rI b8 (PK bs) (a_.tail slk))<|aJ J J (adV (by show 0+bs.length<=_; omega)) ?_
 rintro _ _ ⟨x,p,s1,rfl,rfl,h⟩
 refine bB J J λb5=>aE J J<|O<|ar<|cQ b8<|Di λAr cr=>aa<|Y J<|aS J<|ao J<|ax J J<|Y J<|nH 15 J (λgU=> ?_) (λgU=> ?_)
 ·refine ah J<|ah J<|ah J<|ah J<|ah J<|ah J<|aA J<|Y J<|ah J<|ah J<|ah J<|aA J<|O<|cg J<|aa<|ab J J (bI J J)<|aE J J<|ae J<|O<|av<|aU ?_
  have uZ:E_ bs Bu 10:=⟨x,s1,h,.inr ⟨rfl,.inl gU⟩⟩
  exact aF.ay (dP (A:=none) (c:=0) (R:=aI .i64)).lay<|aF.ay (dP (A:=none) (c:=0) (R:=aI .i64)).lay<|aF.ay (dP (A:=none) (c:=0) (R:=dz)).lay<|aF.ay (dP (A:=none) (c:=0) (R:=bK)).lay<|kK (.inl J) J (bf.agg J J) (bf.tmp J) bu.g (⟨Bu,⟨(none,0),(none,0),(none,0),(none,0)⟩,10,J,J,MX,uZ⟩)
 refine aj J<|Y J<|aj J<|aS J<|aj J<|ao J<|aj J<|ax J J<|aj J<|ab J J (bY J)<|aj J<|ab J J (eE J J)<|aA J<|Y J<|dl 23 J (λgv=> ?_) (λgv=> ?_)
 ·refine ah J<|ah J<|ah J<|aA J<|O<|cg J<|aa<|ab J J (bI J J)<|aE J J<|ae J<|O<|av<|aU ?_
  have uZ:E_ bs Bu 10:=⟨x,s1,h,.inr ⟨rfl,.inr (.inl (by intro e; rw [e] at gv; simp at gv))⟩⟩
  exact aF.ay (dP (A:=none) (c:=0) (R:=aI .i64)).lay<|aF.ay (dP (A:=none) (c:=0) (R:=aI .i64)).lay<|aF.ay (dP (A:=none) (c:=0) (R:=dz)).lay<|aF.ay (dP (A:=none) (c:=0) (R:=bK)).lay<|kK (.inl J) J (bf.agg J J) (bf.tmp J) bu.g (⟨Bu,⟨(none,0),(none,0),(none,0),(none,0)⟩,10,J,J,MX,uZ⟩)
 refine aj J<|Y J<|aj J<|ab J J (bY J)<|aj J<|ab J J (eE J J)<|aA J<|O<|bz J (λtu=> ?_) (λtu=> ?_)
 ·refine aa<|ab J J (bI J J)<|aE J J<|ae J<|O<|av<|aU ?_
  have uZ:E_ bs Bu 10:=⟨x,s1,h,.inr ⟨rfl,.inr (.inr (by omega))⟩⟩
  exact aF.ay (dP (A:=none) (c:=0) (R:=aI .i64)).lay<|aF.ay (dP (A:=none) (c:=0) (R:=aI .i64)).lay<|aF.ay (dP (A:=none) (c:=0) (R:=dz)).lay<|aF.ay (dP (A:=none) (c:=0) (R:=bK)).lay<|kK (.inl J) J (bf.agg J J) (bf.tmp J) bu.g (⟨Bu,⟨(none,0),(none,0),(none,0),(none,0)⟩,10,J,J,MX,uZ⟩)
 refine az<|ai<|aa<|bD J J<|aE J J<|ae J<|O<|av ?_
 exact kK (.inl rfl) rfl (bf.agg rfl rfl) (bf.tmp rfl) bu.g (⟨x,p,0,rfl,rfl,h.iv,x,s1,h,.inl ⟨rfl,rfl,gU,rC (by omega),by omega⟩⟩)
open Go Go.Proofs Go.Proofs.Tryz
abbrev vJ:gg:=⟨(none,0),(none,0),(none,0),(none,0)⟩
variable{m:bQ}
theorem Nk (h1:m.en.order.cut=[]) (h2:m.d_=[]) (h3:m.seen=[]) (h4:m.events=[]):am L (mL m vJ L):=by
 unfold mL
 rw [h1,h2,h3,h4]
 exact (dP.lay).trans (am.trans (dP.lay) (am.trans (dP.lay) (dP.lay)))
theorem afp {s:gm} (m:bQ) (p:gg) (hx:gf m) (hk:fN L m p) (hc:iP m<=140737488355328) (hm:¬ fZ s m):Fn prog 234 #[.pointer (some ⟨b,0,none⟩),.agg (List.toArray (dq m p))] (ac b s::L) (λv L'=>∃ q,v=.tuple #[.agg (List.toArray (dq (fk s m) q)),.string (eY s m),.bool (decide (fZ s m))]/\L'=mL (fk s m) q (ac b (jW s m)::L)):=by
 have e1:fk s m=⟨0,0,0,(0,0),0,⟨false,⟨⟨#[]⟩,⟨#[]⟩,0,[]⟩⟩,[],[],[],0⟩:=by unfold fk; rw [if_neg hm]
 have e2:eY s m=⟨#[]⟩:=by unfold eY; rw [if_neg (λh=>hm h.1)]
 have e3:jW s m=s:=by unfold jW; rw [if_neg (λh=>hm h.1)]
 rw [e1,e2,e3,cJ hm]
 exact aH func234 J J J J<|aa<|bS J J J λb3=>bB J J λb4=>ae J<|ae J<|O<|aa<|Y J<|bD J J<|aP b<|aB J J (En m p hx hk.tail.tail hc)<|aV 11 (.agg #[.string (eY s m),.bool (decide (fZ s m)),.bool (decide (fZ s m/\fA s m))]) J<|bB J J λb7=>aE J J<|O<|ar<|aa<|ao J<|ax J J<|dx 13 J hm<|ab J J (j0 J)<|O<|cg J<|aa<|ab J J (bI J J)<|aE J J<|ae J<|ae J<|O<|av<|aU<|aF.ay (Nk (m:=⟨0,0,0,(0,0),0,⟨false,⟨⟨#[]⟩,⟨#[]⟩,0,[]⟩⟩,[],[],[],0⟩) J J J J)<|ja (.inl J) J (bf.agg J J) (bf.tmp J) (bf.tmp J) bu.g (⟨vJ,J,J⟩)
open Go Go.Proofs Go.Proofs.Tryz
theorem adW (node nodes:Int) (m:bQ) (bs:List Bool) (k:Nat):qi node nodes m bs (k+1)=qi node nodes m bs k++(if nX bs nodes (k:Int) then [] else [uf m node (k:Int)]):=by
 simp only [qi,List.range_succ,nC,kp]
 congr 1
 by_cases h:nX bs nodes (k:Int) <;> simp [h]
theorem If (node nodes:Int) (m:bQ) (bs:List Bool) (k:Nat):(qi node nodes m bs k).length<=k:=by
 have:=kG (λi:Nat=> !decide (nX bs nodes (i:Int))) (List.range k)
 simpa [qi] using this
theorem sL {p:gg} (h:fN L m p):bV L (λM=>Sep [sl (aI .i64) p.cut.1 p.cut.2 m.en.order.cut,sl dz p.d_.1 p.d_.2 m.d_,sl (aI .i64) p.seen.1 p.seen.2 m.seen,sl bK p.events.1 p.events.2 m.events] M Mem.emp):=(bV.and (bV.and h.cut h.d_) (bV.and h.seen h.events)).mono λM x=>Aj x.1.1 (Aj x.1.2 (Aj x.2.1 (Aj x.2.2 trivial)))
structure akJ where
 i:Nat
 A:Option Addr
 c:Nat
variable{bv:Nat}{bs:List Bool}
theorem acx {s:mu} (m:bQ) (q:gg) (hn:1<=s.nodes/\s.nodes<=7) (hb:bs.length=7) (hk:fN L m q) (ho:fC m.en.order) (cX:∀ to:Int,0<=to->to < 7->gf (uf m s.node to)):Fn prog 278 #[.pointer (some ⟨b,0,none⟩),.agg (List.toArray (dq m q)),.func (.func 279) #[.pointer (some ⟨bv,0,none⟩)] #[]] (cells b (gC s) 279::iH bv bs s.nodes::L) (λv L'=>∃ A c,v=.slice A (qi s.node s.nodes m bs s.nodes.toNat).length c/\L'=aN dE 174 A c (qi s.node s.nodes m bs s.nodes.toNat)::cells b (gC s) 279::iH bv bs s.nodes::L):=by
 refine aH func278 J J J J<|aa<|bS J J J λb4=>ae J<|O<|aa<|ae J<|O<|ar<|aa<|Y J<|aS J<|ao J<|ax J J<|Y J<|O<|aX<|cY (σ:=akJ) [0,2,4,13] (λg=>(g.i:Int)<=s.nodes) (λg kv=>(14,.int .i64 (g.i:Int))::(7,.slice g.A (qi s.node s.nodes m bs g.i).length g.c)::kv) (λg=>aN dE 174 g.A g.c (qi s.node s.nodes m bs g.i)::cells b (gC s) 279::iH bv bs s.nodes::cells b4 (dq m q) 174::L) (λg=>7 - g.i) (⟨0,none,0⟩) J ((by simp only; omega)) (am.trans (du dE 174 none _) (am.cons _ al)) (dc J) ?_
 rintro ⟨i,A,c⟩ hi
 dsimp only at hi ⊢
 have ze:=If s.node s.nodes m bs i
 have Ge:=adW s.node s.nodes m bs i
 refine aa<|ab J J (bU J J)<|O<|ar<|bz J (λgU=> ?_) (λgU=> ?_)
 ·refine az<|ai<|ar<|aX<|aa<|Y J<|ae J<|O<|aa<|Y J<|Y J<|g_ bv<|jx J J J (Tw hb hn.2 (i:Int)) ?_
  rintro _ _ ⟨rfl,rfl⟩
  refine ab J J (iF J)<|O<|bz J (λjU=> ?_) (λjU=> ?_)
  ·refine aa<|bD J J<|bB J J λb9=>aE J J<|O<|bW (cells b (gC s) 279::cells b4 (dq m q) 174::[]) [] [0,2,4,6,8,10,12,16,15,19,20,23,24,27] (by kernel_rfl) al<|aq J J<|aL J J<|aw J J<|aG J J J<|aq J J<|aw J J<|cf J J J<|aw J J<|an J<|aJ J J (Hu m.en (A:=q.cut.1) (c:=q.cut.2) (bR.dT al hk.cut.n) ho) ?_
   rintro _ _ ⟨Xf,rfl,rfl⟩
   refine bF<|au<|an J<|aE J J<|au<|aw J J<|an J<|aE J J<|au<|aw J J<|an J<|aE J J<|au<|aR<|aQ<|Y J<|bD J J<|ef J J J J J J λb35=> ?_
   refine eh (k:=1) dE [uf m s.node (i:Int)] (jZ (fI (⟨(Xf.1,Xf.2),q.d_,q.seen,q.events⟩:gg) (sL ⟨slk,a_.dT al hk.d_,a_.dT al hk.seen,a_.dT al hk.events⟩) (cX _ (by omega) (by omega)))) J (by decide)<|bF<|aV 35 (.slice (some ⟨b35,0,none⟩) [uf m s.node (i:Int)].length 1) J ?_
   refine fi J J J J J slk (by simp only [dO,ej]; omega) λJ0 J1=> ?_
   rw [show qi s.node s.nodes m bs i++[uf m s.node (i:Int)]=qi s.node s.nodes m bs (i+1) by rw [Ge,if_neg jU]]
   refine ae J<|O<|bA<|ai<|aQ<|ab J J (bE J J (by omega))<|cz 37 J<|Y J<|O<|ai ?_
   exact ⟨⟨i+1,J0,J1⟩,(by simp only; omega),by simp only; omega,bO rfl⟩
  refine az<|bA<|ai<|aQ<|ab J J (bE J J (by omega))<|cz 37 J<|Y J<|O<|ai ?_
  rw [show qi s.node s.nodes m bs i=qi s.node s.nodes m bs (i+1) by rw [Ge,if_pos (by simpa using jU)]; simp]
  exact ⟨⟨i+1,A,c⟩,(by simp only; omega),by simp only; omega,bO rfl⟩
 refine cw<|aY<|aY<|cu<|ai<|aa<|Y J<|ae J<|O<|av ?_
 obtain rfl:i=s.nodes.toNat:=by omega
 exact aZ J J al (⟨A,c,J,J⟩)
open Go Go.Proofs Go.Proofs.Tryz
theorem afq (h1:m.en.order.cut=[]) (h3:m.seen=[]) (h4:m.events=[]) (hk:a_ L dz A c m.d_):am L (mL m ⟨(none,0),(A,c),(none,0),(none,0)⟩ L):=by
 unfold mL
 rw [h1,h3,h4]
 exact (dP.lay).trans (am.trans (dP.lay) (am.trans (a_.lay hk.tail.tail) (dP.lay)))
variable{s:gm}
theorem adX (m:bQ) (p:gg) (hx:gf m) (hk:fN L m p) (hc:iP m<=140737488355328) (hm:fZ s m) (hn:fA s m):Fn prog 234 #[.pointer (some ⟨b,0,none⟩),.agg (List.toArray (dq m p))] (ac b s::L) (λv L'=>∃ q,v=.tuple #[.agg (List.toArray (dq (fk s m) q)),.string (eY s m),.bool (decide (fZ s m))]/\L'=mL (fk s m) q (ac b (jW s m)::L)):=by
 have e1:fk s m=s_ s m 5 s.prom []:=by unfold fk; rw [if_pos hm,if_pos hn]
 have e2:eY s m=⟨#[]⟩:=by unfold eY; rw [if_neg (λh=>h.2.1 hn)]
 have e3:jW s m=s:=by unfold jW; rw [if_neg (λh=>h.2 hn)]
 rw [e1,e2,e3,dV hm]
 exact aH func234 J J J J<|aa<|bS J J J λb3=>bB J J λb4=>ae J<|ae J<|O<|aa<|Y J<|bD J J<|aP b<|aB J J (En m p hx hk.tail.tail hc)<|aV 11 (.agg #[.string (eY s m),.bool (decide (fZ s m)),.bool (decide (fZ s m/\fA s m))]) J<|bB J J λb7=>aE J J<|O<|ar<|aa<|ao J<|ax J J<|fd 13 J hm<|ab J J (df J)<|O<|aT J<|az<|ai<|cQ b<|vi λbt hi=>bW _ [] [0,2,4,6,8,10,12,14,16,18,20,22,24,26,29,31] (by kernel_rfl) (am.refl _)<|aq J J<|aL J J<|aw J J<|aG J J J<|aw J J<|aG J J J<|aq J J<|aL J J<|aw J J<|cf J J J<|aw J J<|aG J J J<|ak J J (bI J J)<|ak J J (bI J J)<|an J<|bB J J λb8=>au<|an J<|aE J J<|au<|aR<|ar<|aa<|ao J<|ax J J<|fd 31 J ⟨hm,hn⟩<|O<|cg J<|aa<|bD J J<|aE J J<|ae J<|ae J<|O<|av<|aU<|aF.ay (ge b s hi)<|aF.ay (Nk (m:=s_ s m 5 s.prom []) J J J J)<|ja (.inl J) J (bf.agg J J) (bf.tmp J) (bf.tmp J) bu.g (⟨vJ,J,J⟩)
theorem adY (m:bQ) (p:gg) (hx:gf m) (hk:fN L m p) (hc:iP m<=140737488355328) (hm:fZ s m) (hn:¬ fA s m) (h1:m.kind=1):Fn prog 234 #[.pointer (some ⟨b,0,none⟩),.agg (List.toArray (dq m p))] (ac b s::L) (λv L'=>∃ q,v=.tuple #[.agg (List.toArray (dq (fk s m) q)),.string (eY s m),.bool (decide (fZ s m))]/\L'=mL (fk s m) q (ac b (jW s m)::L)):=by
 have e1:fk s m=s_ s m 2 m.bj (ow s.V m.slot):=by unfold fk; rw [if_pos hm,if_neg hn,if_pos h1]
 have e3:jW s m=⟨s.node,m.bj,s.V⟩:=by unfold jW; rw [if_pos ⟨hm,hn⟩,if_pos h1]
 have cK:=λhi:AI s=>hi.step hx
 rw [e3] at cK
 rw [e1,e3,dV hm]
 refine aH func234 J J J J<|aa<|bS J J J λb3=>bB J J λb4=>ae J<|ae J<|O<|aa<|Y J<|bD J J<|aP b<|aB J J (En m p hx hk.tail.tail hc)<|aV 11 (.agg #[.string (eY s m),.bool (decide (fZ s m)),.bool (decide (fZ s m/\fA s m))]) J<|bB J J λb7=>aE J J<|O<|ar<|aa<|ao J<|ax J J<|fd 13 J hm<|ab J J (df J)<|O<|aT J<|az<|ai<|cQ b<|vi λbt hi=>bW _ [] [0,2,4,6,8,10,12,14,16,18,20,22,24,26,29,31] (by kernel_rfl) (am.refl _)<|aq J J<|aL J J<|aw J J<|aG J J J<|aw J J<|aG J J J<|aq J J<|aL J J<|aw J J<|cf J J J<|aw J J<|aG J J J<|ak J J (bI J J)<|ak J J (bI J J)<|an J<|bB J J λb8=>au<|an J<|aE J J<|au<|aR<|ar<|aa<|ao J<|ax J J<|br 31 (v':=.bool false) J (bi Value.bool (cJ λh=>hn h.2))<|O<|aT J<|az<|ai<|bW (cells b3 (dq m p) 174::[]) [] [0,2,4,6,8,10,12,15,16,19] (by kernel_rfl) al<|aq J J<|aw J J<|cf J J J<|aw J J<|cf J J J<|aL J J<|aw J J<|an J<|aE J J<|au<|aw J J<|an J<|aE J J<|au<|aR<|ar<|b_ (ge (bt:=bt) b ⟨s.node,m.bj,s.V⟩ (cK hi))<|aa<|ao J<|ax J J<|ab J J (ce J J)<|fd 43 J h1<|O<|cg J<|aa<|Y J<|ao J<|ax J J<|aP b<|aJ J J (ZG (s:=⟨s.node,m.bj,s.V⟩) m.slot) ?_
 rintro _ _ ⟨BX,BY,rfl,rfl⟩
 exact bF<|ao J<|aE J J<|ao J<|aE J J<|O<|bW (cells b8 [.int .i64 2,.int .i64 s.node,.int .i64 m.bC,.int .i64 m.bj.1,.int .i64 m.bj.2,.int .i64 m.slot,.bool true,.string ⟨#[]⟩,.string ⟨#[]⟩,.int .i64 0,.slice none 0 0,.slice BX (ow s.V m.slot).length BY,.slice none 0 0,.slice none 0 0,.int .i64 0] 174::cells b7 [.string (eY s m),.bool (decide (fZ s m)),.bool (decide (fZ s m/\fA s m))] 363::[]) [] [0,2,4,7,8,10] (by kernel_rfl) al<|cf J J J<|aw J J<|aG J J J<|an J<|aE J J<|au<|ak J J (bT J)<|ak J J (bT J)<|aR<|av<|aU<|aF.ay (afq (m:=s_ s m 2 m.bj (ow s.V m.slot)) J J J (slk (A:=BX) (c:=BY)))<|ja (.inl J) J (bf.agg J J) (bf.tmp J) (bf.tmp J) bu.g (⟨⟨(none,0),(BX,BY),(none,0),(none,0)⟩,J,J⟩)
theorem afr (m:bQ) (p:gg) (hx:gf m) (hk:fN L m p) (hc:iP m<=140737488355328) (hm:fZ s m) (hn:¬ fA s m) (h1:¬ m.kind=1):Fn prog 234 #[.pointer (some ⟨b,0,none⟩),.agg (List.toArray (dq m p))] (ac b s::L) (λv L'=>∃ q,v=.tuple #[.agg (List.toArray (dq (fk s m) q)),.string (eY s m),.bool (decide (fZ s m))]/\L'=mL (fk s m) q (ac b (jW s m)::L)):=by
 have e1:fk s m=s_ s m 4 m.bj []:=by unfold fk; rw [if_pos hm,if_neg hn,if_neg h1]
 have e3:jW s m=⟨s.node,m.bj,t2 s.V (oL m)⟩:=by unfold jW; rw [if_pos ⟨hm,hn⟩,if_neg h1]
 have cK:=λhi:AI s=>hi.step hx
 have ul:pU (oL m):=⟨hx.slot,hx.b1,hx.b2,hx.en⟩
 rw [e3] at cK
 rw [e1,e3,dV hm]
 refine aH func234 J J J J<|aa<|bS J J J λb3=>bB J J λb4=>ae J<|ae J<|O<|aa<|Y J<|bD J J<|aP b<|aB J J (En m p hx hk.tail.tail hc)<|aV 11 (.agg #[.string (eY s m),.bool (decide (fZ s m)),.bool (decide (fZ s m/\fA s m))]) J<|bB J J λb7=>aE J J<|O<|ar<|aa<|ao J<|ax J J<|fd 13 J hm<|ab J J (df J)<|O<|aT J<|az<|ai<|cQ b<|vi λbt hi=>bW _ [] [0,2,4,6,8,10,12,14,16,18,20,22,24,26,29,31] (by kernel_rfl) (am.refl _)<|aq J J<|aL J J<|aw J J<|aG J J J<|aw J J<|aG J J J<|aq J J<|aL J J<|aw J J<|cf J J J<|aw J J<|aG J J J<|ak J J (bI J J)<|ak J J (bI J J)<|an J<|bB J J λb8=>au<|an J<|aE J J<|au<|aR<|ar<|aa<|ao J<|ax J J<|br 31 (v':=.bool false) J (bi Value.bool (cJ λh=>hn h.2))<|O<|aT J<|az<|ai<|bW (cells b3 (dq m p) 174::[]) [] [0,2,4,6,8,10,12,15,16,19] (by kernel_rfl) al<|aq J J<|aw J J<|cf J J J<|aw J J<|cf J J J<|aL J J<|aw J J<|an J<|aE J J<|au<|aw J J<|an J<|aE J J<|au<|aR<|ar<|aa<|ao J<|ax J J<|ab J J (ce J J)<|dx 43 J h1<|O<|aT J<|az<|ai<|bW _ [14] [0,2,4,6,8,10,12,14,16,18,20,22,24,27,29] (by kernel_rfl) (am.refl _)<|aq J J<|aL J J<|aw J J<|aG J J J<|aw J J<|aG J J J<|aw J J<|aG J J J<|aw J J<|cf J J J<|aw J J<|cf J J J<|ak J J (bI J J)<|an J<|aJ J J (QO (oL m) (A:=p.cut.1) (c:=p.cut.2) (bR.dT al hk.cut.n) hx.en) ?_
 rintro _ _ ⟨q,rfl,rfl⟩
 exact bF<|au<|an J<|sH (R:=dz) (k:=m.slot) (u:=oL m) (cs:=tT (oL m) q) (ji (t2 s.V (oL m))) J J J hx.slot (fI q (lk slk) ul) (aeV (V:=s.V) (v:=oL m))<|gZ J<|aR<|aa<|ao J<|aE J J<|O<|bW (cells b8 [.int .i64 4,.int .i64 s.node,.int .i64 m.bC,.int .i64 m.bj.1,.int .i64 m.bj.2,.int .i64 m.slot,.bool true,.string ⟨#[]⟩,.string ⟨#[]⟩,.int .i64 0,.slice none 0 0,.slice none 0 0,.slice none 0 0,.slice none 0 0,.int .i64 0] 174::cells b7 [.string (eY s m),.bool (decide (fZ s m)),.bool (decide (fZ s m/\fA s m))] 363::[]) [] [0,2,4,7,8,10] (by kernel_rfl) al<|cf J J J<|aw J J<|aG J J J<|an J<|aE J J<|au<|ak J J (bT J)<|ak J J (bT J)<|aR<|av<|aF.ay (ge (bt:=bt) b ⟨s.node,m.bj,t2 s.V (oL m)⟩ (cK hi))<|aF.ay (Nk (m:=s_ s m 4 m.bj []) J J J J)<|ja (.inl J) J (bf.agg J J) (bf.tmp J) (bf.tmp J) bu.g (⟨vJ,J,J⟩)
theorem yg (m:bQ) (p:gg) (hx:gf m) (hk:fN L m p) (hc:iP m<=140737488355328):Fn prog 234 #[.pointer (some ⟨b,0,none⟩),.agg (List.toArray (dq m p))] (ac b s::L) (λv L'=>∃ q,v=.tuple #[.agg (List.toArray (dq (fk s m) q)),.string (eY s m),.bool (decide (fZ s m))]/\L'=mL (fk s m) q (ac b (jW s m)::L)):=by
 by_cases hm:fZ s m
 ·by_cases hn:fA s m
  ·exact adX m p hx hk hc hm hn
  ·by_cases h1:m.kind=1
   ·exact adY m p hx hk hc hm hn h1
   ·exact afr m p hx hk hc hm hn h1
 ·exact afp m p hx hk hc hm
open Go Go.Proofs
theorem afs (n:Int):0 < (f5 n).length:=Il _
theorem aft (m:bQ):0 < (kS m).length:=by have:=afs m.kind; unfold kS; simp only [eQ]; omega
open Go Go.Proofs
theorem MF:eY s m=⟨#[]⟩↔¬ (fZ s m/\¬ fA s m/\fE s m):=by
 unfold eY
 by_cases h:fZ s m/\¬ fA s m/\fE s m
 ·rw [if_pos h]
  refine ⟨λe=> ?_,λe=>absurd h e⟩
  have h1:=bi ByteArray.size e
  rw [strOfNums_size,(CV h.1.1).2] at h1
  have h2:=aft m
  have h3:ByteArray.size ⟨#[]⟩=0:=rfl
  omega
 ·rw [if_neg h]
  exact ⟨λ_=>h,λ_=>rfl⟩
theorem yk (s:gm) (m:bQ):(jW s m).node=s.node:=by unfold jW; split <;> rfl
theorem afu (h1:m.en.order.cut=[]) (h2:m.d_=[]) (h3:m.seen=[]) (h4:m.events=[]):fN L m vJ:=⟨by rw [h1]; exact dP,by rw [h2]; exact dP,by rw [h3]; exact dP,by rw [h4]; exact dP⟩
theorem Az:fC yG.order:=⟨by decide,by decide,by decide,by decide⟩
open Go Go.Proofs Go.Proofs.Tryz
theorem iy:bP .i64 0:=by decide
abbrev aid (kind bC cH:Int):bQ:=⟨kind,bC,cH,(0,0),0,yG,[],[],[],0⟩
abbrev Bv (node cH:Int) (ap:List Int):bQ:=⟨7,node,cH,(0,0),0,yG,[],dK ap,[],0⟩
abbrev rh (node cH:Int) (l:List aW):bQ:=⟨8,node,cH,(0,0),0,yG,[],[],l,0⟩
theorem HA (kind bC cH:Int) (L:List HP):Fn prog 286 #[.int .i64 kind,.int .i64 bC,.int .i64 cH] L (λv L'=>v=nk (aid kind bC cH) vJ/\L'=L):=by
 exact aH func286 J J J J<|aa<|bB J J λb6=>O<|aa<|Y J<|Y J<|Y J<|ab J J (bI J J)<|ab J J (bI J J)<|aE J J<|O<|av<|eK (.inl J) J (bf.agg J J) bu.g (⟨J,J⟩)
variable{s:List dv}
theorem QP {node:Int} (cH:Int):Fn prog 181 #[.pointer (some ⟨b,0,none⟩),.int .i64 cH] (rp b node by_ ap s::L) (λv L'=>∃ A c,v=nk (Bv node cH ap) ⟨(none,0),(none,0),(A,c),(none,0)⟩/\L'=sl (aI .i64) A c (dK ap)::rp b node by_ ap s::L):=by
 refine aH func181 J J J J<|aa<|bB J J λb4=>O<|ar<|aa<|Y J<|ab J J (fR J J (dh.eJ))<|O<|ir J (by simp)<|az<|ai<|aa<|Y J ?_
 refine aP b<|aB J J (Cq)<|Y J<|aB J J (HA _ _ _ _)<|bB J J λb5=>aE J J<|O<|aa<|Y J ?_
 refine aP b<|aJ J J (vX) ?_
 rintro _ _ ⟨vv,vw,rfl,rfl⟩
 exact bF<|ao J<|aE J J<|O<|aa<|bD J J<|aE J J<|O<|av<|eK (.inl J) J (bf.agg J J) bu.g (⟨vv,vw,J,J⟩)
def nh (node:Int) (by_:List (List aW)) (ap:List Int) (m:bQ):List bQ:=(if (gA 16 by_ (hQ m.seen)).length > 0 then [rh node m.bC (gA 16 by_ (hQ m.seen))] else [])++(if mb m.seen (dK ap)=true then [] else [Bv node m.bC ap])
theorem X6 {node:Int} (m:bQ) (q:gg) (h:m.kind=7/\m.cH=node/\m.bC≠node):Fn prog 361 #[.pointer (some ⟨b,0,none⟩),nk m q,.int .i64 7] (rp b node by_ ap s::L) (λv L'=>v=.bool true/\L'=rp b node by_ ap s::L):=by
 refine aH func361 J J J J<|aa<|bS J J J λb4=>ae J<|O<|bW (cells b4 (dq m q) 174::[]) [] [0,2,4,6,8,10,12,14,16,18,20,22,25,26,28,30,32,34,36,39,40,42,44] (by kernel_rfl) al<|aq J J<|ak J J (f8 J J (dh.eJ))<|er 8 (v':=.bool true) J (by simp)<|aq J J<|aC J J (dp J)<|aC J J (dY J J)<|aC J J (cU J)<|aC J J (ce J J)<|pJ 13 J h.1<|ak J J (d9 J J)<|aq J J<|aC J J (dp J)<|aC J J (dY J J)<|aC J J (cU J)<|an J<|aj J ?_
 refine aP b<|aB J J (Cq)<|au<|aC J J (ce J J)<|pJ 20 J h.2.1<|ak J J (d9 J J)<|aq J J<|aC J J (dp J)<|aC J J (dY J J)<|aC J J (cU J)<|an J<|aj J ?_
 exact aP b<|aB J J (Cq)<|au<|aC J J (dB J J)<|pJ 27 J h.2.2<|ak J J (d9 J J)<|ak J J (bT J)<|aR<|av<|cI J J
theorem ag4 (node cH:Int) (ap:List Int) (h:bP .i64 node/\bP .i64 cH):gf (Bv node cH ap):=⟨show bP .i64 7 by decide,h.1,h.2,iy,iy,iy,Az,iy⟩
theorem MY (node cH:Int) (l:List aW) (h:bP .i64 node/\bP .i64 cH):gf (rh node cH l):=⟨show bP .i64 8 by decide,h.1,h.2,iy,iy,iy,Az,iy⟩
theorem sM (q:gg) (h:fN L m q) (ho:gf m):bV L (λM=>f9 M dE [m] (dq m q)):=jZ (fI q (sL h) ho)
theorem YZ {node:Int} (m:bQ) (q:gg) (h:m.kind=7/\m.cH=node/\m.bC≠node) (hr:lT m) (hk:fN L m q):Fn prog 270 #[.pointer (some ⟨b,0,none⟩),nk m q] (rp b node by_ ap s::L) (λv L'=>∃ A c,v=.slice A (nh node by_ ap m).length c/\L'=aN dE 174 A c (nh node by_ ap m)::rp b node by_ ap s::L):=by
 have hv:=hr.2.2.2.2.2.2.2.1
 have GI:=hr.2.1
 have uo:=hr.2.2.1
 unfold de at GI uo
 have ib:bP .i64 node/\bP .i64 m.bC:=⟨by rw [<- h.2.1]; exact da (by omega),da (by omega)⟩
 have DW:=R9 by_ 16 (hQ m.seen)
 refine aH func270 J J J J ?_
 refine b_ (a_.lay (a_.tail hk.seen))<|aa<|bS J J J λb3=>ae J<|O<|ar<|aa<|Y J<|bD J J ?_
 refine aP b<|aB J J (X6 m q h)<|aV 10 (.bool true) J<|ab J J (df J)<|O<|aT J<|az<|ai<|aa<|ae J<|O<|ar<|bW (cells b3 (dq m q) 174::[]) [] [0,2,4,8,10,7,13,14] (by kernel_rfl) al<|aq J J<|aL J J<|aw J J<|aw J J<|aG J J J<|an J ?_
 refine aP b<|ajh λp hi=>ax J J<|au<|an J ?_
 refine aP p.bl<|aJ J J (Zx (a_.dT bu.g (slk (L:=[sl (aI .i64) q.seen.1 q.seen.2 m.seen]))) (λx hx↦hv.1 x hx) (by have:=hv.2.1; omega)) ?_
 rintro _ _ ⟨oP,n4,rfl,rfl⟩
 refine bF ?_
 refine bX (tM (bl:=p.bl) (S:=p.S) (cs:=p.cs) b node by_ ap s hi)<|au<|ak J J (bT J)<|aR<|aa<|Y J<|ab J J (bY J)<|ab J J (eE J J)<|O<|Ae (σ:=Option Addr × Nat) [0,3] (λg=>True) (λg kv=>(5,.slice g.1 (if (gA 16 by_ (hQ m.seen)).length > 0 then [rh node m.bC (gA 16 by_ (hQ m.seen))] else []).length g.2)::kv) (λg=>aN dE 174 g.1 g.2 (if (gA 16 by_ (hQ m.seen)).length > 0 then [rh node m.bC (gA 16 by_ (hQ m.seen))] else [])::rp b node by_ ap s::cells b3 (dq m q) 174::sl (aI .i64) q.seen.1 q.seen.2 m.seen::L) J ?_ ?_
 ·refine bz J (λkW=> ?_) (λkW=> ?_)
  ·refine iQ (by kernel_rfl)<|fq 1 5 (by decide) ?_ ?_
   ·refine fq 4 5 (by decide) ?_ ?_
    ·refine dN (cells b3 (dq m q) 174::[]) [] [0,4,6,3,9,11,13] (by kernel_rfl) al<|aq J J<|aw J J<|aG J J J<|an J ?_
     refine aP b<|aB J J (Cq)<|au<|an J<|aB J J (HA _ _ _ _)<|au<|an J<|bB J J λb7=>au<|an J<|aE J J<|au<|aR<|ai<|aa<|Y J<|ao J<|aE J J<|O<|aQ<|Y J<|bD J J<|ef J J J J J J λmw=> ?_
     refine eh (k:=1) dE [rh node m.bC (gA 16 by_ (hQ m.seen))] (sM ⟨(none,0),(none,0),(none,0),(oP,n4)⟩ ⟨dP,dP,dP,a_.dT bu.g (slk (L:=[sl bK oP n4 (gA 16 by_ (hQ m.seen))]))⟩ (MY _ _ _ ib)) J (by decide)<|bF<|aV 31 (.slice (some ⟨mw,0,none⟩) [rh node m.bC (gA 16 by_ (hQ m.seen))].length 1) J ?_
     refine bX (du dE 174 none _)<|aV 29 (.slice none ([]:List bQ).length 0) J ?_
     refine fi J J J J J slk (by (try simp only [eQ,dO,ej]); omega) λBZ B0=> ?_
     simp only [dm]
     refine ae J<|O<|ai ?_
     rw [if_pos (show (gA 16 by_ (hQ m.seen)).length > 0 by omega)]
     exact ⟨(BZ,B0),trivial,bO rfl⟩
    refine dN (cells b3 (dq m q) 174::[]) [] [0,4,6,3,11,9,13] (by kernel_rfl) al<|aq J J<|aw J J<|aG J J J<|an J ?_
    refine aP b<|aB J J (Cq)<|au<|an J<|bB J J λb7=>au<|an J<|aB J J (HA _ _ _ _)<|au<|an J<|aE J J<|au<|aR<|ai<|aa<|Y J<|ao J<|aE J J<|O<|aQ<|Y J<|bD J J<|ef J J J J J J λmw=> ?_
    refine eh (k:=1) dE [rh node m.bC (gA 16 by_ (hQ m.seen))] (sM ⟨(none,0),(none,0),(none,0),(oP,n4)⟩ ⟨dP,dP,dP,a_.dT bu.g (slk (L:=[sl bK oP n4 (gA 16 by_ (hQ m.seen))]))⟩ (MY _ _ _ ib)) J (by decide)<|bF<|aV 31 (.slice (some ⟨mw,0,none⟩) [rh node m.bC (gA 16 by_ (hQ m.seen))].length 1) J ?_
    refine bX (du dE 174 none _)<|aV 29 (.slice none ([]:List bQ).length 0) J ?_
    refine fi J J J J J slk (by (try simp only [eQ,dO,ej]); omega) λBZ B0=> ?_
    simp only [dm]
    refine ae J<|O<|ai ?_
    rw [if_pos (show (gA 16 by_ (hQ m.seen)).length > 0 by omega)]
    exact ⟨(BZ,B0),trivial,bO rfl⟩
   refine dN (cells b3 (dq m q) 174::[]) [] [0,4,6,11,3,9,13] (by kernel_rfl) al<|aq J J<|aw J J<|aG J J J<|an J<|bB J J λb7=>au<|an J ?_
   refine aP b<|aB J J (Cq)<|au<|an J<|aB J J (HA _ _ _ _)<|au<|an J<|aE J J<|au<|aR<|ai<|aa<|Y J<|ao J<|aE J J<|O<|aQ<|Y J<|bD J J<|ef J J J J J J λmw=> ?_
   refine eh (k:=1) dE [rh node m.bC (gA 16 by_ (hQ m.seen))] (sM ⟨(none,0),(none,0),(none,0),(oP,n4)⟩ ⟨dP,dP,dP,a_.dT bu.g (slk (L:=[sl bK oP n4 (gA 16 by_ (hQ m.seen))]))⟩ (MY _ _ _ ib)) J (by decide)<|bF<|aV 31 (.slice (some ⟨mw,0,none⟩) [rh node m.bC (gA 16 by_ (hQ m.seen))].length 1) J ?_
   refine bX (du dE 174 none _)<|aV 29 (.slice none ([]:List bQ).length 0) J ?_
   refine fi J J J J J slk (by (try simp only [eQ,dO,ej]); omega) λBZ B0=> ?_
   simp only [dm]
   refine ae J<|O<|ai ?_
   rw [if_pos (show (gA 16 by_ (hQ m.seen)).length > 0 by omega)]
   exact ⟨(BZ,B0),trivial,bO rfl⟩
  refine az<|ai ?_
  rw [if_neg (show ¬ (gA 16 by_ (hQ m.seen)).length > 0 by omega)]
  exact ⟨(none,0),trivial,iY (dC rfl (dC rfl (dC rfl (iM)))) ((du dE 174 none _).trans al)⟩
 rintro ⟨A5,c5⟩ _
 refine ar<|bW (cells b3 (dq m q) 174::[]) [] [0,2,4,7,9,10] (by kernel_rfl) al<|aw J J<|aG J J J<|aq J J<|an J ?_
 refine aP b<|aJ J J (vX) ?_
 rintro _ _ ⟨J0,J1,rfl,rfl⟩
 refine bF<|au<|an J<|aB J J (Hx (a:=m.seen) (b:=dK ap) bJ bJ)<|au<|ak J J (ff J)<|aR<|gF J (λr9=> ?_) (λr9=> ?_)
 ·refine aQ<|Y J<|Y J<|ao J<|ax J J ?_
  refine aP b<|aJ J J (QP m.bC) ?_
  rintro _ _ ⟨A43,c43,rfl,rfl⟩
  refine ef J J J J J J λPL=> ?_
  refine eh (k:=1) dE [Bv node m.bC ap] (sM ⟨(none,0),(none,0),(A43,c43),(none,0)⟩ ⟨dP,dP,slk,dP⟩ (ag4 _ _ _ ib)) J (by decide)<|bF<|aV 44 (.slice (some ⟨PL,0,none⟩) [Bv node m.bC ap].length 1) J ?_
  refine fi J J J J J slk (by (split <;> simp only [dO,ej]) <;> omega) λPM PN=>ae J<|O<|ai<|aa<|Y J<|ae J<|O<|av ?_
  have hE:nh node by_ ap m=(if (gA 16 by_ (hQ m.seen)).length > 0 then [rh node m.bC (gA 16 by_ (hQ m.seen))] else [])++[Bv node m.bC ap]:=by unfold nh; rw [if_neg (show ¬ (mb m.seen (dK ap)=true) from by simpa using r9)]
  rw [hE]
  exact aZ J J al (⟨PM,PN,J,J⟩)
 refine az<|ai<|aa<|Y J<|ae J<|O<|av ?_
 have hE:nh node by_ ap m=(if (gA 16 by_ (hQ m.seen)).length > 0 then [rh node m.bC (gA 16 by_ (hQ m.seen))] else []):=by unfold nh; rw [if_pos (show mb m.seen (dK ap)=true from by simpa using r9),tE]
 rw [hE]
 exact aZ J J al (⟨A5,c5,J,J⟩)
open Go
structure il where
 id:Int
 kind:Int
 aK:ByteArray
 di:ByteArray
 eZ:Int
 jy:Bool
 cV:ByteArray
abbrev Wp:=Option (List aW × ByteArray)
structure mJ where
 id:Int
 err:Int
 dot:gT
 my:Wp
 ord:jk
 known:Bool
 lN:List Int
 UL:Int
inductive jl where
 | gh (m:bQ)
 | dR (a:mJ)
structure ls where
 call:il
 slot:Int
 bj:Int × Int
 aie:Bool
structure cG where
 id:Int
 nodes:Int
 now:Int
 km:Nat
 size:Nat
 by_:List (List aW)
 ap:List Int
 fu:List dv
 ac:gm
 pr:PP
 lr:List gG
 sm:SM
 base:Int
 held:List jl
structure dD where
 m:cG
 waits:List ls
abbrev nL (nodes id now:Int):dD:=⟨⟨id,nodes,now,0,0,List.replicate 7 [],[],[],AL id,oz id nodes,[],⟨[],0⟩,0,[]⟩,[]⟩
def Al (c:il):Prop:=(c.kind=1/\fy c.aK/\fy c.di/\0<=c.eZ/\c.eZ<=1000)\/(c.kind=2/\fy c.aK)\/((c.kind=3\/c.kind=4)/\fy c.aK/\fy c.cV)
instance (c:il):Decidable (Al c):=by unfold Al; exact inferInstance
def kn (s:cG) (c:il):mJ:=⟨c.id,0,(0,0),none,rc,false,dK s.ap,((eb s.lr:Nat):Int)⟩
def mj (s:cG) (o:jl):Option cG:=if s.held.length < 100000 then some {s with held:=s.held++[o]} else none
def yK (s:cG) (c:il) (e:Int):Option cG:=mj s (.dR {kn s c with err:=e})
def q_ (s:cG) (len:Nat):Option cG:=if s.km < 100000/\len<=65535/\s.size+(len+1)+40<=1000000 then some {s with km:=s.km+1,size:=s.size+(len+1)+40} else none
def wP (s:cG) (e:aW):Option cG:=if t_ e/\wz s.ap e/\nl s.ap < 60000/\s.by_.flatten.length < 60000 then some {s with by_:=ky s.by_ e,ap:=ln s.ap e} else none
def qV (s:cG):cG:=
 let r:=eo s.sm (d8 s.lr s.sm.dn)
 {s with sm:=r.1,fu:=if r.2.2.1=true then nc s.fu r.2.1.x else s.fu}
instance (k:IntKind) (n:Int):Decidable (bP k n):=by unfold bP; exact inferInstance
instance (x:dv):Decidable (fC x):=by unfold fC; exact inferInstance
instance (o:jk):Decidable (tZ o):=by unfold tZ; exact inferInstance
instance (e:aW):Decidable (kj e):=by unfold kj; exact inferInstance
abbrev nY:Nat:=140737488355328
abbrev akK:Nat:=140737488355000
def vK (x:dv):Prop:=fC x/\jd x<=akK
instance (x:dv):Decidable (vK x):=by unfold vK; exact inferInstance
def zB (s:cG) (p:PP):Prop:=p.node=s.id/\p.nodes=s.nodes
instance (s:cG) (p:PP):Decidable (zB s p):=by unfold zB; exact inferInstance
def mc:Nat->cG->Option cG
 | 0,_=>none
 | k+1,s=>if s.sm.dn < ((eb s.lr:Nat):Int) then (if s.fu.length < 60000/\vK (d8 s.lr s.sm.dn).order/\vK (eo s.sm (d8 s.lr s.sm.dn)).2.1.x/\(eo s.sm (d8 s.lr s.sm.dn)).1.dn=s.sm.dn+1 then mc k (qV s) else none) else some s
def qe (k:Int):Prop:=k=1\/k=3\/k=9
instance (k:Int):Decidable (qe k):=by unfold qe; exact inferInstance
def yA (s:cG) (m:bQ):Prop:=m.cH=s.id/\m.bC < s.nodes/\j7 (fT m ([],false))=0
instance (s:cG) (m:bQ):Decidable (yA s m):=by unfold yA; exact inferInstance
def MZ (a b:dv):Bool:=decide (a.cV=b.cV) && decide (a.aK=b.aK) && decide (a.eO=b.eO) && decide (a.cut=b.cut)
def M1 (a b:dj):Bool:=decide (a.slot=b.slot) && decide (a.bj=b.bj) && decide (a.en.fe=b.en.fe) && MZ a.en.order b.en.order
def FY (s:gm) (m:bQ):Bool:=decide (s.prom≠m.bj) || (decide (m.kind=3) && !(match cq (ji s.V) m.slot with | some v=>M1 v (oL m) | none=>false))
theorem aa7 (a b:dv):MZ a b=true↔a=b:=by cases a; cases b; simp [MZ,and_assoc]
theorem aa8 (a b:dj):M1 a b=true↔a=b:=by
 obtain ⟨s1,b1,⟨n1,o1⟩⟩:=a
 obtain ⟨s2,b2,⟨n2,o2⟩⟩:=b
 simp [M1,aa7,and_assoc]
theorem yl (s:gm) (m:bQ):FY s m=true↔fE s m:=by
 unfold FY fE
 cases h:cq (ji s.V) m.slot with
 | none=>simp
 | some v=>simp [aa8,Hf, <- Bool.not_eq_true]
def AO (s:cG) (m:bQ):Option cG:=
 if ¬ fZ s.ac m then some s
 else (if ¬ fA s.ac m/\FY s.ac m=true then q_ s (f' (fT m ([],false))).length else some s).bind λs1=>mj {s1 with ac:=jW s.ac m} (.gh (fk s.ac m))
def Fa (s:cG) (m:bQ):Option cG:=if yA s m then AO s m else some s
def gk:List bQ->cG->Option cG
 | [],s=>some s
 | m::l,s=>if m.cH=s.id/\qe m.kind then (if m.kind=9\/nY < iP m then none else (Fa s m).bind (gk l)) else (mj s (.gh m)).bind (gk l)
def pW (s:cG):List Int:=((List.range s.nodes.toNat).map λi:Nat=>(i:Int)).filter λi=>decide (i≠s.id)
def ua (s:cG) (cH:Int):bQ:=⟨7,s.id,cH,(0,0),((eb s.lr:Nat):Int),yG,[],dK s.ap,[],0⟩
def nM (s:cG) (slot cH:Int) (e:dZ):bQ:=⟨6,s.id,cH,(0,0),slot,e,[],[],[],0⟩
def jL (s:cG):Bool:=decide (s.pr.phase=2)
def yL (s:cG) (aK:ByteArray):List aW:=s.by_.flatten.filter λe=>decide (e.aK=aK)
def tN (s:cG) (c:il):Option (cG × Bool):=match lU s.sm.os c.cV with
 | none=>some (s,false)
 | some o=>if ¬ tZ o then none else if Au (dK s.ap) s.fu o.x.aK o.x.eO=true then
   (mj s (.dR {kn s c with ord:=o,known:=true,my:=some (sU (yL s o.x.aK) s.fu o.x.aK o.x.eO,o.x.aK)})).map λs1=>(s1,true)
  else some (s,false)
def IB (s:cG) (t:ByteArray):Bool:=(tK s.pr).any λv=> !v.en.fe && decide (v.en.order.cV=t)
def Af (s:cG) (c:il):Option cG:=
 if jL s=false\/IB s c.cV=true then some s
 else
  let e:dZ:=⟨false,⟨c.cV,c.aK,(i7 s.sm.os c.aK:Int),dK s.ap⟩⟩
  if vK e.order/\zB s (nS s.pr e) then gk (qY s.pr e) {s with pr:=nS s.pr e} else none
def ph (s:dD):Option dD:=match s.waits with
 | []=>some s
 | [w]=>if w.call.kind≠3 then none else (tN s.m w.call).bind λr=>
   if r.2=true then some ⟨r.1,[]⟩ else if (lU r.1.sm.os w.call.cV).isSome=true then some ⟨r.1,[w]⟩ else (Af r.1 w.call).map λm=>⟨m,[w]⟩
 | _=>none
def fJ (s:cG) (c:il):aW:=⟨(s.id,l7 (dK s.ap) s.id+1),dK s.ap,c.aK,(sQ s.fu c.aK:Int),c.di,c.eZ,c.jy⟩
def Am (s:dD) (c:il):Option dD:=
 if 65536<=nl (dK s.m.ap)\/¬ (kj (fJ s.m c)/\pm (fJ s.m c)<=nY/\j7 (iZ (fJ s.m c) ([],false))=0) then none
 else (q_ s.m (f' (iZ (fJ s.m c) ([],false))).length).bind λs1=>(wP s1 (fJ s.m c)).bind λs2=>(mj s2 (.dR {kn s2 c with dot:=(fJ s.m c).dot})).bind λs3=>ph ⟨s3,s.waits⟩
def CD (s:dD) (c:il):Option dD:=
 (tN s.m c).bind λr=>
  if r.2=true then some ⟨r.1,s.waits⟩
  else if (lU r.1.sm.os c.cV).isSome=true then none
  else if jL r.1=false then (yK r.1 c 4).map λm=>⟨m,s.waits⟩
  else if s.waits.length≠0 then none
  else (Af r.1 c).map λm=>⟨m,s.waits++[⟨c,0,(0,0),false⟩]⟩
def wQ (s:dD) (c:il):Option (dD × Int):=
 if ¬ Al c then some (s,230)
 else if c.kind=1 then (Am s c).map λs1=>(s1,0)
 else if c.kind=2 then (mj s.m (.dR {kn s.m c with my:=some (rT (yL s.m c.aK) s.m.fu,c.aK)})).map λm=>(⟨m,s.waits⟩,0)
 else if c.kind=3 then (CD s c).map λs1=>(s1,0)
 else if jL s.m=true then none else (yK s.m c 4).map λm=>(⟨m,s.waits⟩,0)
def AA (s:dD) (slot:Int) (e:dZ):Option dD:=
 if ¬ (vK e.order/\bP .i64 slot/\iP (nM s.m slot s.m.id e)<=nY/\eb (kr s.m.lr slot e).1<=60000) then none
 else if (kr s.m.lr slot e).2≠0 then some s
 else (q_ {s.m with lr:=(kr s.m.lr slot e).1} (f' (fT (nM s.m slot s.m.id e) ([],false))).length).bind λs1=>(mc 70000 s1).bind λs2=>ph ⟨s2,s.waits⟩
def CX (s:cG) (slot:Int) (e:dZ):List Int->Option cG
 | []=>some s
 | cH::l=>(gk [nM s slot cH e] s).bind λs1=>CX s1 slot e l
def AP:List dj->dD->Option dD
 | [],s=>some s
 | v::l,s=>if 2<=s.waits.length\/s.waits.any (λw=>decide (w.call.kind=4))=true then none
  else (CX s.m v.slot v.en (pW s.m)).bind λm=>(AA ⟨m,s.waits⟩ v.slot v.en).bind (AP l)
def AQ (s:dD) (m:bQ):Option dD:=
 let r:=gn s.m.pr m
 if ¬ (zB s.m r.1/\bP .i64 r.1.next) then none else (gk r.2.1 {s.m with pr:=r.1,base:=if jL s.m=false/\r.1.phase=2 then r.1.next else s.m.base}).bind λs2=>(AP r.2.2 ⟨s2,s.waits⟩).bind λs3=>if jL s.m=jL s3.m then some s3 else ph s3
def CY (s:cG):List bQ->Option cG
 | []=>some s
 | m::l=>(gk [if m.kind=7 then {m with slot:=((eb s.lr:Nat):Int)} else m] s).bind λs1=>CY s1 l
def lI (s:cG) (bC:Int) (l:List gG):List jl:=l.map λp=>.gh (nM s p.1 bC p.2)
def E2 (s:cG) (m:bQ):Option cG:=
 if m.bC=s.id then some s
 else (CY s (nh s.id s.by_ s.ap m)).bind λs1=>if 99000 < s1.held.length then none
  else if ((eb s1.lr:Nat):Int) < m.slot/\mb m.seen (dK s.ap)=true then gk [ua {s1 with held:=s1.held++lI s1 m.bC ((je s1.lr m.slot).take 16)} m.bC] {s1 with held:=s1.held++lI s1 m.bC ((je s1.lr m.slot).take 16)}
  else some {s1 with held:=s1.held++lI s1 m.bC ((je s1.lr m.slot).take 16)}
def uQ:List aW->cG->Option cG
 | [],s=>some s
 | e::l,s=>if ¬ t_ e\/e.dot.1=s.id\/pB (dK s.ap) e.dot then uQ l s
   else (q_ s (f' (iZ e ([],false))).length).bind λs1=>(wP s1 e).bind (uQ l)
def zC (s:dD) (m:bQ):Option dD:=
 if ¬ yA s.m m then some s
 else if m.kind=1\/m.kind=3 then (AO s.m m).map λm=>⟨m,s.waits⟩
 else if m.kind=2\/m.kind=4\/m.kind=5 then AQ s m
 else if m.kind=6 then AA s m.slot m.en
 else if m.kind=7 then (E2 s.m m).map λm=>⟨m,s.waits⟩
 else if m.kind=8 then (uQ m.events s.m).bind λm=>ph ⟨m,s.waits⟩
 else none
def C9 (s:dD):Option dD:=
 if kM s.m.pr s.m.ac.prom ((eb s.m.lr:Nat):Int)≠0 then some s
 else if ¬ zB s.m (iN s.m.pr s.m.ac.prom ((eb s.m.lr:Nat):Int)) then none
 else (ph ⟨{s.m with pr:=iN s.m.pr s.m.ac.prom ((eb s.m.lr:Nat):Int)},s.waits⟩).bind λs1=>match (ku s.m.pr s.m.ac.prom ((eb s.m.lr:Nat):Int))[s1.m.id.toNat]? with
  | none=>none
  | some m=>(gk [m] s1.m).bind λm2=>
   if m2.ac.prom≠s1.m.pr.bj then some ⟨{m2 with pr:=kL m2.pr},s1.waits⟩
   else (gk ((ku s.m.pr s.m.ac.prom ((eb s.m.lr:Nat):Int)).filter λm=> !decide (m.cH=m2.id)) m2).map λm3=>⟨m3,s1.waits⟩
def E3 (s:cG) (cH:Int):Option cG:=if 0<=cH/\cH < s.nodes/\cH≠s.id then gk [ua s cH] s else some s
def IC (s:cG):Option cG:=gk (Aq s.pr) s
def uR:List jl->dD->List jl->Option (dD × List jl)
 | [],s,out=>some (s,out)
 | .gh m::l,s,out=>if m.cH=s.m.id then (if nY < iP m then none else (zC s m).bind λs1=>uR l s1 out) else uR l s (out++[.gh m])
 | .dR a::l,s,out=>uR l s (out++[.dR a])
def Fb (s:dD):Option (dD × List jl):=if s.m.held.length<=100000 then uR s.m.held ⟨{s.m with held:=[]},s.waits⟩ [] else none
def t0 (s:dD) (now:Int):dD:=if s.m.now<=now/\now<=1152921504606846976 then ⟨{s.m with now:=now},s.waits⟩ else s
open Go Go.Proofs Go.Proofs.Tryz
def D0 (F:List gb) (n:Int) (k:Nat):HP:=c_ ((rg F n).set k gP)
variable{F F':List gb}{N:Int}
theorem Iq {f:gb} (hk:F[k]? =some f):(rg F N)[k]? =some (iH f.vb f.by_ N):=by simp [rg,hk]
theorem MG {c:Code} {f:gb} (N:Int) (hk:F[k]? =some f) [h1:cR L (qy F N) L1] (h:T r n P c ⟨D,E,iH f.vb f.by_ N::D0 F N k::L1⟩ Q):T r n P c ⟨D,E,L⟩ Q:=b_ (h1.g.trans (wh (Iq hk))) h
theorem NT (F':List gb) (N:Int) {f:gb} (hk:F[k]? =some f) [h1:fL L f.vb (vc bs N) 409 L1] [h2:cR L1 (D0 F N k) L2] (hs:rg F' N=(rg F N).set k (iH f.vb bs N)):am L (qy F' N::L2):=by
 have:=EL (q:=iH f.vb bs N) (L:=L2) (dX.1 (Iq (N:=N) hk)).1
 rw [<- hs] at this
 exact (h1.g.trans (am.cons _ h2.g)).trans this
theorem aif (F:List gb) (f:gb) (N:Int) [h1:fL L f.vb (vc f.by_ N) 409 L1] [h2:cR L1 (qy F N) L2]:am L (qy (f::F) N::L2):=
 (h1.g.trans (am.cons _ h2.g)).trans (adS (a:=iH f.vb f.by_ N) (r:=rg F N) (L:=L2))
theorem VM {s:mu} {f:mP} (h:s.pl.F[k]? =some f):∃ g:gb,s.F[k]? =some g/\g.pl=f:=by
 have h':(s.F.map gb.pl)[k]? =some f:=h
 rw [e_] at h'
 cases hg:s.F[k]? with
 | none=>rw [hg] at h'; cases h'
 | some g=>rw [hg] at h'; exact ⟨g,rfl,ez h'⟩
theorem IV {s:mu} (h:PI s.pl):s.F.Pairwise λf g=>g.slot < f.slot:=by
 have:=h.inc
 exact oh.1 this
theorem aig {e:dZ} (q:Option Addr × Nat) (hk:a_ L (aI .i64) q.1 q.2 e.order.cut) (ho:fC e.order):bV L (λM=>mV.fO M (e,bv) (hO e q++[.pointer (some ⟨bv,0,none⟩)])):=(lk hk).mono λM h=>⟨q,rfl,h,ho⟩
theorem ajo (h:F.Pairwise λf g=>g.slot < f.slot):ND (nT F):=oh.2 (h.imp λh e=>by dsimp only at e; omega)
theorem ID (h:F.Pairwise λf g=>g.slot < f.slot) {f:gb} (hk:F[k]? =some f):cq (nT F) f.slot=some (f.en,f.vb):=zW (ajo h) (fY.2 ⟨f,eA hk,rfl⟩)
theorem tQ {b:Int × Int} (h:jr b):bP .i64 b.1/\bP .i64 b.2:=by
 unfold jr de at h
 exact ⟨da (by omega),da (by omega)⟩
theorem Vb {s:mu} {X:List bQ} (m:bQ) (q:gg) (hX:qi s.node s.nodes m bs s.nodes.toNat=X) (hn:1<=s.nodes/\s.nodes<=7) (hb:bs.length=7) (hk:fN L m q) (ho:fC m.en.order) (cX:∀ to:Int,0<=to->to < 7->gf (uf m s.node to)):Fn prog 278 #[.pointer (some ⟨b,0,none⟩),.agg (List.toArray (dq m q)),.func (.func 279) #[.pointer (some ⟨bv,0,none⟩)] #[]] (cells b (gC s) 279::iH bv bs s.nodes::L) (λv L'=>∃ A c,v=.slice A X.length c/\L'=aN dE 174 A c X::cells b (gC s) 279::iH bv bs s.nodes::L):=by
 subst hX; exact acx m q hn hb hk ho cX
theorem VN {node to:Int} (h0:0<=node) (h1:node < 7) (h2:0<=to) (h3:to < 7) (hk:bP .i64 m.kind) (hb:jr m.bj) (hs:0<=m.slot/\m.slot<=2147483647) (he:fC m.en.order) (ht:bP .i64 m.jq):gf (uf m node to):=⟨hk,da (by simp only [uf]; omega),da (by simp only [uf]; omega),(tQ hb).1,(tQ hb).2,da (by simp only [uf]; omega),he,ht⟩
theorem IE:bP .i64 0:=da (by decide)
theorem aih:bP .i64 3:=da (by decide)
theorem aii:bP .i64 1:=da (by decide)
theorem Hk:Fn prog 170 #[.pointer (some ⟨b,0,none⟩)] (pr b p::L) (λv L'=>∃ A c,v=.slice A (wK p).length c/\L'=aN dE 174 A c (wK p)::pr b p::L):=by
 refine aH func170 J J J J<|aa<|ae J<|O<|lX λs hs hi=> ?_
 subst hs
 have hn:1<=s.nodes/\s.nodes<=7:=hi.nodes
 have hnd:0<=s.node/\s.node < s.nodes:=hi.node
 have GI:0<=s.bC/\s.bC<=2147483647:=hi.bC
 refine bW (cells b (gC s) 279::[]) [] [0,2,4,6,8,10,12,14,16,18,20,22,24,26,28,30,33,34] (by kernel_rfl) al<|aq J J<|aq J J<|aL J J<|aw J J<|cf J J J<|aq J J<|aL J J<|aw J J<|aG J J J<|ak J J (bI J J)<|ak J J (bI J J)<|aq J J<|aL J J<|aw J J<|aG J J J<|ak J J (gy J J)<|an J<|aJ J J (Vb (X:=wK s.pl) (Vx s.pl) vJ J hn hi.told (afu J J J J) Az (λto h1 h2↦VN hnd.1 (by omega) h1 h2 aii hi.bj GI Az IE)) ?_
 rintro _ _ ⟨DJ,DK,rfl,rfl⟩
 exact au<|ak J J (bT J)<|aR<|av<|aF.ay (fD b s _ J hi)<|aZ J J al (⟨DJ,DK,J,J⟩)
theorem QE {f:mP} (hk:p.F[k]? =some f):Fn prog 189 #[.pointer (some ⟨b,0,none⟩),.int .i64 f.slot] (pr b p::L) (λv L'=>∃ A c,v=.slice A (ta p f).length c/\L'=aN dE 174 A c (ta p f)::pr b p::L):=by
 refine aH func189 J J J J<|aa<|ae J<|O<|lX λs hs hi=> ?_
 subst hs
 obtain ⟨g,hg,rfl⟩:=VM hk
 have hn:1<=s.nodes/\s.nodes<=7:=hi.nodes
 have hnd:0<=s.node/\s.node < s.nodes:=hi.node
 have jS:=ID (IV hi) hg
 have q':=eA hk
 have Xg:=hi.so _ q'
 have jF:=hi.next
 have ic:=hi.by_ _ q'
 have xE:=hi.rx _ q'
 dsimp only at Xg ic xE jF
 refine aa<|Y J<|aS J<|ao J<|ax J J<|Y J ?_
 refine KX (R:=mV) (k:=g.slot) J J J (da (by omega)) (λhn=>absurd hn (by rw [jS]; simp)) (λu q tn mQ=> ?_)
 rw [jS] at tn
 obtain rfl:=ez tn
 simp only [dL,dm]
 refine bB J J λb5=>aE J J<|O<|MG s.nodes hg<|bW (cells b (gC s) 279::cells b5 [.bool g.en.fe,.string g.en.order.cV,.string g.en.order.aK,.int .i64 g.en.order.eO,.slice q.1 g.en.order.cut.length q.2,.pointer (some ⟨g.vb,0,none⟩)] 419::[]) [] [0,2,4,6,8,10,12,14,16,18,20,22,25,26] (by kernel_rfl) al<|aq J J<|aq J J<|aL J J<|aw J J<|cf J J J<|aq J J<|aw J J<|cf J J J<|ak J J (bI J J)<|aw J J<|aG J J J<|ak J J (gy J J)<|an J<|g_ g.vb<|g_ b<|aJ J J (Vb (X:=ta s.pl g.pl) (FB s.pl g.slot g.en) ⟨q,(none,0),(none,0),(none,0)⟩ J hn ic ⟨slk,dP,dP,dP⟩ xE.2 (λto h1 h2↦VN hnd.1 (by omega) h1 h2 aih hi.bj (by dsimp only; omega) xE.2 IE)) ?_
 rintro _ _ ⟨zh,zj,rfl,rfl⟩
 exact au<|ak J J (bT J)<|aR<|av<|aF.ay (NT s.F s.nodes hg (pd (Iq hg)).symm)<|aF.ay (fD b s _ J hi)<|aZ J J al (⟨zh,zj,J,J⟩)
theorem aij {slot:Int} {e:dZ} (h:PI p) (mz:p.phase≠1) (hs:∀ f∈p.F,f.slot < slot) (hl:p.F.length < 4096) (h0:0<=slot/\slot<=2147483647) (he:f_ e/\fC e.order):PI (t3 p slot e) where
 nodes:=h.nodes
 node:=h.node
 phase:=h.phase
 told:=h.told
 by_:=λf hf=>by
  rcases ig.1 hf with rfl | hf
  ·exact tC
  ·exact h.by_ f hf
 inc:=qG.2 ⟨hs,h.inc⟩
 len:=by show p.F.length+1<=4096; omega
 so:=λf hf=>by
  rcases ig.1 hf with rfl | hf
  ·show 0<=slot/\slot < slot+1; omega
  ·have:=h.so f hf; have:=hs f hf; show 0<=f.slot/\f.slot < slot+1; omega
 next:=by show 0<=slot+1/\slot+1<=2147483648; omega
 bC:=h.bC
 kept:=h.kept
 bj:=h.bj
 seen:=h.seen
 ut:=h.ut
 rx:=λf hf=>by
  rcases ig.1 hf with rfl | hf
  ·exact he
  ·exact h.rx f hf
 uu:=λe=>absurd e mz
theorem QF (slot:Int) (e:dZ) (mz:p.phase≠1) (hs:∀ f∈p.F,f.slot < slot) (hl:p.F.length < 4096) (h0:0<=slot/\slot<=2147483647) (he:f_ e/\fC e.order) (hk:bR L (aI .i64) A c e.order.cut):Fn prog 353 #[.pointer (some ⟨b,0,none⟩),.int .i64 slot,.agg (List.toArray (hO e (A,c)))] (pr b p::L) (λv L'=>∃ A' c',v=.slice A' (vd p slot e).length c'/\L'=aN dE 174 A' c' (vd p slot e)::pr b (t3 p slot e)::L):=by
 refine aH func353 J J J J<|aa<|bS J J J λb5=>ae J<|O<|cQ b<|lX λs cK hi=> ?_
 subst cK
 have hn:1<=s.nodes/\s.nodes<=7:=hi.nodes
 refine aa<|Y J<|aS J<|ao J<|ax J J<|aJ J J (KQ hn _) ?_
 rintro _ _ ⟨bv,rfl,rfl⟩
 refine Y J<|ab J J (aO J J)<|ab J J (aO J J)<|ae J<|ae J<|O<|bW (cells b (gC s) 279::cells b5 (hO e (A,c)) 158::[]) [] [0,2,4,6,8,10,14,13,16,19] (by kernel_rfl) al<|aq J J<|aL J J<|aw J J<|aG J J J<|aq J J<|cf J J J<|aq J J<|an J<|aJ J J (Hu e (A:=A) (c:=c) (bR.dT al hk) he.2) ?_
 rintro _ _ ⟨q,rfl,rfl⟩
 refine bF<|au<|ak J J (bI J J)<|an J<|sH (R:=mV) (k:=slot) (u:=(e,bv)) (cs:=hO e q++[.pointer (some ⟨bv,0,none⟩)]) (nT (⟨slot,e,r_,bv⟩::s.F)) J J J (da (by omega)) (aig q slk he.2) (by rw [uK (o9.2 λz hz=>by obtain ⟨f,hf,rfl⟩:=fY.1 hz; have:=hs f.pl (fY.2 ⟨f,hf,rfl⟩); dsimp only at this ⊢; omega)]; exact uC _)<|au<|aR<|aa<|Y J<|Y J<|ab J J (bE J J (by omega))<|aS J<|ao J<|aE J J<|O<|b_ (aif s.F ⟨slot,e,r_,bv⟩ s.nodes)<|b_ (fD b ⟨s.node,s.nodes,s.phase,s.bj,s.seen,s.bC,slot+1,s.bt,s.told,s.A,s.c,s.kept,s.bm,⟨slot,e,r_,bv⟩::s.F⟩ (t3 s.pl slot e) J (aij hi mz hs hl h0 he))<|aa<|Y J<|Y J<|aP b<|aJ J J (QE (p:=t3 s.pl slot e) (k:=0) (f:=⟨slot,e,r_⟩) J) ?_
 rintro _ _ ⟨Xh,Xi,rfl,rfl⟩
 rw [show ta (t3 s.pl slot e) ⟨slot,e,r_⟩=vd s.pl slot e from rfl]
 exact ae J<|O<|av<|aZ J J al (⟨Xh,Xi,J,J⟩)
open Go
def ry (a b:Int × Int):Prop:=a.1 < b.1\/(a.1=b.1/\a.2 < b.2)
def D1 (a b:Int × Int):Prop:=¬ ry b a
variable{a b:Int × Int}
theorem M2:D1 a b↔a.1 < b.1\/(a.1=b.1/\a.2<=b.2):=by unfold D1 ry; omega
theorem afv (a:Int × Int):D1 a a:=by rw [M2]; omega
theorem Vc {c:Int × Int} (h:ry a b) (k:D1 b c):ry a c:=by rw [M2] at *; unfold ry at *; omega
theorem ag5 (h:ry a b):D1 a b:=by rw [M2]; unfold ry at h; omega
theorem ag6:ni a b < 0↔ry a b:=agf
theorem UM:0 < ni a b↔ry b a:=by rw [aeG a b, <- ag6]; omega
open Go
theorem acy:f_ yG:=by decide+kernel
open Go Go.Proofs Go.Proofs.Tryz
theorem Sa {t:ByteArray} (h:fy t):t.size<=32:=h.2.2
theorem adZ {e:dZ} (h:f_ e):fC e.order:=by
 unfold f_ at h
 split at h
 ·unfold pb at h
  simp only [Ea,decide_eq_false_iff_not,ne_eq,eX] at h
  obtain ⟨⟨⟨h1,h2⟩,h3⟩,h4⟩:=h
  have e0:sO.size=0:=rfl
  exact ⟨by rw [h1,e0]; decide,by rw [h2,e0]; decide,by rw [h3]; exact IE,by omega⟩
 ·have h1:=Sa h.1; have h2:=Sa h.2.1; have h3:=h.2.2.1; have h4:=h.2.2.2.2.1
  unfold de at h3
  exact ⟨by simp only [cE]; omega,by simp only [cE]; omega,da (by omega),by omega⟩
theorem S' (h:mF v):pU v:=by
 have h1:=h.1
 unfold de at h1
 exact ⟨da (by omega),(tQ h.2.1).1,(tQ h.2.1).2,adZ h.2.2⟩
theorem afw {node:Int} (h:(j1 a node).2=0):(j1 a node).1=(a.1+1,node)/\0<=a.1/\a.1 < 2147483647/\0<=node/\node < 7:=by
 unfold j1 at h ⊢
 split at h
 ·simp at h
 ·rename_i h1
  rw [if_neg h1]
  split at h
  ·simp at h
  ·rename_i h2
   rw [if_neg h2]
   exact ⟨rfl,by omega,by omega,by omega,by omega⟩
theorem afx {floor:Int × Int} {slot:Int} (h:kM p floor slot=0):0<=slot/\slot<=2147483647/\wL floor/\(j1 (i_ floor p.seen) p.node).2=0:=by
 unfold kM at h
 split at h
 ·simp at h
 ·rename_i h1
  exact ⟨by omega,by omega,zM λh2=>h1 (.inr (.inr h2)),h⟩
theorem MH {floor:Int × Int} {slot:Int} (hi:PI p) (h:kM p floor slot=0):PI (iN p floor slot):=by
 obtain ⟨h1,h2,h3,h4⟩:=afx h
 obtain ⟨e,h5,h6,h7,h8⟩:=afw h4
 have hb:jr (j1 (i_ floor p.seen) p.node).1:=by rw [e]; unfold jr de; dsimp only; omega
 have k:=MC hi
 unfold iN
 rw [if_pos h]
 exact ⟨k.nodes,k.node,by simp,k.told,k.by_,k.inc,k.len,k.so,k.next,⟨h1,h2⟩,k.kept,hb,hb,k.ut,k.rx,λ_=>rfl⟩
theorem ZM {b:Nat} (floor:Int × Int) (slot:Int):Fn prog 88 #[.pointer (some ⟨b,0,none⟩),nj floor,.int .i64 slot] (pr b p::L) (λv L'=>∃ A c,v=.tuple #[.slice A (ku p floor slot).length c,.int .i64 (kM p floor slot)]/\L'=aN dE 174 A c (ku p floor slot)::pr b (iN p floor slot)::L):=by
 refine aH func88 J J J J<|aa<|bS J J J λb4=>ae J<|ae J<|O<|ar<|aX<|aa<|Y J<|aP b<|aB J J (v_)<|aV 12 (.bool true) J<|ab J J (df J)<|ae J<|O<|aT J<|aa<|Y J<|ab J J (bU J J)<|Y J<|dl 17 J (λgx=> ?_) (λgx=> ?_)
 ·refine ah J<|ah J<|aA J<|Y J<|ah J<|ah J<|ah J<|aA J<|ae J<|O<|cg J<|aa<|ae J<|ae J<|O<|av<|db<|aU ?_
  have he:kM p floor slot=1:=by unfold kM; rw [if_pos (by first | (left; omega) | (right; left; omega) | (right; right; assumption))]
  have ho:ku p floor slot=[]:=by unfold ku; rw [if_neg (by omega)]
  have hp:iN p floor slot=p:=by unfold iN; rw [if_neg (by omega)]
  rw [he,ho,hp]
  exact aF.ay (du dE 174 none _)<|eS J J J al (⟨none,0,J,J⟩)
 refine aj J<|Y J<|aj J<|ab J J (eE J J)<|aA J<|Y J<|dl 21 J (λkW=> ?_) (λkW=> ?_)
 ·refine ah J<|ah J<|ah J<|aA J<|ae J<|O<|cg J<|aa<|ae J<|ae J<|O<|av<|db<|aU ?_
  have he:kM p floor slot=1:=by unfold kM; rw [if_pos (by first | (left; omega) | (right; left; omega) | (right; right; assumption))]
  have ho:ku p floor slot=[]:=by unfold ku; rw [if_neg (by omega)]
  have hp:iN p floor slot=p:=by unfold iN; rw [if_neg (by omega)]
  rw [he,ho,hp]
  exact aF.ay (du dE 174 none _)<|eS J J J al (⟨none,0,J,J⟩)
 refine aj J<|bD J J<|aj J<|aB J J (X3 floor _)<|aj J<|ab J J (iF J)<|aA J<|ae J<|O<|bz J (λgK=> ?_) (λgK=> ?_)
 ·refine aa<|ae J<|ae J<|O<|av<|db<|aU ?_
  have he:kM p floor slot=1:=by unfold kM; rw [if_pos (by first | (left; omega) | (right; left; omega) | (right; right; assumption))]
  have ho:ku p floor slot=[]:=by unfold ku; rw [if_neg (by omega)]
  have hp:iN p floor slot=p:=by unfold iN; rw [if_neg (by omega)]
  rw [he,ho,hp]
  exact aF.ay (du dE 174 none _)<|eS J J J al (⟨none,0,J,J⟩)
 refine az<|bA<|ai<|cQ b<|lX λs hs hi=> ?_
 subst hs
 have pM:kM s.pl floor slot=(j1 (i_ floor s.seen) s.node).2:=by unfold kM; rw [if_neg (by rintro (h | h | h) <;> first | omega | contradiction)]
 refine iQ (by kernel_rfl)<|fq 5 14 (by decide) ?_ ?_
 ·refine fq 10 14 (by decide) ?_ ?_
  ·refine dN (cells b (gC s) 279::cells b4 [.int .i64 floor.1,.int .i64 floor.2] 171::[]) [] [0,2,4,6,8,12,14,16,18,11,21,22,24,26,29,31,32] (by kernel_rfl) al<|cf J J J<|aq J J<|aL J J<|aw J J<|cf J J J<|aq J J<|aL J J<|aw J J<|aG J J J<|an J<|aB J J (Hm floor s.seen _)<|au<|an J<|aB J J (LC (i_ floor s.seen) s.node _)<|au<|aq J J<|ak J J (aO J J)<|ak J J (aO J J)<|an J<|bB J J λb8=>au<|an J<|aE J J<|au<|ak J J (bT J)<|aR<|ai<|ar<|aa<|Y J<|ab J J (dB J J)<|O<|bz J (λue=> ?_) (λue=> ?_)
   ·refine aa<|Y J<|ae J<|ae J<|O<|av<|aU ?_
    have he:kM s.pl floor slot≠0:=by rw [pM]; assumption
    have ho:ku s.pl floor slot=[]:=by unfold ku; rw [if_neg he]
    have hp:iN s.pl floor slot=s.pl:=by unfold iN; rw [if_neg he]
    rw [pM,ho,hp]
    exact aF.ay (fD b s _ J hi)<|aF.ay (du dE 174 none _)<|eS J J J al (⟨none,0,J,J⟩)
   refine az<|ai<|b_ (fD b s _ J hi) ?_
   have he:kM s.pl floor slot=0:=by rw [pM]; omega
   refine aa<|Y J<|aP b<|aB J J (Cr) ?_
   skip
   refine O<|cQ b<|lX λs2 eF dW=>bW (cells b8 [.int .i64 (j1 (i_ floor s.seen) s.node).1.1,.int .i64 (j1 (i_ floor s.seen) s.node).1.2] 171::[]) [] [0,2,4,6,8,10,12,14,16,19,20,22,25,26,28,31,32,34,37] (by kernel_rfl) al<|aq J J<|aq J J<|aq J J<|aq J J<|cf J J J<|cf J J J<|aq J J<|aL J J<|aw J J<|an J<|aE J J<|au<|aL J J<|aw J J<|an J<|aE J J<|au<|aL J J<|aw J J<|an J<|aE J J<|au<|aL J J<|aw J J<|an J<|aE J J<|au<|aR<|b_ (fD b ⟨s2.node,s2.nodes,1,(j1 (i_ floor s.seen) s.node).1,(j1 (i_ floor s.seen) s.node).1,slot,s2.next,s2.bt,s2.told,s2.A,s2.c,s2.kept,s2.bm,s2.F⟩ (iN s.pl floor slot) (by unfold iN; rw [if_pos he, <- eF]) (MH hi he))<|aa<|Y J<|aP b<|aJ J J (Hk) ?_
   rintro _ _ ⟨GJ,GK,rfl,rfl⟩
   rw [show wK (iN s.pl floor slot)=ku s.pl floor slot by unfold ku; rw [if_pos he]]
   refine ae J<|ae J<|O<|av ?_
   rw [he]
   exact eS J J J al (⟨GJ,GK,J,J⟩)
  refine dN (cells b (gC s) 279::cells b4 [.int .i64 floor.1,.int .i64 floor.2] 171::[]) [] [0,2,4,6,8,12,14,16,18,11,29,21,22,24,26,31,32] (by kernel_rfl) al<|cf J J J<|aq J J<|aL J J<|aw J J<|cf J J J<|aq J J<|aL J J<|aw J J<|aG J J J<|an J<|aB J J (Hm floor s.seen _)<|au<|an J<|bB J J λb8=>au<|an J<|aB J J (LC (i_ floor s.seen) s.node _)<|au<|aq J J<|ak J J (aO J J)<|ak J J (aO J J)<|an J<|aE J J<|au<|ak J J (bT J)<|aR<|ai<|ar<|aa<|Y J<|ab J J (dB J J)<|O<|bz J (λue=> ?_) (λue=> ?_)
  ·refine aa<|Y J<|ae J<|ae J<|O<|av<|aU ?_
   have he:kM s.pl floor slot≠0:=by rw [pM]; assumption
   have ho:ku s.pl floor slot=[]:=by unfold ku; rw [if_neg he]
   have hp:iN s.pl floor slot=s.pl:=by unfold iN; rw [if_neg he]
   rw [pM,ho,hp]
   exact aF.ay (fD b s _ J hi)<|aF.ay (du dE 174 none _)<|eS J J J al (⟨none,0,J,J⟩)
  refine az<|ai<|b_ (fD b s _ J hi) ?_
  have he:kM s.pl floor slot=0:=by rw [pM]; omega
  refine aa<|Y J<|aP b<|aB J J (Cr) ?_
  skip
  refine O<|cQ b<|lX λs2 eF dW=>bW (cells b8 [.int .i64 (j1 (i_ floor s.seen) s.node).1.1,.int .i64 (j1 (i_ floor s.seen) s.node).1.2] 171::[]) [] [0,2,4,6,8,10,12,14,16,19,20,22,25,26,28,31,32,34,37] (by kernel_rfl) al<|aq J J<|aq J J<|aq J J<|aq J J<|cf J J J<|cf J J J<|aq J J<|aL J J<|aw J J<|an J<|aE J J<|au<|aL J J<|aw J J<|an J<|aE J J<|au<|aL J J<|aw J J<|an J<|aE J J<|au<|aL J J<|aw J J<|an J<|aE J J<|au<|aR<|b_ (fD b ⟨s2.node,s2.nodes,1,(j1 (i_ floor s.seen) s.node).1,(j1 (i_ floor s.seen) s.node).1,slot,s2.next,s2.bt,s2.told,s2.A,s2.c,s2.kept,s2.bm,s2.F⟩ (iN s.pl floor slot) (by unfold iN; rw [if_pos he, <- eF]) (MH hi he))<|aa<|Y J<|aP b<|aJ J J (Hk) ?_
  rintro _ _ ⟨GJ,GK,rfl,rfl⟩
  rw [show wK (iN s.pl floor slot)=ku s.pl floor slot by unfold ku; rw [if_pos he]]
  refine ae J<|ae J<|O<|av ?_
  rw [he]
  exact eS J J J al (⟨GJ,GK,J,J⟩)
 refine dN (cells b (gC s) 279::cells b4 [.int .i64 floor.1,.int .i64 floor.2] 171::[]) [] [0,2,4,6,8,12,14,16,18,29,11,21,22,24,26,31,32] (by kernel_rfl) al<|cf J J J<|aq J J<|aL J J<|aw J J<|cf J J J<|aq J J<|aL J J<|aw J J<|aG J J J<|an J<|bB J J λb8=>au<|an J<|aB J J (Hm floor s.seen _)<|au<|an J<|aB J J (LC (i_ floor s.seen) s.node _)<|au<|aq J J<|ak J J (aO J J)<|ak J J (aO J J)<|an J<|aE J J<|au<|ak J J (bT J)<|aR<|ai<|ar<|aa<|Y J<|ab J J (dB J J)<|O<|bz J (λue=> ?_) (λue=> ?_)
 ·refine aa<|Y J<|ae J<|ae J<|O<|av<|aU ?_
  have he:kM s.pl floor slot≠0:=by rw [pM]; assumption
  have ho:ku s.pl floor slot=[]:=by unfold ku; rw [if_neg he]
  have hp:iN s.pl floor slot=s.pl:=by unfold iN; rw [if_neg he]
  rw [pM,ho,hp]
  exact aF.ay (fD b s _ J hi)<|aF.ay (du dE 174 none _)<|eS J J J al (⟨none,0,J,J⟩)
 refine az<|ai<|b_ (fD b s _ J hi) ?_
 have he:kM s.pl floor slot=0:=by rw [pM]; omega
 refine aa<|Y J<|aP b<|aB J J (Cr) ?_
 skip
 refine O<|cQ b<|lX λs2 eF dW=>bW (cells b8 [.int .i64 (j1 (i_ floor s.seen) s.node).1.1,.int .i64 (j1 (i_ floor s.seen) s.node).1.2] 171::[]) [] [0,2,4,6,8,10,12,14,16,19,20,22,25,26,28,31,32,34,37] (by kernel_rfl) al<|aq J J<|aq J J<|aq J J<|aq J J<|cf J J J<|cf J J J<|aq J J<|aL J J<|aw J J<|an J<|aE J J<|au<|aL J J<|aw J J<|an J<|aE J J<|au<|aL J J<|aw J J<|an J<|aE J J<|au<|aL J J<|aw J J<|an J<|aE J J<|au<|aR<|b_ (fD b ⟨s2.node,s2.nodes,1,(j1 (i_ floor s.seen) s.node).1,(j1 (i_ floor s.seen) s.node).1,slot,s2.next,s2.bt,s2.told,s2.A,s2.c,s2.kept,s2.bm,s2.F⟩ (iN s.pl floor slot) (by unfold iN; rw [if_pos he, <- eF]) (MH hi he))<|aa<|Y J<|aP b<|aJ J J (Hk) ?_
 rintro _ _ ⟨GJ,GK,rfl,rfl⟩
 rw [show wK (iN s.pl floor slot)=ku s.pl floor slot by unfold ku; rw [if_pos he]]
 refine ae J<|ae J<|O<|av ?_
 rw [he]
 exact eS J J J al (⟨GJ,GK,J,J⟩)
open Go Go.Proofs Go.Proofs.Tryz
theorem afy {slot:Int} (l:List dj):∀ (o:Option dj),(∀ v,o=some v->v.slot=slot)->(∀ v,l.foldl (nJ slot) o=some v->(v∈l\/o=some v)/\v.slot=slot/\(∀ u∈l,u.slot=slot->¬ ry v.bj u.bj)/\∀ u,o=some u->¬ ry v.bj u.bj)/\(l.foldl (nJ slot) o=none->o=none/\∀ u∈l,u.slot≠slot):=by
 induction l with
 | nil=>intro o ho; exact ⟨λv h=>⟨.inr h,ho v h,by simp,λu h2=>by have h':o=some v:=h; rw [h'] at h2; cases h2; exact afv _⟩,λh=>⟨h,by simp⟩⟩
 | cons x r ih=>
  intro o ho
  rw [Ch]
  have hb:∀ v,nJ slot o x=some v->v.slot=slot:=λv h=>by
   unfold nJ at h
   split at h
   ·rename_i hx
    split at h
    ·cases h; exact hx
    ·split at h
     ·cases h; exact hx
     ·cases h; exact ho _ rfl
   ·exact ho v h
  obtain ⟨i1,i2⟩:=ih _ hb
  have hc:∀ v:dj,(∀ u,nJ slot o x=some u->¬ ry v.bj u.bj)->(∀ u,o=some u->¬ ry v.bj u.bj)/\(x.slot=slot->¬ ry v.bj x.bj):=λv h=>by
   unfold nJ at h
   by_cases hx:x.slot=slot
   ·rw [if_pos hx] at h
    cases o with
    | none=>exact ⟨λu e=>(by cases e),λ_=>h x rfl⟩
    | some b=>
     dsimp only at h
     by_cases hg:0 < ni x.bj b.bj
     ·rw [if_pos hg] at h
      have h1:=h x rfl
      exact ⟨λu e=>by cases e; exact λh2=>h1 (Vc h2 (ag5 (UM.1 hg))),λ_=>h1⟩
     ·rw [if_neg hg] at h
      have h1:=h b rfl
      exact ⟨λu e=>by cases e; exact h1,λ_ h2=>h1 (Vc h2 (λh3=>hg (UM.2 h3)))⟩
   ·rw [if_neg hx] at h
    exact ⟨h,λe=>absurd e hx⟩
  refine ⟨λv h=> ?_,λh=> ?_⟩
  ·obtain ⟨a1,a2,a3,a4⟩:=i1 v h
   obtain ⟨c1,c2⟩:=hc v a4
   refine ⟨?_,a2,λu hu hs=> ?_,c1⟩
   ·rcases a1 with a1 | a1
    ·exact .inl (gO _ a1)
    ·unfold nJ at a1
     split at a1
     ·split at a1
      ·cases a1; exact .inl ie
      ·split at a1
       ·cases a1; exact .inl ie
       ·cases a1; exact .inr rfl
     ·exact .inr a1
   ·rcases ig.1 hu with rfl | hu
    ·exact c2 hs
    ·exact a3 u hu hs
  ·obtain ⟨a1,a2⟩:=i2 h
   unfold nJ at a1
   split at a1
   ·split at a1
    ·cases a1
    ·split at a1 <;> cases a1
   ·rename_i hx
    exact ⟨a1,λu hu=>by rcases ig.1 hu with rfl | hu; exact hx; exact a2 u hu⟩
variable{l:List dj}
theorem acz {slot:Int} (h:qa slot l=some v):v∈l/\v.slot=slot/\∀ u∈l,u.slot=slot->D1 u.bj v.bj:=by
 obtain ⟨a1,a2,a3,_⟩:=(afy l none (λ_ e=>by cases e)).1 v h
 exact ⟨a1.elim id (λe=>by cases e),a2,a3⟩
theorem afz (h:∀ v∈l,mF v/\pU v) (slot:Int):f_ (uV l slot)/\fC (uV l slot).order:=by
 unfold uV
 cases hp:qa slot l with
 | none=>exact ⟨acy,Az⟩
 | some v=>have:=h v (acz hp).1; exact ⟨this.1.2.2,this.2.2.2.2⟩
def rU (p:PP) (l:List dj):Int:=l.foldl (λm v=>max m v.slot) (p.bC - 1)
theorem acA (p:PP) (h:l[i]? =some v):rU p (l.take (i+1))=max (rU p (l.take i)) v.slot:=by
 unfold rU; rw [ll h,Ec]; rfl
theorem UN:∀ (l:List dj) (m:Int),m<=l.foldl (λm v=>max m v.slot) m/\(∀ v∈l,v.slot<=l.foldl (λm v=>max m v.slot) m)/\(∀ c,m<=c->(∀ v∈l,v.slot<=c)->l.foldl (λm v=>max m v.slot) m<=c)
 | [],m=>⟨qJ _,by simp,λc h _=>h⟩
 | x::r,m=>by
  obtain ⟨h1,h2,h3⟩:=UN r (max m x.slot)
  rw [Ch]
  refine ⟨by omega,λv hv=> ?_,λc hm hv=>h3 c ?_ (λv h=>hv v (gO _ h))⟩
  ·rcases ig.1 hv with rfl | hv
   ·omega
   ·exact h2 v hv
  ·have:=hv x ie; omega
theorem ag7 (hf:0<=p.bC/\p.bC<=2147483647) (hk:∀ v∈l,mF v):p.bC - 1<=rU p l/\rU p l<=2147483647/\∀ v∈l,v.slot<=rU p l:=by
 obtain ⟨h1,h2,h3⟩:=UN l (p.bC - 1)
 exact ⟨h1,h3 _ (by omega) (λv hv=>(hk v hv).1.2),h2⟩
structure ajp (p:PP) (k:Nat) (q:PP):Prop where
 phase:q.phase=2
 node:q.node=p.node
 nodes:q.nodes=p.nodes
 bj:q.bj=p.bj
 seen:q.seen=p.seen
 bC:q.bC=p.bC
 told:q.told=p.told
 kept:q.kept=[]
 next:q.next=p.bC+k
 len:q.F.length=k
 fl:∀ f∈q.F,p.bC<=f.slot/\f.slot < p.bC+k
theorem M3 {p:PP} (h:p.F=[]) (l:List dj):∀ k,ajp p k (jo p l k).1
 | 0=>⟨rfl,rfl,rfl,rfl,rfl,rfl,rfl,rfl,by simp [jo],by simp [jo,h],by simp [jo,h]⟩
 | k+1=>by
  have i:=M3 h l k
  refine ⟨i.phase,i.node,i.nodes,i.bj,i.seen,i.bC,i.told,i.kept,by simp only [jo,t3]; omega,by simp [jo,t3,i.len],λf hf=> ?_⟩
  rcases ig.1 hf with rfl | hf
  ·dsimp only; omega
  ·have:=i.fl f hf; omega
theorem afA (p:PP) (slot:Int) (e:dZ) (hn:p.nodes<=7):(vd p slot e).length<=7:=by
 have:=If p.node p.nodes (FB p slot e) r_ p.nodes.toNat
 unfold vd ta FA
 dsimp only
 omega
theorem Ta (p:PP) (l:List dj) (hn:p.nodes<=7) (h:p.F=[]):∀ k,(jo p l k).2.length<=7 * k
 | 0=>fo _
 | k+1=>by
  have i:=Ta p l hn h k
  have:=If (jo p l k).1.node (jo p l k).1.nodes (FB (jo p l k).1 (p.bC+k) (uV l (p.bC+k))) r_ (jo p l k).1.nodes.toNat
  have e:=(M3 h l k).nodes
  simp only [jo,eQ]
  unfold vd ta FA
  dsimp only
  omega
theorem ag8 (h:PI p) (hp:p.phase=1) (l:List dj):PI (jo p l 0).1:=⟨h.nodes,h.node,by simp [jo],h.told,h.by_,h.inc,h.len,by show ∀ f∈p.F,_; rw [h.uu hp]; simp,by show 0<=p.bC/\p.bC<=_; have:=h.bC; omega,h.bC,dF _,h.bj,h.seen,by simp [jo],h.rx,λ_=>h.uu hp⟩
theorem ad0 {c':Code} (A:Option Addr) (c:Nat) {R:bZ α} {xs:List α} [hf:md L A c α R t xs L'] (h:T r n P c' ⟨D,E,sl R A c xs::L'⟩ Q):T r n P c' ⟨D,E,L⟩ Q:=b_ hf.g (uF h)
structure akL where
 k:Nat
 A:Option Addr
 c:Nat
theorem aa9 {b:Nat} (mz:p.phase=1):Fn prog 412 #[.pointer (some ⟨b,0,none⟩)] (pr b p::L) (λv L'=>∃ A c,v=.slice A (wM p).2.length c/\L'=aN dE 174 A c (wM p).2::pr b (wM p).1::L):=by
 refine aH func412 J J J J<|aa<|ae J ?_
 refine O<|lX λs cK hi=> ?_
 subst cK
 have hn:1<=s.nodes/\s.nodes<=7:=hi.nodes
 have GI:0<=s.bC/\s.bC<=2147483647:=hi.bC
 have hF:s.pl.F=[]:=hi.uu mz
 have Wq:∀ v∈s.kept,mF v/\pU v:=hi.ut
 have oQ:s.kept.length<=4096 * Ax s.told:=hi.kept
 have PO:=S8 s.told
 have mn:s.told.length=7:=hi.told
 refine aa<|Y J<|aS J ?_
 refine ao J<|ax J J<|ab J J (jb J J (by omega)) ?_
 refine ae J<|O<|ar ?_
 refine aa<|Y J<|aS J ?_
 refine ao J<|ax J J<|ab J J (bY J) ?_
 refine Y J<|O<|aX ?_
 refine cY (σ:=Nat) [0,19,20] (λi=>i<=s.kept.length) (λi kv=>(3,.int .i64 (rU s.pl (s.kept.take i)))::(21,.int .i64 (i:Int))::kv) (λi=>cells b (gC s) 279::iH s.bt s.told s.nodes::aN dz 323 s.A s.c s.kept::cy eL mV true s.bm (nT s.F)::qy s.F s.nodes::L) (λi=>s.kept.length - i) (0) J (dF _) (al) (dc J) λi eG=>aa<|ab J J (bU J J) ?_
 refine O<|ar<|bz J (λiT=> ?_) (λiT=> ?_)
 ·refine az<|ai<|ar ?_
  refine aX ?_
  obtain ⟨v,hv⟩:∃ v,s.kept[i]? =some v:=⟨_,cj (by omega)⟩
  have gW:=acA s.pl hv
  refine aa<|f6 J J J (J) ((bJ (A:=s.A) (c:=s.c))) (hv) λakk akl akm Ox=> ?_
  have Oy:=hv
  refine kh J J Ox Oy (λ_=>J) λW5 Wh=> ?_
  simp only [dL,dm]
  refine bB J J λb5=>aE J J<|O ?_
  refine aQ<|Y J<|ao J ?_
  refine ax J J<|ab J J (Df J J)<|br 28 (v':=.int .i64 (rU s.pl (s.kept.take (i+1)))) J (by rw [gW]) ?_
  refine ae J<|O<|bA ?_
  refine ai<|aQ<|ab J J (bE J J (by omega)) ?_
  refine cz 29 J<|Y J<|O ?_
  refine ai ?_
  exact ⟨i+1,(by omega),by omega,bO rfl⟩
 refine cw<|aY<|aY ?_
 refine cu<|ai<|ar ?_
 rw [gQ (show s.kept.length<=i by omega)]
 have hmo:=ag7 (p:=s.pl) GI (λv hv=>(Wq v hv).1)
 have PQ:Nz s.pl=rU s.pl s.kept:=rfl
 dsimp only at hmo
 refine aa<|Y J<|Y J ?_
 refine aS J<|ao J<|ax J J ?_
 refine ab J J (jb J J (by omega))<|ab J J (eV J J)<|O ?_
 refine bz J (λB1=> ?_) (λB1=> ?_)
 ·refine b_ (fD b s _ J hi) ?_
  refine aa<|Y J ?_
  refine aP b<|aB J J (Cr) ?_
  refine O<|aa<|ae J ?_
  refine O<|av<|aU ?_
  have he:wM s.pl=(kL s.pl,[]):=by unfold wM; rw [if_pos (by rw [PQ]; dsimp only; omega)]
  rw [he]
  refine aF.ay (du dE 174 none _) ?_
  exact aZ J J al (⟨none,0,J,J⟩)
 refine az<|ai<|aa ?_
 refine Y J<|Y J<|Y J ?_
 refine aS J<|ao J<|ax J J ?_
 refine aS J<|ao J<|aE J J ?_
 refine aS J<|ao J<|aE J J ?_
 refine O<|aa<|Y J ?_
 refine aS J<|ao J<|ax J J ?_
 refine ae J<|O<|aa ?_
 refine Y J<|aS J<|ao J ?_
 refine aE J J<|O<|ad0 s.A s.c ?_
 refine b_ (du dz 323 none _) ?_
 refine b_ (fD b ⟨s.node,s.nodes,2,s.bj,s.seen,s.bC,s.bC,s.bt,s.told,none,0,[],s.bm,s.F⟩ (jo s.pl s.kept 0).1 J (ag8 hi mz s.kept)) ?_
 have he:wM s.pl=jo s.pl s.kept (rU s.pl s.kept - s.bC+1).toNat:=by unfold wM; rw [if_neg (by rw [PQ]; dsimp only; omega),PQ]
 refine aa<|ae J<|O ?_
 refine ar<|aa<|Y J ?_
 refine aS J<|ao J<|ab J J (Jf (b:=b) (v:=.int .i64 (s.bC+((0:Nat):Int))) λs2 eF↦(dY J J).val (by rw [show s2.bC=s.bC from bi PP.bC eF]; simp)) ?_
 refine ae J<|O<|aX ?_
 refine cY (σ:=akL) [0,3,6] (λg=>(g.k:Int)<=rU s.pl s.kept - s.bC+1) (λg kv=>(8,.int .i64 (s.bC+(g.k:Int)))::(7,.slice g.A (jo s.pl s.kept g.k).2.length g.c)::kv) (λg=>aN dE 174 g.A g.c (jo s.pl s.kept g.k).2::pr b (jo s.pl s.kept g.k).1::sl dz s.A s.c s.kept::L) (λg=>(rU s.pl s.kept - s.bC+1).toNat - g.k) (⟨0,none,0⟩) J ((by simp only; omega)) (am.trans (du dE 174 none _) (am.cons _ al)) (dc J) ?_
 rintro ⟨k,A,c⟩ hk
 dsimp only at hk ⊢
 have J7:=M3 hF s.kept k
 have PR:=Ta s.pl s.kept hn.2 hF k
 refine ar<|aa<|Y J ?_
 refine Y J<|ab J J (sX J J)<|O ?_
 refine bz J (λPS=> ?_) (λPS=> ?_)
 ·refine az<|ai<|ar ?_
  refine aX<|aa<|Y J ?_
  refine Y J<|aJ J J (ac9 (slk (A:=s.A) (c:=s.c)) (s.bC+(k:Int))) ?_
  rintro _ _ ⟨PT,PU,rfl,rfl⟩
  refine Y J<|ab J J (aO J J)<|ab J J (aO J J) ?_
  refine bB J J λb9=>aE J J<|ae J ?_
  refine O<|aQ<|Y J ?_
  refine Y J<|Y J<|bD J J ?_
  refine aP b<|aJ J J (QF (A:=PT) (c:=PU) (s.bC+(k:Int)) (uV s.kept (s.bC+(k:Int))) (by rw [J7.phase]; decide) (λf hf↦(J7.fl f hf).2) (by rw [J7.len]; omega) (by omega) (afz Wq _) bJ) ?_
  rintro _ _ ⟨A75,c75,rfl,rfl⟩
  refine bF ?_
  rw [show t3 (jo s.pl s.kept k).1 (s.bC+(k:Int)) (uV s.kept (s.bC+(k:Int)))=(jo s.pl s.kept (k+1)).1 from rfl]
  have lE:=afA (jo s.pl s.kept k).1 (s.bC+(k:Int)) (uV s.kept (s.bC+(k:Int))) (by rw [J7.nodes]; exact hn.2)
  refine fi J J J J J slk (by (try simp only [eQ,dO,ej]); omega) λA76 c76=> ?_
  rw [show (jo s.pl s.kept k).2++vd (jo s.pl s.kept k).1 (s.bC+(k:Int)) (uV s.kept (s.bC+(k:Int)))=(jo s.pl s.kept (k+1)).2 from rfl]
  refine ae J<|O<|bA ?_
  refine ai<|aQ<|Y J ?_
  refine ab J J (bE J J (by omega))<|br 64 (v':=.int .i64 (s.bC+((k+1:Nat):Int))) J (by congr 1; omega)<|ae J ?_
  refine O<|ai ?_
  exact ⟨⟨k+1,A76,c76⟩,(by simp only; omega),by simp only; omega,bO rfl⟩
 refine cw<|aY<|aY ?_
 refine cu<|ai<|aa ?_
 refine Y J<|ae J<|O ?_
 refine av ?_
 rw [he]
 obtain rfl:k=(rU s.pl s.kept - s.bC+1).toNat:=by omega
 exact aZ J J al (⟨A,c,J,J⟩)
open Go Go.Proofs Go.Proofs.Tryz
theorem acB {n node:Int} (h:¬ (th n node/\¬ nX bs n node)):jh bs n node=bs:=by
 unfold jh
 split
 ·rename_i hv
  have:nX bs n node:=zM λk=>h ⟨hv,k⟩
  exact Md this.2
 ·rfl
theorem Sb:∀ {bs:List Bool} {i:Nat},bs[i]? =some false->((bs.set i true).filter id).length=(bs.filter id).length+1
 | [],i,h=>by simp at h
 | x::r,0,h=>by simp at h; subst h; simp
 | x::r,i+1,h=>by
  have:=Sb (bs:=r) (i:=i) (by simpa using h)
  rw [Hb,uA,uA]
  cases x <;> simp [this]
theorem acC {n node:Int} (hb:bs.length=7) (hn:n<=7) (hv:th n node) (h:¬ nX bs n node):Ax (jh bs n node)=Ax bs+1:=by
 unfold jh
 rw [if_pos hv]
 unfold th at hv
 have hl:node.toNat < bs.length:=by omega
 have e:bs[node.toNat]? =some bs[node.toNat]:=cj hl
 refine Sb ?_
 cases hx:bs[node.toNat] with
 | true=>exact absurd ⟨hv,by rw [e,hx]⟩ h
 | false=>rw [e,hx]
theorem EB (bs:List Bool) (n node:Int):(jh bs n node).length=bs.length:=by
 unfold jh; split <;> simp
theorem ag9 (hi:PI p) (ho:wv p m) (hm:lT m):PI (tX p m) where
 nodes:=hi.nodes
 node:=hi.node
 phase:=hi.phase
 told:=(EB _ _ _).trans hi.told
 by_:=hi.by_
 inc:=hi.inc
 len:=hi.len
 so:=hi.so
 next:=hi.next
 bC:=hi.bC
 kept:=by
  have h1:=acC hi.told hi.nodes.2 ho.2.2.2.1 ho.2.2.2.2
  have h2:=hi.kept
  have h3:=hm.2.2.2.2.2.2.1.1
  show (p.kept++m.d_).length<=4096 * Ax (jh p.told p.nodes m.bC)
  rw [h1,eQ]; omega
 bj:=hi.bj
 seen:=hi.seen
 ut:=λv hv=>by
  rcases gD.1 hv with hv | hv
  ·exact hi.ut v hv
  ·have:=hm.2.2.2.2.2.2.1.2 v hv
   exact ⟨this,S' this⟩
 rx:=hi.rx
 uu:=hi.uu
abbrev J8 (s:mu) (told:List Bool) (A:Option Addr) (c:Nat) (kept:List dj):mu:=⟨s.node,s.nodes,s.phase,s.bj,s.seen,s.bC,s.next,s.bt,told,A,c,kept,s.bm,s.F⟩
theorem Ag:(!decide (a=b))=decide (a≠b):=by by_cases h:a=b <;> simp [h]
structure akM where
 i:Nat
 A:Option Addr
 c:Nat
variable{b:Nat}
theorem X7 (m:bQ) (q:gg) (hk:fN L m q) (hm:lT m):Fn prog 358 #[.pointer (some ⟨b,0,none⟩),.agg (List.toArray (dq m q))] (pr b p::L) (λv L'=>∃ A c,v=.slice A (ng p m).2.length c/\L'=aN dE 174 A c (ng p m).2::pr b (ng p m).1::L):=by
 refine aH func358 J J J J<|aa<|bS J J J λb3=>ae J<|O<|ar ?_
 refine cQ b<|lX λs cK hi=> ?_
 subst cK
 have hn:1<=s.nodes/\s.nodes<=7:=hi.nodes
 have mn:s.told.length=7:=hi.told
 have vL:=hm.2.2.2.2.2.2.1
 have oQ:s.kept.length<=4096 * Ax s.told:=hi.kept
 have PO:=S8 s.told
 refine bW (cells b (gC s) 279::cells b3 (dq m q) 174::[]) [] [0,2,4,6,8,10,12,14,16,18,20,22,24,26,28,30,32,34,36,38,40,42,44,46,48,50,52,54,56,58,61,62,64] (by kernel_rfl) al<|aq J J<|aL J J<|aw J J<|aG J J J<|ak J J (dB J J)<|aq J J<|gE 12 J (λf2=> ?_) (λf2=> ?_)
 ·refine aD J J<|aD J J<|aD J J<|aD J J<|aD J J<|aD J J<|aD J J<|ak J J (d9 J J)<|aq J J<|aD J J<|aD J J<|aD J J<|aD J J<|aD J J<|aD J J<|aD J J<|ak J J (d9 J J)<|aq J J<|aD J J<|aD J J<|aD J J<|aD J J<|aD J J<|aD J J<|an J<|ah J<|au<|aD J J<|ak J J (d9 J J)<|aR<|cg J<|aa<|ae J<|O<|av<|aU ?_
  have ho:¬ wv s.pl m:=λh=>f2 h.1
  have he:ng s.pl m=(s.pl,[]):=by unfold ng; rw [if_neg ho]
  rw [he]
  refine aF.ay (fD b s _ J hi) ?_
  exact aF.ay (du dE 174 none _)<|aZ J J al (⟨none,0,J,J⟩)
 refine aC J J (dp J)<|aC J J (kg J J)<|aC J J (cU J)<|aC J J (gc J)<|aC J J (dp J)<|aC J J (kg J J)<|aC J J (ot (a:=m.bj) (b:=s.bj) J J)<|er 19 (v':=.bool (decide (m.bj≠s.bj))) J (bi Value.bool Ag)<|ak J J (dG J J)<|aq J J<|gE 21 J (λkW=> ?_) (λkW=> ?_)
 ·refine aD J J<|aD J J<|aD J J<|aD J J<|aD J J<|aD J J<|aD J J<|ak J J (d9 J J)<|aq J J<|aD J J<|aD J J<|aD J J<|aD J J<|aD J J<|aD J J<|an J<|ah J<|au<|aD J J<|ak J J (d9 J J)<|aR<|cg J<|aa<|ae J<|O<|av<|aU ?_
  have ho:¬ wv s.pl m:=λh=>kW h.2.1
  have he:ng s.pl m=(s.pl,[]):=by unfold ng; rw [if_neg ho]
  rw [he]
  refine aF.ay (fD b s _ J hi) ?_
  exact aF.ay (du dE 174 none _)<|aZ J J al (⟨none,0,J,J⟩)
 refine aC J J (dp J)<|aC J J (dY J J)<|aC J J (cU J)<|aC J J (gc J)<|aC J J (dp J)<|aC J J (dY J J)<|aC J J (dB J J)<|ak J J (dG J J)<|aq J J<|gE 30 J (λoU=> ?_) (λoU=> ?_)
 ·refine aD J J<|aD J J<|aD J J<|aD J J<|aD J J<|aD J J<|an J<|ah J<|au<|aD J J<|ak J J (d9 J J)<|aR<|cg J<|aa<|ae J<|O<|av<|aU ?_
  have ho:¬ wv s.pl m:=λh=>oU h.2.2.1
  have he:ng s.pl m=(s.pl,[]):=by unfold ng; rw [if_neg ho]
  rw [he]
  refine aF.ay (fD b s _ J hi) ?_
  exact aF.ay (du dE 174 none _)<|aZ J J al (⟨none,0,J,J⟩)
 refine aC J J (cU J)<|aC J J (gc J)<|aC J J (dp J)<|aC J J (dY J J)<|aC J J (dp J)<|aC J J (dY J J)<|an J<|aj J<|g_ s.bt<|aB J J (Me mn hn.2 m.bC)<|au<|aC J J (iF J)<|ak J J (dG J J)<|aR<|bz J (λxF=> ?_) (λxF=> ?_)
 ·refine aa<|ae J<|O<|av<|aU ?_
  have ho:¬ wv s.pl m:=λh=>xF ⟨h.2.2.2.1,h.2.2.2.2⟩
  rw [acB xF]
  have he:ng s.pl m=(s.pl,[]):=by unfold ng; rw [if_neg ho]
  rw [he]
  refine aF.ay (fD b s _ J hi) ?_
  exact aF.ay (du dE 174 none _)<|aZ J J al (⟨none,0,J,J⟩)
 refine az<|ai<|ar ?_
 have ho:wv s.pl m:=⟨eX.1 f2,eX.1 kW,eX.1 oU,(eX.1 xF).1,(eX.1 xF).2⟩
 have BP:=ag9 hi ho hm
 refine b_ (a_.lay (a_.dT al hk.d_))<|aa<|ao J<|ax J J<|ab J J (bY J)<|Y J<|O<|aX<|cY (σ:=akM) [0,41,42] (λg=>g.i<=m.d_.length) (λg kv=>(43,.int .i64 (g.i:Int))::kv) (λg=>cells b (gC (J8 s (jh s.told s.nodes m.bC) g.A g.c (s.kept++m.d_.take g.i))) 279::iH s.bt (jh s.told s.nodes m.bC) s.nodes::aN dz 323 g.A g.c (s.kept++m.d_.take g.i)::cy eL mV true s.bm (nT s.F)::qy s.F s.nodes::cells b3 (dq m q) 174::sl dz q.d_.1 q.d_.2 m.d_::L) (λg=>m.d_.length - g.i) (⟨0,s.A,s.c⟩) J (dF _) ((by rw [List.take_zero,tE]; exact al)) (dc J) ?_
 rintro ⟨i,A,c⟩ eG
 dsimp only at eG ⊢
 refine aa<|ab J J (bU J J)<|O<|ar<|bz J (λGu=> ?_) (λGu=> ?_)
 ·refine az<|ai<|ar<|aX ?_
  obtain ⟨v,hv⟩:∃ v,m.d_[i]? =some v:=⟨_,cj (by omega)⟩
  have ul:=S' (vL.2 v (eA hv))
  have hta:=ll hv
  refine aa<|f6 J J J (J) ((bJ (A:=q.d_.1) (c:=q.d_.2))) (hv) λakN akO akP OC=> ?_
  have OD:=hv
  refine kh J J OC OD (λ_=>J) λvM OE=> ?_
  simp only [dL,dm]
  refine bB J J λb6=>aE J J<|O<|aa<|ao J<|bD J J<|aJ J J (Hu v.en bJ ul.2.2.2) ?_
  rintro _ _ ⟨Xj,rfl,rfl⟩
  refine bF<|ao J<|aE J J<|O<|i5 (cells b (gC (J8 s (jh s.told s.nodes m.bC) A c (s.kept++m.d_.take i))) 279::cells b6 (tT v Xj) 323::[]) [10] [0,2,4,6,8,10,13,15,16,18,21] (by kernel_rfl) al<|aq J J<|aq J J<|aL J J<|aw J J<|aG J J J<|oH 55 (.slice A (s.kept++m.d_.take i).length c) J<|cf J J J<|an J<|ef J J J J J J λb57=> ?_
  refine eh (k:=1) dz [v] (jZ (fI Xj (lk slk) ul)) J (by decide)<|bF<|aV 57 (.slice (some ⟨b57,0,none⟩) [v].length 1) J<|au<|an J ?_
  refine fi J J J J J slk (by simp only [eQ,gq,dO,ej]; omega) λA58 c58=> ?_
  rw [fh, <- hta]
  refine au<|aL J J<|aw J J<|an J<|aE J J<|gZ J<|aR<|bA<|ai<|aQ<|ab J J (bE J J (by omega))<|cz 61 J<|Y J<|O<|ai ?_
  exact ⟨⟨i+1,A58,c58⟩,(by simp only; omega),by simp only; omega,bO rfl⟩
 refine cw<|aY<|aY<|cu<|ai<|ar ?_
 rw [gQ (show m.d_.length<=i by omega)]
 refine aa<|Y J<|aS J<|ao J<|ax J J<|g_ s.bt<|aB J J (KP ((EB _ _ _).trans mn) hn)<|ab J J (iF J)<|O<|bz J (λnu=> ?_) (λnu=> ?_)
 ·refine aa<|ae J<|O<|av<|aU ?_
  have he:ng s.pl m=(tX s.pl m,[]):=by unfold ng; rw [if_pos ho,if_neg (show ¬ uO (tX s.pl m).told s.pl.nodes from nu)]
  rw [he]
  refine aF.ay (fD b (J8 s (jh s.told s.nodes m.bC) A c (s.kept++m.d_)) (tX s.pl m) J BP) ?_
  exact aF.ay (du dE 174 none _)<|aZ J J al (⟨none,0,J,J⟩)
 refine az<|ai ?_
 refine b_ (fD b (J8 s (jh s.told s.nodes m.bC) A c (s.kept++m.d_)) (tX s.pl m) J BP) ?_
 have he:ng s.pl m=wM (tX s.pl m):=by unfold ng; rw [if_pos ho,if_pos (show uO (tX s.pl m).told s.pl.nodes from eX.1 nu)]
 refine aa<|Y J ?_
 refine aP b<|aJ J J (aa9 (p:=tX s.pl m) ho.1) ?_
 rintro _ _ ⟨GL,B3,rfl,rfl⟩
 refine ae J<|O<|av ?_
 rw [he]
 exact aZ J J al (⟨GL,B3,J,J⟩)
open Go Go.Proofs Go.Proofs.Tryz
theorem ad1 {slot:Int} (h:Be (F.map gb.pl) slot=none):cq (nT F) slot=none:=by
 rw [o9]
 intro z hz e
 obtain ⟨f,hf,rfl⟩:=fY.1 hz
 have:=vR.1 h f.pl (fY.2 ⟨f,hf,rfl⟩)
 exact this (dV e)
theorem Tb {slot:Int} {f:mP} (h:Be (F.map gb.pl) slot=some f):∃ (k:Nat) (g:gb),F[k]? =some g/\g.pl=f/\g.slot=slot:=by
 have h1:=List.find?_some h
 have h2:=G8 h
 obtain ⟨g,hg,rfl⟩:=fY.1 h2
 obtain ⟨k,hk⟩:=od hg
 exact ⟨k,g,hk,rfl,o3 h1⟩
variable{g:gb}
theorem aik (h:F.Pairwise λf g=>g.slot < f.slot) {j:Nat} {f:gb} (hi:F[i]? =some f) (hj:F[j]? =some g) (iS:i≠j):f.slot≠g.slot:=by
 obtain ⟨a1,a2⟩:=dX.1 hi
 obtain ⟨b1,b2⟩:=dX.1 hj
 have hp:=xR.1 h
 rcases Nat.lt_or_ge i j with cL | DD
 ·have:=hp i j a1 b1 cL; rw [a2,b2] at this; omega
 ·have:=hp j i b1 a1 (by omega); rw [a2,b2] at this; omega
theorem Sc (h:F.Pairwise λf g=>g.slot < f.slot) (hk:F[k]? =some g) (n node:Int):(F.set k ⟨g.slot,g.en,jh g.by_ n node,g.vb⟩).map gb.pl=ww (F.map gb.pl) g.slot n node:=by
 unfold ww
 apply zP
 intro j
 rw [e_,e_,e_,uz]
 by_cases e:k=j
 ·subst e
  rw [if_pos rfl,if_pos (dX.1 hk).1,hk]
  simp
 ·rw [if_neg e]
  cases hj:F[j]? with
  | none=>rfl
  | some f=>
   have:=aik h hk hj e
   simp only [qI,kH]
   rw [if_neg (λx=>this x.symm)]
theorem T1 (hk:F[k]? =some g) (bs:List Bool):nT (F.set k ⟨g.slot,g.en,bs,g.vb⟩)=nT F:=by
 unfold nT
 rw [l8]
 exact Md (by rw [e_,hk]; rfl)
theorem T2 (bs:List Bool):rg (F.set k ⟨g.slot,g.en,bs,g.vb⟩) N=(rg F N).set k (iH g.vb bs N):=by
 unfold rg; rw [l8]
theorem afB (h:F.Pairwise λf g=>g.slot < f.slot) (hk:F[k]? =some g):F.filter (λf=> !decide (f.slot=g.slot))=F.eraseIdx k:=by
 induction F generalizing k with
 | nil=>simp at hk
 | cons x r ih=>
  obtain ⟨h1,h2⟩:=qG.1 h
  rw [uA]
  cases k with
  | zero=>
   simp only [List.getElem?_cons_zero,kH] at hk
   subst hk
   rw [if_neg (by simp),List.eraseIdx_cons_zero]
   exact rD.2 λf hf=>by have:=h1 f hf; simp; omega
  | succ k=>
   simp only [List.getElem?_cons_succ] at hk
   have:=h1 g (eA hk)
   rw [if_pos (by simp; omega),Ha,ih h2 hk]
theorem T3 (F:List gb) (slot:Int):fS (nT F) slot=nT (F.filter λf=> !decide (f.slot=slot)):=by
 unfold fS nT; rw [Eg]; rfl
theorem Vd (F:List gb) (slot:Int):(F.filter λf=> !decide (f.slot=slot)).map gb.pl=yH (F.map gb.pl) slot:=by
 unfold yH; rw [Eg]; rfl
theorem Ve {α β:Type} (f:α->β):∀ (l:List α) (k:Nat),(l.map f).eraseIdx k=(l.eraseIdx k).map f
 | [],k=>by simp
 | x::r,0=>rfl
 | x::r,k+1=>by simp [Ve f r k]
theorem Tc {α:Type}:∀ {l:List α} {j:Nat} {p:α},j < l.length->(l.set j p).Perm (p::l.eraseIdx j)
 | [],j,p,h=>by simp at h
 | x::r,0,p,h=>uC _
 | x::r,j+1,p,h=>by
  rw [Hb,Ha]
  exact ((Tc (l:=r) (by simpa using h)).cons x).trans (List.Perm.swap _ _ _)
theorem T4 (h:F.Pairwise λf g=>g.slot < f.slot) (hk:F[k]? =some g):am (D0 F N k::L) (qy (F.filter λf=> !decide (f.slot=g.slot)) N::L):=by
 have hp:=Tc (l:=rg F N) (p:=gP) (dX.1 (Iq (N:=N) hk)).1
 have e:(rg F N).eraseIdx k=rg (F.eraseIdx k) N:=by unfold rg; rw [Ve]
 rw [afB h hk]
 unfold D0 qy
 rw [<- e]
 exact (adR hp).trans (aa1.trans (am.drop _ _))
theorem Td (hi:PI p) (slot node:Int):PI {p with F:=ww p.F slot p.nodes node}:=by
 have hs:∀ f∈ww p.F slot p.nodes node,∃ g∈p.F,f.slot=g.slot/\f.en=g.en/\f.by_.length=g.by_.length:=λf hf=>by
  obtain ⟨g,hg,rfl⟩:=fY.1 hf
  refine ⟨g,hg, ?_⟩
  split
  ·exact ⟨rfl,rfl,EB _ _ _⟩
  ·exact ⟨rfl,rfl,rfl⟩
 exact {
  nodes:=hi.nodes,node:=hi.node,phase:=hi.phase,told:=hi.told
  by_:=λf hf=>by obtain ⟨g,hg,h1,h2,h3⟩:=hs f hf; rw [h3]; exact hi.by_ g hg
  inc:=oh.2 (hi.inc.imp λ{f g} h=>by
   have e:∀ f:mP,(if f.slot=slot then {f with by_:=jh f.by_ p.nodes node} else f).slot=f.slot:=λf=>by split <;> rfl
   rw [e,e]; exact h)
  len:=by show (List.map _ _).length<=4096; rw [gY]; exact hi.len
  so:=λf hf=>by obtain ⟨g,hg,h1,h2,h3⟩:=hs f hf; rw [h1]; exact hi.so g hg
  next:=hi.next,bC:=hi.bC,kept:=hi.kept,bj:=hi.bj,seen:=hi.seen,ut:=hi.ut
  rx:=λf hf=>by obtain ⟨g,hg,h1,h2,h3⟩:=hs f hf; rw [h2]; exact hi.rx g hg
  uu:=λe=>by show List.map _ _=[]; rw [hi.uu e]; rfl}
theorem T5 (hi:PI p) (slot:Int):PI {p with F:=yH p.F slot}:=
 {nodes:=hi.nodes,node:=hi.node,phase:=hi.phase,told:=hi.told
  by_:=λf hf=>hi.by_ f (ke.1 hf).1
  inc:=hi.inc.filter _
  len:=kf (kG _ _) hi.len
  so:=λf hf=>hi.so f (ke.1 hf).1
  next:=hi.next,bC:=hi.bC,kept:=hi.kept,bj:=hi.bj,seen:=hi.seen,ut:=hi.ut
  rx:=λf hf=>hi.rx f (ke.1 hf).1
  uu:=λe=>by show List.filter _ _=[]; rw [hi.uu e]; rfl}
abbrev Jh (s:mu) (F:List gb):mu:=⟨s.node,s.nodes,s.phase,s.bj,s.seen,s.bC,s.next,s.bt,s.told,s.A,s.c,s.kept,s.bm,F⟩
theorem X8 (m:bQ) (q:gg) (hx:gf m) (ia:Be p.F m.slot=none):Fn prog 359 #[.pointer (some ⟨b,0,none⟩),.agg (List.toArray (dq m q))] (pr b p::L) (λv L'=>∃ A c,v=.slice A (jR p m).2.length c/\L'=aN dz 323 A c (jR p m).2::pr b (jR p m).1::L):=by
 have he:jR p m=(p,[]):=by unfold jR; rw [ia]; split <;> rfl
 rw [he]
 refine aH func359 J J J J<|aa<|bS J J J λb3=>ae J<|O<|cQ b<|lX λs cK hi=> ?_
 subst cK
 have hg:=ad1 ia
 refine iQ (by kernel_rfl)<|fq 6 10 (by decide) ?_ ?_
 ·refine dN (cells b (gC s) 279::cells b3 (dq m q) 174::[]) [] [0,2,4,6,8,10,13,14,16,18,21,23,24] (by kernel_rfl) al<|aq J J<|aL J J<|aw J J<|aG J J J<|aw J J<|aG J J J<|an J ?_
  refine o4 (R:=mV) (k:=m.slot) J J J hx.slot (λhn=> ?_) (λu p hu mQ=>absurd hu (by rw [hg]; simp))
  refine au<|aq J J<|ak J J (aO J J)<|ak J J (aO J J)<|an J<|bB J J λb5=>au<|an J<|aE J J<|au<|ak J J (bT J)<|aR<|ai<|ar<|bW (cells b (gC s) 279::cells b3 (dq m q) 174::[]) [] [0,2,4,6,8,10,12,14,16,18,20,22,24,26,28,30,32,34] (by kernel_rfl) al<|aq J J<|aL J J<|aw J J<|aG J J J<|ak J J (dB J J)<|aq J J<|gE 22 J (λiT=> ?_) (λiT=> ?_)
  ·exact aD J J<|aD J J<|aD J J<|aD J J<|aD J J<|aD J J<|aD J J<|ak J J (d9 J J)<|aq J J<|aD J J<|aD J J<|ak J J (d9 J J)<|aR<|cg J<|aa<|ae J<|O<|av<|aU<|aF.ay (fD b s _ J hi)<|aF.ay (du dz 323 none _)<|aZ J J al (⟨none,0,J,J⟩)
  refine aC J J (dp J)<|aC J J (kg J J)<|aC J J (cU J)<|aC J J (gc J)<|aC J J (dp J)<|aC J J (kg J J)<|aC J J (ot (a:=m.bj) (b:=s.bj) J J)<|er 29 (v':=.bool (decide (m.bj≠s.bj))) J (bi Value.bool Ag)<|ak J J (dG J J)<|aq J J<|gE 31 J (λjV=> ?_) (λjV=> ?_)
  ·exact aD J J<|aD J J<|ak J J (d9 J J)<|aR<|cg J<|aa<|ae J<|O<|av<|aU<|aF.ay (fD b s _ J hi)<|aF.ay (du dz 323 none _)<|aZ J J al (⟨none,0,J,J⟩)
  exact aC J J (cU J)<|aC J J (ff J)<|oH 33 (.bool true) J<|ak J J (dG J J)<|aR<|cg J<|aa<|ae J<|O<|av<|aU<|aF.ay (fD b s _ J hi)<|aF.ay (du dz 323 none _)<|aZ J J al (⟨none,0,J,J⟩)
 refine dN (cells b (gC s) 279::cells b3 (dq m q) 174::[]) [] [0,2,4,6,8,10,21,13,14,16,18,23,24] (by kernel_rfl) al<|aq J J<|aL J J<|aw J J<|aG J J J<|aw J J<|aG J J J<|an J<|bB J J λb5=>au<|an J ?_
 refine o4 (R:=mV) (k:=m.slot) J J J hx.slot (λhn=> ?_) (λu p hu mQ=>absurd hu (by rw [hg]; simp))
 refine au<|aq J J<|ak J J (aO J J)<|ak J J (aO J J)<|an J<|aE J J<|au<|ak J J (bT J)<|aR<|ai<|ar<|bW (cells b (gC s) 279::cells b3 (dq m q) 174::[]) [] [0,2,4,6,8,10,12,14,16,18,20,22,24,26,28,30,32,34] (by kernel_rfl) al<|aq J J<|aL J J<|aw J J<|aG J J J<|ak J J (dB J J)<|aq J J<|gE 22 J (λiT=> ?_) (λiT=> ?_)
 ·exact aD J J<|aD J J<|aD J J<|aD J J<|aD J J<|aD J J<|aD J J<|ak J J (d9 J J)<|aq J J<|aD J J<|aD J J<|ak J J (d9 J J)<|aR<|cg J<|aa<|ae J<|O<|av<|aU<|aF.ay (fD b s _ J hi)<|aF.ay (du dz 323 none _)<|aZ J J al (⟨none,0,J,J⟩)
 refine aC J J (dp J)<|aC J J (kg J J)<|aC J J (cU J)<|aC J J (gc J)<|aC J J (dp J)<|aC J J (kg J J)<|aC J J (ot (a:=m.bj) (b:=s.bj) J J)<|er 29 (v':=.bool (decide (m.bj≠s.bj))) J (bi Value.bool Ag)<|ak J J (dG J J)<|aq J J<|gE 31 J (λjV=> ?_) (λjV=> ?_)
 ·exact aD J J<|aD J J<|ak J J (d9 J J)<|aR<|cg J<|aa<|ae J<|O<|av<|aU<|aF.ay (fD b s _ J hi)<|aF.ay (du dz 323 none _)<|aZ J J al (⟨none,0,J,J⟩)
 exact aC J J (cU J)<|aC J J (ff J)<|oH 33 (.bool true) J<|ak J J (dG J J)<|aR<|cg J<|aa<|ae J<|O<|av<|aU<|aF.ay (fD b s _ J hi)<|aF.ay (du dz 323 none _)<|aZ J J al (⟨none,0,J,J⟩)
variable{f:mP}
theorem Y0 (m:bQ) (q:gg) (hx:gf m) (mz:¬ (p.phase=2/\m.bj=p.bj)) (ia:Be p.F m.slot=some f):Fn prog 359 #[.pointer (some ⟨b,0,none⟩),.agg (List.toArray (dq m q))] (pr b p::L) (λv L'=>∃ A c,v=.slice A (jR p m).2.length c/\L'=aN dz 323 A c (jR p m).2::pr b (jR p m).1::L):=by
 have he:jR p m=(p,[]):=by unfold jR; rw [if_neg mz]
 rw [he]
 refine aH func359 J J J J<|aa<|bS J J J λb3=>ae J<|O<|cQ b<|lX λs cK hi=> ?_
 subst cK
 obtain ⟨k,g,hk,rfl,qp⟩:=Tb ia
 have jS:=ID (IV hi) hk
 rw [qp] at jS
 refine iQ (by kernel_rfl)<|fq 6 10 (by decide) ?_ ?_
 ·refine dN (cells b (gC s) 279::cells b3 (dq m q) 174::[]) [] [0,2,4,6,8,10,13,14,16,18,21,23,24] (by kernel_rfl) al<|aq J J<|aL J J<|aw J J<|aG J J J<|aw J J<|aG J J J<|an J ?_
  refine o4 (R:=mV) (k:=m.slot) J J J hx.slot (λhn=>absurd hn (by rw [jS]; simp)) (λu2 p2 hu mQ=> ?_)
  rw [jS] at hu
  obtain rfl:=ez hu
  simp only [dL,dm]
  refine au<|aq J J<|ak J J (aO J J)<|ak J J (aO J J)<|an J<|bB J J λb5=>au<|an J<|aE J J<|au<|ak J J (bT J)<|aR<|ai<|ar<|bW (cells b (gC s) 279::cells b3 (dq m q) 174::[]) [] [0,2,4,6,8,10,12,14,16,18,20,22,24,26,28,30,32,34] (by kernel_rfl) al<|aq J J<|aL J J<|aw J J<|aG J J J<|ak J J (dB J J)<|aq J J<|gE 22 J (λiT=> ?_) (λiT=> ?_)
  ·exact aD J J<|aD J J<|aD J J<|aD J J<|aD J J<|aD J J<|aD J J<|ak J J (d9 J J)<|aq J J<|aD J J<|aD J J<|ak J J (d9 J J)<|aR<|cg J<|aa<|ae J<|O<|av<|aU<|aF.ay (fD b s _ J hi)<|aF.ay (du dz 323 none _)<|aZ J J al (⟨none,0,J,J⟩)
  refine aC J J (dp J)<|aC J J (kg J J)<|aC J J (cU J)<|aC J J (gc J)<|aC J J (dp J)<|aC J J (kg J J)<|aC J J (ot (a:=m.bj) (b:=s.bj) J J)<|er 29 (v':=.bool (decide (m.bj≠s.bj))) J (bi Value.bool Ag)<|ak J J (dG J J)<|aq J J<|gE 31 J (λjV=> ?_) (λjV=> ?_)
  ·exact aD J J<|aD J J<|ak J J (d9 J J)<|aR<|cg J<|aa<|ae J<|O<|av<|aU<|aF.ay (fD b s _ J hi)<|aF.ay (du dz 323 none _)<|aZ J J al (⟨none,0,J,J⟩)
  exact aC J J (cU J)<|aC J J (ff J)<|ak J J (dG J J)<|aR<|xZ J (absurd ⟨eX.1 iT,eX.1 jV⟩ mz)<|aa<|ae J<|O<|av<|aU<|aF.ay (fD b s _ J hi)<|aF.ay (du dz 323 none _)<|aZ J J al (⟨none,0,J,J⟩)
 refine dN (cells b (gC s) 279::cells b3 (dq m q) 174::[]) [] [0,2,4,6,8,10,21,13,14,16,18,23,24] (by kernel_rfl) al<|aq J J<|aL J J<|aw J J<|aG J J J<|aw J J<|aG J J J<|an J<|bB J J λb5=>au<|an J ?_
 refine o4 (R:=mV) (k:=m.slot) J J J hx.slot (λhn=>absurd hn (by rw [jS]; simp)) (λu2 p2 hu mQ=> ?_)
 rw [jS] at hu
 obtain rfl:=ez hu
 simp only [dL,dm]
 refine au<|aq J J<|ak J J (aO J J)<|ak J J (aO J J)<|an J<|aE J J<|au<|ak J J (bT J)<|aR<|ai<|ar<|bW (cells b (gC s) 279::cells b3 (dq m q) 174::[]) [] [0,2,4,6,8,10,12,14,16,18,20,22,24,26,28,30,32,34] (by kernel_rfl) al<|aq J J<|aL J J<|aw J J<|aG J J J<|ak J J (dB J J)<|aq J J<|gE 22 J (λiT=> ?_) (λiT=> ?_)
 ·exact aD J J<|aD J J<|aD J J<|aD J J<|aD J J<|aD J J<|aD J J<|ak J J (d9 J J)<|aq J J<|aD J J<|aD J J<|ak J J (d9 J J)<|aR<|cg J<|aa<|ae J<|O<|av<|aU<|aF.ay (fD b s _ J hi)<|aF.ay (du dz 323 none _)<|aZ J J al (⟨none,0,J,J⟩)
 refine aC J J (dp J)<|aC J J (kg J J)<|aC J J (cU J)<|aC J J (gc J)<|aC J J (dp J)<|aC J J (kg J J)<|aC J J (ot (a:=m.bj) (b:=s.bj) J J)<|er 29 (v':=.bool (decide (m.bj≠s.bj))) J (bi Value.bool Ag)<|ak J J (dG J J)<|aq J J<|gE 31 J (λjV=> ?_) (λjV=> ?_)
 ·exact aD J J<|aD J J<|ak J J (d9 J J)<|aR<|cg J<|aa<|ae J<|O<|av<|aU<|aF.ay (fD b s _ J hi)<|aF.ay (du dz 323 none _)<|aZ J J al (⟨none,0,J,J⟩)
 exact aC J J (cU J)<|aC J J (ff J)<|ak J J (dG J J)<|aR<|xZ J (absurd ⟨eX.1 iT,eX.1 jV⟩ mz)<|aa<|ae J<|O<|av<|aU<|aF.ay (fD b s _ J hi)<|aF.ay (du dz 323 none _)<|aZ J J al (⟨none,0,J,J⟩)
open Go Go.Proofs Go.Proofs.Tryz
theorem Yo (m:bQ) (q:gg) (hx:gf m) (mz:p.phase=2/\m.bj=p.bj) (ia:Be p.F m.slot=some f):Fn prog 359 #[.pointer (some ⟨b,0,none⟩),.agg (List.toArray (dq m q))] (pr b p::L) (λv L'=>∃ A c,v=.slice A (jR p m).2.length c/\L'=aN dz 323 A c (jR p m).2::pr b (jR p m).1::L):=by
 refine aH func359 J J J J<|aa<|bS J J J λb3=>ae J<|O<|cQ b<|lX λs cK hi=> ?_
 subst cK
 obtain ⟨k,g,hk,rfl,qp⟩:=Tb ia
 have FZ:=IV hi
 have jS:=ID FZ hk
 rw [qp] at jS
 have hn:1<=s.nodes/\s.nodes<=7:=hi.nodes
 have q':g.pl∈s.pl.F:=fY.2 ⟨g,eA hk,rfl⟩
 have ic:g.by_.length=7:=hi.by_ g.pl q'
 have xE:f_ g.en/\fC g.en.order:=hi.rx g.pl q'
 have Xk:s.phase=2:=mz.1
 have D2:m.bj=s.bj:=mz.2
 refine iQ (by kernel_rfl)<|fq 6 10 (by decide) ?_ ?_
 ·refine dN (cells b (gC s) 279::cells b3 (dq m q) 174::[]) [] [0,2,4,6,8,10,13,14,16,18,21,23,24] (by kernel_rfl) al<|aq J J<|aL J J<|aw J J<|aG J J J<|aw J J<|aG J J J<|an J ?_
  refine o4 (R:=mV) (k:=m.slot) J J J hx.slot (λhn=>absurd hn (by rw [jS]; simp)) (λu2 p2 hu mQ=> ?_)
  rw [jS] at hu
  obtain rfl:=ez hu
  simp only [dL,dm]
  refine au<|aq J J<|ak J J (aO J J)<|ak J J (aO J J)<|an J<|bB J J λb5=>au<|an J<|aE J J<|au<|ak J J (bT J)<|aR<|ai<|ar<|bW (cells b (gC s) 279::cells b3 (dq m q) 174::[]) [] [0,2,4,6,8,10,12,14,16,18,20,22,24,26,28,30,32,34] (by kernel_rfl) al<|aq J J<|aL J J<|aw J J<|aG J J J<|ak J J (dB J J)<|lZ 21 J (by omega)<|aq J J<|aC J J (dp J)<|aC J J (kg J J)<|aC J J (cU J)<|aC J J (gc J)<|aC J J (dp J)<|aC J J (kg J J)<|aC J J (ot (a:=m.bj) (b:=s.bj) J J)<|er 29 (v':=.bool false) J (bi Value.bool (by rw [Ag]; exact cJ (λh=>h D2)))<|ak J J (dG J J)<|aq J J<|aC J J (cU J)<|aC J J (ff J)<|oH 33 (.bool false) J<|ak J J (dG J J)<|aR<|aT J<|az<|ai<|MG s.nodes hk<|aa<|ao J<|ax J J<|ao J<|ax J J<|g_ g.vb<|aB J J (Me ic hn.2 m.bC)<|O<|ar<|aa<|ao J<|ax J J<|g_ g.vb<|aB J J (KP ((EB _ _ _).trans ic) hn)<|ab J J (iF J)<|O<|bz J (λld=> ?_) (λld=> ?_)
  ·refine aa<|ae J<|O<|av<|aU ?_
   have he:jR s.pl m=({s.pl with F:=ww s.pl.F m.slot s.pl.nodes m.bC},[]):=by unfold jR; rw [if_pos mz,ia]; dsimp only; rw [if_neg (show ¬ uO (jh g.by_ s.nodes m.bC) s.nodes from ld)]
   rw [he]
   rw [<- T1 hk (jh g.by_ s.nodes m.bC)]
   exact aF.ay (NT (s.F.set k ⟨g.slot,g.en,jh g.by_ s.nodes m.bC,g.vb⟩) s.nodes hk (T2 _))<|aF.ay (fD b (Jh s (s.F.set k ⟨g.slot,g.en,jh g.by_ s.nodes m.bC,g.vb⟩)) {s.pl with F:=ww s.pl.F m.slot s.pl.nodes m.bC} (by simp only [mu.pl]; rw [Sc FZ hk,qp]) (Td hi _ _))<|aF.ay (du dz 323 none _)<|aZ J J al (⟨none,0,J,J⟩)
  refine az<|ai ?_
  have he:jR s.pl m=({s.pl with F:=yH s.pl.F m.slot},[⟨m.slot,s.bj,g.en⟩]):=by unfold jR; rw [if_pos mz,ia]; dsimp only; rw [if_pos (show uO (jh g.by_ s.nodes m.bC) s.nodes from eX.1 ld)]
  refine bW (cells b (gC s) 279::cells b3 (dq m q) 174::[]) [] [0,2,4,6,8,10,13] (by kernel_rfl) al<|aq J J<|aL J J<|aw J J<|aG J J J<|aw J J<|aG J J J<|an J<|Es J J hx.slot<|au<|aR ?_
  rw [T3]
  refine b_ (am.trans (cR.g (L:=_) (p:=D0 s.F s.nodes k)) (T4 FZ hk)) ?_
  rw [qp]
  refine bW (cells b (gC s) 279::cells b3 (dq m q) 174::cells b5 [.bool g.en.fe,.string g.en.order.cV,.string g.en.order.aK,.int .i64 g.en.order.eO,.slice p2.1 g.en.order.cut.length p2.2,.pointer (some ⟨g.vb,0,none⟩)] 419::[]) [] [0,2,4,6,8,10,12,14,16,19,20] (by kernel_rfl) al<|aw J J<|aG J J J<|aq J J<|aL J J<|aw J J<|cf J J J<|aw J J<|cf J J J<|ak J J (bI J J)<|an J<|ef J J J J J J λnw=>eh (k:=1) dz [⟨m.slot,s.bj,g.en⟩] (jZ (fI p2 (lk slk) ⟨hx.slot,(tQ hi.bj).1,(tQ hi.bj).2,xE.2⟩)) J (by decide)<|au<|ak J J (bT J)<|aR<|av ?_
  rw [he]
  exact aF.ay (fD b (Jh s (s.F.filter λf=> !decide (f.slot=m.slot))) {s.pl with F:=yH s.pl.F m.slot} (by simp only [mu.pl]; rw [Vd]) (T5 hi _))<|aZ J J al (⟨some ⟨nw,0,none⟩,1,J,J⟩)
 refine dN (cells b (gC s) 279::cells b3 (dq m q) 174::[]) [] [0,2,4,6,8,10,21,13,14,16,18,23,24] (by kernel_rfl) al<|aq J J<|aL J J<|aw J J<|aG J J J<|aw J J<|aG J J J<|an J<|bB J J λb5=>au<|an J ?_
 refine o4 (R:=mV) (k:=m.slot) J J J hx.slot (λhn=>absurd hn (by rw [jS]; simp)) (λu2 p2 hu mQ=> ?_)
 rw [jS] at hu
 obtain rfl:=ez hu
 simp only [dL,dm]
 refine au<|aq J J<|ak J J (aO J J)<|ak J J (aO J J)<|an J<|aE J J<|au<|ak J J (bT J)<|aR<|ai<|ar<|bW (cells b (gC s) 279::cells b3 (dq m q) 174::[]) [] [0,2,4,6,8,10,12,14,16,18,20,22,24,26,28,30,32,34] (by kernel_rfl) al<|aq J J<|aL J J<|aw J J<|aG J J J<|ak J J (dB J J)<|lZ 21 J (by omega)<|aq J J<|aC J J (dp J)<|aC J J (kg J J)<|aC J J (cU J)<|aC J J (gc J)<|aC J J (dp J)<|aC J J (kg J J)<|aC J J (ot (a:=m.bj) (b:=s.bj) J J)<|er 29 (v':=.bool false) J (bi Value.bool (by rw [Ag]; exact cJ (λh=>h D2)))<|ak J J (dG J J)<|aq J J<|aC J J (cU J)<|aC J J (ff J)<|oH 33 (.bool false) J<|ak J J (dG J J)<|aR<|aT J<|az<|ai<|MG s.nodes hk<|aa<|ao J<|ax J J<|ao J<|ax J J<|g_ g.vb<|aB J J (Me ic hn.2 m.bC)<|O<|ar<|aa<|ao J<|ax J J<|g_ g.vb<|aB J J (KP ((EB _ _ _).trans ic) hn)<|ab J J (iF J)<|O<|bz J (λld=> ?_) (λld=> ?_)
 ·refine aa<|ae J<|O<|av<|aU ?_
  have he:jR s.pl m=({s.pl with F:=ww s.pl.F m.slot s.pl.nodes m.bC},[]):=by unfold jR; rw [if_pos mz,ia]; dsimp only; rw [if_neg (show ¬ uO (jh g.by_ s.nodes m.bC) s.nodes from ld)]
  rw [he]
  rw [<- T1 hk (jh g.by_ s.nodes m.bC)]
  exact aF.ay (NT (s.F.set k ⟨g.slot,g.en,jh g.by_ s.nodes m.bC,g.vb⟩) s.nodes hk (T2 _))<|aF.ay (fD b (Jh s (s.F.set k ⟨g.slot,g.en,jh g.by_ s.nodes m.bC,g.vb⟩)) {s.pl with F:=ww s.pl.F m.slot s.pl.nodes m.bC} (by simp only [mu.pl]; rw [Sc FZ hk,qp]) (Td hi _ _))<|aF.ay (du dz 323 none _)<|aZ J J al (⟨none,0,J,J⟩)
 refine az<|ai ?_
 have he:jR s.pl m=({s.pl with F:=yH s.pl.F m.slot},[⟨m.slot,s.bj,g.en⟩]):=by unfold jR; rw [if_pos mz,ia]; dsimp only; rw [if_pos (show uO (jh g.by_ s.nodes m.bC) s.nodes from eX.1 ld)]
 refine bW (cells b (gC s) 279::cells b3 (dq m q) 174::[]) [] [0,2,4,6,8,10,13] (by kernel_rfl) al<|aq J J<|aL J J<|aw J J<|aG J J J<|aw J J<|aG J J J<|an J<|Es J J hx.slot<|au<|aR ?_
 rw [T3]
 refine b_ (am.trans (cR.g (L:=_) (p:=D0 s.F s.nodes k)) (T4 FZ hk)) ?_
 rw [qp]
 refine bW (cells b (gC s) 279::cells b3 (dq m q) 174::cells b5 [.bool g.en.fe,.string g.en.order.cV,.string g.en.order.aK,.int .i64 g.en.order.eO,.slice p2.1 g.en.order.cut.length p2.2,.pointer (some ⟨g.vb,0,none⟩)] 419::[]) [] [0,2,4,6,8,10,12,14,16,19,20] (by kernel_rfl) al<|aw J J<|aG J J J<|aq J J<|aL J J<|aw J J<|cf J J J<|aw J J<|cf J J J<|ak J J (bI J J)<|an J<|ef J J J J J J λnw=>eh (k:=1) dz [⟨m.slot,s.bj,g.en⟩] (jZ (fI p2 (lk slk) ⟨hx.slot,(tQ hi.bj).1,(tQ hi.bj).2,xE.2⟩)) J (by decide)<|au<|ak J J (bT J)<|aR<|av ?_
 rw [he]
 exact aF.ay (fD b (Jh s (s.F.filter λf=> !decide (f.slot=m.slot))) {s.pl with F:=yH s.pl.F m.slot} (by simp only [mu.pl]; rw [Vd]) (T5 hi _))<|aZ J J al (⟨some ⟨nw,0,none⟩,1,J,J⟩)
theorem X9 (m:bQ) (q:gg) (hx:gf m):Fn prog 359 #[.pointer (some ⟨b,0,none⟩),.agg (List.toArray (dq m q))] (pr b p::L) (λv L'=>∃ A c,v=.slice A (jR p m).2.length c/\L'=aN dz 323 A c (jR p m).2::pr b (jR p m).1::L):=by
 rcases ia:Be p.F m.slot with _ | f
 ·exact X8 m q hx ia
 ·by_cases mz:p.phase=2/\m.bj=p.bj
  ·exact Yo m q hx mz ia
  ·exact Y0 m q hx mz ia
theorem aa_ {b:Int × Int} (ha:jr a) (hb:jr b):jr (i_ a b):=by
 unfold i_; split
 ·exact hb
 ·exact ha
theorem ag_ (hi:PI p) (hm:jr m.bj):PI {kL p with seen:=i_ p.seen m.bj}:=by
 have k:=MC hi
 exact ⟨k.nodes,k.node,k.phase,k.told,k.by_,k.inc,k.len,k.so,k.next,k.bC,k.kept,k.bj,aa_ hi.seen hm,k.ut,k.rx,k.uu⟩
theorem Yp (m:bQ) (q:gg) (hm:jr m.bj):Fn prog 360 #[.pointer (some ⟨b,0,none⟩),.agg (List.toArray (dq m q))] (pr b p::L) (λv L'=>v=.tuple #[]/\L'=pr b (wN p m)::L):=by
 refine aH func360 J J J J<|aa<|bS J J J λb3=>O<|cQ b<|lX λs cK hi=> ?_
 subst cK
 refine bW (cells b (gC s) 279::cells b3 (dq m q) 174::[]) [] [0,2,4,6,8,10,12,14,16,18,20,22,25,26,28] (by kernel_rfl) al<|aq J J<|aL J J<|aw J J<|aG J J J<|ak J J (dB J J)<|aq J J<|gE 9 J (λh9=> ?_) (λh9=> ?_)
 ·refine aC J J (dp J)<|aC J J (kg J J)<|aC J J (cU J)<|aC J J (gc J)<|aC J J (dp J)<|aC J J (kg J J)<|an J<|aj J<|aB J J (tI m.bj s.bj _)<|au<|aC J J (eE J J)<|ak J J (d9 J J)<|aR<|bz J (λjG=> ?_) (λjG=> ?_)
  ·refine b_ (fD b s _ J hi) ?_
   have he:wN s.pl m={kL s.pl with seen:=i_ s.seen m.bj}:=by unfold wN; rw [if_pos ⟨h9,jG⟩]
   refine aa<|Y J<|aP b<|aB J J (Cr)<|O<|cQ b<|lX λs2 eF dW=> ?_
   have gW:s2.seen=s.seen:=bi PP.seen eF
   refine i5 (cells b3 (dq m q) 174::cells b (gC s2) 279::[]) [10] [0,2,4,6,8,10,12,15,16,18,21] (by kernel_rfl) al<|aq J J<|aq J J<|aL J J<|aw J J<|cf J J J<|aw J J<|cf J J J<|an J<|aB J J (Hm s2.seen m.bj _)<|au<|aL J J<|aw J J<|an J<|aE J J<|gZ J<|aR ?_
   rw [he]
   exact aF.ay (fD b ⟨s2.node,s2.nodes,s2.phase,s2.bj,i_ s2.seen m.bj,s2.bC,s2.next,s2.bt,s2.told,s2.A,s2.c,s2.kept,s2.bm,s2.F⟩ {kL s.pl with seen:=i_ s.seen m.bj} (by rw [<- gW, <- eF]) (ag_ hi hm))<|ei J
  refine az ?_
  have he:wN s.pl m=s.pl:=by unfold wN; rw [if_neg (λh=>jG h.2)]
  rw [he]
  exact aF.ay (fD b s _ J hi)<|ei J
 refine aD J J<|aD J J<|aD J J<|aD J J<|aD J J<|aD J J<|an J<|ah J<|au<|aD J J<|ak J J (dG J J)<|aR<|aT J<|az ?_
 have he:wN s.pl m=s.pl:=by unfold wN; rw [if_neg (λh=>h9 h.1)]
 rw [he]
 exact aF.ay (fD b s _ J hi)<|ei J
open Go Go.Proofs Go.Proofs.Tryz
theorem fN.dT {p:gg} (g:am L L') (h:fN L' m p):fN L m p:=⟨a_.dT g h.cut,a_.dT g h.d_,a_.dT g h.seen,a_.dT g h.events⟩
theorem ad3 (m:bQ) (q:gg) (hx:gf m) (hk:fN L m q) (hc:iP m<=140737488355328):Fn prog 268 #[.pointer (some ⟨b,0,none⟩),.agg (List.toArray (dq m q))] (pr b p::L) (λv L'=>∃ A c A2 c2,v=.tuple #[.slice A (gn p m).2.1.length c,.slice A2 (gn p m).2.2.length c2]/\L'=aN dE 174 A c (gn p m).2.1::aN dz 323 A2 c2 (gn p m).2.2::pr b (gn p m).1::L):=by
 refine aH func268 J J J J<|aa<|bS J J J λb3=>ae J<|ae J<|O<|ar<|bW (pr b p::cells b3 (dq m q) 174::[]) [] [0,3,4,6,8,10,12,14,16,18,20,22,24,26,28,30,32,34,36,38,40] (by kernel_rfl) al<|aq J J<|an J<|aP b<|aB J J (v_)<|aV 9 (.bool true) J<|au<|ak J J (df J)<|aq J J<|aC J J (dp J)<|aC J J (dY J J)<|aC J J (cU J)<|aC J J (gc J)<|aC J J (dp J)<|aC J J (Jf (b:=b) (v:=.int .i64 p.node) λs hs↦(dY J J).val (by rw [show s.node=p.node from bi PP.node hs]))<|aC J J (dB J J)<|ak J J (dG J J)<|aq J J<|gE 20 J (λjU=> ?_) (λjU=> ?_)
 ·refine aD J J<|aD J J<|aD J J<|aD J J<|aD J J<|aD J J<|aD J J<|ak J J (d9 J J)<|aR<|cg J<|aa<|ae J<|ae J<|O<|av<|aU ?_
  have hm:¬ Ap p m:=λh=>jU h.1
  have he:gn p m=(p,[],[]):=by unfold gn; rw [if_pos hm]
  rw [he]
  exact aF.ay (du dE 174 none _)<|aF.ay (du dz 323 none _)<|eS J J J al (⟨none,0,none,0,J,J⟩)
 refine aC J J (dp J)<|aC J J (dY J J)<|aC J J (cU J)<|aC J J (gc J)<|aC J J (dp J)<|aC J J (Jf (b:=b) (v:=.int .i64 p.nodes) λs hs↦(dY J J).val (by rw [show s.nodes=p.nodes from bi PP.nodes hs]))<|aC J J (eV J J)<|ak J J (dG J J)<|aR<|bz J (λxu=> ?_) (λxu=> ?_)
 ·refine aa<|ae J<|ae J<|O<|av<|aU ?_
  have hm:¬ Ap p m:=λh=>by have:=h.2.1; omega
  have he:gn p m=(p,[],[]):=by unfold gn; rw [if_pos hm]
  rw [he]
  exact aF.ay (du dE 174 none _)<|aF.ay (du dz 323 none _)<|eS J J J al (⟨none,0,none,0,J,J⟩)
 refine az<|ai<|ar<|aa<|bD J J<|aJ J J (uL m q hx (hk.tail.tail) hc) ?_
 rintro _ _ ⟨vz,vA,rfl,rfl⟩
 refine Y J<|ab J J (aO J J)<|ab J J (aO J J)<|ae J<|ae J<|O<|aa<|Y J<|ab J J (dB J J)<|O<|bz J (λBW=> ?_) (λBW=> ?_)
 ·refine aa<|ae J<|ae J<|O<|av<|aU ?_
  have hm:¬ Ap p m:=λh=>BW h.2.2
  have he:gn p m=(p,[],[]):=by unfold gn; rw [if_pos hm]
  rw [he]
  exact aF.ay (du dE 174 none _)<|aF.ay (du dz 323 none _)<|eS J J J al (⟨none,0,none,0,J,J⟩)
 refine az<|ai<|ar ?_
 have hm:Ap p m:=⟨eX.1 jU,by omega,eX.1 BW⟩
 have hr:=(CV hm.2.2).1
 refine aa<|ao J<|ax J J<|O<|aX<|aa<|ab J J (ce J J)<|ae J<|O<|bz J (λr9=> ?_) (λr9=> ?_)
 ·refine aQ<|Y J<|bD J J<|aP b<|aJ J J (X7 m q (fN.dT al hk) hr) ?_
  rintro _ _ ⟨Gj,Gk,rfl,rfl⟩
  refine ae J<|O<|bA<|ai<|aa<|Y J<|Y J<|ae J<|ae J<|O<|av ?_
  have he:gn p m=((ng p m).1,(ng p m).2,[]):=by unfold gn; rw [if_neg (not_not_intro hm),if_pos r9]
  rw [he]
  exact aF.ay (du dz 323 none _)<|eS J J J al (⟨Gj,Gk,none,0,J,J⟩)
 refine aa<|ab J J (ce J J)<|ae J<|O<|bz J (λld=> ?_) (λld=> ?_)
 ·refine aQ<|Y J<|bD J J<|aP b<|aJ J J (X9 m q hx) ?_
  rintro _ _ ⟨BX,BY,rfl,rfl⟩
  refine ae J<|O<|bA<|ai<|aa<|Y J<|Y J<|ae J<|ae J<|O<|av ?_
  have he:gn p m=((jR p m).1,[],(jR p m).2):=by unfold gn; rw [if_neg (not_not_intro hm),if_neg r9,if_pos ld]
  rw [he]
  exact aF.ay (du dE 174 none _)<|eS J J J al (⟨none,0,BX,BY,J,J⟩)
 refine aa<|ab J J (ce J J)<|ae J<|O<|bz J (λBH=> ?_) (λBH=> ?_)
 ·refine aQ<|Y J<|bD J J<|aP b<|aB J J (Yp m q hr.2.2.2.1)<|O<|bA<|ai<|aa<|Y J<|Y J<|ae J<|ae J<|O<|av ?_
  have he:gn p m=(wN p m,[],[]):=by unfold gn; rw [if_neg (not_not_intro hm),if_neg r9,if_neg ld,if_pos BH]
  rw [he]
  exact aF.ay (du dE 174 none _)<|aF.ay (du dz 323 none _)<|eS J J J al (⟨none,0,none,0,J,J⟩)
 refine az<|bA<|ai<|aa<|Y J<|Y J<|ae J<|ae J<|O<|av ?_
 have he:gn p m=(p,[],[]):=by unfold gn; rw [if_neg (not_not_intro hm),if_neg r9,if_neg ld,if_neg BH]
 rw [he]
 exact aF.ay (du dE 174 none _)<|aF.ay (du dz 323 none _)<|eS J J J al (⟨none,0,none,0,J,J⟩)
theorem KJ (e:dZ) (ho:fC e.order) (hk:a_ L (aI .i64) A c e.order.cut) (hb:jd e.order<=140737488355000):Fn prog 258 #[.pointer (some ⟨b,0,none⟩),.agg (List.toArray (hO e (A,c)))] (pr b p::L) (λv L'=>∃ A' c',v=.tuple #[.slice A' (qY p e).length c',.int .i64 (if qX p e=0 then p.next else 0),.int .i64 (qX p e)]/\L'=aN dE 174 A' c' (qY p e)::pr b (nS p e)::L):=by
 refine aH func258 J J J J<|aa<|bS J J J λb3=>ae J<|ae J<|ae J<|O<|ar<|aa<|Y J<|aP b<|aB J J (v_)<|aV 11 (.bool true) J<|ab J J (df J)<|O<|aT J<|az<|ai<|aa<|bD J J<|ab J J (bI J J)<|aJ J J (Kv e ho (hk.tail.tail) hb) ?_
 rintro _ _ ⟨⟨B16,d16,k16,rfl⟩,rfl⟩
 refine Y J<|ab J J (aO J J)<|ab J J (aO J J)<|ae J<|ae J<|O<|ar<|aX ?_
 by_cases sn:f_ e
 ·refine aa<|Y J<|ab J J (dB J J)<|br 21 (v':=.bool false) J (bi Value.bool (by rw [if_pos sn]; decide))<|ae J<|O<|aT J<|cQ b<|lX λs hs hi=> ?_
  subst hs
  refine aa<|Y J<|aS J<|ao J<|ax J J<|ab J J (dB J J)<|ae J<|O<|bz J (λiT=> ?_) (λiT=> ?_)
  ·refine aa<|ae J<|ae J<|ae J<|O<|av<|db<|aU ?_
   have he:qX s.pl e=4:=by unfold qX; rw [if_neg (not_not_intro sn),if_pos iT]
   refine aF.ay (fD b s _ J hi) ?_
   have e1:qY s.pl e=[]:=by unfold qY; rw [if_neg (by omega)]
   have e2:nS s.pl e=s.pl:=by unfold nS; rw [if_neg (by omega)]
   rw [e1,e2,he]
   exact aF.ay (du dE 174 none _)<|ja (.inl J) J (bf.tmp J) (bf.tmp J) (bf.tmp J) bu.g (⟨none,0,J,J⟩)
  refine aa<|Y J<|aS J<|ao J<|ax J J<|ab J J (Cz J)<|br 33 (v':=.int .i64 (s.pl.F.length:Int)) J (by simp)<|ab J J (eV J J)<|Y J<|dl 35 J (λBW=> ?_) (λBW=> ?_)
  ·refine ah J<|ah J<|ah J<|ah J<|ah J<|aA J<|ae J<|O<|cg J<|aa<|ae J<|ae J<|ae J<|O<|av<|db<|aU ?_
   have he:qX s.pl e=2:=by unfold qX; rw [if_neg (not_not_intro sn),if_neg iT,if_pos (by first | (left; omega) | (right; assumption))]
   refine aF.ay (fD b s _ J hi) ?_
   have e1:qY s.pl e=[]:=by unfold qY; rw [if_neg (by omega)]
   have e2:nS s.pl e=s.pl:=by unfold nS; rw [if_neg (by omega)]
   rw [e1,e2,he]
   exact aF.ay (du dE 174 none _)<|ja (.inl J) J (bf.tmp J) (bf.tmp J) (bf.tmp J) bu.g (⟨none,0,J,J⟩)
  refine aj J<|Y J<|aj J<|aS J<|aj J<|ao J<|aj J<|ax J J<|aj J<|ab J J (eE J J)<|aA J<|ae J<|O<|bz J (λxu=> ?_) (λxu=> ?_)
  ·refine aa<|ae J<|ae J<|ae J<|O<|av<|db<|aU ?_
   have he:qX s.pl e=2:=by unfold qX; rw [if_neg (not_not_intro sn),if_neg iT,if_pos (by first | (left; omega) | (right; assumption))]
   refine aF.ay (fD b s _ J hi) ?_
   have e1:qY s.pl e=[]:=by unfold qY; rw [if_neg (by omega)]
   have e2:nS s.pl e=s.pl:=by unfold nS; rw [if_neg (by omega)]
   rw [e1,e2,he]
   exact aF.ay (du dE 174 none _)<|ja (.inl J) J (bf.tmp J) (bf.tmp J) (bf.tmp J) bu.g (⟨none,0,J,J⟩)
  refine az<|bA<|ai ?_
  have jF:0<=s.next:=hi.next.1
  have mz:s.phase=2:=(by omega)
  have he:qX s.pl e=0:=by unfold qX; rw [if_neg (not_not_intro sn),if_neg iT,if_neg (by rintro (h | h) <;> first | omega | contradiction)]
  refine aa<|Y J<|aS J<|ao J<|ax J J<|ae J<|O<|b_ (fD b s _ J hi)<|aa<|Y J<|Y J<|bD J J<|aP b<|aJ J J (QF (p:=s.pl) (A:=A) (c:=c) s.next e (by show s.phase≠1; omega) (λf hf↦(hi.so f hf).2) (by omega) (by omega) ⟨sn,ho⟩ (bR.dT al hk.n)) ?_
  rintro _ _ ⟨A49,c49,rfl,rfl⟩
  refine Y J<|ae J<|ae J<|ae J<|O<|av ?_
  have e1:qY s.pl e=vd s.pl s.next e:=by unfold qY; rw [if_pos he]
  have e2:nS s.pl e=t3 s.pl s.next e:=by unfold nS; rw [if_pos he]
  rw [e1,e2,he]
  exact ja (.inl rfl) rfl (bf.tmp rfl) (bf.tmp rfl) (bf.tmp rfl) bu.g (⟨A49,c49,rfl,rfl⟩)
 refine aa<|Y J<|ab J J (dB J J)<|br 21 (v':=.bool true) J (bi Value.bool (by rw [if_neg sn]; decide))<|ae J<|O<|cg J<|aa<|ae J<|ae J<|ae J<|O<|av<|db<|aU ?_
 have he:qX p e=1:=by unfold qX; rw [if_pos sn]
 have e1:qY p e=[]:=by unfold qY; rw [if_neg (by omega)]
 have e2:nS p e=p:=by unfold nS; rw [if_neg (by omega)]
 rw [e1,e2,he]
 exact aF.ay (du dE 174 none _)<|ja (.inl J) J (bf.tmp J) (bf.tmp J) (bf.tmp J) bu.g (⟨none,0,J,J⟩)
open Go Go.Proofs Go.Proofs.Tryz
theorem ZO {β:Type} {R:bZ β} {m:List (Int × β)} {τ:Type} {l:Nat} {C:τ->HP} {step:τ->Int->τ->Prop} {stop:τ->Bool} {ek:τ->Nat} {s0:τ} {Lx:List HP} (h0:stop s0=false) (n6:ek s0=0) (ip:∀ s x s',step s x s'->ek s'=ek s+1) (hy:Ak prog l C (λk:Int=>[.int .i64 k]) (λk=>bP .i64 k) step stop ek m.length):
  Fn prog 371 #[.func (.yield l) #[] #[],.pointer (some ⟨bx,0,none⟩)] (fP l (C s0)::cells bx [.map (some b)] 277::cy eL R ag b m::Lx)
   (λv L'=>∃ xs s',(stop s'=false->xs.Perm (m.map (·.1)))/\gH step stop s0 xs s'/\L'=fP l (C s')::cells bx [.map (some b)] 277::cy eL R ag b m::Lx):=by
 refine aH func371 J J J J<|aa<|ax J J<|Aa J J λit=>O<|aX<|cY (σ:=List (Int × β) × τ) [0,5] (λg=>gH step stop s0 (g.1.map (·.1)) g.2/\stop g.2=false/\ek g.2=g.1.length) (λg kv=>kv) (λg=>fP l (C g.2)::na eL R ag b it m g.1::cells bx [.map (some b)] 277::Lx) (λg=>m.length - g.1.length) (([],s0)) J (⟨.nil _,h0,n6⟩) (al) (dc J) ?_
 rintro ⟨done,s⟩ ⟨hr,hs,hc⟩
 dsimp only at hr hs hc ⊢
 refine aa<|Ai J J (λhp=> ?_) (λq1 xo hq mK cL=> ?_)
 ·exact ab J J (aO J J)<|aV 7 (.bool false) J<|O<|ar<|aT J<|cw<|aY<|aY<|cu<|aF.ay (tc it)<|lj (.inr J) J bu.g (⟨_,s,λ_=>hp.map _,hr,J⟩)
 refine ab J J (aO J J)<|aV 7 (.bool true) J<|O<|ar<|cg J<|az<|ai<|aX<|aa<|CF J J λJH xt=>ab J J (aO J J)<|ae J<|O<|aa<|Y J<|Y J<|aP l<|yj J J J (hy s q1.1 _ hs xt (by omega)) ?_
 rintro _ _ ⟨s2,cK,rfl,rfl⟩
 refine ab J J (ff J)<|O<|gF J (λka=> ?_) (λka=> ?_)
 ·have eF:stop s2=true:=by simpa using ka
  exact av<|db<|aU<|db<|aF.ay (tc it)<|lj (.inl J) J bu.g (⟨_,s2,λh=>(by rw [eF] at h; cases h),hr.snoc h0 hs cK,J⟩)
 have eF:stop s2=false:=by simpa using ka
 refine az<|bA<|ai ?_
 exact ⟨(done++[q1],s2),⟨by rw [kp]; exact hr.snoc h0 hs cK,eF,by rw [ip _ _ _ cK,hc]; simp⟩,by simp only [eQ,dO,ej]; omega,bO rfl⟩
theorem aa' {β:Type} {R:bZ β} {m:List (Int × β)}:oA prog (.func (.func 371) #[] #[.pointer (some ⟨bx,0,none⟩)]) (λk:Int=>[.int .i64 k]) (λk=>bP .i64 k) m.length [cells bx [.map (some b)] 277,cy eL R ag b m] (λs ks=>s=false->ks.Perm (m.map (·.1))):=
 ⟨_,[],[.pointer (some ⟨bx,0,none⟩)],rfl,inferInstance,λτ l C step stop ek s0 Lx h0 hc ip hy=>(ZO h0 hc ip hy).rM λv L' ⟨xs,s',a1,a2,a3⟩=>⟨xs,s',a1,a2,a3⟩⟩
theorem aba:Fn prog 294 #[.map (some b)] L (λv L'=>∃ bx,v=.func (.func 371) #[] #[.pointer (some ⟨bx,0,none⟩)]/\L'=cells bx [.map (some b)] 277::L):=by
 exact aH func294 J J J J<|aa<|bS J J J λb1=>ae J<|O<|aa<|ab J J (gy J J)<|ae J<|O<|av<|aZ J J al (⟨b1,J,J⟩)
open Go Go.Proofs Go.Proofs.Tryz
def pp (p:PP):List Int:=p.F.reverse.map λf=>f.slot
theorem acD (h:PI p):(pp p).Pairwise λx y=>x < y:=by
 unfold pp
 rw [oh,List.pairwise_reverse]
 exact h.inc
theorem Q9:Fn prog 188 #[.pointer (some ⟨b,0,none⟩)] (pr b p::L) (λv L'=>∃ A c,v=.slice A (pp p).length c/\L'=aN (aI .i64) 3 A c (pp p)::pr b p::L):=by
 refine aH func188 J J J J<|aa<|ae J<|O<|ar<|aa<|Y J<|aP b<|aB J J (v_)<|aV 4 (.bool true) J<|ab J J (df J)<|O<|aT J<|az<|ai<|cQ b<|lX λs hs hi=> ?_
 subst hs
 have eP:(s.F.map gb.pl).length<=4096:=hi.len
 rw [gY] at eP
 refine aa<|Y J<|aS J<|ao J<|ax J J<|aJ J J (aba) ?_
 rintro _ _ ⟨bx,rfl,rfl⟩
 refine bX (show am _ (cells bx [.map (some s.bm)] 277::cy eL mV true s.bm (nT s.F)::cells b (gC s) 279::iH s.bt s.told s.nodes::aN dz 323 s.A s.c s.kept::qy s.F s.nodes::L) from al)<|aJ J J (KY (Lf:=[cells bx [.map (some s.bm)] 277,cy eL mV true s.bm (nT s.F)]) (Lr:=cells b (gC s) 279::iH s.bt s.told s.nodes::aN dz 323 s.A s.c s.kept::qy s.F s.nodes::L) (aa' (R:=mV) (ag:=true) (b:=s.bm) (bx:=bx) (m:=nT s.F)) (by simp; omega)) ?_
 rintro _ _ ⟨kZ,k9,ks,rfl,tW,rfl⟩
 rw [show oT ks=pp s.pl from Nb ((tW rfl).trans (by unfold pp; simp only [List.map_reverse,sE]; exact (List.reverse_perm _).symm)) (acD hi)]
 simp only [dL,dm]
 exact ae J<|O<|av<|aF.ay (fD b s _ J hi)<|aZ J J al (⟨kZ,k9,J,J⟩)
theorem Te (h:p.F.reverse[i]? =some f):(pp p)[i]? =some f.slot:=by
 unfold pp; rw [e_,h]; rfl
theorem Sd (p:PP):(pp p).length=p.F.reverse.length:=by unfold pp; simp
theorem Vf (h:p.F.reverse[i]? =some f):∃ k:Nat,p.F[k]? =some f:=od (List.mem_reverse.1 (eA h))
def yM (p:PP) (i:Nat):List bQ:=((p.F.reverse.take i).map (ta p)).flatten
theorem Se (h:p.F.reverse[i]? =some f):yM p (i+1)=yM p i++ta p f:=by
 unfold yM; rw [ll h,kp,List.flatten_append]; simp
theorem T6 (hn:p.nodes<=7) (f:mP):(ta p f).length<=7:=by
 have:=If p.node p.nodes (FB p f.slot f.en) f.by_ p.nodes.toNat
 unfold ta FA
 omega
theorem Tf {p:PP} (hn:p.nodes<=7):∀ i,i<=p.F.reverse.length->(yM p i).length<=7 * i
 | 0,_=>fo _
 | i+1,h=>by
  have hi:=cj (show i < p.F.reverse.length by omega)
  rw [Se hi,eQ]
  have:=Tf hn i (by omega)
  have:=T6 hn p.F.reverse[i]
  omega
structure Wr where
 i:Nat
 A:Option Addr
 c:Nat
theorem ZP:Fn prog 103 #[.pointer (some ⟨b,0,none⟩)] (pr b p::L) (λv L'=>∃ A c,v=.slice A (Aq p).length c/\L'=aN dE 174 A c (Aq p)::pr b p::L):=by
 refine aH func103 J J J J<|aji λhi=> ?_
 have hn:=hi.nodes
 have eP:=hi.len
 refine aa<|ae J<|O<|aa<|ae J<|O<|ar<|aa<|Y J<|aP b<|aB J J (v_)<|aV 7 (.bool true) J<|Y J<|aj J<|Y J<|aj J<|aS J<|aj J<|ao J<|aj J<|ab J J (Jf (b:=b) (v:=.int .i64 p.phase) λs hs↦(dY J J).val (by rw [show s.phase=p.phase from bi PP.phase hs]))<|aj J<|ab J J (ce J J)<|aA J<|O<|bz J (λgK=> ?_) (λgK=> ?_)
 ·refine aa<|Y J<|aP b<|aJ J J (Hk) ?_
  rintro _ _ ⟨rm,rn,rfl,rfl⟩
  refine ae J<|O<|av<|aU ?_
  have he:Aq p=wK p:=by unfold Aq; rw [if_pos gK]
  rw [he]
  exact aZ J J al (⟨rm,rn,J,J⟩)
 refine az<|ai<|ar<|aa<|Y J<|aP b<|aJ J J (Q9) ?_
 rintro _ _ ⟨oP,n4,rfl,rfl⟩
 refine bF ?_
 have fW:=Sd p
 rw [zO] at fW
 refine ab J J (bY J)<|Y J<|O<|aX<|cY (σ:=Wr) [0,18,19] (λg=>g.i<=p.F.length) (λg kv=>(20,.int .i64 (g.i:Int))::(3,.slice g.A (yM p g.i).length g.c)::kv) (λg=>aN dE 174 g.A g.c (yM p g.i)::pr b p::sl (aI .i64) oP n4 (pp p)::L) (λg=>p.F.length - g.i) (⟨0,none,0⟩) J (dF _) (am.trans (du dE 174 none _) (am.cons _ al)) (dc J) ?_
 rintro ⟨i,A,c⟩ eG
 dsimp only at eG ⊢
 refine aa<|ab J J (bU J J)<|O<|ar<|bz J (λkW=> ?_) (λkW=> ?_)
 ·refine az<|ai<|ar<|aX ?_
  obtain ⟨f,hf⟩:∃ f,p.F.reverse[i]? =some f:=⟨_,cj (by rw [zO]; omega)⟩
  obtain ⟨k,hk⟩:=Vf hf
  have hu:=Te hf
  have gW:=Se hf
  have ze:=Tf hn.2 i (by rw [zO]; omega)
  have GM:=T6 hn.2 f
  refine gr (bJ (A:=oP) (c:=n4) (R:=aI .i64)) hu λbq oq eq=> ?_
  subst eq
  refine aa<|ab J J (iX (R:=aI .i64) (xs:=pp p) J J J hu)<|ab J J (gi (R:=aI .i64) (c:=n4) (xs:=pp p) (q:=0) J bJ hu J)<|ae J<|O<|aQ<|Y J<|Y J<|Y J<|aP b<|aJ J J (QE hk) ?_
  rintro _ _ ⟨DX,DY,rfl,rfl⟩
  refine bF<|fi J J J J J slk (by (try simp only [eQ,dO,ej]); omega) λla kD=> ?_
  rw [<- gW]
  refine ae J<|O<|bA<|ai<|aQ<|ab J J (bE J J (by omega))<|cz 29 J<|Y J<|O<|ai ?_
  exact ⟨⟨i+1,la,kD⟩,(by simp only; omega),by simp only; omega,bO rfl⟩
 refine cw<|aY<|aY<|cu<|ai<|aa<|Y J<|ae J<|O<|av ?_
 have he:Aq p=yM p i:=by unfold Aq yM; rw [if_neg gK,gQ (by rw [zO]; omega)]
 rw [he]
 exact aZ J J al (⟨A,c,J,J⟩)
theorem ZQ (h:p.F.reverse[i]? =some f):(tK p).take (i+1)=(tK p).take i++[⟨f.slot,p.bj,f.en⟩]:=ll (by unfold tK; rw [e_,h]; rfl)
theorem QG:Fn prog 284 #[.pointer (some ⟨b,0,none⟩)] (pr b p::L) (λv L'=>∃ A c,v=.slice A (tK p).length c/\L'=aN dz 323 A c (tK p)::pr b p::L):=by
 refine aH func284 J J J J<|aa<|ae J<|O<|aa<|ae J<|O<|ar<|aa<|Y J<|aP b<|aJ J J (Q9) ?_
 rintro _ _ ⟨A7,c7,rfl,rfl⟩
 refine bF ?_
 have fW:=Sd p
 rw [zO] at fW
 refine ab J J (bY J)<|Y J<|O<|aX<|cY (σ:=Wr) [0,7,8] (λg=>g.i<=p.F.length) (λg kv=>(9,.int .i64 (g.i:Int))::(3,.slice g.A ((tK p).take g.i).length g.c)::kv) (λg=>aN dz 323 g.A g.c ((tK p).take g.i)::pr b p::sl (aI .i64) A7 c7 (pp p)::L) (λg=>p.F.length - g.i) (⟨0,none,0⟩) J (dF _) (am.trans (du dz 323 none _) (am.cons _ al)) (dc J) ?_
 rintro ⟨i,A,c⟩ eG
 dsimp only at eG ⊢
 refine aa<|ab J J (bU J J)<|O<|ar<|bz J (λf0=> ?_) (λf0=> ?_)
 ·refine az<|ai<|ar<|aX ?_
  obtain ⟨f,hf⟩:∃ f,p.F.reverse[i]? =some f:=⟨_,cj (by rw [zO]; omega)⟩
  obtain ⟨k,hk⟩:=Vf hf
  have hu:=Te hf
  have gW:=ZQ hf
  refine gr (bJ (A:=A7) (c:=c7) (R:=aI .i64)) hu λbq oq eq=> ?_
  subst eq
  refine aa<|ab J J (iX (R:=aI .i64) (xs:=pp p) J J J hu)<|ab J J (gi (R:=aI .i64) (c:=c7) (xs:=pp p) (q:=0) J bJ hu J)<|ae J<|O<|cQ b<|lX λs cK hi=> ?_
  subst cK
  obtain ⟨g,hg,rfl⟩:=VM hk
  have jS:=ID (IV hi) hg
  have q':=eA hk
  have xE:f_ g.en/\fC g.en.order:=hi.rx _ q'
  have Xg:0<=g.slot/\g.slot < s.next:=hi.so _ q'
  have jF:0<=s.next/\s.next<=2147483648:=hi.next
  have ia:s.pl.F.length<=4096:=hi.len
  have qt:((tK s.pl).take i).length<=i:=(by rw [gq]; omega)
  have dt:bP .i64 g.slot:=da (by omega)
  have amk:(s.F.map gb.pl).length=s.pl.F.length:=rfl
  refine i5 (cells b (gC s) 279::[]) [] [0,2,4,6,8,10,12,14,16,18,20,23,24,27,28,31,33,34] (by kernel_rfl) al<|aq J J<|aq J J<|aq J J<|aL J J<|aw J J<|cf J J J<|aq J J<|aL J J<|aw J J<|aG J J J<|aq J J<|an J ?_
  refine KX (R:=mV) (k:=g.slot) J J J (da (by omega)) (λhn=>absurd hn (by rw [jS]; simp)) (λu q tn mQ=> ?_)
  rw [jS] at tn
  obtain rfl:=ez tn
  simp only [dL,dm]
  refine au<|ak J J (aaf J J)<|an J<|aJ J J (Hu g.en (A:=q.1) (c:=q.2) bJ xE.2) ?_
  rintro _ _ ⟨q2,rfl,rfl⟩
  refine bF<|au<|ak J J (bI J J)<|an J<|ef J J J J J J λb28=>eh (k:=1) dz [⟨g.slot,s.bj,g.en⟩] (jZ (fI q2 (lk slk) ⟨dt,(tQ hi.bj).1,(tQ hi.bj).2,xE.2⟩)) J (by decide)<|bF<|aV 28 (.slice (some ⟨b28,0,none⟩) [(⟨g.slot,s.bj,g.en⟩:dj)].length 1) J<|au<|an J<|fi J J J J J slk (by simp only [dO,ej]; omega) λA29 c29=> ?_
  rw [<- gW]
  refine au<|ak J J (bT J)<|aR<|bA<|ai<|b_ (fD b s _ J hi)<|aQ<|ab J J (bE J J (by omega))<|cz 30 J<|Y J<|O<|ai ?_
  exact ⟨⟨i+1,A29,c29⟩,(by simp only; omega),by simp only; omega,bO rfl⟩
 refine cw<|aY<|aY<|cu<|ai<|aa<|Y J<|ae J<|O<|av ?_
 rw [gQ (show (tK p).length<=i by unfold tK; rw [gY,zO]; omega)]
 exact aZ J J al (⟨A,c,J,J⟩)
open Go Go.Proofs Go.Proofs.Tryz
abbrev lP (c:il):List Value:=[.int .i64 c.id,.int .i64 c.kind,.string c.aK,.string c.di,.int .i64 c.eZ,.bool c.jy,.string c.cV]
abbrev wR (c:il):Value:=.agg (List.toArray (lP c))
def nO (c:il):Prop:=bP .i64 c.id/\bP .i64 c.kind/\c.aK.size<=cE/\c.di.size<=cE/\bP .i64 c.eZ/\c.cV.size<=cE
structure jw where
 l:Option Addr × Nat
 xs:List lm
 o:Option Addr × Nat
 v:Option Addr × Nat
abbrev vj (a:mJ) (p:jw):List Value:=[.int .i64 a.id,.int .i64 a.err,.int .i64 a.dot.1,.int .i64 a.dot.2,.slice p.l.1 p.xs.length p.l.2,.int .i64 a.ord.id,.string a.ord.x.cV,.string a.ord.x.aK,.int .i64 a.ord.x.eO,.slice p.o.1 a.ord.x.cut.length p.o.2,.bool a.known,.slice p.v.1 a.lN.length p.v.2,.int .i64 a.UL]
abbrev OF (a:mJ) (p:jw):Value:=.agg (List.toArray (vj a p))
def Ft:Wp->List lm->Prop
 | none,xs=>xs=[]
 | some q,xs=>l9 q.1 q.2 xs
abbrev Bw (a:mJ) (p:jw):List HP:=[sl kP p.l.1 p.l.2 p.xs,pure (Ft a.my p.xs),sl (aI .i64) p.o.1 p.o.2 a.ord.x.cut,sl (aI .i64) p.v.1 p.v.2 a.lN]
def IW (a:mJ):Prop:=bP .i64 a.id/\bP .i64 a.err/\bP .i64 a.dot.1/\bP .i64 a.dot.2/\tZ a.ord/\bP .i64 a.UL
abbrev F0:mJ:=⟨0,0,(0,0),none,rc,false,[],0⟩
abbrev AR:jw:=⟨(none,0),[],(none,0),(none,0)⟩
abbrev akQ:bQ:=⟨0,0,0,(0,0),0,⟨false,⟨⟨#[]⟩,⟨#[]⟩,0,[]⟩⟩,[],[],[],0⟩
structure Ji where
 a:jw
 m:gg
def Bx:jl->Ji->List Value
 | .dR a,p=>.bool true::(vj a p.a++dq akQ vJ)
 | .gh m,p=>.bool false::(vj F0 AR++dq m p.m)
def F1:jl->Ji->List HP
 | .dR a,p=>Bw a p.a
 | .gh m,p=>[sl (aI .i64) p.m.cut.1 p.m.cut.2 m.en.order.cut,sl dz p.m.d_.1 p.m.d_.2 m.d_,sl (aI .i64) p.m.seen.1 p.m.seen.2 m.seen,sl bK p.m.events.1 p.m.events.2 m.events]
def ajq:jl->Prop
 | .dR a=>IW a
 | .gh m=>gf m
def iw:bZ jl:=mo 29 Bx F1 ajq (λx p=>by cases x <;> rfl) (λx p=>by cases x <;> rfl)
abbrev nU (w:ls):List Value:=[.int .i64 w.call.id,.int .i64 w.call.kind,.string w.call.aK,.string w.call.di,.int .i64 w.call.eZ,.bool w.call.jy,.string w.call.cV,.int .i64 w.slot,.int .i64 w.bj.1,.int .i64 w.bj.2,.bool w.aie]
abbrev NU (w:ls):Value:=.agg (List.toArray (nU w))
def yB (w:ls):Prop:=nO w.call/\bP .i64 w.slot/\bP .i64 w.bj.1/\bP .i64 w.bj.2
def fa:bZ ls:=⟨11,λ_ a cs=>cs=nU a/\yB a,λ_ h=>h,λh=>by rw [h.1]; rfl,λh v hv=>by rw [h.1] at hv; simp at hv; rcases hv with rfl | rfl | rfl | rfl | rfl | rfl | rfl | rfl | rfl | rfl | rfl <;> rfl⟩
instance:oJ fa nU:=⟨λ_ _ _ h=>h.1⟩
structure NI (s:cG):Prop where
 nodes:1<=s.nodes/\s.nodes<=7
 id:0<=s.id/\s.id < s.nodes
 now:0<=s.now/\s.now<=1152921504606846976
 mA:s.ac.node=s.id
 pN:s.pr.node=s.id/\s.pr.nodes=s.nodes
 dn:0<=s.sm.dn/\s.sm.dn<=60000
 px:((eb s.lr:Nat):Int)<=60000
 base:bP .i64 s.base
structure B4 where
 bs:Nat
 bc:Nat
 bv:Nat
 bp:Nat
 bl:Nat
 bo:Nat
 ny:Nat
 bh:Nat
 bm:Nat
 H:Option Addr
 ch:Nat
abbrev bG (b:Nat):Value:=.pointer (some ⟨b,0,none⟩)
abbrev dw (hd:Value) (s:cG) (p:B4):List Value:=[.int .i64 s.nodes,.int .i64 100,.int .i64 0,.int .i64 1048576,.int .i64 16777216,.int .i64 s.id,.int .i64 s.now,bG p.bs,bG p.bc,bG p.bv,bG p.bp,bG p.bl,bG p.bo,bG p.ny,bG p.bh,.int .i64 s.base,.map (some p.bm),.slice p.H s.held.length p.ch,hd]
abbrev Xl (b bd:Nat) (hd:Value) (s:cG) (p:B4):List HP:=[cells b (dw hd s p) 100,st p.bs bd s.km s.size,rp p.bc s.id s.by_ s.ap s.fu,ac p.bv s.ac,pr p.bp s.pr,lr p.bl s.lr,sm p.bo s.sm,le p.ny s.nodes.toNat,cells p.bh (tq (0,0) 0) 236,cy gB bK true p.bm [],aN iw 196 p.H p.ch s.held]
def nx (b bd:Nat) (hd:Value) (s:cG):HP:=n_ (Xl b bd hd s) (λ_=>NI s)
variable{bd:Nat}{hd:Value}{s:cG}
instance:jz (nx b bd hd s::L) b (nx b bd hd s) L:=⟨am.refl _⟩
abbrev GN (b bd:Nat) (hd:Value) (s:cG) (p:B4) (L:List HP):List HP:=cells b (dw hd s p) 100::st p.bs bd s.km s.size::rp p.bc s.id s.by_ s.ap s.fu::ac p.bv s.ac::pr p.bp s.pr::lr p.bl s.lr::sm p.bo s.sm::le p.ny s.nodes.toNat::cells p.bh (tq (0,0) 0) 236::cy gB bK true p.bm []::aN iw 196 p.H p.ch s.held::L
theorem fU {c:Code} (h:∀ p,NI s->T r n P c ⟨D,E,GN b bd hd s p L⟩ Q):T r n P c ⟨D,E,nx b bd hd s::L⟩ Q:=sT h
theorem AU (h:∀ p,NI s->TL r n P ops rest ⟨D,E,GN b bd hd s p L⟩ K):TL r n P ops rest ⟨D,E,nx b bd hd s::L⟩ K:=yy h
theorem Dj {c:Code} (h:NI s->T r n P c ⟨D,E,nx b bd hd s::L⟩ Q):T r n P c ⟨D,E,nx b bd hd s::L⟩ Q:=λW a w hh=>by
 obtain ⟨p,hi,h2⟩:=tL hh.2
 exact h hi W a w hh
theorem ail (h:NI s->TL r n P ops rest ⟨D,E,nx b bd hd s::L⟩ K):TL r n P ops rest ⟨D,E,nx b bd hd s::L⟩ K:=λW a w hh=>by
 obtain ⟨p,hi,h2⟩:=tL hh.2
 exact h hi W a w hh
theorem dg {L4 L5 L6 L7 L8 L9 La Lb:List HP} (b bd:Nat) (hd:Value) (s:cG) (p:B4) [h1:fL L b (dw hd s p) 100 L1] [h2:cR L1 (st p.bs bd s.km s.size) L2] [h3:cR L2 (rp p.bc s.id s.by_ s.ap s.fu) L3] [h4:cR L3 (ac p.bv s.ac) L4] [h5:cR L4 (pr p.bp s.pr) L5] [h6:cR L5 (lr p.bl s.lr) L6] [h7:cR L6 (sm p.bo s.sm) L7] [h8:cR L7 (le p.ny s.nodes.toNat) L8] [h9:fL L8 p.bh (tq (0,0) 0) 236 L9] [ha:iI L9 p.bm gT aW gB bK true [] La] [hb:cR La (aN iw 196 p.H p.ch s.held) Lb] (hi:NI s):am L (nx b bd hd s::Lb):=
 (h1.g.trans (am.cons _ (h2.g.trans (am.cons _ (h3.g.trans (am.cons _ (h4.g.trans (am.cons _ (h5.g.trans (am.cons _ (h6.g.trans (am.cons _ (h7.g.trans (am.cons _ (h8.g.trans (am.cons _ (h9.g.trans (am.cons _ (ha.g.trans (am.cons _ hb.g)))))))))))))))))))).trans (nG (F:=Xl b bd hd s) (φ:=λ_=>NI s) p hi)
theorem K1:Fn prog 22 #[bG b] (nx b bd hd s::L) (λv L'=>v=.bool true/\L'=nx b bd hd s::L):=by
 refine aH func22 J J J J<|fU λp hi=>aa<|ae J<|O<|aa<|Y J<|ab J J (f8 J J (dh.eJ))<|br 4 (v':=.bool true) J (by simp)<|Y J<|aj J<|Y J<|aj J<|aS J<|aj J<|ao J<|aj J<|ax J J<|aj J<|ab J J (f8 J J (dh.eJ))<|br 10 (v':=.bool true) J (by simp)<|aA J<|ae J<|O<|av ?_
 exact aF.ay (dg b bd hd s p hi)<|cI J J
theorem tJ:Fn prog 98 #[bG b] (nx b bd hd s::L) (λv L'=>v=.bool (jL s)/\L'=nx b bd hd s::L):=by
 refine aH func98 J J J J<|fU λp hi=>aa<|ae J<|O<|aa<|Y J<|aS J<|ao J<|ax J J ?_
 refine aP p.bp<|aB J J (Q6)<|ab J J (ce J J)<|ae J<|O<|av ?_
 exact aF.ay (dg b bd hd s p hi)<|cI J J
theorem RA (k:Int) (L:List HP):Fn prog 178 #[.int .i64 k] L (λv L'=>v=.bool (decide (qe k))/\L'=L):=by
 refine aH func178 J J J J<|aa<|ae J<|O<|aa<|Y J<|jJ 9 12 (qe k) ?_ ?_
 ·refine ab J J (ce J J)<|Y J<|dl 5 J (λh5=> ?_) (λh5=> ?_)
  ·refine ah J<|ah J<|aA J<|Y J<|ah J<|ah J<|aA J<|dH J ?_ (by repeat (first | exact dI | refine dJ rfl ?_)) al
   exact bi Value.bool (dV (by unfold qe; omega)).symm
  refine aj J<|Y J<|aj J<|ab J J (ce J J)<|aA J<|Y J<|dl 9 J (λh9=> ?_) (λh9=> ?_)
  ·refine ah J<|ah J<|aA J<|dH J ?_ (by repeat (first | exact dI | refine dJ rfl ?_)) al
   exact bi Value.bool (dV (by unfold qe; omega)).symm
  refine aj J<|Y J<|aj J<|ab J J (ce J J)<|aA J<|dH J ?_ (by repeat (first | exact dI | refine dJ rfl ?_)) al
  exact bi Value.bool (gX.2 (by unfold qe; omega))
 exact ae J<|O<|av<|cI J J
theorem Y1 (slot cH:Int) (e:dZ) (q:Option Addr × Nat):Fn prog 213 #[bG b,.int .i64 slot,.int .i64 cH,ve e q] (nx b bd hd s::L) (λv L'=>v=nk (nM s slot cH e) ⟨q,(none,0),(none,0),(none,0)⟩/\L'=nx b bd hd s::L):=by
 refine aH func213 J J J J<|aa<|bS J J J λb7=>bB J J λb8=>O ?_
 refine cQ b<|fU λp hi=>bW (cells b (dw hd s p) 100::cells b7 (hO e q) 158::[]) [8] [0,2,4,6,8,10,12,14,17] (by kernel_rfl) al<|aq J J<|aL J J<|aw J J<|aG J J J<|aq J J<|aq J J<|cf J J J<|ak J J (bI J J)<|an J<|aE J J<|gZ J<|aR<|av ?_
 exact aF.ay (dg b bd hd s p hi)<|eK (.inl J) J (bf.agg J J) bu.g (⟨J,J⟩)
theorem zT (c:il):Fn prog 144 #[bG b,wR c] (nx b bd hd s::L) (λv L'=>∃ q:Option Addr × Nat,v=OF (kn s c) ⟨(none,0),[],(none,0),q⟩/\L'=sl (aI .i64) q.1 q.2 (dK s.ap)::nx b bd hd s::L):=by
 refine aH func144 J J J J<|aa<|bS J J J λb3=>bB J J λb4=>O ?_
 refine cQ b<|fU λp hi=>bW (cells b (dw hd s p) 100::cells b3 (lP c) 33::[]) [13] [0,2,4,6,8,10,14,16,18,20,13,23,24,27] (by kernel_rfl) al<|aw J J<|aG J J J<|aq J J<|aL J J<|aw J J<|aG J J J<|aq J J<|aL J J<|aw J J<|aG J J J<|an J ?_
 refine aP p.bc<|aJ J J (vX) ?_
 rintro _ _ ⟨kZ,k9,rfl,rfl⟩
 refine bF<|au<|an J ?_
 refine aP p.bl<|aB J J (uE)<|au<|ak J J (bI J J)<|an J<|aE J J<|gZ J<|aR<|av ?_
 exact aF.ay (dg b bd hd s p hi)<|eK (.inl J) J (bf.agg J J) bu.g (⟨(kZ,k9),J,J⟩)
theorem UO {a:mJ} (q:jw) (h:bV L (λM=>Sep (Bw a q) M Mem.emp)) (ho:IW a):bV L (λM=>f9 M iw [.dR a] (Bx (.dR a) ⟨q,vJ⟩)):=jZ (fI (⟨q,vJ⟩:Ji) h ho)
theorem EP (q:gg) (h:fN L m q) (ho:gf m):bV L (λM=>f9 M iw [.gh m] (Bx (.gh m) ⟨AR,q⟩)):=jZ (fI (⟨AR,q⟩:Ji) (sL h) ho)
structure F2 (L:List HP) (a:mJ) (p:jw):Prop where
 l:a_ L kP p.l.1 p.l.2 p.xs
 my:Ft a.my p.xs
 o:a_ L (aI .i64) p.o.1 p.o.2 a.ord.x.cut
 v:a_ L (aI .i64) p.v.1 p.v.2 a.lN
theorem F2.ay {a:mJ} {p:jw} (g:am L L') (h:F2 L' a p):F2 L a p:=⟨a_.dT g h.l,h.my,a_.dT g h.o,a_.dT g h.v⟩
theorem ad4 {p:Prop} {M:Mem} (k:p) (h:Sep L M Mem.emp):Sep (pure p::L) M Mem.emp:=⟨Mem.emp,Mem.emp,Mem.iD _,Mem.le_refl _,Mem.le_refl _,k,h⟩
theorem nN {a:mJ} {p:jw} (h:F2 L a p):bV L (λM=>Sep (Bw a p) M Mem.emp):=(bV.and h.l (bV.and h.o h.v)).mono λM x=>Aj x.1 (ad4 h.my (Aj x.2.1 (Aj x.2.2 trivial)))
variable{s':cG}
theorem NI.same (h:NI s) (h1:s'.nodes=s.nodes) (h2:s'.id=s.id) (h3:s'.now=s.now) (h4:s'.ac.node=s.ac.node) (h5:s'.pr.node=s.pr.node/\s'.pr.nodes=s.pr.nodes) (h6:s'.sm.dn=s.sm.dn/\s'.lr=s.lr) (h7:s'.base=s.base):NI s':=⟨by rw [h1]; exact h.nodes,by rw [h1,h2]; exact h.id,by rw [h3]; exact h.now,by rw [h4,h2]; exact h.mA,by rw [h5.1,h5.2,h1,h2]; exact h.pN,by rw [h6.1]; exact h.dn,by rw [h6.2]; exact h.px,by rw [h7]; exact h.base⟩
theorem LU {o:jl} (h:mj s o=some s'):s.held.length < 100000/\s'={s with held:=s.held++[o]}:=by
 unfold mj at h
 split at h
 ·rename_i hl; exact ⟨hl,(ez h).symm⟩
 ·cases h
theorem zZ (a:mJ) (q:jw) (hk:F2 L a q) (ho:IW a) (h:mj s (.dR a)=some s'):Fn prog 146 #[bG b,OF a q] (nx b bd hd s::L) (λv L'=>v=.tuple #[]/\L'=nx b bd hd s'::L):=by
 obtain ⟨hl,rfl⟩:=LU h
 refine aH func146 J J J J ?_
 refine b_ ((a_.lay (a_.tail hk.l)).trans ((a_.lay (a_.tail (a_.tail hk.o))).trans (a_.lay (a_.tail (a_.tail (a_.tail hk.v))))))<|aa<|bS J J J λb3=>O ?_
 refine cQ b<|fU λp hi=>i5 (cells b (dw hd s p) 100::cells b3 (vj a q) 66::[]) [11] [0,2,4,6,8,10,12,15,17,18,20,23] (by kernel_rfl) al<|aq J J<|aq J J<|aL J J<|aw J J<|aG J J J<|cf J J J<|ak J J (bI J J)<|an J<|ef J J J J J J λuh=> ?_
 refine eh (k:=1) iw [.dR a] (UO q (nN ⟨slk,hk.my,slk,slk⟩) ho) J (by decide)<|bF<|aV 11 (.slice (some ⟨uh,0,none⟩) [jl.dR a].length 1) J<|au<|an J ?_
 refine fi J J J J J slk (by simp only [dO,ej]; omega) λWT WU=>au<|aL J J<|aw J J<|an J<|aE J J<|gZ J<|aR ?_
 exact aF.ay (dg b bd hd {s with held:=s.held++[.dR a]} {p with H:=WT,ch:=WU} (hi.same J J J J ⟨J,J⟩ ⟨J,J⟩ J))<|ei J
open Go Go.Proofs Go.Proofs.Tryz
variable{k:IntKind}{m:Int}
theorem aim {src nW:TypeId} {ds:TypeDesc} {x:Operand} [h1:dy P src ds] [h2:dy P nW .string] (hx:ev E x=some (.int k m)):Yl P E L (.convert src nW x) ty (.string (Utf8.encode m)):=λn D W a w dst pos af g ha hs=>by simp [execOp,ha.ev hx,convert,h1.run,h2.run,Conv.intToString]
theorem afC {xs:List Int} (letter:Int) (hz:(Utf8.encode letter).size=1) (hk:a_ L (aI .u8) A c xs) (hl:xs.length<=65535):Fn prog 202 #[.int .i32 letter,.slice A xs.length c] L (λv L'=>(∃ s:ByteArray,v=.string s/\s.size=xs.length+1)/\L'=L):=by
 have n5:(strOfNums xs).size=xs.length:=by simp [strOfNums,ByteArray.size]
 refine aH func202 J J J J<|aa<|ae J<|O<|aa<|Y J<|ab J J (aim J)<|Y J<|ab J J (KN J hk)<|ab J J (Ey J J (by rw [hz,n5]; omega))<|ae J<|O<|av ?_
 exact aZ J J al (⟨⟨_,J,by rw [ByteArray.size_append,hz,n5]; omega⟩,J⟩)
theorem HR {len:Nat} (h:q_ s len=some s'):s.km < 100000/\len<=65535/\s.size+(len+1)+40<=1000000/\s'={s with km:=s.km+1,size:=s.size+(len+1)+40}:=by
 unfold q_ at h
 split at h
 ·rename_i hl; exact ⟨hl.1,hl.2.1,hl.2.2,(ez h).symm⟩
 ·cases h
theorem z1 {xs:List Int} (letter:Int) (hz:(Utf8.encode letter).size=1) (hk:a_ L (aI .u8) A c xs) (h:q_ s xs.length=some s'):Fn prog 250 #[bG b,.int .i32 letter,.slice A xs.length c] (nx b bd hd s::L) (λv L'=>v=.int .i64 0/\L'=nx b bd hd s'::L):=by
 obtain ⟨hr,hl,ew,rfl⟩:=HR h
 refine aH func250 J J J J ?_
 refine b_ (a_.lay (a_.tail hk))<|aa<|ae J<|O ?_
 refine cQ b<|fU λp hi=>bW (cells b (dw hd s p) 100::[]) [] [0,2,4,6,8,10,13,15,16,18,20,22,24] (by kernel_rfl) al<|aq J J<|aL J J<|aw J J<|aG J J J<|aq J J<|aq J J<|an J<|aJ J J (afC letter hz slk hl) ?_
 rintro _ _ ⟨⟨t,rfl,ht⟩,rfl⟩
 refine au<|an J ?_
 refine aP p.bs<|aJ J J (YT t (by omega) hr (by omega)) ?_
 rintro _ _ ⟨⟨k17,rfl⟩,rfl⟩
 refine au<|aq J J<|ak J J (aO J J)<|ak J J (aO J J)<|ak J J (bT J)<|ak J J (bT J)<|aR<|aa<|Y J<|ae J<|O<|av ?_
 rw [show s.size+t.size+40=s.size+(xs.length+1)+40 by omega]
 exact aF.ay (dg b bd hd {s with km:=s.km+1,size:=s.size+(xs.length+1)+40} p (hi.same J J J J ⟨J,J⟩ ⟨J,J⟩ J))<|cI J J
theorem acE {e:aW} (h:wP s e=some s'):t_ e/\wz s.ap e/\nl s.ap < 60000/\s.by_.flatten.length < 60000/\s'={s with by_:=ky s.by_ e,ap:=ln s.ap e}:=by
 unfold wP at h
 split at h
 ·rename_i hl; exact ⟨hl.1,hl.2.1,hl.2.2.1,hl.2.2.2,(ez h).symm⟩
 ·cases h
theorem K2 (c:il) (e:Int) (hc:nO c) (he:bP .i64 e) (h:yK s c e=some s'):Fn prog 249 #[bG b,wR c,.int .i64 e] (nx b bd hd s::L) (λv L'=>v=.tuple #[]/\L'=nx b bd hd s'::L):=by
 refine aH func249 J J J J<|aa<|bS J J J λb4=>O ?_
 refine cQ b<|Dj λhi=>aa<|Y J<|bD J J<|aJ J J (zT c) ?_
 rintro _ _ ⟨q,rfl,rfl⟩
 refine bB J J λb6=>aE J J<|O<|aa<|Y J<|ao J<|aE J J<|O<|aQ<|Y J<|bD J J ?_
 exact aP b<|aB J J (zZ {kn s c with err:=e} ⟨(none,0),[],(none,0),q⟩ ⟨dP,J,dP,slk⟩ ⟨hc.1,he,iy,iy,EZ,da (by have:=hi.px; dsimp only [kn]; omega)⟩ h)<|O<|ei J
structure ajr where
 i:Nat
 xs:List Int
 A:Option Addr
 c:Nat
theorem Y2:Fn prog 255 #[bG b] (nx b bd hd s::L) (λv L'=>∃ A c,v=.slice A (pW s).length c/\L'=aN (aI .i64) 3 A c (pW s)::nx b bd hd s::L):=by
 refine aH func255 J J J J<|Dj λhi=>aa<|ae J<|O<|aa<|ae J<|O<|ar ?_
 refine cQ b<|fU λp _=>aa<|Y J<|aS J<|ao J<|ao J<|ax J J ?_
 refine bX (dg b bd hd s p hi) ?_
 refine bX (du (aI .i64) 3 none _)<|Y J<|O<|aX<|cY (σ:=ajr) [0,9] (λg=>g.i<=s.nodes.toNat/\g.xs=((List.range g.i).map λi:Nat=>(i:Int)).filter λi=>decide (i≠s.id)) (λg kv=>(3,.slice g.A g.xs.length g.c)::(10,.int .i64 (g.i:Int))::kv) (λg=>aN (aI .i64) 3 g.A g.c g.xs::nx b bd hd s::L) (λg=>s.nodes.toNat - g.i) (⟨0,[],none,0⟩) J (⟨dF _,J⟩) (al) (dc J) ?_
 rintro ⟨i,xs,A,c⟩ ⟨eG,hx⟩
 dsimp only at eG hx ⊢
 have jX:=hi.nodes
 have kY:xs.length<=i:=by rw [hx]; exact kf (kG _ _) (by simp)
 refine aa<|ab J J (bU J J)<|O<|ar<|bz J (λgJ=> ?_) (λgJ=> ?_)
 ·refine az<|ai<|ar<|aX<|aa<|Y J<|ae J<|O ?_
  refine cQ b<|fU λp2 _=>aa<|Y J<|Y J<|aS J<|ao J<|ax J J<|ab J J (dB J J)<|O<|bz J (λjG=> ?_) (λjG=> ?_)
  ·refine aQ<|Y J<|Y J<|ef J J J J J J λGB=> ?_
   refine eh (k:=1) (aI .i64) [(i:Int)] (bV.const λM=>z4 (xs:=[(i:Int)]) (by simp; exact da (by omega)) M) J (by decide)<|bF<|aV 21 (.slice (some ⟨GB,0,none⟩) [(i:Int)].length 1) J ?_
   refine fi J J J J J slk (by simp only [dO,ej]; omega) λmS k_=>ae J<|O<|bA<|ai<|aQ<|ab J J (bE J J (by omega))<|cz 23 J<|Y J<|O<|ai ?_
   exact ⟨⟨i+1,xs++[(i:Int)],mS,k_⟩,⟨by dsimp only; omega,by dsimp only; rw [List.range_succ,kp,nC, <- hx]; simp [jG]⟩,(by dsimp only; omega),iY (dC rfl (dC rfl (dC rfl (dC rfl (iM))))) ((dg b bd hd s p2 hi).trans al)⟩
  refine az<|bA<|ai<|aQ<|ab J J (bE J J (by omega))<|cz 23 J<|Y J<|O<|ai ?_
  exact ⟨⟨i+1,xs,A,c⟩,⟨by dsimp only; omega,by dsimp only; rw [List.range_succ,kp,nC, <- hx]; simp [eX.1 jG]⟩,(by dsimp only; omega),iY (dC rfl (dC rfl (dC rfl (dC rfl (iM))))) ((dg b bd hd s p2 hi).trans al)⟩
 refine cw<|aY<|aY<|cu<|ai<|aa<|Y J<|ae J<|O<|av ?_
 obtain rfl:i=s.nodes.toNat:=by omega
 obtain rfl:xs=pW s:=hx
 exact aZ J J al (⟨A,c,J,J⟩)
theorem Kx (cH:Int):Fn prog 99 #[bG b,.int .i64 cH] (nx b bd hd s::L) (λv L'=>∃ q:Option Addr × Nat,v=nk (ua s cH) ⟨(none,0),(none,0),q,(none,0)⟩/\L'=sl (aI .i64) q.1 q.2 (dK s.ap)::nx b bd hd s::L):=by
 refine aH func99 J J J J<|aa<|bB J J λb4=>O ?_
 refine cQ b<|fU λp hi=>aa<|Y J<|aS J<|ao J<|ax J J<|Y J ?_
 refine aP p.bc<|aJ J J (QP cH) ?_
 rintro _ _ ⟨kZ,k9,rfl,rfl⟩
 refine bB J J λb5=>aE J J<|O<|aa<|Y J<|aS J<|ao J<|ax J J ?_
 refine aP p.bl<|aB J J (uE)<|ao J<|aE J J<|O<|aa<|bD J J<|aE J J<|O<|av ?_
 exact aF.ay (dg b bd hd s p hi)<|eK (.inl J) J (bf.agg J J) bu.g (⟨(kZ,k9),J,J⟩)
theorem T7 {κ:Type} [DecidableEq κ] (k:κ):fS ([]:List (κ × α)) k=[]:=rfl
theorem HF (e:aW) (p0:Option Addr × Nat) (hk:a_ L (aI .i64) p0.1 p0.2 e.d7) (h:wP s e=some s'):Fn prog 127 #[bG b,mt e p0] (nx b bd hd s::L) (λv L'=>v=.tuple #[]/\L'=nx b bd hd s'::L):=by
 obtain ⟨hm,hr,hs,ht,rfl⟩:=acE h
 refine aH func127 J J J J ?_
 refine b_ (a_.lay (a_.tail hk))<|aa<|bS J J J λb3=>O ?_
 refine cQ b<|fU λp hi=> ?_
 refine cQ p.bc<|xe λq hq=>bW (cells b (dw hd s p) 100::cells p.bc (zA q.bl s.id q.S s.fu.length q.cs) 131::cells b3 (fv e p0) 49::[]) [] [0,2,4,6,8,10,12,14,17,18,20,22,24,26] (by kernel_rfl) al<|aq J J<|aL J J<|aw J J<|aG J J J<|aL J J<|aw J J<|aG J J J<|cf J J J<|an J ?_
 refine aP q.bl<|aJ J J (acp e p0 slk hm hr hs ht) ?_
 rintro _ _ ⟨n7,mR,rfl,rfl⟩
 refine au<|aq J J<|ak J J (aO J J)<|ak J J (aO J J)<|ak J J (bT J)<|ak J J (bT J)<|aR<|ar ?_
 refine b_ (tM (bl:=q.bl) (S:=q.S) (cs:=q.cs) p.bc s.id (ky s.by_ e) (ln s.ap e) s.fu hq)<|aa<|Y J<|ab J J (ce J J)<|Y J<|dl 22 J (λiT=> ?_) (λiT=> ?_)
 ·refine aj J<|Y J<|aj J<|ab J J (bY J)<|aj J<|ab J J (ce J J)<|br 25 (v':=.bool false) J (by simp)<|aA J<|O<|aT J<|az<|ai<|aa<|Y J<|ab J J (bY J)<|Y J<|O<|aX<|cY (σ:=Nat) [0,34,35] (λg=>g<=1) (λg kv=>(36,.int .i64 (g:Int))::kv) (λg=>aN bK 49 n7 mR [e]::GN b bd hd {s with by_:=ky s.by_ e,ap:=ln s.ap e} p L) (λg=>1 - g) (0) J (dF _) (al) (dc J) λi eG=>aa<|ab J J (bU J J)<|O<|ar<|bz J (λlG=> ?_) (λlG=> ?_)
  ·refine az<|ai<|ar<|aX ?_
   obtain rfl:i=0:=by omega
   refine gr (bJ (A:=n7) (c:=mR) (R:=bK) (xs:=[e])) (j:=0) J λbq oq eq=> ?_
   subst eq
   refine aa<|f6 J J J (J) ((bJ (A:=some ⟨bq,oq,none⟩) (c:=mR) (R:=bK) (xs:=[e]))) ((J:[e][0]? =some e)) λV6 V7 V8 FJ=> ?_
   have FK:=(rfl:[e][0]? =some e)
   refine kh J J FJ FK (λ_=>J) λPV akR=> ?_
   simp only [dL,dm]
   refine bB J J λb7=>aE J J<|O<|i5 (cells b (dw hd {s with by_:=ky s.by_ e,ap:=ln s.ap e} p) 100::cells b7 (fv e PV) 49::[]) [] [0,2,4,6,8,10,13] (by kernel_rfl) al<|aq J J<|aL J J<|aw J J<|aG J J J<|aw J J<|cf J J J<|an J<|Es (K:=gB) (R:=bK) (k:=e.dot) J J ⟨(Cp (Fs hm)).1.1.1,(Cp (Fs hm)).1.1.2.1⟩ ?_
   rw [T7]
   exact au<|aR<|bA<|ai<|aQ<|ab J J (bE J J (by omega))<|aV 46 (.int .i64 ((1:Nat):Int)) J<|Y J<|O<|ai<|⟨1,fo _,(by omega),bO J⟩
  refine cw<|aY<|aY<|cu ?_
  exact aF.ay (dg b bd hd {s with by_:=ky s.by_ e,ap:=ln s.ap e} p (hi.same J J J J ⟨J,J⟩ ⟨J,J⟩ J))<|ei J
 refine ah J<|ah J<|ah J<|aA J<|O<|aT J<|az<|ai<|aa<|Y J<|ab J J (bY J)<|Y J<|O<|aX<|cY (σ:=Nat) [0,34,35] (λg=>g<=1) (λg kv=>(36,.int .i64 (g:Int))::kv) (λg=>aN bK 49 n7 mR [e]::GN b bd hd {s with by_:=ky s.by_ e,ap:=ln s.ap e} p L) (λg=>1 - g) (0) J (dF _) (al) (dc J) λi eG=>aa<|ab J J (bU J J)<|O<|ar<|bz J (λlG=> ?_) (λlG=> ?_)
 ·refine az<|ai<|ar<|aX ?_
  obtain rfl:i=0:=by omega
  refine gr (bJ (A:=n7) (c:=mR) (R:=bK) (xs:=[e])) (j:=0) J λbq oq eq=> ?_
  subst eq
  refine aa<|f6 J J J (J) ((bJ (A:=some ⟨bq,oq,none⟩) (c:=mR) (R:=bK) (xs:=[e]))) ((J:[e][0]? =some e)) λV6 V7 V8 FJ=> ?_
  have FK:=(rfl:[e][0]? =some e)
  refine kh J J FJ FK (λ_=>J) λPV akR=> ?_
  simp only [dL,dm]
  refine bB J J λb7=>aE J J<|O<|i5 (cells b (dw hd {s with by_:=ky s.by_ e,ap:=ln s.ap e} p) 100::cells b7 (fv e PV) 49::[]) [] [0,2,4,6,8,10,13] (by kernel_rfl) al<|aq J J<|aL J J<|aw J J<|aG J J J<|aw J J<|cf J J J<|an J<|Es (K:=gB) (R:=bK) (k:=e.dot) J J ⟨(Cp (Fs hm)).1.1.1,(Cp (Fs hm)).1.1.2.1⟩ ?_
  rw [T7]
  exact au<|aR<|bA<|ai<|aQ<|ab J J (bE J J (by omega))<|aV 46 (.int .i64 ((1:Nat):Int)) J<|Y J<|O<|ai<|⟨1,fo _,(by omega),bO J⟩
 refine cw<|aY<|aY<|cu ?_
 exact aF.ay (dg b bd hd {s with by_:=ky s.by_ e,ap:=ln s.ap e} p (hi.same J J J J ⟨J,J⟩ ⟨J,J⟩ J))<|ei J
def Xm (m:bQ):Prop:=∀ {L:List HP} {b bd:Nat} {hd:Value} {s s':cG} (q:gg),gf m->fN L m q->Fa s m=some s'->Fn prog 80 #[bG b,nk m q] (nx b bd hd s::L) (λv L'=>v=.tuple #[]/\L'=nx b bd hd s'::L)
structure ain where
 i:Nat
 s:cG
theorem Lt {m:bQ} {l:List bQ} (h:gk (m::l) s=some s'):(m.cH=s.id/\qe m.kind/\(m.kind≠9/\iP m<=nY)/\∃ s1,Fa s m=some s1/\gk l s1=some s')\/(¬ (m.cH=s.id/\qe m.kind)/\∃ s1,mj s (.gh m)=some s1/\gk l s1=some s'):=by
 unfold gk at h
 split at h
 ·rename_i hc
  split at h
  ·cases h
  ·rename_i hb; exact .inl ⟨hc.1,hc.2,⟨λh0=>hb (.inl h0),Nat.le_of_not_lt λh0=>hb (.inr h0)⟩,fK.1 h⟩
 ·rename_i hc; exact .inr ⟨hc,fK.1 h⟩
theorem wn {l:List bQ} (hOn:∀ m∈l,qe m.kind->m.kind≠9->iP m<=nY->Xm m) (hk:a_ L dE A c l) (h:gk l s=some s'):Fn prog 94 #[bG b,.slice A l.length c] (nx b bd hd s::L) (λv L'=>v=.tuple #[]/\L'=nx b bd hd s'::L):=by
 refine aH func94 J J J J ?_
 refine (a_.tail hk).lens λWO=> ?_
 simp only [cE] at WO
 refine b_ (a_.lay (a_.tail hk))<|aa<|Y J<|ab J J (bY J)<|Y J<|O<|aX<|cY (σ:=ain) [0,6,7] (λg=>g.i<=l.length/\gk (l.drop g.i) g.s=some s') (λg kv=>(8,.int .i64 (g.i:Int))::kv) (λg=>nx b bd hd g.s::sl dE A c l::L) (λg=>l.length - g.i) (⟨0,s⟩) J (⟨dF _,h⟩) (al) (dc J) ?_
 rintro ⟨i,s1⟩ ⟨eG,dt⟩
 dsimp only at eG dt ⊢
 refine aa<|ab J J (bU J J)<|O<|ar<|bz J (λh9=> ?_) (λh9=> ?_)
 ·refine az<|ai<|ar<|aX ?_
  obtain ⟨m,hm⟩:∃ m,l[i]? =some m:=⟨_,cj (by omega)⟩
  rw [yp hm] at dt
  have hOm:=hOn m (eA hm)
  refine gr (bJ (A:=A) (c:=c)) hm λbq oq eq=> ?_
  subst eq
  refine aa<|f6 J J J (J) ((bJ (A:=some ⟨bq,oq,none⟩) (c:=c))) (hm) λV' Wa Wb FL=> ?_
  have FM:=hm
  refine kh J J FL FM (λ_=>J) λtv Dt=> ?_
  simp only [dL,dm]
  refine bB J J λb5=>aE J J<|O<|ar ?_
  refine cQ b<|fU λp hi=>bW (cells b (dw hd s1 p) 100::cells b5 (dq m tv) 174::[]) [] [0,2,4,6,8,10,12,14,16,18,21,22] (by kernel_rfl) al<|aw J J<|aG J J J<|aq J J<|aL J J<|aw J J<|aG J J J<|ak J J (ce J J)<|aq J J<|gE 19 J (λj9=> ?_) (λj9=> ?_)
  ·refine aC J J (dp J)<|aC J J (dY J J)<|an J<|aj J<|aB J J (RA m.kind _)<|au<|ak J J (d9 J J)<|aR<|bz J (λgv=> ?_) (λgv=> ?_)
   ·obtain ⟨h9,s2,xj,tr⟩:(m.kind≠9/\iP m<=nY)/\∃ s2,Fa s1 m=some s2/\gk (l.drop (i+1)) s2=some s':=(Lt dt).elim (λh=>h.2.2) (λh=>absurd ⟨j9,gv⟩ h.1)
    exact b_ (dg b bd hd s1 p hi)<|aa<|Y J<|bD J J<|aB J J (hOm gv h9.1 h9.2 tv Dt ⟨slk,slk,slk,slk⟩ xj)<|O<|cw<|aY<|cu<|ai<|aQ<|ab J J (bE J J (by omega))<|Y J<|O<|ai<|⟨⟨i+1,s2⟩,⟨by dsimp only; omega,tr⟩,(by dsimp only; omega),bO J⟩
   refine az<|ai ?_
   obtain ⟨s2,xj,tr⟩:∃ s2,mj s1 (.gh m)=some s2/\gk (l.drop (i+1)) s2=some s':=(Lt dt).elim (λh=>by first | exact absurd h.2.1 gv | exact absurd h.1 j9) (λh=>h.2)
   obtain ⟨n3,rfl⟩:=LU xj
   refine i5 (cells b (dw hd s1 p) 100::cells b5 (dq m tv) 174::[]) [11] [0,2,4,6,8,10,12,15,17,18,20,23] (by kernel_rfl) al<|aq J J<|aq J J<|aL J J<|aw J J<|aG J J J<|cf J J J<|ak J J (bI J J)<|an J<|ef J J J J J J λxG=> ?_
   refine eh (k:=1) iw [.gh m] (EP tv ⟨slk,slk,slk,slk⟩ Dt) J (by decide)<|bF<|aV 34 (.slice (some ⟨xG,0,none⟩) [jl.gh m].length 1) J<|au<|an J ?_
   exact fi J J J J J slk (by simp only [dO,ej]; omega) λgM gN=>au<|aL J J<|aw J J<|an J<|aE J J<|gZ J<|aR<|bA<|ai<|aQ<|ab J J (bE J J (by omega))<|Y J<|O<|ai<|⟨⟨i+1,{s1 with held:=s1.held++[.gh m]}⟩,⟨by dsimp only; omega,tr⟩,(by dsimp only; omega),iY (dC J (dC J (dC J (dC J (iM))))) ((dg b bd hd {s1 with held:=s1.held++[.gh m]} {p with H:=gM,ch:=gN} (hi.same J J J J ⟨J,J⟩ ⟨J,J⟩ J)).trans al)⟩
  refine aD J J<|aD J J<|an J<|ah J<|au<|ak J J (dG J J)<|aR<|aT J<|az<|ai ?_
  obtain ⟨s2,xj,tr⟩:∃ s2,mj s1 (.gh m)=some s2/\gk (l.drop (i+1)) s2=some s':=(Lt dt).elim (λh=>by first | exact absurd h.2.1 gv | exact absurd h.1 j9) (λh=>h.2)
  obtain ⟨n3,rfl⟩:=LU xj
  refine i5 (cells b (dw hd s1 p) 100::cells b5 (dq m tv) 174::[]) [11] [0,2,4,6,8,10,12,15,17,18,20,23] (by kernel_rfl) al<|aq J J<|aq J J<|aL J J<|aw J J<|aG J J J<|cf J J J<|ak J J (bI J J)<|an J<|ef J J J J J J λxG=> ?_
  refine eh (k:=1) iw [.gh m] (EP tv ⟨slk,slk,slk,slk⟩ Dt) J (by decide)<|bF<|aV 34 (.slice (some ⟨xG,0,none⟩) [jl.gh m].length 1) J<|au<|an J ?_
  exact fi J J J J J slk (by simp only [dO,ej]; omega) λgM gN=>au<|aL J J<|aw J J<|an J<|aE J J<|gZ J<|aR<|bA<|ai<|aQ<|ab J J (bE J J (by omega))<|Y J<|O<|ai<|⟨⟨i+1,{s1 with held:=s1.held++[.gh m]}⟩,⟨by dsimp only; omega,tr⟩,(by dsimp only; omega),iY (dC J (dC J (dC J (dC J (iM))))) ((dg b bd hd {s1 with held:=s1.held++[.gh m]} {p with H:=gM,ch:=gN} (hi.same J J J J ⟨J,J⟩ ⟨J,J⟩ J)).trans al)⟩
 refine cw<|aY<|aY<|cu ?_
 obtain rfl:i=l.length:=by omega
 rw [xV] at dt
 obtain rfl:=ez dt
 exact ei J
end Go.SL
