/- What the law of this claim needs, together: the logic, data in memory, the walks of functions. -/
import Derived.Test.YtojddiieiggpjaaGreatDoorWpE
set_option linter.unusedVariables false
set_option linter.unusedSimpArgs false
set_option linter.unusedSectionVars false
namespace Go.SL
open Go Go.Proofs Go.Proofs.Tryz
abbrev mY (c:cF):cF:={c with steps:=c.steps+1}
variable{L:List HP}{b k i:Nat}{c c':cF}{x:i8}{q:Option Addr × Nat}{g:cP}{e:Int}{f:FuncId}
set_option maxHeartbeats 4000000 in
theorem An {g':cP} {o:Option dD} [VA:li prog f] {fs:List Value} {cs:lQ->List Value} {up:Bool} (hg:c.eB[k]? =some g) (hA:x.kind=1->k=nf x.call.aK c.eB.length/\x.call.aK.size<=cE) (hB:x.kind≠1->x.pw=(k:Int)) (jS:∀ KB,cq (Dl b KB) x.kind=some ⟨.func (.func f) fs.toArray (cs KB).toArray,true,up⟩) (B_:bP .i64 x.kind) (ib:x.node=(i:Int)) (fV:(i:Int) < c.n) (ho:g.nodes[i]? =some o) (GZ:up=true->o.isSome=true) (cK:0<=c.steps/\c.steps < 1000000) (zb:c'.n=c.n) (fm:c'.eB=c.eB) (vu:g'.nodes.length=g.nodes.length) (H:∀ B bg,KH b (mY c) c' B bg g g' x q k e f fs cs o i):Fn prog 7 #[bG b,nZ x q] (cl b c::L) (λv L'=>v=.int .i64 e/\L'=cl b {c' with eB:=c'.eB.set k g'}::L):=by
 refine aH func7 J J J J<|BA λZ hi=> ?_
 have zG:=hi.len
 have XF:(Z.map λz:Nat × cP↦z.1).length=Z.length:=gY _
 have fW:c.eB.length=Z.length:=by rw [<- hi.sh,gY]
 obtain ⟨bg,hz⟩:∃ bg,Z[k]? =some (bg,g):=by (rw [<- hi.sh,e_] at hg; obtain ⟨y,hy,rfl⟩:=iq.1 hg; exact ⟨y.1,hy⟩)
 have hkZ:k < Z.length:=(dX.1 hz).1
 have mZ:(Z.map λz:Nat × cP↦z.1)[k]? =some bg:=by (rw [e_,hz]; rfl)
 refine aa<|bS J J J λb3=>ae J<|O<|ar<|aa<|Y J<|aP b<|aB J J (Cw (by omega))<|ab J J (ff J)<|aV 11 (.bool false) J<|O<|aT J<|az<|ai<|uY λpc=>aa<|Y J<|aS J<|ao J<|ax J J<|ab J J (bE J J (by omega))<|aS J<|ao J<|aE J J<|O<|MM (σ:=Nat × Nat × lQ) [0,3] (λv=>True) (λv kv=>(5,bG v.1)::(6,.bool true)::kv) (λv=>cells v.1 (AZ ⟨.func (.func f) fs.toArray (cs v.2.2).toArray,true,up⟩) 73::fX b (mY c) (Z.map λz:Nat × cP↦z.1)::wT b v.2.1 v.2.2 (c_ (Z.map jH)::cells b3 (pF x q) 37::L)) J ?_ ?_
 ·refine b_ (qM b (mY c) (Z.map λz:Nat × cP↦z.1) pc)<|NB (by kernel_rfl)<|fq 1 8 (by decide) ?_ ?_
  ·refine fq 4 8 (by decide) ?_ ?_
   ·refine dN (cells b3 (pF x q) 37::[]) [] [0,4,6,3,9,10,12,14,17,19,20] (by kernel_rfl) al<|aq J J<|aw J J<|aG J J J<|an J<|aJ J J (Cu b) ?_
    rintro _ _ ⟨bm,KB,rfl,rfl⟩
    exact au<|an J<|ab J J (Cv (K:=eL) (k:=x.kind) (b:=bm) J J B_ (jS KB))<|au<|aq J J<|ak J J (aO J J)<|ak J J (aO J J)<|an J<|bB J J λb5=>au<|an J<|aE J J<|au<|ak J J (bT J)<|aR<|ai<|⟨⟨b5,bm,KB⟩,trivial,bO J⟩
   refine dN (cells b3 (pF x q) 37::[]) [] [0,4,6,3,17,9,10,12,14,19,20] (by kernel_rfl) al<|aq J J<|aw J J<|aG J J J<|an J<|aJ J J (Cu b) ?_
   rintro _ _ ⟨bm,KB,rfl,rfl⟩
   exact au<|an J<|bB J J λb5=>au<|an J<|ab J J (Cv (K:=eL) (k:=x.kind) (b:=bm) J J B_ (jS KB))<|au<|aq J J<|ak J J (aO J J)<|ak J J (aO J J)<|an J<|aE J J<|au<|ak J J (bT J)<|aR<|ai<|⟨⟨b5,bm,KB⟩,trivial,bO J⟩
  refine dN (cells b3 (pF x q) 37::[]) [] [0,4,6,17,3,9,10,12,14,19,20] (by kernel_rfl) al<|aq J J<|aw J J<|aG J J J<|an J<|bB J J λb5=>au<|an J<|aJ J J (Cu b) ?_
  rintro _ _ ⟨bm,KB,rfl,rfl⟩
  exact au<|an J<|ab J J (Cv (K:=eL) (k:=x.kind) (b:=bm) J J B_ (jS KB))<|au<|aq J J<|ak J J (aO J J)<|ak J J (aO J J)<|an J<|aE J J<|au<|ak J J (bT J)<|aR<|ai<|⟨⟨b5,bm,KB⟩,trivial,bO J⟩
 rintro ⟨b5,bm,KB⟩ _
 refine aa<|ao J<|ax J J<|ae J<|O<|ar<|aa<|ao J<|ax J J<|ab J J (ce J J)<|O<|Ae (σ:=Unit) [0,3,5,6] (λu=>True) (λu kv=>(7,.int .i64 (k:Int))::kv) (λu=>cells b5 (AZ ⟨.func (.func f) fs.toArray (cs KB).toArray,true,up⟩) 73::fX b (mY c) (Z.map λz:Nat × cP↦z.1)::wT b bm KB (c_ (Z.map jH)::cells b3 (pF x q) 37::L)) J ?_ ?_
 ·refine bz J (λjV=> ?_) (λjV=> ?_)
  ·exact cQ b<|uY λpc=>i5 (cells b3 (pF x q) 37::cells b (vQ (mY c) (Z.map λz:Nat × cP↦z.1) pc) 55::[]) [] [0,2,4,6,8,10,12,14,17,18] (by kernel_rfl) al<|aw J J<|aw J J<|aG J J J<|aq J J<|aL J J<|aw J J<|aG J J J<|ak J J (bY J)<|an J<|aB J J (acS x.call.aK (Z.map λz:Nat × cP↦z.1).length (by omega) (hA jV).2 _)<|au<|ak J J (bT J)<|er 7 (v':=.int .i64 (k:Int)) J (by rw [(hA jV).1,fW,XF])<|aR<|ai<|⟨(),trivial,iY (dC J (dC J (dC J (dC J (dC J (iM)))))) ((qM b (mY c) (Z.map λz:Nat × cP↦z.1) pc).trans al)⟩
  exact U5 7 (v':=.int .i64 (k:Int)) J (bi (Value.int .i64) (hB jV))<|az<|ai<|⟨(),trivial,bO J⟩
 intro u hu
 refine ar<|aa<|Y J<|aV 41 (.bool true) J<|ab J J (df J)<|Y J<|aj J<|Y J<|aj J<|ab J J (bU J J)<|dx 45 J (by omega)<|aA J<|Y J<|aj J<|aP b<|Nn λpc=>Y J<|aj J<|Y J<|aj J<|aS J<|aj J<|ao J<|aj J<|ax J J<|aj J<|ab J J (bY J)<|aj J<|ab J J (eV J J)<|dx 54 J (by omega)<|aA J<|O<|aT J<|az<|ai ?_
 obtain ⟨AS,cS,AM,cM,AT,cT⟩:=pc
 refine gr (bJ (A:=AS) (c:=cS) (R:=gl)) mZ λbl ol el=> ?_
 subst el
 refine bW (cells b (vQ (mY c) (Z.map λz:Nat × cP↦z.1) ⟨some ⟨bl,ol,none⟩,cS,AM,cM,AT,cT⟩) 55::aN gl 56 (some ⟨bl,ol,none⟩) cS (Z.map λz:Nat × cP↦z.1)::cells b3 (pF x q) 37::[]) [] [0,2,4,6,8,10,12,14,16,18,21,23] (by kernel_rfl) al<|aq J J<|aL J J<|aw J J<|aG J J J<|aq J J<|ak J J (iX (R:=gl) (xs:=Z.map λz:Nat × cP↦z.1) J J J mZ)<|ak J J (gi (R:=gl) (c:=cS) (xs:=Z.map λz:Nat × cP↦z.1) (q:=0) J bJ mZ J)<|cf J J J<|aq J J<|ak J J (bI J J)<|an J<|bB J J λb8=>au<|an J<|aE J J<|au<|aR<|ar<|aa<|ao J<|ax J J<|aV 67 (.bool true) J<|ab J J (df J)<|O<|aT J<|az<|ai<|ar<|bW (cells b3 (pF x q) 37::cells b (vQ (mY c) (Z.map λz:Nat × cP↦z.1) ⟨some ⟨bl,ol,none⟩,cS,AM,cM,AT,cT⟩) 55::[]) [] [0,2,4,6,8,10,12,14,16,18,20,22,24] (by kernel_rfl) al<|aw J J<|aG J J J<|ak J J (bU J J)<|lZ 75 J (by omega)<|aq J J<|aC J J (dp J)<|aC J J (dY J J)<|aC J J (cU J)<|aC J J (gc J)<|aC J J (dp J)<|aC J J (dp J)<|aC J J (dY J J)<|aC J J (eV J J)<|lZ 84 J (by dsimp only; omega)<|ak J J (dG J J)<|aR<|aT J<|az<|ai<|b_ (qM b (mY c) (Z.map λz:Nat × cP↦z.1) ⟨some ⟨bl,ol,none⟩,cS,AM,cM,AT,cT⟩)<|Dm hz<|vk λp fG=> ?_
 obtain ⟨AN,cN,AD,cD,bn,bk,ZZ⟩:=p
 obtain ⟨z,iL,sa⟩:∃ z,ZZ[i]? =some z/\z.2.2=o:=by (have h0:=ho; rw [<- fG.nodes,e_] at h0; exact iq.1 h0)
 refine C0 iL λew=> ?_
 rw [sa] at ew
 have pQ:(ZZ.map λz:fz↦z.1)[i]? =some z.1:=by (rw [e_,iL]; rfl)
 refine gr (bJ (A:=AN) (c:=cN) (R:=h_)) pQ λb6 o6 e6=> ?_
 subst e6
 refine bW (cells b3 (pF x q) 37::cells bg (mX ⟨some ⟨b6,o6,none⟩,cN,AD,cD,bn,bk,ZZ⟩) 85::aN h_ 40 (some ⟨b6,o6,none⟩) cN (ZZ.map λz:fz↦z.1)::[]) [] [0,2,4,14,16,7,8,10,12,18,20,22,25,26,29] (by kernel_rfl) al<|aw J J<|aG J J J<|er 87 (v':=.int .i64 (i:Int)) J (bi (Value.int .i64) ib)<|aw J J<|aw J J<|aG J J J<|er 94 (v':=.int .i64 (i:Int)) J (bi (Value.int .i64) ib)<|an J<|ax J J<|au<|aL J J<|aw J J<|aG J J J<|ak J J (iX (R:=h_) (xs:=ZZ.map λz:fz↦z.1) J J J pQ)<|ak J J (gi (R:=h_) (c:=cN) (xs:=ZZ.map λz:fz↦z.1) (q:=0) J bJ pQ J)<|aw J J<|an J<|aE J J<|au<|aw J J<|an J<|aE J J<|au<|aR<|ar<|aa<|ao J<|ax J J<|Y J<|nH 101 J (λWw=> ?_) (λWw=> ?_)
 ·refine aj J<|ao J<|aj J<|ax J J<|aj J<|ab J J (fR J J (dh.eJ))<|dx 104 J (by rw [GZ Ww] at ew; intro h0; cases vF:z.1 with | none=>(rw [vF] at ew; cases ew) | some w=>(rw [vF] at h0; cases h0))<|aA J<|O<|aT J<|az<|ai<|aa<|ao J<|ax J J<|bD J J<|bX (show am _ (sv bg g ⟨some ⟨b6,o6,none⟩,cN,AD,cD,bn,bk,ZZ⟩ (fX b (mY c) (Z.map λz:Nat × cP↦z.1)::wT b bm KB (c_ ((Z.map jH).set k gP)::L))) from al)<|jx J J J (H (Z.map λz:Nat × cP↦z.1) bg KB bm ⟨some ⟨b6,o6,none⟩,cN,AD,cD,bn,bk,ZZ⟩ z _ fG iL sa ew) ?_
  rintro _ _ ⟨rfl,rfl⟩
  exact ae J<|O<|av<|aF.ay (No b hi hz zb fm vu)<|cI J J
 refine ah J<|ah J<|ah J<|aA J<|O<|aT J<|az<|ai<|aa<|ao J<|ax J J<|bD J J<|bX (show am _ (sv bg g ⟨some ⟨b6,o6,none⟩,cN,AD,cD,bn,bk,ZZ⟩ (fX b (mY c) (Z.map λz:Nat × cP↦z.1)::wT b bm KB (c_ ((Z.map jH).set k gP)::L))) from al)<|jx J J J (H (Z.map λz:Nat × cP↦z.1) bg KB bm ⟨some ⟨b6,o6,none⟩,cN,AD,cD,bn,bk,ZZ⟩ z _ fG iL sa ew) ?_
 rintro _ _ ⟨rfl,rfl⟩
 exact ae J<|O<|av<|aF.ay (No b hi hz zb fm vu)<|cI J J
set_option maxHeartbeats 4000000 in
theorem UT {g':cP} [VA:li prog f] {up:Bool} (hg:c.eB[k]? =some g) (hB:x.kind≠1) (hxk:x.pw=(k:Int)) (jS:∀ KB,cq (Dl b KB) x.kind=some ⟨.func (.func f) #[bG b] #[],false,up⟩) (B_:bP .i64 x.kind) (cK:0<=c.steps/\c.steps < 1000000) (vu:g'.nodes.length=g.nodes.length) (hk:a_ L (aI .i64) q.1 q.2 x.on) (H:∀ B bg,FH b (mY c) B bg g g' x q k e f):Fn prog 7 #[bG b,nZ x q] (cl b c::L) (λv L'=>v=.int .i64 e/\L'=cl b {mY c with eB:=(mY c).eB.set k g'}::L):=by
 refine aH func7 J J J J<|BA λZ hi=> ?_
 have zG:=hi.len
 have XF:(Z.map λz:Nat × cP↦z.1).length=Z.length:=gY _
 obtain ⟨bg,hz⟩:∃ bg,Z[k]? =some (bg,g):=by (rw [<- hi.sh,e_] at hg; obtain ⟨y,hy,rfl⟩:=iq.1 hg; exact ⟨y.1,hy⟩)
 have hkZ:k < Z.length:=(dX.1 hz).1
 have mZ:(Z.map λz:Nat × cP↦z.1)[k]? =some bg:=by (rw [e_,hz]; rfl)
 refine aa<|bS J J J λb3=>ae J<|O<|ar<|aa<|Y J<|aP b<|aB J J (Cw (by omega))<|ab J J (ff J)<|aV 11 (.bool false) J<|O<|aT J<|az<|ai<|uY λpc=>aa<|Y J<|aS J<|ao J<|ax J J<|ab J J (bE J J (by omega))<|aS J<|ao J<|aE J J<|O<|MM (σ:=Nat × Nat × lQ) [0,3] (λv=>True) (λv kv=>(5,bG v.1)::(6,.bool true)::kv) (λv=>cells v.1 (AZ ⟨.func (.func f) #[bG b] #[],false,up⟩) 73::fX b (mY c) (Z.map λz:Nat × cP↦z.1)::wT b v.2.1 v.2.2 (c_ (Z.map jH)::cells b3 (pF x q) 37::L)) J ?_ ?_
 ·refine b_ (qM b (mY c) (Z.map λz:Nat × cP↦z.1) pc)<|NB (by kernel_rfl)<|fq 1 8 (by decide) ?_ ?_
  ·refine fq 4 8 (by decide) ?_ ?_
   ·refine dN (cells b3 (pF x q) 37::[]) [] [0,4,6,3,9,10,12,14,17,19,20] (by kernel_rfl) al<|aq J J<|aw J J<|aG J J J<|an J<|aJ J J (Cu b) ?_
    rintro _ _ ⟨bm,KB,rfl,rfl⟩
    exact au<|an J<|ab J J (Cv (K:=eL) (k:=x.kind) (b:=bm) J J B_ (jS KB))<|au<|aq J J<|ak J J (aO J J)<|ak J J (aO J J)<|an J<|bB J J λb5=>au<|an J<|aE J J<|au<|ak J J (bT J)<|aR<|ai<|⟨⟨b5,bm,KB⟩,trivial,bO J⟩
   refine dN (cells b3 (pF x q) 37::[]) [] [0,4,6,3,17,9,10,12,14,19,20] (by kernel_rfl) al<|aq J J<|aw J J<|aG J J J<|an J<|aJ J J (Cu b) ?_
   rintro _ _ ⟨bm,KB,rfl,rfl⟩
   exact au<|an J<|bB J J λb5=>au<|an J<|ab J J (Cv (K:=eL) (k:=x.kind) (b:=bm) J J B_ (jS KB))<|au<|aq J J<|ak J J (aO J J)<|ak J J (aO J J)<|an J<|aE J J<|au<|ak J J (bT J)<|aR<|ai<|⟨⟨b5,bm,KB⟩,trivial,bO J⟩
  refine dN (cells b3 (pF x q) 37::[]) [] [0,4,6,17,3,9,10,12,14,19,20] (by kernel_rfl) al<|aq J J<|aw J J<|aG J J J<|an J<|bB J J λb5=>au<|an J<|aJ J J (Cu b) ?_
  rintro _ _ ⟨bm,KB,rfl,rfl⟩
  exact au<|an J<|ab J J (Cv (K:=eL) (k:=x.kind) (b:=bm) J J B_ (jS KB))<|au<|aq J J<|ak J J (aO J J)<|ak J J (aO J J)<|an J<|aE J J<|au<|ak J J (bT J)<|aR<|ai<|⟨⟨b5,bm,KB⟩,trivial,bO J⟩
 rintro ⟨b5,bm,KB⟩ _
 refine aa<|ao J<|ax J J<|ae J<|br 7 (v':=.int .i64 (k:Int)) J (bi (Value.int .i64) hxk)<|O<|ar<|aa<|ao J<|ax J J<|ab J J (ce J J)<|dx 31 J hB<|O<|aT J<|az<|ai<|ar<|aa<|Y J<|aV 41 (.bool true) J<|ab J J (df J)<|Y J<|aj J<|Y J<|aj J<|ab J J (bU J J)<|dx 45 J (by omega)<|aA J<|Y J<|aj J<|aP b<|Nn λpc=>Y J<|aj J<|Y J<|aj J<|aS J<|aj J<|ao J<|aj J<|ax J J<|aj J<|ab J J (bY J)<|aj J<|ab J J (eV J J)<|dx 54 J (by omega)<|aA J<|O<|aT J<|az<|ai ?_
 obtain ⟨AS,cS,AM,cM,AT,cT⟩:=pc
 refine gr (bJ (A:=AS) (c:=cS) (R:=gl)) mZ λbl ol el=> ?_
 subst el
 refine bW (cells b (vQ (mY c) (Z.map λz:Nat × cP↦z.1) ⟨some ⟨bl,ol,none⟩,cS,AM,cM,AT,cT⟩) 55::aN gl 56 (some ⟨bl,ol,none⟩) cS (Z.map λz:Nat × cP↦z.1)::cells b3 (pF x q) 37::[]) [] [0,2,4,6,8,10,12,14,16,18,21,23] (by kernel_rfl) al<|aq J J<|aL J J<|aw J J<|aG J J J<|aq J J<|ak J J (iX (R:=gl) (xs:=Z.map λz:Nat × cP↦z.1) J J J mZ)<|ak J J (gi (R:=gl) (c:=cS) (xs:=Z.map λz:Nat × cP↦z.1) (q:=0) J bJ mZ J)<|cf J J J<|aq J J<|ak J J (bI J J)<|an J<|bB J J λb8=>au<|an J<|aE J J<|au<|aR<|ar<|aa<|ao J<|ax J J<|aV 67 (.bool false) J<|ab J J (j0 J)<|O<|cg J<|b_ (qM b (mY c) (Z.map λz:Nat × cP↦z.1) ⟨some ⟨bl,ol,none⟩,cS,AM,cM,AT,cT⟩)<|Dm hz<|aa<|ao J<|ax J J<|bD J J<|bX (show am _ (sh bg g::fX b (mY c) (Z.map λz:Nat × cP↦z.1)::wT b bm KB (c_ ((Z.map jH).set k gP)::L)) from al)<|jx J J J (H (Z.map λz:Nat × cP↦z.1) bg KB bm _ hk.tail) ?_
 rintro _ _ ⟨rfl,rfl⟩
 exact ae J<|O<|av<|aU<|aF.ay (No b (c':=mY c) hi hz J J vu)<|cI J J
open Go Go.Proofs Go.Proofs.Tryz
structure UU (c:cF):Prop where
 n:1<=c.n/\c.n<=7
 len:1<=c.eB.length/\c.eB.length<=8
 nodes:∀ g∈c.eB,(g.nodes.length:Int)=c.n
 e8:∀ (k:Nat) g,c.eB[k]? =some g->g.e8.length=g.nodes.length/\∀ t∈g.e8,0<=t/\t<=2000000000
theorem afY {W w:World} (h:bH W w (cl b c::L)):UU c:=by
 obtain ⟨Z,hi,hs⟩:=tL h
 have fW:c.eB.length=Z.length:=by rw [<- hi.sh,gY]
 refine ⟨hi.n,by rw [fW]; exact hi.len,hi.nodes,λk g hg=> ?_⟩
 obtain ⟨bg,hz⟩:∃ bg,Z[k]? =some (bg,g):=by
  rw [<- hi.sh,e_] at hg
  obtain ⟨y,hy,rfl⟩:=iq.1 hg
  exact ⟨y.1,hy⟩
 have h2:bH W w (sh bg g::c_ ((Z.map jH).set k gP)::L):=(hs.ay (am.drop _ _)).ay (wh (by rw [e_,hz]; rfl))
 obtain ⟨p,hp,h3⟩:=tL h2
 have hl:p.Z.length=g.nodes.length:=by rw [<- hp.nodes,gY]
 have h4:bH W w (ck p.bk g.tm g.e8::c_ (p.Z.map io)::c_ ((Z.map jH).set k gP)::L):=h3.ay ((am.drop _ _).trans ((am.drop _ _).trans ((am.drop _ _).trans (am.drop _ _))))
 obtain ⟨y,hy,_⟩:=tL h4
 exact ⟨by rw [hp.e8,hl],λt ht=>hy.2.1 t ht⟩
theorem aix {P:Program} {args:Array Value} {Φ:Value->List HP->Prop} (h:UU c->Fn P f args (cl b c::L) Φ):Fn P f args (cl b c::L) Φ:=λW w hh=>h (afY hh) W w hh
theorem K5 {fn:dD->Option dD} {r:cP × Int} (h:Fc g i fn=some r):∃ s s',g.nodes[i]? =some (some s)/\fn s=some s'/\r=({g with nodes:=g.nodes.set i (some s')},0):=by
 unfold Fc at h
 split at h
 ·rename_i s hs
  obtain ⟨s',h1,rfl⟩:=iq.1 h
  exact ⟨s,s',hs,h1,rfl⟩
 ·cases h
theorem yr {o:Option dD}:(g.nodes.set i o).length=g.nodes.length:=vW ..
theorem ya (h:qg c x=some (c',e)) (hx:x.kind=1->nO x.call) (hk:a_ L (aI .i64) q.1 q.2 x.on):Fn prog 7 #[bG b,nZ x q] (cl b c::L) (λv L'=>v=.int .i64 e/\L'=cl b c'::L):=aix λhf=>by
 unfold qg at h
 dsimp only at h
 generalize lb:(if x.kind=1 then nf x.call.aK c.eB.length else x.pw.toNat)=k at h
 cases hg:c.eB[k]? with
 | none=>rw [hg] at h; cases h
 | some g=>
  rw [hg] at h
  dsimp only at h
  split at h
  ·cases h
  rename_i alu
  obtain ⟨⟨c2,g',e2⟩,ey,pM⟩:=iq.1 h
  dsimp only at pM
  obtain ⟨rfl,rfl⟩:=jY pM
  have amC:k < c.eB.length:=(dX.1 hg).1
  have zG:=hf.len
  have cK:0<=c.steps/\c.steps < 1000000:=by omega
  have pL:=hf.nodes g (eA hg)
  obtain ⟨i,ib⟩:∃ i:Nat,x.node=(i:Int):=⟨x.node.toNat,by omega⟩
  have zf:x.node.toNat=i:=by omega
  have fV:(i:Int) < c.n:=by omega
  have ali:=hf.n
  have hA:x.kind=1->k=nf x.call.aK c.eB.length/\x.call.aK.size<=cE:=λh1=>⟨by rw [if_pos h1] at lb; exact lb.symm,(hx h1).2.2.1⟩
  have hB:x.kind≠1->x.pw=(k:Int):=λh1=>by rw [if_neg h1] at lb; omega
  unfold Dk at ey
  rw [zf] at ey
  dsimp only at ey
  by_cases k1:x.kind=1
  ·rw [if_pos k1] at ey
   cases ho:g.nodes[i]? with
   | none=>rw [ho] at ey; cases ey
   | some o=>cases o with
    | none=>rw [ho] at ey; cases ey
    | some s=>
     rw [ho] at ey
     dsimp only at ey
     obtain ⟨⟨s',e3⟩,hs,hr⟩:=iq.1 ey
     dsimp only at hr
     obtain ⟨rfl,oZ⟩:=jY hr
     obtain ⟨rfl,rfl⟩:=jY oZ
     rw [ib]
     refine An hg hA hB (λKB=>by rw [k1]; rfl) (by rw [k1]; decide) ib fV ho (λ_=>rfl) cK (by split <;> rfl) (by split <;> rfl) yr λB bg=>ahk hs (hx k1) (by dsimp only; omega) (by omega) (by omega) (by dsimp only; omega)
  ·rw [if_neg k1] at ey
   by_cases k2:x.kind=2
   ·rw [if_pos k2] at ey
    cases hp:g.pk with
    | nil=>rw [hp] at ey; cases ey
    | cons iC r=>
     rw [hp] at ey
     dsimp only at ey
     split at ey
     ·cases ey
     rename_i lg
     cases ho:g.nodes[iC.cH.toNat]? with
     | none=>rw [ho] at ey; cases ey
     | some o=>cases o with
      | none=>rw [ho] at ey; cases ey
      | some s=>
       rw [ho] at ey
       dsimp only at ey
       obtain ⟨s1,hs,hr⟩:=iq.1 ey
       obtain ⟨rfl,oZ⟩:=jY hr
       obtain ⟨rfl,rfl⟩:=jY oZ
       split at hs
       ·rename_i hc
        refine UT hg k1 (hB k1) (λKB=>by rw [k2]; rfl) (by rw [k2]; decide) cK yr hk λB bg=>acU hp (by omega) ho hc hs
       ·cases hs
   ·rw [if_neg k2] at ey
    by_cases k5:x.kind=5
    ·rw [if_pos k5] at ey
     cases ho:g.nodes[i]? with
     | none=>rw [ho] at ey; cases ey
     | some o=>cases o with
      | none=>rw [ho] at ey; cases ey
      | some s=>
       rw [ho] at ey
       dsimp only at ey
       split at ey
       ·rename_i O2
        obtain ⟨rfl,oZ⟩:=jY (ez ey)
        obtain ⟨rfl,rfl⟩:=jY oZ
        refine An hg hA hB (λKB=>by rw [k5]; rfl) (by rw [k5]; decide) ib fV ho (λ_=>rfl) cK rfl rfl yr λB bg=>afU O2
       ·cases ey
    ·rw [if_neg k5] at ey
     by_cases k6:x.kind=6
     ·rw [if_pos k6] at ey
      cases ho:g.nodes[i]? with
      | none=>rw [ho] at ey; cases ey
      | some o=>cases o with
       | some s=>rw [ho] at ey; cases ey
       | none=>
        rw [ho] at ey
        cases ht:g.e8[i]? with
        | none=>rw [ht] at ey; cases ey
        | some t=>
         rw [ht] at ey
         dsimp only at ey
         obtain ⟨rfl,oZ⟩:=jY (ez ey)
         obtain ⟨rfl,rfl⟩:=jY oZ
         have WP:=(hf.e8 k g hg).2 t (eA ht)
         rw [ib]
         refine An hg hA hB (λKB=>by rw [k6]; rfl) (by rw [k6]; decide) ib fV ho (λh=>by cases h) cK rfl rfl yr λB bg=>acT (by dsimp only; exact ali) (by dsimp only; exact fV) ht (by omega)
     ·rw [if_neg k6] at ey
      by_cases k7:x.kind=7
      ·rw [if_pos k7] at ey
       split at ey
       ·rename_i hc
        obtain ⟨rfl,oZ⟩:=jY (ez ey)
        obtain ⟨rfl,rfl⟩:=jY oZ
        have kU:=(hf.e8 k g hg).1
        refine UT hg k1 (hB k1) (λKB=>by rw [k7]; rfl) (by rw [k7]; decide) cK (by simp only [List.length_zipWith]; omega) hk λB bg=>ahl ⟨hc.1,hc.2.1⟩ hc.2.2.1 hc.2.2.2.1 hc.2.2.2.2.1 hc.2.2.2.2.2.1 hc.2.2.2.2.2.2
       ·cases ey
      ·rw [if_neg k7] at ey
       by_cases k8:x.kind=8
       ·rw [if_pos k8] at ey
        obtain ⟨r,hr,hq⟩:=iq.1 ey
        obtain ⟨s,s',ho,hs,rfl⟩:=K5 hr
        obtain ⟨rfl,oZ⟩:=jY hq
        obtain ⟨rfl,rfl⟩:=jY oZ
        refine An hg hA hB (λKB=>by rw [k8]; rfl) (by rw [k8]; decide) ib fV ho (λ_=>rfl) cK rfl rfl yr λB bg=>afV hs
       ·rw [if_neg k8] at ey
        by_cases Kh:x.kind=10
        ·rw [if_pos Kh] at ey
         obtain ⟨r,hr,hq⟩:=iq.1 ey
         obtain ⟨s,s',ho,hs,rfl⟩:=K5 hr
         obtain ⟨m1,DO,rfl⟩:=iq.1 hs
         obtain ⟨rfl,oZ⟩:=jY hq
         obtain ⟨rfl,rfl⟩:=jY oZ
         refine An hg hA hB (λKB=>by rw [Kh]; rfl) (by rw [Kh]; decide) ib fV ho (λ_=>rfl) cK rfl rfl yr λB bg=>aek DO
        ·rw [if_neg Kh] at ey
         by_cases Ki:x.kind=11
         ·rw [if_pos Ki] at ey
          cases ho:g.nodes[i]? with
          | none=>rw [ho] at ey; cases ey
          | some o=>cases o with
           | none=>rw [ho] at ey; cases ey
           | some s=>
            rw [ho] at ey
            dsimp only at ey
            obtain ⟨⟨s',out⟩,hs,hr⟩:=fK.1 ey
            dsimp only at hr
            split at hr
            ·rename_i hc
             obtain ⟨rfl,oZ⟩:=jY (ez hr)
             obtain ⟨rfl,rfl⟩:=jY oZ
             rw [ib]
             refine An hg hA hB (λKB=>by rw [Ki]; rfl) (by rw [Ki]; decide) ib fV ho (λ_=>rfl) cK rfl rfl (by rw [Ky]; exact yr) λB bg=>afX hs (by dsimp only; omega) (by omega) (by omega) (by dsimp only; omega) ⟨hc.1,hc.2.1,hc.2.2.1,hc.2.2.2.2⟩
            ·cases hr
         ·rw [if_neg Ki] at ey
          by_cases GG:x.kind=12
          ·rw [if_pos GG] at ey
           obtain ⟨r,hr,hq⟩:=iq.1 ey
           obtain ⟨s,s',ho,hs,rfl⟩:=K5 hr
           obtain ⟨m1,DO,rfl⟩:=iq.1 hs
           obtain ⟨rfl,oZ⟩:=jY hq
           obtain ⟨rfl,rfl⟩:=jY oZ
           refine An hg hA hB (λKB=>by rw [GG]; rfl) (by rw [GG]; decide) ib fV ho (λ_=>rfl) cK rfl rfl yr λB bg=>afW DO
          ·rw [if_neg GG] at ey; cases ey
open Go Go.Proofs Go.Proofs.Tryz
theorem QU {α:Type} [DecidableEq α]:∀ {xs ys:List α},xs.Nodup->(∀ x∈xs,x∈ys)->xs.length<=ys.length
 | [],ys,_,_=>dF _
 | x::r,ys,hn,hs=>by
  have h1:=vV.1 hn
  have h2:r.length<=(ys.erase x).length:=QU h1.2 λy hy=>(List.mem_erase_of_ne (λe:y=x=>h1.1 (by rw [<- e]; exact hy))).2 (hs y (gO _ hy))
  have h3:=List.length_erase_of_mem (hs x ie)
  have h4:=List.length_pos_of_mem (hs x ie)
  rw [dO]; omega
theorem l9.aiy {l:List aW} {aK:ByteArray} {xs:List lm} (h:l9 l aK xs):xs.length<=l.length:=by
 have hn:(xs.map (·.1)).Nodup:=oh.2 (h.inc.imp λ{a b} (cL:IS a.1 b.1) (e:a.1=b.1)=>H1 (a:=b.1) (by rw [e] at cL; exact cL))
 have hs:∀ k∈xs.map (·.1),k∈l.map (·.di):=λk hk=>by
  obtain ⟨p,hp,rfl⟩:=fY.1 hk
  obtain ⟨h1,h2⟩:=(h.mem p.1 p.2).1 hp
  rw [h1] at h2
  unfold rS at h2
  cases hf:(q9 (qT l)).filter (oc aK p.1) with
  | nil=>rw [hf] at h2; simp [lV] at h2
  | cons e r=>
   have he:e∈(q9 (qT l)).filter (oc aK p.1):=by rw [hf]; exact ie
   obtain ⟨h3,h4⟩:=ke.1 he
   unfold oc at h4
   rw [kc] at h4
   exact fY.2 ⟨e,(LR.1 (LQ h3)).1,o3 h4.2⟩
 have:=QU hn hs
 simpa using this
def Fd (t:lu):Bool:=decide (t.dR.lN.length<=60000) && decide (t.dR.ord.x.cut.length<=60000) && (match t.dR.my with
 | some q=>decide (q.1.length<=60000)
 | none=>true)
theorem ael {t:lu} {xs:List lm} (h:Fd t=true) (hl:Ft t.dR.my xs):t.dR.lN.length<=60000/\t.dR.ord.x.cut.length<=60000/\xs.length<=60000:=by
 unfold Fd at h
 rw [kc,kc] at h
 refine ⟨o3 h.1.1,o3 h.1.2, ?_⟩
 have h3:=h.2
 cases hn:t.dR.my with
 | none=>rw [hn] at hl; rw [show xs=[] from hl]; exact dF _
 | some q=>
  rw [hn] at hl h3
  have h4:=l9.aiy (show l9 q.1 q.2 xs from hl)
  have h5:q.1.length<=60000:=o3 h3
  omega
set_option maxHeartbeats 4000000 in
theorem aad {B:List Nat} (hB:1<=B.length) (hm:c.told.length<=1000000) (fG:(c.told.all Fd)=true):Fn prog 34 #[bG b] (fX b c B::L) (λv L'=>∃ A cc,v=.slice A c.told.length cc/\L'=aN eu 120 A cc c.told::fX b c B::L):=by
 refine aH func34 J J J J<|aa<|ae J<|O<|ar<|aa<|Y J<|aB J J (Cw hB)<|ab J J (ff J)<|aV 8 (.bool false) J<|O<|aT J<|az<|ai<|uY λp=>aa<|Y J<|aS J<|ao J<|ax J J<|aJ J J (Yv (xs:=c.told) bJ hm) ?_
 rintro _ _ ⟨lF,kV,rfl,rfl⟩
 refine ae J<|O<|ar<|aa<|Y J<|ab J J (bY J)<|Y J<|O<|aX<|cY (σ:=Nat) [3,15] (λi=>i<=c.told.length) (λi kv=>(16,.int .i64 (i:Int))::kv) (λi=>aN eu 120 lF kV c.told::fX b c B::L) (λi=>c.told.length - i) (0) J (dF _) ((qM b c B p).trans al) (dc J) λi eG=>aa<|ab J J (bU J J)<|O<|ar<|bz J (λgx=> ?_) (λgx=> ?_)
 ·refine az<|ai<|ar<|aX<|aa<|Y J<|ae J<|O ?_
  obtain ⟨t,ht⟩:∃ t,c.told[i]? =some t:=⟨_,cj (by omega)⟩
  refine CR (A:=lF) (c:=kV) (R:=eu) ht λg3 l3 xH DT=> ?_
  subst xH
  refine ou 1 J<|NA (R:=eu) λp0 G1 m7=> ?_
  subst G1
  simp only [IZ,dL,dm]
  refine ou 1 J<|CZ λjp=> ?_
  obtain ⟨dt,eF,qr⟩:=ael (sB.1 fG t (eA ht)) jp
  have n9:=pd ht
  refine aa<|Y J<|Y J<|ab J J (pS (R:=eu) J J J ht)<|ab J J (cp J)<|ae J<|O<|NB (by kernel_rfl)<|fq 6 11 (by decide) ?_ ?_
  ·refine fq 6 17 (by decide) ?_ ?_
   ·refine fq 7 11 (by decide) ?_ ?_
    ·refine fq 7 17 (by decide) ?_ ?_
     ·refine fq 11 17 (by decide) ?_ ?_
      ·refine fq 12 17 (by decide) ?_ ?_
       ·refine dN (([]:List HP)) [] [0,2,4,6,8,10,16,18,20,26,28,30,32,13,15,23,25,35,37,38,40,43,44,46,49,50,52,54,57] (by kernel_rfl) al<|aq J J<|aq J J<|aq J J<|aq J J<|aL J J<|ak J J (cp J)<|aq J J<|aL J J<|ak J J (cp J)<|aq J J<|aL J J<|ak J J (cp J)<|ak J J (cp J)<|an J<|ab J J (fQ (R:=eu) J J)<|au<|an J<|aJ J J (pR (xs:=p0.xs) bJ (by omega)) ?_
        rintro _ _ ⟨iV,iW,rfl,rfl⟩
        refine bF<|au<|an J<|ab J J (fQ (R:=eu) J J)<|au<|an J<|aJ J J (gz (xs:=t.dR.lN) bJ (by omega)) ?_
        rintro _ _ ⟨gM,gN,rfl,rfl⟩
        refine bF<|au<|an J<|ab J J (fQ (R:=eu) J J)<|au<|an J<|aJ J J (gz (xs:=t.dR.ord.x.cut) bJ (by omega)) ?_
        rintro _ _ ⟨iA,iB,rfl,rfl⟩
        refine bF<|au<|aL J J<|ak J J (cp J)<|an J<|fc J J J J J J<|au<|aL J J<|ak J J (cp J)<|an J<|fc J J J J J J<|au<|aL J J<|ak J J (cp J)<|ak J J (cp J)<|an J<|fc J J J J J J ?_
        refine jK (R:=eu) g3 t (fI (⟨(iV,iW),p0.xs,(iA,iB),(gM,gN)⟩:jw) (nN ⟨slk,jp,slk,slk⟩) m7) ?_
        rw [n9]
        refine au<|aR<|bA<|ai<|aQ<|ab J J (bE J J (by omega))<|cz 49 J<|Y J<|O<|ai ?_
        exact ⟨i+1,(show i+1<=_ by omega),(by omega),bO rfl⟩
       refine dN (([]:List HP)) [] [0,2,4,6,8,10,16,18,20,26,28,30,32,13,15,23,35,25,37,38,40,43,44,46,49,50,52,54,57] (by kernel_rfl) al<|aq J J<|aq J J<|aq J J<|aq J J<|aL J J<|ak J J (cp J)<|aq J J<|aL J J<|ak J J (cp J)<|aq J J<|aL J J<|ak J J (cp J)<|ak J J (cp J)<|an J<|ab J J (fQ (R:=eu) J J)<|au<|an J<|aJ J J (pR (xs:=p0.xs) bJ (by omega)) ?_
       rintro _ _ ⟨iV,iW,rfl,rfl⟩
       refine bF<|au<|an J<|ab J J (fQ (R:=eu) J J)<|au<|an J<|ab J J (fQ (R:=eu) J J)<|au<|an J<|aJ J J (gz (xs:=t.dR.lN) bJ (by omega)) ?_
       rintro _ _ ⟨gM,gN,rfl,rfl⟩
       refine bF<|au<|an J<|aJ J J (gz (xs:=t.dR.ord.x.cut) bJ (by omega)) ?_
       rintro _ _ ⟨iA,iB,rfl,rfl⟩
       refine bF<|au<|aL J J<|ak J J (cp J)<|an J<|fc J J J J J J<|au<|aL J J<|ak J J (cp J)<|an J<|fc J J J J J J<|au<|aL J J<|ak J J (cp J)<|ak J J (cp J)<|an J<|fc J J J J J J ?_
       refine jK (R:=eu) g3 t (fI (⟨(iV,iW),p0.xs,(iA,iB),(gM,gN)⟩:jw) (nN ⟨slk,jp,slk,slk⟩) m7) ?_
       rw [n9]
       refine au<|aR<|bA<|ai<|aQ<|ab J J (bE J J (by omega))<|cz 49 J<|Y J<|O<|ai ?_
       exact ⟨i+1,(show i+1<=_ by omega),(by omega),bO rfl⟩
      refine dN (([]:List HP)) [] [0,2,4,6,8,10,16,18,20,26,28,30,32,13,15,35,23,25,37,38,40,43,44,46,49,50,52,54,57] (by kernel_rfl) al<|aq J J<|aq J J<|aq J J<|aq J J<|aL J J<|ak J J (cp J)<|aq J J<|aL J J<|ak J J (cp J)<|aq J J<|aL J J<|ak J J (cp J)<|ak J J (cp J)<|an J<|ab J J (fQ (R:=eu) J J)<|au<|an J<|aJ J J (pR (xs:=p0.xs) bJ (by omega)) ?_
      rintro _ _ ⟨iV,iW,rfl,rfl⟩
      refine bF<|au<|an J<|ab J J (fQ (R:=eu) J J)<|au<|an J<|ab J J (fQ (R:=eu) J J)<|au<|an J<|aJ J J (gz (xs:=t.dR.lN) bJ (by omega)) ?_
      rintro _ _ ⟨gM,gN,rfl,rfl⟩
      refine bF<|au<|an J<|aJ J J (gz (xs:=t.dR.ord.x.cut) bJ (by omega)) ?_
      rintro _ _ ⟨iA,iB,rfl,rfl⟩
      refine bF<|au<|aL J J<|ak J J (cp J)<|an J<|fc J J J J J J<|au<|aL J J<|ak J J (cp J)<|an J<|fc J J J J J J<|au<|aL J J<|ak J J (cp J)<|ak J J (cp J)<|an J<|fc J J J J J J ?_
      refine jK (R:=eu) g3 t (fI (⟨(iV,iW),p0.xs,(iA,iB),(gM,gN)⟩:jw) (nN ⟨slk,jp,slk,slk⟩) m7) ?_
      rw [n9]
      refine au<|aR<|bA<|ai<|aQ<|ab J J (bE J J (by omega))<|cz 49 J<|Y J<|O<|ai ?_
      exact ⟨i+1,(show i+1<=_ by omega),(by omega),bO rfl⟩
     refine dN (([]:List HP)) [] [0,2,4,6,8,10,16,18,20,26,28,30,32,13,35,15,23,25,37,38,40,43,44,46,49,50,52,54,57] (by kernel_rfl) al<|aq J J<|aq J J<|aq J J<|aq J J<|aL J J<|ak J J (cp J)<|aq J J<|aL J J<|ak J J (cp J)<|aq J J<|aL J J<|ak J J (cp J)<|ak J J (cp J)<|an J<|ab J J (fQ (R:=eu) J J)<|au<|an J<|ab J J (fQ (R:=eu) J J)<|au<|an J<|aJ J J (pR (xs:=p0.xs) bJ (by omega)) ?_
     rintro _ _ ⟨iV,iW,rfl,rfl⟩
     refine bF<|au<|an J<|ab J J (fQ (R:=eu) J J)<|au<|an J<|aJ J J (gz (xs:=t.dR.lN) bJ (by omega)) ?_
     rintro _ _ ⟨gM,gN,rfl,rfl⟩
     refine bF<|au<|an J<|aJ J J (gz (xs:=t.dR.ord.x.cut) bJ (by omega)) ?_
     rintro _ _ ⟨iA,iB,rfl,rfl⟩
     refine bF<|au<|aL J J<|ak J J (cp J)<|an J<|fc J J J J J J<|au<|aL J J<|ak J J (cp J)<|an J<|fc J J J J J J<|au<|aL J J<|ak J J (cp J)<|ak J J (cp J)<|an J<|fc J J J J J J ?_
     refine jK (R:=eu) g3 t (fI (⟨(iV,iW),p0.xs,(iA,iB),(gM,gN)⟩:jw) (nN ⟨slk,jp,slk,slk⟩) m7) ?_
     rw [n9]
     refine au<|aR<|bA<|ai<|aQ<|ab J J (bE J J (by omega))<|cz 49 J<|Y J<|O<|ai ?_
     exact ⟨i+1,(show i+1<=_ by omega),(by omega),bO rfl⟩
    refine fq 7 17 (by decide) ?_ ?_
    ·refine fq 12 17 (by decide) ?_ ?_
     ·refine dN (([]:List HP)) [] [0,2,4,6,8,10,16,18,20,26,28,30,32,13,23,15,25,35,37,38,40,43,44,46,49,50,52,54,57] (by kernel_rfl) al<|aq J J<|aq J J<|aq J J<|aq J J<|aL J J<|ak J J (cp J)<|aq J J<|aL J J<|ak J J (cp J)<|aq J J<|aL J J<|ak J J (cp J)<|ak J J (cp J)<|an J<|ab J J (fQ (R:=eu) J J)<|au<|an J<|ab J J (fQ (R:=eu) J J)<|au<|an J<|aJ J J (pR (xs:=p0.xs) bJ (by omega)) ?_
      rintro _ _ ⟨iV,iW,rfl,rfl⟩
      refine bF<|au<|an J<|aJ J J (gz (xs:=t.dR.lN) bJ (by omega)) ?_
      rintro _ _ ⟨gM,gN,rfl,rfl⟩
      refine bF<|au<|an J<|ab J J (fQ (R:=eu) J J)<|au<|an J<|aJ J J (gz (xs:=t.dR.ord.x.cut) bJ (by omega)) ?_
      rintro _ _ ⟨iA,iB,rfl,rfl⟩
      refine bF<|au<|aL J J<|ak J J (cp J)<|an J<|fc J J J J J J<|au<|aL J J<|ak J J (cp J)<|an J<|fc J J J J J J<|au<|aL J J<|ak J J (cp J)<|ak J J (cp J)<|an J<|fc J J J J J J ?_
      refine jK (R:=eu) g3 t (fI (⟨(iV,iW),p0.xs,(iA,iB),(gM,gN)⟩:jw) (nN ⟨slk,jp,slk,slk⟩) m7) ?_
      rw [n9]
      refine au<|aR<|bA<|ai<|aQ<|ab J J (bE J J (by omega))<|cz 49 J<|Y J<|O<|ai ?_
      exact ⟨i+1,(show i+1<=_ by omega),(by omega),bO rfl⟩
     refine dN (([]:List HP)) [] [0,2,4,6,8,10,16,18,20,26,28,30,32,13,23,15,35,25,37,38,40,43,44,46,49,50,52,54,57] (by kernel_rfl) al<|aq J J<|aq J J<|aq J J<|aq J J<|aL J J<|ak J J (cp J)<|aq J J<|aL J J<|ak J J (cp J)<|aq J J<|aL J J<|ak J J (cp J)<|ak J J (cp J)<|an J<|ab J J (fQ (R:=eu) J J)<|au<|an J<|ab J J (fQ (R:=eu) J J)<|au<|an J<|aJ J J (pR (xs:=p0.xs) bJ (by omega)) ?_
     rintro _ _ ⟨iV,iW,rfl,rfl⟩
     refine bF<|au<|an J<|ab J J (fQ (R:=eu) J J)<|au<|an J<|aJ J J (gz (xs:=t.dR.lN) bJ (by omega)) ?_
     rintro _ _ ⟨gM,gN,rfl,rfl⟩
     refine bF<|au<|an J<|aJ J J (gz (xs:=t.dR.ord.x.cut) bJ (by omega)) ?_
     rintro _ _ ⟨iA,iB,rfl,rfl⟩
     refine bF<|au<|aL J J<|ak J J (cp J)<|an J<|fc J J J J J J<|au<|aL J J<|ak J J (cp J)<|an J<|fc J J J J J J<|au<|aL J J<|ak J J (cp J)<|ak J J (cp J)<|an J<|fc J J J J J J ?_
     refine jK (R:=eu) g3 t (fI (⟨(iV,iW),p0.xs,(iA,iB),(gM,gN)⟩:jw) (nN ⟨slk,jp,slk,slk⟩) m7) ?_
     rw [n9]
     refine au<|aR<|bA<|ai<|aQ<|ab J J (bE J J (by omega))<|cz 49 J<|Y J<|O<|ai ?_
     exact ⟨i+1,(show i+1<=_ by omega),(by omega),bO rfl⟩
    refine fq 11 17 (by decide) ?_ ?_
    ·refine dN (([]:List HP)) [] [0,2,4,6,8,10,16,18,20,26,28,30,32,13,23,35,15,25,37,38,40,43,44,46,49,50,52,54,57] (by kernel_rfl) al<|aq J J<|aq J J<|aq J J<|aq J J<|aL J J<|ak J J (cp J)<|aq J J<|aL J J<|ak J J (cp J)<|aq J J<|aL J J<|ak J J (cp J)<|ak J J (cp J)<|an J<|ab J J (fQ (R:=eu) J J)<|au<|an J<|ab J J (fQ (R:=eu) J J)<|au<|an J<|ab J J (fQ (R:=eu) J J)<|au<|an J<|aJ J J (pR (xs:=p0.xs) bJ (by omega)) ?_
     rintro _ _ ⟨iV,iW,rfl,rfl⟩
     refine bF<|au<|an J<|aJ J J (gz (xs:=t.dR.lN) bJ (by omega)) ?_
     rintro _ _ ⟨gM,gN,rfl,rfl⟩
     refine bF<|au<|an J<|aJ J J (gz (xs:=t.dR.ord.x.cut) bJ (by omega)) ?_
     rintro _ _ ⟨iA,iB,rfl,rfl⟩
     refine bF<|au<|aL J J<|ak J J (cp J)<|an J<|fc J J J J J J<|au<|aL J J<|ak J J (cp J)<|an J<|fc J J J J J J<|au<|aL J J<|ak J J (cp J)<|ak J J (cp J)<|an J<|fc J J J J J J ?_
     refine jK (R:=eu) g3 t (fI (⟨(iV,iW),p0.xs,(iA,iB),(gM,gN)⟩:jw) (nN ⟨slk,jp,slk,slk⟩) m7) ?_
     rw [n9]
     refine au<|aR<|bA<|ai<|aQ<|ab J J (bE J J (by omega))<|cz 49 J<|Y J<|O<|ai ?_
     exact ⟨i+1,(show i+1<=_ by omega),(by omega),bO rfl⟩
    refine dN (([]:List HP)) [] [0,2,4,6,8,10,16,18,20,26,28,30,32,13,35,23,15,25,37,38,40,43,44,46,49,50,52,54,57] (by kernel_rfl) al<|aq J J<|aq J J<|aq J J<|aq J J<|aL J J<|ak J J (cp J)<|aq J J<|aL J J<|ak J J (cp J)<|aq J J<|aL J J<|ak J J (cp J)<|ak J J (cp J)<|an J<|ab J J (fQ (R:=eu) J J)<|au<|an J<|ab J J (fQ (R:=eu) J J)<|au<|an J<|ab J J (fQ (R:=eu) J J)<|au<|an J<|aJ J J (pR (xs:=p0.xs) bJ (by omega)) ?_
    rintro _ _ ⟨iV,iW,rfl,rfl⟩
    refine bF<|au<|an J<|aJ J J (gz (xs:=t.dR.lN) bJ (by omega)) ?_
    rintro _ _ ⟨gM,gN,rfl,rfl⟩
    refine bF<|au<|an J<|aJ J J (gz (xs:=t.dR.ord.x.cut) bJ (by omega)) ?_
    rintro _ _ ⟨iA,iB,rfl,rfl⟩
    refine bF<|au<|aL J J<|ak J J (cp J)<|an J<|fc J J J J J J<|au<|aL J J<|ak J J (cp J)<|an J<|fc J J J J J J<|au<|aL J J<|ak J J (cp J)<|ak J J (cp J)<|an J<|fc J J J J J J ?_
    refine jK (R:=eu) g3 t (fI (⟨(iV,iW),p0.xs,(iA,iB),(gM,gN)⟩:jw) (nN ⟨slk,jp,slk,slk⟩) m7) ?_
    rw [n9]
    refine au<|aR<|bA<|ai<|aQ<|ab J J (bE J J (by omega))<|cz 49 J<|Y J<|O<|ai ?_
    exact ⟨i+1,(show i+1<=_ by omega),(by omega),bO rfl⟩
   refine fq 7 11 (by decide) ?_ ?_
   ·refine dN (([]:List HP)) [] [0,2,4,6,8,10,16,18,20,26,28,30,32,35,13,15,23,25,37,38,40,43,44,46,49,50,52,54,57] (by kernel_rfl) al<|aq J J<|aq J J<|aq J J<|aq J J<|aL J J<|ak J J (cp J)<|aq J J<|aL J J<|ak J J (cp J)<|aq J J<|aL J J<|ak J J (cp J)<|ak J J (cp J)<|an J<|ab J J (fQ (R:=eu) J J)<|au<|an J<|ab J J (fQ (R:=eu) J J)<|au<|an J<|aJ J J (pR (xs:=p0.xs) bJ (by omega)) ?_
    rintro _ _ ⟨iV,iW,rfl,rfl⟩
    refine bF<|au<|an J<|ab J J (fQ (R:=eu) J J)<|au<|an J<|aJ J J (gz (xs:=t.dR.lN) bJ (by omega)) ?_
    rintro _ _ ⟨gM,gN,rfl,rfl⟩
    refine bF<|au<|an J<|aJ J J (gz (xs:=t.dR.ord.x.cut) bJ (by omega)) ?_
    rintro _ _ ⟨iA,iB,rfl,rfl⟩
    refine bF<|au<|aL J J<|ak J J (cp J)<|an J<|fc J J J J J J<|au<|aL J J<|ak J J (cp J)<|an J<|fc J J J J J J<|au<|aL J J<|ak J J (cp J)<|ak J J (cp J)<|an J<|fc J J J J J J ?_
    refine jK (R:=eu) g3 t (fI (⟨(iV,iW),p0.xs,(iA,iB),(gM,gN)⟩:jw) (nN ⟨slk,jp,slk,slk⟩) m7) ?_
    rw [n9]
    refine au<|aR<|bA<|ai<|aQ<|ab J J (bE J J (by omega))<|cz 49 J<|Y J<|O<|ai ?_
    exact ⟨i+1,(show i+1<=_ by omega),(by omega),bO rfl⟩
   refine dN (([]:List HP)) [] [0,2,4,6,8,10,16,18,20,26,28,30,32,35,13,23,15,25,37,38,40,43,44,46,49,50,52,54,57] (by kernel_rfl) al<|aq J J<|aq J J<|aq J J<|aq J J<|aL J J<|ak J J (cp J)<|aq J J<|aL J J<|ak J J (cp J)<|aq J J<|aL J J<|ak J J (cp J)<|ak J J (cp J)<|an J<|ab J J (fQ (R:=eu) J J)<|au<|an J<|ab J J (fQ (R:=eu) J J)<|au<|an J<|ab J J (fQ (R:=eu) J J)<|au<|an J<|aJ J J (pR (xs:=p0.xs) bJ (by omega)) ?_
   rintro _ _ ⟨iV,iW,rfl,rfl⟩
   refine bF<|au<|an J<|aJ J J (gz (xs:=t.dR.lN) bJ (by omega)) ?_
   rintro _ _ ⟨gM,gN,rfl,rfl⟩
   refine bF<|au<|an J<|aJ J J (gz (xs:=t.dR.ord.x.cut) bJ (by omega)) ?_
   rintro _ _ ⟨iA,iB,rfl,rfl⟩
   refine bF<|au<|aL J J<|ak J J (cp J)<|an J<|fc J J J J J J<|au<|aL J J<|ak J J (cp J)<|an J<|fc J J J J J J<|au<|aL J J<|ak J J (cp J)<|ak J J (cp J)<|an J<|fc J J J J J J ?_
   refine jK (R:=eu) g3 t (fI (⟨(iV,iW),p0.xs,(iA,iB),(gM,gN)⟩:jw) (nN ⟨slk,jp,slk,slk⟩) m7) ?_
   rw [n9]
   refine au<|aR<|bA<|ai<|aQ<|ab J J (bE J J (by omega))<|cz 49 J<|Y J<|O<|ai ?_
   exact ⟨i+1,(show i+1<=_ by omega),(by omega),bO rfl⟩
  refine fq 6 17 (by decide) ?_ ?_
  ·refine fq 7 17 (by decide) ?_ ?_
   ·refine fq 12 17 (by decide) ?_ ?_
    ·refine dN (([]:List HP)) [] [0,2,4,6,8,10,16,18,20,26,28,30,32,23,13,15,25,35,37,38,40,43,44,46,49,50,52,54,57] (by kernel_rfl) al<|aq J J<|aq J J<|aq J J<|aq J J<|aL J J<|ak J J (cp J)<|aq J J<|aL J J<|ak J J (cp J)<|aq J J<|aL J J<|ak J J (cp J)<|ak J J (cp J)<|an J<|ab J J (fQ (R:=eu) J J)<|au<|an J<|ab J J (fQ (R:=eu) J J)<|au<|an J<|aJ J J (pR (xs:=p0.xs) bJ (by omega)) ?_
     rintro _ _ ⟨iV,iW,rfl,rfl⟩
     refine bF<|au<|an J<|aJ J J (gz (xs:=t.dR.lN) bJ (by omega)) ?_
     rintro _ _ ⟨gM,gN,rfl,rfl⟩
     refine bF<|au<|an J<|ab J J (fQ (R:=eu) J J)<|au<|an J<|aJ J J (gz (xs:=t.dR.ord.x.cut) bJ (by omega)) ?_
     rintro _ _ ⟨iA,iB,rfl,rfl⟩
     refine bF<|au<|aL J J<|ak J J (cp J)<|an J<|fc J J J J J J<|au<|aL J J<|ak J J (cp J)<|an J<|fc J J J J J J<|au<|aL J J<|ak J J (cp J)<|ak J J (cp J)<|an J<|fc J J J J J J ?_
     refine jK (R:=eu) g3 t (fI (⟨(iV,iW),p0.xs,(iA,iB),(gM,gN)⟩:jw) (nN ⟨slk,jp,slk,slk⟩) m7) ?_
     rw [n9]
     refine au<|aR<|bA<|ai<|aQ<|ab J J (bE J J (by omega))<|cz 49 J<|Y J<|O<|ai ?_
     exact ⟨i+1,(show i+1<=_ by omega),(by omega),bO rfl⟩
    refine dN (([]:List HP)) [] [0,2,4,6,8,10,16,18,20,26,28,30,32,23,13,15,35,25,37,38,40,43,44,46,49,50,52,54,57] (by kernel_rfl) al<|aq J J<|aq J J<|aq J J<|aq J J<|aL J J<|ak J J (cp J)<|aq J J<|aL J J<|ak J J (cp J)<|aq J J<|aL J J<|ak J J (cp J)<|ak J J (cp J)<|an J<|ab J J (fQ (R:=eu) J J)<|au<|an J<|ab J J (fQ (R:=eu) J J)<|au<|an J<|aJ J J (pR (xs:=p0.xs) bJ (by omega)) ?_
    rintro _ _ ⟨iV,iW,rfl,rfl⟩
    refine bF<|au<|an J<|ab J J (fQ (R:=eu) J J)<|au<|an J<|aJ J J (gz (xs:=t.dR.lN) bJ (by omega)) ?_
    rintro _ _ ⟨gM,gN,rfl,rfl⟩
    refine bF<|au<|an J<|aJ J J (gz (xs:=t.dR.ord.x.cut) bJ (by omega)) ?_
    rintro _ _ ⟨iA,iB,rfl,rfl⟩
    refine bF<|au<|aL J J<|ak J J (cp J)<|an J<|fc J J J J J J<|au<|aL J J<|ak J J (cp J)<|an J<|fc J J J J J J<|au<|aL J J<|ak J J (cp J)<|ak J J (cp J)<|an J<|fc J J J J J J ?_
    refine jK (R:=eu) g3 t (fI (⟨(iV,iW),p0.xs,(iA,iB),(gM,gN)⟩:jw) (nN ⟨slk,jp,slk,slk⟩) m7) ?_
    rw [n9]
    refine au<|aR<|bA<|ai<|aQ<|ab J J (bE J J (by omega))<|cz 49 J<|Y J<|O<|ai ?_
    exact ⟨i+1,(show i+1<=_ by omega),(by omega),bO rfl⟩
   refine dN (([]:List HP)) [] [0,2,4,6,8,10,16,18,20,26,28,30,32,23,13,35,15,25,37,38,40,43,44,46,49,50,52,54,57] (by kernel_rfl) al<|aq J J<|aq J J<|aq J J<|aq J J<|aL J J<|ak J J (cp J)<|aq J J<|aL J J<|ak J J (cp J)<|aq J J<|aL J J<|ak J J (cp J)<|ak J J (cp J)<|an J<|ab J J (fQ (R:=eu) J J)<|au<|an J<|ab J J (fQ (R:=eu) J J)<|au<|an J<|ab J J (fQ (R:=eu) J J)<|au<|an J<|aJ J J (pR (xs:=p0.xs) bJ (by omega)) ?_
   rintro _ _ ⟨iV,iW,rfl,rfl⟩
   refine bF<|au<|an J<|aJ J J (gz (xs:=t.dR.lN) bJ (by omega)) ?_
   rintro _ _ ⟨gM,gN,rfl,rfl⟩
   refine bF<|au<|an J<|aJ J J (gz (xs:=t.dR.ord.x.cut) bJ (by omega)) ?_
   rintro _ _ ⟨iA,iB,rfl,rfl⟩
   refine bF<|au<|aL J J<|ak J J (cp J)<|an J<|fc J J J J J J<|au<|aL J J<|ak J J (cp J)<|an J<|fc J J J J J J<|au<|aL J J<|ak J J (cp J)<|ak J J (cp J)<|an J<|fc J J J J J J ?_
   refine jK (R:=eu) g3 t (fI (⟨(iV,iW),p0.xs,(iA,iB),(gM,gN)⟩:jw) (nN ⟨slk,jp,slk,slk⟩) m7) ?_
   rw [n9]
   refine au<|aR<|bA<|ai<|aQ<|ab J J (bE J J (by omega))<|cz 49 J<|Y J<|O<|ai ?_
   exact ⟨i+1,(show i+1<=_ by omega),(by omega),bO rfl⟩
  refine fq 11 17 (by decide) ?_ ?_
  ·refine dN (([]:List HP)) [] [0,2,4,6,8,10,16,18,20,26,28,30,32,23,35,13,15,25,37,38,40,43,44,46,49,50,52,54,57] (by kernel_rfl) al<|aq J J<|aq J J<|aq J J<|aq J J<|aL J J<|ak J J (cp J)<|aq J J<|aL J J<|ak J J (cp J)<|aq J J<|aL J J<|ak J J (cp J)<|ak J J (cp J)<|an J<|ab J J (fQ (R:=eu) J J)<|au<|an J<|ab J J (fQ (R:=eu) J J)<|au<|an J<|ab J J (fQ (R:=eu) J J)<|au<|an J<|aJ J J (pR (xs:=p0.xs) bJ (by omega)) ?_
   rintro _ _ ⟨iV,iW,rfl,rfl⟩
   refine bF<|au<|an J<|aJ J J (gz (xs:=t.dR.lN) bJ (by omega)) ?_
   rintro _ _ ⟨gM,gN,rfl,rfl⟩
   refine bF<|au<|an J<|aJ J J (gz (xs:=t.dR.ord.x.cut) bJ (by omega)) ?_
   rintro _ _ ⟨iA,iB,rfl,rfl⟩
   refine bF<|au<|aL J J<|ak J J (cp J)<|an J<|fc J J J J J J<|au<|aL J J<|ak J J (cp J)<|an J<|fc J J J J J J<|au<|aL J J<|ak J J (cp J)<|ak J J (cp J)<|an J<|fc J J J J J J ?_
   refine jK (R:=eu) g3 t (fI (⟨(iV,iW),p0.xs,(iA,iB),(gM,gN)⟩:jw) (nN ⟨slk,jp,slk,slk⟩) m7) ?_
   rw [n9]
   refine au<|aR<|bA<|ai<|aQ<|ab J J (bE J J (by omega))<|cz 49 J<|Y J<|O<|ai ?_
   exact ⟨i+1,(show i+1<=_ by omega),(by omega),bO rfl⟩
  refine dN (([]:List HP)) [] [0,2,4,6,8,10,16,18,20,26,28,30,32,35,23,13,15,25,37,38,40,43,44,46,49,50,52,54,57] (by kernel_rfl) al<|aq J J<|aq J J<|aq J J<|aq J J<|aL J J<|ak J J (cp J)<|aq J J<|aL J J<|ak J J (cp J)<|aq J J<|aL J J<|ak J J (cp J)<|ak J J (cp J)<|an J<|ab J J (fQ (R:=eu) J J)<|au<|an J<|ab J J (fQ (R:=eu) J J)<|au<|an J<|ab J J (fQ (R:=eu) J J)<|au<|an J<|aJ J J (pR (xs:=p0.xs) bJ (by omega)) ?_
  rintro _ _ ⟨iV,iW,rfl,rfl⟩
  refine bF<|au<|an J<|aJ J J (gz (xs:=t.dR.lN) bJ (by omega)) ?_
  rintro _ _ ⟨gM,gN,rfl,rfl⟩
  refine bF<|au<|an J<|aJ J J (gz (xs:=t.dR.ord.x.cut) bJ (by omega)) ?_
  rintro _ _ ⟨iA,iB,rfl,rfl⟩
  refine bF<|au<|aL J J<|ak J J (cp J)<|an J<|fc J J J J J J<|au<|aL J J<|ak J J (cp J)<|an J<|fc J J J J J J<|au<|aL J J<|ak J J (cp J)<|ak J J (cp J)<|an J<|fc J J J J J J ?_
  refine jK (R:=eu) g3 t (fI (⟨(iV,iW),p0.xs,(iA,iB),(gM,gN)⟩:jw) (nN ⟨slk,jp,slk,slk⟩) m7) ?_
  rw [n9]
  refine au<|aR<|bA<|ai<|aQ<|ab J J (bE J J (by omega))<|cz 49 J<|Y J<|O<|ai ?_
  exact ⟨i+1,(show i+1<=_ by omega),(by omega),bO rfl⟩
 exact cw<|aY<|aY<|cu<|ai<|aa<|Y J<|ae J<|O<|av<|aZ J J al (⟨lF,kV,J,J⟩)
open Go Go.Proofs Go.Proofs.Tryz
theorem acV {l:List gG} (h:LI l):(je l 0).length=eb l:=by
 have h1:=h.spec.1
 unfold je
 rw [uB,gq]
 have:(max (0:Int) 0).toNat=0:=by decide
 omega
structure F_ where
 k:Nat
 es:List dZ
 A:Option Addr
 c:Nat
 le:es.length<=k
def Vk:LS F_->sS->LS F_->Prop:=λs x s'=>s'.1.k=s.1.k+1/\s'.2=none/\s'.1.es=s.1.es++[x.2.1]
theorem ahm {s s':LS F_} {xs:List sS} (hr:gH Vk (λs=> !s.2.isNone) s xs s'):s.2=none->s'.2=none/\s'.1.es.length=s.1.es.length+xs.length:=by
 induction hr with
 | nil s=>intro h; exact ⟨h,by simp⟩
 | @halt s1 s2 x xs a b=>intro h; rw [a.2.1] at b; cases b
 | @go s1 s2 s3 x xs a b c ih=>
  intro h
  obtain ⟨g1,g2⟩:=ih a.2.1
  refine ⟨g1, ?_⟩
  rw [g2,a.2.2,eQ,Ce,dO]; omega
variable{bd:Nat}{s:dD}
theorem Ks:Fn prog 71 #[bG b] (nd b bd s::L) (λv L'=>∃ A c es,(v=.slice A es.length c/\es.length=eb s.m.lr)/\L'=aN jm 158 A c es::nd b bd s::L):=by
 refine ye func71 J J J J<|jM λA cc=>fU λp hi=>aa<|ae J<|O<|ar<|aa<|Y J<|g_ b<|aB J J (wi)<|ab J J (ff J)<|aV 8 (.bool false) J<|O<|aT J<|az<|ai<|aa<|bB J J λb3=>O<|ar ?_
 refine cQ p.bl<|VB λnv=>yw (A:=none) jm 158<|aa<|Y J<|aS J<|ao J<|ax J J<|aJ J J (Ro 0) ?_
 rintro _ _ ⟨bl,bs,rfl,rfl⟩
 refine O<|aX<|xY (λg:F_=>[cells b3 [.slice g.A g.es.length g.c] 112,aN jm 158 g.A g.c g.es]) (Vk) (λg:F_=>g.k) (⟨0,[],none,0,fo _⟩) J (SO (b:=p.bl) (bl:=bl) (bs:=bs) (l:=s.m.lr) (slot:=0) (by decide)) ((show am _ ([cells b3 [.slice none ([]:List dZ).length 0] 112,aN jm 158 none 0 []]++([lr p.bl s.m.lr,cells bl [.pointer (some ⟨p.bl,0,none⟩)] 92,cells bs [.int .i64 0] 3]++(cells b (dw (.slice A s.waits.length cc) s.m p) 100::st p.bs bd s.m.km s.m.size::rp p.bc s.m.id s.m.by_ s.m.ap s.m.fu::ac p.bv s.m.ac::pr p.bp s.m.pr::sm p.bo s.m.sm::le p.ny s.m.nodes.toNat::cells p.bh (tq (0,0) 0) 236::cy gB bK true p.bm []::aN iw 196 p.H p.ch s.m.held::aN fa 290 A cc s.waits::L))) from bu.g (L':=cells b3 [.slice none 0 0] 112::aN jm 158 none 0 []::lr p.bl s.m.lr::cells bl [.pointer (some ⟨p.bl,0,none⟩)] 92::cells bs [.int .i64 0] 3::cells b (dw (.slice A s.waits.length cc) s.m p) 100::st p.bs bd s.m.km s.m.size::rp p.bc s.m.id s.m.by_ s.m.ap s.m.fu::ac p.bv s.m.ac::pr p.bp s.m.pr::sm p.bo s.m.sm::le p.ny s.m.nodes.toNat::cells p.bh (tq (0,0) 0) 236::cy gB bK true p.bm []::aN iw 196 p.H p.ch s.m.held::aN fa 290 A cc s.waits::L))) (by decide) (λ_=>J) J (λs x s' h=>h.1) (λBg Bh g x Lx hx cL=> ?_) (λBi xs g oM gR=> ?_)
 ·obtain ⟨kk,es,A3,c3,gt⟩:=g
  dsimp only at cL gt ⊢
  simp only [dL,dm]
  refine b_ (a_.lay (a_.dT al hx.2.2)) ?_
  try simp only [dL,dm]
  refine aQ<|bB J J λb5=>aE J J<|O ?_
  refine ⟨rfl,_,cR.g, ?_⟩
  refine aX<|aQ<|ax J J<|bD J J<|ef J J J J J J λW1=> ?_
  refine eh (k:=1) jm [x.2.1] (jZ (fI x.2.2 (lk slk) hx.2.1)) J (by decide)<|bF<|aV 18 (.slice (some ⟨W1,0,none⟩) [x.2.1].length 1) J ?_
  refine fi J J J J J slk (by simp only [dO,ej]; omega) λDJ DK=>aE J J<|O<|bA ?_
  exact ⟨⟨kk+1,es++[x.2.1],DJ,DK,by simp; omega⟩,none,rfl,⟨rfl,rfl,rfl⟩,al⟩
 obtain ⟨⟨k2,es2,A4,c4,Wk⟩,j⟩:=g
 obtain ⟨hj,iU⟩:=ahm gR rfl
 dsimp only at hj iU
 subst hj
 have kY:xs.length=(je s.m.lr 0).length:=by (have:=bi List.length (oM.1 rfl); rwa [gY] at this)
 try simp only [dL,dm]
 refine Cm<|bA<|ai<|aa<|ax rfl rfl<|ae rfl<|O<|av<|qZ ?_
 refine aF.ay (dg b bd (.slice A s.waits.length cc) s.m p hi) ?_
 refine aF.ay (fp b bd s.m s.waits A cc) ?_
 exact aZ J J al (⟨A4,c4,es2,⟨J,by rw [acV nv] at kY; simp only [ej] at iU; omega⟩,J⟩)
open Go Go.Proofs
variable{bg:Nat}{Z:List (Nat × cP)}{p:nz}
variable{L1 L2 L3:List HP}
theorem yt {L4 L5 L6 L7 L8:List HP} (b:Nat) (c:cF) (Z:List (Nat × cP)) (p:nz) (hi:sw c Z) (hz:Z[k]? =some (bg,g)) (fG:lL g p) [h1:fL L bg (mX p) 85 L1] [h2:cR L1 (aN h_ 40 p.AN p.cN (p.Z.map (·.1))) L2] [h3:cR L2 (aN gl 103 p.AD p.cD (p.Z.map (·.2.1))) L3] [h4:cR L3 (nt p.bn (jT p.Z.length g)) L4] [h5:cR L4 (ck p.bk g.tm g.e8) L5] [h6:cR L5 (c_ (p.Z.map io)) L6] [h7:cR L6 (fX b c (Z.map (·.1))) L7] [h8:cR L7 (c_ ((Z.map jH).set k gP)) L8]:am L (cl b c::L8):=by
 have e1:am L (sh bg g::L6):=CK bg g p fG
 have e2:am L (sh bg g::fX b c (Z.map (·.1))::c_ ((Z.map jH).set k gP)::L8):=e1.trans (am.cons _ (h7.g.trans (am.cons _ h8.g)))
 refine e2.trans ((am.swap _ _ _).trans ((am.cons _ (M4 (g':=g) hz)).trans ?_))
 rw [pd hz]
 exact CL b c Z hi
theorem z7 {Z:List fz} {bn:Nat} (hz:Z[i]? =some (some bn,bd,some s)) [h1:cR L (nd bn bd s) L1] [h2:cR L1 (c_ ((Z.map io).set i gP)) L2]:am L (c_ (Z.map io)::L2):=by
 have e:=EC (L:=L) (b:=bn) (d:=bd) (s:=s) hz
 rw [pd hz] at e
 exact e
open Go Go.Proofs Go.Proofs.Tryz
abbrev lw (bc:Nat) (EV:List aW) (A:Option Addr) (c:Nat) (EN:List dZ) (A2:Option Addr) (c2:Nat) (bad:Bool):List Value:=[bG bc,.int .i64 3,.int .i64 0,.slice A EV.length c,.slice A2 EN.length c2,.bool bad]
instance:yU bK (Option Addr × Nat) 8 fv (λe p=>[sl (aI .i64) p.1 p.2 e.d7]) kj:=⟨_,_,rfl⟩
structure ajw where
 k:Nat
 EV:List aW
 A:Option Addr
 c:Nat
variable{bc:Nat}{A:Option Addr}
set_option maxHeartbeats 4000000 in
theorem acW {bn:Nat} {EV:List aW} {c:Nat} {EN:List dZ} {A2:Option Addr} {c2:Nat} {bad:Bool} (hb:EV.length+s.m.by_.flatten.length<=1000000000000):Fn prog 73 #[bG b,bG bn] (cells b (lw bc EV A c EN A2 c2 bad) 114::aN bK 49 A c EV::nd bn bd s::L) (λv L'=>∃ A' c' Qi,(v=.tuple #[]/\Qi.length<=EV.length+s.m.by_.flatten.length)/\L'=cells b (lw bc Qi A' c' EN A2 c2 bad) 114::aN bK 49 A' c' Qi::nd bn bd s::L):=by
 refine aH func73 J J J J<|aa<|Y J ?_
 refine aP bn<|aJ J J (QR) ?_
 rintro _ _ ⟨A8,c8,rfl,rfl⟩
 refine bF<|ae J<|O<|aa<|ae J<|O<|aX<|cY (σ:=ajw) [0,4] (λg=>g.k<=s.m.by_.flatten.length/\g.EV.length<=EV.length+g.k) (λg kv=>(5,.int .i64 (g.k:Int))::kv) (λg=>cells b (lw bc g.EV g.A g.c EN A2 c2 bad) 114::aN bK 49 g.A g.c g.EV::sl bK A8 c8 s.m.by_.flatten::nd bn bd s::L) (λg=>s.m.by_.flatten.length - g.k) (⟨0,EV,A,c⟩) J (⟨dF _,fo _⟩) (al) (dc J) ?_
 rintro ⟨k,EW,AW,cW⟩ ⟨oQ,hew⟩
 dsimp only at oQ hew ⊢
 refine ar<|aa<|Y J<|Y J<|ab J J (bY J)<|ab J J (bU J J)<|O<|bz J (λf2=> ?_) (λf2=> ?_)
 ·refine az<|ai<|ar<|aX ?_
  obtain ⟨x,hx⟩:∃ x,s.m.by_.flatten[k]? =some x:=⟨_,cj (by omega)⟩
  refine N6 (slk (A:=A8) (c:=c8)) hx λbq oq lq ux=>N8 λpq G2=> ?_
  simp only [dL,dm]
  refine aa<|ae J<|O<|MM (σ:=Nat) [0,4,5] (λv=>v<=EW.length) (λv kv=>(6,.int .i64 (v:Int))::kv) (λv=>row bq oq (fv x pq)::sl (aI .i64) pq.1 pq.2 x.d7::cells b (lw bc EW AW cW EN A2 c2 bad) 114::aN bK 49 AW cW EW::sl bK A8 c8 s.m.by_.flatten::nd bn bd s::L) J ?_ ?_
  ·refine aX<|cY (σ:=Nat) [0,4,5] (λv=>v<=EW.length) (λv kv=>(6,.int .i64 (v:Int))::kv) (λv=>row bq oq (fv x pq)::sl (aI .i64) pq.1 pq.2 x.d7::cells b (lw bc EW AW cW EN A2 c2 bad) 114::aN bK 49 AW cW EW::sl bK A8 c8 s.m.by_.flatten::nd bn bd s::L) (λv=>EW.length - v) (0) J (dF _) (al) (dc J) λv hv=>ar<|Classical.byCases (p:=v < EW.length) (λvL=> ?_) (λvL=> ?_)
   ·obtain ⟨e,he⟩:∃ e,EW[v]? =some e:=⟨_,cj vL⟩
    refine gr (bJ (A:=AW) (c:=cW) (R:=bK)) he λba oa ea=> ?_
    subst ea
    refine bW (cells b (lw bc EW (some ⟨ba,oa,none⟩) cW EN A2 c2 bad) 114::aN bK 49 (some ⟨ba,oa,none⟩) cW EW::row bq oq (fv x pq)::[]) [] [0,2,4,6,8,10,12,14,16,18,20,22,24,26,28,30,32,34,36,38,40,42,44] (by kernel_rfl) al<|aq J J<|aq J J<|aL J J<|aw J J<|aG J J J<|ak J J (bY J)<|ak J J (bU J J)<|pJ 21 J (by omega)<|aq J J<|aC J J (cU J)<|aC J J (gc J)<|aC J J (dp J)<|aC J J (dY J J)<|aC J J (cU J)<|aC J J (iX (R:=bK) (xs:=EW) J J J he)<|aC J J (cp J)<|aC J J (abH J (bJ (c:=cW) (R:=bK)) he (λ_=>J))<|aC J J (cU J)<|aC J J (cU J)<|aC J J (qK J J (by omega) ux)<|aC J J (cp J)<|aC J J (uD (vs:=[.int .i64 x.dot.1,.int .i64 x.dot.2]) J J)<|aC J J (aeO (a:=e.dot) (b:=x.dot) J J)<|ak J J (d9 J J)<|aR<|bz J (λlG=> ?_) (λlG=> ?_)
    ·refine az<|ai<|aX<|aQ<|Y J<|ab J J (bE J J (by omega))<|cz 39 J<|ae J<|O<|bA<|ai ?_
     exact ⟨v+1,(show v+1<=EW.length by omega),(by omega),bO rfl⟩
    exact cw<|aY<|aY<|cu<|ai<|⟨v,hv,bO J⟩
   exact bW (cells b (lw bc EW AW cW EN A2 c2 bad) 114::[]) [] [0,2,4,6,8,10,12,14,16,18,20,22,24,26,28,30,32,34,36,38,40,42,44] (by kernel_rfl) al<|aq J J<|aq J J<|aL J J<|aw J J<|aG J J J<|ak J J (bY J)<|ak J J (bU J J)<|lZ 21 J (by omega)<|aq J J<|aD J J<|aD J J<|aD J J<|aD J J<|aD J J<|aD J J<|aD J J<|aD J J<|aD J J<|aD J J<|aD J J<|aD J J<|aD J J<|aD J J<|ak J J (dG J J)<|aR<|aT J<|cw<|aY<|aY<|cu<|ai<|⟨v,hv,bO J⟩
  intro v hv
  refine aa<|Y J<|Y J<|aS J<|ao J<|ax J J<|ab J J (bY J)<|ab J J (ce J J)<|O<|bz J (λG3=> ?_) (λG3=> ?_)
  ·refine i5 (cells b (lw bc EW AW cW EN A2 c2 bad) 114::row bq oq (fv x pq)::[]) [13] [0,2,4,6,8,10,12,14,16,19,21,22,24,27] (by kernel_rfl) al<|aq J J<|aq J J<|aL J J<|aw J J<|aG J J J<|aq J J<|aq J J<|ak J J (qK J J (by omega) ux)<|ak J J (uD (vs:=fv x pq) J J)<|an J<|ef J J J J J J λb56=> ?_
   refine eh (k:=1) bK [x] (jZ (fI pq (lk slk) G2)) J (by decide)<|bF<|aV 56 (.slice (some ⟨b56,0,none⟩) [x].length 1) J<|au<|an J ?_
   refine fi J J J J J slk (by simp only [dO,ej]; omega) λD6 xP=>au<|aL J J<|aw J J<|an J<|aE J J<|gZ J<|aR<|bA<|ai<|aQ<|Y J<|ab J J (bE J J (by omega))<|cz 14 J<|ae J<|O<|ai ?_
   exact ⟨⟨k+1,EW++[x],D6,xP⟩,⟨by dsimp only; omega,by simp; omega⟩,(by dsimp only; omega),bO rfl⟩
  have vL:v < EW.length:=by omega
  obtain ⟨e,he⟩:∃ e,EW[v]? =some e:=⟨_,cj vL⟩
  refine CR (A:=AW) (c:=cW) (R:=bK) he λg3 l3 xH DT=> ?_
  subst xH
  refine ou 1 J<|NA (R:=bK) λp0 G1 m7=> ?_
  subst G1
  simp only [dL,dm]
  refine bW (cells b (lw bc EW (some ⟨g3,0,none⟩) cW EN A2 c2 bad) 114::sZ bK 49 g3 cW EW v (fv e p0)::row bq oq (fv x pq)::[]) [] [0,2,4,6,8,10,12,14,16,18,20,23,24] (by kernel_rfl) al<|aq J J<|aL J J<|aw J J<|aG J J J<|aq J J<|ak J J (pS (R:=bK) (xs:=EW) J J J he)<|ak J J (QV (vs:=fv e p0) J J)<|aq J J<|aq J J<|ak J J (qK J J (by omega) ux)<|ak J J (uD (vs:=fv x pq) J J)<|an J<|aB J J (Yg e x bJ bJ)<|au<|ak J J (iF J)<|aR<|bz J (λB7=> ?_) (λB7=> ?_)
  ·refine i5 (cells b (lw bc EW (some ⟨g3,0,none⟩) cW EN A2 c2 bad) 114::row bq oq (fv x pq)::[]) [] [0,2,4,6,8,10,12,14,16,18,21] (by kernel_rfl) al<|aq J J<|aL J J<|aw J J<|aG J J J<|aq J J<|aq J J<|aq J J<|ak J J (qK J J (by omega) ux)<|ak J J (uD (vs:=fv x pq) J J)<|ak J J (pS (R:=bK) (xs:=EW) J J J he)<|an J<|fc J J J J J J ?_
   refine jK (R:=bK) g3 x (fI pq (lk slk) G2) ?_
   rw [show lw bc EW (some ⟨g3,0,none⟩) cW EN A2 c2 bad=lw bc (EW.set v x) (some ⟨g3,0,none⟩) cW EN A2 c2 bad from by unfold lw; rw [vW]]
   refine au<|aR<|bA<|ai<|aQ<|Y J<|ab J J (bE J J (by omega))<|cz 14 J<|ae J<|O<|ai ?_
   exact ⟨⟨k+1,EW.set v x,some ⟨g3,0,none⟩,cW⟩,⟨by dsimp only; omega,by simp; omega⟩,(by dsimp only; omega),bO rfl⟩
  refine Nx (R:=bK) g3 e (fI p0 (lk slk) m7) ?_
  rw [pd he]
  refine az<|bA<|ai<|aQ<|Y J<|ab J J (bE J J (by omega))<|cz 14 J<|ae J<|O<|ai ?_
  exact ⟨⟨k+1,EW,some ⟨g3,0,none⟩,cW⟩,⟨by dsimp only; omega,by dsimp only; omega⟩,(by dsimp only; omega),bO rfl⟩
 refine cw<|aY<|aY<|cu ?_
 exact lj (.inr rfl) rfl bu.g (⟨AW,cW,EW,⟨rfl,by omega⟩,rfl⟩)
open Go
def C_ (c:cF):Bool:=c.eB.all λg=>g.nodes.all λo=>match o with
 | some s=>decide (s.m.by_.flatten.length<=60000) && decide (eb s.m.lr<=60000)
 | none=>true
def sR (c:cF) (x:i8):Option (cF × Int):=(qg c {x with call:={x.call with id:=c.steps+1}}).bind λr=>if C_ r.1=true then some r else none
def BB (i:Nat):Nat->cF->Option cF
 | 0,c=>some c
 | f+1,c=>(xN c {kind:=10,node:=(i:Int),at_:=((2 - f:Nat):Int)}).bind (BB i f)
def Dy (g:Bool):Nat->cF->Option cF
 | 0,c=>some c
 | f+1,c=>(if g=true then BB (2 - f) 3 c else some c).bind λc=>(xN c {kind:=11,node:=((2 - f:Nat):Int)}).bind (Dy g f)
def vl:Nat->cF->Option cF
 | 0,c=>if Dv c=0 then some c else none
 | f+1,c=>if Dv c=0 then some c else (xN c {kind:=2}).bind (vl f)
def BC (g:Bool) (c:cF):Option cF:=(Dy g 3 c).bind (vl 300)
def D7:Nat->cF->Option cF
 | 0,c=>some c
 | f+1,c=>(sR c {kind:=5,node:=((2 - f:Nat):Int)}).bind λr=>(sR r.1 {kind:=6,node:=((2 - f:Nat):Int)}).bind λr=>if r.2=0 then D7 f r.1 else none
abbrev A_:i8:={kind:=7,jq:=500,on:=[500,500,500]}
abbrev Ba:i8:={kind:=7,jq:=0,on:=[0,0,0]}
def zJ:Nat->Nat->cF->Option cF
 | 0,_,_=>none
 | f+1,n,c=>if tR c 0=true then some c else
   (if n % 4=0 then (xN c A_).bind λc=>xN c {kind:=8} else some c).bind λc=>(BC true c).bind (zJ f (n+1))
def Bb (c:cF):Bool:=(ox c 0).isSome && (ox c 1).isSome && (ox c 2).isSome
def D8:Nat->Nat->cF->Option cF
 | 0,_,_=>none
 | f+1,n,c=>(xN c {kind:=12}).bind λc=>(BC true c).bind λc=>if Bb c=true then (if yn c=true/\1 < n then some c else D8 f (n+1) c) else none
def XG (c:cF):Option cF:=(D7 3 c).bind λc=>(sR c A_).bind λr=>if r.2=0 then (zJ 30 0 r.1).bind λc=>(D8 10 0 c).bind λc=>(sR c Ba).bind λr=>if tR r.1 0=true then some r.1 else none else none
def AB (oN:Int) (l:List lu):Option lu:=l.reverse.find? λt=>decide (t.dR.id=oN) && decide (t.dR.err=0)
def Dz (oN:Int):Nat->cF->Option (cF × mJ)
 | 0,_=>none
 | f+1,c=>(BC false c).bind λc=>if c.told.length<=1000000/\(c.told.all Fd)=true then (match AB oN c.told with
  | some t=>(sR c Ba).map λr=>(r.1,t.dR)
  | none=>Dz oN f c) else none
def Wx (c:cF) (aK cV:ByteArray):Option (cF × mJ):=(sR c {kind:=1,call:=⟨0,3,aK,⟨#[]⟩,0,false,cV⟩}).bind λr=>Dz r.1.steps 8 r.1
def XH:Option (cF × mJ):=(XG (yD 3 1)).bind λc=>(sR c {kind:=1,call:=⟨0,1,Dw,IY,2,false,⟨#[]⟩⟩}).bind λr=>Wx r.1 Dw nmT
def Is (a:mJ):Bool:=decide (a.ord.id=1) && (match a.my with
  | some (l,c)=>decide (c=Dw) && (match l with
   | [e]=>decide (e.eZ=2) && decide (e.di=IY) && decide (e.aK=Dw) && !e.jy
   | _=>false)
  | none=>false)
theorem aiz:(XH.map λr=>Is r.2)=some true:=by
 have h:((XH.map λr=>Is r.2)==some true)=true:=by decide+kernel
 simpa using h
theorem aem {e:aW} (h:e.jy=false) (aK di:ByteArray):rS [e] aK di=if e.aK=aK/\e.di=di then e.eZ else 0:=by
 have hg:¬ rR [e] e:=by unfold rR; simp [h]
 have hs:q9 (qT [e])=[e]:=by simp [q9,q8,qT,hg]
 unfold rS
 rw [hs]
 by_cases g:e.aK=aK/\e.di=di
 ·rw [if_pos g]; simp [oc,g.1,g.2,lV]
 ·rw [if_neg g]
  have:oc aK di e=false:=by
   unfold oc
   by_cases h1:e.aK=aK
   ·have h2:e.di≠di:=λh2=>g ⟨h1,h2⟩
    simp [h2]
   ·simp [h1]
  simp [this,lV]
theorem aen {e:aW} {xs:List lm} (h:e.jy=false) (hq:e.eZ=2) (hl:l9 [e] e.aK xs):xs=[(e.di,2)]:=by
 have hm:∀ k q,(k,q)∈xs↔k=e.di/\q=2:=λk q=>by
  rw [hl.mem,aem h]
  by_cases g:e.di=k
  ·subst g; rw [if_pos ⟨rfl,rfl⟩,hq]
   exact ⟨λa=>⟨rfl,a.1⟩,λa=>⟨a.2,by omega⟩⟩
  ·rw [if_neg (λa=>g a.2)]
   exact ⟨λa=>absurd a.2 (by omega),λa=>absurd a.1.symm g⟩
 have hx:(e.di,(2:Int))∈xs:=(hm _ _).2 ⟨rfl,rfl⟩
 match xs,hl.inc,hm,hx with
 | [],_,_,hx=>cases hx
 | [a],_,hm,_=>have:=(hm a.1 a.2).1 (by simp); cases a; simp at this; rw [this.1,this.2]
 | a::b::r,hi,hm,_=>
  have h1:=(hm a.1 a.2).1 (by simp)
  have h2:=(hm b.1 b.2).1 (by simp)
  have h3:=(qG.1 hi).1 b (by simp)
  rw [h1.1,h2.1] at h3
  exact absurd h3 H1
theorem abn {a:mJ} {xs:List lm} (h:Is a=true) (hl:Ft a.my xs):a.ord.id=1/\∃ k,xs=[(k,2)]:=by
 unfold Is at h
 rw [kc] at h
 refine ⟨o3 h.1, ?_⟩
 have h2:=h.2
 cases hn:a.my with
 | none=>rw [hn] at h2; cases h2
 | some q=>
  obtain ⟨l,c⟩:=q
  rw [hn] at h2 hl
  dsimp only at h2
  match l,h2,hl with
  | [],h2,_=>simp at h2
  | _::_::_,h2,_=>simp at h2
  | [e],h2,hl=>
   simp only [kc,decide_eq_true_eq,Hf] at h2
   obtain ⟨hc,⟨⟨hq,hs⟩,Qj⟩,kU⟩:=h2
   exact ⟨e.di,aen kU hq (by rw [Qj, <- hc]; exact hl)⟩
open Go Go.Proofs Go.Proofs.Tryz
structure y5 where
 EV:List aW
 A:Option Addr
 c:Nat
 EN:List dZ
 A2:Option Addr
 c2:Nat
 bad:Bool
abbrev vm (b bc:Nat) (c:cF) (p:y5) (L:List HP):List HP:=cells b (lw bc p.EV p.A p.c p.EN p.A2 p.c2 p.bad) 114::aN bK 49 p.A p.c p.EV::aN jm 158 p.A2 p.c2 p.EN::cl bc c::L
theorem Tj {z:fz} (h:z.1.isSome=z.2.2.isSome):(∃ bn bd s,z=(some bn,bd,some s))\/∃ bd,z=(none,bd,none):=by
 obtain ⟨o,bd,s⟩:=z
 cases o with
 | none=>cases s with
  | none=>exact .inr ⟨bd,rfl⟩
  | some s=>cases h
 | some b=>cases s with
  | none=>cases h
  | some s=>exact .inl ⟨b,bd,s,rfl⟩
theorem ahn (h:C_ c=true) (hg:g∈c.eB) (hs:g.nodes[i]? =some (some s)):s.m.by_.flatten.length<=60000/\eb s.m.lr<=60000:=by
 unfold C_ at h
 have h1:=sB.1 (sB.1 h g hg) _ (eA hs)
 dsimp only at h1
 rw [kc] at h1
 exact ⟨o3 h1.1,o3 h1.2⟩
structure alj where
 i:Nat
 p:y5
structure alk where
 k:Nat
 EN:List dZ
 A2:Option Addr
 c2:Nat
 bad:Bool
set_option maxHeartbeats 4000000 in
theorem aeo {p:y5} {g0:cP} (hE:p.EV.length<=400000000000) (hN:p.EN.length<=60000) (hl:C_ c=true) (hn:c.n=3) (mT:c.eB[0]? =some g0):Fn prog 33 #[bG b] (vm b bc c p L) (λv L'=>∃ p',(v=.tuple #[]/\p'.EV.length<=p.EV.length+180000/\p'.EN.length<=60000)/\L'=vm b bc c p' L):=by
 have XI:=eA mT
 refine aH func33 J J J J<|aa<|ae J<|O<|aX<|cY (σ:=alj) [0] (λg=>g.i<=3/\g.p.EV.length<=p.EV.length+60000 * g.i/\g.p.EN.length<=60000) (λg kv=>(2,.int .i64 (g.i:Int))::kv) (λg=>vm b bc c g.p L) (λg=>3 - g.i) (⟨0,p⟩) J (⟨dF _,fo _,hN⟩) (al) (dc J) ?_
 rintro ⟨i,EV,A,cc,EN,A2,c2,bad⟩ ⟨mW,rz,iU⟩
 dsimp only at mW rz iU ⊢
 refine ar<|aa<|Y J<|Y J<|aS J<|ao J<|ax J J<|ab J J (bU J J)<|O<|bz J (λgJ=> ?_) (λgJ=> ?_)
 ·refine az<|ai<|ar<|aX ?_
  refine cQ bc<|BA λZ hi=> ?_
  obtain ⟨bg,hz⟩:∃ bg,Z[0]? =some (bg,g0):=by (have h0:=mT; rw [<- hi.sh,e_] at h0; obtain ⟨y,hy,rfl⟩:=iq.1 h0; exact ⟨y.1,hy⟩)
  refine Dm hz<|ou 2 J<|ou 1 J<|vk λps fG=> ?_
  have pL:=hi.nodes g0 XI
  have lE:ps.Z.length=g0.nodes.length:=by (rw [<- fG.nodes,gY])
  have amD:i < 3:=(by omega)
  obtain ⟨z,iL⟩:∃ z,ps.Z[i]? =some z:=⟨_,cj (by omega)⟩
  have tA:(Z.map λz:Nat × cP↦z.1).length<=8:=by (rw [gY]; exact hi.len.2)
  have mZ:(Z.map λz:Nat × cP↦z.1)[0]? =some bg:=by (rw [e_,hz]; rfl)
  refine C0 iL λew=> ?_
  rcases Tj ew with ⟨bn,bd,s,rfl⟩ | ⟨bd,rfl⟩
  ·refine aa<|Y J<|aS J<|ao J<|ax J J<|Y J<|aB J J (zV mZ tA fG iL)<|ae J<|O<|ar<|aa<|Y J<|ab J J (fR J J (dh.eJ))<|aV 21 (.bool false) J<|O<|aT J<|az<|ai ?_
   have hns:g0.nodes[i]? =some (some s):=by (rw [<- fG.nodes,e_,iL]; rfl)
   obtain ⟨ic,hpf⟩:=ahn hl XI hns
   refine aa<|Y J<|tO iL<|aJ J J (Ks) ?_
   rintro _ _ ⟨xp,xq,es,⟨rfl,tj⟩,rfl⟩
   refine bF<|ae J<|O<|ar<|aa<|ae J<|O<|aX<|cY (σ:=alk) [0,2,3,4] (λg=>g.k<=es.length/\g.EN.length<=60000) (λg kv=>(5,.int .i64 (g.k:Int))::kv) (λg=>cells b (lw bc EV A cc g.EN g.A2 g.c2 g.bad) 114::aN jm 158 g.A2 g.c2 g.EN::sl jm xp xq es::aN bK 49 A cc EV::nd bn bd s::cells bg (mX ps) 85::aN h_ 40 ps.AN ps.cN (ps.Z.map λz:fz↦z.1)::aN gl 103 ps.AD ps.cD (ps.Z.map λz:fz↦z.2.1)::nt ps.bn (jT ps.Z.length g0)::ck ps.bk g0.tm g0.e8::c_ ((ps.Z.map io).set i gP)::fX bc c (Z.map λz:Nat × cP↦z.1)::c_ ((Z.map jH).set 0 gP)::L) (λg=>es.length - g.k) (⟨0,EN,A2,c2,bad⟩) J (⟨dF _,iU⟩) (al) (dc J) ?_
   rintro ⟨k,EM,A3,c3,DA⟩ ⟨oQ,oR⟩
   dsimp only at oQ oR ⊢
   refine ar<|aa<|Y J<|Y J<|ab J J (bY J)<|ab J J (bU J J)<|O<|bz J (λtu=> ?_) (λtu=> ?_)
   ·refine az<|ai<|ar<|aX ?_
    obtain ⟨x,hx⟩:∃ x,es[k]? =some x:=⟨_,cj (by omega)⟩
    refine N6 (slk (A:=xp) (c:=xq)) hx λbq oq lq ux=>N8 λpq G2=> ?_
    simp only [dL,dm]
    refine aa<|Y J<|Y J<|aS J<|ao J<|ax J J<|ab J J (bY J)<|ab J J (eV J J)<|O<|bz J (λB1=> ?_) (λB1=> ?_)
    ·refine i5 (cells b (lw bc EV A cc EM A3 c3 DA) 114::row bq oq (hO x pq)::[]) [13] [0,2,4,6,8,10,12,14,16,19,21,22,24,27] (by kernel_rfl) al<|aq J J<|aq J J<|aL J J<|aw J J<|aG J J J<|aq J J<|aq J J<|ak J J (qK J J (by omega) ux)<|ak J J (uD (vs:=hO x pq) J J)<|an J<|ef J J J J J J λn8=> ?_
     refine eh (k:=1) jm [x] (jZ (fI pq (lk slk) G2)) J (by decide)<|bF<|aV 46 (.slice (some ⟨n8,0,none⟩) [x].length 1) J<|au<|an J ?_
     refine fi J J J J J slk (by simp only [dO,ej]; omega) λBX BY=>au<|aL J J<|aw J J<|an J<|aE J J<|gZ J<|aR<|bA<|ai<|aQ<|Y J<|ab J J (bE J J (by omega))<|cz 29 J<|ae J<|O<|ai ?_
     exact ⟨⟨k+1,EM++[x],BX,BY,DA⟩,⟨by dsimp only; omega,by simp; omega⟩,(by dsimp only; omega),bO rfl⟩
    have XJ:k < EM.length:=by omega
    obtain ⟨e,he⟩:∃ e,EM[k]? =some e:=⟨_,cj XJ⟩
    refine CR (A:=A3) (c:=c3) (R:=jm) he λg3 l3 xH DT=> ?_
    subst xH
    refine ou 1 J<|NA (R:=jm) λp0 G1 m7=> ?_
    subst G1
    simp only [dL,dm]
    refine bW (cells b (lw bc EV A cc EM (some ⟨g3,0,none⟩) c3 DA) 114::sZ jm 158 g3 c3 EM k (hO e p0)::row bq oq (hO x pq)::[]) [] [0,2,4,6,8,10,12,14,16,18,20,23,24] (by kernel_rfl) al<|aq J J<|aq J J<|ak J J (qK J J (by omega) ux)<|ak J J (uD (vs:=hO x pq) J J)<|aq J J<|aL J J<|aw J J<|aG J J J<|aq J J<|ak J J (pS (R:=jm) (xs:=EM) J J J he)<|ak J J (QV (vs:=hO e p0) J J)<|an J<|aB J J (Yf x e bJ bJ)<|au<|ak J J (iF J)<|aR<|bz J (λPS=> ?_) (λPS=> ?_)
    ·refine Nx (R:=jm) g3 e (fI p0 (lk slk) m7) ?_
     rw [pd he]
     refine aQ<|Y J<|aS J<|ao J<|aE J J<|O<|bA<|ai<|aQ<|Y J<|ab J J (bE J J (by omega))<|cz 29 J<|ae J<|O<|ai ?_
     exact ⟨⟨k+1,EM,some ⟨g3,0,none⟩,c3,true⟩,⟨by dsimp only; omega,by dsimp only; omega⟩,(by dsimp only; omega),bO rfl⟩
    refine Nx (R:=jm) g3 e (fI p0 (lk slk) m7) ?_
    rw [pd he]
    refine az<|bA<|ai<|aQ<|Y J<|ab J J (bE J J (by omega))<|cz 29 J<|ae J<|O<|ai ?_
    exact ⟨⟨k+1,EM,some ⟨g3,0,none⟩,c3,DA⟩,⟨by dsimp only; omega,by dsimp only; omega⟩,(by dsimp only; omega),bO rfl⟩
   refine cw<|aY<|aY<|cu<|ai<|aQ<|Y J<|Y J ?_
   refine bX (show am _ (cells b (lw bc EV A cc EM A3 c3 DA) 114::aN bK 49 A cc EV::nd bn bd s::aN jm 158 A3 c3 EM::cells bg (mX ps) 85::aN h_ 40 ps.AN ps.cN (ps.Z.map λz:fz↦z.1)::aN gl 103 ps.AD ps.cD (ps.Z.map λz:fz↦z.2.1)::nt ps.bn (jT ps.Z.length g0)::ck ps.bk g0.tm g0.e8::c_ ((ps.Z.map io).set i gP)::fX bc c (Z.map λz:Nat × cP↦z.1)::c_ ((Z.map jH).set 0 gP)::L) from al)<|aJ J J (acW (s:=s) (by omega)) ?_
   rintro _ _ ⟨PT,PU,EV2,⟨rfl,amE⟩,rfl⟩
   refine bX (z7 iL) ?_
   refine bX (yt bc c Z ps hi hz fG)<|O<|bA<|ai<|aQ<|Y J<|ab J J (bE J J (by omega))<|cz 13 J<|ae J<|O<|ai ?_
   exact ⟨⟨i+1,EV2,PT,PU,EM,A3,c3,DA⟩,⟨by dsimp only; omega,by dsimp only; omega,oR⟩,(by dsimp only; omega),bO rfl⟩
  refine aa<|Y J<|aS J<|ao J<|ax J J<|Y J<|aB J J (zV mZ tA fG iL)<|ae J<|O<|ar ?_
  refine b_ (yt bc c Z ps hi hz fG)<|aa<|Y J<|ab J J (fR J J (dh.eJ))<|aV 21 (.bool true) J<|O<|cg J<|cw<|aY<|cu<|ai<|aQ<|Y J<|ab J J (bE J J (by omega))<|cz 13 J<|ae J<|O<|ai ?_
  exact ⟨⟨i+1,EV,A,cc,EN,A2,c2,bad⟩,⟨by dsimp only; omega,by dsimp only; omega,iU⟩,(by dsimp only; omega),bO rfl⟩
 refine cw<|aY<|aY<|cu ?_
 exact lj (.inr rfl) rfl bu.g (⟨⟨EV,A,cc,EN,A2,c2,bad⟩,⟨rfl,by dsimp only; omega,iU⟩,rfl⟩)
open Go Go.Proofs Go.Proofs.Tryz
theorem afZ {r:cF × cP × Int} (h:Dk c k g x=some r):r.1.n=c.n/\r.1.steps=c.steps/\r.1.eB=c.eB:=by
 unfold Dk at h
 dsimp only at h
 repeat' split at h
 all_goals first
  | (cases h; done)
  | (obtain ⟨y,_,rfl⟩:=iq.1 h; dsimp only; first | exact ⟨rfl,rfl,rfl⟩ | (split <;> exact ⟨rfl,rfl,rfl⟩))
  | (obtain ⟨y,_,h2⟩:=fK.1 h; split at h2; (obtain rfl:=ez h2; exact ⟨rfl,rfl,rfl⟩); cases h2)
  | (obtain rfl:=ez h; exact ⟨rfl,rfl,rfl⟩)
theorem MJ (h:qg c x=some (c',e)):c'.n=c.n/\c'.steps=c.steps+1/\c'.eB.length=c.eB.length/\0<=c.steps/\c.steps < 999999:=by
 unfold qg at h
 dsimp only at h
 split at h
 ·cases h
 ·split at h
  ·cases h
  ·rename_i hc
   obtain ⟨r,hr,hq⟩:=iq.1 h
   obtain ⟨g1,g2,g3⟩:=afZ hr
   obtain ⟨rfl,_⟩:=jY hq
   dsimp only at g1 g2 g3 ⊢
   exact ⟨g1,g2,by rw [vW,g3],by omega,by omega⟩
abbrev Wy (b bc:Nat) (c:cF) (p:y5):List HP:=[cells b (lw bc p.EV p.A p.c p.EN p.A2 p.c2 p.bad) 114,aN bK 49 p.A p.c p.EV,aN jm 158 p.A2 p.c2 p.EN,cl bc c]
structure vn (c:cF) (p:y5):Prop where
 ev:p.EV.length<=300000 * c.steps.toNat
 en:p.EN.length<=60000
 n:c.n=3
 len:c.eB.length=1
def kE (b bc:Nat) (c:cF):HP:=n_ (Wy b bc c) (vn c)
instance:jz (kE b bc c::L) b (kE b bc c) L:=⟨am.refl _⟩
variable{r:Option Nat}{n:Nat}{P:Program}{ops:Array Oper}{rest:List Oper}{K:St->Prop}{Q:Exit->St->Prop}{D:List Deferred}{E:cZ}
theorem sW {k:Code} (h:∀ p,vn c p->T r n P k ⟨D,E,vm b bc c p L⟩ Q):T r n P k ⟨D,E,kE b bc c::L⟩ Q:=sT h
theorem oo {L4:List HP} (b bc:Nat) (c:cF) (p:y5) (hp:vn c p) [h1:fL L b (lw bc p.EV p.A p.c p.EN p.A2 p.c2 p.bad) 114 L1] [h2:cR L1 (aN bK 49 p.A p.c p.EV) L2] [h3:cR L2 (aN jm 158 p.A2 p.c2 p.EN) L3] [h4:cR L3 (cl bc c) L4]:am L (kE b bc c::L4):=
 (h1.g.trans (am.cons _ (h2.g.trans (am.cons _ (h3.g.trans (am.cons _ h4.g)))))).trans (nG (F:=Wy b bc c) (φ:=vn c) p hp)
theorem vn.next {p p':y5} (h:vn c p) (hn:c'.n=c.n) (hs:c'.steps=c.steps+1) (hl:c'.eB.length=c.eB.length) (h0:0<=c.steps) (he:p'.EV.length<=p.EV.length+180000) (iU:p'.EN.length<=60000):vn c' p':=
 ⟨by have:=h.ev; omega,iU,by rw [hn]; exact h.n,by rw [hl]; exact h.len⟩
abbrev IH (c:cF) (x:i8):i8:={x with call:={x.call with id:=c.steps+1}}
set_option maxHeartbeats 4000000 in
theorem z2 (h:sR c x=some (c',e)) (hx:x.kind=1->nO (IH c x).call) (hk:a_ L (aI .i64) q.1 q.2 x.on):Fn prog 15 #[bG b,nZ x q] (kE b bc c::L) (λv L'=>v=.int .i64 e/\L'=kE b bc c'::L):=by
 obtain ⟨⟨c2,e2⟩,hd,hr⟩:=fK.1 h
 dsimp only at hr
 have PR:C_ c2=true:=by
  by_cases g:C_ c2=true
  ·exact g
  ·rw [if_neg g] at hr; cases hr
 rw [if_pos PR] at hr
 obtain ⟨rfl,rfl⟩:=jY (ez hr)
 have eW:qg c (IH c x)=some (c2,e2):=hd
 obtain ⟨k1,k2,k3,k4,k5⟩:=MJ eW
 refine aH func15 J J J J<|b_ (a_.lay (a_.tail hk))<|cQ b<|sW λp hp=> ?_
 have rz:=hp.ev
 obtain ⟨EV,A,cc,EN,A2,k_,bad⟩:=p
 dsimp only at rz
 obtain ⟨g0,mT⟩:∃ g,c2.eB[0]? =some g:=⟨_,cj (by have:=hp.len; omega)⟩
 refine aa<|bS J J J λb3=>ae J<|O<|aa<|Y J<|aS J<|ao J<|ax J J<|aP bc<|aB J J (QS)<|ab J J (bE J J (by omega))<|ao J<|ao J<|aE J J<|O<|bW (cells b (lw bc EV A cc EN A2 k_ bad) 114::cells b3 (pF (IH c x) q) 37::[]) [] [0,2,4,6,8,11,12] (by kernel_rfl) al<|aq J J<|aL J J<|aw J J<|aG J J J<|cf J J J<|an J<|aP bc<|aB J J (ya (x:=IH c x) (q:=q) eW hx slk)<|au<|ak J J (bT J)<|aR<|aa<|Y J<|bX (show am _ (vm b bc c2 ⟨EV,A,cc,EN,A2,k_,bad⟩ L) from al)<|aJ J J (aeo (g0:=g0) (by dsimp only; omega) hp.en PR (by rw [k1]; exact hp.n) mT) ?_
 rintro _ _ ⟨p',⟨rfl,Xk,D2⟩,rfl⟩
 exact O<|aa<|Y J<|ae J<|O<|av<|aF.ay (oo b bc c2 p' (hp.next k1 k2 k3 k4 Xk D2))<|cI J J
open Go Go.Proofs Go.Proofs.Tryz
theorem RK (n d:Int) (L:List HP):Fn prog 5 #[.int .i64 n,.int .i64 d] L (λv L'=>v=.agg #[.int .i64 n,.int .i64 100,.int .i64 d,.int .i64 1048576,.int .i64 16777216]/\L'=L):=by
 exact aH func5 J J J J<|aa<|bB J J λb4=>O<|aa<|Y J<|Y J<|ab J J (bI J J)<|aE J J<|O<|av<|eK (.inl J) J (bf.agg J J) bu.g (⟨J,J⟩)
theorem abo (L:List HP):Fn prog 13 #[.int .i64 2,.int .i64 0] L (λv L'=>∃ b bc,v=bG b/\L'=kE b bc (yD 3 1)::L):=by
 refine aH func13 J J J J<|aa<|ae J<|O<|aa<|Y J<|ab J J (AC J J (by decide))<|aV 10 (.int .i64 2) J<|Y J<|ab J J (AC J J (by decide))<|aV 12 (.int .i64 0) J<|ae J<|ae J<|O<|ar<|aa<|Y J<|ab J J (bU J J)<|br 14 (v':=.bool false) J (bi Value.bool (by decide))<|O<|aT J<|az<|ai<|ar<|aa<|Y J<|ab J J (bU J J)<|br 18 (v':=.bool false) J (bi Value.bool (by decide))<|O<|aT J<|az<|ai<|aa<|Y J<|ab J J (bE J J (by decide))<|aV 23 (.int .i64 3) J<|Y J<|aB J J (RK 3 0 _)<|aJ J J (RJ 3 1 (by decide) (by decide) _) ?_
 rintro _ _ ⟨bc,rfl,rfl⟩
 exact Y J<|ab J J (aO J J)<|ab J J (aO J J)<|ae J<|ae J<|O<|ar<|aa<|Y J<|ab J J (dB J J)<|br 30 (v':=.bool false) J (bi Value.bool (by decide))<|Y J<|aj J<|Y J<|aj J<|ab J J (fR J J (dh.eJ))<|aV 33 (.bool false) J<|aA J<|O<|aT J<|az<|ai<|aa<|Y J<|Y J<|ab J J (bE J J (by decide))<|aV 37 (.int .i64 3) J<|Y J<|ab J J (bI J J)<|bS J J J λKf=>ae J<|O<|av<|aF.ay (du bK 49 none _)<|aF.ay (du jm 158 none _)<|aF.ay (oo Kf bc (yD 3 1) ⟨[],none,0,[],none,0,false⟩ ⟨dF _,dF _,J,J⟩)<|aZ J J al (⟨Kf,bc,J,J⟩)
structure sy (c0 c:cF):Prop where
 n:c.n=c0.n
 len:c.eB.length=c0.eB.length
 st:0<=c0.steps->c0.steps<=c.steps
theorem sy.refl (c:cF):sy c c:=⟨rfl,rfl,λ_=>qJ _⟩
theorem sy.next {c0:cF} (h:sy c0 c) (hd:qg c x=some (c',e)):sy c0 c':=by
 obtain ⟨k1,k2,k3,k4,k5⟩:=MJ hd
 exact ⟨by rw [k1,h.n],by rw [k3,h.len],λh0=>by have:=h.st h0; omega⟩
theorem vn.keep {c0:cF} {p:y5} (h:vn c0 p) (ho:sy c0 c):vn c p:=by
 have he:=h.ev
 refine ⟨?_,h.en,by rw [ho.n]; exact h.n,by rw [ho.len]; exact h.len⟩
 by_cases h0:0<=c0.steps
 ·have:=ho.st h0; omega
 ·omega
theorem CM (h:xN c x=some c'):∃ e,qg c x=some (c',e):=by
 obtain ⟨r,hr,rfl⟩:=iq.1 h
 exact ⟨r.2,hr⟩
theorem aep (hk:k < 3) (h:BB i (3 - k) c=some c'):∃ c2 e,qg c {kind:=10,node:=(i:Int),at_:=(k:Int)}=some (c2,e)/\BB i (3 - (k+1)) c2=some c':=by
 obtain ⟨f,hf⟩:∃ f,3 - k=f+1:=⟨2 - k,by omega⟩
 rw [hf] at h
 unfold BB at h
 obtain ⟨c2,h1,h2⟩:=fK.1 h
 rw [show 2 - f=k by omega] at h1
 obtain ⟨e,he⟩:=CM h1
 exact ⟨c2,e,he,by rw [show 3 - (k+1)=f by omega]; exact h2⟩
theorem aeq {g:Bool} (hi:i < 3) (h:Dy g (3 - i) c=some c'):∃ c2 c3 e,(if g=true then BB i 3 c else some c)=some c2/\qg c2 {kind:=11,node:=(i:Int)}=some (c3,e)/\Dy g (3 - (i+1)) c3=some c':=by
 obtain ⟨f,hf⟩:∃ f,3 - i=f+1:=⟨2 - i,by omega⟩
 rw [hf] at h
 unfold Dy at h
 obtain ⟨c2,h1,h2⟩:=fK.1 h
 obtain ⟨c3,h3,h4⟩:=fK.1 h2
 rw [show 2 - f=i by omega] at h1 h3
 obtain ⟨e,he⟩:=CM h3
 exact ⟨c2,c3,e,h1,he,by rw [show 3 - (i+1)=f by omega]; exact h4⟩
theorem aer {f:Nat} (h:vl f c=some c') (hp:Dv c=0):c=c':=by
 cases f with
 | zero=>unfold vl at h; rw [if_pos hp] at h; exact ez h
 | succ f=>unfold vl at h; rw [if_pos hp] at h; exact ez h
theorem aes (h:vl (300 - n) c=some c') (hp:Dv c≠0):n < 300/\∃ c2 e,qg c {kind:=2}=some (c2,e)/\vl (300 - (n+1)) c2=some c':=by
 cases hf:300 - n with
 | zero=>rw [hf] at h; unfold vl at h; rw [if_neg hp] at h; cases h
 | succ f=>
  rw [hf] at h
  unfold vl at h
  rw [if_neg hp] at h
  obtain ⟨c2,h1,h2⟩:=fK.1 h
  obtain ⟨e,he⟩:=CM h1
  exact ⟨by omega,c2,e,he,by rw [show 300 - (n+1)=f by omega]; exact h2⟩
theorem aho (h:c.eB[0]? =some g):Dv c=g.pk.length:=by
 unfold Dv
 cases hs:c.eB with
 | nil=>rw [hs] at h; cases h
 | cons a r=>
  rw [hs] at h
  obtain rfl:a=g:=by simpa using h
  rfl
theorem af0 (b:Nat) (c:cF) (Z:List (Nat × cP)) (hi:sw c Z) (hz:Z[k]? =some (bg,g)) [h1:cR L (sh bg g) L1] [h2:cR L1 (fX b c (Z.map λz:Nat × cP=>z.1)) L2] [h3:cR L2 (c_ ((Z.map jH).set k gP)) L3]:am L (cl b c::L3):=by
 refine (h1.g.trans (am.cons _ (h2.g.trans (am.cons _ h3.g)))).trans ((am.swap _ _ _).trans ((am.cons _ (M4 (g':=g) hz)).trans ?_))
 rw [pd hz]
 exact CL b c Z hi
set_option maxRecDepth 4000 in
set_option maxHeartbeats 4000000 in
theorem Lu {g:Bool} (h:BC g c=some c'):Fn prog 30 #[bG b,.bool g] (kE b bc c::L) (λv L'=>v=.tuple #[]/\L'=kE b bc c'::L):=by
 refine aH func30 J J J J<|sW λp hp=> ?_
 obtain ⟨c1,lH,Kb⟩:=fK.1 h
 refine ar<|aa<|ae J<|O<|aX<|cY (σ:=Nat × cF) [0,1] (λs=>s.1<=3/\Dy g (3 - s.1) s.2=some c1/\sy c s.2) (λs kv=>(4,.int .i64 (s.1:Int))::kv) (λs=>vm b bc s.2 p L) (λs=>3 - s.1) ((0,c)) J (⟨dF _,lH,sy.refl c⟩) (al) (dc J) ?_
 rintro ⟨i,ci⟩ ⟨mW,Ca,cX⟩
 dsimp only at mW Ca cX ⊢
 refine ar<|aa<|Y J<|Y J<|aS J<|ao J<|ax J J<|ab J J (bU J J)<|O<|bz J (λf2=> ?_) (λf2=> ?_)
 ·refine az<|ai<|ar<|aX<|ar ?_
  obtain ⟨c2,c3,e3,sc,Kj,sd⟩:=aeq (by omega) Ca
  refine aa<|Y J<|O<|Ae (σ:=Unit) [0,1,4] (λu=>sy c c2) (λu kv=>kv) (λu=>vm b bc c2 p L) J ?_ ?_
  ·refine gF J (λgU=> ?_) (λgU=> ?_)
   ·rw [if_pos gU] at sc
    refine aa<|ae J<|O<|aX<|cY (σ:=Nat × cF) [0,1,4] (λs=>s.1<=3/\BB i (3 - s.1) s.2=some c2/\sy c s.2) (λs kv=>(5,.int .i64 (s.1:Int))::kv) (λs=>vm b bc s.2 p L) (λs=>3 - s.1) ((0,ci)) J (⟨dF _,sc,cX⟩) (al) (dc J) ?_
    rintro ⟨k,ck2⟩ ⟨P5,xA,OK⟩
    dsimp only at P5 xA OK ⊢
    refine ar<|aa<|Y J<|Y J<|aS J<|ao J<|ax J J<|ab J J (bU J J)<|O<|bz J (λkW=> ?_) (λkW=> ?_)
    ·refine az<|ai<|ar<|aX ?_
     obtain ⟨c4,e4,Cb,hg4⟩:=aep (by omega) xA
     exact aQ<|Y J<|aS J<|ao J<|ax J J<|Y J<|Y J<|ab J J (bI J J)<|aV 30 (nZ {kind:=10,node:=(i:Int),at_:=(k:Int)} (none,0)) J<|aP bc<|aB J J (ya (q:=(none,0)) Cb (by intro h; simp at h) dP)<|O<|bA<|ai<|aQ<|Y J<|ab J J (bE J J (by omega))<|cz 23 J<|ae J<|O<|ai<|⟨(k+1,c4),⟨by dsimp only; omega,hg4,OK.next Cb⟩,(by dsimp only; omega),bO J⟩
    refine cw<|aY<|aY<|cu<|ai ?_
    obtain rfl:k=3:=by omega
    obtain rfl:ck2=c2:=ez xA
    exact ⟨(),OK,bO rfl⟩
   refine az<|ai ?_
   rw [if_neg (by rw [gU]; exact Hd)] at sc
   obtain rfl:ci=c2:=ez sc
   exact ⟨(),cX,bO rfl⟩
  intro u Fx
  exact aQ<|Y J<|aS J<|ao J<|ax J J<|Y J<|ab J J (bI J J)<|aV 37 (nZ {kind:=11,node:=(i:Int)} (none,0)) J<|aP bc<|aB J J (ya (q:=(none,0)) Kj (by intro h; simp at h) dP)<|O<|bA<|ai<|aQ<|Y J<|ab J J (bE J J (by omega))<|cz 14 J<|ae J<|O<|ai<|⟨(i+1,c3),⟨by dsimp only; omega,sd,Fx.next Kj⟩,(by dsimp only; omega),bO J⟩
 refine cw<|aY<|aY<|cu<|ai ?_
 obtain rfl:i=3:=by omega
 obtain rfl:ci=c1:=ez Ca
 refine aa<|ae J<|O<|aX<|cY (σ:=Nat × cF) [0] (λs=>s.1<=300/\vl (300 - s.1) s.2=some c'/\sy c s.2) (λs kv=>(6,.int .i64 (s.1:Int))::kv) (λs=>vm b bc s.2 p L) (λs=>300 - s.1) ((0,ci)) J (⟨dF _,Kb,cX⟩) (al) (dc J) ?_
 rintro ⟨n,cn⟩ ⟨Gi,tp,Jo⟩
 dsimp only at Gi tp Jo ⊢
 obtain ⟨g0,mT⟩:∃ g,cn.eB[0]? =some g:=⟨_,cj (by have:=hp.len; have:=Jo.len; omega)⟩
 have vy:=aho mT
 refine ar<|aa<|Y J<|ab J J (bU J J)<|fd 40 J (by omega)<|Y J<|aj J<|Y J<|aj J<|aS J<|aj J<|ao J<|aj J<|ax J J<|aj J<|aP bc<|NX λZ hi=> ?_
 obtain ⟨bg,hz⟩:∃ bg,Z[0]? =some (bg,g0):=by (have h0:=mT; rw [<- hi.sh,e_] at h0; obtain ⟨y,hy,rfl⟩:=iq.1 h0; exact ⟨y.1,hy⟩)
 refine ais hz<|wo 2 J<|wo 1 J ?_
 have tA:(Z.map λz:Nat × cP↦z.1).length<=8:=by (rw [gY]; exact hi.len.2)
 have mZ:(Z.map λz:Nat × cP↦z.1)[0]? =some bg:=by (rw [e_,hz]; rfl)
 refine aJ J J (Yc mZ tA) ?_
 rintro _ _ ⟨GD,GE,rfl,rfl⟩
 refine bX (af0 bc cn Z hi hz)<|aj J<|ab J J (bY J)<|aj J<|ab J J (eE J J)<|aA J<|O<|bz J (λh49=> ?_) (λh49=> ?_)
 ·refine az<|ai<|ar<|aX ?_
  obtain ⟨alv,c5,e5,Cc,hr5⟩:=aes tp (by omega)
  exact aQ<|Y J<|aS J<|ao J<|ax J J<|ab J J (bI J J)<|aV 56 (nZ {kind:=2} (none,0)) J<|aP bc<|aB J J (ya (q:=(none,0)) Cc (by intro h; simp at h) dP)<|O<|bA<|ai<|aQ<|Y J<|ab J J (bE J J (by omega))<|cz 51 J<|ae J<|O<|ai<|⟨(n+1,c5),⟨by dsimp only; omega,hr5,Jo.next Cc⟩,(by dsimp only; omega),bO J⟩
 refine cw<|aY<|aY<|cu ?_
 obtain rfl:=aer tp (by omega)
 exact aF.ay (oo b bc cn p (hp.keep Jo))<|ei J
open Go Go.Proofs Go.Proofs.Tryz
theorem Tk (h:c.eB[0]? =some g):ox c i=(g.nodes[i]?).join:=by
 unfold ox
 cases hs:c.eB with
 | nil=>rw [hs] at h; cases h
 | cons a r=>
  rw [hs] at h
  obtain rfl:a=g:=by simpa using h
  rfl
theorem OL (hi:sw c Z) (h:c.eB[k]? =some g):∃ bg,Z[k]? =some (bg,g):=by
 rw [<- hi.sh,e_] at h
 obtain ⟨y,hy,rfl⟩:=iq.1 h
 exact ⟨y.1,hy⟩
theorem Sl:Fn prog 29 #[bG b,.int .i64 0] (kE b bc c::L) (λv L'=>v=.bool (tR c 0)/\L'=kE b bc c::L):=by
 refine aH func29 J J J J<|aa<|ae J<|O<|sW λp hp=> ?_
 obtain ⟨g0,mT⟩:∃ g,c.eB[0]? =some g:=⟨_,cj (by have:=hp.len; omega)⟩
 refine cQ bc<|BA λZ hi=> ?_
 obtain ⟨bg,hz⟩:=OL hi mT
 refine Dm hz<|ou 2 J<|ou 1 J<|vk λps fG=> ?_
 have tA:(Z.map λz:Nat × cP↦z.1).length<=8:=by (rw [gY]; exact hi.len.2)
 have mZ:(Z.map λz:Nat × cP↦z.1)[0]? =some bg:=by (rw [e_,hz]; rfl)
 obtain ⟨z,iL⟩:∃ z,ps.Z[0]? =some z:=⟨_,cj (by have:=fG.len; omega)⟩
 have G4:ox c 0=z.2.2:=by (rw [Tk mT, <- fG.nodes,e_,iL]; rfl)
 refine C0 iL λew=> ?_
 rcases Tj ew with ⟨bn,bd,s,rfl⟩ | ⟨bd,rfl⟩
 ·exact aa<|Y J<|aS J<|ao J<|ax J J<|Y J<|aB J J (zV mZ tA fG iL)<|ae J<|O<|aa<|Y J<|ab J J (f8 J J (dh.eJ))<|aV 13 (.bool true) J<|Y J<|aj J<|Y J<|aj J<|tO iL<|aB J J (Z6)<|bX (z7 iL)<|aj J<|ab J J (ce J J)<|aA J<|ae J<|O<|av<|aF.ay (yt bc c Z ps hi hz fG)<|aF.ay (oo b bc c p hp)<|aZ J J al (⟨by unfold tR; rw [G4]; rfl,J⟩)
 exact aa<|Y J<|aS J<|ao J<|ax J J<|Y J<|aB J J (zV mZ tA fG iL)<|ae J<|O<|aa<|Y J<|ab J J (f8 J J (dh.eJ))<|aV 13 (.bool false) J<|Y J<|ah J<|ah J<|ah J<|aA J<|ae J<|O<|av<|aF.ay (yt bc c Z ps hi hz fG)<|aF.ay (oo b bc c p hp)<|aZ J J al (⟨by unfold tR; rw [G4],J⟩)
theorem C1 (h:Bb c=true) (hi:i < 3):∃ s,ox c i=some s:=by
 unfold Bb at h
 rw [kc,kc] at h
 match i,hi with
 | 0,_=>exact xS.1 h.1.1
 | 1,_=>exact xS.1 h.1.2
 | 2,_=>exact xS.1 h.2
theorem Sm {s0 si:dD} (hu:Bb c=true) (h0:ox c 0=some s0) (hi:ox c i=some si) (h1:1<=i) (h3:i < 3) (iS:¬ (dK s0.m.ap=dK si.m.ap/\eb s0.m.lr=eb si.m.lr)):yn c=false:=by
 obtain ⟨s1,e1⟩:=C1 hu (show 1 < 3 by decide)
 obtain ⟨s2,e2⟩:=C1 hu (show 2 < 3 by decide)
 unfold yn
 rw [h0,e1,e2]
 dsimp only
 rcases (show i=1\/i=2 by omega) with rfl | rfl
 ·obtain rfl:s1=si:=ez (e1.symm.trans hi)
  by_cases a:dK s0.m.ap=dK s1.m.ap
  ·have b:eb s0.m.lr≠eb s1.m.lr:=λb=>iS ⟨a,b⟩
   simp [b]
  ·simp [a]
 ·obtain rfl:s2=si:=ez (e2.symm.trans hi)
  by_cases a:dK s0.m.ap=dK s2.m.ap
  ·have b:eb s0.m.lr≠eb s2.m.lr:=λb=>iS ⟨a,b⟩
   simp [b]
  ·simp [a]
theorem abp {s0:dD} (hu:Bb c=true) (h0:ox c 0=some s0) (h:∀ j s,1<=j->j < 3->ox c j=some s->dK s0.m.ap=dK s.m.ap/\eb s0.m.lr=eb s.m.lr):yn c=true:=by
 obtain ⟨s1,e1⟩:=C1 hu (show 1 < 3 by decide)
 obtain ⟨s2,e2⟩:=C1 hu (show 2 < 3 by decide)
 obtain ⟨a1,a2⟩:=h 1 s1 (by decide) (by decide) e1
 obtain ⟨b1,b2⟩:=h 2 s2 (by decide) (by decide) e2
 unfold yn
 rw [h0,e1,e2]
 dsimp only
 rw [dV a1,dV a2,dV b1,dV b2]; rfl
set_option maxHeartbeats 4000000 in
theorem aae (hu:Bb c=true):Fn prog 31 #[bG b] (kE b bc c::L) (λv L'=>v=.bool (yn c)/\L'=kE b bc c::L):=by
 refine aH func31 J J J J<|aa<|ae J<|O<|sW λp hp=> ?_
 obtain ⟨g0,mT⟩:∃ g,c.eB[0]? =some g:=⟨_,cj (by have:=hp.len; omega)⟩
 refine cQ bc<|BA λZ hi=> ?_
 obtain ⟨bg,hz⟩:=OL hi mT
 refine Dm hz<|ou 2 J<|ou 1 J<|vk λps fG=> ?_
 have tA:(Z.map λz:Nat × cP↦z.1).length<=8:=by (rw [gY]; exact hi.len.2)
 have mZ:(Z.map λz:Nat × cP↦z.1)[0]? =some bg:=by (rw [e_,hz]; rfl)
 have lE:(ps.Z.length:Int)=3:=by (rw [<- hp.n, <- hi.nodes g0 (eA mT), <- fG.nodes,gY])
 have G4:∀ (i:Nat) z,ps.Z[i]? =some z->ox c i=z.2.2:=λi z iL=>by (rw [Tk mT, <- fG.nodes,e_,iL]; rfl)
 obtain ⟨z0,vG⟩:∃ z,ps.Z[0]? =some z:=⟨_,cj (by omega)⟩
 obtain ⟨s0,xm⟩:=C1 hu (show 0 < 3 by decide)
 refine C0 vG λew=> ?_
 have n5:z0.2.2=some s0:=(G4 0 z0 vG).symm.trans xm
 obtain ⟨bn0,bd0,rfl⟩:=wA n5 (by rw [<- n5]; exact ew)
 refine aa<|Y J<|aS J<|ao J<|ax J J<|aB J J (zV mZ tA fG vG)<|ae J<|O<|ar<|aa<|ae J<|O<|aX<|cY (σ:=Nat) [0,3] (λi=>(1<=i/\i<=3)/\∀ j s,1<=j->j < i->ox c j=some s->dK s0.m.ap=dK s.m.ap/\eb s0.m.lr=eb s.m.lr) (λi kv=>(4,.int .i64 (i:Int))::kv) (λi=>sv bg g0 ps (fX bc c (Z.map λz:Nat × cP↦z.1)::c_ ((Z.map jH).set 0 gP)::cells b (lw bc p.EV p.A p.c p.EN p.A2 p.c2 p.bad) 114::aN bK 49 p.A p.c p.EV::aN jm 158 p.A2 p.c2 p.EN::L)) (λi=>3 - i) (1) J (⟨⟨fo _,by decide⟩,λj s h1 h2=>by omega⟩) (al) (dc J) ?_
 rintro i ⟨⟨tf,mW⟩,eH⟩
 refine ar<|aa<|Y J<|Y J<|aS J<|ao J<|ax J J<|ab J J (bU J J)<|O<|bz J (λeI=> ?_) (λeI=> ?_)
 ·refine az<|ai<|ar<|aX ?_
  obtain ⟨zi,xI⟩:∃ z,ps.Z[i]? =some z:=⟨_,cj (by omega)⟩
  obtain ⟨si,rj⟩:=C1 hu (show i < 3 by omega)
  refine C0 xI λJX=> ?_
  have XK:zi.2.2=some si:=(G4 i zi xI).symm.trans rj
  obtain ⟨bni,bdi,rfl⟩:=wA XK (by rw [<- XK]; exact JX)
  refine aa<|Y J<|aS J<|ao J<|ax J J<|Y J<|bX (show am _ (sv bg g0 ps (fX bc c (Z.map λz:Nat × cP↦z.1)::c_ ((Z.map jH).set 0 gP)::cells b (lw bc p.EV p.A p.c p.EN p.A2 p.c2 p.bad) 114::aN bK 49 p.A p.c p.EV::aN jm 158 p.A2 p.c2 p.EN::L)) from al)<|aB J J (zV mZ tA fG xI)<|ae J<|O<|aa<|Y J<|ab J J (fR J J (dh.eJ))<|aV 26 (.bool false) J<|Y J<|aj J<|Y J<|aj J<|ab J J (fR J J (dh.eJ))<|aV 29 (.bool false) J<|aA J<|Y J<|aj J<|Y J<|aj J<|tO vG<|aJ J J (QH) ?_
  rintro _ _ ⟨Xh,Xi,rfl,rfl⟩
  refine bF<|bX (z7 vG)<|aj J<|Y J<|aj J<|tO xI<|aJ J J (QH) ?_
  rintro _ _ ⟨gM,gN,rfl,rfl⟩
  refine bF<|bX (z7 xI)<|aj J<|aB J J (aau bJ bJ)<|aj J<|ab J J (iF J)<|aA J<|Y J<|dl 39 J (λxF=> ?_) (λxF=> ?_)
  ·exact ah J<|ah J<|ah J<|ah J<|ah J<|ah J<|ah J<|aA J<|O<|cg J<|aa<|ae J<|O<|av<|db<|aU<|aU<|db<|aU<|aF.ay (yt bc c Z ps hi hz fG)<|aF.ay (oo b bc c p hp)<|aZ J J al (⟨by rw [Sm hu xm rj tf (by omega) (λhh=>xF hh.1)],J⟩)
  refine aj J<|Y J<|aj J<|tO vG<|aJ J J (Ks) ?_
  rintro _ _ ⟨iA,iB,amF,⟨rfl,Wz⟩,rfl⟩
  refine bF<|bX (z7 vG)<|aj J<|ab J J (bY J)<|aj J<|Y J<|aj J<|tO xI<|aJ J J (Ks) ?_
  rintro _ _ ⟨A44,c44,amG,⟨rfl,WA⟩,rfl⟩
  refine bF<|bX (z7 xI)<|aj J<|ab J J (bY J)<|aj J<|ab J J (dB J J)<|aA J<|O<|bz J (λui=> ?_) (λui=> ?_)
  ·exact aa<|ae J<|O<|av<|db<|aU<|aU<|db<|aU<|aF.ay (yt bc c Z ps hi hz fG)<|aF.ay (oo b bc c p hp)<|aZ J J al (⟨by rw [Sm hu xm rj tf (by omega) (λhh=>ui (by rw [Wz,WA,hh.2]))],J⟩)
  refine az<|bA<|ai<|aQ<|Y J<|ab J J (bE J J (by omega))<|cz 18 J<|ae J<|O<|ai ?_
  exact ⟨i+1,⟨⟨by omega,by omega⟩,λj s h1 h2 DG=>by (by_cases e:j=i; (subst e; obtain rfl:si=s:=ez (rj.symm.trans DG); exact ⟨eX.1 xF,by (have h9:=eX.1 ui; rw [<- Wz, <- WA]; omega)⟩); exact eH j s h1 (by omega) DG)⟩,(by omega),bO rfl⟩
 exact cw<|aY<|aY<|cu<|ai<|aa<|Y J<|ab J J (f8 J J (dh.eJ))<|aV 49 (.bool true) J<|ae J<|O<|av<|aF.ay (yt bc c Z ps hi hz fG)<|aF.ay (oo b bc c p hp)<|aZ J J al (⟨by rw [abp hu xm (λj s h1 h2 DG↦eH j s h1 (by omega) DG)],J⟩)
open Go Go.Proofs Go.Proofs.Tryz
theorem af1 (hi:i < 3) (h:D7 (3 - i) c=some c'):∃ c2 e2 c3,sR c {kind:=5,node:=(i:Int)}=some (c2,e2)/\sR c2 {kind:=6,node:=(i:Int)}=some (c3,0)/\D7 (3 - (i+1)) c3=some c':=by
 obtain ⟨f,hf⟩:∃ f,3 - i=f+1:=⟨2 - i,by omega⟩
 rw [hf] at h
 unfold D7 at h
 rw [show 2 - f=i by omega] at h
 obtain ⟨⟨c2,e2⟩,h1,h2⟩:=fK.1 h
 obtain ⟨⟨c3,e3⟩,h3,h4⟩:=fK.1 h2
 dsimp only at h3 h4
 split at h4
 ·rename_i he
  subst he
  exact ⟨c2,e2,c3,h1,h3,by rw [show 3 - (i+1)=f by omega]; exact h4⟩
 ·cases h4
theorem af2 {f:Nat} (h:zJ f n c=some c') (hl:tR c 0=true):c=c':=by
 cases f with
 | zero=>cases h
 | succ f=>unfold zJ at h; rw [if_pos hl] at h; exact ez h
theorem af3 (h:zJ (30 - n) n c=some c') (hl:tR c 0=false):n < 30/\∃ c2 c3,(if n % 4=0 then (xN c A_).bind λc=>xN c {kind:=8} else some c)=some c2/\BC true c2=some c3/\zJ (30 - (n+1)) (n+1) c3=some c':=by
 cases hf:30 - n with
 | zero=>rw [hf] at h; cases h
 | succ f=>
  rw [hf] at h
  unfold zJ at h
  rw [if_neg (by rw [hl]; exact Hd)] at h
  obtain ⟨c2,h1,h2⟩:=fK.1 h
  obtain ⟨c3,h3,h4⟩:=fK.1 h2
  exact ⟨by omega,c2,c3,h1,h3,by rw [show 30 - (n+1)=f by omega]; exact h4⟩
theorem af4 (h:D8 (10 - n) n c=some c'):n < 10/\∃ c2 e c3,qg c {kind:=12}=some (c2,e)/\BC true c2=some c3/\Bb c3=true/\(yn c3=true/\1 < n->c3=c')/\(¬ (yn c3=true/\1 < n)->D8 (10 - (n+1)) (n+1) c3=some c'):=by
 cases hf:10 - n with
 | zero=>rw [hf] at h; cases h
 | succ f=>
  rw [hf] at h
  unfold D8 at h
  obtain ⟨c2,h1,h2⟩:=fK.1 h
  obtain ⟨c3,h3,h4⟩:=fK.1 h2
  obtain ⟨e,he⟩:=CM h1
  split at h4
  ·rename_i hu
   refine ⟨by omega,c2,e,c3,he,h3,hu,λhs=> ?_,λhs=> ?_⟩
   ·rw [if_pos hs] at h4; exact ez h4
   ·rw [if_neg hs] at h4; rw [show 10 - (n+1)=f by omega]; exact h4
  ·cases h4
def zK (i:Nat):List Int:=List.replicate i 500++List.replicate (3 - i) 0
theorem UV (h:i < 3):(zK i)[i]? =some 0:=by
 match i,h with
 | 0,_=>rfl
 | 1,_=>rfl
 | 2,_=>rfl
theorem ahp (h:i < 3):(zK i).set i 500=zK (i+1):=by
 match i,h with
 | 0,_=>rfl
 | 1,_=>rfl
 | 2,_=>rfl
theorem ahq (h:i<=3):(zK i).length=3:=by
 match i,h with
 | 0,_=>rfl
 | 1,_=>rfl
 | 2,_=>rfl
 | 3,_=>rfl
set_option maxRecDepth 4000 in
set_option maxHeartbeats 4000000 in
theorem aet (h:XG c=some c'):Fn prog 14 #[bG b,.int .i64 0] (kE b bc c::L) (λv L'=>v=.bool true/\L'=kE b bc c'::L):=by
 obtain ⟨cA,hA,h⟩:=fK.1 h
 obtain ⟨⟨cT,eT⟩,hT,h⟩:=fK.1 h
 dsimp only at h
 split at h
 rotate_left
 ·cases h
 rename_i heT
 subst heT
 obtain ⟨cB,hB,h⟩:=fK.1 h
 obtain ⟨cC,hC,h⟩:=fK.1 h
 obtain ⟨⟨cD,eD⟩,hD,h⟩:=fK.1 h
 dsimp only at h
 split at h
 rotate_left
 ·cases h
 rename_i hlD
 obtain rfl:cD=c':=ez h
 refine aH func14 J J J J<|aa<|ae J<|O<|ar<|aa<|ae J<|O<|aX<|cY (σ:=Nat × cF) [0,1] (λs=>s.1<=3/\D7 (3 - s.1) s.2=some cA) (λs kv=>(5,.int .i64 (s.1:Int))::kv) (λs=>kE b bc s.2::L) (λs=>3 - s.1) ((0,c)) J (⟨dF _,hA⟩) (al) (dc J) ?_
 rintro ⟨i,ci⟩ ⟨mW,Ca⟩
 dsimp only at mW Ca ⊢
 refine ar<|sW λp hp=>aa<|Y J<|Y J<|aS J<|ao J<|ax J J<|ab J J (bU J J)<|O<|bz J (λgU=> ?_) (λgU=> ?_)
 ·refine b_ (oo b bc ci p hp)<|az<|ai<|ar<|aX ?_
  obtain ⟨c2,e2,c3,BK,Kj,sd⟩:=af1 (by omega) Ca
  exact aa<|Y J<|Y J<|ab J J (bI J J)<|aV 20 (nZ {kind:=5,node:=(i:Int)} (none,0)) J<|aB J J (z2 (q:=(none,0)) BK (by intro h; simp at h) dP)<|O<|aa<|Y J<|Y J<|ab J J (bI J J)<|aV 24 (nZ {kind:=6,node:=(i:Int)} (none,0)) J<|aB J J (z2 (q:=(none,0)) Kj (by intro h; simp at h) dP)<|ab J J (dB J J)<|br 26 (v':=.bool false) J (bi Value.bool (by decide))<|O<|aT J<|az<|bA<|ai<|aQ<|Y J<|ab J J (bE J J (by omega))<|cz 17 J<|ae J<|O<|ai<|⟨(i+1,c3),⟨by dsimp only; omega,sd⟩,(by dsimp only; omega),bO J⟩
 refine b_ (oo b bc ci p hp)<|cw<|aY<|aY<|cu<|ai ?_
 obtain rfl:i=3:=by omega
 obtain rfl:ci=cA:=ez Ca
 refine sW λp hp=>aa<|Y J<|aS J<|ao J<|ax J J<|wq (aI .i64) 0 (m:=3) (k:=3) J J J (fo _) (by decide) (by decide) J J J (λ_=>⟨J,da (by decide)⟩) λmw=>aV 31 (.slice (some ⟨mw,0,none⟩) 3 3) J ?_
 rw [show List.replicate 3 (0:Int)=zK 0 from rfl]
 refine ae J<|O<|ar<|aa<|ae J<|O<|aX<|cY (σ:=Nat) [0,1,6] (λi=>i<=3) (λi kv=>(7,.int .i64 (i:Int))::kv) (λi=>aN (aI .i64) 3 (some ⟨mw,0,none⟩) 3 (zK i)::vm b bc ci p L) (λi=>3 - i) (0) J (dF _) (al) (dc J) λi hi=>ar<|aa<|Y J<|Y J<|aS J<|ao J<|ax J J<|ab J J (bU J J)<|O<|bz J (λlG=> ?_) (λlG=> ?_)
 ·refine az<|ai<|ar<|aX<|aQ<|Y J<|Y J<|ab J J (pS (R:=aI .i64) (xs:=zK i) J J (ahq hi).symm (UV (by omega)))<|z_ (A:=some ⟨mw,0,none⟩) (c:=3) (UV (i:=i) (by omega)) λg2 l2 DS n3=> ?_
  obtain ⟨rfl⟩:g2=mw:=by cases DS; rfl
  obtain ⟨lv,rfl⟩:=wt n3
  refine fc J J J J J J<|jK (R:=aI .i64) mw (500:Int) (bV.const λ_=>⟨J,da (by decide)⟩) ?_
  rw [ahp (by omega)]
  refine O<|bA<|ai<|aQ<|Y J<|ab J J (bE J J (by omega))<|cz 39 J<|ae J<|O<|ai ?_
  exact ⟨i+1,(show i+1<=3 by omega),(by omega),bO rfl⟩
 refine cw<|aY<|aY<|cu<|ai<|ar ?_
 obtain rfl:i=3:=by omega
 refine uF ?_
 rw [show zK 3=[500,500,500] from rfl]
 refine b_ (oo b bc ci p hp)<|aa<|Y J<|Y J<|ab J J (bI J J)<|aV 45 (nZ A_ (some ⟨mw,0,none⟩,3)) J<|aB J J (z2 (x:=A_) (q:=(some ⟨mw,0,none⟩,3)) hT (by intro h; simp at h) slk)<|ab J J (dB J J)<|br 47 (v':=.bool false) J (bi Value.bool (by decide))<|O<|aT J<|az<|ai<|ar<|aa<|ae J<|O<|aX<|cY (σ:=Nat × cF) [0,1,6] (λs=>s.1<=30/\zJ (30 - s.1) s.1 s.2=some cB) (λs kv=>(8,.int .i64 (s.1:Int))::kv) (λs=>kE b bc s.2::sl (aI .i64) (some ⟨mw,0,none⟩) 3 [500,500,500]::L) (λs=>30 - s.1) ((0,cT)) J (⟨dF _,hB⟩) (al) (dc J) ?_
 rintro ⟨n,cn⟩ ⟨hn,Qk⟩
 dsimp only at hn Qk ⊢
 refine ar<|aa<|Y J<|ab J J (bU J J)<|fd 49 J (by omega)<|Y J<|aj J<|Y J<|aj J<|Y J<|aj J<|aB J J (Sl)<|aj J<|ab J J (ff J)<|aA J<|O<|gF J (λuw=> ?_) (λuw=> ?_)
 ·refine az<|ai<|ar<|aX<|ar ?_
  have PB:tR cn 0=false:=by (cases hq:tR cn 0; rfl; (rw [hq] at uw; cases uw))
  obtain ⟨amH,c2,c3,sc,sd,hb3⟩:=af3 Qk PB
  refine aa<|Y J<|ab J J (AC J J (by decide))<|aV 59 (.int .i64 ((n % 4:Nat):Int)) J<|ab J J (ce J J)<|O<|Ae (σ:=Unit) [0,1,6,8] (λu=>True) (λu kv=>kv) (λu=>kE b bc c2::sl (aI .i64) (some ⟨mw,0,none⟩) 3 [500,500,500]::L) J ?_ ?_
  ·refine bz J (λQl=> ?_) (λQl=> ?_)
   ·rw [if_pos (by omega)] at sc
    obtain ⟨c4,Cb,Cc⟩:=fK.1 sc
    obtain ⟨e4,Cb⟩:=CM Cb
    obtain ⟨e5,Cc⟩:=CM Cc
    exact sW λp hp=>aa<|Y J<|aS J<|ao J<|ax J J<|Y J<|ab J J (bI J J)<|aV 66 (nZ A_ (some ⟨mw,0,none⟩,3)) J<|aP bc<|aB J J (ya (x:=A_) (q:=(some ⟨mw,0,none⟩,3)) Cb (by intro h; simp at h) slk)<|O<|aQ<|Y J<|aS J<|ao J<|ax J J<|Y J<|ab J J (bI J J)<|aV 73 (nZ {kind:=8} (none,0)) J<|aP bc<|aB J J (ya (q:=(none,0)) Cc (by intro h; simp at h) dP)<|O<|ai<|⟨(),trivial,iY (dC J (dC J (dC J (dC J (iM))))) ((oo b bc c2 p (hp.keep (((sy.refl _).next Cb).next Cc))).trans al)⟩
   refine az<|ai ?_
   rw [if_neg (by omega)] at sc
   obtain rfl:cn=c2:=ez sc
   exact ⟨(),trivial,bO rfl⟩
  intro u tn
  exact aQ<|Y J<|aB J J (Lu sd)<|O<|bA<|ai<|aQ<|Y J<|ab J J (bE J J (by omega))<|cz 57 J<|ae J<|O<|ai<|⟨(n+1,c3),⟨by dsimp only; omega,hb3⟩,(by dsimp only; omega),bO J⟩
 refine cw<|aY<|aY<|cu<|ai<|ar ?_
 have cL:tR cn 0=true:=by (cases hq:tR cn 0; (rw [hq] at uw; cases uw); rfl)
 obtain rfl:=af2 Qk cL
 refine aa<|ae J<|O<|aX<|cY (σ:=Nat × cF) [0,1] (λs=>s.1<=10/\D8 (10 - s.1) s.1 s.2=some cC) (λs kv=>(9,.int .i64 (s.1:Int))::kv) (λs=>kE b bc s.2::L) (λs=>10 - s.1) ((0,cn)) J (⟨dF _,hC⟩) (al) (dc J) ?_
 rintro ⟨m,cm⟩ ⟨hm,B5⟩
 dsimp only at hm B5 ⊢
 obtain ⟨amI,c6,e6,c7,XL,PY,hu7,zz,Kg⟩:=af4 B5
 refine ar<|aa<|Y J<|ab J J (bU J J)<|fd 78 J (by omega)<|O<|cg J<|az<|ai<|ar<|aX<|sW λp hp=>aa<|Y J<|aS J<|ao J<|ax J J<|Y J<|ab J J (bI J J)<|aV 86 (nZ {kind:=12} (none,0)) J<|aP bc<|aB J J (ya (q:=(none,0)) XL (by intro h; simp at h) dP)<|bX (oo b bc c6 p (hp.keep ((sy.refl _).next XL)))<|O<|aa<|Y J<|aB J J (Lu PY)<|O<|aa<|Y J<|aB J J (aae hu7)<|Y J<|nH 92 J (λQm=> ?_) (λQm=> ?_)
 ·refine aj J<|Y J<|aj J<|ab J J (eE J J)<|aA J<|O<|bz J (λXM=> ?_) (λXM=> ?_)
  ·refine cw<|z9 J<|aY<|aY<|cu<|ai ?_
   obtain rfl:=zz ⟨Qm,by omega⟩
   refine sW λp hp=>aa<|Y J<|Y J<|aS J<|ao J<|ax J J<|wq (aI .i64) 0 (m:=3) (k:=3) J J J (fo _) (by decide) (by decide) J J J (λ_=>⟨J,da (by decide)⟩) λWB=>bF ?_
   rw [show List.replicate 3 (0:Int)=[0,0,0] from rfl]
   exact ab J J (bI J J)<|aV 102 (nZ Ba (some ⟨WB,0,none⟩,3)) J<|bX (oo b bc c7 p hp)<|aB J J (z2 (x:=Ba) (q:=(some ⟨WB,0,none⟩,3)) hD (by intro h; simp at h) slk)<|O<|aa<|Y J<|Y J<|aB J J (Sl)<|ae J<|O<|av<|aZ J J al (⟨by rw [hlD],J⟩)
  exact az<|bA<|ai<|aQ<|Y J<|ab J J (bE J J (by omega))<|cz 80 J<|ae J<|O<|ai<|⟨⟨m+1,c7⟩,⟨by dsimp only; omega,Kg (λhh=>XM (by have:=hh.2; omega))⟩,(by dsimp only; omega),bO J⟩
 refine ah J<|ah J<|aA J<|O<|aT J<|az<|bA<|ai<|aQ<|Y J<|ab J J (bE J J (by omega))<|cz 80 J<|ae J<|O<|ai ?_
 exact ⟨⟨m+1,c7⟩,⟨by dsimp only; omega,Kg (λhh=>by (rw [Qm] at hh; exact Hd hh.1))⟩,(by dsimp only; omega),bO rfl⟩
open Go Go.Proofs Go.Proofs.Tryz
variable{oN:Int}
theorem aeu {l:List lu} {j:Nat} {t:lu} (ht:l[j]? =some t) (h1:t.dR.id=oN/\t.dR.err=0) (h2:∀ (m:Nat) (u:lu),j+1<=m->l[m]? =some u->¬ (u.dR.id=oN/\u.dR.err=0)):AB oN l=some t:=by
 obtain ⟨hj,he⟩:=dX.1 ht
 have e:l=l.take j++t::l.drop (j+1):=by rw [<- he,List.getElem_cons_drop,qE]
 have hn:((l.drop (j+1)).reverse.find? λt=>decide (t.dR.id=oN) && decide (t.dR.err=0))=none:=by
  rw [vR]
  intro u hu
  obtain ⟨m,hm⟩:=od (List.mem_reverse.1 hu)
  rw [qF] at hm
  have:=h2 (j+1+m) u (by omega) hm
  simpa using this
 unfold AB
 rw [e,List.reverse_append,List.reverse_cons,fh,List.find?_append,hn]
 simp [h1.1,h1.2]
theorem abq {l:List lu} (h:∀ (m:Nat) (u:lu),l[m]? =some u->¬ (u.dR.id=oN/\u.dR.err=0)):AB oN l=none:=by
 unfold AB
 rw [vR]
 intro u hu
 obtain ⟨m,hm⟩:=od (List.mem_reverse.1 hu)
 have:=h m u hm
 simpa using this
theorem aev {a:mJ} (h:Dz oN (8 - n) c=some (c',a)):n < 8/\∃ c2,BC false c=some c2/\c2.told.length<=1000000/\(c2.told.all Fd)=true/\(∀ t,AB oN c2.told=some t->∃ e,sR c2 Ba=some (c',e)/\t.dR=a)/\(AB oN c2.told=none->Dz oN (8 - (n+1)) c2=some (c',a)):=by
 cases hf:8 - n with
 | zero=>rw [hf] at h; cases h
 | succ f=>
  rw [hf] at h
  unfold Dz at h
  obtain ⟨c2,h1,h2⟩:=fK.1 h
  split at h2
  ·rename_i hc
   refine ⟨by omega,c2,h1,hc.1,hc.2,λt ht=> ?_,λht=> ?_⟩
   ·rw [ht] at h2
    obtain ⟨r,hr,hq⟩:=iq.1 h2
    obtain ⟨rfl,rfl⟩:=jY hq
    exact ⟨r.2,hr,rfl⟩
   ·rw [ht] at h2
    rw [show 8 - (n+1)=f by omega]; exact h2
  ·cases h2
theorem Sn (h:sR c x=some (c',e)):0<=c.steps/\c.steps < 999999:=by
 obtain ⟨⟨c2,e2⟩,hd,hr⟩:=fK.1 h
 exact (MJ hd).2.2.2
set_option maxRecDepth 4000 in
set_option maxHeartbeats 4000000 in
theorem Zb {a:mJ} {aK cV:ByteArray} (h:Wx c aK cV=some (c',a)) (Qj:aK.size<=cE) (uo:cV.size<=cE):Fn prog 16 #[bG b,.int .i64 0,.string aK,.string cV] (kE b bc c::L) (λv L'=>∃ p:jw,(v=.tuple #[OF a p,.bool true]/\Ft a.my p.xs)/\L'=sl kP p.l.1 p.l.2 p.xs::kE b bc c'::L):=by
 obtain ⟨⟨c1,e1⟩,mK,fg⟩:=fK.1 h
 dsimp only at fg
 obtain ⟨alm,aln⟩:=Sn mK
 refine aH func16 J J J J<|aa<|bB J J λb8=>ae J<|O<|ar<|aa<|ae J<|O<|aX<|cY (σ:=Nat) [0,1,2,3,8] (λs=>s=0) (λs kv=>(10,.int .i64 (s:Int))::kv) (λs=>cells b8 (vj F0 AR) 66::kE b bc c::L) (λs=>0) (0) J (J) ((show am (cells b8 (vj F0 AR) 66::kE b bc c::L) _ from al)) (dc J) ?_
 rintro s rfl
 refine ar<|aa<|Y J<|ab J J (bU J J)<|br 16 (v':=.bool true) J (bi Value.bool (by decide))<|O<|cg J<|az<|ai<|ar<|aX<|aa<|Y J<|Y J<|Y J<|Y J<|ab J J (bI J J)<|ab J J (bI J J)<|aV 24 (nZ {kind:=1,call:=⟨0,3,aK,⟨#[]⟩,0,false,cV⟩} (none,0)) J<|aP b<|aB J J (z2 (q:=(none,0)) mK (λ_↦show nO ⟨c.steps+1,3,aK,⟨#[]⟩,0,false,cV⟩ from ⟨da (by dsimp only; omega),da (by dsimp only; decide),Qj,(by dsimp only; decide),da (by dsimp only; decide),uo⟩) dP)<|O<|sW λp hp=>aa<|Y J<|aS J<|ao J<|ax J J<|aP bc<|aB J J (QS)<|bX (oo b bc c1 p hp)<|ae J<|O<|aa<|ae J<|O<|aX<|cY (σ:=Nat × cF) [0,1,2,3,8,10,11] (λs=>s.1<=8/\Dz c1.steps (8 - s.1) s.2=some (c',a)) (λs kv=>(12,.int .i64 (s.1:Int))::kv) (λs=>kE b bc s.2::cells b8 (vj F0 AR) 66::L) (λs=>8 - s.1) ((0,c1)) J (⟨dF _,fg⟩) (al) (dc J) ?_
 rintro ⟨n,cn⟩ ⟨Qh,qA⟩
 dsimp only at Qh qA ⊢
 obtain ⟨hn,c2,tr,mn,zk,alo,jX⟩:=aev qA
 refine ar<|aa<|Y J<|ab J J (bU J J)<|fd 32 J (by omega)<|O<|cg J<|az<|ai<|ar<|aX<|aa<|Y J<|aB J J (Lu tr)<|O<|sW λp hp=>aa<|Y J<|aS J<|ao J<|ax J J<|aP bc<|NX λZ hi=>aJ J J (aad (by rw [gY]; exact hi.len.1) mn zk) ?_
 rintro _ _ ⟨iA,iB,rfl,rfl⟩
 refine bF<|bX (CL bc c2 Z hi)<|bX (oo b bc c2 p hp)<|ae J<|O<|aa<|Y J<|ab J J (bY J)<|ab J J (jb J J (by omega))<|ae J<|O<|aX<|cY (σ:=Nat) [0,1,2,3,8,10,11,12,13] (λj=>j<=c2.told.length/\∀ m u,j<=m->c2.told[m]? =some u->¬ (u.dR.id=c1.steps/\u.dR.err=0)) (λj kv=>(14,.int .i64 ((j:Int) - 1))::kv) (λj=>kE b bc c2::sl eu iA iB c2.told::cells b8 (vj F0 AR) 66::L) (λj=>j) (c2.told.length) J (⟨fo _,λm u h1 h2=>absurd (dX.1 h2).1 (by omega)⟩) (al) (dc J) ?_
 rintro j ⟨kB,zg⟩
 refine ar<|aa<|Y J<|ab J J (eV J J)<|O<|bz J (λG3=> ?_) (λG3=> ?_)
 ·refine az<|ai<|ar<|aX ?_
  obtain ⟨jj,rfl⟩:∃ jj,j=jj+1:=⟨j - 1,by omega⟩
  obtain ⟨t,ht⟩:∃ t,c2.told[jj]? =some t:=⟨_,cj (by omega)⟩
  refine N6 (slk (A:=iA) (c:=iB)) ht λbq oq lq ux=>N8 λpq G2=> ?_
  simp only [IZ,dL,dm]
  refine ou 2 J<|CZ λjp=>aa<|Y J<|Y J<|br 50 (v':=.int .i64 (jj:Int)) J (bi (Value.int .i64) (by omega))<|ab J J (qK J J (by omega) ux)<|ab J J (cp J)<|ab J J (cp J)<|ab J J (rG J J)<|Y J<|ab J J (ce J J)<|Y J<|dl 57 J (λQn=> ?_) (λQn=> ?_)
  ·refine aj J<|Y J<|aj J<|Y J<|br 59 (v':=.int .i64 (jj:Int)) J (bi (Value.int .i64) (by omega))<|aj J<|ab J J (qK J J (by omega) ux)<|aj J<|ab J J (cp J)<|aj J<|ab J J (cp J)<|aj J<|ab J J (rG J J)<|aj J<|ab J J (ce J J)<|aA J<|O<|bz J (λGW=> ?_) (λGW=> ?_)
   ·obtain ⟨e9,hd9,ha9⟩:=alo t (aeu ht ⟨Qn,GW⟩ zg)
    refine cQ b<|sW λp2 D2=>aa<|Y J<|Y J<|aS J<|ao J<|ax J J<|wq (aI .i64) 0 (m:=3) (k:=3) J J J (fo _) (by decide) (by decide) J J J (λ_=>⟨J,da (by decide)⟩) λXN=>bF ?_
    rw [show List.replicate 3 (0:Int)=[0,0,0] from rfl]
    refine ab J J (bI J J)<|aV 72 (nZ Ba (some ⟨XN,0,none⟩,3)) J<|bX (oo b bc c2 p2 D2)<|aB J J (z2 (x:=Ba) (q:=(some ⟨XN,0,none⟩,3)) hd9 (by intro h; simp at h) slk)<|O<|aa<|Y J<|Y J<|br 75 (v':=.int .i64 (jj:Int)) J (bi (Value.int .i64) (by omega))<|ab J J (qK J J (by omega) ux)<|ab J J (cp J)<|ab J J (uD (vs:=vj t.dR pq) J J)<|aE J J<|ae J<|O<|av<|db<|aU<|aU<|db<|db<|aU<|aU<|db<|db<|aU<|aU<|db<|aU ?_
    subst ha9
    exact kK (.inl rfl) rfl (bf.agg rfl rfl) (bf.tmp rfl) bu.g (⟨pq,⟨rfl,jp⟩,rfl⟩)
   refine az<|bA<|ai<|aQ<|Y J<|ab J J (jb J J (by omega))<|br 48 (v':=.int .i64 ((jj:Int) - 1)) J (bi (Value.int .i64) (by omega))<|ae J<|O<|ai ?_
   exact ⟨jj,⟨by omega,λm u h1 h2=>by (by_cases e:m=jj; (subst e; obtain rfl:t=u:=ez (ht.symm.trans h2); exact λhh=>GW hh.2); exact zg m u (by omega) h2)⟩,(by omega),bO rfl⟩
  refine ah J<|ah J<|ah J<|ah J<|ah J<|ah J<|ah J<|aA J<|O<|aT J<|az<|bA<|ai<|aQ<|Y J<|ab J J (jb J J (by omega))<|br 48 (v':=.int .i64 ((jj:Int) - 1)) J (bi (Value.int .i64) (by omega))<|ae J<|O<|ai ?_
  exact ⟨jj,⟨by omega,λm u h1 h2=>by (by_cases e:m=jj; (subst e; obtain rfl:t=u:=ez (ht.symm.trans h2); exact λhh=>Qn hh.1); exact zg m u (by omega) h2)⟩,(by omega),bO rfl⟩
 exact cw<|aY<|aY<|cu<|bA<|ai<|aQ<|Y J<|ab J J (bE J J (by omega))<|cz 34 J<|ae J<|O<|ai<|⟨(n+1,c2),⟨by dsimp only; omega,jX (abq λm u hm=>zg m u (by omega) hm)⟩,(by dsimp only; omega),bO J⟩
set_option maxRecDepth 4000 in
set_option maxHeartbeats 4000000 in
theorem Zc (L:List HP):Fn prog 6 #[] L (λv L'=>v=.bool true/\L'=L):=by
 obtain ⟨⟨c',a⟩,PZ,VQ⟩:=iq.1 aiz
 dsimp only at VQ
 obtain ⟨c1,hh,h⟩:=fK.1 PZ
 obtain ⟨⟨c2,e2⟩,BK,zp⟩:=fK.1 h
 dsimp only at zp
 obtain ⟨alm,aln⟩:=Sn BK
 refine aH func6 J J J J<|aa<|ae J<|O<|aa<|aJ J J (abo _) ?_
 rintro _ _ ⟨b4,bc,rfl,rfl⟩
 refine ae J<|O<|ar<|aa<|Y J<|ab J J (fR J J (dh.eJ))<|aV 6 (.bool false) J<|Y J<|aj J<|Y J<|aj J<|aB J J (aet hh)<|aV 9 (.bool true) J<|aj J<|ab J J (df J)<|aA J<|O<|aT J<|az<|ai<|aa<|Y J<|ab J J (bI J J)<|ab J J (bI J J)<|aV 14 (nZ {kind:=1,call:=⟨0,1,Dw,IY,2,false,⟨#[]⟩⟩} (none,0)) J<|aB J J (z2 (q:=(none,0)) BK (λ_↦show nO ⟨c1.steps+1,1,Dw,IY,2,false,⟨#[]⟩⟩ from ⟨da (by dsimp only; omega),da (by dsimp only; decide),(by dsimp only; decide),(by dsimp only; decide),da (by dsimp only; decide),(by dsimp only; decide)⟩) dP)<|O<|aa<|Y J<|aJ J J (Zb zp (by decide) (by decide)) ?_
 rintro _ _ ⟨pq,⟨rfl,jp⟩,rfl⟩
 refine Y J<|ab J J (aO J J)<|ab J J (aO J J)<|aV 20 (.bool true) J<|bB J J λb2=>aE J J<|ae J<|O ?_
 obtain ⟨DI,k,rk⟩:=abn VQ jp
 obtain ⟨⟨lA,lc⟩,xs,po,pv⟩:=pq
 dsimp only at rk
 subst rk
 refine gr (bJ (A:=lA) (c:=lc) (R:=kP)) (u:=(k,(2:Int))) (j:=0) J λbl ol el=> ?_
 subst el
 exact aa<|Y J<|Y J<|aj J<|ao J<|aj J<|ao J<|aj J<|ax J J<|aj J<|ab J J (ce J J)<|fd 26 J DI<|aA J<|Y J<|aj J<|ao J<|aj J<|ax J J<|aj J<|ab J J (bY J)<|aj J<|ab J J (ce J J)<|aV 32 (.bool true) J<|aA J<|Y J<|aj J<|ao J<|aj J<|ax J J<|aj J<|ab J J (iX (R:=kP) (xs:=[(k,(2:Int))]) J J J J)<|aj J<|ab J J (cp J)<|aj J<|ab J J (gi (R:=kP) (c:=lc) (xs:=[(k,(2:Int))]) J bJ J J)<|aj J<|ab J J (ce J J)<|aV 40 (.bool true) J<|aA J<|ae J<|O<|av<|cI J J
open Go
def lY:Nat->List Int
 | 0=>[]
 | m+1=>[((m+1:Nat):Int)]
theorem Lv (m:Nat):dK (lY m)=lY m:=by
 cases m with
 | zero=>rfl
 | succ m=>unfold lY dK; rw [if_neg (λh=>by have:=h.2; omega)]; rfl
theorem M5 (m:Nat):l7 (lY m) 0=(m:Int):=by
 cases m with
 | zero=>rfl
 | succ m=>simp [lY,l7]
theorem T' (m:Nat):nl (lY m)=m:=by
 cases m with
 | zero=>rfl
 | succ m=>simp [lY,nl]
theorem Ua (m:Nat):(lY m).length<=1:=by cases m <;> simp [lY]
theorem ahr (m:Nat):dK (qv (lY m) 0 ((m:Int)+1))=lY (m+1):=by
 have h:qv (lY m) 0 ((m:Int)+1)=lY (m+1):=by
  cases m with
  | zero=>rfl
  | succ m=>simp [lY,qv]
 rw [h,Lv]
theorem af5 (m:Nat) (h:m<=60):pz (lY m):=by
 cases m with
 | zero=>exact ⟨by simp [lY],by simp [lY],rfl⟩
 | succ m=>
  refine ⟨λn hn=> ?_,by simp [lY], ?_⟩
  ·simp only [lY,o0] at hn; subst hn; exact ⟨by omega,by omega⟩
  ·simp [lY,kJ]; omega
theorem acX (a:List Int):mb a a=true:=by simp [mb]
structure ri (k n i:Nat) (s:dD):Prop where
 waits:s.waits=[]
 id:s.m.id=0
 km:s.m.km<=i
 size:s.m.size<=1000 * i
 held:s.m.held.length<=i
 fu:s.m.fu=[]
 os:s.m.sm.os=[]
 lead:jL s.m=false
 G5:∃ L:List aW,s.m.by_=L::List.replicate 6 []/\s.m.ap=lY L.length/\L.length<=i/\∀ e∈L,nf e.aK n=k
theorem ri.more (h:ri k n i s):ri k n (i+1) s:=
 ⟨h.waits,h.id,Ed h.km,by have:=h.size; omega,Ed h.held,h.fu,h.os,h.lead,by obtain ⟨L,a,b,c,d⟩:=h.G5; exact ⟨L,a,b,Ed c,d⟩⟩
theorem ri.out (h:ri k n i s) (hi:i < 60) (o:jl):∃ m,mj s.m o=some m/\ri k n (i+1) ⟨m,s.waits⟩:=by
 have hh:=h.held
 refine ⟨{s.m with held:=s.m.held++[o]},by unfold mj; rw [if_pos (by omega)],h.waits,h.id,Ed h.km,by have:=h.size; dsimp only; omega,by simp; omega,h.fu,h.os,h.lead, ?_⟩
 obtain ⟨L,a,b,c,d⟩:=h.G5
 exact ⟨L,a,b,Ed c,d⟩
theorem ri.update (h:ri k n i s) (hi:i < 60) (c:il) (hc:nf c.aK n=k) (hm:fy c.aK/\fy c.di/\0<=c.eZ/\c.eZ<=1000):∃ s',Am s c=some s'/\ri k n (i+1) s':=by
 obtain ⟨L,ic,pH,hL,rz⟩:=h.G5
 have dt:=hm.1.2.2
 have eF:=hm.2.1.2.2
 have he:fJ s.m c=⟨(0,(L.length:Int)+1),lY L.length,c.aK,0,c.di,c.eZ,c.jy⟩:=by
  unfold fJ
  rw [h.id,pH,Lv,M5,h.fu]; rfl
 have hr:nb (fJ s.m c):=by
  rw [he]
  exact ⟨⟨qJ 0,show (0:Int)<=6 by decide⟩,⟨show (0:Int)<=(L.length:Int)+1 by omega,show (L.length:Int)+1<=2147483647 by omega⟩,af5 _ (by omega),hm.1,⟨qJ 0,show (0:Int)<=2147483647 by decide⟩,hm.2.1,hm.2.2⟩
 have J':pm (fJ s.m c)<=174:=by
  rw [he]; unfold pm
  have:=Ua L.length
  dsimp only; omega
 have zt:=(RO (fJ s.m c) ([],false)).2
 have hw:=LG (e:=fJ s.m c) (s:=([],false)) rfl hr
 have GS:(iZ (fJ s.m c) ([],false)).1.length<=174:=by simp only [ej] at zt; omega
 have XO:j7 (iZ (fJ s.m c) ([],false))=0:=by
  unfold j7
  rw [if_neg (by rw [hw]; exact Hd),if_neg (by omega)]
 have hoB:(f' (iZ (fJ s.m c) ([],false))).length<=174:=by
  unfold f'
  split
  ·simp
  ·exact GS
 have cX:kj (fJ s.m c):=by
  rw [he]
  have h1:=hm.2.2
  have h2:=Ua L.length
  refine ⟨?_, ?_, ?_, ?_, ?_, ?_, ?_⟩ <;> simp [bP,IntKind.min,IntKind.max,cE,IntKind.signed,IntKind.bits] <;> omega
 obtain ⟨m1,e1,N1⟩:∃ m1,q_ s.m (f' (iZ (fJ s.m c) ([],false))).length=some m1/\m1={s.m with km:=s.m.km+1,size:=s.m.size+((f' (iZ (fJ s.m c) ([],false))).length+1)+40}:=by
  have g1:=h.km
  have g2:=h.size
  exact ⟨_,by unfold q_; rw [if_pos (by omega)],rfl⟩
 have alp:t_ (fJ s.m c):=by
  refine ⟨XO, ?_, ?_⟩
  ·rw [he]; dsimp only; omega
  ·rw [he]; dsimp only; rw [M5]; omega
 have alq:wz m1.ap (fJ s.m c):=by
  rw [N1]
  unfold wz
  dsimp only
  rw [he,pH]
  exact ⟨by dsimp only; rw [M5],acX _⟩
 have ia:(L::List.replicate 6 ([]:List aW)).flatten=L:=by simp
 have qt:wP m1 (fJ s.m c)=some {m1 with by_:=ky m1.by_ (fJ s.m c),ap:=ln m1.ap (fJ s.m c)}:=by
  unfold wP
  rw [if_pos ⟨alp,alq,by rw [N1]; dsimp only; rw [pH,T']; omega,by rw [N1]; dsimp only; rw [ic,ia]; omega⟩]
 have yQ:∀ o,mj {m1 with by_:=ky m1.by_ (fJ s.m c),ap:=ln m1.ap (fJ s.m c)} o=some {m1 with by_:=ky m1.by_ (fJ s.m c),ap:=ln m1.ap (fJ s.m c),held:=m1.held++[o]}:=λo=>by
  unfold mj
  have:=h.held
  rw [if_pos (by rw [N1]; dsimp only; omega)]
 refine ⟨⟨{m1 with by_:=ky m1.by_ (fJ s.m c),ap:=ln m1.ap (fJ s.m c),held:=m1.held++[.dR {kn {m1 with by_:=ky m1.by_ (fJ s.m c),ap:=ln m1.ap (fJ s.m c)} c with dot:=(fJ s.m c).dot}]},s.waits⟩, ?_, ?_⟩
 ·unfold Am
  rw [if_neg (λg=> ?_)]
  ·rw [e1,xU,qt,xU,yQ,xU]
   unfold ph
   rw [h.waits]
  ·rcases g with g | g
   ·rw [pH,Lv,T'] at g; omega
   ·exact g ⟨cX,by unfold nY; omega,XO⟩
 ·have g1:=h.km
  have g2:=h.size
  have g3:=h.held
  subst N1
  refine ⟨h.waits,h.id,by dsimp only; omega,by dsimp only; omega,by simp; omega,h.fu,h.os,h.lead,L++[fJ s.m c], ?_, ?_,by simp; omega,λe hx=> ?_⟩
  ·dsimp only
   unfold ky
   rw [ic,he]; rfl
  ·dsimp only
   unfold ln
   rw [pH,eQ,Ce, <- ahr,he]; rfl
  ·rcases gD.1 hx with hx | hx
   ·exact rz e hx
   ·obtain rfl:=o0.1 hx
    exact hc
theorem ri.call (h:ri k n i s) (hi:i < 60) (c:il) (hc:nf c.aK n=k):∃ s' e,wQ s c=some (s',e)/\ri k n (i+1) s':=by
 by_cases hm:Al c
 ·have hl:=h.lead
  unfold wQ
  rw [if_neg (not_not_intro hm)]
  by_cases h1:c.kind=1
  ·obtain ⟨s',e,hn⟩:=h.update hi c hc (by
    rcases hm with ⟨_,a,b,d,e⟩ | ⟨a,_⟩ | ⟨a,_⟩
    ·exact ⟨a,b,d,e⟩
    ·omega
    ·omega)
   exact ⟨s',0,by rw [if_pos h1,e]; rfl,hn⟩
  ·rw [if_neg h1]
   by_cases h2:c.kind=2
   ·obtain ⟨m,e,hn⟩:=h.out hi (.dR {kn s.m c with my:=some (rT (yL s.m c.aK) s.m.fu,c.aK)})
    exact ⟨_,0,by rw [if_pos h2,e]; rfl,hn⟩
   ·rw [if_neg h2]
    have ho:lU s.m.sm.os c.cV=none:=by rw [h.os]; rfl
    by_cases h3:c.kind=3
    ·obtain ⟨m,e,hn⟩:=h.out hi (.dR {kn s.m c with err:=4})
     refine ⟨_,0, ?_,hn⟩
     rw [if_pos h3]
     unfold CD tN
     rw [ho,xU,if_neg (by simp)]
     dsimp only
     rw [ho,if_neg (by simp),if_pos hl]
     unfold yK
     rw [e]; rfl
    ·obtain ⟨m,e,hn⟩:=h.out hi (.dR {kn s.m c with err:=4})
     refine ⟨_,0, ?_,hn⟩
     rw [if_neg h3,if_neg (by rw [hl]; decide)]
     unfold yK
     rw [e]; rfl
 ·exact ⟨s,230,by unfold wQ; rw [if_pos hm],h.more⟩
structure y6 (n i:Nat) (c:cF):Prop where
 one:c.n=1
 steps:c.steps=(i:Int)
 len:c.eB.length=n
 made:c.made.length<=i
 told:c.told=[]
 own:∀ m∈c.made,m.pw=(nf m.call.aK n:Int)
 sh:∀ k g,c.eB[k]? =some g->∃ s,g.nodes=[some s]/\ri k n i s
theorem acY (n:Nat):y6 n 0 (yD 1 n):=by
 refine ⟨rfl,rfl,by simp [yD],fo _,rfl,λm hm=>(by cases hm),λk g hg=> ?_⟩
 have Cd:g=p8 1:=(List.mem_replicate.1 (eA hg)).2
 subst Cd
 exact ⟨_,rfl,rfl,rfl,fo _,fo _,fo _,rfl,rfl,rfl,[],rfl,rfl,fo _,λe he=>(by cases he)⟩
theorem y6.Ka (h:y6 n i c) (hi:i < 60) (hn:1<=n) (x:il):∃ c' e,qg c {kind:=1,call:=x}=some (c',e)/\y6 n (i+1) c':=by
 have hk:nf x.aK n < n:=Nat.mod_lt _ hn
 obtain ⟨g,hg⟩:∃ g,c.eB[nf x.aK n]? =some g:=⟨_,cj (by rw [h.len]; exact hk)⟩
 obtain ⟨s,hs,hl⟩:=h.sh _ g hg
 obtain ⟨s',e,he,vu⟩:=hl.call hi x rfl
 have cK:=h.steps
 have GM:=h.made
 have lH:=h.one
 have ey:Dk {c with steps:=c.steps+1} (nf x.aK n) g {kind:=1,call:=x}=some (if e=0 then {c with steps:=c.steps+1,made:=c.made++[⟨c.steps+1,(nf x.aK n:Nat),0,x⟩]} else {c with steps:=c.steps+1},{g with nodes:=g.nodes.set 0 (some s')},e):=by
  unfold Dk
  rw [if_pos rfl,hs]
  show (match (some (some s):Option (Option dD)) with | some (some s)=>_ | _=>none)=_
  dsimp only
  rw [he]; rfl
 refine ⟨{(if e=0 then {c with steps:=c.steps+1,made:=c.made++[⟨c.steps+1,(nf x.aK n:Nat),0,x⟩]} else {c with steps:=c.steps+1}) with eB:=(if e=0 then {c with steps:=c.steps+1,made:=c.made++[(⟨c.steps+1,(nf x.aK n:Nat),0,x⟩:yP)]} else {c with steps:=c.steps+1}).eB.set (nf x.aK n) {g with nodes:=g.nodes.set 0 (some s')}},e, ?_, ?_⟩
 ·unfold qg
  dsimp only
  rw [if_pos rfl,h.len,hg]
  dsimp only
  rw [if_neg (by omega),ey]; rfl
 ·have fG:∀ k g',(c.eB.set (nf x.aK n) {g with nodes:=g.nodes.set 0 (some s')})[k]? =some g'->∃ s,g'.nodes=[some s]/\ri k n (i+1) s:=λk g' Cd=>by
   rw [uz] at Cd
   split at Cd
   ·rename_i e1
    subst e1
    rw [if_pos (by rw [h.len]; exact hk)] at Cd
    obtain rfl:=ez Cd
    exact ⟨s',by dsimp only; rw [hs]; rfl,vu⟩
   ·obtain ⟨s2,a,b⟩:=h.sh k g' Cd
    exact ⟨s2,a,b.more⟩
  split
  ·refine ⟨lH,by dsimp only; omega,by simpa using h.len,by simp; omega,h.told,λm hm=> ?_,fG⟩
   rcases gD.1 hm with hm | hm
   ·exact h.own m hm
   ·obtain rfl:=o0.1 hm; rfl
  ·exact ⟨lH,by dsimp only; omega,by simpa using h.len,by dsimp only; omega,h.told,h.own,fG⟩
theorem y6.alr (h:y6 n i c) (hg:c.eB[k]? =some g) (hs:g.nodes[0]? =some (some s)):∀ e∈s.m.by_.flatten,∀ m∈c.made,m.call.aK=e.aK->m.pw=(k:Int):=λe he m hm hc=>by
 obtain ⟨s2,a,b⟩:=h.sh k g hg
 rw [a] at hs
 obtain rfl:s2=s:=by simpa using hs
 obtain ⟨L,ic,_,_,rz⟩:=b.G5
 rw [ic] at he
 have Pd:e∈L:=by simpa using he
 rw [h.own m hm,hc,rz e Pd]
open Go Go.Proofs Go.Proofs.Tryz
def callR:bZ il:=⟨7,λ_ a cs=>cs=lP a/\nO a,λ_ h=>h,λh=>by rw [h.1]; rfl,λh v hv=>by rw [h.1] at hv; simp at hv; rcases hv with rfl | rfl | rfl | rfl | rfl | rfl | rfl <;> rfl⟩
instance:oJ callR lP:=⟨λ_ _ _ h=>h.1⟩
theorem ajx (x:Int):-8 < x.tmod 8/\x.tmod 8 < 8:=by
 cases x with
 | ofNat n=>show -8 < ((n % 8:Nat):Int)/\((n % 8:Nat):Int) < 8; omega
 | negSucc n=>show -8 < -(((n+1) % 8:Nat):Int)/\ -(((n+1) % 8:Nat):Int) < 8; omega
set_option maxRecDepth 4000 in
set_option maxHeartbeats 4000000 in
theorem wholeShards_walk {c:Nat} {ys:List il} (n:Int) (hk:a_ L callR A c ys):Fn prog 3 #[.slice A ys.length c,.int .i64 n] L (λv L'=>v=.bool true/\L'=L):=by
 have h8:=ajx n
 generalize hq:n.tmod 8=q at h8
 refine aH func3 J J J J<|b_ hk.lay<|aa<|ae J<|O<|aa<|Y J<|ab J J (AC J J (by decide))<|br 16 (v':=.int .i64 q) J (bi (Value.int .i64) hq)<|ae J<|O<|ar<|aa<|Y J<|ab J J (bU J J)<|O<|Ae (σ:=Nat) [0] (λm=>m<=7) (λm kv=>(5,.int .i64 (m:Int))::kv) (λm=>sl callR A c ys::L) J ?_ ?_
 ·refine bz J (λjG=> ?_) (λjG=> ?_)
  ·exact aQ<|Y J<|ab J J (aiY J (by omega))<|ae J<|br 5 (v':=.int .i64 ((-q).toNat:Int)) J (bi (Value.int .i64) (by omega))<|O<|ai<|⟨(-q).toNat,(by omega),bO J⟩
  exact U5 5 (v':=.int .i64 (q.toNat:Int)) J (bi (Value.int .i64) (by omega))<|az<|ai<|⟨q.toNat,(by omega),bO J⟩
 intro m hm
 refine aa<|Y J<|ab J J (bE J J (by omega))<|cz 22 J<|ae J<|O<|aa<|aB J J (RK 1 0 _)<|Y J<|aJ J J (RJ 1 (m+1) (by decide) (by omega) _) ?_
 rintro _ _ ⟨bc,rfl,rfl⟩
 refine Y J<|ab J J (aO J J)<|ab J J (aO J J)<|ae J<|ae J<|O<|ar<|aa<|aB J J (Zc _)<|aV 29 (.bool true) J<|ab J J (df J)<|Y J<|aj J<|Y J<|aj J<|ab J J (dB J J)<|br 33 (v':=.bool false) J (bi Value.bool (by decide))<|aA J<|Y J<|aj J<|Y J<|aj J<|ab J J (fR J J (dh.eJ))<|aV 37 (.bool false) J<|aA J<|O<|aT J<|az<|ai<|ar<|aa<|ae J<|O<|Ae (σ:=Nat × cF) [5,6] (λs=>s.1<=60/\y6 (m+1) s.1 s.2) (λs kv=>kv) (λs=>cl bc s.2::L) J ?_ ?_
 ·refine aX<|cY (σ:=Nat × cF) [0,5,6] (λs=>s.1<=ys.length/\s.1<=60/\y6 (m+1) s.1 s.2) (λs kv=>(8,.int .i64 (s.1:Int))::kv) (λs=>cl bc s.2::sl callR A c ys::L) (λs=>60 - s.1) ((0,yD 1 (m+1))) J (⟨dF _,dF _,acY (m+1)⟩) (al) (dc J) ?_
  rintro ⟨i,ci⟩ ⟨eG,Ga,ub⟩
  dsimp only at eG Ga ub ⊢
  refine ar<|aa<|Y J<|Y J<|ab J J (bY J)<|ab J J (bU J J)<|Y J<|dl 43 J (λld=> ?_) (λld=> ?_)
  ·refine aj J<|Y J<|aj J<|ab J J (bU J J)<|aA J<|O<|bz J (λG3=> ?_) (λG3=> ?_)
   ·refine az<|ai<|ar<|aX ?_
    obtain ⟨u,hu⟩:∃ u,ys[i]? =some u:=⟨_,cj (by omega)⟩
    refine KV (R:=callR) (p:=nO u) (bJ (A:=A) (c:=c)) hu (λM l h=>h.2) λOY=>gr (bJ (A:=A) (c:=c) (R:=callR)) hu λbl ol el=> ?_
    subst el
    obtain ⟨c',e,hd,vu⟩:=ub.Ka (by omega) (by omega) u
    refine aQ<|Y J<|Y J<|Y J<|ab J J (iX (R:=callR) (xs:=ys) J J J hu)<|ab J J (x_ (R:=callR) (c:=c) (xs:=ys) (vs:=lP u) (q:=0) J bJ hu J)<|ab J J (bI J J)<|aV 54 (nZ {kind:=1,call:=u} (none,0)) J<|aP bc<|aB J J (ya (q:=(none,0)) hd (λ_↦OY) dP)<|O<|bA<|ai<|aQ<|Y J<|ab J J (bE J J (by omega))<|cz 48 J<|ae J<|O<|ai ?_
    exact ⟨(i+1,c'),⟨by dsimp only; omega,by dsimp only; omega,vu⟩,(by dsimp only; omega),bO rfl⟩
   exact cw<|aY<|aY<|cu<|ai<|⟨(i,ci),⟨Ga,ub⟩,bO J⟩
  exact ah J<|ah J<|aA J<|O<|aT J<|cw<|aY<|aY<|cu<|ai<|⟨(i,ci),⟨Ga,ub⟩,bO J⟩
 rintro ⟨i,ci⟩ ⟨Ga,ub⟩
 dsimp only at Ga ub ⊢
 have GM:=ub.made
 refine aa<|Y J<|NX λZ hi=>aJ J J (aac (by rw [gY]; exact hi.len.1) (by have:=ub.made; omega)) ?_
 rintro _ _ ⟨D6,xP,rfl,rfl⟩
 refine bF<|bX (CL bc ci Z hi)<|ae J<|O<|ar<|aa<|ae J<|O<|aX<|cY (σ:=Nat) [5,6,9] (λk=>k<=m+1) (λk kv=>(10,.int .i64 (k:Int))::kv) (λk=>cl bc ci::sl mf D6 xP ci.made::L) (λk=>m+1 - k) (0) J (dF _) (al) (dc J) λk XJ=>ar<|aa<|Y J<|Y J<|ab J J (bU J J)<|O<|bz J (λQl=> ?_) (λQl=> ?_)
 ·refine az<|ai<|ar<|aX ?_
  obtain ⟨g,hg⟩:∃ g,ci.eB[k]? =some g:=⟨_,cj (by rw [ub.len]; omega)⟩
  obtain ⟨s,hgn,pL⟩:=ub.sh k g hg
  have xm:g.nodes[0]? =some (some s):=by (rw [hgn]; rfl)
  refine BA λZ hi=> ?_
  obtain ⟨bg,hz⟩:=OL hi hg
  refine Dm hz<|ou 2 J<|ou 1 J<|vk λps fG=> ?_
  have ia:s.m.by_.flatten.length<=60:=by (obtain ⟨L9,h1,_,h2,_⟩:=pL.G5; rw [h1]; simp; omega)
  have tA:(Z.map λz:Nat × cP↦z.1).length<=8:=by (rw [gY]; exact hi.len.2)
  have mZ:(Z.map λz:Nat × cP↦z.1)[k]? =some bg:=by (rw [e_,hz]; rfl)
  obtain ⟨z,iL⟩:∃ z,ps.Z[0]? =some z:=⟨_,cj (by have:=fG.len; omega)⟩
  have zv:z.2.2=some s:=by (have h0:=xm; rw [<- fG.nodes,e_,iL] at h0; exact ez h0)
  refine C0 iL λew=> ?_
  obtain ⟨bn,bd,rfl⟩:=wA zv (by rw [<- zv]; exact ew)
  refine aa<|Y J<|Y J<|aB J J (zV mZ tA fG iL)<|ae J<|O<|ar<|aa<|Y J<|ab J J (fR J J (dh.eJ))<|aV 67 (.bool false) J<|O<|aT J<|az<|ai<|aa<|Y J<|tO iL<|aJ J J (QR) ?_
  rintro _ _ ⟨GL,B3,rfl,rfl⟩
  refine bF<|bX (z7 iL)<|bX (yt bc ci Z ps hi hz fG)<|ae J<|O<|aa<|ae J<|O<|aX<|cY (σ:=Nat) [5,6,9,10,12] (λi2=>i2<=s.m.by_.flatten.length) (λi2 kv=>(13,.int .i64 (i2:Int))::kv) (λi2=>cl bc ci::sl bK GL B3 s.m.by_.flatten::sl mf D6 xP ci.made::L) (λi2=>s.m.by_.flatten.length - i2) (0) J (dF _) (al) (dc J) λi2 dW=>ar<|aa<|Y J<|Y J<|ab J J (bY J)<|ab J J (bU J J)<|O<|bz J (λh73=> ?_) (λh73=> ?_)
  ·refine az<|ai<|ar<|aX<|aa<|ae J<|O<|aX<|cY (σ:=Nat) [5,6,9,10,12,13] (λj=>j<=ci.made.length) (λj kv=>(14,.int .i64 (j:Int))::kv) (λj=>cl bc ci::sl bK GL B3 s.m.by_.flatten::sl mf D6 xP ci.made::L) (λj=>ci.made.length - j) (0) J (dF _) (al) (dc J) λj hj=>ar<|aa<|Y J<|Y J<|ab J J (bY J)<|ab J J (bU J J)<|O<|bz J (λh79=> ?_) (λh79=> ?_)
   ·refine az<|ai<|ar<|aX ?_
    obtain ⟨ev,rz⟩:∃ ev,s.m.by_.flatten[i2]? =some ev:=⟨_,cj (by omega)⟩
    obtain ⟨mm,D9⟩:∃ mm,ci.made[j]? =some mm:=⟨_,cj (by omega)⟩
    refine gr (bJ (A:=GL) (c:=B3) (R:=bK)) rz λbe oe ee=> ?_
    subst ee
    refine gr (bJ (A:=D6) (c:=xP) (R:=mf)) D9 λbm om em=> ?_
    subst em
    refine bW (sl bK (some ⟨be,oe,none⟩) B3 s.m.by_.flatten::sl mf (some ⟨bm,om,none⟩) xP ci.made::[]) [] [0,2,4,6,8,10,12,14,16,18,20,22,24,26,28,30,32,34,36,38,40] (by kernel_rfl) al<|aq J J<|aq J J<|ak J J (iX (R:=mf) (xs:=ci.made) J J J D9)<|ak J J (cp J)<|ak J J (cp J)<|ak J J (gi (R:=mf) (c:=xP) (xs:=ci.made) J bJ D9 J)<|aq J J<|aq J J<|ak J J (iX (R:=bK) (xs:=s.m.by_.flatten) J J J rz)<|ak J J (cp J)<|ak J J (SG J (bJ (c:=B3) (R:=bK)) rz (λ_=>J))<|ak J J (kI J J)<|aq J J<|gE 94 J (λXP=> ?_) (λXP=> ?_)
    ·refine aC J J (cU J)<|aC J J (cU J)<|aC J J (iX (R:=mf) (xs:=ci.made) J J J D9)<|aC J J (cp J)<|aC J J (gi (R:=mf) (c:=xP) (xs:=ci.made) J bJ D9 J)<|aC J J (cU J)<|aC J J (dB J J)<|lZ 101 J (λiS=>iS (ub.alr hg xm ev (eA rz) mm (eA D9) XP))<|ak J J (d9 J J)<|aR<|aT J<|az<|bA<|ai<|aQ<|Y J<|ab J J (bE J J (by omega))<|cz 81 J<|ae J<|O<|ai ?_
     exact ⟨j+1,(show j+1<=_ by omega),(by omega),bO rfl⟩
    refine aD J J<|aD J J<|aD J J<|aD J J<|aD J J<|aD J J<|aD J J<|ak J J (dG J J)<|aR<|aT J<|az<|bA<|ai<|aQ<|Y J<|ab J J (bE J J (by omega))<|cz 81 J<|ae J<|O<|ai ?_
    exact ⟨j+1,(show j+1<=_ by omega),(by omega),bO rfl⟩
   refine cw<|aY<|aY<|cu<|bA<|ai<|aQ<|Y J<|ab J J (bE J J (by omega))<|cz 75 J<|ae J<|O<|ai ?_
   exact ⟨i2+1,(show i2+1<=_ by omega),(by omega),bO rfl⟩
  refine cw<|aY<|aY<|cu<|bA<|ai<|aQ<|Y J<|ab J J (bE J J (by omega))<|cz 62 J<|ae J<|O<|ai ?_
  exact ⟨k+1,(show k+1<=m+1 by omega),(by omega),bO rfl⟩
 exact cw<|aY<|aY<|cu<|ai<|aa<|ae J<|O<|av<|cI J J
theorem acZ:prog.cellsOf 33=7:=by kernel_rfl
set_option maxRecDepth 100000 in
theorem reads_call:yF prog 33 callR (λ_=>True) (λ_=>1):=λH enc W held jB cs d ps h hw=>by
 obtain ⟨ds,n,rfl,hl,Kb,hf⟩:=Zn underlying33 h hw
 rw [acZ] at hl
 match cs,hl with
 | [u0,u1,u2,u3,u4,u5,u6],_=>
 obtain ⟨d0,p0,g0,h0,w0⟩:=hf 0 _ rfl
 obtain ⟨d1,p1,g1,h1,w1⟩:=hf 1 _ rfl
 obtain ⟨d2,p2,g2,h2,w2⟩:=hf 2 _ rfl
 obtain ⟨d3,p3,g3,h3,w3⟩:=hf 3 _ rfl
 obtain ⟨d4,p4,g4,h4,w4⟩:=hf 4 _ rfl
 obtain ⟨d5,p5,g5,h5,w5⟩:=hf 5 _ rfl
 obtain ⟨d6,p6,g6,h6,w6⟩:=hf 6 _ rfl
 obtain ⟨x0,⟨e0,i0⟩,_,_⟩:=LJ underlying3 H enc W held n _ d0 p0 h0 w0
 obtain ⟨x1,⟨e1,i1⟩,_,_⟩:=LJ underlying3 H enc W held n _ d1 p1 h1 w1
 obtain ⟨x2,⟨e2,i2⟩,_,_⟩:=LK underlying9 H enc W held n _ d2 p2 h2 w2
 obtain ⟨x3,⟨e3,i3⟩,_,_⟩:=LK underlying9 H enc W held n _ d3 p3 h3 w3
 obtain ⟨x4,⟨e4,i4⟩,_,_⟩:=LJ underlying3 H enc W held n _ d4 p4 h4 w4
 obtain ⟨x5,e5,_,_⟩:=abI underlying4 H enc W held n _ d5 p5 h5 w5
 obtain ⟨x6,⟨e6,i6⟩,_,_⟩:=LK underlying9 H enc W held n _ d6 p6 h6 w6
 simp [MR] at e0
 subst e0
 simp [MR] at e1
 subst e1
 simp [MS] at e2
 subst e2
 simp [MS] at e3
 subst e3
 simp [MR] at e4
 subst e4
 simp [ags,uU] at e5
 subst e5
 simp [MS] at e6
 subst e6
 exact ⟨⟨x0,x1,x2,x3,x4,x5,x6⟩,⟨rfl,i0,i1,i2,i3,i4,i6⟩,trivial,λB=>B.one _⟩
end Go.SL
