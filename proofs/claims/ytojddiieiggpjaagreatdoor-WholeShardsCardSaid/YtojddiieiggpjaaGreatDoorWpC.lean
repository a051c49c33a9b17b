/- What the law of this claim needs, together: the logic, data in memory, the walks of functions. -/
import Derived.Test.YtojddiieiggpjaaGreatDoorWpB
import Derived.Sort.Walk0
import Derived.WideKeyEntry
import Derived.DeepKeys4
set_option linter.unusedVariables false
set_option linter.unusedSimpArgs false
set_option linter.unusedSectionVars false
namespace Go.SL
open Go Go.Proofs Go.Proofs.Tryz
variable{l:List dQ}{e:dQ}
theorem SS (h:j8 l) {e':dQ} (he:e∈l) (hn:e'.name=e.name) (hb:e'.dA=e.dA):gI (jt l e')=gI l:=by
 have p1:(gI (jt l e')).Perm (gI l):=by
  refine ((Ex e').map λq:dQ=>(q.name,q.dA)).trans ?_
  rw [hn,kq,hn,hb]
  exact (CA h he).map λq:dQ=>(q.name,q.dA)
 refine p1.eq_of_pairwise (le:=λp q:ByteArray × Nat=>uj p.1 q.1=true) (λa b _ _ h1 h2=>absurd (SR h1 h2) (E1 _)) ?_ ?_
 ·exact oh.2 (h.put e')
 ·exact oh.2 h
variable{L:List HP}
theorem H0 {L1 L2 L3:List HP} (b bt:Nat) (s:eM) {n:Int} {m:List (ByteArray × Nat)} (hl:jA s=n) (hm:gI s.l=m) [h1:fL L b [.map (some bt),.int .i64 n,.int .i64 s.calls] 134 L1] [h2:iI L1 bt ByteArray Nat fb l6 false m L2] [h3:cR L2 (c_ (s.l.map fH)) L3] (hi:KI s):am L (dk b bt s::L3):=by
 subst hl; subst hm; exact pf b bt s hi
theorem ST (h:j8 l) {e':dQ} (he:e∈l) (hn:e'.name=e.name):gS (jt l e')+e.bytes.length=gS l+e'.bytes.length:=by
 have:=CG h he
 rw [EK,hn]; omega
variable{b bt:Nat}{s:eM}
theorem ads (k:ByteArray) (hk:k.size<=cE) (hb:kT s\/fM s.l k=none):Fn prog 308 #[.pointer (some ⟨b,0,none⟩),.string k] (dk b bt s::L) (λv L'=>v=.tuple #[.pointer none,.int .i64 (wx s k)]/\L'=dk b bt s::L):=by
 refine aH func308 J J J J<|aa<|ae J<|ae J<|O<|ar<|aa<|Y J<|aB J J (Hw)<|O<|bz J (λh7=> ?_) (λh7=> ?_)
 ·refine aa<|ae J<|ae J<|O<|av<|aU ?_
  rw [show wx s k=31 by unfold wx; rw [if_pos h7]]
  exact eS J J J al (⟨J,J⟩)
 refine az<|ai<|aa<|Y J<|Y J<|aB J J (Hs k hk)<|ab J J (aO J J)<|ab J J (aO J J)<|ae J<|ae J<|O<|av ?_
 have hn:fM s.l k=none:=hb.resolve_left h7
 rw [show kl s.l k=.pointer none by unfold kl; rw [hn]; rfl,show wx s k=4 by unfold wx; rw [if_neg h7,hn]; rfl,hn]
 exact eS J J J al (⟨J,J⟩)
theorem ae3 (k:ByteArray) (hk:k.size<=cE) (ho:¬ kT s) (hf:fM s.l k=some e):Fn prog 308 #[.pointer (some ⟨b,0,none⟩),.string k] (dk b bt s::L) (λv L'=>v=.tuple #[.pointer (some ⟨e.dA,0,none⟩),.int .i64 0]/\L'=dk b bt s::L):=by
 refine aH func308 J J J J<|aa<|ae J<|ae J<|O<|ar<|aa<|Y J<|aB J J (Hw)<|dx 7 J ho<|O<|aT J<|az<|ai<|aa<|Y J<|Y J<|aB J J (Hs k hk)<|ab J J (aO J J)<|ab J J (aO J J)<|ae J<|ae J<|O<|av ?_
 rw [show kl s.l k=.pointer (some ⟨e.dA,0,none⟩) by unfold kl; rw [hf]; rfl,hf]
 exact eS J J J al (⟨J,J⟩)
theorem ae4 {k:ByteArray} (hb:kT s\/fM s.l k=none):wx s k≠0:=by
 unfold wx
 by_cases h:kT s
 ·rw [if_pos h]; decide
 ·rw [if_neg h,hb.resolve_left h]; decide
theorem aax (s:eM) (k:ByteArray):(kT s\/fM s.l k=none)\/(¬ kT s/\∃ e,fM s.l k=some e):=by
 by_cases h:kT s
 ·exact .inl (.inl h)
 ·cases hf:fM s.l k with
  | none=>exact .inl (.inr rfl)
  | some e=>exact .inr ⟨h,e,rfl⟩
theorem ae5 {k:ByteArray} (hb:kT s\/fM s.l k=none):oD s k=(s,wx s k):=by
 unfold oD wx
 by_cases h:kT s
 ·cases fM s.l k <;> simp [h]
 ·rw [hb.resolve_left h]; simp [h]
theorem Zq (k:ByteArray) (hk:k.size<=cE) (hb:kT s\/fM s.l k=none):Fn prog 298 #[.pointer (some ⟨b,0,none⟩),.string k] (dk b bt s::L) (λv L'=>v=.int .i64 (oD s k).2/\L'=dk b bt (oD s k).1::L):=by
 have iS:=ae4 hb
 rw [ae5 hb]
 exact aH func298 J J J J<|aa<|ae J<|O<|aa<|Y J<|Y J<|aB J J (ads k hk hb)<|Y J<|ab J J (aO J J)<|ab J J (aO J J)<|ae J<|ae J<|O<|ar<|aa<|Y J<|ab J J (dB J J)<|fd 14 J iS<|O<|cg J<|aa<|Y J<|ae J<|O<|av<|aU<|cI J J
theorem aay (k:ByteArray) (hk:k.size<=cE) (ho:¬ kT s) (hf:fM s.l k=some e):Fn prog 298 #[.pointer (some ⟨b,0,none⟩),.string k] (dk b bt s::L) (λv L'=>v=.int .i64 (oD s k).2/\L'=dk b bt (oD s k).1::L):=by
 obtain ⟨he,iU⟩:=uJ hf
 refine aH func298 J J J J<|aa<|ae J<|O<|aa<|Y J<|Y J<|aB J J (ae3 k hk ho hf)<|Y J<|ab J J (aO J J)<|ab J J (aO J J)<|ae J<|ae J<|O<|ar<|aa<|Y J<|ab J J (dB J J)<|br 14 (v':=.bool false) J (bi Value.bool (by decide))<|O<|aT J<|az<|ai<|wX λhi=>As hi.inc he λA c=> ?_
 have hs:oD s k=(oC ⟨s.size,s.calls,jt s.l ⟨k,e.dA,e.bytes,(e.bytes.length:Int)⟩⟩,0):=by unfold oD; rw [hf]; simp only; rw [if_neg ho]
 subst iU
 have htt:=ST (e':=⟨e.name,e.dA,e.bytes,(e.bytes.length:Int)⟩) hi.inc he rfl
 have Gm:=SS (e':=⟨e.name,e.dA,e.bytes,(e.bytes.length:Int)⟩) hi.inc he rfl rfl
 have oV:=hi.change he e.bytes (e.bytes.length:Int) (fo _) (hi.ok e he).2.2.2 ⟨by omega,qJ _⟩
 refine aa<|Y J<|Y J<|aS J<|ao J<|ax J J<|ab J J (bY J)<|aS J<|ao J<|aE J J<|O<|b_ (Oh (A:=A) (c:=c) (l:=s.l) ⟨e.name,e.dA,e.bytes,(e.bytes.length:Int)⟩)<|b_ (H0 b bt ⟨s.size,s.calls,jt s.l ⟨e.name,e.dA,e.bytes,(e.bytes.length:Int)⟩⟩ (n:=jA s) (m:=gI s.l) (by unfold jA; dsimp only at htt ⊢; omega) Gm oV)<|aa<|Y J<|aB J J (Kw)<|ae J<|O<|av ?_
 rw [hs]
 exact cI J J
theorem YH (k:ByteArray) (hk:k.size<=cE):Fn prog 298 #[.pointer (some ⟨b,0,none⟩),.string k] (dk b bt s::L) (λv L'=>v=.int .i64 (oD s k).2/\L'=dk b bt (oD s k).1::L):=by
 rcases aax s k with hb | ⟨ho,e,hf⟩
 ·exact Zq k hk hb
 ·exact aay k hk ho hf
variable{A:Option Addr}{c:Nat}
theorem Rp {xs:List Int} (hk:bR L (aI .u8) A c xs) (hb:xs.length<=140737488355328):Fn prog 274 #[.slice A xs.length c] L (λv L'=>∃ A' c',v=.slice A' xs.length c'/\L'=aN (aI .u8) 5 A' c' xs::L):=by
 refine aH func274 J J J J<|aa<|ae J<|O<|ar<|aa<|Y J<|ab J J (fR J J (dh.wg))<|O<|bz J (λh4=> ?_) (λh4=> ?_)
 ·subst h4
  refine hk.yi λe=> ?_
  subst e
  exact yw (A:=none) (aI .u8) 5<|aa<|ae J<|O<|av<|aU<|aZ J J al (⟨none,0,J,J⟩)
 refine az<|ai<|aa<|ef J J J J J J λb5=>eh (k:=0) (aI .u8) [] (bV.const λM=>J) J (by simp)<|aV 5 (.slice (some ⟨b5,0,none⟩) ([]:List Int).length 0) J<|Y J<|vZ J J J J J hk (by simp; omega) λA7 c7=>ae J<|O<|av ?_
 simp only [dm]
 exact aZ J J al (⟨A7,c7,J,J⟩)
open Go
variable{P:Program}{E:cZ}{ty t t':TypeId}{x y:Operand}{a b:ByteArray}
theorem Ey (hx:ev E x=some (.string a)) (hy:ev E y=some (.string b)) (hb:(a.size:Int)+(b.size:Int)<=9223372036854775807):Yl P E L (.binOp .add t x y t') ty (.string (a++b)):=λn D W ac w dst pos af g ha hs=>by
 have h1:¬ ((((a.size+b.size:Nat):Int)) > IntKind.i64.max):=by
  have:IntKind.i64.max=9223372036854775807:=by decide
  rw [this]; omega
 simp only [execOp,ha.ev hx,ha.ev hy,eqGuard,Go.binOp,Op.stringOp]
 rw [if_neg h1]; rfl
open Go Go.Proofs Go.Proofs.Tryz
theorem V1 (x:Int):bP .u8 (IntKind.u8.wrap x):=ET (by
 have:IntKind.u8.wrap x=x % 256:=by simp [IntKind.wrap,IntKind.bits,IntKind.signed]
 omega)
def rP (xs:List Int):Prop:=∀ x∈xs,0<=x/\x<=255
theorem abO:rP []:=λ_ h=>by cases h
theorem rP.Pa {xs ys:List Int} (h:rP xs) (k:rP ys):rP (xs++ys):=λx hx=>(gD.1 hx).elim (h x) (k x)
theorem YI (s:ByteArray):rP (f4 s):=λx hx=>by
 obtain ⟨i,hi⟩:=od hx
 exact Rg hi
theorem ahX {m:Int} (hx:ev E x=some (.int .u32 m)):Yl P E L (.unOp .xor t x) ty (.int .u32 (sN .xor .u32 IntKind.u32.max m)):=λn D W a w dst pos af g ha hs=>by simp only [execOp,ha.ev hx]; rfl
theorem adt (x:Int) (L:List HP):Fn prog 476 #[.int .u32 x] L (λv L'=>(∃ y:Int,v=.int .u32 y)/\L'=L):=by
 refine aH func476 J J J J<|aa<|ae J<|O<|ar<|aa<|Y J<|O<|aX<|cY (σ:=Nat × Int) [] (λg=>g.1<=8) (λg kv=>(4,.int .i64 (g.1:Int))::(0,.int .u32 g.2)::kv) (λg=>L) (λg=>8 - g.1) ((0,x)) J ((dF _)) (al) (dc J) ?_
 rintro ⟨i,y⟩ hi
 dsimp only at hi ⊢
 refine aa<|ab J J (bU J J)<|O<|ar<|bz J (λh5=> ?_) (λh5=> ?_)
 ·refine az<|ai<|ar<|aX<|aa<|Y J<|ab J J (tS (by simp) J J)<|ae J<|O<|aa<|Y J<|ab J J (Da J J (by omega))<|ae J<|O<|aa<|Y J<|ab J J (ce J J)<|O<|bz J (λgJ=> ?_) (λgJ=> ?_)
  ·refine aQ<|Y J<|ab J J (tS (by simp) J J)<|ae J<|O<|bA<|ai<|aQ<|ab J J (bE J J (by omega))<|cz 14 J<|Y J<|O<|ai ?_
   exact ⟨(i+1,_),(by dsimp only; omega),by dsimp only; omega,bO rfl⟩
  refine az<|bA<|ai<|aQ<|ab J J (bE J J (by omega))<|cz 14 J<|Y J<|O<|ai ?_
  exact ⟨(i+1,_),(by dsimp only; omega),by dsimp only; omega,bO rfl⟩
 exact cw<|aY<|aY<|cu<|ai<|aa<|Y J<|ae J<|O<|av<|aZ J J al (⟨⟨_,J⟩,J⟩)
theorem abP {xs:List Int} (hk:a_ L (aI .u8) A c xs):Fn prog 417 #[.slice A xs.length c] L (λv L'=>(∃ y:Int,v=.int .u32 y)/\L'=L):=by
 refine aH func417 J J J J<|hk.lens λhl=>aa<|ae J<|O<|aa<|ae J<|O<|ar<|aa<|Y J<|ab J J (bY J)<|Y J<|O<|aX<|cY (σ:=Nat × Int) [6,7] (λg=>g.1<=xs.length) (λg kv=>(8,.int .i64 (g.1:Int))::(3,.int .u32 g.2)::kv) (λg=>L) (λg=>xs.length - g.1) ((0,4294967295)) J ((by simp)) (al) (dc J) ?_
 rintro ⟨i,y⟩ hi
 dsimp only at hi ⊢
 refine aa<|ab J J (bU J J)<|O<|ar<|bz J (λh9=> ?_) (λh9=> ?_)
 ·refine az<|ai<|ar<|aX ?_
  have cL:i < xs.length:=by omega
  have hx:=cj cL
  refine aa<|uG J J J hk hx λN7 VV VW=>ab J J (rG J J)<|ae J<|O<|aQ<|Y J<|ab J J (Da J J (by omega))<|Y J<|Y J<|ab J J (lO J)<|ab J J (tS (by simp) J J)<|ab J J (tS (by simp) J J)<|aJ J J (adt _ _) ?_
  rintro _ _ ⟨⟨y19,rfl⟩,rfl⟩
  refine ab J J (tS (by simp) J J)<|ae J<|O<|bA<|ai<|aQ<|ab J J (bE J J (by simp only [cE] at hl; omega))<|cz 21 J<|Y J<|O<|ai ?_
  exact ⟨(i+1,_),(by dsimp only; omega),by dsimp only; omega,bO rfl⟩
 exact cw<|aY<|aY<|cu<|ai<|aa<|Y J<|ab J J (ahX J)<|ae J<|O<|av<|aZ J J al (⟨⟨_,J⟩,J⟩)
abbrev NG (x:Int):List Int:=[IntKind.u8.wrap (x.fdiv (2 ^ min (Int.toNat 24) IntKind.u32.bits)),IntKind.u8.wrap (x.fdiv (2 ^ min (Int.toNat 16) IntKind.u32.bits)),IntKind.u8.wrap (x.fdiv (2 ^ min (Int.toNat 8) IntKind.u32.bits)),IntKind.u8.wrap x]
theorem SU (x:Int) (L:List HP):Fn prog 416 #[.int .u32 x] L (λv L'=>∃ A c,∃ xs:List Int,xs.length=4/\rP xs/\v=.slice A xs.length c/\L'=aN (aI .u8) 5 A c xs::L):=by
 refine aH func416 J J J J<|aa<|ae J<|O<|aa<|Y J<|ab J J (Da J J (by omega))<|ab J J (lO J)<|Y J<|ab J J (Da J J (by omega))<|ab J J (lO J)<|Y J<|ab J J (Da J J (by omega))<|ab J J (lO J)<|Y J<|ab J J (lO J)<|ef J J J J J J λxx=>eh (k:=4) (aI .u8) (NG x) (bV.const λM=>z4 (xs:=NG x) (by simp [V1]) M) J (by simp)<|ae J<|O<|av ?_
 exact aZ J J al (⟨some ⟨xx,0,none⟩,4,NG x,J,λz hz=>by simp at hz; rcases hz with rfl | rfl | rfl | rfl <;> exact I1 (V1 _),J,J⟩)
theorem adu (s:ByteArray) (hs:s.size<=65536) (L:List HP):Fn prog 374 #[.string s] L (λv L'=>∃ A c,∃ xs:List Int,xs.length=8/\rP xs/\v=.slice A xs.length c/\L'=aN (aI .u8) 5 A c xs::L):=by
 have fW:=nE s
 refine aH func374 J J J J<|aa<|ae J<|O<|aa<|Y J<|ab J J (uI J)<|ab J J (lO J)<|aJ J J (SU _ _) ?_
 rintro _ _ ⟨A7,c7,WR,Gn,hb7,rfl,rfl⟩
 refine ae J<|O<|aa<|Y J<|Y J<|aJ J J (Rp (A:=A7) (c:=c7) (xs:=WR) bJ (by omega)) ?_
 rintro _ _ ⟨np,nq,rfl,rfl⟩
 refine Y J<|Kt J J J J (by (try simp only [eQ,dO,ej]); omega) λWT WU=>bF<|aJ J J (abP slk) ?_
 rintro _ _ ⟨⟨y13,rfl⟩,rfl⟩
 refine aJ J J (SU _ _) ?_
 rintro _ _ ⟨vv,vw,ajU,ajV,ajW,rfl,rfl⟩
 refine bF<|fi J J J J J slk (by (try simp only [eQ,dO,ej]); omega) λvB uk=>ae J<|O<|av ?_
 exact aZ J J al (⟨vB,uk,WR++ajU,by simp [Gn,ajV],hb7.Pa ajW,J,J⟩)
theorem abQ {xs:List Int} (s:ByteArray) (hk:a_ L (aI .u8) A c xs) (hx:rP xs) (hs:s.size<=65536) (hl:xs.length<=16777216):Fn prog 302 #[.slice A xs.length c,.string s] L (λv L'=>∃ A' c',∃ ys:List Int,ys.length=xs.length+8+s.size/\rP ys/\v=.tuple #[.slice A' ys.length c',.int .i64 0]/\L'=aN (aI .u8) 5 A' c' ys::L):=by
 have fW:=nE s
 refine aH func302 J J J J<|aa<|ae J<|ae J<|O<|ar<|aa<|Y J<|ab J J (uI J)<|ab J J (eE J J)<|dx 9 J (by omega)<|O<|aT J<|az<|ai<|aa<|Y J<|ab J J (bY J)<|ab J J (bE J J (by omega))<|Y J<|ab J J (uI J)<|ab J J (bE J J (by omega))<|br 15 (v':=.int .i64 ((xs.length+8+s.size:Nat):Int)) J (by simp)<|wq (R:=aI .u8) (u:=0) (m:=0) (k:=xs.length+8+s.size) J J J (by omega) (by omega) (by omega) J J J (by intro M; exact ⟨rfl,ET (by decide)⟩) λb16=> ?_
 rw [show (List.replicate 0 0:List Int)=[] from rfl]
 refine ae J<|O<|aa<|Y J<|Y J<|fi J J J J J (hk) (by (try simp only [eQ,dO,ej]); omega) λDJ DK=> ?_
 simp only [dm]
 refine Y J<|aJ J J (adu s hs _) ?_
 rintro _ _ ⟨JK,JL,alR,alS,ajX,rfl,rfl⟩
 refine bF<|fi J J J J J slk (by (try simp only [eQ,dO,ej]); omega) λmS k_=>Y J<|Kt J J J J (by (try simp only [eQ,dO,ej]); omega) λzh zj=>ae J<|ae J<|O<|av ?_
 exact eS J J J al (⟨zh,zj,_,by simp; omega,(hx.Pa ajX).Pa (YI s),J,J⟩)
open Go Go.Lib
theorem i9 {src nW e:TypeId} {xs:List Int} [h1:dy P src (.slice e)] [h2:dy P e (.int .u8)] [h3:dy P nW .string] (hx:ev E x=some (.slice A xs.length c)) (hk:bR L (aI .u8) A c xs):Yl P E L (.convert src nW x) ty (.string (strOfNums xs)):=λn D W a w dst pos af g ha hs=>by
 obtain ⟨M,k,hd,hM,ko,hsep⟩:=hs.ex
 have fW:=hk M k (heapOf w) hd hsep hM ko
 have Nv:(convert src nW (.slice A xs.length c)).run P w=.ok (.string (strOfNums xs)) w:=by
  rcases fW.2.2 with rfl | ⟨b,o,rfl,cur,t,fr,hb,eH⟩
  ·cases A with
   | none=>exact run_convert_bytes_nil w src e h1.under h2.under _ _ nW h3.under
   | some ad=>
    simp [convert,h1.run,h2.run,h3.run,Conv.bytesToString,loadCells,loadCellsFrom,strOfNums]
    rfl
  ·refine run_convert_bytes_arg w src e h1.under h2.under b o xs.length c xs rfl (λi hi=> ?_) nW h3.under
   obtain ⟨l,hl,hc⟩:=eH i _ (cj hi)
   have:=hc 0 _ (by rw [hl.1]; rfl)
   rw [rK hb]
   have e1:(aI .u8).sz=1:=rfl
   rw [e1,Nat.mul_one,sD] at this
   rw [this]
   simp [List.getD,cj hi]
 simp [execOp,ha.ev hx,Nv]
open Go Go.Proofs Go.Proofs.Tryz
variable{b:Nat}
theorem YJ (k:ByteArray) (hk:k.size<=cE) (hf:fM s.l k=none):Fn prog 219 #[.pointer (some ⟨b,0,none⟩),.string k] (dk b bt s::L) (λv L'=>v=.tuple #[.string ⟨#[]⟩,.int .i64 4]/\L'=dk b bt s::L):=by
 refine aH func219 J J J J<|aa<|ae J<|ae J<|O<|aa<|Y J<|Y J<|aB J J (Hs k hk) ?_
 rw [hf,show kl s.l k=.pointer none by unfold kl; rw [hf]; rfl]
 exact Y J<|ab J J (aO J J)<|ab J J (aO J J)<|ae J<|ae J<|O<|ar<|aa<|Y J<|ab J J (dB J J)<|br 15 (v':=.bool true) J (bi Value.bool (by decide))<|O<|cg J<|aa<|Y J<|ae J<|ae J<|O<|av<|aU<|eS J J J al (⟨J,J⟩)
theorem YK (k:ByteArray) (hk:k.size<=cE) (hf:fM s.l k=some e):Fn prog 219 #[.pointer (some ⟨b,0,none⟩),.string k] (dk b bt s::L) (λv L'=>v=.tuple #[.string (strOfNums e.bytes),.int .i64 0]/\L'=dk b bt s::L):=by
 obtain ⟨he,iU⟩:=uJ hf
 refine aH func219 J J J J<|aa<|ae J<|ae J<|O<|aa<|Y J<|Y J<|aB J J (Hs k hk) ?_
 rw [hf,show kl s.l k=.pointer (some ⟨e.dA,0,none⟩) by unfold kl; rw [hf]; rfl]
 exact Y J<|ab J J (aO J J)<|ab J J (aO J J)<|ae J<|ae J<|O<|ar<|aa<|Y J<|ab J J (dB J J)<|br 15 (v':=.bool false) J (bi Value.bool (by simp))<|O<|aT J<|az<|ai<|wX λhi=>As hi.inc he λA c=>aa<|Y J<|aS J<|ao J<|ax J J<|ab J J (i9 J bJ)<|ae J<|ae J<|O<|av<|aF.ay (E8 (A:=A) (c:=c) hi.inc he)<|aF.ay (pf b bt s hi)<|eS J J J al (⟨J,J⟩)
theorem YL (k:ByteArray) (hk:k.size<=cE):Fn prog 219 #[.pointer (some ⟨b,0,none⟩),.string k] (dk b bt s::L) (λv L'=>v=.tuple #[.string (match fM s.l k with | some e=>strOfNums e.bytes | none=>⟨#[]⟩),.int .i64 (if (fM s.l k).isSome then 0 else 4)]/\L'=dk b bt s::L):=by
 rcases hf:fM s.l k with _ | e
 ·exact YJ k hk hf
 ·exact YK k hk hf
open Go Go.Proofs Go.Proofs.Tryz
variable{A0:Option Addr}{c0:Nat}
theorem XY {xs:List Int} (k:ByteArray) (hk:k.size<=cE) (dA:Nat) (hx:bR L (aI .u8) A0 c0 xs) (se:∀ x∈xs,0<=x/\x<=255) (kY:xs.length<=cE) (hf:fM s.l k=some e):Fn prog 303 #[.pointer (some ⟨b,0,none⟩),.string k,.slice A0 xs.length c0] (dk b bt s::L) (λv L'=>v=.int .i64 (ii s k xs dA).2/\L'=dk b bt (ii s k xs dA).1::L):=by
 obtain ⟨he,iU⟩:=uJ hf
 have Oi:=kY
 simp only [cE] at Oi
 refine aH func303 J J J J<|aa<|ae J<|O<|ar<|aX<|aa<|Y J<|aB J J (Ck)<|aV 10 (.bool true) J<|ab J J (df J)<|ae J<|O<|aT J<|aa<|Y J<|aB J J (rH _ k hk)<|ab J J (iF J)<|ae J<|O<|bz J (λf2=> ?_) (λf2=> ?_)
 ·refine aa<|ae J<|O<|av<|db<|aU ?_
  rw [show ii s k xs dA=(s,30) by unfold ii; rw [if_pos f2]]
  exact cI J J
 refine az<|bA<|ai<|ar<|aa<|Y J<|aB J J (Hw)<|O<|bz J (λgx=> ?_) (λgx=> ?_)
 ·refine aa<|ae J<|O<|av<|aU ?_
  rw [show ii s k xs dA=(s,31) by unfold ii; rw [if_neg f2,if_pos gx]]
  exact cI J J
 refine az<|ai<|wX λhi=> ?_
 have hz:=hi.size
 have ht:=hi.eU
 have BL:jA s=s.size - (gS s.l:Int):=rfl
 refine aa<|Y J<|aS J<|ao J<|ax J J<|Y J<|ab J J (pT (k:=k) J J hk)<|br 23 (v':=.pointer (some ⟨e.dA,0,none⟩)) J (by rw [EO]; unfold kl; rw [hf]; rfl)<|ae J<|O<|ar<|aa<|Y J<|ab J J (bY J)<|Y J<|aS J<|ao J<|ax J J<|ab J J (eE J J)<|Y J<|dl 31 J (λjV=> ?_) (λjV=> ?_)
 ·refine ah J<|ah J<|ah J<|g8 J J J<|g8 J J J<|g8 J J J<|g8 J J J<|g8 J J J<|g8 J J J<|ah J<|aA J<|O<|cg J<|aa<|ae J<|O<|av<|aU ?_
  rw [show ii s k xs dA=(s,2) by unfold ii; rw [if_neg f2,if_neg gx,if_pos (.inl (by omega))]]
  exact aF.ay (pf b bt s hi)<|cI J J
 refine aj J<|Y J<|aj J<|ab J J (fR J J (dh.eJ))<|br 33 (v':=.bool false) J (by simp)<|aj J<|Y J<|ah J<|ah J<|ah J<|ah J<|ah J<|ah J<|aj J<|aA J<|aA J<|O<|aT J<|az<|ai<|ar<|aa<|Y J<|ab J J (fR J J (dh.eJ))<|br 44 (v':=.bool false) J (by simp)<|O<|aT J<|az<|ai ?_
 have hs:ii s k xs dA=(oC ⟨s.size,s.calls,jt s.l ⟨k,e.dA,e.bytes++xs,e.gj⟩⟩,0):=by unfold ii; rw [if_neg f2,if_neg gx,if_neg (by rw [hf]; simp; omega),hf]
 subst iU
 have oV:KI ⟨s.size,s.calls,jt s.l ⟨e.name,e.dA,e.bytes++xs,e.gj⟩⟩:=by have h8:=hi.append e.name xs dA se; unfold ii at h8; rw [if_neg f2,if_neg gx,if_neg (by rw [hf]; simp; omega),hf] at h8; exact ⟨hi.size,hi.calls,h8.inc,h8.len,h8.eU,h8.ok⟩
 have hdt:=CG hi.inc he
 have Gp:=ST (e':=⟨e.name,e.dA,e.bytes++xs,e.gj⟩) hi.inc he rfl
 have Gm:=SS (e':=⟨e.name,e.dA,e.bytes++xs,e.gj⟩) hi.inc he rfl rfl
 refine As hi.inc he λA c=>aa<|Y J<|Y J<|aS J<|ao J<|ax J J<|Y J<|vZ (R:=aI .u8) J J J J J (bR.dT al hx) (by omega) λPb Pc=>aS J<|ao J<|aE J J<|O<|aa<|Y J<|aS J<|ao J<|ax J J<|Y J<|ab J J (bY J)<|ab J J (jb J J (by omega))<|aS J<|ao J<|aE J J<|O<|b_ (Oh (A:=Pb) (c:=Pc) (l:=s.l) ⟨e.name,e.dA,e.bytes++xs,e.gj⟩)<|b_ (H0 b bt ⟨s.size,s.calls,jt s.l ⟨e.name,e.dA,e.bytes++xs,e.gj⟩⟩ (n:=jA s - (xs.length:Int)) (m:=gI s.l) (by unfold jA; dsimp only at Gp ⊢; rw [eQ] at Gp; omega) Gm oV)<|aa<|Y J<|aB J J (Kw)<|ae J<|O<|av ?_
 rw [hs]
 exact cI J J
theorem adv {e1 e2:dQ} (hn:e1.name=e2.name) (hb:e1.dA=e2.dA):gI (jt l e1)=gI (jt l e2):=by
 unfold jt u_; rw [hn]; simp [gI,hn,hb]
theorem XZ {xs:List Int} (k:ByteArray) (hk:k.size<=cE) (hx:bR L (aI .u8) A0 c0 xs) (se:∀ x∈xs,0<=x/\x<=255) (kY:xs.length<=cE) (hf:fM s.l k=none):Fn prog 303 #[.pointer (some ⟨b,0,none⟩),.string k,.slice A0 xs.length c0] (dk b bt s::L) (λv L'=>∃ dA,v=.int .i64 (ii s k xs dA).2/\L'=dk b bt (ii s k xs dA).1::L):=by
 have Oi:=kY
 simp only [cE] at Oi
 have tp:=LL hf
 refine aH func303 J J J J<|aa<|ae J<|O<|ar<|aX<|aa<|Y J<|aB J J (Ck)<|aV 10 (.bool true) J<|ab J J (df J)<|ae J<|O<|aT J<|aa<|Y J<|aB J J (rH _ k hk)<|ab J J (iF J)<|ae J<|O<|bz J (λf2=> ?_) (λf2=> ?_)
 ·refine aa<|ae J<|O<|av<|db<|aU ?_
  exact aZ J J al (⟨0,by unfold ii; rw [if_pos f2],by unfold ii; rw [if_pos f2]⟩)
 refine az<|bA<|ai<|ar<|aa<|Y J<|aB J J (Hw)<|O<|bz J (λgx=> ?_) (λgx=> ?_)
 ·refine aa<|ae J<|O<|av<|aU ?_
  exact aZ J J al (⟨0,by unfold ii; rw [if_neg f2,if_pos gx],by unfold ii; rw [if_neg f2,if_pos gx]⟩)
 refine az<|ai<|wX λhi=> ?_
 have hz:=hi.size
 have ht:=hi.eU
 have BL:jA s=s.size - (gS s.l:Int):=rfl
 refine aa<|Y J<|aS J<|ao J<|ax J J<|Y J<|ab J J (pT (k:=k) J J hk)<|br 23 (v':=.pointer none) J (by rw [EO]; unfold kl; rw [hf]; rfl)<|ae J<|O<|ar<|aa<|Y J<|ab J J (bY J)<|Y J<|aS J<|ao J<|ax J J<|jJ 13 42 (jA s < (xs.length:Int)\/(fM s.l k=none/\64<=s.l.length)) ?_ ?_
 ·refine ab J J (eE J J)<|Y J<|dl 31 J (λjV=> ?_) (λjV=> ?_)
  ·refine ah J<|ah J<|ah J<|g8 J J J<|g8 J J J<|g8 J J J<|g8 J J J<|g8 J J J<|g8 J J J<|ah J<|aA J<|dH J ?_ (by repeat (first | exact dI | refine dJ rfl ?_)) al
   exact bi Value.bool (dV (by rw [hf]; simp; omega)).symm
  refine aj J<|Y J<|aj J<|ab J J (fR J J (dh.eJ))<|br 33 (v':=.bool true) J (by simp)<|aj J<|Y J<|aj J<|Y J<|aj J<|aS J<|aj J<|ao J<|aj J<|ax J J<|aj J<|ab J J (Cz J)<|br 39 (v':=.int .i64 (s.l.length:Int)) J (by simp)<|aj J<|ab J J (eV J J)<|aj J<|aA J<|aA J<|dH J ?_ (by repeat (first | exact dI | refine dJ rfl ?_)) al
  exact bi Value.bool (gX.2 (by rw [hf]; simp; omega))
 refine O<|bz J (λJM=> ?_) (λJM=> ?_)
 ·refine aa<|ae J<|O<|av<|aU<|aF.ay (pf b bt s hi) ?_
  exact aZ J J al (⟨0,by unfold ii; rw [if_neg f2,if_neg gx,if_pos JM],by unfold ii; rw [if_neg f2,if_neg gx,if_pos JM]⟩)
 refine az<|ai<|ar<|aa<|Y J<|ab J J (fR J J (dh.eJ))<|br 44 (v':=.bool true) J (by simp)<|O<|cg J<|aa<|ab J J (bI J J)<|bS J J J λn8=>ae J<|O<|aQ<|Y J<|aS J<|ao J<|ax J J<|Y J<|Y J<|sH (R:=l6) (k:=k) (u:=n8) (cs:=[.pointer (some ⟨n8,0,none⟩)]) (gI (jt s.l ⟨k,n8,[],0⟩)) J J J hk (bV.const (agC n8)) (ae2 s.l ⟨k,n8,[],0⟩)<|O<|ai ?_
 have hs:ii s k xs n8=(oC ⟨s.size,s.calls,jt s.l ⟨k,n8,xs,0⟩⟩,0):=by unfold ii; rw [if_neg f2,if_neg gx,if_neg JM,hf]
 have oV:KI ⟨s.size,s.calls,jt s.l ⟨k,n8,xs,0⟩⟩:=by have h8:=hi.append k xs n8 se; rw [hs] at h8; exact ⟨hi.size,hi.calls,h8.inc,h8.len,h8.eU,h8.ok⟩
 have Gp:=EK (l:=s.l) ⟨k,n8,xs,0⟩
 have Gm:=adv (l:=s.l) (e1:=⟨k,n8,xs,0⟩) (e2:=⟨k,n8,[],0⟩) rfl rfl
 refine b_ (du (aI .u8) 5 none _)<|aa<|Y J<|Y J<|aS J<|ao J<|ax J J<|Y J<|vZ (R:=aI .u8) (xs:=[]) J J J J J (bR.dT al hx) (by simp; omega) λPb Pc=> ?_
 rw [dm]
 refine aS J<|ao J<|aE J J<|O<|aa<|Y J<|aS J<|ao J<|ax J J<|Y J<|ab J J (bY J)<|ab J J (jb J J (by omega))<|aS J<|ao J<|aE J J<|O ?_
 rw [show s.l.map fH=(iR s.l k).map fH by rw [tp]]
 refine b_ (Oh (A:=Pb) (c:=Pc) (l:=s.l) ⟨k,n8,xs,0⟩)<|b_ (H0 b bt ⟨s.size,s.calls,jt s.l ⟨k,n8,xs,0⟩⟩ (n:=jA s - (xs.length:Int)) (m:=gI (jt s.l ⟨k,n8,[],0⟩)) (by unfold jA; dsimp only at Gp ⊢; rw [tp] at Gp; omega) Gm oV)<|aa<|Y J<|aB J J (Kw)<|ae J<|O<|av ?_
 exact aZ J J al (⟨n8,by rw [hs],by rw [hs]⟩)
theorem X0 {xs:List Int} (k:ByteArray) (hk:k.size<=cE) (hx:bR L (aI .u8) A0 c0 xs) (se:∀ x∈xs,0<=x/\x<=255) (kY:xs.length<=cE):Fn prog 303 #[.pointer (some ⟨b,0,none⟩),.string k,.slice A0 xs.length c0] (dk b bt s::L) (λv L'=>∃ dA,v=.int .i64 (ii s k xs dA).2/\L'=dk b bt (ii s k xs dA).1::L):=by
 cases hf:fM s.l k with
 | none=>exact XZ k hk hx se kY hf
 | some e=>exact (XY k hk 0 hx se kY hf).rM λv L' h=>⟨0,h⟩
end Go.SL
namespace Go.Proofs
open Go.Shelf
shelf_lay Lays.n190 Nm 190 at Tryz as Tryz.lays190
end Go.Proofs
namespace Go.SL
open Go Go.Proofs Go.Proofs.Tryz
def j4 (s:ByteArray):List UInt8:=s.data.toList
def yx (l:List UInt8):ByteArray:=⟨l.toArray⟩
theorem HC (s:ByteArray):yx (j4 s)=s:=by cases s; simp [yx,j4]
def t5 (ss:List (List UInt8)):List (List UInt8):=ss.mergeSort λx y=>decide (x<=y)
def ju (xs:List ByteArray):List ByteArray:=(t5 (xs.map j4)).map yx
theorem Ez (xs:List ByteArray):(ju xs).Perm xs:=by
 have:=(List.mergeSort_perm (xs.map j4) λx y=>decide (x<=y)).map yx
 rw [sE,show yx ∘ j4=id from funext HC,Cj] at this
 exact this
theorem Ep (xs:List ByteArray):(ju xs).length=xs.length:=(Ez xs).length_eq
theorem agE {xs ys:List ByteArray} (h:xs.Perm ys) (hy:ys.Pairwise λx y=>j4 x < j4 y):ju xs=ys:=by
 have h1:(t5 (xs.map j4)).Perm (ys.map j4):=(List.mergeSort_perm _ _).trans (h.map _)
 have h2:(t5 (xs.map j4)).Pairwise (λx y=>x<=y):=by
  have:=Kn (le:=λx y:List UInt8=>decide (x<=y)) (λa b c h1 h2=>by simp at h1 h2 ⊢; exact List.le_trans h1 h2) (λa b=>by simp; exact List.le_total a b) (xs.map j4)
  exact this.imp λh=>by simpa using h
 have h3:t5 (xs.map j4)=ys.map j4:=h1.eq_of_pairwise (λa b _ _ h1 h2=>List.le_antisymm h1 h2) h2 (oh.2 (hy.imp λh=>List.le_of_lt h))
 unfold ju
 rw [h3,sE,show yx ∘ j4=id from funext HC,Cj]
variable{L:List HP}{A:Option Addr}{c:Nat}
theorem abR {xs:List ByteArray} (hb:xs.length < 4611686018427387904):Fn prog 385 #[.slice A xs.length c] (aN jO 9 A c xs::L) (λv L'=>v=.tuple #[]/\L'=aN jO 9 A c (ju xs)::L):=λo w hs=>by
 obtain ⟨M,k,hd,hM,hk,h1,h2,eW,l1,l2,hp,hsep⟩:=hs.ex
 rcases hp.2 with ⟨rfl,rfl⟩ | ⟨g,cur,rfl,hg,ew,hl,hc,hx⟩
 ·refine (Any.slices_Sort_string_none lays190 A 0 w).mono ?_
  rintro e w' ⟨rfl,rfl⟩
  exact ⟨_,_,rfl,⟨rfl,rfl⟩,by rw [show ju []=[] by simp [ju,t5]]; exact hs⟩
 ·have gu:w.heap[g]? =some (.cells cur 9 (0,0)):=hk _ _ (l1 _ _ hg)
  have cL:g < w.heap.size:=(uy.1 gu).1
  have FE:∀ i x,xs[i]? =some x->cur[i]? =some (Value.string x)/\x.size<=cE:=λi x hi=>by
   obtain ⟨l,⟨rfl,gV⟩,h⟩:=hx i x hi
   have:=h 0 _ rfl
   exact ⟨by simpa [jO] using this,gV⟩
  have fV:∀ x∈xs,x.size<=cE:=λx hx=>by
   obtain ⟨i,hi⟩:=od hx
   exact (FE i x hi).2
  have ajY:∀ x:ByteArray,Go.Proofs.encStr (j4 x)=Value.string x:=λx=>by cases x; simp [Go.Proofs.encStr,j4]
  have hH:Go.Sort.Holds Go.Proofs.encStr w g 0 (xs.map j4).toArray:=λj hj=>by
   have qq:j < xs.length:=by simpa using hj
   refine ⟨?_,by simp [World.frozen?,gu]⟩
   rw [nD,rK gu,(FE j _ (cj qq)).1]
   simp [qq,ajY]
  have jf:bH o w (own g (.cells cur 9 (0,0))::L):=⟨⟨M,k,hd,hM,hk,h1,h2,eW,l1,l2,hg,hsep⟩,hs.os,hs.tape,hs.output,hs.size⟩
  have V2:=Any.slices_Sort_string lays190 g 0 c (xs.map j4) w hH cL (by simpa using hb)
  rw [gY] at V2
  refine V2.mono ?_
  rintro e w' ⟨rfl,n,os,rfl⟩
  have Od:bH o (Go.Sort.putRow Go.Proofs.encStr (Go.Sort.ahead w n) g 0 (t5 (xs.map j4)).toArray) (own g (.cells (Go.Sort.putCells Go.Proofs.encStr 0 (t5 (xs.map j4)).toArray cur) 9 (0,0))::L):=by
   refine (jf.ahead n).set ?_ ?_ rfl rfl rfl ?_
   ·show ((Go.Sort.ahead w n).heap.modify g (Go.Sort.onCells _))[g]? =_
    rw [qD,if_pos rfl,show (Go.Sort.ahead w n).heap[g]? =w.heap[g]? from rfl,gu]; rfl
   ·intro i hi
    show ((Go.Sort.ahead w n).heap.modify g (Go.Sort.onCells _))[i]? =_
    rw [qD,if_neg (Ne.symm hi)]
   ·show _<=((Go.Sort.ahead w n).heap.modify g (Go.Sort.onCells _)).size
    simp
  refine ⟨_,_,rfl,⟨rfl,rfl⟩,(Od.grow os).ay λN m ⟨a1,a2,ad,m1,m2,ha,fm⟩=>⟨a1,a2,ad,m1,m2,⟨by rw [Ep]; exact hp.1,.inr ⟨g,_,rfl,ha, ?_,by rw [Ep]; exact hl,hc,λi x hi=> ?_⟩⟩,fm⟩⟩
  ·simp [Go.Sort.putCells,ew]
  ·have hm:=eA hi
   have eG:i < (ju xs).length:=(dX.1 hi).1
   refine ⟨[.string x],⟨rfl,fV x ((Ez xs).mem_iff.1 hm)⟩,λj v hj=> ?_⟩
   have O7:j=0:=by
    have:=(dX.1 hj).1
    simp at this; exact this
   subst O7
   simp at hj
   subst hj
   have JI:i < cur.size:=by rw [ew]; rw [Ep] at eG; simp [jO]; omega
   have V3:i < (t5 (xs.map j4)).length:=by unfold ju at eG; rwa [gY] at eG
   have vr:yx (t5 (xs.map j4))[i]=x:=by
    have:=hi; unfold ju at this; rw [e_,cj V3] at this; exact ez this
   have Pd:Go.Proofs.encStr (t5 (xs.map j4))[i]=Value.string x:=by rw [<- vr]; simp [Go.Proofs.encStr,yx]
   simp [Go.Sort.putCells,jO,Array.getElem?_mapIdx,V3,Pd,D' JI]
open Go Go.Proofs Go.Proofs.Tryz
structure Fo where
 xs:List ByteArray
 A:Option Addr
 c:Nat
def Uy:LS Fo->ByteArray->LS Fo->Prop:=λs x s'=>s'.2=none/\s'.1.xs=s.1.xs++[x]
theorem ae6 {s s':LS Fo} {xs:List ByteArray} (h0:s.2=none) (h:gH Uy (λs=> !s.2.isNone) s xs s'):s'.2=none/\s'.1.xs=s.1.xs++xs:=by
 induction h with
 | nil s=>exact ⟨h0,by simp⟩
 | halt a b=>rw [a.1] at b; simp at b
 | go a b c ih=>have:=ih a.1; rw [a.2] at this; simpa using this
variable{c:Value}{N:Nat}{Lf Lr:List HP}{hY:Bool->List ByteArray->Prop}
theorem X1 (hi:oA prog c (λk:ByteArray=>[.string k]) (λk=>k.size<=cE) N Lf hY) (hN:N<=2199023255552):Fn prog 442 #[.slice none 0 0,c] (Lf++Lr) (λv L'=>∃ A' c' xs,v=.slice A' xs.length c'/\hY false xs/\L'=aN jO 9 A' c' xs::(Lf++Lr)):=by
 refine ye func442 J J J J<|aa<|bS J J J λb2=>ae J<|O<|ar<|aa<|Y J<|O<|aX<|xY (λg:Fo=>[cells b2 [.slice g.A g.xs.length g.c] 140,aN jO 9 g.A g.c g.xs]) (Uy) (λg:Fo=>g.xs.length) (⟨[],none,0⟩) J (hi) ((du jO 9 none _).trans (am.swap _ _ _)) (by decide) (λ_=>J) J (λs x s' h=>by rw [h.2]; simp) (λBg Bh g x Lx hx cL=> ?_) (λBi xs g oM gR=> ?_)
 ·obtain ⟨xs,A,c⟩:=g
  dsimp only at cL
  try simp only [dL,dm]
  refine aQ<|ae J<|O ?_
  refine ⟨rfl,_,cR.g, ?_⟩
  refine aX<|aQ<|ax J J<|Y J<|ef J J J J J J λmr=> ?_
  refine eh (k:=1) jO [x] (bV.const λM=>⟨[.string x],[],⟨J,hx⟩,J,J⟩) J (by decide)<|bF<|aV 10 (.slice (some ⟨mr,0,none⟩) [x].length 1) J ?_
  exact fi J J J J J slk (by simp only [dO,ej]; omega) λkZ k9=>aE J J<|O<|bA<|⟨⟨xs++[x],kZ,k9⟩,none,J,⟨J,J⟩,al⟩
 obtain ⟨⟨ys,A,c⟩,j⟩:=g
 obtain ⟨rfl,h2⟩:=ae6 rfl gR
 dsimp only at h2
 rw [dm] at h2
 subst h2
 try simp only [dL,dm]
 exact Cm<|bA<|ai<|aa<|ax rfl rfl<|ae rfl<|O<|av<|qZ<|aZ rfl rfl al (⟨A,c,ys,rfl,oM,rfl⟩)
theorem YM (hi:oA prog c (λk:ByteArray=>[.string k]) (λk=>k.size<=cE) N Lf hY) (hN:N<=2199023255552):Fn prog 384 #[c] (Lf++Lr) (λv L'=>∃ A' c' xs,v=.slice A' xs.length c'/\hY false xs/\L'=aN jO 9 A' c' xs::(Lf++Lr)):=by
 refine aH func384 J J J J<|aa<|ae J<|O<|aa<|Y J<|aJ J J (X1 hi hN) ?_
 rintro _ _ ⟨A4,c4,xs,rfl,hs,rfl⟩
 exact ae J<|O<|av<|aZ J J al (⟨A4,c4,xs,J,hs,J⟩)
theorem QZ (hi:oA prog c (λk:ByteArray=>[.string k]) (λk=>k.size<=cE) N Lf hY) (hN:N<=2199023255552):Fn prog 329 #[c] (Lf++Lr) (λv L'=>∃ A' c' xs,v=.slice A' (ju xs).length c'/\hY false xs/\L'=aN jO 9 A' c' (ju xs)::(Lf++Lr)):=by
 refine aH func329 J J J J<|aa<|ae J<|O<|aa<|Y J<|aJ J J (YM hi hN) ?_
 rintro _ _ ⟨A5,c5,xs,rfl,hs,rfl⟩
 refine EQ Uc (λ_ h=>h) λug=> ?_
 simp only [cE] at ug
 refine ae J<|O<|aa<|Y J<|aB J J (abR (by omega))<|O<|aa<|Y J<|ae J<|O<|av ?_
 rw [<- Ep xs]
 exact aZ J J al (⟨A5,c5,xs,J,hs,J⟩)
variable{ag:Bool}{b bx l:Nat}{Lx:List HP}
theorem aaz {β:Type} {R:bZ β} {m:List (ByteArray × β)} {τ:Type} {C:τ->HP} {step:τ->ByteArray->τ->Prop} {stop:τ->Bool} {ek:τ->Nat} {s0:τ} (h0:stop s0=false) (n6:ek s0=0) (ip:∀ s x s',step s x s'->ek s'=ek s+1) (hy:Ak prog l C (λk:ByteArray=>[.string k]) (λk=>k.size<=cE) step stop ek m.length):
  Fn prog 386 #[.func (.yield l) #[] #[],.pointer (some ⟨bx,0,none⟩)] (fP l (C s0)::cells bx [.map (some b)] 132::cy fb R ag b m::Lx)
   (λv L'=>∃ xs s',(stop s'=false->xs.Perm (m.map (·.1)))/\gH step stop s0 xs s'/\L'=fP l (C s')::cells bx [.map (some b)] 132::cy fb R ag b m::Lx):=by
 refine aH func386 J J J J<|aa<|ax J J<|Aa J J λit=>O<|aX<|cY (σ:=List (ByteArray × β) × τ) [0,5] (λg=>gH step stop s0 (g.1.map (·.1)) g.2/\stop g.2=false/\ek g.2=g.1.length) (λg kv=>kv) (λg=>fP l (C g.2)::na fb R ag b it m g.1::cells bx [.map (some b)] 132::Lx) (λg=>m.length - g.1.length) (([],s0)) J (⟨.nil _,h0,n6⟩) (al) (dc J) ?_
 rintro ⟨done,s⟩ ⟨hr,hs,hc⟩
 dsimp only at hr hs hc ⊢
 refine aa<|Ai J J (λhp=> ?_) (λq1 xo hq mK cL=> ?_)
 ·refine ab J J (aO J J)<|aV 7 (.bool false) J<|O<|ar<|aT J<|cw<|aY<|aY<|cu ?_
  exact aF.ay (tc it)<|lj (.inr J) J bu.g (⟨_,s,λ_=>hp.map _,hr,J⟩)
 refine ab J J (aO J J)<|aV 7 (.bool true) J<|O<|ar<|cg J<|az<|ai<|aX<|aa<|CF J J λJH xt=>ab J J (aO J J)<|ae J<|O<|aa<|Y J<|Y J ?_
 refine aP l<|yj J J J (hy s q1.1 _ hs xt (by omega)) ?_
 rintro _ _ ⟨s2,cK,rfl,rfl⟩
 refine ab J J (ff J)<|O<|gF J (λka=> ?_) (λka=> ?_)
 ·have eF:stop s2=true:=by simpa using ka
  refine av<|db<|aU<|db ?_
  exact aF.ay (tc it)<|lj (.inl J) J bu.g (⟨_,s2,λh=>(by rw [eF] at h; cases h),hr.snoc h0 hs cK,J⟩)
 have eF:stop s2=false:=by simpa using ka
 refine az<|bA<|ai ?_
 exact ⟨(done++[q1],s2),⟨by rw [kp]; exact hr.snoc h0 hs cK,eF,by rw [ip _ _ _ cK,hc]; simp⟩,by simp only [eQ,dO,ej]; omega,bO rfl⟩
theorem abS {β:Type} {R:bZ β} {m:List (ByteArray × β)}:oA prog (.func (.func 386) #[] #[.pointer (some ⟨bx,0,none⟩)]) (λk:ByteArray=>[.string k]) (λk=>k.size<=cE) m.length [cells bx [.map (some b)] 132,cy fb R ag b m] (λs ks=>s=false->ks.Perm (m.map (·.1))):=
 ⟨_,[],[.pointer (some ⟨bx,0,none⟩)],rfl,inferInstance,λτ l C step stop ek s0 Lx h0 hc ip hy=>(aaz h0 hc ip hy).rM λv L' ⟨xs,s',a1,a2,a3⟩=>⟨xs,s',a1,a2,a3⟩⟩
theorem abT:Fn prog 330 #[.map (some b)] L (λv L'=>∃ bx,v=.func (.func 386) #[] #[.pointer (some ⟨bx,0,none⟩)]/\L'=cells bx [.map (some b)] 132::L):=by
 exact aH func330 J J J J<|aa<|bS J J J λb1=>ae J<|O<|aa<|ab J J (gy J J)<|ae J<|O<|av<|aZ J J al (⟨b1,J,J⟩)
open Go Go.Proofs Go.Proofs.Tryz
structure Fp where
 name:ByteArray
 bytes:ByteArray
 gj:Int
abbrev NH (f:Fp):List Value:=[.string f.name,.string f.bytes,.int .i64 f.gj]
def U8 (f:Fp):Prop:=f.name.size<=cE/\f.bytes.size<=cE/\bP .i64 f.gj
def yI:bZ Fp:=⟨3,λ_ a cs=>cs=NH a/\U8 a,λ_ h=>h,λh=>by rw [h.1]; rfl,λh v hv=>by rw [h.1] at hv; simp at hv; rcases hv with rfl | rfl | rfl <;> rfl⟩
abbrev ai9 (f:Fp):Value:=.agg (List.toArray (NH f))
def qb (e:dQ):Fp:=⟨e.name,strOfNums e.bytes,e.gj⟩
theorem ae7 (xs:List Int):(strOfNums xs).size=xs.length:=by simp [strOfNums,ByteArray.size]
variable{l:List dQ}{e:dQ}
theorem Id (he:e∈l):e.bytes.length<=gS l:=by
 induction l with
 | nil=>cases he
 | cons x r ih=>
  rw [CB]
  rcases ig.1 he with rfl | he
  ·omega
  ·have:=ih he; omega
variable{s:eM}
theorem agF (hi:KI s) (he:e∈s.l):U8 (qb e):=by
 have h1:=hi.ok e he
 have h2:=Id he
 have h3:=hi.eU
 have h4:=hi.size
 refine ⟨by show e.name.size<=cE; simp only [cE]; omega,by show (strOfNums e.bytes).size<=cE; rw [ae7]; simp only [cE]; omega,show bP .i64 e.gj from da (by omega)⟩
def At (l:List dQ):List ByteArray:=l.map λe=>e.name
structure FsG where
 i:Nat
 A:Option Addr
 c:Nat
variable{bt:Nat}
theorem Qz:Fn prog 227 #[.pointer (some ⟨b,0,none⟩)] (dk b bt s::L) (λv L'=>∃ A c,v=.slice A (s.l.map qb).length c/\L'=aN yI 354 A c (s.l.map qb)::dk b bt s::L):=by
 refine aH func227 J J J J<|aa<|ae J<|O<|ar<|aa<|Y J<|aB J J (Ck)<|aV 8 (.bool true) J<|ab J J (df J)<|O<|aT J<|az<|ai<|aa<|ae J<|O<|ar<|wX λhi=> ?_
 have eP:=hi.len
 have wY:=hi.eU
 have ew:=hi.size
 refine aa<|Y J<|aS J<|ao J<|ax J J<|aJ J J (abT) ?_
 rintro _ _ ⟨bx,rfl,rfl⟩
 refine bX (show am _ (cells bx [.map (some bt)] 132::cy fb l6 false bt (gI s.l)::cells b [.map (some bt),.int .i64 (jA s),.int .i64 s.calls] 134::c_ (s.l.map fH)::L) from al)<|aJ J J (QZ (Lf:=[cells bx [.map (some bt)] 132,cy fb l6 false bt (gI s.l)]) (Lr:=cells b [.map (some bt),.int .i64 (jA s),.int .i64 s.calls] 134::c_ (s.l.map fH)::L) (abS (R:=l6) (ag:=false) (b:=bt) (bx:=bx) (m:=gI s.l)) (by simp; omega)) ?_
 rintro _ _ ⟨vB,uk,ks,rfl,tW,rfl⟩
 rw [show ju ks=At s.l from agE (by have:=tW rfl; rwa [sE] at this) (oh.2 (hi.inc.imp λh=>Ip.1 h))]
 simp only [dL,dm]
 refine bF<|ab J J (bY J)<|br 16 (v':=.int .i64 (s.l.length:Int)) J (by simp [At])<|Y J ?_
 refine bX (show am _ (aN yI 354 none 0 ((s.l.take 0).map qb)::_) from du yI 354 none _)<|O<|aX<|cY (σ:=FsG) [0,15,16] (λg=>g.i<=s.l.length) (λg kv=>(3,.slice g.A ((s.l.take g.i).map qb).length g.c)::(17,.int .i64 (g.i:Int))::kv) (λg=>aN yI 354 g.A g.c ((s.l.take g.i).map qb)::sl jO vB uk (At s.l)::cells b [.map (some bt),.int .i64 (jA s),.int .i64 s.calls] 134::cy fb l6 false bt (gI s.l)::c_ (s.l.map fH)::L) (λg=>s.l.length - g.i) (⟨0,none,0⟩) J (dF _) (al) (dc J) ?_
 rintro ⟨i,X,cx⟩ eG
 dsimp only at eG ⊢
 refine aa<|ab J J (bU J J)<|O<|ar<|bz J (λjG=> ?_) (λjG=> ?_)
 ·refine az<|ai<|ar<|aX ?_
  obtain ⟨e,he⟩:∃ e,s.l[i]? =some e:=⟨_,cj (by omega)⟩
  have oR:=eA he
  have hu:(At s.l)[i]? =some e.name:=by unfold At; rw [e_,he]; rfl
  have ul:=agF hi oR
  have gW:(s.l.take i).map qb++[qb e]=(s.l.take (i+1)).map qb:=by rw [ll he,kp]; rfl
  refine gr (bJ (A:=vB) (c:=uk) (R:=jO)) hu λbq oq eq=> ?_
  subst eq
  refine aa<|ab J J (iX (R:=jO) (xs:=At s.l) J J J hu)<|ab J J (gi (R:=jO) (c:=uk) (xs:=At s.l) (q:=0) J bJ hu J)<|ae J<|O<|aa<|Y J<|aS J<|ao J<|ax J J<|Y J<|ab J J (pT (k:=e.name) J J ul.1)<|br 26 (v':=.pointer (some ⟨e.dA,0,none⟩)) J (by rw [EO]; unfold kl; rw [hi.inc.find oR]; rfl)<|ae J<|O<|As hi.inc oR λA8 c8=>i5 (cells e.dA [.slice A8 e.bytes.length c8,.int .i64 e.gj] 268::aN (aI .u8) 5 A8 c8 e.bytes::[]) [] [0,2,4,6,8,10,12,14,16,18,20,22,25,27,28] (by kernel_rfl) al<|aq J J<|aq J J<|aq J J<|aL J J<|aw J J<|aG J J J<|ak J J (i9 J bJ)<|aq J J<|aL J J<|aw J J<|aG J J J<|ak J J (bI J J)<|oH 38 (ai9 (qb e)) J<|an J<|ef J J J J J J λum=> ?_
  refine eh (k:=1) yI [qb e] (bV.const λM=>⟨NH (qb e),[],⟨J,ul⟩,J,J⟩) J (by decide)<|bF<|aV 39 (.slice (some ⟨um,0,none⟩) [qb e].length 1) J<|au<|an J ?_
  refine fi J J J J J slk (by simp only [dO,ej,gY,gq]; omega) λOV OW=> ?_
  rw [gW]
  refine au<|ak J J (bT J)<|aR<|bA<|ai ?_
  refine b_ (E8 (A:=A8) (c:=c8) hi.inc oR)<|aQ<|ab J J (bE J J (by omega))<|cz 41 J<|Y J ?_
  refine bX (show am _ (aN yI 354 none 0 ((s.l.take 0).map qb)::_) from du yI 354 none _)<|O<|ai ?_
  exact ⟨⟨i+1,OV,OW⟩,(by simp only; omega),by simp only; omega,bO rfl⟩
 refine cw<|aY<|aY<|cu<|ai<|aa<|Y J<|ae J<|O<|av ?_
 rw [gQ (show s.l.length<=i by omega)]
 refine aF.ay (pf b bt s hi) ?_
 exact aF.ay (show am _ (aN yI 354 X cx (s.l.map qb)::dk b bt s::L) from al)<|aZ J J al (⟨X,cx,J,J⟩)
open Go Go.Proofs Go.Proofs.Tryz
abbrev kx:=ByteArray × Int
abbrev NJ (t:kx):List Value:=[.string t.1,.int .i64 t.2]
def ahY (t:kx):Prop:=t.1.size<=cE/\bP .i64 t.2
def Fq:bZ kx:=⟨2,λ_ a cs=>cs=NJ a/\ahY a,λ_ h=>h,λh=>by rw [h.1]; rfl,λh v hv=>by rw [h.1] at hv; simp at hv; rcases hv with rfl | rfl <;> rfl⟩
instance:oJ Fq NJ:=⟨λ_ _ _ h=>h.1⟩
def Gq (s:eM) (t:kx):Prop:=∃ e,fM s.l t.1=some e/\0<=t.2/\t.2<=(e.bytes.length:Int) - e.gj
instance (s:eM) (t:kx):Decidable (Gq s t):=by
 unfold Gq
 cases h:fM s.l t.1 with
 | none=>exact isFalse (by rintro ⟨e,h1,_⟩; cases h1)
 | some e=>exact decidable_of_iff (0<=t.2/\t.2<=(e.bytes.length:Int) - e.gj) ⟨λh=>⟨e,rfl,h⟩,λ⟨e2,h1,h2⟩=>by cases h1; exact h2⟩
def pV (s:eM) (keep:List kx):Prop:=keep.Pairwise (λp q=>p.1≠q.1)/\∀ t∈keep,Gq s t
instance (s:eM) (keep:List kx):Decidable (pV s keep):=by unfold pV; exact inferInstance
def nr (keep:List kx) (k:ByteArray):Int:=(cq keep k).getD 0
def pA (keep:List kx) (e:dQ):dQ:=⟨e.name,e.dA,e.bytes.take (e.gj+nr keep e.name).toNat,e.gj+nr keep e.name⟩
def IA (s:eM) (keep:List kx):eM:=⟨s.size,-1,s.l.map (pA keep)⟩
variable{keep:List kx}
theorem Nc (hi:KI s) (hc:pV s keep) (he:e∈s.l):0<=nr keep e.name/\nr keep e.name<=(e.bytes.length:Int) - e.gj:=by
 unfold nr
 have h1:=hi.ok e he
 cases hg:cq keep e.name with
 | none=>exact ⟨qJ _,by show (0:Int)<=_; omega⟩
 | some n=>
  obtain ⟨e2,q1,q2,q3⟩:=hc.2 _ (wj hg)
  rw [hi.inc.find he] at q1; cases q1
  exact ⟨q2,q3⟩
theorem j8.TO (h:j8 l) (f:dQ->dQ) (hn:∀ e,(f e).name=e.name):j8 (l.map f):=oh.2 (h.imp λh=>by rw [hn,hn]; exact h)
theorem ae8 (f:dQ->dQ) (hn:∀ e,(f e).name=e.name) (hb:∀ e,(f e).dA=e.dA):gI (l.map f)=gI l:=by
 unfold gI; rw [sE]; exact zN λe _=>by simp [hn,hb]
theorem Uz (f:dQ->dQ) (h:∀ e∈l,(f e).bytes.length<=e.bytes.length):gS (l.map f)<=gS l:=by
 induction l with
 | nil=>exact fo _
 | cons x r ih=>
  rw [kq,CB,CB]
  have h1:=h x ie
  have h2:=ih λe he=>h e (gO _ he)
  omega
noncomputable local instance als (k:ByteArray) (l:List ByteArray):Decidable (k∈l):=Classical.propDecidable _
abbrev sf (done:List (ByteArray × Nat)):List ByteArray:=done.map λq=>q.1
noncomputable def lD (keep:List kx) (l:List dQ) (done:List (ByteArray × Nat)):List dQ:=l.map λe=>if e.name∈sf done then pA keep e else e
theorem UA (keep:List kx) (done:List (ByteArray × Nat)) (e:dQ):(if e.name∈sf done then pA keep e else e).name=e.name:=by split <;> rfl
theorem Nd (hi:j8 s.l) (done:List (ByteArray × Nat)):j8 (lD keep s.l done):=hi.TO _ (UA keep done)
theorem Nf {done:List (ByteArray × Nat)} (he:e∈s.l) (hn:e.name∉sf done):e∈lD keep s.l done:=fY.2 ⟨e,he,by rw [if_neg hn]⟩
theorem UB (hi:j8 s.l) {done:List (ByteArray × Nat)} (he:e∈s.l) (hn:e.name∉sf done):(pA keep e::iR (lD keep s.l done) e.name).Perm (lD keep s.l (done++[(e.name,e.dA)])):=by
 have h1:=(CA (Nd (keep:=keep) hi done) (Nf he hn)).map λx:dQ=>if x.name=e.name then pA keep e else x
 have h2:(iR (lD keep s.l done) e.name).map (λx:dQ=>if x.name=e.name then pA keep e else x)=iR (lD keep s.l done) e.name:=by
  conv=>rhs; rw [<- Cj (iR (lD keep s.l done) e.name)]
  exact zN λx hx=>by rw [if_neg (Ic.1 hx).2]; rfl
 rw [kq,h2,if_pos rfl] at h1
 refine h1.trans (List.Perm.of_eq ?_)
 unfold lD
 rw [sE]
 refine zN λx hx=> ?_
 simp only [Function.comp]
 rw [UA]
 by_cases Pe:x.name=e.name
 ·have:x=e:=hi.inj hx he Pe
  subst this
  simp
 ·rw [if_neg Pe]
  have e1:(x.name∈sf (done++[(e.name,e.dA)]))↔x.name∈sf done:=by simp [Pe]
  by_cases JN:x.name∈sf done
  ·rw [if_pos JN,if_pos (e1.2 JN)]
  ·rw [if_neg JN,if_neg (λh=>JN (e1.1 h))]
theorem TP (hi:KI s) (hc:pV s keep) (he:e∈s.l):((pA keep e).bytes.length:Int)=e.gj+nr keep e.name:=by
 have h1:=Nc hi hc he
 have h2:=hi.ok e he
 show ((e.bytes.take (e.gj+nr keep e.name).toNat).length:Int)=_
 rw [gq]; omega
theorem ahZ (hi:KI s) (hc:pV s keep) {done:List (ByteArray × Nat)} (he:e∈s.l) (hn:e.name∉sf done):(gS (lD keep s.l (done++[(e.name,e.dA)])):Int)+((e.bytes.length:Int) - (e.gj+nr keep e.name))=(gS (lD keep s.l done):Int):=by
 have h1:=LM (UB (keep:=keep) hi.inc he hn)
 have h2:=CG (Nd (keep:=keep) hi.inc done) (Nf he hn)
 have h3:=TP hi hc he
 rw [CB] at h1
 omega
theorem ah0 {done:List (ByteArray × Nat)} (h:∀ e∈s.l,e.name∈sf done):lD keep s.l done=s.l.map (pA keep):=zN λe he=>if_pos (h e he)
theorem KI.ai_ (hi:KI s) (hc:pV s keep):KI (IA s keep):=by
 have gt:∀ e∈s.l,(pA keep e).bytes.length<=e.bytes.length:=λe he=>by show (e.bytes.take _).length<=_; rw [gq]; omega
 refine ⟨hi.size,⟨qJ _,show bP .i64 (-1) from da (by decide)⟩,hi.inc.TO _ λe=>rfl,by show (s.l.map _).length<=64; rw [gY]; exact hi.len, ?_,λq hq=> ?_⟩
 ·have h1:=Uz (pA keep) gt
  have h2:=hi.eU
  show (gS (s.l.map (pA keep)):Int)<=s.size
  omega
 ·obtain ⟨e,he,rfl⟩:=fY.1 hq
  have h1:=hi.ok e he
  have h2:=Nc hi hc he
  refine ⟨h1.1,by show 0<=e.gj+nr keep e.name; omega,by rw [TP hi hc he]; exact qJ _,λx hx=>h1.2.2.2 x (Cf hx)⟩
theorem abU (s:eM) (m:List kx) (t:kx):((cq m t.1).isSome=true)\/(cq m t.1=none/\fM s.l t.1=none)\/(cq m t.1=none/\∃ e,fM s.l t.1=some e/\¬ (0<=t.2/\t.2<=(e.bytes.length:Int) - e.gj))\/(cq m t.1=none/\∃ e,fM s.l t.1=some e/\(0<=t.2/\t.2<=(e.bytes.length:Int) - e.gj)):=by
 cases h1:cq m t.1 with
 | some n=>exact .inl rfl
 | none=>
  cases h2:fM s.l t.1 with
  | none=>exact .inr (.inl ⟨rfl,rfl⟩)
  | some e=>
   by_cases h3:0<=t.2/\t.2<=(e.bytes.length:Int) - e.gj
   ·exact .inr (.inr (.inr ⟨rfl,e,rfl,h3⟩))
   ·exact .inr (.inr (.inl ⟨rfl,e,rfl,h3⟩))
theorem aaA {lf ca:Int} {c:Nat} {n:Int} (hn:0<=n/\n<=(e.bytes.length:Int)) (hl:0<=lf/\lf<=1000000000) (vo:e.bytes.length<=1000000000):Fn prog 160 #[.pointer (some ⟨b,0,none⟩),.pointer (some ⟨e.dA,0,none⟩),.int .i64 n] (cells b [.map (some bt),.int .i64 lf,.int .i64 ca] 134::cells e.dA [.slice A e.bytes.length c,.int .i64 e.gj] 268::aN (aI .u8) 5 A c e.bytes::L) (λv L'=>v=.tuple #[]/\∃ A' c',L'=cells b [.map (some bt),.int .i64 (lf+((e.bytes.length:Int) - n)),.int .i64 ca] 134::cells e.dA [.slice A' (e.bytes.take n.toNat).length c',.int .i64 n] 268::aN (aI .u8) 5 A' c' (e.bytes.take n.toNat)::L):=by
 have mn:(e.bytes.take n.toNat).length=n.toNat:=by rw [gq]; omega
 refine aH func160 J J J J<|bR.lens (bJ (R:=aI .u8) (A:=A) (c:=c) (xs:=e.bytes)) λJO=>bW (cells b [.map (some bt),.int .i64 lf,.int .i64 ca] 134::cells e.dA [.slice A e.bytes.length c,.int .i64 e.gj] 268::[]) [14] [0,2,4,6,8,10,12,14,16,18,20,22,24,26,29] (by kernel_rfl) al<|aq J J<|aL J J<|aw J J<|aG J J J<|aq J J<|aL J J<|aw J J<|aG J J J<|ak J J (bY J)<|aq J J<|ak J J (jb J J (by omega))<|ak J J (bE J J (by omega))<|aL J J<|aw J J<|an J<|aE J J<|gZ J<|aR<|aQ<|Y J<|Y J<|Y J<|aS J<|ao J<|ax J J<|Y J<|ab J J (Ii J J (by omega))<|br 27 (v':=.slice A (e.bytes.take n.toNat).length c) J (by congr 1; omega)<|aJ J J (Rp ((bJ (R:=aI .u8) (A:=A) (c:=c) (xs:=e.bytes)).take n.toNat) (by omega)) ?_
 rintro _ _ ⟨la,kD,rfl,rfl⟩
 exact Y J<|aS J<|ao J<|aE J J<|aS J<|ao J<|aE J J<|O<|lj (.inr J) J bu.g (⟨J,la,kD,J⟩)
open Go Go.Proofs Go.Proofs.Tryz
theorem adw {κ α:Type} [DecidableEq κ] {m:List (κ × α)} {k:κ} (h:cq m k=none):fS m k=m:=rD.2 λq hq=>by simpa using o9.1 h q hq
variable{i:Nat}
theorem RY {t:kx} (ht:keep[i]? =some t) (h:(cq (keep.take i) t.1).isSome=true):¬ pV s keep:=λhc=>by
 obtain ⟨n,hn⟩:=xS.1 h
 have cL:=(dX.1 ht).1
 have e:keep=keep.take i++t::keep.drop (i+1):=by
  have h2:=(dX.1 ht).2
  conv=>lhs; rw [<- qE i keep,xQ cL,h2]
 have h1:=hc.1
 rw [e] at h1
 exact (Eb.1 h1).2.2 _ (wj hn) t ie rfl
theorem Ll {t:kx} (ht:keep[i]? =some t) (h:¬ Gq s t):¬ pV s keep:=λhc=>h (hc.2 t (eA ht))
theorem abV {m:List kx} {t:kx} (hc:pV s m) (hn:cq m t.1=none) (ho:Gq s t):pV s (m++[t]):=by
 refine ⟨Eb.2 ⟨hc.1,by simp,λa ha b hb=> ?_⟩,λx hx=> ?_⟩
 ·simp at hb; subst hb; exact o9.1 hn a ha
 ·rcases gD.1 hx with hx | hx
  ·exact hc.2 x hx
  ·simp at hx; subst hx; exact ho
theorem ah1 (keep:List kx) (l:List dQ):lD keep l []=l:=by
 unfold lD
 conv=>rhs; rw [<- Cj l]
 exact zN λe _=>by simp [sf]
theorem ai' (keep:List kx) (l:List dQ) (done:List (ByteArray × Nat)):gS (lD keep l done)<=gS l:=Uz _ λe he=>by
 split
 ·show (e.bytes.take _).length<=_; rw [gq]; omega
 ·exact fo _
theorem aja {done:List (ByteArray × Nat)} {c:Nat} (hi:j8 s.l) (he:e∈s.l) (hn:e.name∉sf done):am (cells e.dA [.slice A (e.bytes.take (e.gj+nr keep e.name).toNat).length c,.int .i64 (e.gj+nr keep e.name)] 268::aN (aI .u8) 5 A c (e.bytes.take (e.gj+nr keep e.name).toNat)::c_ ((iR (lD keep s.l done) e.name).map fH)::L) (c_ ((lD keep s.l (done++[(e.name,e.dA)])).map fH)::L):=by
 refine am.trans (o_ (f:=λp:Option Addr × Nat=>E7 (pA keep e) p.1 p.2) (L:=c_ ((iR (lD keep s.l done) e.name).map fH)::L) (A,c)) ?_
 exact LN.trans (HZ ((UB hi he hn).map fH))
theorem Yk {A0:Option Addr} {c0:Nat} (hk:bR L Fq A0 c0 keep):Fn prog 83 #[.pointer (some ⟨b,0,none⟩),.slice A0 keep.length c0] (dk b bt s::L) (λv L'=>v=.int .i64 (if pV s keep then 0 else 1)/\L'=dk b bt (if pV s keep then IA s keep else s)::L):=by
 refine aH func83 J J J J<|aa<|ae J<|O<|ar<|aa<|Y J<|aB J J (Ck)<|aV 14 (.bool true) J<|ab J J (df J)<|O<|aT J<|az<|ai<|bR.lens hk.tail λoQ=> ?_
 simp only [cE] at oQ
 refine wX λhi=> ?_
 have wY:=hi.eU
 have ew:=hi.size
 refine aa ?_
 refine o7 fb (aI .i64) false J λbk=> ?_
 refine bX (show am _ (cy fb (aI .i64) false bk (keep.take 0)::_) from am.refl _)<|ae J<|O<|ar<|aa<|Y J<|ab J J (bY J)<|Y J<|O<|aX<|cY (σ:=Nat) [0,5,17,18] (λi=>i<=keep.length/\pV s (keep.take i)) (λi kv=>(19,.int .i64 (i:Int))::kv) (λi=>cy fb (aI .i64) false bk (keep.take i)::cells b [.map (some bt),.int .i64 (jA s),.int .i64 s.calls] 134::cy fb l6 false bt (gI s.l)::c_ (s.l.map fH)::L) (λi=>keep.length - i) (0) J (⟨dF _,List.Pairwise.nil,by simp⟩) (al) (dc J) ?_
 rintro i ⟨eG,DH⟩
 refine aa<|ab J J (bU J J)<|O<|ar<|bz J (λjU=> ?_) (λjU=> ?_)
 ·refine az<|ai<|ar<|aX ?_
  obtain ⟨t,ht⟩:∃ t,keep[i]? =some t:=⟨_,cj (by omega)⟩
  have qt:=ll ht
  have lb:bR (cy fb (aI .i64) false bk (keep.take i)::cells b [.map (some bt),.int .i64 (jA s),.int .i64 s.calls] 134::cy fb l6 false bt (gI s.l)::c_ (s.l.map fH)::L) Fq A0 c0 keep:=hk.tail.tail.tail.tail
  refine KV lb ht (λM l h=>h.2) λuo=>gr lb ht λbq oq eq=> ?_
  subst eq
  refine aa<|ab J J (iX (R:=Fq) (xs:=keep) J J J ht)<|ab J J (x_ (R:=Fq) (c:=c0) (xs:=keep) (q:=0) (vs:=NJ t) J lb ht J)<|bB J J λb7=>aE J J<|O<|bW _ [] [0,2,4,6,8,10,12,14] (by kernel_rfl) (am.refl _)<|aq J J<|aL J J<|aw J J<|aG J J J<|aw J J<|aG J J J<|ak J J (pT (k:=t.1) J J uo.1)<|er 29 (v':=kl s.l t.1) J (EO s.l t.1)<|ak J J (bT J)<|aR<|ar<|aa<|Y J<|ao J<|ax J J<|ab J J (aan (k:=t.1) J J uo.1)<|Y J<|ab J J (aO J J)<|ab J J (aO J J)<|ae J<|ae J<|O ?_
  rcases abU s (keep.take i) t with lH | ⟨lH,kb⟩ | ⟨lH,e,kb,oW⟩ | ⟨lH,e,kb,oW⟩
  ·refine bW _ [] [0,2,4,6,8,10,12,14,16,18,20,22,24,26,28,30,32,34,36,38,40,42,44,46,48] (by kernel_rfl) (am.refl _)<|aq J J<|er 37 (v':=.bool true) J (bi Value.bool lH)<|aq J J<|aD J J<|aD J J<|ak J J (d9 J J)<|aq J J<|aD J J<|aD J J<|aD J J<|ak J J (d9 J J)<|aq J J<|aD J J<|aD J J<|aD J J<|aD J J<|aD J J<|aD J J<|aD J J<|aD J J<|aD J J<|aD J J<|aD J J<|aD J J<|aD J J<|ak J J (d9 J J)<|aR<|cg J<|aa<|ae J<|O<|av<|aU<|db<|aU<|aU<|db<|aU ?_
   rw [if_neg (RY ht lH),if_neg (RY ht lH)]
   exact aF.ay (pf b bt s hi)<|cI J J
  ·rw [show kl s.l t.1=.pointer none by unfold kl; rw [kb]; rfl]
   refine bW _ [] [0,2,4,6,8,10,12,14,16,18,20,22,24,26,28,30,32,34,36,38,40,42,44,46,48] (by kernel_rfl) (am.refl _)<|aq J J<|er 37 (v':=.bool false) J (bi Value.bool (by rw [lH]; rfl))<|aq J J<|aC J J (cU J)<|aC J J (fR J J (dh.eJ))<|er 40 (v':=.bool true) J (by simp)<|ak J J (dG J J)<|aq J J<|aD J J<|aD J J<|aD J J<|ak J J (d9 J J)<|aq J J<|aD J J<|aD J J<|aD J J<|aD J J<|aD J J<|aD J J<|aD J J<|aD J J<|aD J J<|aD J J<|aD J J<|aD J J<|aD J J<|ak J J (d9 J J)<|aR<|cg J<|aa<|ae J<|O<|av<|aU<|db<|aU<|aU<|db<|aU ?_
   have pK:=Ll (s:=s) ht (by rintro ⟨e,h1,_⟩; rw [kb] at h1; cases h1)
   rw [if_neg pK,if_neg pK]
   exact aF.ay (pf b bt s hi)<|cI J J
  ·obtain ⟨he,iU⟩:=uJ kb
   have zm:=hi.ok e he
   have n9:=Id he
   rw [show kl s.l t.1=.pointer (some ⟨e.dA,0,none⟩) by unfold kl; rw [kb]; rfl]
   refine As hi.inc he λA9 c9=>bW _ [] [0,2,4,6,8,10,12,14,16,18,20,22,24,26,28,30,32,34,36,38,40,42,44,46,48] (by kernel_rfl) (am.refl _)<|aq J J<|er 37 (v':=.bool false) J (bi Value.bool (by rw [lH]; rfl))<|aq J J<|aC J J (cU J)<|aC J J (fR J J (dh.eJ))<|er 40 (v':=.bool false) J (by simp)<|ak J J (dG J J)<|aq J J<|aC J J (dp J)<|aC J J (dY J J)<|aC J J (bU J J)<|ak J J (dG J J)<|aq J J<|gE 47 J (λui=> ?_) (λui=> ?_)
   ·refine aD J J<|aD J J<|aD J J<|aD J J<|aD J J<|aD J J<|aD J J<|aD J J<|aD J J<|aD J J<|aD J J<|aD J J<|aD J J<|ak J J (d9 J J)<|aR<|cg J<|aa<|ae J<|O<|av<|aU<|db<|aU<|aU<|db<|aU ?_
    have pK:=Ll (s:=s) ht (by rintro ⟨e2,h1,h2⟩; rw [kb] at h1; cases h1; exact oW h2)
    rw [if_neg pK,if_neg pK]
    refine aF.ay (E8 (A:=A9) (c:=c9) hi.inc he) ?_
    exact aF.ay (pf b bt s hi)<|cI J J
   refine aC J J (dp J)<|aC J J (dY J J)<|aC J J (cU J)<|aC J J (gc J)<|aC J J (dp J)<|aC J J (dY J J)<|aC J J (bY J)<|aC J J (cU J)<|aC J J (gc J)<|aC J J (dp J)<|aC J J (dY J J)<|aC J J (jb J J (by omega))<|aC J J (eE J J)<|pJ 60 J (by omega)<|ak J J (dG J J)<|aR<|cg J<|aa<|ae J<|O<|av<|aU<|db<|aU<|aU<|db<|aU ?_
   have pK:=Ll (s:=s) ht (by rintro ⟨e2,h1,h2⟩; rw [kb] at h1; cases h1; exact oW h2)
   rw [if_neg pK,if_neg pK]
   refine aF.ay (E8 (A:=A9) (c:=c9) hi.inc he) ?_
   exact aF.ay (pf b bt s hi)<|cI J J
  obtain ⟨he,iU⟩:=uJ kb
  have zm:=hi.ok e he
  have n9:=Id he
  rw [show kl s.l t.1=.pointer (some ⟨e.dA,0,none⟩) by unfold kl; rw [kb]; rfl]
  refine As hi.inc he λA9 c9=>bW _ [] [0,2,4,6,8,10,12,14,16,18,20,22,24,26,28,30,32,34,36,38,40,42,44,46,48] (by kernel_rfl) (am.refl _)<|aq J J<|er 37 (v':=.bool false) J (bi Value.bool (by rw [lH]; rfl))<|aq J J<|aC J J (cU J)<|aC J J (fR J J (dh.eJ))<|er 40 (v':=.bool false) J (by simp)<|ak J J (dG J J)<|aq J J<|aC J J (dp J)<|aC J J (dY J J)<|aC J J (bU J J)<|lZ 45 J (by omega)<|ak J J (dG J J)<|aq J J<|aC J J (dp J)<|aC J J (dY J J)<|aC J J (cU J)<|aC J J (gc J)<|aC J J (dp J)<|aC J J (dY J J)<|aC J J (bY J)<|aC J J (cU J)<|aC J J (gc J)<|aC J J (dp J)<|aC J J (dY J J)<|aC J J (jb J J (by omega))<|aC J J (eE J J)<|lZ 60 J (by omega)<|ak J J (dG J J)<|aR<|aT J<|az<|ai ?_
  refine b_ (E8 (A:=A9) (c:=c9) hi.inc he)<|aQ<|Y J<|ao J<|ax J J<|ao J<|ax J J ?_
  refine sH (R:=aI .i64) (k:=t.1) (u:=t.2) (cs:=[.int .i64 t.2]) (keep.take (i+1)) J J J uo.1 (bV.const λ_=>⟨J,uo.2⟩) (by rw [qt,adw lH]; exact (D_ t _).symm)<|O<|bA<|ai<|aQ<|ab J J (bE J J (by omega))<|cz 67 J<|Y J<|O<|ai ?_
  exact ⟨i+1,⟨by omega,by rw [qt]; exact abV DH lH ⟨e,kb,oW⟩⟩,by omega,bO rfl⟩
 refine cw<|aY<|aY<|cu<|ai<|ar ?_
 have zp:pV s keep:=by have:=DH; rwa [gQ (by omega)] at this
 rw [gQ (show keep.length<=i by omega)]
 refine aa<|Y J<|aS J<|ao J<|ax J J<|Aa J J λit=>O<|aX<|cY (σ:=List (ByteArray × Nat)) [0,5,72] (λdone=>True) (λdone kv=>kv) (λdone=>na fb l6 false bt it (gI s.l) done::cells b [.map (some bt),.int .i64 (s.size - (gS (lD keep s.l done):Int)),.int .i64 s.calls] 134::c_ ((lD keep s.l done).map fH)::cy fb (aI .i64) false bk keep::L) (λdone=>(gI s.l).length - done.length) ([]) J (trivial) ((by rw [ah1,show s.size - (gS s.l:Int)=jA s from rfl]; exact al)) (dc J) ?_
 rintro done -
 refine aa<|Ai J J (λhp=> ?_) (λq1 xo hq mK cL=> ?_)
 ·refine ab J J (aO J J)<|aV 74 (.bool false) J<|O<|ar<|aT J<|cw<|aY<|aY<|cu<|ai ?_
  have eH:∀ e∈s.l,e.name∈sf done:=λe he=>by have:=(hp.map (λq:ByteArray × Nat=>q.1)).mem_iff.2 (fY.2 ⟨(e.name,e.dA),fY.2 ⟨e,he,rfl⟩,rfl⟩); exact this
  rw [ah0 eH]
  refine b_ (tc it)<|aa<|Y J<|aS J<|ao J<|aE J J<|O<|aa<|ae J<|O<|av ?_
  rw [if_pos zp,if_pos zp,show IA s keep=⟨s.size,-1,s.l.map (pA keep)⟩ from rfl]
  exact aF.ay (H0 b bt ⟨s.size,-1,s.l.map (pA keep)⟩ (n:=s.size - (gS (s.l.map (pA keep)):Int)) (m:=gI s.l) J (ae8 _ (λ_=>J) (λ_=>J)) (show KI ⟨s.size,-1,s.l.map (pA keep)⟩ from hi.ai_ zp))<|cI J J
 refine ab J J (aO J J)<|aV 74 (.bool true) J<|O<|ar<|cg J<|az<|ai<|aX<|aa<|abA J J λV4 _=>ab J J (aO J J)<|ab J J (aO J J)<|ae J<|ae J<|O ?_
 obtain ⟨e,he,pM⟩:=fY.1 hq
 subst pM
 dsimp only at mK V4 ⊢
 have hnd:e.name∉sf done:=λhm=>by obtain ⟨q,hq1,Gf⟩:=fY.1 hm; exact mK q hq1 Gf
 have hke:=Nc hi zp he
 have zm:=hi.ok e he
 have n9:=Id he
 have gt:=ai' keep s.l done
 have alT:=ahZ hi zp he hnd
 refine As (Nd (keep:=keep) hi.inc done) (Nf (keep:=keep) he hnd) λrm rn=>i5 (cells e.dA [.slice rm e.bytes.length rn,.int .i64 e.gj] 268::cy fb (aI .i64) false bk keep::[]) [10] [0,2,4,6,8,10,12,14,16,18,21] (by kernel_rfl) al<|aq J J<|aq J J<|aq J J<|aL J J<|aw J J<|aG J J J<|aq J J<|aq J J<|ak J J (pT (k:=e.name) J J V4)<|er 86 (v':=.int .i64 (nr keep e.name)) J (by unfold nr; cases cq keep e.name <;> rfl)<|ak J J (bE J J (by omega))<|an J ?_
 refine bX (show am _ (cells b [.map (some bt),.int .i64 (s.size - (gS (lD keep s.l done):Int)),.int .i64 s.calls] 134::cells e.dA [.slice rm e.bytes.length rn,.int .i64 e.gj] 268::aN (aI .u8) 5 rm rn e.bytes::c_ ((iR (lD keep s.l done) e.name).map fH)::na fb l6 false bt it (gI s.l) (done++[(e.name,e.dA)])::cy fb (aI .i64) false bk keep::L) from al)<|aJ J J (aaA (e:=e) (n:=e.gj+nr keep e.name) (by omega) (by omega) (by omega)) ?_
 rintro _ _ ⟨rfl,JP,JQ,rfl⟩
 rw [show s.size - (gS (lD keep s.l done):Int)+((e.bytes.length:Int) - (e.gj+nr keep e.name))=s.size - (gS (lD keep s.l (done++[(e.name,e.dA)])):Int) by omega]
 refine bX (show am _ (cells e.dA [.slice JP (e.bytes.take (e.gj+nr keep e.name).toNat).length JQ,.int .i64 (e.gj+nr keep e.name)] 268::aN (aI .u8) 5 JP JQ (e.bytes.take (e.gj+nr keep e.name).toNat)::c_ ((iR (lD keep s.l done) e.name).map fH)::cells b [.map (some bt),.int .i64 (s.size - (gS (lD keep s.l (done++[(e.name,e.dA)])):Int)),.int .i64 s.calls] 134::na fb l6 false bt it (gI s.l) (done++[(e.name,e.dA)])::cy fb (aI .i64) false bk keep::L) from al) ?_
 refine bX (aja hi.inc he hnd)<|gZ J<|aR<|bA<|ai ?_
 exact ⟨done++[(e.name,e.dA)],trivial,by rw [eQ]; simp only [dO,ej]; omega,bO rfl⟩
open Go Go.Proofs Go.Proofs.Tryz
def n_ {β:Type} (F:β->List HP) (φ:β->Prop):HP:=oS λx=>pure (φ x)::F x
section
variable {r:Option Nat} {n:Nat} {P:Program} {ops:Array Oper} {rest:List Oper} {K:St->Prop} {Q:Exit->St->Prop} {D:List Deferred} {E:cZ} {L L':List HP} {β:Type} {F:β->List HP} {φ:β->Prop}
theorem tL {W w:World} (h:bH W w (n_ F φ::L)):∃ x,φ x/\bH W w (F x++L):=by
 obtain ⟨x,hp⟩:=sI h
 obtain ⟨M,k,hd,hM,hk,h1,h2,eW,l1,l2,hq,hs⟩:=hp.ex
 exact ⟨x,hq,hp.ay (am.drop _ _)⟩
theorem sT {c:Code} (h:∀ x,φ x->T r n P c ⟨D,E,F x++L⟩ Q):T r n P c ⟨D,E,n_ F φ::L⟩ Q:=λW a w hh=>by
 obtain ⟨x,h1,h2⟩:=tL hh.2
 exact h x h1 W a w ⟨hh.1,h2⟩
theorem yy (h:∀ x,φ x->TL r n P ops rest ⟨D,E,F x++L⟩ K):TL r n P ops rest ⟨D,E,n_ F φ::L⟩ K:=λW a w hh=>by
 obtain ⟨x,h1,h2⟩:=tL hh.2
 exact h x h1 W a w ⟨hh.1,h2⟩
theorem ah2 {f:FuncId} {args:Array Value} {Φ:Value->List HP->Prop} (h:∀ x,φ x->Fn P f args (F x++L) Φ):Fn P f args (n_ F φ::L) Φ:=λW w hh=>by
 obtain ⟨x,h1,h2⟩:=tL hh
 exact h x h1 W w h2
theorem agG {L2:List HP} {c:Code} (p:HP) [hf:cR L p L2] (h:T r n P c ⟨D,E,p::L2⟩ Q):T r n P c ⟨D,E,L⟩ Q:=b_ hf.g h
theorem nG (x:β) (h:φ x):am (F x++L) (n_ F φ::L):=(am.sF h).trans (o_ (f:=λx=>pure (φ x)::F x) x)
end
abbrev wZ:=Int × Int × Int × Int
abbrev t6 (s:wZ):List Value:=[.int .i64 s.1,.int .i64 s.2.1,.int .i64 s.2.2.1,.int .i64 s.2.2.2]
def NK (s:wZ):Prop:=bP .i64 s.1/\bP .i64 s.2.1/\bP .i64 s.2.2.1/\bP .i64 s.2.2.2
def jv:bZ wZ:=⟨4,λ_ a cs=>cs=t6 a/\NK a,λ_ h=>h,λh=>by rw [h.1]; rfl,λh v hv=>by rw [h.1] at hv; simp at hv; rcases hv with rfl | rfl | rfl | rfl <;> rfl⟩
instance:oJ jv t6:=⟨λ_ _ _ h=>h.1⟩
abbrev zq:ByteArray:=⟨#[110]⟩
abbrev NL:ByteArray:=⟨#[110,45,109,97,110]⟩
abbrev uX:ByteArray:=⟨#[110,45,108,111,103]⟩
abbrev kN:ByteArray:=⟨#[110,45,108,111,103,45,49]⟩
def jE (r z:Nat):List wZ:=if r=0 then [] else [(1,0,(r:Int),(z:Int))]
structure zr (s:eM) (r z:Nat):Prop where
 size:s.size=16777216
 calls:s.calls= -1
 ki:KI s
 l:(r=0/\z=0/\s.l=[])\/(0 < r/\∃ e,s.l=[e]/\e.name=kN/\e.bytes.length=z)
structure qu where
 A:Option Addr
 c:Nat
 sure:Int
 bt:Nat
 z:Nat
 s:eM
abbrev xy (bd:Nat) (r z:Nat) (p:qu):List Value:=[.pointer (some ⟨bd,0,none⟩),.string uX,.int .i64 1048576,.slice p.A (jE r z).length p.c,.int .i64 p.sure]
abbrev DL (r Z:Nat) (p:qu):Prop:=zr p.s r p.z/\r<=100000/\p.z<=Z/\Z<=1000000/\bP .i64 p.sure
abbrev WV (b bd r:Nat) (p:qu):List HP:=[cells b (xy bd r p.z p) 340,aN jv 346 p.A p.c (jE r p.z),dk bd p.bt p.s]
def wl (b bd r Z:Nat):HP:=n_ (WV b bd r) (DL r Z)
variable{bd r z:Nat}
instance:jz (wl b bd r z::L) b (wl b bd r z) L:=⟨am.refl _⟩
variable{r:Option Nat}{n:Nat}{P:Program}{ops:Array Oper}{rest:List Oper}{K:St->Prop}{Q:Exit->St->Prop}{D:List Deferred}{E:cZ}{L':List HP}{rr:Nat}
theorem Dr {c:Code} (h:∀ p:qu,DL rr z p->T r n P c ⟨D,E,cells b (xy bd rr p.z p) 340::aN jv 346 p.A p.c (jE rr p.z)::dk bd p.bt p.s::L⟩ Q):T r n P c ⟨D,E,wl b bd rr z::L⟩ Q:=sT h
theorem ajb (h:∀ p:qu,DL rr z p->TL r n P ops rest ⟨D,E,cells b (xy bd rr p.z p) 340::aN jv 346 p.A p.c (jE rr p.z)::dk bd p.bt p.s::L⟩ K):TL r n P ops rest ⟨D,E,wl b bd rr z::L⟩ K:=yy h
variable{f:FuncId}
theorem VC {args:Array Value} {Φ:Value->List HP->Prop} (h:∀ p:qu,DL rr z p->Fn P f args (cells b (xy bd rr p.z p) 340::aN jv 346 p.A p.c (jE rr p.z)::dk bd p.bt p.s::L) Φ):Fn P f args (wl b bd rr z::L) Φ:=ah2 h
variable{c:Nat}{L1 L2:List HP}
theorem wm {sure:Int} {L3:List HP} (b bd r Z:Nat) [h1:fL L b [.pointer (some ⟨bd,0,none⟩),.string uX,.int .i64 1048576,.slice A (jE r z).length c,.int .i64 sure] 340 L1] [h2:cR L1 (aN jv 346 A c (jE r z)) L2] [h3:cR L2 (dk bd bt s) L3] (hi:DL r Z ⟨A,c,sure,bt,z,s⟩):am L (wl b bd r Z::L3):=
 (h1.g.trans (am.cons _ (h2.g.trans (am.cons _ h3.g)))).trans (nG (F:=WV b bd r) (φ:=DL r Z) ⟨A,c,sure,bt,z,s⟩ hi)
variable{r:Nat}
theorem CH (h:0 < r):jE r z=[(1,0,(r:Int),(z:Int))]:=by unfold jE; rw [if_neg (by omega)]
instance:aM 512:=⟨call512⟩
instance:aM 475:=⟨call475⟩
instance:aM 415:=⟨call415⟩
theorem abW (L:List HP):Fn prog 373 #[.int .i64 1] L (λv L'=>v=.string ⟨#[49]⟩/\L'=L):=by
 have h1:Fn prog 512 #[.int .i64 1] L (λv L'=>v=.string ⟨#[49]⟩/\L'=L):=by
  exact aH func512 J J J J<|aa<|ae J<|O<|ar<|aa<|Y J<|ab J J (bU J J)<|O<|qN J (by decide)<|aa<|Y J<|Y J<|ab J J (bE J J (by omega))<|ab J J (ac2 (k1:=.i64) (k2:=.i64) J (.inr ⟨_,J,J⟩) (.inr ⟨_,J,J⟩) (by decide))<|ae J<|O<|av<|aU<|cI J J
 have h2:Fn prog 475 #[.int .i64 1,.int .i64 10] L (λv L'=>v=.string ⟨#[49]⟩/\L'=L):=by
  exact aH func475 J J J J<|aa<|ae J<|O<|ar<|aa<|Y J<|ab J J (ce J J)<|O<|qN J (by decide)<|ar<|aa<|Y J<|ab J J (sX J J)<|Y J<|br 14 (v':=.bool true) J (by simp)<|aj J<|Y J<|aj J<|ab J J (bU J J)<|aA J<|O<|qN J (by decide)<|aa<|Y J<|aB J J (h1)<|ae J<|O<|av<|aU<|aU<|cI J J
 have h3:Fn prog 415 #[.int .i64 1] L (λv L'=>v=.string ⟨#[49]⟩/\L'=L):=by
  exact aH func415 J J J J<|aa<|ae J<|O<|aa<|Y J<|aB J J (h2)<|ae J<|O<|av<|cI J J
 exact aH func373 J J J J<|aa<|ae J<|O<|aa<|Y J<|aB J J (h3)<|ae J<|O<|av<|cI J J
abbrev ob (b bd r z:Nat) (p:qu) (L:List HP):List HP:=cells b (xy bd r z p) 340::aN jv 346 p.A p.c (jE r z)::dk bd p.bt p.s::L
variable{p:qu}
theorem CC:Fn prog 297 #[.pointer (some ⟨b,0,none⟩)] (ob b bd r z p L) (λv L'=>v=.bool true/\L'=ob b bd r z p L):=by
 exact aH func297 J J J J<|aa<|ae J<|O<|aa<|Y J<|ab J J (f8 J J (dh.eJ))<|br 4 (v':=.bool true) J (by simp)<|Y J<|aj J<|Y J<|aj J<|aS J<|aj J<|ao J<|aj J<|ax J J<|aj J<|ab J J (f8 J J (dh.eJ))<|br 10 (v':=.bool true) J (by simp)<|aA J<|ae J<|O<|av<|cI J J
theorem Rq:Fn prog 299 #[.pointer (some ⟨b,0,none⟩),.int .i64 1] (ob b bd r z p L) (λv L'=>v=.string kN/\L'=ob b bd r z p L):=by
 exact aH func299 J J J J<|aa<|ae J<|O<|bW _ [] [0,2,4,6,8,10,13,14,16] (by kernel_rfl) (am.refl _)<|aq J J<|aL J J<|aw J J<|aG J J J<|ak J J (Ey J J (by decide))<|aq J J<|an J<|aB J J (abW _)<|au<|ak J J (Ey J J (by rw [ByteArray.size_append]; decide))<|ak J J (bT J)<|aR<|av<|cI J J
theorem Q0 (s:wZ) (h:0<=s.2.1/\s.2.1<=1000000/\0<=s.2.2.1/\s.2.2.1<=1000000) (L:List HP):Fn prog 226 #[.agg (List.toArray (t6 s))] L (λv L'=>v=.int .i64 (s.2.1+s.2.2.1)/\L'=L):=by
 exact aH func226 J J J J<|aa<|bS J J J λb1=>ae J<|O<|aa<|ao J<|ax J J<|ao J<|ax J J<|ab J J (bE J J (by omega))<|ae J<|O<|av<|cI J J
theorem Ie:Fn prog 225 #[.pointer (some ⟨b,0,none⟩)] (ob b bd 0 z p L) (λv L'=>v=.pointer none/\L'=ob b bd 0 z p L):=by
 exact aH func225 J J J J<|aa<|ae J<|O<|ar<|aa<|Y J<|aB J J (CC)<|aV 4 (.bool true) J<|ab J J (df J)<|Y J<|aj J<|Y J<|aj J<|aS J<|aj J<|ao J<|aj J<|ax J J<|aj J<|ab J J (bY J)<|aj J<|ab J J (ce J J)<|aA J<|O<|qN J (J)<|aa<|ae J<|O<|av<|aU<|cI J J
theorem Mu (h:0 < r):Fn prog 225 #[.pointer (some ⟨b,0,none⟩)] (ob b bd r z p L) (λv L'=>∃ g,p.A=some ⟨g,0,none⟩/\v=.pointer (some ⟨g,0,none⟩)/\L'=ob b bd r z p L):=by
 have fW:=CH (z:=z) h
 exact aH func225 J J J J<|aa<|ae J<|O<|ar<|aa<|Y J<|aB J J (CC)<|aV 4 (.bool true) J<|ab J J (df J)<|Y J<|aj J<|Y J<|aj J<|aS J<|aj J<|ao J<|aj J<|ax J J<|aj J<|ab J J (bY J)<|br 11 (v':=.int .i64 1) J (by rw [fW]; rfl)<|aj J<|ab J J (ce J J)<|aA J<|O<|ir J (by decide)<|az<|ai<|CQ p.A p.c (R:=jv) (te:=346) (xs:=jE r z) (i:=0) (x:=(1,0,(r:Int),(z:Int))) (by rw [fW]; rfl) λg hA=>bW _ [] [0,2,4,6,8,10,12,14,16,18,20,22] (by kernel_rfl) (am.refl _)<|aq J J<|aL J J<|aw J J<|aG J J J<|aq J J<|aL J J<|aw J J<|aG J J J<|ak J J (bY J)<|er 22 (v':=.int .i64 1) J (by rw [fW]; rfl)<|ak J J (jb J J (by omega))<|ak J J (qK (b:=g) (o:=0) (j:=0) J J (by rw [fW]; exact Nat.zero_lt_succ _) ⟨0,hA,J⟩)<|ak J J (bT J)<|aR<|av<|aZ J J al (⟨g,hA,J,J⟩)
theorem TQ:Fn prog 116 #[.pointer (some ⟨b,0,none⟩)] (ob b bd 0 z p L) (λv L'=>v=.int .i64 0/\L'=ob b bd 0 z p L):=by
 exact aH func116 J J J J<|aa<|ae J<|O<|aa<|Y J<|aB J J (Ie)<|ae J<|O<|ar<|aa<|Y J<|ab J J (fR J J (dh.eJ))<|O<|qN J (J)<|aa<|ae J<|O<|av<|aU<|cI J J
theorem adx:Fn prog 115 #[.pointer (some ⟨b,0,none⟩)] (ob b bd 0 z p L) (λv L'=>v=.int .i64 0/\L'=ob b bd 0 z p L):=by
 exact aH func115 J J J J<|aa<|ae J<|O<|ar<|aa<|Y J<|aB J J (Ie)<|ab J J (fR J J (dh.eJ))<|O<|qN J (J)<|aa<|ae J<|O<|av<|aU<|cI J J
theorem ae9 (h:0 < r) (hr:r<=100000):Fn prog 116 #[.pointer (some ⟨b,0,none⟩)] (ob b bd r z p L) (λv L'=>v=.int .i64 (r:Int)/\L'=ob b bd r z p L):=by
 have fW:=CH (z:=z) h
 refine aH func116 J J J J<|aa<|ae J<|O<|aa<|Y J<|aJ J J (Mu h) ?_
 rintro _ _ ⟨g,hA,rfl,rfl⟩
 exact ae J<|O<|ar<|aa<|Y J<|ab J J (fR J J (dh.eJ))<|O<|ir J (by simp)<|az<|ai<|aa<|Y J<|aS J<|ab J J (x_ (f:=t6) (b:=g) (o:=0) (j:=0) (q:=0) (u:=(1,0,(r:Int),(z:Int))) J (R:=jv) (c:=p.c) (xs:=jE r z) (hA ▸ bR.tail gp) (by rw [fW]; rfl) J)<|aB J J (Q0 (1,0,(r:Int),(z:Int)) (by dsimp only; omega) _)<|br 11 (v':=.int .i64 (r:Int)) J (by simp)<|ae J<|O<|av<|cI J J
open Go
abbrev gT:=Int × Int
def l7 (v:List Int) (o:Int):Int:=if o < 0 then 0 else (v[o.toNat]?).getD 0
def pB (v:List Int) (d:gT):Prop:=0 < d.2/\d.2<=l7 v d.1
instance (v:List Int) (d:gT):Decidable (pB v d):=by unfold pB; exact inferInstance
def dK:List Int->List Int
 | []=>[]
 | x::r=>if dK r=[]/\x=0 then [] else x::dK r
theorem RZ:∀ {v:List Int},(∀ x∈v,x=0)->dK v=[]
 | [],_=>rfl
 | x::r,h=>by
  unfold dK
  rw [if_pos ⟨RZ λy hy=>h y (gO _ hy),h x ie⟩]
theorem Lm:∀ {v:List Int} {e:Nat},e<=v.length->(∀ x∈v.drop e,x=0)->(e=0\/∃ x,v[e - 1]? =some x/\x≠0)->dK v=v.take e
 | v,0,_,h,_=>by rw [List.take_zero]; exact RZ (by simpa using h)
 | [],e+1,he,_,_=>by simp at he
 | x::r,e+1,he,h,hl=>by
  have hr:dK r=r.take e:=by
   refine Lm (by simpa using he) (by simpa using h) ?_
   rcases hl with h0 | ⟨y,hy,iS⟩
   ·omega
   ·cases e with
    | zero=>exact .inl rfl
    | succ e=>exact .inr ⟨y,by simpa using hy,iS⟩
  rw [List.take_succ_cons]
  unfold dK
  rw [hr]
  split
  ·rename_i hc
   exfalso
   rcases hl with h0 | ⟨y,hy,iS⟩
   ·omega
   ·cases e with
    | zero=>simp at hy; omega
    | succ e=>
     have h1:e < r.length:=by rw [dO] at he; omega
     have h2:(r.take (e+1)).length=0:=by rw [hc.1]; rfl
     rw [gq] at h2; omega
  ·rfl
theorem Mv:∀ (v:List Int) (i:Nat),((dK v)[i]?).getD 0=(v[i]?).getD 0
 | [],i=>rfl
 | x::r,i=>by
  unfold dK
  split
  ·rename_i hc
   cases i with
   | zero=>simp [hc.2]
   | succ i=>have:=Mv r i; rw [hc.1] at this; simpa using this
  ·cases i with
   | zero=>rfl
   | succ i=>simpa using Mv r i
open Go
def rR (l:List aW) (e:aW):Prop:=∃ x∈l,x.jy=true/\x.aK=e.aK/\x.di=e.di/\pB x.d7 e.dot
instance (l:List aW) (e:aW):Decidable (rR l e):=by unfold rR; exact inferInstance
def qT (l:List aW):List aW:=l.filter λe=> !decide (rR l e)
def q8:List gT->List aW->List aW
 | _,[]=>[]
 | seen,e::r=>if e.dot∈seen then q8 seen r else e::q8 (e.dot::seen) r
def q9 (l:List aW):List aW:=q8 [] l
def lV (l:List aW):Int:=(l.map λe=>e.eZ).sum
def oc (aK di:ByteArray) (e:aW):Bool:=decide (e.aK=aK) && decide (e.di=di)
def rS (l:List aW) (aK di:ByteArray):Int:=lV ((q9 (qT l)).filter (oc aK di))
abbrev lm:=ByteArray × Int
theorem LO (e:aW) (l:List aW):lV (e::l)=e.eZ+lV l:=by simp [lV]
theorem TR (a b:List aW):lV (a++b)=lV a+lV b:=by
 induction a with
 | nil=>simp [lV]
 | cons x r ih=>rw [dL,LO,LO,ih]; omega
theorem Ln:∀ {l:List aW},(∀ e∈l,0<=e.eZ/\e.eZ<=1000)->0<=lV l/\lV l<=1000 * (l.length:Int)
 | [],_=>by simp [lV]
 | e::r,h=>by
  have h1:=Ln λx hx=>h x (gO _ hx)
  have h2:=h e ie
  rw [LO,dO]; omega
theorem LP:∀ {l:List aW} {seen:List gT} {e:aW},e∈q8 seen l->e∈l/\e.dot∉seen
 | x::r,seen,e,h=>by
  unfold q8 at h
  split at h
  ·obtain ⟨h1,h2⟩:=LP h; exact ⟨gO _ h1,h2⟩
  ·rcases ig.1 h with rfl | h
   ·exact ⟨ie,by assumption⟩
   ·obtain ⟨h1,h2⟩:=LP h; exact ⟨gO _ h1,λh3=>h2 (gO _ h3)⟩
variable{l:List aW}
theorem LQ {e:aW} (h:e∈q9 l):e∈l:=(LP h).1
theorem LR {e:aW}:e∈qT l↔e∈l/\¬ rR l e:=by unfold qT; rw [ke]; simp
def qU (l:List aW):List aW:=q9 (qT l)
theorem Rr (h:∀ e∈l,0<=e.eZ/\e.eZ<=1000) (aK di:ByteArray):0<=rS l aK di/\rS l aK di<=1000 * (l.length:Int):=by
 have h1:∀ e∈(q9 (qT l)).filter (oc aK di),0<=e.eZ/\e.eZ<=1000:=λe he=>h e (LR.1 (LQ (ke.1 he).1)).1
 have h2:=Ln h1
 have h3:((q9 (qT l)).filter (oc aK di)).length<=l.length:=by
  refine kf (kG _ _) ?_
  have:∀ (l:List aW) (seen:List gT),(q8 seen l).length<=l.length:=by
   intro l
   induction l with
   | nil=>intro seen; simp [q8]
   | cons x r ih=>
    intro seen
    unfold q8
    split
    ·have:=ih seen; simp only [dO]; omega
    ·have:=ih (x.dot::seen); simp only [dO]; omega
  exact kf (this _ _) (kG _ _)
 unfold rS; omega
def IS (a b:ByteArray):Prop:=a.data.toList < b.data.toList
structure l9 (l:List aW) (aK:ByteArray) (xs:List lm):Prop where
 inc:xs.Pairwise λp q=>IS p.1 q.1
 mem:∀ k q,(k,q)∈xs↔q=rS l aK k/\0 < q
 eU:(xs.map λp=>p.2).sum=lV ((qU l).filter λe=>decide (e.aK=aK))
def WW (xs:List lm) (di:ByteArray):Int:=match xs.find? λp=>decide (p.1=di) with
 | some p=>p.2
 | none=>0
variable{aK:ByteArray}
theorem l9.of {xs:List lm} (h:l9 l aK xs) (hq:∀ e∈l,0<=e.eZ/\e.eZ<=1000) (di:ByteArray):WW xs di=rS l aK di:=by
 unfold WW
 have h0:=(Rr hq aK di).1
 cases hf:xs.find? λp=>decide (p.1=di) with
 | none=>
  have h1:=vR.1 hf
  by_cases hp:0 < rS l aK di
  ·exact absurd (dV rfl) (h1 _ ((h.mem di (rS l aK di)).2 ⟨rfl,hp⟩))
  ·show (0:Int)=_; omega
 | some p=>
  have h1:=List.find?_some hf
  have h2:=G8 hf
  obtain ⟨k,q⟩:=p
  have hk:k=di:=by simpa using h1
  subst hk
  exact ((h.mem k q).1 h2).1
theorem H1 {a:ByteArray}:¬ IS a a:=List.lt_irrefl _
theorem l9.ext {l':List aW} {VD:ByteArray} {xs ys:List lm} (h:l9 l aK xs) (h':l9 l' VD ys) (he:∀ k,rS l aK k=rS l' VD k):xs=ys:=by
 have n1:xs.Nodup:=h.inc.imp λ{a b} rl (e:a=b)=>H1 (a:=b.1) (by rw [e] at rl; exact rl)
 have n2:ys.Nodup:=h'.inc.imp λ{a b} rl (e:a=b)=>H1 (a:=b.1) (by rw [e] at rl; exact rl)
 refine ((List.perm_ext_iff_of_nodup n1 n2).2 λp=> ?_).eq_of_pairwise (λa b _ _ h1 h2=> ?_) h.inc h'.inc
 ·obtain ⟨k,q⟩:=p
  rw [h.mem,h'.mem,he]
 ·exact absurd (List.lt_trans h1 h2) (List.lt_irrefl _)
open Go Go.Proofs Go.Proofs.Tryz
abbrev I_ (d:gT):List Value:=[.int .i64 d.1,.int .i64 d.2]
abbrev FG (d:gT):Value:=.agg (List.toArray (I_ d))
def Dg (d:gT):Prop:=bP .i64 d.1/\bP .i64 d.2
def Ds:bZ gT:=⟨2,λ_ a cs=>cs=I_ a/\Dg a,λ_ h=>h,λh=>by rw [h.1]; rfl,λh v hv=>by rw [h.1] at hv; simp at hv; rcases hv with rfl | rfl <;> rfl⟩
variable{v:List Int}{x:Int}
theorem ah3 (h:v[i]? =some x):l7 v (i:Int)=x:=by
 unfold l7; rw [if_neg (by omega),zQ,h]; rfl
theorem agH {o:Int} (h:o < 0\/(v.length:Int)<=o):l7 v o=0:=by
 unfold l7
 split
 ·rfl
 ·rw [xT (by omega)]; rfl
theorem yf {xs:List Int} (hk:bR L (aI .i64) A c xs) (o:Int):Fn prog 218 #[.slice A xs.length c,.int .i64 o] L (λv L'=>v=.int .i64 (l7 xs o)/\L'=L):=by
 refine aH func218 J J J J<|aa<|ae J<|O<|ar<|aa<|Y J<|ab J J (bU J J)<|jJ 6 12 (o < 0\/(xs.length:Int)<=o) ?_ ?_
 ·refine Y J<|dl 7 J (λh7=> ?_) (λh7=> ?_)
  ·refine ah J<|ah J<|ah J<|ah J<|aA J<|dH J ?_ (by repeat (first | exact dI | refine dJ rfl ?_)) al
   exact bi Value.bool (dV (by omega)).symm
  refine aj J<|Y J<|aj J<|Y J<|aj J<|ab J J (bY J)<|aj J<|ab J J (eV J J)<|aA J<|dH J ?_ (by repeat (first | exact dI | refine dJ rfl ?_)) al
  exact bi Value.bool (gX.2 (by omega))
 refine O<|bz J (λf2=> ?_) (λf2=> ?_)
 ·exact aa<|ae J<|O<|av<|aU<|aZ J J al (⟨by rw [agH f2],J⟩)
 refine az<|ai ?_
 obtain ⟨i,rfl⟩:∃ i:Nat,o=(i:Int):=⟨o.toNat,by omega⟩
 obtain ⟨x,hx⟩:∃ x,xs[i]? =some x:=⟨_,cj (by omega)⟩
 refine gr hk hx λb1 o1 e1=> ?_
 subst e1
 exact aa<|Y J<|Y J<|ab J J (iX (R:=aI .i64) (xs:=xs) J J J hx)<|ab J J (gi (q:=0) J hk hx J)<|ae J<|O<|av<|aZ J J al (⟨by rw [ah3 hx],J⟩)
theorem Eu {xs:List Int} (hk:bR L (aI .i64) A c xs) (d:gT):Fn prog 111 #[.slice A xs.length c,FG d] L (λv L'=>v=.bool (decide (pB xs d))/\L'=L):=by
 refine aH func111 J J J J<|aa<|bS J J J λb3=>ae J<|O<|bW _ [] [0,2,4,6,8,10,12,14,16,19,20,22,24] (by kernel_rfl) (am.refl _)<|aw J J<|aG J J J<|ak J J (eE J J)<|aq J J<|gE 8 J (λh8=> ?_) (λh8=> ?_)
 ·exact aC J J (dp J)<|aC J J (dY J J)<|aC J J (cU J)<|aC J J (dp J)<|aC J J (dY J J)<|an J<|aj J<|aB J J (yf hk.tail d.1)<|au<|aC J J (sX J J)<|ak J J (d9 J J)<|ak J J (bT J)<|aR<|av<|aZ J J al (⟨bi Value.bool (gX.2 ⟨λh=>⟨by omega,h⟩,λh=>h.2⟩),J⟩)
 refine aD J J<|aD J J<|aD J J<|aD J J<|aD J J<|an J<|ah J<|au<|aD J J<|ak J J (dG J J)<|ak J J (bT J)<|aR<|av ?_
 exact aZ J J al (⟨bi Value.bool (cJ λh=>by have:=h.1; omega).symm,J⟩)
theorem Q1 {xs:List Int} (hk:bR L (aI .i64) A c xs) (hb:xs.length<=17592186043904):Fn prog 347 #[.slice A xs.length c] L (λv L'=>∃ A' c',v=.slice A' (dK xs).length c'/\L'=aN (aI .i64) 3 A' c' (dK xs)::L):=by
 refine aH func347 J J J J<|hk.lens λhl=>aa<|ae J<|O<|aa<|Y J<|ab J J (bY J)<|ae J<|O<|ar<|aX<|cY (σ:=Nat) [0] (λe=>e<=xs.length/\∀ x∈xs.drop e,x=0) (λe kv=>(3,.int .i64 (e:Int))::kv) (λe=>L) (λe=>e) (xs.length) J (⟨fo _,by simp⟩) (al) (dc J) ?_
 rintro e ⟨he,hz⟩
 refine ar<|aa<|Y J<|ab J J (eE J J)<|Y J<|dl 8 J (λh8=> ?_) (λh8=> ?_)
 ·refine aj J<|Y J<|aj J<|Y J<|aj J ?_
  obtain ⟨q,hq⟩:∃ q,xs[e - 1]? =some q:=⟨_,cj (by omega)⟩
  refine ab J J (jb J J (by omega))<|br 11 (v':=.int .i64 ((e - 1:Nat):Int)) J (by congr 1; omega)<|aj J<|f6 J J J J hk hq λI' Ja Jb w_=> ?_
  have xa:=hq
  refine aj J<|ab J J (gi J w_ xa J)<|aj J<|ab J J (ce J J)<|aA J<|O<|bz J (λgU=> ?_) (λgU=> ?_)
  ·refine az<|ai<|aX<|aQ<|Y J<|ab J J (jb J J (by omega))<|br 17 (v':=.int .i64 ((e - 1:Nat):Int)) J (by congr 1; omega)<|ae J<|O<|bA<|ai ?_
   exact ⟨e - 1,⟨by omega,by rw [show e - 1=e - 1 from rfl,xQ (show e - 1 < xs.length by omega),show e - 1+1=e by omega]; intro x hx; rcases ig.1 hx with rfl | hx; (have:=(dX.1 hq).2; rw [this]; exact gU); exact hz x hx⟩,by omega,bO rfl⟩
  refine cw<|aY<|aY<|cu<|ai ?_
  have hp:dK xs=xs.take e:=Lm he hz (.inr ⟨q,hq,gU⟩)
  have gt:(xs.take e).length=e:=by rw [gq]; omega
  refine aa<|Y J<|Y J<|Y J<|ab J J (Ma J J J (by omega))<|br 21 (v':=.slice A (xs.take e).length (xs.take e).length) J (by rw [gt]; rfl)<|aJ J J (gz ((hk.take e).cap) (by omega)) ?_
  rintro _ _ ⟨mS,k_,rfl,rfl⟩
  refine ae J<|O<|av ?_
  rw [hp]
  exact aZ J J al (⟨mS,k_,J,J⟩)
 refine ah J<|ah J<|ah J<|ah J<|ah J<|ah J<|aA J<|br 15 (v':=.bool false) J (by simp)<|O<|aT J<|cw<|aY<|aY<|cu<|ai ?_
 have hp:dK xs=xs.take e:=Lm he hz (.inl (by omega))
 have gt:(xs.take e).length=e:=by rw [gq]; omega
 refine aa<|Y J<|Y J<|Y J<|ab J J (Ma J J J (by omega))<|br 21 (v':=.slice A (xs.take e).length (xs.take e).length) J (by rw [gt]; rfl)<|aJ J J (gz ((hk.take e).cap) (by omega)) ?_
 rintro _ _ ⟨mS,k_,rfl,rfl⟩
 refine ae J<|O<|av ?_
 rw [hp]
 exact aZ J J al (⟨mS,k_,J,J⟩)
open Go Go.MapKept Go.WideShapes
open Go.ChangeMaps (setBlock)
section
variable {κ α:Type} {K:hU κ} {R:bZ α} {ag:Bool}
variable{M:Mem}
theorem fB.nil:fB K R ag M [] []:=⟨rfl,λi e p h=>by cases h⟩
theorem fB.cons {es:List MapEntry} {l:List (κ × α)} {e:MapEntry} {p:κ × α} (h1:wG K R ag M e p) (h:fB K R ag M es l):fB K R ag M (e::es) (p::l):=⟨by simp [h.1],λi x q hx hq=>by
 cases i with
 | zero=>cases hx; cases hq; exact h1
 | succ i=>exact h.2 i x q (by simpa using hx) (by simpa using hq)⟩
theorem fB.ah4 {es:List MapEntry} {l:List (κ × α)} {e:MapEntry} (h:fB K R ag M (e::es) l):∃ p l',l=p::l'/\wG K R ag M e p/\fB K R ag M es l':=by
 match l,h with
 | [],h=>exact absurd h.1 (by simp)
 | p::l',h=>exact ⟨p,l',rfl,h.2 0 e p rfl rfl,by simpa using h.1,λi x q hx hq=>h.2 (i+1) x q (by simpa using hx) (by simpa using hq)⟩
theorem fB.insert {M:Mem} {e:MapEntry} {p:κ × α} (hp:wG K R ag M e p):∀ {es:List MapEntry} {j:Nat} {l:List (κ × α)},j < es.length->fB K R ag M (es.eraseIdx j) l->fB K R ag M (es.set j e) (l.take j++p::l.drop j)
 | x::r,0,l,_,h=>by simpa using fB.cons hp (by simpa using h)
 | x::r,j+1,l,hj,h=>by
  rw [Ha] at h
  obtain ⟨q,l',rfl,h1,h2⟩:=h.ah4
  simpa using fB.cons h1 (fB.insert hp (by simpa using hj) h2)
variable [DecidableEq κ]
structure Oj (K:hU κ) (es:Array MapEntry) (clock:Nat) (l:List (κ × α)) (j:Nat) (m:List (κ × α)) (k:κ) (born:Int):Prop where
 st:Stamped es clock
 at_:∃ e,es.toList[j]? =some e/\e.key=K.enc k/\((e.born:Nat):Int)=born
 ok:K.ok k
 lp:l.Perm (fS m k)
abbrev FI (K:hU κ) (R:bZ α) (ag:Bool) (es:List MapEntry) (l:List (κ × α)):HP:=nV (λM=>fB K R ag M es l) (λhM h=>h.mono hM)
abbrev Ok (K:hU κ) (R:bZ α) (ag:Bool) (b:Nat) (m:List (κ × α)) (k:κ) (born:Int) (x:Array MapEntry × Nat × List (κ × α) × Nat):List HP:=
 [own b (.map x.1 x.2.1),FI K R ag (x.1.toList.eraseIdx x.2.2.2) x.2.2.1,pure (Oj K x.1 x.2.1 x.2.2.1 x.2.2.2 m k born)]
def wO (K:hU κ) (R:bZ α) (ag:Bool) (b:Nat) (m:List (κ × α)) (k:κ) (born:Int):HP:=oS (Ok K R ag b m k born)
variable {L:List HP} {b:Nat} {m:List (κ × α)} {P:Program}
theorem Rs {es:Array MapEntry} {clock j:Nat} {l:List (κ × α)} {k:κ} {born:Int} (h:Oj K es clock l j m k born):am (own b (.map es clock)::FI K R ag (es.toList.eraseIdx j) l::L) (wO K R ag b m k born::L):=
 am.trans (am.cons _ (am.cons _ (am.sF h))) (o_ (f:=Ok K R ag b m k born) (es,clock,l,j))
variable{W w:World}
theorem abX {k:κ} {born:Int} (h:bH W w (wO K R ag b m k born::L)):∃ es clock l j,Oj K es clock l j m k born/\bH W w (own b (.map es clock)::FI K R ag (es.toList.eraseIdx j) l::L):=by
 obtain ⟨⟨es,clock,l,j⟩,hp⟩:=sI h
 have h2:=hp.ay (am.mH 2 (Ok K R ag b m k born (es,clock,l,j)++L))
 obtain ⟨M,q,hd,hM,hk,h1,h3,eW,l1,l2,hq,hs⟩:=h2.ex
 exact ⟨es,clock,l,j,hq,h2.ay (am.drop _ _)⟩
variable{t:TypeId}
theorem agI {kt et:TypeId} {z:Value} [ht:dy P t (.map kt et)] [hk:kw P kt K] [hz:l_ P et z] {k:κ} (cX:K.ok k) (hs:bH W w (cy K R ag b m::L)):
  (cq m k=none/\∃ (born:Int) (w':World),(Instr.mapEntry t (.map (some b)) (K.enc k)).run P w=.ok (.tuple #[z,.int .i64 born]) w'/\bH W w' (wO K R ag b m k born::L))∨
  ∃ u cs born w',cq m k=some u/\(Instr.mapEntry t (.map (some b)) (K.enc k)).run P w=.ok (.tuple #[ij ag cs,.int .i64 born]) w'/\bH W w' (is R u cs::wO K R ag b m k born::L):=by
 obtain ⟨es,clock,l,cK,hp,dt⟩:=Cy hs
 have gu:w.heap[b]? =some (.map es clock):=dt.pX
 obtain ⟨M,q0,hd0,hM0,hq0,x1,x2,xd,y1,y2,ho0,x3,x4,xd',y3,y4,he,ajc⟩:=dt.ex
 have he:fB K R ag M es.toList l:=he
 have hnd:ND l:=he.nd ((stamped_iff es clock).1 cK).2.2
 obtain ⟨lx,BM⟩:=hk.key k cX
 have hc:=HW (P:=P) (kt:=kt) cX false w
 have Ny:=hk.law.stays w BM
 rcases H_ (P:=P) (kt:=kt) cX cK hp he w with ⟨g1,g2,g3⟩ | ⟨j,e,u0,Gg,g1,g2,g3,g4,g5,g6,g7⟩
 ·refine .inl ⟨g1,(clock:Int),setBlock w b (.map (es.push ⟨K.enc k,z,clock⟩) (clock+1)), ?_,(vY dt).ay (am.trans ?_ (Rs (l:=l) (j:=es.size) ⟨stamped_push (val:=z) cK g3,⟨⟨K.enc k,z,clock⟩,by simp,rfl,rfl⟩,cX,by rw [uK g1]; exact hp⟩))⟩
  ·simp [Instr.mapEntry,ht.run,MapKept.run_getObj_map gu,hc,g2,hz.run,MapKept.run_setObj_map _ gu,Result.andThen,setBlock,goInt]
  ·intro N q ⟨a1,a2,ad,b1,b2,ho,a3,a4,r8,b3,b4,iU,hsep⟩
   refine ⟨a1,a2,ad,b1,b2,ho,a3,a4,r8,b3,b4, ?_,hsep⟩
   show fB K R ag N ((es.push ⟨K.enc k,z,clock⟩).toList.eraseIdx es.size) l
   have e1:(es.push ⟨K.enc k,z,clock⟩).toList.eraseIdx es.size=es.toList:=by
    rw [Array.toList_push,List.eraseIdx_append_of_length_le (by simp)]
    simp
   rw [e1]; exact iU
 ·have hj:es[j]? =some e:=by simpa using g3
  have Dc:(es.modify j (λe'=>{e' with key:=K.enc k})).toList=es.toList:=by
   rw [Array.toList_modify,ChangeMaps.modify_eq_set _ _ _ _ g3]
   refine pd (by rw [g3, <- g4])
  refine .inr ⟨u0,Gg,(e.born:Int),setBlock w b (.map (es.modify j (λe'=>{e' with key:=K.enc k})) clock),g1, ?_, ?_⟩
  ·rw [<- g7]
   simp [Instr.mapEntry,ht.run,MapKept.run_getObj_map gu,hc,g2,hj,g4,Ny,MapKept.run_setObj_map _ gu,Result.andThen,setBlock,goInt]
  ·have eF:bH W (setBlock w b (.map (es.modify j (λe'=>{e' with key:=K.enc k})) clock)) (own b (.map (es.modify j (λe'=>{e' with key:=K.enc k})) clock)::is R u0 Gg::FI K R ag (es.toList.eraseIdx j) (l.eraseIdx j)::L):=by
    have h3:bH W w (own b (.map es clock)::is R u0 Gg::FI K R ag (es.toList.eraseIdx j) (l.eraseIdx j)::L):=
     ⟨⟨M,q0,hd0,hM0,hq0,x1,x2,xd,y1,y2,ho0,Mem.emp,x2,Mem.iD _,Mem.iu _,Mem.le_refl _,g6,x3,x4,xd',y3,y4,fB.erase he j,ajc⟩,dt.os,dt.tape,dt.output,dt.size⟩
    exact vY h3
   refine eF.ay ((am.swap _ _ _).trans (am.cons _ (am.trans ?_ (Rs (l:=l.eraseIdx j) (j:=j) ⟨stamped_modify cK j (λe'=>{e' with key:=K.enc k}) (λ_ _=>rfl) (λe' _ Gh=>by rw [hj] at Gh; cases Gh; exact g4.symm),⟨e,by rw [Dc]; exact g3,g4,rfl⟩,cX,by rw [<- z5 hnd g5]; exact LD hp k⟩))))
   rw [Dc]
   exact am.refl _
variable{cs:List Value}
theorem ady {k:κ} {born:Int} {u:α} {m':List (κ × α)} (hr:bV L (λM=>R.fO M u cs)) (hm:((k,u)::fS m k).Perm m') (hs:bH W w (wO K R ag b m k born::L)):
  ∃ w',(Instr.entryStore t (.map (some b)) (.int .i64 born) (ij ag cs)).run P w=.ok () w'/\bH W w' (cy K R ag b m'::L):=by
 obtain ⟨es,clock,l,j,hI,dt⟩:=abX hs
 have gu:w.heap[b]? =some (.map es clock):=dt.pX
 obtain ⟨e,hj,hk,hb⟩:=hI.at_
 have hja:es[j]? =some e:=by simpa using hj
 have kB:j < es.toList.length:=(dX.1 hj).1
 have cK:=(stamped_iff es clock).1 hI.st
 have ajd:es.findIdx? (λe=>((e.born:Nat):Int)==born)=some j:=by
  rw [WideElems.findIdx_arr, <- hb]
  exact WideElems.findIdx_born cK.2.1 hj
 have Dc:(es.modify j (λe'=>{e' with val:=ij ag cs})).toList=es.toList.set j {e with val:=ij ag cs}:=by rw [Array.toList_modify,ChangeMaps.modify_eq_set _ _ _ _ hj]
 refine ⟨setBlock w b (.map (es.modify j (λe'=>{e' with val:=ij ag cs})) clock), ?_,(vY dt).ay (am.trans ?_ (Ct (l:=l.take j++(k,u)::l.drop j) (stamped_modify hI.st j (λe'=>{e' with val:=ij ag cs}) (λ_ _=>rfl) (λ_ _ _=>rfl)) ?_))⟩
 ·simp [Instr.entryStore,MapKept.run_getObj_map gu,asInt,asIntOf,ajd,MapKept.run_setObj_map _ gu,Result.andThen,setBlock]
 ·intro N q ⟨a1,a2,ad,b1,b2,ho,a3,a4,r8,b3,b4,iU,hsep⟩
  refine ⟨a1,a2,ad,b1,b2,ho,a3,a4,r8,b3,b4, ?_,hsep⟩
  show fB K R ag N (es.modify j _).toList _
  rw [Dc]
  exact fB.insert ⟨hk,hI.ok,cs,hr N a4 hsep,rfl⟩ kB iU
 ·refine List.Perm.trans ?_ hm
  refine vU.trans (List.Perm.cons _ ?_)
  rw [qE]
  exact hI.lp
section rules
variable {r:Option Nat} {n:Nat} {ops:Array Oper} {rest:List Oper} {KK:St->Prop} {Q:Exit->St->Prop} {D:List Deferred} {E:cZ} {L0:List HP} {d:Nat} {ty:TypeId} {pos:String} {af:Array Edge}
theorem aaB {x y:Operand} {kt et:TypeId} {z:Value} {k:κ} [ht:dy P t (.map kt et)] [hf:iI L b κ α K R ag m L0] [hk:kw P kt K] [hz:l_ P et z] (hd:Nat.blt d n=true) (hx:ev E x=some (.map (some b))) (hy:ev E y=some (K.enc k)) (cX:K.ok k) 
  (h0:∀ born,cq m k=none->TL r n P ops rest ⟨D,(d,.tuple #[z,.int .i64 born])::E,wO K R ag b m k born::L0⟩ KK)
  (h1:∀ u cs born,cq m k=some u->TL r n P ops rest ⟨D,(d,.tuple #[ij ag cs,.int .i64 born])::E,is R u cs::wO K R ag b m k born::L0⟩ KK):
  TL r n P ops (⟨some d,.mapEntry t x y,ty,pos,af,none⟩::rest) ⟨D,E,L⟩ KK:=
 ma rfl hd rfl (λ_ e=>by cases e) λW a w hh=>by
  rcases agI (P:=P) (t:=t) (kt:=kt) (et:=et) (z:=z) cX (hh.2.ay hf.g) with ⟨g1,born,w',g2,g3⟩ | ⟨u,cs,born,w',g1,g2,g3⟩
  ·exact ⟨_,w',_,by simp [execOp,hh.1.ev hx,hh.1.ev hy,g2],g3,h0 born g1⟩
  ·exact ⟨_,w',_,by simp [execOp,hh.1.ev hx,hh.1.ev hy,g2],g3,h1 u cs born g1⟩
class IT (L:List HP) (b:Nat) (κ:outParam Type) (α:outParam Type) (K:outParam (hU κ)) (R:outParam (bZ α)) (ag:outParam Bool) (hd:outParam (DecidableEq κ)) (m:outParam (List (κ × α))) (k:outParam κ) (born:outParam Int) (L':outParam (List HP)):Prop where
 g:am L (@wO κ α hd K R ag b m k born::L')
instance {p:HP} {L L':List HP} {b:Nat} {κ α:Type} {K:hU κ} {R:bZ α} {ag:Bool} {hd:DecidableEq κ} {m:List (κ × α)} {k:κ} {born:Int} [h:IT L b κ α K R ag hd m k born L']:IT (p::L) b κ α K R ag hd m k born (p::L'):=⟨(am.cons p h.g).trans (am.swap p _ _)⟩
instance {L:List HP} {b:Nat} {κ α:Type} {K:hU κ} {R:bZ α} {ag:Bool} {hd:DecidableEq κ} {m:List (κ × α)} {k:κ} {born:Int}:IT (@wO κ α hd K R ag b m k born::L) b κ α K R ag hd m k born L:=⟨am.refl _⟩
theorem QL {x s y:Operand} {k:κ} {born:Int} {u:α} (m':List (κ × α)) [hf:IT L b κ α K R ag ‹_› m k born L0] (hx:ev E x=some (.map (some b))) (hs:ev E s=some (.int .i64 born)) (hy:ev E y=some (ij ag cs)) (hr:bV L0 (λM=>R.fO M u cs)) (hm:((k,u)::fS m k).Perm m') 
  (h:TL r n P ops rest ⟨D,E,cy K R ag b m'::L0⟩ KK):TL r n P ops (⟨none,.entryStore t x s y,ty,pos,af,none⟩::rest) ⟨D,E,L⟩ KK:=
 yo rfl rfl (λ_ e=>by cases e) λW a w hh=>by
  obtain ⟨w',g1,g2⟩:=ady (P:=P) (t:=t) hr hm (hh.2.ay hf.g)
  exact ⟨_,w',_,by simp [execOp,hh.1.ev hx,hh.1.ev hs,hh.1.ev hy,g1],.inl rfl,g2,h⟩
end rules
end
open Go Go.Proofs Go.Proofs.Tryz
abbrev mt (e:aW) (p:Option Addr × Nat):Value:=.agg (List.toArray (fv e p))
theorem YN (e:aW) (p:Option Addr × Nat) (hk:bR L (aI .i64) p.1 p.2 e.d7) (ho:kj e):Fn prog 506 #[mt e p] L (λr L'=>∃ q,r=mt e q/\L'=aN (aI .i64) 3 q.1 q.2 e.d7::L):=by
 refine aH func506 J J J J<|aa<|bS J J J λb1=>bB J J λb2=>O<|aa<|ao J<|ax J J<|aJ J J (gz hk.tail.tail ho.2.2.1) ?_
 rintro _ _ ⟨A5,c5,rfl,rfl⟩
 exact ao J<|aE J J<|O<|aa<|bD J J<|aE J J<|O<|av<|eK (.inl J) J (bf.agg J J) bu.g (⟨(A5,c5),J,J⟩)
def iK {σ:Type} (want:σ->aW->Bool) (stp:σ->aW->σ):σ->List aW->List aW × σ
 | s,[]=>([],s)
 | s,e::r=>let x:=iK want stp (stp s e) r; (bif want s e then e::x.1 else x.1,x.2)
theorem TS {σ:Type} {want:σ->aW->Bool} {stp:σ->aW->σ}:∀ (l:List aW) (s:σ) (e:aW),iK want stp s (l++[e])=((iK want stp s l).1++(bif want (iK want stp s l).2 e then [e] else []),stp (iK want stp s l).2 e)
 | [],s,e=>by simp [iK]
 | x::r,s,e=>by
  simp only [dL,iK]
  rw [TS r]
  cases want s x <;> simp
variable{e:aW}
theorem ah5 {σ:Type} {want:σ->aW->Bool} {stp:σ->aW->σ} (h:l[i]? =some e) (s:σ):iK want stp s (l.take (i+1))=((iK want stp s (l.take i)).1++(bif want (iK want stp s (l.take i)).2 e then [e] else []),stp (iK want stp s (l.take i)).2 e):=by
 rw [ll h]; exact TS _ _ _
theorem UC {σ:Type} {want:σ->aW->Bool} {stp:σ->aW->σ}:∀ (l:List aW) (s:σ),(iK want stp s l).1.length<=l.length
 | [],s=>by simp [iK]
 | x::r,s=>by
  have:=UC (want:=want) (stp:=stp) r (stp s x)
  simp only [iK]
  cases want s x <;> simp <;> omega
theorem R0 (p:aW->Bool):∀ l:List aW,(iK (λ(_:Unit) e=>p e) (λs _=>s) () l).1=l.filter p
 | []=>rfl
 | x::r=>by
  simp only [iK,uA]
  rw [R0 p r]
  cases p x <;> simp
theorem Mw:∀ (l:List aW) (seen:List gT),(iK (λseen e=> !decide (e.dot∈seen)) (λseen e=>e.dot::seen) seen l).1=q8 seen l
 | [],seen=>rfl
 | x::r,seen=>by
  simp only [iK,q8]
  by_cases h:x.dot∈seen
  ·have key:∀ (l:List aW) (a b:List gT),(∀ d,d∈a↔d∈b)->(iK (λseen e=> !decide (e.dot∈seen)) (λseen e=>e.dot::seen) a l).1=(iK (λseen e=> !decide (e.dot∈seen)) (λseen e=>e.dot::seen) b l).1:=by
    intro l
    induction l with
    | nil=>intro a b _; rfl
    | cons y t ih=>
     intro a b rl
     simp only [iK]
     rw [ih (y.dot::a) (y.dot::b) (λd=>by rw [ig,ig,rl])]
     simp only [rl]
   rw [if_pos h, <- Mw r seen]
   simp only [h,decide_true,Bool.not_true,cond_false]
   exact key r (x.dot::seen) seen λd=>⟨λhd=>by rcases ig.1 hd with rfl | hd; exact h; exact hd,gO _⟩
  ·rw [if_neg h,Mw r]
   simp [h]
structure ajZ (σ:Type) where
 i:Nat
 A:Option Addr
 c:Nat
theorem R1 {σ:Type} (W:σ->HP) (want:σ->aW->Bool) (stp:σ->aW->σ) (f:FuncId) [li prog f] (lW:List Value) (s0:σ) 
  (tY:∀ (s:σ) (e:aW) (q:Option Addr × Nat) (L1:List HP),e∈l->kj e->bR L1 (aI .i64) q.1 q.2 e.d7->Fn prog f ([]++[mt e q]++lW).toArray (W s::L1) (λv L'=>v=.bool (want s e)/\L'=W (stp s e)::L1))
  (hk:a_ L bK A c l) (hl:l.length<=1466015503701):
  Fn prog 455 #[.slice A l.length c,.func (.func f) #[] lW.toArray] (W s0::L) (λv L'=>∃ A' c',v=.slice A' (iK want stp s0 l).1.length c'/\L'=aN bK 49 A' c' (iK want stp s0 l).1::W (iK want stp s0 l).2::L):=by
 refine aH func455 J J J J<|b_ (a_.lay hk.tail)<|aa<|ae J<|O<|aa<|ae J<|O<|ar<|aa<|Y J<|ab J J (bY J)<|Y J<|O<|aX<|cY (σ:=ajZ σ) [1,8,9] (λg=>g.i<=l.length) (λg kv=>(10,.int .i64 (g.i:Int))::(5,.slice g.A (iK want stp s0 (l.take g.i)).1.length g.c)::kv) (λg=>aN bK 49 g.A g.c (iK want stp s0 (l.take g.i)).1::W (iK want stp s0 (l.take g.i)).2::sl bK A c l::L) (λg=>l.length - g.i) (⟨0,none,0⟩) J (dF _) (am.trans (am.swap _ _ _) (du bK 49 none _)) (dc J) ?_
 rintro ⟨i,X,cx⟩ eG
 dsimp only at eG ⊢
 refine aa<|ab J J (bU J J)<|O<|ar<|bz J (λgJ=> ?_) (λgJ=> ?_)
 ·refine az<|ai<|ar<|aX ?_
  obtain ⟨e,he⟩:∃ e,l[i]? =some e:=⟨_,cj (by omega)⟩
  have oR:=eA he
  have gW:=ah5 (want:=want) (stp:=stp) he s0
  have zt:=UC (want:=want) (stp:=stp) (l.take i) s0
  rw [gq] at zt
  generalize iK want stp s0 (l.take i)=x at gW zt ⊢
  obtain ⟨xs,s⟩:=x
  dsimp only at gW zt ⊢
  refine aa<|f6 J J J (J) ((bJ (A:=A) (c:=c))) (he) λI' Ja Jb w_=> ?_
  have xa:=he
  refine kh J J w_ xa (λ_=>J) λsg t7=> ?_
  simp only [dL,dm]
  refine bB J J λb7=>aE J J<|O<|aa<|Y J<|bD J J<|bX (show am _ (W s::cells b7 (fv e sg) 49::sl (aI .i64) sg.1 sg.2 e.d7::aN bK 49 X cx xs::sl bK A c l::L) from al)<|jx J J J (tY s e sg _ oR t7 (a_.n slk)) ?_
  rintro _ _ ⟨rfl,rfl⟩
  refine O<|gF J (λeI=> ?_) (λeI=> ?_)
  ·rw [eI] at gW
   simp only [cond_true] at gW
   refine aQ<|Y J<|bD J J<|aJ J J (YN e sg (a_.n slk) t7) ?_
   rintro _ _ ⟨q,rfl,rfl⟩
   refine bF<|ef J J J J J J λb20=>eh (k:=1) bK [e] (jZ (fI q (lk slk) t7)) J (by decide)<|bF<|aV 20 (.slice (some ⟨b20,0,none⟩) [e].length 1) J<|fi J J J J J slk (by simp only [dO,ej]; omega) λJK JL=>ae J<|O<|bA<|ai<|aQ<|ab J J (bE J J (by omega))<|cz 22 J<|Y J<|O<|ai ?_
   rw [show xs++[e]=(iK want stp s0 (l.take (i+1))).1 by rw [gW]]
   rw [show stp s e=(iK want stp s0 (l.take (i+1))).2 by rw [gW]]
   exact ⟨⟨i+1,JK,JL⟩,(by simp only; omega),by simp only; omega,bO rfl⟩
  rw [eI] at gW
  simp only [cond_false,tE] at gW
  refine az<|bA<|ai<|aQ<|ab J J (bE J J (by omega))<|cz 22 J<|Y J<|O<|ai ?_
  have e1:xs=(iK want stp s0 (l.take (i+1))).1:=(bi Prod.fst gW).symm
  rw [show stp s e=(iK want stp s0 (l.take (i+1))).2 by rw [gW]]
  clear gW
  subst e1
  exact ⟨⟨i+1,X,cx⟩,(by simp only; omega),by simp only; omega,bO rfl⟩
 refine cw<|aY<|aY<|cu<|ai<|aa<|Y J<|ae J<|O<|av ?_
 rw [gQ (show l.length<=i by omega)]
 exact aZ J J al (⟨X,cx,J,J⟩)
open Go Go.Proofs Go.Proofs.Tryz
open Go.WideMaps (KeyLaw)
abbrev re:=ByteArray × ByteArray
def mI:hU re:=⟨λk=>.agg #[.string k.1,.string k.2],λk=>k.1.size<=cE/\k.2.size<=cE,λa b h=>by
 have h1:=(Value.agg.injEq _ _).mp h
 simp at h1
 exact Prod.ext h1.1 h1.2⟩
theorem UD:laidOutB prog=true:=by kernel_rfl
theorem TT:∃ q,prog.types.size=q+1:=⟨prog.types.size - 1,by have:0 < prog.types.size:=o3 (by kernel_rfl); omega⟩
theorem agJ:(540:TypeId) < prog.types.size:=o3 (by kernel_rfl)
theorem ae_:(match prog.underlying 540 with | some (.array _ _) | some (.struct _)=>true | _=>false)=true:=by rw [underlying540]
set_option maxRecDepth 100000 in
theorem agK:KeyLaw prog 540:=deep_law_laid UD (m:=2) (by omega) agJ (by kernel_rfl) ae_
theorem SV:prog.cellsOf 540=2:=by kernel_rfl
theorem adz:prog.cellsOf 9=1:=by kernel_rfl
theorem agL:prog.keyType 540=true:=by kernel_rfl
set_option maxRecDepth 100000 in
theorem ah6 (k:re) (h:mI.ok k):∃ l,keyOf prog 540 (mI.enc k)=some l:=by
 obtain ⟨q,hq⟩:=TT
 have h1:k.1.size<=maxLen:=by have:=h.1; simp only [cE] at this; simp only [maxLen]; omega
 have h2:k.2.size<=maxLen:=by have:=h.2; simp only [cE] at this; simp only [maxLen]; omega
 have hf:(mI.enc k).formed prog 540=true:=by simp [mI,Value.formed,underlying540,SV]
 refine ⟨.string (keyBytes [.string k.1.data.toList,.string k.2.data.toList]), ?_⟩
 unfold keyOf
 rw [underlying540]
 simp only [agL,hf,Bool.and_self,if_true]
 rw [hq]
 simp [mI,Program.keyLits,underlying540,underlying9,SV,adz,Value.cells,h1,h2]
instance:kw prog 540 mI:=⟨Maps.Keyed.of_law agK,ah6⟩
def td:bZ (List Int):=mo 1 (λ(xs:List Int) (p:Option Addr × Nat)=>[.slice p.1 xs.length p.2]) (λ(xs:List Int) (p:Option Addr × Nat)=>[sl (aI .i64) p.1 p.2 xs]) (λ_=>True) (λ_ _=>rfl) (λ_ _=>rfl)
abbrev Pf:=Option Addr × Nat × Nat
def ql:bZ Pf:=⟨1,λ_ x cs=>cs=[.slice x.1 x.2.1 x.2.2],λ_ h=>h,λh=>by simp [h],λh v hv=>by rw [h] at hv; simp at hv; subst hv; rfl⟩
instance:yT ql (λx=>.slice x.1 x.2.1 x.2.2):=⟨λM x cs h=>by rw [h]; rfl⟩
abbrev GC:=re × (Option Addr × Nat) × List (List Int)
abbrev mG (G:List GC):List (re × Pf):=G.map λg=>(g.1,(g.2.1.1,g.2.2.length,g.2.1.2))
abbrev pG (G:List GC):List (re × List (List Int)):=G.map λg=>(g.1,g.2.2)
abbrev oG (g:GC):HP:=aN td 34 g.2.1.1 g.2.1.2 g.2.2
abbrev sj (G:List GC):List HP:=G.map oG
def ro (G:List GC):HP:=nV (λM=>∀ g∈G,sliceAt M td g.2.1.1 g.2.1.2 g.2.2) (λhM h g hg=>(h g hg).mono hM)
variable{G:List GC}
theorem UE (h:bV L (λM=>∀ g∈G,sliceAt M td g.2.1.1 g.2.1.2 g.2.2)):am L (ro G::L):=bV.lay (hm:=λhM h g hg=>(h g hg).mono hM) h
def yW (k:re) (e:aW):Bool:=e.jy && (decide (e.aK=k.1) && decide (e.di=k.2))
def yX (l:List aW) (k:re):List (List Int):=(l.filter (yW k)).map λe=>e.d7
def xz (l:List aW) (G:List GC):Prop:=∀ k,(cq (pG G) k).getD []=yX l k
theorem SW (h:l[i]? =some e) (k:re):yX (l.take (i+1)) k=yX (l.take i) k++if yW k e then [e.d7] else []:=by
 unfold yX
 rw [ll h,nC,kp]
 by_cases hc:yW k e=true <;> simp [hc]
theorem ae' (l:List aW) (k:re):(yX l k).length<=l.length:=by unfold yX; rw [gY]; exact kG _ _
theorem TU:rR l e↔∃ v∈yX l (e.aK,e.di),pB v e.dot:=by
 unfold rR yX yW
 constructor
 ·rintro ⟨x,hx,h1,h2,h3,h4⟩
  exact ⟨x.d7,fY.2 ⟨x,ke.2 ⟨hx,by simp [h1,h2,h3]⟩,rfl⟩,h4⟩
 ·rintro ⟨v,hv,h4⟩
  obtain ⟨x,hx,rfl⟩:=fY.1 hv
  obtain ⟨h1,h2⟩:=ke.1 hx
  simp at h2
  exact ⟨x,h1,h2.1,h2.2.1,h2.2.2,h4⟩
theorem Gr:ND (mG G)↔ND (pG G):=by
 unfold ND mG pG
 rw [oh,oh]
variable{k:re}
theorem Ol:cq (mG G) k=none↔cq (pG G) k=none:=by
 rw [o9,o9]
 constructor
 ·intro h p hp; obtain ⟨g,hg,rfl⟩:=fY.1 hp; exact h _ (fY.2 ⟨g,hg,rfl⟩)
 ·intro h p hp; obtain ⟨g,hg,rfl⟩:=fY.1 hp; exact h _ (fY.2 ⟨g,hg,rfl⟩)
theorem xz.skip (h:xz (l.take i) G) (he:l[i]? =some e) (hc:e.jy=false):xz (l.take (i+1)) G:=λk=>by
 rw [h k,SW he]
 simp [yW,hc]
variable{ys:List (List Int)}
theorem xz.put {G':List GC} (h:xz (l.take i) G) (he:l[i]? =some e) (hc:e.jy=true) (DM:(cq (pG G) (e.aK,e.di)).getD []=ys) (hp:(((e.aK,e.di),ys++[e.d7])::fS (pG G) (e.aK,e.di)).Perm (pG G')) (hn:ND (pG G)):xz (l.take (i+1)) G':=λk=>by
 have DN:ND (((e.aK,e.di),ys++[e.d7])::fS (pG G) (e.aK,e.di)):=ahJ hn _ _
 rw [<- ada hp DN k,yc,EG,SW he]
 by_cases hk:(e.aK,e.di)=k
 ·subst hk
  rw [if_pos rfl, <- h,DM]
  simp [yW,hc]
 ·rw [if_neg hk,if_neg (λh=>hk h.symm),h k]
  have:yW k e=false:=by
   unfold yW
   rw [hc]
   by_cases h1:e.aK=k.1 <;> by_cases h2:e.di=k.2 <;> simp [h1,h2]
   exact absurd (Prod.ext h1 h2) hk
  rw [this]; simp
theorem U9 {u:Pf} (h:cq (mG G) k=some u):∃ (j:Nat) (g:GC),G[j]? =some g/\g.1=k/\u=(g.2.1.1,g.2.2.length,g.2.1.2):=by
 obtain ⟨g,hg,e⟩:=fY.1 (wj h)
 obtain ⟨j,hj⟩:=od hg
 have e1:=bi Prod.fst e
 have e2:=bi Prod.snd e
 exact ⟨j,g,hj,e1,e2.symm⟩
variable{j:Nat}{g:GC}
theorem VE (hn:ND (pG G)) (hj:G[j]? =some g) (hk:g.1=k):cq (pG G) k=some g.2.2:=zW hn (fY.2 ⟨g,eA hj,by rw [hk]⟩)
theorem ah7 (hn:ND (mG G)) (hj:G[j]? =some g) (hk:g.1=k) (x:(Option Addr × Nat) × List (List Int)):((k,(x.1.1,x.2.length,x.1.2))::fS (mG G) k).Perm (mG (G.set j (k,x))):=by
 have h1:(mG G)[j]? =some (k,(g.2.1.1,g.2.2.length,g.2.1.2)):=by rw [e_,hj, <- hk]; rfl
 rw [z5 hn h1,show mG (G.set j (k,x))=(mG G).set j (k,(x.1.1,x.2.length,x.1.2)) from l8]
 exact (EH (by rw [gY]; exact (dX.1 hj).1)).symm
theorem ah8 (hn:ND (pG G)) (hj:G[j]? =some g) (hk:g.1=k) (x:(Option Addr × Nat) × List (List Int)):((k,x.2)::fS (pG G) k).Perm (pG (G.set j (k,x))):=by
 have h1:(pG G)[j]? =some (k,g.2.2):=by rw [e_,hj, <- hk]; rfl
 rw [z5 hn h1,show pG (G.set j (k,x))=(pG G).set j (k,x.2) from l8]
 exact (EH (by rw [gY]; exact (dX.1 hj).1)).symm
variable{r:Option Nat}
theorem U_ {α:Type} {R:bZ α} {f:α->Value} [hv:yT R f] {u:α} {cs:List Value} (h:ij false cs=f u->TL r n P ops rest ⟨D,E,L⟩ K):TL r n P ops rest ⟨D,E,is R u cs::L⟩ K:=λW a w hh=>by
 obtain ⟨M,k,_,_,_,h1,h2,_,_,_,hi,_⟩:=hh.2.ex
 exact h (hv.e _ _ _ hi) W a w ⟨hh.1,hh.2.ay (am.drop _ _)⟩
theorem Rt {W w:World}:∀ (G:List GC) (L:List HP),bH W w (c_ (sj G)::L)->bH W w (ro G::L)
 | [],L,h=>(h.ay (am.drop _ _)).ay (UE (bV.const λM g hg=>by cases hg))
 | g::G,L,h=>by
  have h1:bH W w (oG g::c_ (sj G)::L):=h.ay ((mC (L:=sj (g::G))).trans (am.cons _ g9))
  have h2:=(K8 h1).ay (am.swap _ _ _)
  have h3:=Rt G _ h2
  refine h3.ay (am.trans (UE (G:=g::G) ?_) (am.cons _ ((am.drop _ _).trans (am.drop _ _))))
  intro M m hs x hx
  obtain ⟨_,_,_,_,_,ha,_,_,_,_,_,hb,_⟩:=hs
  rcases ig.1 hx with rfl | hx
  ·exact hb
  ·exact ha x hx
theorem adA {c:Code} (h:T r n P c ⟨D,E,ro G::L⟩ Q):T r n P c ⟨D,E,c_ (sj G)::L⟩ Q:=λW a w hh=>h W a w ⟨hh.1,Rt _ _ hh.2⟩
structure aj0 where
 i:Nat
 G:List GC
theorem aaC (hk:a_ L bK A c l) (hl:l.length<=1466015503701):Fn prog 457 #[.slice A l.length c] L (λv L'=>∃ bm G,v=.map (some bm)/\L'=cy mI ql false bm (mG G)::ro G::L/\xz l G):=by
 refine aH func457 J J J J<|b_ hk.lay<|aa<|ae J<|O<|aa<|o7 mI ql false J λbm=>ae J<|O<|ar<|b_ (am.trans (g9 (L:=[])) (am.swap _ _ _))<|aa<|Y J<|ab J J (bY J)<|Y J<|O<|aX<|cY (σ:=aj0) [3,8,9] (λg=>g.i<=l.length/\xz (l.take g.i) g.G) (λg kv=>(10,.int .i64 (g.i:Int))::kv) (λg=>cy mI ql false bm (mG g.G)::c_ (sj g.G)::sl bK A c l::L) (λg=>l.length - g.i) (⟨0,[]⟩) J (⟨dF _,λk=>J⟩) (am.refl _) (dc J) ?_
 rintro ⟨i,G⟩ ⟨eG,hG⟩
 dsimp only at eG hG ⊢
 refine aa<|ab J J (bU J J)<|O<|ar<|bz J (λgJ=> ?_) (λgJ=> ?_)
 ·refine az<|ai<|ar<|aX ?_
  obtain ⟨e,he⟩:∃ e,l[i]? =some e:=⟨_,cj (by omega)⟩
  refine I3 (b:=bm) λhnd=>aa<|f6 J J J (J) ((bJ (A:=A) (c:=c))) (he) λI' Ja Jb w_=> ?_
  have xa:=he
  refine kh J J w_ xa (λ_=>J) λsg t7=> ?_
  simp only [dL,dm]
  refine bB J J λb5=>aE J J<|O<|aa<|ao J<|ax J J<|O<|gF J (λkU=> ?_) (λkU=> ?_)
  ·refine aa<|ao J<|ax J J<|ao J<|ax J J<|ab J J (bI J J)<|bB J J λb6=>aE J J<|O<|aQ<|Y J<|bD J J<|ao J<|ax J J<|ef J J J J J J λBQ=>eh (k:=1) td [e.d7] (jZ (fI sg (lk slk) trivial)) J (by decide)<|bF<|aV 26 (.slice (some ⟨BQ,0,none⟩) [e.d7].length 1) J<|aaB (K:=mI) (R:=ql) (k:=(e.aK,e.di)) J J J ⟨t7.2.2.2.1,t7.2.2.2.2.2.1⟩ (λborn mT=> ?_) (λu cs born Pg=> ?_)
   ·refine ab J J (aO J J)<|af' (A:=none) td 34<|fi (R:=td) (xs:=[]) J J J J J slk (by simp only [dO,ej]; omega) λla kD=>ab J J (aO J J)<|QL (u:=(la,([]++[e.d7]:List (List Int)).length,kD)) (cs:=[.slice la ([]++[e.d7]:List (List Int)).length kD]) (mG (G++[((e.aK,e.di),(la,kD),[]++[e.d7])])) J J J (bV.const λM=>J) (by rw [uK mT]; simp only [mG,kp,kq,List.map_nil]; exact (D_ _ _).symm)<|O<|bA<|ai<|b_ (show am _ (oG ((e.aK,e.di),(la,kD),[]++[e.d7])::c_ (sj G)::_) from (cR.g (p:=aN td 34 la kD ([]++[e.d7]))).trans (am.cons _ (cR.g (p:=c_ (sj G)))))<|b_ (show am _ (c_ (sj (G++[((e.aK,e.di),(la,kD),[]++[e.d7])]))::_) from Mt (f:=oG) (bs:=G) (b:=((e.aK,e.di),(la,kD),[]++[e.d7])))<|aQ<|ab J J (bE J J (by omega))<|cz 30 J<|Y J<|O<|ai ?_
    exact ⟨⟨i+1,G++[((e.aK,e.di),(la,kD),[]++[e.d7])]⟩,⟨by simp only; omega,hG.put he kU (ys:=[]) (by rw [Ol.1 mT]; rfl) (by rw [uK (Ol.1 mT)]; simp only [pG,kp,kq,List.map_nil]; exact (D_ _ _).symm) (Gr.1 hnd)⟩,by simp only; omega,bO rfl⟩
   refine U_ λmM=> ?_
   rw [mM]
   obtain ⟨j,g,zu,xA,Ph⟩:=U9 Pg
   subst Ph
   have DM:(cq (pG G) (e.aK,e.di)).getD []=g.2.2:=(by rw [VE (Gr.1 hnd) zu xA]; rfl)
   have WX:g.2.2.length<=l.length:=(by rw [<- DM,hG]; exact kf (ae' _ _) (by rw [gq]; omega))
   refine ab J J (aO J J)<|bX (show am _ (c_ (sj G)::_) from cR.g)<|bX (wh (show (sj G)[j]? =some (oG g) by rw [e_,zu]; rfl)) ?_
   refine fi J J J J J slk (by simp only [dO,ej]; omega) λla kD=>ab J J (aO J J)<|QL (u:=(la,(g.2.2++[e.d7]).length,kD)) (cs:=[.slice la (g.2.2++[e.d7]).length kD]) (mG (G.set j ((e.aK,e.di),(la,kD),g.2.2++[e.d7]))) J J J (bV.const λM=>J) (ah7 hnd zu xA ((la,kD),g.2.2++[e.d7]))<|O<|bA<|ai<|b_ (show am _ (oG ((e.aK,e.di),(la,kD),g.2.2++[e.d7])::c_ ((sj G).set j gP)::_) from (cR.g (p:=aN td 34 la kD (g.2.2++[e.d7]))).trans (am.cons _ cR.g))<|b_ (EL (by rw [gY]; exact (dX.1 zu).1)) ?_
   rw [show (sj G).set j (oG ((e.aK,e.di),(la,kD),g.2.2++[e.d7]))=sj (G.set j ((e.aK,e.di),(la,kD),g.2.2++[e.d7])) from l8.symm]
   refine aQ<|ab J J (bE J J (by omega))<|cz 30 J<|Y J<|O<|ai ?_
   exact ⟨⟨i+1,G.set j ((e.aK,e.di),(la,kD),g.2.2++[e.d7])⟩,⟨by simp only; omega,hG.put he kU DM (ah8 (Gr.1 hnd) zu xA ((la,kD),g.2.2++[e.d7])) (Gr.1 hnd)⟩,by simp only; omega,bO rfl⟩
  refine az<|bA<|ai<|aQ<|ab J J (bE J J (by omega))<|cz 30 J<|Y J<|O<|ai ?_
  exact ⟨⟨i+1,G⟩,⟨by simp only; omega,hG.skip he kU⟩,by simp only; omega,bO rfl⟩
 refine cw<|aY<|aY<|cu<|ai ?_
 rw [gQ (show l.length<=i by omega)] at hG
 exact ou 1 J<|adA<|aa<|Y J<|ae J<|O<|av<|aF.ay (show am _ (cy mI ql false bm (mG G)::ro G::L) from al)<|aZ J J al (⟨bm,G,J,J,hG⟩)
open Go Go.Proofs Go.Proofs.Tryz
variable{b2:Nat}{q:Option Addr × Nat}
theorem aaD {p:Option Addr × Nat} (xs:List Int) (hk:bR L (aI .i64) p.1 p.2 xs):Fn prog 460 #[.slice p.1 xs.length p.2,.pointer (some ⟨b2,0,none⟩)] (cells b2 (fv e q) 49::L) (λv L'=>v=.bool (decide (pB xs e.dot))/\L'=cells b2 (fv e q) 49::L):=by
 exact aH func460 J J J J<|aa<|ae J<|O<|aa<|Y J<|ao J<|bD J J<|aB J J (Eu hk.tail e.dot)<|ae J<|O<|av<|cI J J
theorem aaE (hk:a_ L td A c ys):Fn prog 507 #[.slice A ys.length c,.func (.func 460) #[] #[.pointer (some ⟨b2,0,none⟩)]] (cells b2 (fv e q) 49::L) (λv L'=>∃ r:Int,v=.int .i64 r/\L'=cells b2 (fv e q) 49::L/\(0<=r↔∃ x∈ys,pB x e.dot)):=by
 refine aH func507 J J J J<|b_ (a_.lay hk.tail)<|bR.lens (bJ (A:=A) (c:=c)) λhl=> ?_
 simp only [cE] at hl
 refine aa<|ae J<|O<|ar<|aa<|Y J<|ab J J (bY J)<|Y J<|O<|aX<|cY (σ:=Nat) [0,1,7] (λi=>i<=ys.length/\∀ x∈ys.take i,¬ pB x e.dot) (λi kv=>(8,.int .i64 (i:Int))::kv) (λi=>cells b2 (fv e q) 49::sl td A c ys::L) (λi=>ys.length - i) (0) J (⟨dF _,by simp⟩) (al) (dc J) λi hi=>aa<|ab J J (bU J J)<|O<|ar<|bz J (λh9=> ?_) (λh9=> ?_)
 ·refine az<|ai<|ar<|aX ?_
  obtain ⟨x,hx⟩:∃ x,ys[i]? =some x:=⟨_,cj (by omega)⟩
  refine aa<|Y J<|ae J<|O<|aa<|Y J<|Y J<|Y J<|f6 J J J (J) ((bJ (A:=A) (c:=c))) (hx) λBj Bk Bl qm=> ?_
  have qn:=hx
  refine KU J J qm qn (λ_=>J) λuq Jc=> ?_
  simp only [dL,dm]
  refine g_ b2<|jx J J J (aaD x (a_.n slk)) ?_
  rintro _ _ ⟨rfl,rfl⟩
  refine O<|bz J (λeI=> ?_) (λeI=> ?_)
  ·refine aa<|Y J<|ae J<|O<|av<|db<|aU<|aU<|db<|aU ?_
   exact aZ J J al (⟨_,J,J,⟨λ_=>⟨x,eA hx,eI⟩,λ_=>by omega⟩⟩)
  refine az<|bA<|ai<|aQ<|ab J J (bE J J (by omega))<|cz 18 J<|Y J<|O<|ai ?_
  exact ⟨i+1,⟨by omega,by rw [ll hx]; intro y hy; rcases gD.1 hy with h | h; exact hi.2 y h; (simp at h; subst h; exact eI)⟩,by omega,bO rfl⟩
 refine cw<|aY<|aY<|cu<|ai<|aa<|ae J<|O<|av ?_
 have jX:=hi.2
 rw [gQ (show ys.length<=i by omega)] at jX
 exact aZ rfl rfl al (⟨_,rfl,rfl,⟨λh=>absurd h (by omega),λ⟨x,h1,h2⟩=>absurd h2 (jX x h1)⟩⟩)
theorem QA (hk:a_ L td A c ys):Fn prog 459 #[.slice A ys.length c,.func (.func 460) #[] #[.pointer (some ⟨b2,0,none⟩)]] (cells b2 (fv e q) 49::L) (λv L'=>v=.bool (decide (∃ x∈ys,pB x e.dot))/\L'=cells b2 (fv e q) 49::L):=by
 refine aH func459 J J J J<|aa<|ae J<|O<|aa<|Y J<|Y J<|aJ J J (aaE hk) ?_
 rintro _ _ ⟨r,rfl,rfl,hr⟩
 exact ab J J (eV J J)<|ae J<|O<|av<|aZ J J al (⟨bi Value.bool (gX.2 hr),J⟩)
theorem ah9 {L0:List HP} [h:cR L (ro G) L0] (hg:g∈G):am L (sl td g.2.1.1 g.2.1.2 g.2.2::L):=a_.lay λM m hs=>by
 obtain ⟨_,_,_,_,_,h1,_⟩:=h.g M m hs
 exact h1 g hg
def C7 (bb bm:Nat) (G:List GC):HP:=sb [cells bb [.map (some bm)] 535,cy mI ql false bm (mG G),ro G]
variable{bb:Nat}
theorem aaF {bm:Nat} (hG:xz l G) (e:aW) (q:Option Addr × Nat) (ho:kj e):Fn prog 458 #[mt e q,.pointer (some ⟨bb,0,none⟩)] (C7 bb bm G::L) (λv L'=>v=.bool (!decide (rR l e))/\L'=C7 bb bm G::L):=by
 refine aH func458 J J J J<|b_ (show am _ (cells bb [.map (some bm)] 535::cy mI ql false bm (mG G)::ro G::L) from mC)<|I3 (b:=bm) λhnd=>aa<|bS J J J λb2=>ae J<|O<|aa<|ax J J<|ao J<|ax J J<|ao J<|ax J J<|ab J J (bI J J)<|Sx (K:=mI) (R:=ql) (k:=(e.aK,e.di)) J J J ⟨ho.2.2.2.1,ho.2.2.2.2.2.1⟩ (λmT=> ?_) (λu cs Pg=> ?_)
 ·refine ab J J (gy J J)<|g_ b2<|aB J J (QA (A:=none) (c:=0) (ys:=[]) dP)<|ab J J (ff J)<|ae J<|O<|av ?_
  have Gd:rR l e↔∃ x∈([]:List (List Int)),pB x e.dot:=(by rw [TU, <- hG,Ol.1 mT]; rfl)
  exact aF.ay (show am _ (cells bb [.map (some bm)] 535::cy mI ql false bm (mG G)::ro G::L) from al)<|aF.ay (show am _ (C7 bb bm G::L) from g9 (L:=[cells bb [.map (some bm)] 535,cy mI ql false bm (mG G),ro G]))<|aZ J J al (⟨bi Value.bool (by simp only [Gd]),J⟩)
 refine U_ λmM=> ?_
 rw [mM]
 obtain ⟨j,g,zu,xA,Ph⟩:=U9 Pg
 subst Ph
 have DM:(cq (pG G) (e.aK,e.di)).getD []=g.2.2:=(by rw [VE (Gr.1 hnd) zu xA]; rfl)
 refine bX (ah9 (G:=G) (eA zu))<|ab J J (gy J J)<|g_ b2<|aB J J (QA (ys:=g.2.2) slk)<|ab J J (ff J)<|ae J<|O<|av ?_
 have Gd:rR l e↔∃ x∈g.2.2,pB x e.dot:=(by rw [TU, <- hG,DM])
 exact aF.ay (show am _ (cells bb [.map (some bm)] 535::cy mI ql false bm (mG G)::ro G::L) from al)<|aF.ay (show am _ (C7 bb bm G::L) from g9 (L:=[cells bb [.map (some bm)] 535,cy mI ql false bm (mG G),ro G]))<|aZ J J al (⟨bi Value.bool (by simp only [Gd]),J⟩)
theorem abY (hk:a_ L bK A c l) (hl:l.length<=1466015503701):Fn prog 406 #[.slice A l.length c] L (λv L'=>∃ A' c',v=.slice A' (qT l).length c'/\L'=aN bK 49 A' c' (qT l)::L):=by
 refine aH func406 J J J J<|b_ hk.lay<|aa<|ae J<|O<|aa<|Y J<|aJ J J (aaC slk hl) ?_
 rintro _ _ ⟨bm,G,rfl,rfl,hG⟩
 refine bB J J λb3=>aE J J<|O<|aa<|Y J<|ab J J (gy J J)<|bX (show am _ (cells b3 [.map (some bm)] 535::cy mI ql false bm (mG G)::ro G::sl bK A c l::L) from al)<|bX (show am _ (C7 b3 bm G::sl bK A c l::L) from g9 (L:=[cells b3 [.map (some bm)] 535,cy mI ql false bm (mG G),ro G]))<|aJ J J (R1 (σ:=Unit) (λ_↦C7 b3 bm G) (λ_ e↦ !decide (rR l e)) (λs _↦s) 458 [.pointer (some ⟨b3,0,none⟩)] () (λs e q L1 _ ho mU↦aaF hG e q ho) slk hl) ?_
 rintro _ _ ⟨A8,c8,rfl,rfl⟩
 rw [show (iK (λ(_:Unit) e=> !decide (rR l e)) (λs _=>s) () l).1=qT l from R0 _ l]
 exact ae J<|O<|av<|aZ J J al (⟨A8,c8,J,J⟩)
open Go Go.Proofs Go.Proofs.Tryz
theorem aaG {β:Type} {R:bZ β} {m:List (ByteArray × β)} {τ:Type} {l:Nat} {C:τ->HP} {step:τ->ByteArray->τ->Prop} {stop:τ->Bool} {ek:τ->Nat} {s0:τ} (h0:stop s0=false) (n6:ek s0=0) (ip:∀ s x s',step s x s'->ek s'=ek s+1) (hy:Ak prog l C (λk:ByteArray=>[.string k]) (λk=>k.size<=cE) step stop ek m.length):
  Fn prog 461 #[.func (.yield l) #[] #[],.pointer (some ⟨bx,0,none⟩)] (fP l (C s0)::cells bx [.map (some b)] 263::cy fb R ag b m::Lx)
   (λv L'=>∃ xs s',(stop s'=false->xs.Perm (m.map (·.1)))/\gH step stop s0 xs s'/\L'=fP l (C s')::cells bx [.map (some b)] 263::cy fb R ag b m::Lx):=by
 refine aH func461 J J J J<|aa<|ax J J<|Aa J J λit=>O<|aX<|cY (σ:=List (ByteArray × β) × τ) [0,5] (λg=>gH step stop s0 (g.1.map (·.1)) g.2/\stop g.2=false/\ek g.2=g.1.length) (λg kv=>kv) (λg=>fP l (C g.2)::na fb R ag b it m g.1::cells bx [.map (some b)] 263::Lx) (λg=>m.length - g.1.length) (([],s0)) J (⟨.nil _,h0,n6⟩) (al) (dc J) ?_
 rintro ⟨done,s⟩ ⟨hr,hs,hc⟩
 dsimp only at hr hs hc ⊢
 refine aa<|Ai J J (λhp=> ?_) (λq1 xo hq mK cL=> ?_)
 ·exact ab J J (aO J J)<|aV 7 (.bool false) J<|O<|ar<|aT J<|cw<|aY<|aY<|cu<|aF.ay (tc it)<|lj (.inr J) J bu.g (⟨_,s,λ_=>hp.map _,hr,J⟩)
 refine ab J J (aO J J)<|aV 7 (.bool true) J<|O<|ar<|cg J<|az<|ai<|aX<|aa<|CF J J λJH xt=>ab J J (aO J J)<|ae J<|O<|aa<|Y J<|Y J<|aP l<|yj J J J (hy s q1.1 _ hs xt (by omega)) ?_
 rintro _ _ ⟨s2,cK,rfl,rfl⟩
 refine ab J J (ff J)<|O<|gF J (λka=> ?_) (λka=> ?_)
 ·have eF:stop s2=true:=by simpa using ka
  exact av<|db<|aU<|db<|aF.ay (tc it)<|lj (.inl J) J bu.g (⟨_,s2,λh=>(by rw [eF] at h; cases h),hr.snoc h0 hs cK,J⟩)
 have eF:stop s2=false:=by simpa using ka
 refine az<|bA<|ai ?_
 exact ⟨(done++[q1],s2),⟨by rw [kp]; exact hr.snoc h0 hs cK,eF,by rw [ip _ _ _ cK,hc]; simp⟩,by simp only [eQ,dO,ej]; omega,bO rfl⟩
theorem abZ {β:Type} {R:bZ β} {m:List (ByteArray × β)}:oA prog (.func (.func 461) #[] #[.pointer (some ⟨bx,0,none⟩)]) (λk:ByteArray=>[.string k]) (λk=>k.size<=cE) m.length [cells bx [.map (some b)] 263,cy fb R ag b m] (λs ks=>s=false->ks.Perm (m.map (·.1))):=
 ⟨_,[],[.pointer (some ⟨bx,0,none⟩)],rfl,inferInstance,λτ l C step stop ek s0 Lx h0 hc ip hy=>(aaG h0 hc ip hy).rM λv L' ⟨xs,s',a1,a2,a3⟩=>⟨xs,s',a1,a2,a3⟩⟩
theorem ab0:Fn prog 407 #[.map (some b)] L (λv L'=>∃ bx,v=.func (.func 461) #[] #[.pointer (some ⟨bx,0,none⟩)]/\L'=cells bx [.map (some b)] 263::L):=by
 exact aH func407 J J J J<|aa<|bS J J J λb1=>ae J<|O<|aa<|ab J J (gy J J)<|ae J<|O<|av<|aZ J J al (⟨b1,J,J⟩)
open Go Go.Proofs Go.Proofs.Tryz
open Go.WideMaps (KeyLaw)
def gB:hU gT:=⟨λk=>.agg #[.int .i64 k.1,.int .i64 k.2],λk=>bP .i64 k.1/\bP .i64 k.2,λa b h=>by
 have h1:=(Value.agg.injEq _ _).mp h
 simp at h1
 exact Prod.ext h1.1 h1.2⟩
theorem agM:(47:TypeId) < prog.types.size:=o3 (by kernel_rfl)
theorem afa:(match prog.underlying 47 with | some (.array _ _) | some (.struct _)=>true | _=>false)=true:=by rw [underlying47]
set_option maxRecDepth 100000 in
theorem agN:KeyLaw prog 47:=deep_law_laid UD (m:=2) (by omega) agM (by kernel_rfl) afa
theorem SX:prog.cellsOf 47=2:=by kernel_rfl
theorem adB:prog.cellsOf 3=1:=by kernel_rfl
theorem agO:prog.keyType 47=true:=by kernel_rfl
set_option maxRecDepth 100000 in
theorem ah_ (k:gT) (h:gB.ok k):∃ l,keyOf prog 47 (gB.enc k)=some l:=by
 obtain ⟨q,hq⟩:=TT
 have h1:=Mg h.1
 have h2:=Mg h.2
 have hf:(gB.enc k).formed prog 47=true:=by simp [gB,Value.formed,underlying47,SX]
 refine ⟨.string (keyBytes [.int .i64 k.1,.int .i64 k.2]), ?_⟩
 unfold keyOf
 rw [underlying47]
 simp only [agO,hf,Bool.and_self,if_true]
 rw [hq]
 simp [gB,Program.keyLits,underlying47,underlying3,SX,adB,Value.cells,h1,h2]
instance:kw prog 47 gB:=⟨Maps.Keyed.of_law agN,ah_⟩
abbrev Pi (bs bm:Nat) (seen:List gT) (m:List (gT × Bool)):List HP:=[cells bs [.map (some bm)] 534,cy gB uU false bm m,pure (∀ d,(cq m d).getD false=decide (d∈seen))]
def Dh (bs bm:Nat) (seen:List gT):HP:=oS (Pi bs bm seen)
variable{bs bm:Nat}{seen:List gT}
theorem agP {c:Code} (h:∀ m:List (gT × Bool),(∀ d,(cq m d).getD false=decide (d∈seen))->T r n P c ⟨D,E,cells bs [.map (some bm)] 534::cy gB uU false bm m::L⟩ Q):T r n P c ⟨D,E,Dh bs bm seen::L⟩ Q:=IP (f:=Pi bs bm seen) λm=>ou 2 rfl (yu (bV.wC (φ:=λ_=>∀ d,(cq m d).getD false=decide (d∈seen)) λ_ _ h=>h) (λ_ h=>h) λhm=>b_ (am.drop _ _) (h m hm))
theorem Ru {m:List (gT × Bool)} (h:∀ d,(cq m d).getD false=decide (d∈seen)):am (cells bs [.map (some bm)] 534::cy gB uU false bm m::L) (Dh bs bm seen::L):=
 am.trans (am.cons _ (am.cons _ (am.sF h))) (o_ (f:=Pi bs bm seen) m)
theorem ab1 {seen:List gT} (e:aW) (q:Option Addr × Nat) (ho:kj e):Fn prog 456 #[mt e q,.pointer (some ⟨bs,0,none⟩)] (Dh bs bm seen::L) (λv L'=>v=.bool (!decide (e.dot∈seen))/\L'=Dh bs bm (e.dot::seen)::L):=by
 refine aH func456 J J J J<|agP λm hm=>aa<|bS J J J λb2=>ae J<|O<|aa<|ax J J<|ao J<|bD J J<|ab J J (pT (K:=gB) (R:=uU) (k:=e.dot) J J ⟨ho.1,ho.2.1⟩)<|br 8 (v':=.bool (decide (e.dot∈seen))) J (by rw [<- hm e.dot]; cases cq m e.dot <;> rfl)<|ae J<|O<|aa<|ax J J<|ao J<|bD J J<|sH (K:=gB) (R:=uU) (k:=e.dot) (u:=true) (cs:=[.bool true]) ((e.dot,true)::fS m e.dot) J J J ⟨ho.1,ho.2.1⟩ (bV.const λM=>J) (uC _)<|O<|aa<|Y J<|ab J J (iF J)<|ae J<|O<|av ?_
 have JR:∀ d,(cq ((e.dot,true)::fS m e.dot) d).getD false=decide (d∈e.dot::seen):=(λd=>by rw [yc,EG]; by_cases hd:e.dot=d; (subst hd; simp); (rw [if_neg hd,if_neg (λh=>hd h.symm),hm d]; simp [show d≠e.dot from λh=>hd h.symm]))
 exact aF.ay (show am _ (cells bs [.map (some bm)] 534::cy gB uU false bm ((e.dot,true)::fS m e.dot)::L) from al)<|aF.ay (Ru JR)<|aZ J J al (⟨bi Value.bool (by simp),J⟩)
theorem adC (hk:a_ L bK A c l) (hl:l.length<=1466015503701):Fn prog 405 #[.slice A l.length c] L (λv L'=>∃ A' c',v=.slice A' (q9 l).length c'/\L'=aN bK 49 A' c' (q9 l)::L):=by
 refine aH func405 J J J J<|b_ hk.lay<|aa<|ae J<|O<|aa<|o7 gB uU false J λbm=>bB J J λb3=>aE J J<|O<|aa<|Y J<|ab J J (gy J J)<|bX (show am _ (Dh b3 bm []::sl bK A c l::L) from Ru (m:=[]) (λd=>J))<|aJ J J (R1 (σ:=List gT) (λseen↦Dh b3 bm seen) (λseen e↦ !decide (e.dot∈seen)) (λseen e↦e.dot::seen) 456 [.pointer (some ⟨b3,0,none⟩)] [] (λs e q L1 _ ho mU↦ab1 e q ho) slk hl) ?_
 rintro _ _ ⟨A7,c7,rfl,rfl⟩
 rw [show (iK (λ(seen:List gT) e=> !decide (e.dot∈seen)) (λseen e=>e.dot::seen) [] l).1=q9 l from Mw l []]
 exact ae J<|O<|av<|aZ J J al (⟨A7,c7,J,J⟩)
open Go Go.Proofs Go.Proofs.Tryz
abbrev VF (t:lm):List Value:=[.string t.1,.int .i64 t.2]
def ah' (t:lm):Prop:=t.1.size<=cE/\bP .i64 t.2
def kP:bZ lm:=⟨2,λ_ a cs=>cs=VF a/\ah' a,λ_ h=>h,λh=>by rw [h.1]; rfl,λh v hv=>by rw [h.1] at hv; simp at hv; rcases hv with rfl | rfl <;> rfl⟩
instance:oJ kP VF:=⟨λ_ _ _ h=>h.1⟩
theorem afb {xs:List ByteArray} (h:xs.Nodup):(ju xs).Pairwise IS:=by
 have h2:(t5 (xs.map j4)).Pairwise (λx y=>x<=y):=by
  have:=Kn (le:=λx y:List UInt8=>decide (x<=y)) (λa b c h1 h2=>by simp at h1 h2 ⊢; exact List.le_trans h1 h2) (λa b=>by simp; exact List.le_total a b) (xs.map j4)
  exact this.imp λh=>by simpa using h
 have h3:(ju xs).Pairwise λx y=>j4 x<=j4 y:=by
  unfold ju
  refine oh.2 (h2.imp λh=> ?_)
  exact h
 have h4:(ju xs).Nodup:=(Ez xs).nodup_iff.2 h
 refine (h3.and h4).imp λ{a b} ⟨h5,h6⟩=> ?_
 rcases List.le_iff_lt_or_eq.1 h5 with h7 | h7
 ·exact h7
 ·exact absurd (by rw [<- HC a, <- HC b,h7]) h6
def rf (m:List (ByteArray × Int)):Int:=(m.map λp=>p.2).sum
structure yY (xs:List aW) (aK:ByteArray) (m:List (ByteArray × Int)):Prop where
 at_:∀ k,(cq m k).getD 0=lV (xs.filter (oc aK k))
 eU:rf m=lV (xs.filter λe=>decide (e.aK=aK))
theorem SY {a b:List (ByteArray × Int)} (h:a.Perm b):rf a=rf b:=by
 unfold rf
 induction h with
 | nil=>rfl
 | cons x _ ih=>simp [ih]
 | swap x y l=>simp; omega
 | trans _ _ h1 h2=>exact h1.trans h2
variable{m:List (ByteArray × Int)}
theorem afc (hn:ND m) (k:ByteArray):rf m=(cq m k).getD 0+rf (fS m k):=by
 cases hg:cq m k with
 | none=>rw [uK hg]; simp
 | some u=>
  obtain ⟨j,hj⟩:=od (wj hg)
  have h1:m.Perm ((k,u)::m.eraseIdx j):=by
   have:=EH (p:=(k,u)) (dX.1 hj).1
   rwa [pd hj] at this
  rw [SY h1, <- z5 hn hj]
  simp [rf]
theorem yY.skip {xs:List aW} (h:yY (xs.take i) aK m) (he:xs[i]? =some e) (hc:¬ e.aK=aK):yY (xs.take (i+1)) aK m:=by
 refine ⟨λk=> ?_, ?_⟩
 ·rw [h.at_ k,ll he,nC]
  have:oc aK k e=false:=by simp [oc,hc]
  simp [this]
 ·rw [h.eU,ll he,nC]
  simp [hc]
theorem yY.put {xs:List aW} (h:yY (xs.take i) aK m) (he:xs[i]? =some e) (hc:e.aK=aK) (hn:ND m) (hx:(cq m e.di).getD 0=x):yY (xs.take (i+1)) aK ((e.di,x+e.eZ)::fS m e.di):=by
 have vr:x+rf (fS m e.di)=rf m:=by rw [afc hn e.di,hx]
 have JE:=h.at_ e.di
 rw [hx] at JE
 refine ⟨λk=> ?_, ?_⟩
 ·rw [yc,EG,ll he,nC,TR]
  by_cases hk:e.di=k
  ·subst hk
   have:oc aK e.di e=true:=by simp [oc,hc]
   rw [if_pos rfl, <- JE]
   simp [this,lV]
  ·have:oc aK k e=false:=by simp [oc,hk]
   rw [if_neg hk,if_neg (λh=>hk h.symm),h.at_ k]
   simp [this,lV]
 ·rw [ll he,nC,TR, <- h.eU, <- vr]
  simp [hc,rf,lV]
  omega
def AK (m:List (ByteArray × Int)) (k:ByteArray):Option lm:=if 0 < (cq m k).getD 0 then some (k,(cq m k).getD 0) else none
def pZ (m:List (ByteArray × Int)) (ks:List ByteArray):List lm:=ks.filterMap (AK m)
variable{ks:List ByteArray}
theorem aaH {k:ByteArray} (h:ks[i]? =some k):pZ m (ks.take (i+1))=pZ m (ks.take i)++if 0 < (cq m k).getD 0 then [(k,(cq m k).getD 0)] else []:=by
 unfold pZ
 rw [ll h,List.filterMap_append]
 by_cases hq:0 < (cq m k).getD 0 <;> simp [AK,hq]
theorem R2 (m:List (ByteArray × Int)) (ks:List ByteArray):(pZ m ks).length<=ks.length:=List.length_filterMap_le _ _
theorem ab2 (hn:ND m) (sY:∀ k,0<=(cq m k).getD 0):((pZ m (m.map λp=>p.1)).map λp=>p.2).sum=rf m:=by
 have key:∀ l:List (ByteArray × Int),(∀ p∈l,cq m p.1=some p.2)->((pZ m (l.map λp=>p.1)).map λp=>p.2).sum=rf l:=by
  intro l
  induction l with
  | nil=>intro _; rfl
  | cons p r ih=>
   intro h
   have h1:=h p ie
   have h2:=ih λq hq=>h q (gO _ hq)
   have h3:=sY p.1
   unfold pZ at h2 ⊢
   rw [kq,List.filterMap_cons]
   unfold AK
   rw [h1] at h3 ⊢
   simp only [vT] at h3 ⊢
   unfold AK at h2
   by_cases hq:0 < p.2
   ·rw [if_pos hq]; simp only [kq,zS,rf]; rw [h2]; rfl
   ·rw [if_neg hq]; rw [h2]; simp only [rf,kq,zS]; omega
 exact key m λp hp=>zW hn hp
theorem adD {a b:List lm} (h:a.Perm b):(a.map λp=>p.2).sum=(b.map λp=>p.2).sum:=SY h
theorem ab3 (hq:∀ e∈l,0<=e.eZ/\e.eZ<=1000) (h:yY (qU l) aK m) (hn:ND m) (hk:ks.Perm (m.map λp=>p.1)):l9 l aK (pZ m (ju ks)):=by
 have hnk:(m.map λp=>p.1).Nodup:=oh.2 hn
 have hnd:ks.Nodup:=hk.nodup_iff.2 hnk
 have xv:∀ k,(cq m k).getD 0=rS l aK k:=λk=>h.at_ k
 have sY:∀ k,0<=(cq m k).getD 0:=λk=>by rw [xv]; exact (Rr hq aK k).1
 refine ⟨?_,λk q=> ?_, ?_⟩
 ·unfold pZ
  refine List.pairwise_filterMap.2 ((afb hnd).imp λ{a b} rl x hx y hy=> ?_)
  unfold AK at hx hy
  split at hx
  ·split at hy
   ·cases hx; cases hy; exact rl
   ·cases hy
  ·cases hx
 ·unfold pZ
  rw [List.mem_filterMap]
  constructor
  ·rintro ⟨a,_,hx⟩
   unfold AK at hx
   split at hx
   ·rename_i h0
    cases hx
    exact ⟨xv k,h0⟩
   ·cases hx
  ·rintro ⟨rfl,h0⟩
   refine ⟨k, ?_,by unfold AK; rw [xv,if_pos h0]⟩
   rw [(Ez ks).mem_iff,hk.mem_iff]
   cases hg:cq m k with
   | none=>rw [<- xv,hg] at h0; simp at h0
   | some u=>exact fY.2 ⟨_,wj hg,rfl⟩
 ·have h1:(pZ m (ju ks)).Perm (pZ m (m.map λp=>p.1)):=((Ez ks).trans hk).filterMap _
  rw [adD h1,ab2 hn sY,h.eU]
variable{α:Type}
theorem agQ {κ:Type} [DecidableEq κ] (m:List (κ × α)) (k:κ):(fS m k).length<=m.length:=kG _ _
structure aj1 where
 i:Nat
 A:Option Addr
 c:Nat
structure aj2 where
 i:Nat
 m:List (ByteArray × Int)
theorem adE (l:List aW):(q9 l).length<=l.length:=by
 have:∀ (l:List aW) (seen:List gT),(q8 seen l).length<=l.length:=by
  intro l
  induction l with
  | nil=>intro seen; simp [q8]
  | cons x r ih=>
   intro seen
   unfold q8
   split
   ·have:=ih seen; simp only [dO]; omega
   ·have:=ih (x.dot::seen); simp only [dO]; omega
 exact this _ _
theorem ab4 (l:List aW):(qU l).length<=l.length:=kf (adE _) (kG _ _)
theorem QB {xs:List aW} (h:∀ e∈xs,0<=e.eZ/\e.eZ<=1000) (i:Nat) (p:aW->Bool):0<=lV ((xs.take i).filter p)/\lV ((xs.take i).filter p)<=1000 * (xs.length:Int):=by
 have h1:=Ln (l:=(xs.take i).filter p) λe he=>h e (Cf (ke.1 he).1)
 have h2:((xs.take i).filter p).length<=xs.length:=kf (kG _ _) (by rw [gq]; omega)
 omega
theorem R3 (aK:ByteArray) (hk:a_ L bK A c l) (hl:l.length<=1466015503701) (hq:∀ e∈l,0<=e.eZ/\e.eZ<=1000):Fn prog 350 #[.slice A l.length c,.string aK] L (λv L'=>∃ A' c' xs,v=.slice A' xs.length c'/\L'=aN kP 70 A' c' xs::L/\l9 l aK xs/\xs.length<=l.length):=by
 have kU:=ab4 l
 have Pj:∀ e∈qU l,0<=e.eZ/\e.eZ<=1000:=λe he=>hq e (LR.1 (LQ he)).1
 refine aH func350 J J J J<|b_ (a_.lay hk)<|aa<|ae J<|O<|aa<|o7 fb (aI .i64) false J λbm=>ae J<|O<|ar<|aa<|Y J<|aJ J J (abY (slk (A:=A) (c:=c)) (by omega)) ?_
 rintro _ _ ⟨lF,kV,rfl,rfl⟩
 refine bF<|aJ J J (adC (slk (A:=lF) (c:=kV)) (kf (kG _ _) (by omega))) ?_
 rintro _ _ ⟨vv,vw,rfl,rfl⟩
 refine bF ?_
 rw [show q9 (qT l)=qU l from rfl]
 refine ab J J (bY J)<|Y J<|O<|aX<|cY (σ:=aj2) [1,5,14,15] (λg=>g.i<=(qU l).length/\yY ((qU l).take g.i) aK g.m/\g.m.length<=g.i) (λg kv=>(16,.int .i64 (g.i:Int))::kv) (λg=>cy fb (aI .i64) false bm g.m::sl bK vv vw (qU l)::L) (λg=>(qU l).length - g.i) (⟨0,[]⟩) J (⟨dF _,⟨λk=>J,J⟩,fo _⟩) (al) (dc J) ?_
 rintro ⟨i,m⟩ ⟨eG,hI,hmi⟩
 dsimp only at eG hI hmi ⊢
 have hmn:m.length<=l.length:=(by omega)
 refine aa<|ab J J (bU J J)<|O<|ar<|bz J (λgx=> ?_) (λgx=> ?_)
 ·refine az<|ai<|ar<|aX ?_
  obtain ⟨e,he⟩:∃ e,(qU l)[i]? =some e:=⟨_,cj (by omega)⟩
  have pM:=Pj e (eA he)
  refine I3 (b:=bm) λhnd=> ?_
  have WY:=QB Pj i (oc aK e.di)
  rw [<- hI.at_] at WY
  refine aa<|f6 J J J (J) ((bJ (A:=vv) (c:=vw))) (he) λaj3 aj4 Om On=> ?_
  have Oo:=he
  refine kh J J On Oo (λ_=>J) λp19 V5=> ?_
  simp only [dL,dm]
  refine bB J J λb7=>aE J J<|O<|aa<|ao J<|ax J J<|Y J<|ab J J (kI J J)<|O<|bz J (λgv=> ?_) (λgv=> ?_)
  ·refine aQ<|Y J<|ao J<|ax J J<|ab J J (pT (K:=fb) (R:=aI .i64) (k:=e.di) J J V5.2.2.2.2.2.1)<|br 27 (v':=.int .i64 ((cq m e.di).getD 0)) J (by cases cq m e.di <;> rfl)<|ao J<|ax J J<|ab J J (bE J J (by omega))<|sH (K:=fb) (R:=aI .i64) (k:=e.di) (u:=(cq m e.di).getD 0+e.eZ) (cs:=[.int .i64 ((cq m e.di).getD 0+e.eZ)]) ((e.di,(cq m e.di).getD 0+e.eZ)::fS m e.di) J J J V5.2.2.2.2.2.1 (bV.const λM=>⟨J,da (by omega)⟩) (uC _)<|O<|bA<|ai<|aQ<|ab J J (bE J J (by omega))<|cz 31 J<|Y J<|O<|ai ?_
   exact ⟨⟨i+1,(e.di,(cq m e.di).getD 0+e.eZ)::fS m e.di⟩,⟨by simp only; omega,hI.put he gv hnd rfl,by have:=agQ m e.di; simp only [dO]; omega⟩,by simp only; omega,bO rfl⟩
  refine az<|bA<|ai<|aQ<|ab J J (bE J J (by omega))<|cz 31 J<|Y J<|O<|ai ?_
  exact ⟨⟨i+1,m⟩,⟨by simp only; omega,hI.skip he gv,by simp only; omega⟩,by simp only; omega,bO rfl⟩
 refine cw<|aY<|aY<|cu<|ai ?_
 rw [gQ (show (qU l).length<=i by omega)] at hI
 refine I3 (b:=bm) λhnd=>aa<|ae J<|O<|ar<|aa<|Y J<|aJ J J (ab0) ?_
 rintro _ _ ⟨bx,rfl,rfl⟩
 refine bX (show am _ (cells bx [.map (some bm)] 263::cy fb (aI .i64) false bm m::sl bK vv vw (qU l)::L) from al)<|aJ J J (QZ (Lf:=[cells bx [.map (some bm)] 263,cy fb (aI .i64) false bm m]) (Lr:=sl bK vv vw (qU l)::L) (abZ (R:=aI .i64) (ag:=false) (b:=bm) (bx:=bx) (m:=m)) (by omega)) ?_
 rintro _ _ ⟨rq,rt,ks,rfl,tW,rfl⟩
 simp only [dL,dm]
 refine bF ?_
 have WZ:=tW rfl
 have oQ:(ju ks).length<=l.length:=(by rw [Ep,WZ.length_eq,gY]; exact hmn)
 refine ab J J (bY J)<|Y J<|O<|aX<|cY (σ:=aj1) [5,34,35] (λg=>g.i<=(ju ks).length) (λg kv=>(36,.int .i64 (g.i:Int))::(8,.slice g.A (pZ m ((ju ks).take g.i)).length g.c)::kv) (λg=>aN kP 70 g.A g.c (pZ m ((ju ks).take g.i))::cy fb (aI .i64) false bm m::sl jO rq rt (ju ks)::L) (λg=>(ju ks).length - g.i) (⟨0,none,0⟩) J (dF _) (am.trans (show am _ (cy fb (aI .i64) false bm m::sl jO rq rt (ju ks)::L) from al) (du kP 70 none _)) (dc J) ?_
 rintro ⟨j,X,cx⟩ kB
 dsimp only at kB ⊢
 skip
 refine aa<|ab J J (bU J J)<|O<|ar<|bz J (λlG=> ?_) (λlG=> ?_)
 ·refine az<|ai<|ar<|aX ?_
  obtain ⟨k,mU⟩:∃ k,(ju ks)[j]? =some k:=⟨_,cj (by omega)⟩
  have gW:=aaH (m:=m) mU
  have BL:=R2 m ((ju ks).take j)
  rw [gq] at BL
  have WY:0<=(cq m k).getD 0/\(cq m k).getD 0<=1000 * (l.length:Int):=(by rw [hI.at_]; have:=QB Pj (qU l).length (oc aK k); rw [gQ (fo _)] at this; omega)
  refine KV (bJ (A:=rq) (c:=rt)) mU (p:=k.size<=cE) (λM l h=>h.2) λPk=>aa<|f6 J J J (J) ((bJ (A:=rq) (c:=rt))) (mU) λV6 V7 V8 FJ=> ?_
  have FK:=mU
  refine ab J J (gi J FJ FK J)<|ae J<|O<|aa<|Y J<|Y J<|ab J J (pT (K:=fb) (R:=aI .i64) (k:=k) J J Pk)<|br 42 (v':=.int .i64 ((cq m k).getD 0)) J (by cases cq m k <;> rfl)<|ab J J (eE J J)<|O<|bz J (λld=> ?_) (λld=> ?_)
  ·rw [if_pos ld] at gW
   refine aQ<|Y J<|Y J<|Y J<|Y J<|ab J J (pT (K:=fb) (R:=aI .i64) (k:=k) J J Pk)<|br 48 (v':=.int .i64 ((cq m k).getD 0)) J (by cases cq m k <;> rfl)<|ab J J (bI J J)<|ef J J J J J J λb50=>eh (k:=1) kP [(k,(cq m k).getD 0)] (bV.const λM=>⟨[.string k,.int .i64 ((cq m k).getD 0)],[],⟨J,Pk,da (by omega)⟩,J,J⟩) J (by decide)<|bF<|aV 50 (.slice (some ⟨b50,0,none⟩) [((k,(cq m k).getD 0):lm)].length 1) J<|fi J J J J J slk (by simp only [dO,ej]; omega) λJS JT=> ?_
   rw [<- gW]
   refine ae J<|O<|bA<|ai<|aQ<|ab J J (bE J J (by omega))<|cz 52 J<|Y J<|O<|ai ?_
   exact ⟨⟨j+1,JS,JT⟩,(by simp only; omega),by simp only; omega,bO rfl⟩
  rw [if_neg ld,tE] at gW
  rw [<- gW]
  refine az<|bA<|ai<|aQ<|ab J J (bE J J (by omega))<|cz 52 J<|Y J<|O<|ai ?_
  exact ⟨⟨j+1,X,cx⟩,(by simp only; omega),by simp only; omega,bO rfl⟩
 refine cw<|aY<|aY<|cu<|ai<|aa<|Y J<|ae J<|O<|av ?_
 rw [gQ (show (ju ks).length<=j by omega)]
 have uZ:=ab3 hq hI hnd WZ
 exact aZ J J al (⟨X,cx,pZ m (ju ks),J,J,uZ,kf (R2 _ _) oQ⟩)
open Go Go.Proofs
theorem l9.pos {xs:List lm} (h:l9 l aK xs):∀ p∈xs,0<=p.2:=λp hp=>by
 obtain ⟨k,q⟩:=p
 have:=((h.mem k q).1 hp).2
 simp only; omega
structure aj5 where
 k:Nat
 A:Option Addr
 c:Nat
open Go Go.Lib
theorem Qt {sz m:Nat} {z:Array Value} (hz:z.size=sz) (h:m * sz=0):Builtin.zeroCells z m=#[]:=Array.eq_empty_of_size_eq_zero (by rw [size_zeroCells,hz,h])
variable{t u e ty':TypeId}{k:IntKind}{z:Value}{w:World}
theorem XR {size bytes g fx jg m:Nat} {cur:List Value} [ht:dy P t (.slice e)] [hu:dy P u (.int k)] [he:mD P e z size bytes] (ga:z.cells.size=size) (jf:∀ u∈(Builtin.zeroCells z.cells m).toList,u.oneCell'=true) (hg:w.heap[g]? =some (.cells cur.toArray e (0,0))) 
  (p_:fx+m<=jg) (jP:(fx+m) * size<=cur.length) (hm:m * bytes<=140737488355328) (JR:m<=140737488355328):
  (Builtin.append_ #[t,u] ty' #[.slice (some ⟨g,0,none⟩) fx jg,.int .i64 (m:Int)]).run P w=.ok (.slice (some ⟨g,0,none⟩) (fx+m) jg) (w.setRow g (cur.take (fx * size)++(Builtin.zeroCells z.cells m).toList++cur.drop ((fx+m) * size)).toArray):=by
 obtain ⟨i,hi,hz,ew,ic⟩:=xW (P:=P) (e:=e) (z:=z) (size:=size) (bytes:=bytes)
 have Ng:(Builtin.zeroCells z.cells m).toList.length=m * size:=by rw [Array.length_toList,size_zeroCells,ga]
 have cK:=run_storeCells_at P g (fx * size) e (Builtin.zeroCells z.cells m).toList 0 cur.toArray w hg (by simp [Ng, <- jI]; exact jP) jf
 simp only [sD] at cK
 have hw:IntKind.i64.wrap (m:Int)=(m:Int):=IntWalk.i64_in _ (by omega)
 have Oq:¬ ((m:Int) < 0):=by omega
 have BH:¬ (281474976710656 < (m:Int) * (bytes:Int)):=by
  have:(m:Int) * (bytes:Int)=((m * bytes:Nat):Int):=by simp
  rw [this]; omega
 simp [Builtin.append_,ht.run,hu.run,sizeOf,typeInfo,zeroValue,hi,hz,ew,ic,asInt,asIntOf,hw,Oq,BH,p_,Addr.add_plain,cK,Ng,jI]
 intro h0
 rw [Qt ga h0] at cK ⊢
 simp only [ej,sD,tE,dm] at cK ⊢
 rw [cK,h0]
 simp
theorem XS {size bytes fx jg:Nat} [ht:dy P t (.slice e)] [hu:dy P u (.int k)] [he:mD P e z size bytes] (ga:z.cells.size=size) (p_:fx<=jg):
  (Builtin.append_ #[t,u] ty' #[.slice A fx jg,.int .i64 ((([]:List Nat).length:Nat):Int)]).run P w=.ok (.slice A fx jg) w:=by
 obtain ⟨i,hi,hz,ew,ic⟩:=xW (P:=P) (e:=e) (z:=z) (size:=size) (bytes:=bytes)
 have hw:IntKind.i64.wrap 0=0:=IntWalk.i64_in _ (by omega)
 cases A <;> simp [Builtin.append_,ht.run,hu.run,sizeOf,typeInfo,zeroValue,hi,hz,ew,ic,asInt,asIntOf,hw,p_,storeCells]
theorem XT {size bytes fx jg m:Nat} {iO:List Value} [ht:dy P t (.slice e)] [hu:dy P u (.int k)] [he:mD P e z size bytes] (hb:0 < bytes) (ga:z.cells.size=size) 
  (OS:iO.length=fx * size) (holds:fx=0\/∃ a,A=some a/\∀ j v,iO[j]? =some v->w.cell? (a.add j)=some v) (hg:jg < fx+m) (OT:fx+m<=9223372036854775807) (jP:(fx+m) * bytes<=140737488355328):
  (Builtin.append_ #[t,u] ty' #[.slice A fx jg,.int .i64 (m:Int)]).run P w=.ok (.slice (some ⟨w.heap.size,0,none⟩) (fx+m) (grownCap w (fx+m) jg e))
   (w.drew.alloc (.cells (iO.toArray++(Builtin.zeroCells z.cells m).toList.toArray++Builtin.zeroCells z.cells (grownCap w (fx+m) jg e - (fx+m))) e)):=by
 obtain ⟨i,hi,hz,ew,ic⟩:=xW (P:=P) (e:=e) (z:=z) (size:=size) (bytes:=bytes)
 have hn:¬ (fx+m<=jg):=by omega
 have N3:¬ (9223372036854775807 < ((fx:Int)+(m:Int))):=by omega
 have BH:=growslice_fits hg jP
 have N4:¬ (281474976710656 < Builtin.nextslicecap (fx+m) jg * bytes):=by omega
 have hmb:m * bytes<=140737488355328:=kf (nB _ (by omega)) jP
 have hw:IntKind.i64.wrap (m:Int)=(m:Int):=IntWalk.i64_in _ (by omega)
 have Oq:¬ ((m:Int) < 0):=by omega
 have aj6:¬ (281474976710656 < (m:Int) * (bytes:Int)):=by
  have:(m:Int) * (bytes:Int)=((m * bytes:Nat):Int):=by simp
  rw [this]; omega
 have OU:(Builtin.firstCells size fx (.slice A fx jg)).run P w.drew=.ok iO.toArray w.drew:=Ko (w:=w) rfl holds OS
 simp [Builtin.append_,ht.run,hu.run,sizeOf,typeInfo,zeroValue,hi,hz,ew,ic,asInt,asIntOf,hw,Oq,aj6,hn,N3,N4,Question.forced,OU,newRow,grownCap]
 intro h0
 rw [Qt ga h0]
 simp
section
variable {r:Option Nat} {n:Nat} {P:Program} {ops:Array Oper} {rest:List Oper} {K:St->Prop} {Q:Exit->St->Prop} {D:List Deferred} {E:cZ} {L L':List HP} {d:Nat} {ty:TypeId} {pos:String} {af:Array Edge}
variable {α:Type} {R:bZ α} {A:Option Addr} {c:Nat} {xs ys:List α}
theorem Zr {k0:IntKind} {bytes c:Nat} {W:World} [ht:dy P t (.slice e)] [hu:dy P u (.int k0)] [he:mD P e z R.sz bytes] (hb:0 < bytes) (ga:z.cells.size=R.sz) (hs:bH W w (aN R e A c xs::L)) (jf:∀ u∈(Builtin.zeroCells z.cells ys.length).toList,u.oneCell'=true) 
  (M7:∀ M h,Sep L M h->M.le (heapOf w)->f9 M R ys (Builtin.zeroCells z.cells ys.length).toList) (jP:(xs.length+ys.length) * bytes<=140737488355328) (ty':TypeId):
  ∃ A' c' w',(Builtin.append_ #[t,u] ty' #[.slice A xs.length c,.int .i64 (ys.length:Int)]).run P w=.ok (.slice A' (xs++ys).length c') w'/\bH W w' (aN R e A' c' (xs++ys)::L):=by
 have Ng:(Builtin.zeroCells z.cells ys.length).toList.length=ys.length * R.sz:=by rw [Array.length_toList,size_zeroCells,ga]
 have eP:(xs++ys).length=xs.length+ys.length:=by simp
 have VU:xs.length+ys.length<=140737488355328:=kf (G_ _ hb) jP
 have E5:(xs++ys).length<=cE:=by rw [eP]; unfold cE; omega
 obtain ⟨M,k,hd,hM,hk,h1,h2,eW,l1,l2,hp,hsep⟩:=hs.ex
 have pK:=M7 M h2 hsep hM
 have grow:∀ (iO:List Value),f9 M R xs iO->(xs.length=0\/∃ a,A=some a/\∀ j v,iO[j]? =some v->w.cell? (a.add j)=some v)->c < xs.length+ys.length→
   ∃ A' c' w',(Builtin.append_ #[t,u] ty' #[.slice A xs.length c,.int .i64 (ys.length:Int)]).run P w=.ok (.slice A' (xs++ys).length c') w'/\bH W w' (aN R e A' c' (xs++ys)::L):=by
  intro iO ho hold hg
  have hr:=XT (P:=P) (t:=t) (u:=u) (e:=e) (z:=z) (size:=R.sz) (bytes:=bytes) (ty':=ty') (m:=ys.length) hb ga ho.length hold hg (by omega) jP
  refine ⟨_,_,_,by rw [eP]; exact hr, ?_⟩
  have wV:=grownCap_ge w (xs.length+ys.length) c e
  have Fg:grownCap w (xs.length+ys.length) c e<=maxLen:=grownCap_le_maxLen w _ c e (by simp only [maxLen]; omega)
  have jN:bH W w.drew L:=(hs.ay (am.drop _ _)).drew
  have Fh:bH W w.drew (nV (λM=>f9 M R (xs++ys) (iO++(Builtin.zeroCells z.cells ys.length).toList)) (λhM h=>xX hM h)::L):=by
   refine ⟨⟨M,h2,Mem.i' hd (Mem.le_refl _) l2,hM,Mem.le_trans l2 hk,Mem.emp,h2,Mem.iD _,Mem.iu _,Mem.le_refl _,ho.append pK,hsep⟩,jN.os,jN.tape,jN.output,jN.size⟩
  have eH:=Fh.alloc (.cells (iO.toArray++(Builtin.zeroCells z.cells ys.length).toList.toArray++Builtin.zeroCells z.cells (grownCap w (xs.length+ys.length) c e - (xs.length+ys.length))) e)
  refine eH.ay λN m ⟨k1,k2,kd,m1,m2,ha,k3,k4,BG,m3,m4,mM,fm⟩=> ?_
  refine ⟨k1,k4,Mem.i' kd (Mem.le_refl _) m4,m1,Mem.le_trans m4 m2,⟨E5,.inr ⟨_,_,rfl,ha, ?_,by rw [eP]; exact wV,by simpa [maxLen] using Fg,λi x hi=> ?_⟩⟩,fm⟩
  ·have za:=ho.length
   have n3:=pK.length
   simp only [Array.size_append,qH,size_zeroCells,za,n3,ga, <- jI]
   congr 1
   omega
  ·obtain ⟨l,a,b⟩:=mM.at_ i x hi
   refine ⟨l,a,λj v hj=> ?_⟩
   have hb:=b j v hj
   have cL:i * R.sz+j < (iO++(Builtin.zeroCells z.cells ys.length).toList).length:=(dX.1 hb).1
   rw [G7 (by simpa using cL)]
   rw [show iO.toArray++(Builtin.zeroCells z.cells ys.length).toList.toArray=(iO++(Builtin.zeroCells z.cells ys.length).toList).toArray by simp,tB]
   exact hb
 rcases hp.2 with ⟨rfl,rfl⟩ | ⟨g,cur,rfl,hg,ew,hl,hc,hx⟩
 ·by_cases hm:ys.length=0
  ·have:ys=[]:=rC hm
   subst this
   exact ⟨A,0,w,XS (P:=P) (z:=z) (size:=R.sz) (bytes:=bytes) ga (fo _),hs⟩
  ·exact grow [] rfl (.inl rfl) (by simp; omega)
 ·have hw:w.heap[g]? =some (.cells cur e (0,0)):=hk _ _ (l1 _ _ hg)
  by_cases p_:xs.length+ys.length<=c
  ·have Nu:(xs.length+ys.length) * R.sz<=cur.toList.length:=by simp [ew]; exact nB _ p_
   have hr:=XR (P:=P) (t:=t) (u:=u) (z:=z) (size:=R.sz) (bytes:=bytes) (ty':=ty') (m:=ys.length) (cur:=cur.toList) ga jf (by simpa using hw) p_ Nu (kf (nB _ (by omega)) jP) (by omega)
   refine ⟨_,_,_,by rw [eP]; exact hr, ?_⟩
   have AG:bH W w (own g (.cells cur e (0,0))::nV (λM=>(∀ i x,xs[i]? =some x->∃ l,R.fO M x l/\∀ j v,l[j]? =some v->cur[i * R.sz+j]? =some v)/\f9 M R ys (Builtin.zeroCells z.cells ys.length).toList) (λhM h=>⟨λi x hi=>let ⟨l,a,b⟩:=h.1 i x hi; ⟨l,R.mono hM a,b⟩,xX hM h.2⟩)::L):=
    ⟨⟨M,k,hd,hM,hk,h1,h2,eW,l1,l2,hg,Mem.emp,h2,Mem.iD _,Mem.iu _,Mem.le_refl _,⟨hx,pK⟩,hsep⟩,hs.os,hs.tape,hs.output,hs.size⟩
   have py:=bH.set AG (w':=w.setRow g (cur.toList.take (xs.length * R.sz)++(Builtin.zeroCells z.cells ys.length).toList++cur.toList.drop ((xs.length+ys.length) * R.sz)).toArray) (y:=.cells (cur.toList.take (xs.length * R.sz)++(Builtin.zeroCells z.cells ys.length).toList++cur.toList.drop ((xs.length+ys.length) * R.sz)).toArray e (0,0))
    (by simp only [World.setRow,qD,if_true,hw,qI]) (λi hi=>by simp only [World.setRow,qD]; rw [if_neg (Ne.symm hi)]) rfl rfl rfl (by simp [World.setRow])
   refine py.ay λN m ⟨k1,k2,kd,m1,m2,ha,k3,k4,BG,m3,m4,⟨xk,zb⟩,fm⟩=> ?_
   have pL:=zb.length
   have kU:cur.toList.length=c * R.sz:=by simp [ew]
   refine ⟨k1,k4,Mem.i' kd (Mem.le_refl _) m4,m1,Mem.le_trans m4 m2,⟨E5,.inr ⟨g,_,rfl,ha, ?_,by rw [eP]; exact p_,hc,λi x hi=> ?_⟩⟩,fm⟩
   ·simp only [qH,eQ,gq,uB,pL,kU]
    have e1:(xs.length+ys.length) * R.sz=xs.length * R.sz+ys.length * R.sz:=jI _ _ _
    omega
   ·have e1:(xs.length+ys.length) * R.sz=xs.length * R.sz+ys.length * R.sz:=jI _ _ _
    have gt:xs.length * R.sz<=cur.toList.length:=by omega
    have mn:(cur.toList.take (xs.length * R.sz)).length=xs.length * R.sz:=by rw [gq]; omega
    by_cases dW:i < xs.length
    ·rw [kF dW] at hi
     obtain ⟨l,a,b⟩:=xk i x hi
     refine ⟨l,a,λj v hj=> ?_⟩
     have kB:j < R.sz:=by rw [<- R.len a]; exact (dX.1 hj).1
     have fV:i * R.sz+j < xs.length * R.sz:=by
      have:(i+1) * R.sz<=xs.length * R.sz:=nB _ dW
      rw [jI] at this
      omega
     have hb:=b j v hj
     simp only [tB]
     rw [fh,kF (by omega),m8,if_pos fV]
     simpa using hb
    ·rw [nA (by omega)] at hi
     obtain ⟨l,a,b⟩:=zb.at_ _ x hi
     refine ⟨l,a,λj v hj=> ?_⟩
     have hb:=b j v hj
     have cL:(i - xs.length) * R.sz+j < (Builtin.zeroCells z.cells ys.length).toList.length:=(dX.1 hb).1
     have DD:xs.length * R.sz<=i * R.sz:=nB _ (by omega)
     have N5:(i - xs.length) * R.sz=i * R.sz - xs.length * R.sz:=Nat.sub_mul _ _ _
     simp only [tB]
     rw [fh,nA (by omega),mn,show i * R.sz+j - xs.length * R.sz=(i - xs.length) * R.sz+j by omega,kF cL]
     exact hb
  ·obtain ⟨iO,h3,h4⟩:=Ei (R:=R) (M:=M) (cur:=cur) (o:=0) (xs:=xs) (k:=0) (λi x hi=>by
    obtain ⟨l,a,b⟩:=hx i x hi
    exact ⟨l,a,λj v hj=>by rw [nD,nD]; exact b j v hj⟩)
   refine grow iO h3 (.inr ⟨_,rfl,λj v hj=> ?_⟩) (by omega)
   rw [Addr.add_plain,rK hw]
   simpa using h4 j v hj
theorem Qu {x y:Operand} {k0:IntKind} {bytes m:Nat} {L0:List HP} (x0:α) [ht:dy P t (.slice e)] [hu:dy P u (.int k0)] (hd:Nat.blt d n=true) (hx:ev E x=some (.slice A xs.length c)) (hy:ev E y=some (.int .i64 (m:Int))) [hf:md L A c α R e xs L0] 
  [he:mD P e z R.sz bytes] {zl:List Value} (hz:rJ z=some zl) (hb:Nat.blt 0 bytes=true) (lg:∀ M,R.fO M x0 zl) (jP:(xs.length+m) * bytes<=140737488355328)
  (h:∀ A' c',TL r n P ops rest ⟨D,(d,.slice A' (xs++List.replicate m x0).length c')::E,aN R e A' c' (xs++List.replicate m x0)::L0⟩ K):
  TL r n P ops (⟨some d,.call {callee:=.builtin .append,args:=#[x,y],argTypes:=#[t,u]},ty,pos,af,none⟩::rest) ⟨D,E,L⟩ K:=
 ma rfl hd rfl (λ_ e=>by cases e) λW a w hh=>by
  have hs:=hh.2.ay hf.g
  have zv:z.cells.size=R.sz:=by rw [wd hz,qH]; exact R.len (lg Mem.emp)
  have iL:∀ k,(Builtin.zeroCells z.cells k).toList=pY k zl:=λk=>by
   have:=Kz zl k
   unfold Builtin.zeroCells
   rw [qH] at this
   rw [wd hz,qH,this]
  obtain ⟨A',c',w',hr,fm⟩:=Zr (P:=P) (t:=t) (u:=u) (ys:=List.replicate m x0) (by simpa using hb) zv hs (λv hv=>by
   rw [iL] at hv
   exact (Ku (M:=Mem.emp) (lg Mem.emp) _).one v hv) (λN m' _ _=>by
   rw [iL,tC]; exact Ku (lg N) m) (by rw [tC]; exact jP) ty
  rw [tC] at hr
  refine ⟨_,w',_, ?_,fm,h A' c'⟩
  simp [execOp,resolve,invoke,builtin,hh.1.ev hx,hh.1.ev hy,hr]
end
open Go Go.Proofs Go.Proofs.Tryz
theorem YO (L:List HP) (n:Int):Fn prog 504 #[.int .i64 n] L (λv L'=>v=.bool (decide (0<=n/\n<=2147483647))/\L'=L):=by
 refine aH func504 J J J J<|aa<|ae J<|O<|aa<|Y J<|ab J J (eV J J)<|jJ 4 8 (0<=n/\n<=2147483647) ?_ ?_
 ·refine Y J<|dl 5 J (λh5=> ?_) (λh5=> ?_)
  ·refine aj J<|Y J<|aj J<|ab J J (sX J J)<|aA J<|dH J ?_ (by repeat (first | exact dI | refine dJ rfl ?_)) al
   exact bi Value.bool (gX.2 (by omega))
  refine ah J<|ah J<|aA J<|dH J ?_ (by repeat (first | exact dI | refine dJ rfl ?_)) al
  exact bi Value.bool (cJ (by omega)).symm
 exact ae J<|O<|av<|cI J J
def qv (v:List Int) (o:Nat) (x:Int):List Int:=(v++List.replicate (o+1 - v.length) 0).set o x
theorem UF (v:List Int) (o:Nat) (x:Int):(qv v o x).length=max v.length (o+1):=by
 unfold qv
 rw [vW,eQ,tC]; omega
theorem H3:∀ v:List Int,(dK v).length<=v.length
 | []=>fo _
 | x::r=>by
  unfold dK
  have:=H3 r
  split
  ·simp
  ·simp only [dO]; omega
theorem aaI {xs:List Int} (o:Nat) (x:Int) (hk:bR L (aI .i64) A c xs) (hb:xs.length<=1048576) (ho:o < 7) (hx:0<=x/\x<=2147483647):Fn prog 449 #[.slice A xs.length c,.int .i64 (o:Int),.int .i64 x] L (λv L'=>∃ A' c',v=.tuple #[.slice A' (dK (qv xs o x)).length c',.int .i64 0]/\L'=aN (aI .i64) 3 A' c' (dK (qv xs o x))::L):=by
 refine aH func449 J J J J<|aa<|ae J<|ae J<|O<|ar<|aa<|Y J<|ab J J (bU J J)<|Y J<|dx 11 J (by omega)<|aj J<|Y J<|aj J<|ab J J (eV J J)<|aA J<|Y J<|dx 15 J (by omega)<|aj J<|Y J<|aj J<|aB J J (YO _ x)<|fd 17 J hx<|aj J<|ab J J (df J)<|aA J<|O<|aT J<|az<|ai<|aa<|Y J<|aJ J J (gz hk (by omega)) ?_
 rintro _ _ ⟨JK,JL,rfl,rfl⟩
 refine Y J<|ab J J (bE J J (by omega))<|cz 23 J<|Y J<|ab J J (bY J)<|ab J J (jb J J (by omega))<|ab J J (Df J J)<|br 27 (v':=.int .i64 ((o+1 - xs.length:Nat):Int)) J (by congr 1; omega)<|Qu (R:=aI .i64) (0:Int) J J J J J (λ_=>⟨J,by decide⟩) (by omega) λla kD=>ae J<|O ?_
 obtain ⟨u,hu⟩:∃ u,(xs++List.replicate (o+1 - xs.length) (0:Int))[o]? =some u:=⟨_,cj (by rw [eQ,tC]; omega)⟩
 refine aa<|Y J<|Y J<|Y J<|Hv J J J (J) (hu) λV9 alU V_ aj7=> ?_
 obtain ⟨lv,rfl⟩:=wt aj7
 subst V_
 refine fc J J J J J J<|jK (R:=aI .i64) V9 x (bV.const λ_=>⟨J,da (by omega)⟩) ?_
 rw [show (xs++List.replicate (o+1 - xs.length) (0:Int)).set o x=qv xs o x from rfl]
 refine O ?_
 have zt:=UF xs o x
 refine aa<|Y J<|br 33 (v':=.slice (some ⟨V9,0,none⟩) (qv xs o x).length kD) J (by unfold qv; rw [vW])<|aJ J J (Q1 bJ (by omega)) ?_
 rintro _ _ ⟨rq,rt,rfl,rfl⟩
 exact ae J<|ae J<|O<|av<|eS J J J al (⟨rq,rt,J,J⟩)
open Go Go.Proofs Go.Proofs.Tryz
theorem Zs {xs:List Int} [li prog f] {W:Int->Prop} [DecidablePred W] (hw:∀ n L,Fn prog f #[.int .i64 n] L (λv L'=>v=.bool (decide (W n))/\L'=L)) (hk:bR L (aI .i64) A c xs):Fn prog 275 #[.slice A xs.length c,.func (.func f) #[] #[]] L (λv L'=>(∃ i:Int,v=.int .i64 i/\(0<=i↔∃ x∈xs,W x))/\L'=L):=by
 refine aH func275 J J J J<|hk.lens λhl=> ?_
 simp only [cE] at hl
 refine aa<|ae J<|O<|ar<|aa<|Y J<|ab J J (bY J)<|Y J<|O<|aX<|cY (σ:=Nat) [0,1,7] (λi=>i<=xs.length/\∀ x∈xs.take i,¬ W x) (λi kv=>(8,.int .i64 (i:Int))::kv) (λi=>L) (λi=>xs.length - i) (0) J (⟨dF _,by simp⟩) (al) (dc J) λi hi=>aa<|ab J J (bU J J)<|O<|ar<|bz J (λh9=> ?_) (λh9=> ?_)
 ·refine az<|ai<|ar<|aX<|aa<|Y J<|ae J<|O<|aa<|Y J<|Y J<|Y J ?_
  obtain ⟨x,hx⟩:∃ x,xs[i]? =some x:=⟨_,cj (by omega)⟩
  refine f6 J J J (J) (hk) (hx) λBj Bk Bl qm=> ?_
  have qn:=hx
  refine ab J J (gi J qm qn J)<|jx J J J ((show Fn _ _ #[.int .i64 x] _ _ from hw x _)) ?_
  rintro _ _ ⟨rfl,rfl⟩
  refine O<|bz J (λeI=> ?_) (λeI=> ?_)
  ·refine aa<|Y J<|ae J<|O<|av<|db<|aU<|aU<|db<|aU ?_
   exact aZ J J al (⟨⟨(i:Int),J,⟨λ_=>⟨x,eA hx,eI⟩,λ_=>by omega⟩⟩,J⟩)
  refine az<|bA<|ai<|aQ<|ab J J (bE J J (by omega))<|cz 18 J<|Y J<|O<|ai ?_
  exact ⟨i+1,⟨by omega,by rw [ll hx]; intro q hq; rcases gD.1 hq with h | h; exact hi.2 q h; (simp at h; subst h; exact eI)⟩,by omega,bO rfl⟩
 refine cw<|aY<|aY<|cu<|ai<|aa<|ae J<|O<|av ?_
 exact aZ rfl rfl al (⟨⟨-1,rfl,⟨λh=>by omega,λ⟨x,hx,hwx⟩=>by have:=hi.2; rw [gQ (by omega)] at this; exact absurd hwx (this x hx)⟩⟩,rfl⟩)
theorem aaJ {xs:List Int} [li prog f] {W:Int->Prop} [DecidablePred W] (hw:∀ n L,Fn prog f #[.int .i64 n] L (λv L'=>v=.bool (decide (W n))/\L'=L)) (hk:bR L (aI .i64) A c xs):Fn prog 163 #[.slice A xs.length c,.func (.func f) #[] #[]] L (λv L'=>v=.bool (decide (∃ x∈xs,W x))/\L'=L):=by
 refine aH func163 J J J J<|aa<|ae J<|O<|aa<|Y J<|Y J<|aJ J J (Zs hw hk) ?_
 rintro _ L1 ⟨⟨i,rfl,hi⟩,hL⟩
 have hL:=hL.symm
 subst hL
 exact ab J J (eV J J)<|ae J<|O<|av<|aZ J J al (⟨bi Value.bool (gX.2 hi),J⟩)
def vg (v:List Int):Prop:=v.length<=7/\∀ n∈v,0<=n/\n<=2147483647
def nl (v:List Int):Nat:=(v.map Int.toNat).sum
theorem adF (v:List Int) (x:Int):nl (v++[x])=nl v+x.toNat:=by simp [nl]
theorem UG:∀ {v:List Int},(∀ n∈v,0<=n/\n<=2147483647)->nl v<=v.length * 2147483647
 | [],_=>by simp [nl]
 | x::r,h=>by
  have h1:=UG (v:=r) λn hn=>h n (gO _ hn)
  have h2:=h x ie
  have:nl (x::r)=x.toNat+nl r:=by simp [nl]
  rw [this,dO,jI]; omega
theorem Q2 {xs:List Int} (hk:bR L (aI .i64) A c xs) (hm:vg xs):Fn prog 248 #[.slice A xs.length c] L (λv L'=>v=.int .i64 (nl xs:Int)/\L'=L):=by
 have DO:=hm.1
 refine aH func248 J J J J<|aa<|ae J<|O<|aa<|ae J<|O<|ar<|aa<|Y J<|ab J J (bY J)<|Y J<|O<|aX<|cY (σ:=Nat) [6,7] (λi=>i<=xs.length) (λi kv=>(8,.int .i64 (i:Int))::(3,.int .i64 (nl (xs.take i):Int))::kv) (λi=>L) (λi=>xs.length - i) (0) J (dF _) (al) (dc J) λi hi=>aa<|ab J J (bU J J)<|O<|ar<|bz J (λh9=> ?_) (λh9=> ?_)
 ·refine az<|ai<|ar<|aX<|aa ?_
  obtain ⟨x,hx⟩:∃ x,xs[i]? =some x:=⟨_,cj (by omega)⟩
  have vr:=hm.2 x (eA hx)
  have hs:=UG (v:=xs.take i) (λn hn=>hm.2 n (Cf hn))
  have BP:(xs.take i).length=i:=by rw [gq]; omega
  refine f6 J J J (J) (hk) (hx) λV' Wa Wb FL=> ?_
  have FM:=hx
  refine ab J J (gi J FL FM J)<|ae J<|O<|aQ<|Y J<|Y J<|ab J J (Df J J)<|ab J J (bE J J (by rw [BP] at hs; omega))<|br 15 (v':=.int .i64 (nl (xs.take (i+1)):Int)) J (by rw [ll hx,adF]; congr 1; omega)<|ae J<|O<|bA<|ai<|aQ<|ab J J (bE J J (by omega))<|cz 16 J<|Y J<|O<|ai ?_
  exact ⟨i+1,(by omega),by omega,bO rfl⟩
 exact cw<|aY<|aY<|cu<|ai<|aa<|Y J<|ae J<|O<|av<|aZ J J al (⟨by rw [show xs.take i=xs from gQ (by omega)],J⟩)
open Go Go.Proofs Go.Proofs.Tryz
theorem Co (n a b:Int) (L:List HP):Fn prog 58 #[.int .i64 n,.int .i64 a,.int .i64 b] L (λv L'=>v=.bool (decide (a<=n/\n<=b))/\L'=L):=by
 refine aH func58 J J J J<|aa<|ae J<|O<|aa<|Y J<|Y J<|jJ 6 14 (a<=n/\n<=b) ?_ ?_
 ·refine ab J J (eV J J)<|Y J<|dl 10 J (λf0=> ?_) (λf0=> ?_)
  ·refine aj J<|Y J<|aj J<|Y J<|aj J<|ab J J (sX J J)<|aA J<|dH J ?_ (by repeat (first | exact dI | refine dJ rfl ?_)) al
   exact bi Value.bool (gX.2 (by omega))
  refine ah J<|ah J<|ah J<|aA J<|dH J ?_ (by repeat (first | exact dI | refine dJ rfl ?_)) al
  exact bi Value.bool (cJ (by omega)).symm
 exact ae J<|O<|av<|cI J J
theorem HD (n:Int) (L:List HP):Fn prog 162 #[.int .i64 n] L (λv L'=>v=.bool (decide (0<=n/\n<=1048576))/\L'=L):=by
 exact aH func162 J J J J<|aa<|ae J<|O<|aa<|Y J<|aB J J (Co _ _ _ _)<|ae J<|O<|av<|cI J J
theorem Q3 (n:Int) (L:List HP):Fn prog 333 #[.int .i64 n] L (λv L'=>v=.bool (decide (0<=n/\n<=999))/\L'=L):=by
 exact aH func333 J J J J<|aa<|ae J<|O<|aa<|Y J<|aB J J (Co _ _ _ _)<|ae J<|O<|av<|cI J J
abbrev JU (tm:Int) (now:List Int) (p:Option Addr × Nat × Int):Prop:=(0<=tm/\tm<=2000000000)/\(∀ x∈now,0<=x/\x<=2000000000)/\(0<=p.2.2/\p.2.2<=1000)/\now.length<=7/\0 < now.length
abbrev BR (tm:Int) (now:List Int) (p:Option Addr × Nat × Int):List Value:=[.int .i64 tm,.slice p.1 now.length p.2.1,.int .i64 p.2.2]
abbrev W0 (b:Nat) (tm:Int) (now:List Int) (p:Option Addr × Nat × Int):List HP:=[cells b (BR tm now p) 139,aN (aI .i64) 3 p.1 p.2.1 now]
def ck (b:Nat) (tm:Int) (now:List Int):HP:=n_ (W0 b tm now) (JU tm now)
variable{tm:Int}
instance {now:List Int}:jz (ck b tm now::L) b (ck b tm now) L:=⟨am.refl _⟩
variable{now:List Int}
theorem Wc {c:Code} (h:∀ p,JU tm now p->T r n P c ⟨D,E,cells b (BR tm now p) 139::aN (aI .i64) 3 p.1 p.2.1 now::L⟩ Q):T r n P c ⟨D,E,ck b tm now::L⟩ Q:=sT h
theorem Mx {dr:Int} (b:Nat) (tm:Int) (now:List Int) [h1:fL L b [.int .i64 tm,.slice A now.length c,.int .i64 dr] 139 L1] [h2:cR L1 (aN (aI .i64) 3 A c now) L2] (hi:JU tm now (A,c,dr)):am L (ck b tm now::L2):=
 (h1.g.trans (am.cons _ h2.g)).trans (nG (F:=W0 b tm now) (φ:=JU tm now) (A,c,dr) hi)
theorem ab5 (n:Nat) (h:1<=n/\n<=7) (L:List HP):Fn prog 27 #[.int .i64 (n:Int)] L (λv L'=>∃ b,v=.tuple #[.pointer (some ⟨b,0,none⟩),.int .i64 0]/\L'=ck b 0 (List.replicate n 0)::L):=by
 exact aH func27 J J J J<|aa<|ae J<|ae J<|O<|ar<|aa<|Y J<|aB J J (Co _ _ _ _)<|fd 5 J (by omega)<|ab J J (df J)<|O<|aT J<|az<|ai<|aa<|Y J<|wq (aI .i64) 0 (m:=n) (k:=n) J J J (fo _) (by omega) (by omega) J J J (λ_=>⟨J,da (by decide)⟩) λb8=>ab J J (bI J J)<|bS J J J λmr=>ae J<|ae J<|O<|av<|aF.ay (Mx (A:=some ⟨b8,0,none⟩) (c:=n) (dr:=0) mr 0 (List.replicate n 0) ⟨by decide,by simp,⟨qJ 0,show (0:Int)<=1000 by decide⟩,by simp; omega,by simp; omega⟩)<|eS J J J al (⟨mr,J,J⟩)
theorem SZ {now:List Int} {p:Option Addr × Nat × Int} (h:0 < now.length):Fn prog 161 #[.pointer (some ⟨b,0,none⟩)] (cells b (BR tm now p) 139::L) (λv L'=>v=.bool true/\L'=cells b (BR tm now p) 139::L):=by
 exact aH func161 J J J J<|aa<|ae J<|O<|aa<|Y J<|ab J J (f8 J J (dh.eJ))<|br 4 (v':=.bool true) J (by simp)<|Y J<|aj J<|Y J<|aj J<|aS J<|aj J<|ao J<|aj J<|ax J J<|aj J<|ab J J (bY J)<|aj J<|ab J J (eE J J)<|fd 11 J (by omega)<|aA J<|ae J<|O<|av<|cI J J
theorem R4 {now:List Int} (i:Nat) (hx:now[i]? =some x):Fn prog 84 #[.pointer (some ⟨b,0,none⟩),.int .i64 (i:Int)] (ck b tm now::L) (λv L'=>v=.int .i64 x/\L'=ck b tm now::L):=by
 have cL:i < now.length:=(dX.1 hx).1
 refine aH func84 J J J J<|Wc λp hi=>aa<|ae J<|O<|ar<|aa<|Y J<|aB J J (SZ hi.2.2.2.2)<|aV 6 (.bool true) J<|ab J J (df J)<|Y J<|aj J<|Y J<|aj J<|Y J<|aj J<|aS J<|aj J<|ao J<|aj J<|ax J J<|aj J<|ab J J (bY J)<|aj J<|ab J J (jb J J (by omega))<|aj J<|aB J J (Co _ _ _ _)<|fd 16 J (by omega)<|aj J<|ab J J (df J)<|aA J<|O<|aT J<|az<|ai<|aa<|Y J<|aS J<|ao J<|ax J J<|Y J<|f6 J J J (J) (bR.tail gp) (hx) λFN FO FP t8=> ?_
 have t9:=hx
 exact ab J J (gi J t8 t9 J)<|ae J<|O<|av<|aF.ay (Mx (A:=p.1) (c:=p.2.1) (dr:=p.2.2) b tm now hi)<|cI J J
theorem aaK {xs:List Int} [li prog f] (R:HP) (lW:List Value) (hw:∀ n Lx,bP .i64 n->Fn prog f ([]++[Value.int .i64 n]++lW).toArray (R::Lx) (λv L'=>(∃ b:Bool,v=.bool b)/\L'=R::Lx)) (hk:bR L (aI .i64) A c xs):Fn prog 275 #[.slice A xs.length c,.func (.func f) #[] lW.toArray] (R::L) (λv L'=>(∃ i:Int,v=.int .i64 i)/\L'=R::L):=by
 refine aH func275 J J J J<|hk.tail.lens λhl=> ?_
 simp only [cE] at hl
 refine aa<|ae J<|O<|ar<|aa<|Y J<|ab J J (bY J)<|Y J<|O<|aX<|cY (σ:=Nat) [0,1,7] (λi=>i<=xs.length) (λi kv=>(8,.int .i64 (i:Int))::kv) (λi=>R::L) (λi=>xs.length - i) (0) J (dF _) (al) (dc J) λi hi=>aa<|ab J J (bU J J)<|O<|ar<|bz J (λh9=> ?_) (λh9=> ?_)
 ·refine az<|ai<|ar<|aX<|aa<|Y J<|ae J<|O<|aa<|Y J<|Y J<|Y J ?_
  obtain ⟨x,hx⟩:∃ x,xs[i]? =some x:=⟨_,cj (by omega)⟩
  refine Em hk.tail hx (λM l (h:l=[.int .i64 x]/\bP .i64 x)=>h.2) λfV=>f6 J J J (J) (hk.tail) (hx) λBj Bk Bl qm=> ?_
  have qn:=hx
  refine ab J J (gi J qm qn J)<|jx J J J (hw x _ fV) ?_
  rintro _ _ ⟨⟨b16,rfl⟩,rfl⟩
  refine O<|gF J (λeI=> ?_) (λeI=> ?_)
  ·exact aa<|Y J<|ae J<|O<|av<|db<|aU<|aU<|db<|aU<|aZ J J al (⟨⟨_,J⟩,J⟩)
  refine az<|bA<|ai<|aQ<|ab J J (bE J J (by omega))<|cz 18 J<|Y J<|O<|ai ?_
  exact ⟨i+1,by omega,by omega,bO rfl⟩
 exact cw<|aY<|aY<|cu<|ai<|aa<|ae J<|O<|av<|aZ J J al (⟨⟨_,J⟩,J⟩)
theorem ab6 {xs:List Int} [li prog f] (R:HP) (lW:List Value) (hw:∀ n Lx,bP .i64 n->Fn prog f ([]++[Value.int .i64 n]++lW).toArray (R::Lx) (λv L'=>(∃ b:Bool,v=.bool b)/\L'=R::Lx)) (hk:bR L (aI .i64) A c xs):Fn prog 163 #[.slice A xs.length c,.func (.func f) #[] lW.toArray] (R::L) (λv L'=>(∃ b:Bool,v=.bool b)/\L'=R::L):=by
 refine aH func163 J J J J<|aa<|ae J<|O<|aa<|Y J<|Y J<|aJ J J (aaK R lW hw hk) ?_
 rintro _ _ ⟨⟨i,rfl⟩,rfl⟩
 exact ab J J (eV J J)<|ae J<|O<|av<|aZ J J al (⟨⟨_,J⟩,J⟩)
abbrev Gs (bt bd:Nat) (tm dr:Int):List HP:=[cells bt [.int .i64 tm] 3,cells bd [.int .i64 dr] 3]
def DP (bt bd:Nat) (tm dr:Int):HP:=sb (Gs bt bd tm dr)
theorem aaL {dr:Int} (ht:0<=tm/\tm<=1048576) (hd:0<=dr/\dr<=999) (n:Int) (L:List HP):Fn prog 365 #[.int .i64 n,.pointer (some ⟨bd,0,none⟩),.pointer (some ⟨bt,0,none⟩)] (DP bt bd tm dr::L) (λv L'=>(∃ b:Bool,v=.bool b)/\L'=DP bt bd tm dr::L):=by
 have DO:0<=(1000 - dr) * tm:=Int.mul_nonneg (by omega) ht.1
 have JR:(1000 - dr) * tm<=1000 * 1048576:=Int.mul_le_mul (by omega) ht.2 ht.1 (by decide)
 have hm3:0<=(1000+dr) * tm:=Int.mul_nonneg (by omega) ht.1
 have hm4:(1000+dr) * tm<=1999 * 1048576:=Int.mul_le_mul (by omega) ht.2 ht.1 (by decide)
 refine aH func365 J J J J<|b_ (show am _ (cells bt [.int .i64 tm] 3::cells bd [.int .i64 dr] 3::L) from mC (L:=Gs bt bd tm dr))<|aa<|ae J<|O<|aa<|Y J<|aB J J (HD _ _)<|ab J J (iF J)<|Y J<|dl 8 J (λh8=> ?_) (λh8=> ?_)
 ·exact ah J<|ah J<|ah J<|ah J<|ah J<|ah J<|ah J<|ah J<|ah J<|ah J<|ah J<|ah J<|aA J<|ae J<|O<|av<|aF.ay (show am _ (DP bt bd tm dr::L) from g9 (L:=Gs bt bd tm dr))<|aZ J J al (⟨⟨_,J⟩,J⟩)
 exact aj J<|Y J<|aj J<|ab J J (C' J J (by omega))<|aj J<|ax J J<|aj J<|ab J J (jb J J (by omega))<|aj J<|ax J J<|aj J<|ab J J (C' J J (by omega))<|aj J<|ax J J<|aj J<|ab J J (bE J J (by omega))<|aj J<|ax J J<|aj J<|ab J J (C' J J (by omega))<|aj J<|aB J J (Co _ _ _ _)<|aj J<|ab J J (iF J)<|aA J<|ae J<|O<|av<|aF.ay (show am _ (DP bt bd tm dr::L) from g9 (L:=Gs bt bd tm dr))<|aZ J J al (⟨⟨_,J⟩,J⟩)
theorem ab7 {xs:List Int} (tm dr:Int) (ht:0<=tm/\tm<=1048576) (hd:0<=dr/\dr<=999) (hk:bR L (aI .i64) A c xs):Fn prog 276 #[.int .i64 tm,.slice A xs.length c,.int .i64 dr] L (λv L'=>(∃ b:Bool,v=.bool b)/\L'=L):=by
 refine aH func276 J J J J<|aa<|bS J J J λb3=>bS J J J λb5=>ae J<|O<|ar<|aa<|ax J J<|aB J J (Q3 _ _)<|fd 9 J hd<|ab J J (df J)<|Y J<|aj J<|ax J J<|aj J<|aB J J (HD _ _)<|fd 13 J ht<|aj J<|ab J J (df J)<|aA J<|O<|aT J<|az<|ai<|aa<|ab J J (gy J J)<|ae J<|O<|b_ (L':=DP b3 b5 tm dr::L) ((bu.g (L':=cells b3 [.int .i64 tm] 3::cells b5 [.int .i64 dr] 3::L)).trans (g9 (L:=Gs b3 b5 tm dr)))<|aa<|Y J<|Y J<|aJ J J (ab6 (DP b3 b5 tm dr) [.pointer (some ⟨b5,0,none⟩),.pointer (some ⟨b3,0,none⟩)] (λn Lx _↦aaL ht hd n Lx) hk) ?_
 rintro _ _ ⟨⟨b19,rfl⟩,rfl⟩
 exact ab J J (ff J)<|ae J<|O<|av<|aF.ay (am.drop _ _)<|aZ J J al (⟨⟨_,J⟩,J⟩)
theorem ab8 {xs:List Int} (tm:Int) (ht:0<=tm/\tm<=1048576) (hk:bR L (aI .i64) A c xs):Fn prog 165 #[.int .i64 tm,.slice A xs.length c] L (λv L'=>(∃ d:Int,v=.int .i64 d/\0<=d/\d<=1000)/\L'=L):=by
 refine aH func165 J J J J<|aa<|ae J<|O<|aa<|ae J<|ae J<|O<|ar<|aX<|cY (σ:=Int × Int) [0,1] (λg=>0<=g.1/\g.1<=g.2/\g.2<=1000) (λg kv=>(5,.int .i64 g.1)::(6,.int .i64 g.2)::kv) (λg=>L) (λg=>(g.2 - g.1).toNat) ((0,1000)) J ((by decide)) (al) (dc J) ?_
 rintro ⟨lo,hi⟩ hh
 dsimp only at hh ⊢
 refine ar<|aa<|Y J<|Y J<|ab J J (bU J J)<|O<|bz J (λf0=> ?_) (λf0=> ?_)
 ·refine az<|ai<|aX<|aa<|Y J<|Y J<|ab J J (bE J J (by omega))<|ab J J (Nq J J (by omega))<|ae J<|O ?_
  have hm:lo<=(lo+hi) / 2/\(lo+hi) / 2 < hi:=by omega
  refine aa<|Y J<|Y J<|Y J<|aJ J J (ab7 tm ((lo+hi) / 2) ht (by omega) hk) ?_
  rintro _ _ ⟨⟨W1,rfl⟩,rfl⟩
  refine O<|gF J (λjG=> ?_) (λjG=> ?_)
  ·refine aQ<|Y J<|ae J<|O<|bA<|ai ?_
   exact ⟨(lo,(lo+hi) / 2),(by dsimp only; omega),by dsimp only; omega,bO rfl⟩
  refine aQ<|Y J<|ab J J (bE J J (by omega))<|ae J<|O<|bA<|ai ?_
  exact ⟨((lo+hi) / 2+1,hi),(by dsimp only; omega),by dsimp only; omega,bO rfl⟩
 refine cw<|aY<|aY<|cu<|ai<|aa<|Y J<|ae J<|O<|av ?_
 exact aZ J J al (⟨⟨lo,J,by omega,by omega⟩,J⟩)
theorem ab9 (n:Int) (L:List HP):Fn prog 164 #[.int .i64 n] L (λv L'=>v=.bool (decide (¬ (0<=n/\n<=1048576)))/\L'=L):=by
 exact aH func164 J J J J<|aa<|ae J<|O<|aa<|Y J<|aB J J (HD _ _)<|ab J J (iF J)<|ae J<|O<|av<|cI J J
def qc (now on:List Int) (i:Nat):List Int:=(List.zipWith (·+·) now on).take i++now.drop i
theorem agR (now on:List Int):qc now on 0=now:=by simp [qc]
theorem adG {now on:List Int} (h:on.length=now.length) (i:Nat):(qc now on i).length=now.length:=by simp [qc]; omega
theorem afd {now on:List Int} (h:on.length=now.length) (hx:now[i]? =some x):(qc now on i)[i]? =some x:=by
 have cL:=(dX.1 hx).1
 unfold qc
 rw [nA (by simp; omega)]
 simp [hx,show i - min i (min now.length on.length)=0 by omega]
theorem adH {now on:List Int} (h:on.length=now.length) {y:Int} (hx:now[i]? =some x) (hy:on[i]? =some y):(qc now on i).set i (x+y)=qc now on (i+1):=by
 have cL:=(dX.1 hx).1
 apply zP
 intro j
 rw [uz]
 unfold qc
 by_cases e:i=j
 ·subst e
  rw [if_pos rfl,if_pos (by simp; omega),kF (by simp; omega),m8,if_pos (by omega),List.getElem?_zipWith,hx,hy]
 ·rw [if_neg e]
  by_cases hj:j < i
  ·rw [kF (by simp; omega),kF (by simp; omega),m8,m8,if_pos hj,if_pos (by omega)]
  ·rw [nA (by simp; omega),nA (by simp; omega),qF,qF]
   congr 1; simp; omega
theorem adI {now on:List Int} (h:on.length=now.length):qc now on now.length=List.zipWith (·+·) now on:=by
 unfold qc; rw [gQ (by simp; omega),xV,tE]
theorem afe {now on:List Int} {z:Int} (h:z∈List.zipWith (·+·) now on):∃ x∈now,∃ y∈on,z=x+y:=by
 obtain ⟨i,hi⟩:=od h
 rw [List.getElem?_zipWith] at hi
 cases hx:now[i]? with
 | none=>rw [hx] at hi; simp at hi
 | some x=>cases hy:on[i]? with
  | none=>rw [hx,hy] at hi; simp at hi
  | some y=>rw [hx,hy] at hi; simp at hi; exact ⟨x,eA hx,y,eA hy,hi.symm⟩
theorem TV {u:Int} {l:List Value} (h:l=[.int k u]->bP k u->TL r n P ops rest ⟨D,E,L⟩ K):TL r n P ops rest ⟨D,E,is (aI k) u l::L⟩ K:=
 EQ (bV.wC (p:=is (aI k) u l) (φ:=λ_=>l=[.int k u]/\bP k u) λM k h=>h) (λ_ h=>h) λhl=>bX (am.drop _ _) (h hl.1 hl.2)
theorem aaM {now on:List Int} (t:Int) (ht:0<=t/\t<=1000) (hk:bR L (aI .i64) A c on) (hl:on.length=now.length) (qw:∀ x∈on,0<=x/\x<=1000) (FQ:∀ x∈now,x<=1000000000) (Gt:tm<=1000000000):Fn prog 85 #[.pointer (some ⟨b,0,none⟩),.int .i64 t,.slice A on.length c] (ck b tm now::L) (λv L'=>v=.int .i64 0/\L'=ck b (tm+t) (List.zipWith (·+·) now on)::L):=by
 refine aH func85 J J J J<|Wc λp hi=> ?_
 have DN:=hi.2.1
 have Gn:=hi.2.2.2.1
 have alV:=hi.1
 have Pl:=hi.2.2.1
 have h5:=hi.2.2.2.2
 refine aa<|ae rfl<|O<|ar<|aX<|aa<|Y rfl<|aB rfl rfl (SZ hi.2.2.2.2)<|aV 13 (.bool true) rfl<|ab rfl rfl (df rfl)<|ae rfl<|O<|aT rfl<|aa<|Y rfl<|aB rfl rfl (HD _ _)<|fd 17 rfl (by omega)<|ab rfl rfl (df rfl)<|Y rfl<|aj rfl<|Y rfl<|aj rfl<|ab rfl rfl (bY rfl)<|aj rfl<|Y rfl<|aj rfl<|aS rfl<|aj rfl<|ao rfl<|aj rfl<|ax rfl rfl<|aj rfl<|ab rfl rfl (bY rfl)<|aj rfl<|ab rfl rfl (dB rfl rfl)<|dx 27 rfl (by omega)<|aA rfl<|Y rfl<|aj rfl<|Y rfl<|aj rfl<|aB rfl rfl (aaJ (W:=λn↦¬ (0<=n/\n<=1048576)) (λn L↦ab9 n L) hk.tail.tail)<|dx 31 rfl (λ⟨x,hx,hw⟩=>hw (by have:=qw x hx; omega))<|aA rfl<|ae rfl<|O<|aT rfl<|aa<|Y rfl<|Y rfl<|aS rfl<|ao rfl<|ax rfl rfl<|ab rfl rfl (jb rfl rfl (by omega))<|ab rfl rfl (eE rfl rfl)<|ae rfl<|O<|ir rfl (by omega)<|az<|bA<|ai<|ar<|aa<|Y rfl<|ab rfl rfl (bY rfl)<|Y rfl<|O<|aX<|cY (σ:=Nat) [0,1,2,41,42] (λi=>i<=now.length) (λi kv=>(43,.int .i64 (i:Int))::kv) (λi=>cells b (BR tm now p) 139::aN (aI .i64) 3 p.1 p.2.1 now::L) (λi=>now.length - i) (0) rfl (dF _) (al) (dc rfl) λi hi=>aa<|ab rfl rfl (bU rfl rfl)<|O<|ar<|bz rfl (λGu=> ?_) (λGu=> ?_)
 ·refine az<|ai<|ar<|aX ?_
  have cL:i < now.length:=by omega
  obtain ⟨y,hy⟩:∃ y,on[i]? =some y:=⟨_,cj (by omega)⟩
  obtain ⟨x,hx⟩:∃ x,now[i]? =some x:=⟨_,cj cL⟩
  have Pm:=qw y (eA hy)
  have se:=DN x (eA hx)
  refine aa<|Y J<|f6 J J J (J) (hk.tail.tail) (hy) λaj8 aj9 aj_ Or=> ?_
  have Ot:=hy
  refine ab J J (gi J Or Ot J)<|ae J<|ae J<|O<|aa<|Y J<|Y J<|aS J<|ao J<|ax J J<|Y J<|f6 J J J (J) (bR.tail gp) (hx) λalW alX alY aj'=> ?_
  have aka:=hx
  refine ab J J (gi J aj' aka J)<|ab J J (jb J J (by omega))<|ab J J (eE J J)<|O<|ir J (by omega)<|az<|bA<|ai<|aQ<|ab J J (bE J J (by omega))<|cz 58 J<|Y J<|O<|ai ?_
  exact ⟨i+1,by omega,by omega,bO rfl⟩
 refine cw<|aY<|aY<|cu<|ai<|aa<|Y J<|aS J<|ao J<|ax J J<|Y J<|ab J J (bE J J (by omega))<|aS J<|ao J<|aE J J<|O<|ar<|aa<|Y J<|ab J J (bY J)<|Y J<|O<|aX<|cY (σ:=Nat) [0,1,2,67,68] (λi=>i<=now.length) (λi kv=>(69,.int .i64 (i:Int))::kv) (λi=>cells b (BR (tm+t) now p) 139::aN (aI .i64) 3 p.1 p.2.1 (qc now on i)::L) (λi=>now.length - i) (0) J (dF _) ((by rw [agR]; exact al)) (dc J) λi hi=>aa<|ab J J (bU J J)<|O<|ar<|bz J (λh70=> ?_) (λh70=> ?_)
 ·refine az<|ai<|ar<|aX ?_
  have cL:i < now.length:=by omega
  obtain ⟨y,hy⟩:∃ y,on[i]? =some y:=⟨_,cj (by omega)⟩
  obtain ⟨x,hx⟩:∃ x,now[i]? =some x:=⟨_,cj cL⟩
  have Pm:=qw y (eA hy)
  have se:=DN x (eA hx)
  have ze:=adG hl i
  have xv:=afd hl hx
  refine aa<|Y J<|f6 J J J (J) (hk.tail.tail) (hy) λalZ al0 al1 akb=> ?_
  have akc:=hy
  refine ab J J (gi J akb akc J)<|ae J<|ae J<|O ?_
  skip
  refine aQ<|Y J<|aS J<|ao J<|ax J J<|br 77 (v':=.slice p.1 (qc now on i).length p.2.1) J (by rw [ze])<|Y J<|Hv J J J (J) (xv) λWd al2 We akd=> ?_
  obtain ⟨lv,rfl⟩:=wt akd
  refine wo 1 J<|TV λhv _=> ?_
  obtain rfl:lv=.int .i64 x:=by simpa using hv
  refine ab J J (fQ J J)<|Y J<|ab J J (bE J J (by omega))<|br 77 (v':=.slice (some ⟨Wd,0,none⟩) (qc now on i).length p.2.1) J (by rw [We])<|ab J J (pS (R:=aI .i64) (xs:=qc now on i) J J J xv)<|fc J J J J J J<|jK (R:=aI .i64) Wd (x+y) (bV.const λ_=>⟨J,da (by omega)⟩) ?_
  rw [adH hl hx hy, <- We]
  refine O<|bA<|ai<|aQ<|ab J J (bE J J (by omega))<|cz 84 J<|Y J<|O<|ai ?_
  exact ⟨i+1,by omega,by omega,bO rfl⟩
 refine cw<|aY<|aY<|cu<|ai ?_
 obtain rfl:i=now.length:=by omega
 rw [adI hl]
 have ga:(List.zipWith (·+·) now on).length=now.length:=by simp; omega
 refine bW (cells b (BR (tm+t) now p) 139::[]) [11] [0,2,4,6,8,10,12,15,16,18,20,23] (by kernel_rfl) al<|aq J J<|aq J J<|aL J J<|aw J J<|aG J J J<|aq J J<|aq J J<|an J<|aJ J J (ab8 t (by omega) (bR.dT al hk)) ?_
 rintro _ _ ⟨⟨d92,rfl,mK,BK⟩,rfl⟩
 refine au<|ak J J (Df J J)<|aL J J<|aw J J<|an J<|aE J J<|gZ J<|aR<|aa<|ae J<|O<|av ?_
 rw [<- ga]
 exact aF.ay (Mx (A:=p.1) (c:=p.2.1) (dr:=max p.2.2 d92) b (tm+t) (List.zipWith (·+·) now on) ⟨by omega,λz hz=>(by obtain ⟨x,hx,y,hy,rfl⟩:=afe hz; have:=DN x hx; have:=FQ x hx; have:=qw y hy; omega),by dsimp only; omega,by omega,by omega⟩)<|cI J J
theorem R5 (le dr:Int) (h1:1<=le/\le<=1048576) (h2:0<=dr/\dr<=999) (L:List HP):Fn prog 230 #[.int .i64 le,.int .i64 dr] L (λv L'=>(∃ x:Int,v=.int .i64 x)/\L'=L):=by
 have DO:0<=le * (1000 - dr):=Int.mul_nonneg (by omega) (by omega)
 have JR:le * (1000 - dr)<=1048576 * 1000:=Int.mul_le_mul h1.2 (by omega) (by omega) (by decide)
 exact aH func230 J J J J<|aa<|ae J<|O<|ar<|aa<|Y J<|aB J J (Co _ _ _ _)<|fd 6 J h1<|ab J J (df J)<|Y J<|aj J<|Y J<|aj J<|aB J J (Q3 _ _)<|fd 10 J h2<|aj J<|ab J J (df J)<|aA J<|O<|aT J<|az<|ai<|aa<|Y J<|Y J<|ab J J (jb J J (by omega))<|ab J J (C' J J (by omega))<|Y J<|ab J J (bE J J (by omega))<|ab J J (Nq J J (by omega))<|ae J<|O<|av<|aZ J J al (⟨⟨_,J⟩,J⟩)
abbrev W2 (b n:Nat) (p:Option Addr × Nat × Int × List Int):List HP:=[cells b [.slice p.1 n p.2.1,.int .i64 p.2.2.1] 287,aN (aI .i64) 3 p.1 p.2.1 p.2.2.2]
def le (b n:Nat):HP:=n_ (W2 b n) (λp=>p.2.2.2.length=n/\n<=7)
instance:jz (le b n::L) b (le b n) L:=⟨am.refl _⟩
variable{m:Nat}
theorem ake {c:Code} (h:∀ p:Option Addr × Nat × Int × List Int,p.2.2.2.length=n/\n<=7->T r m P c ⟨D,E,cells b [.slice p.1 n p.2.1,.int .i64 p.2.2.1] 287::aN (aI .i64) 3 p.1 p.2.1 p.2.2.2::L⟩ Q):T r m P c ⟨D,E,le b n::L⟩ Q:=sT h
theorem My {t:Int} (b n:Nat) (xs:List Int) [h1:fL L b [.slice A n c,.int .i64 t] 287 L1] [h2:cR L1 (aN (aI .i64) 3 A c xs) L2] (hi:xs.length=n/\n<=7):am L (le b n::L2):=
 (h1.g.trans (am.cons _ h2.g)).trans (nG (F:=W2 b n) (φ:=λp=>p.2.2.2.length=n/\n<=7) (A,c,t,xs) hi)
theorem KE:Fn prog 91 #[.pointer (some ⟨b,0,none⟩)] (le b n::L) (λv L'=>v=.tuple #[]/\L'=le b n::L):=by
 refine aH func91 J J J J<|aa<|Y J<|ab J J (f8 J J (dh.eJ))<|O<|xZ J (J)<|ake λp hi=>aa<|Y J<|aS J<|ao J<|ax J J<|ab J J (bY J)<|Y J<|O<|aX<|cY (σ:=Nat × List Int) [0,9] (λg=>g.1<=n/\g.2.length=n) (λg kv=>(10,.int .i64 (g.1:Int))::kv) (λg=>cells b [.slice p.1 n p.2.1,.int .i64 p.2.2.1] 287::aN (aI .i64) 3 p.1 p.2.1 g.2::L) (λg=>n - g.1) ((0,p.2.2.2)) J (⟨dF _,hi.1⟩) (al) (dc J) ?_
 rintro ⟨i,xs⟩ ⟨h1,h2⟩
 dsimp only at h1 h2 ⊢
 refine aa<|ab J J (bU J J)<|O<|ar<|bz J (λgJ=> ?_) (λgJ=> ?_)
 ·refine az<|ai<|ar<|aX ?_
  have cL:i < n:=by omega
  obtain ⟨x,hx⟩:∃ x,xs[i]? =some x:=⟨_,cj (by omega)⟩
  refine aa<|Y J<|ae J<|O<|aQ<|Y J<|aS J<|ao J<|ax J J<|br 16 (v':=.slice p.1 xs.length p.2.1) J (by rw [h2])<|Y J<|Hv J J J (J) (hx) λakf al3 Om akg=> ?_
  obtain ⟨lv,rfl⟩:=wt akg
  refine fc J J J J J J<|jK (R:=aI .i64) akf (-1) (bV.const λ_=>⟨J,da (by omega)⟩) ?_
  rw [<- Om]
  refine O<|bA<|ai<|aQ<|ab J J (bE J J (by omega))<|cz 19 J<|Y J<|O<|ai ?_
  exact ⟨(i+1,xs.set i (-1)),⟨by dsimp only; omega,by simp [h2]⟩,by dsimp only; omega,bO rfl⟩
 exact cw<|aY<|aY<|cu<|aF.ay (My (A:=p.1) (c:=p.2.1) (t:=p.2.2.1) b n xs ⟨h2,hi.2⟩)<|ei J
theorem Lo (n:Nat) (Pn dr:Int) (h:1<=n/\n<=7) (h1:1<=Pn/\Pn<=1048576) (h2:0<=dr/\dr<=999) (L:List HP):Fn prog 123 #[.int .i64 (n:Int),.int .i64 Pn,.int .i64 dr] L (λv L'=>∃ b,v=.tuple #[.pointer (some ⟨b,0,none⟩),.int .i64 0]/\L'=le b n::L):=by
 refine aH func123 J J J J<|aa<|ae J<|ae J<|O<|ar<|aa<|Y J<|ab J J (bU J J)<|dx 10 J (by omega)<|Y J<|aj J<|Y J<|aj J<|ab J J (eE J J)<|dx 13 J (by omega)<|aA J<|Y J<|aj J<|Y J<|aj J<|ab J J (bU J J)<|dx 17 J (by omega)<|aA J<|Y J<|aj J<|Y J<|aj J<|ab J J (eE J J)<|dx 21 J (by omega)<|aA J<|Y J<|aj J<|Y J<|aj J<|ab J J (bU J J)<|dx 25 J (by omega)<|aA J<|Y J<|aj J<|Y J<|aj J<|ab J J (eV J J)<|dx 29 J (by omega)<|aA J<|O<|aT J<|az<|ai<|iQ (by kernel_rfl)<|fq 1 4 (by decide) ?_ ?_
 ·refine dN ([]) [] [0,4,6,3,9,10,13,14] (by kernel_rfl) al<|aq J J<|aq J J<|aq J J<|an J<|wq (aI .i64) 0 (m:=n) (k:=n) J J J (fo _) (by omega) (by omega) J J J (λ_=>⟨J,da (by decide)⟩) λPo=>au<|an J<|aJ J J (R5 _ _ h1 h2 _) ?_
  rintro _ _ ⟨⟨Pp,rfl⟩,rfl⟩
  refine au<|ak J J (bI J J)<|an J<|bS J J J λGv=>au<|ak J J (bT J)<|aR<|ai ?_
  rw [tC]
  exact b_ (My (A:=some ⟨Po,0,none⟩) (c:=n) (t:=Pp) Gv n (List.replicate n 0) ⟨by simp,h.2⟩)<|aa<|Y J<|aB J J (KE)<|O<|aa<|Y J<|ae J<|ae J<|O<|av<|eS J J J al (⟨Gv,J,J⟩)
 refine dN ([]) [] [0,4,6,9,3,10,13,14] (by kernel_rfl) al<|aq J J<|aq J J<|aq J J<|an J<|aJ J J (R5 _ _ h1 h2 _) ?_
 rintro _ _ ⟨⟨Pp,rfl⟩,rfl⟩
 refine au<|an J<|wq (aI .i64) 0 (m:=n) (k:=n) J J J (fo _) (by omega) (by omega) J J J (λ_=>⟨J,da (by decide)⟩) λPo=>au<|ak J J (bI J J)<|an J<|bS J J J λGv=>au<|ak J J (bT J)<|aR<|ai ?_
 rw [tC]
 exact b_ (My (A:=some ⟨Po,0,none⟩) (c:=n) (t:=Pp) Gv n (List.replicate n 0) ⟨by simp,h.2⟩)<|aa<|Y J<|aB J J (KE)<|O<|aa<|Y J<|ae J<|ae J<|O<|av<|eS J J J al (⟨Gv,J,J⟩)
abbrev tq (bj:Int × Int) (un:Int):List Value:=[.int .i64 100,.int .i64 bj.1,.int .i64 bj.2,.int .i64 un]
theorem Lp (L:List HP):Fn prog 124 #[.int .i64 100] L (λv L'=>∃ b,v=.tuple #[.pointer (some ⟨b,0,none⟩),.int .i64 0]/\L'=cells b (tq (0,0) 0) 236::L):=by
 exact aH func124 J J J J<|aa<|ae J<|ae J<|O<|ar<|aa<|Y J<|ab J J (bU J J)<|br 5 (v':=.bool false) J (by simp)<|Y J<|aj J<|Y J<|aj J<|ab J J (eE J J)<|br 8 (v':=.bool false) J (by simp)<|aA J<|O<|aT J<|az<|ai<|aa<|Y J<|ab J J (bI J J)<|bS J J J λix=>ae J<|ae J<|O<|av<|eS J J J al (⟨ix,J,J⟩)
abbrev aje (a:Int × Int):Value:=.agg #[.int .i64 a.1,.int .i64 a.2]
theorem YP {hb bj:Int × Int} {now:Int} (h:0<=now):Fn prog 266 #[.pointer (some ⟨b,0,none⟩),aje bj,.int .i64 now] (cells b (tq hb 0) 236::L) (λv L'=>v=.bool false/\L'=cells b (tq hb 0) 236::L):=by
 exact aH func266 J J J J<|aa<|bS J J J λb4=>ae J<|O<|bW (cells b (tq hb 0) 236::[]) [] [0,2,4,6,8,10,12,14,16,18,20,22,24,26,28,30,32,34,36] (by kernel_rfl) al<|aq J J<|ak J J (f8 J J (dh.eJ))<|er 8 (v':=.bool true) J (by simp)<|aq J J<|aC J J (cU J)<|aC J J (cU J)<|aC J J (gc J)<|aC J J (dp J)<|aC J J (dY J J)<|aC J J (bU J J)<|lZ 15 J (by omega)<|ak J J (d9 J J)<|aq J J<|aD J J<|aD J J<|aD J J<|aD J J<|aD J J<|aD J J<|ak J J (dG J J)<|ak J J (bT J)<|aR<|av<|cI J J
open Go Go.Proofs Go.Proofs.Tryz
abbrev C8 (x:dv) (q:Option Addr × Nat):Value:=.agg (List.toArray (pj x q))
def FR (e:aW) (x:dv):Prop:=x.aK=e.aK/\e.eO<=x.eO/\pB x.cut e.dot
instance (e:aW) (x:dv):Decidable (FR e x):=by unfold FR; exact inferInstance
def Jd (s:List dv) (e:aW):Option dv:=s.find? λx=>decide (FR e x)
def pC (s:List dv) (e:aW):Bool:=(Jd s e).isSome
def Bm (s:List dv) (e:aW):Int:=match Jd s e with
 | some x=>x.eO
 | none=>0
def sQ (s:List dv) (name:ByteArray):Nat:=s.countP λx=>decide (x.aK=name)
def E9 (l:List aW) (s:List dv):List aW:=l.filter λe=>pC s e
def rT (l:List aW) (s:List dv):List aW:=l.filter λe=> !pC s e
def sU (l:List aW) (s:List dv) (name:ByteArray) (ep:Int):List aW:=l.filter λe=>pC s e && decide (Bm s e=ep) && decide (e.aK=name)
def mb (a b:List Int):Bool:=(List.range (max a.length b.length)).all λi:Nat=>decide (l7 a (i:Int)<=l7 b (i:Int))
def Au (lN:List Int) (s:List dv) (name:ByteArray) (ep:Int):Bool:=match s.find? λx=>decide (x.aK=name) && decide (x.eO=ep) with
 | some x=>mb x.cut lN
 | none=>false
theorem UH {α:Type} {p:α->Bool} {l:List α} {x:α} (hx:l[i]? =some x) (hp:p x=true) (hn:∀ y∈l.take i,p y=false):l.find? p=some x:=by
 have hd:l.drop i=x::l.drop (i+1):=by
  rw [xQ (dX.1 hx).1,(dX.1 hx).2]
 have h1:(l.take i).find? p=none:=vR.2 λy hy=>by rw [hn y hy]; simp
 rw [<- qE i l,List.find?_append,h1,hd,List.find?_cons_of_pos hp]; rfl
theorem UI {α:Type} {p:α->Bool} {l:List α} (hn:∀ y∈l,p y=false):l.find? p=none:=vR.2 λy hy=>by rw [hn y hy]; simp
variable{s:List dv}
theorem Rv (W:HP) (want:dv->Bool) (f:FuncId) [li prog f] (lW:List Value) 
  (tY:∀ (x:dv) (q:Option Addr × Nat) (L1:List HP),x∈s->fC x->bR L1 (aI .i64) q.1 q.2 x.cut->Fn prog f ([]++[C8 x q]++lW).toArray (W::L1) (λv L'=>v=.bool (want x)/\L'=W::L1))
  (hk:a_ L hP A c s):Fn prog 453 #[.slice A s.length c,.func (.func f) #[] lW.toArray] (W::L) (λv L'=>(∃ r:Int,v=.int .i64 r/\((r < 0/\∀ x∈s,want x=false)\/∃ (i:Nat) (x:dv),r=(i:Int)/\s[i]? =some x/\want x=true/\∀ y∈s.take i,want y=false))/\L'=W::L):=by
 refine aH func453 J J J J ?_
 refine b_ (a_.lay hk.tail)<|bR.lens (bJ (A:=A) (c:=c)) λhl=> ?_
 simp only [cE] at hl
 refine aa<|ae J<|O<|ar<|aa<|Y J<|ab J J (bY J)<|Y J<|O<|aX<|cY (σ:=Nat) [0,1,7] (λi=>i<=s.length/\∀ x∈s.take i,want x=false) (λi kv=>(8,.int .i64 (i:Int))::kv) (λi=>W::sl hP A c s::L) (λi=>s.length - i) (0) J (⟨dF _,by simp⟩) (am.swap _ _ _) (dc J) λi hi=>aa<|ab J J (bU J J)<|O<|ar<|bz J (λh9=> ?_) (λh9=> ?_)
 ·refine az<|ai<|ar<|aX ?_
  obtain ⟨x,hx⟩:∃ x,s[i]? =some x:=⟨_,cj (by omega)⟩
  have zw:=eA hx
  refine aa<|Y J<|ae J<|O<|aa<|Y J<|Y J<|Y J<|f6 J J J (J) ((bJ (A:=A) (c:=c))) (hx) λBj Bk Bl qm=> ?_
  have qn:=hx
  refine kh J J qm qn (λ_=>J) λuq Jc=> ?_
  simp only [dL,dm]
  refine bX (show am _ (W::sl (aI .i64) uq.1 uq.2 x.cut::sl hP A c s::L) from al)<|jx J J J (tY x uq _ zw Jc (a_.n slk)) ?_
  rintro _ _ ⟨rfl,rfl⟩
  refine O<|gF J (λeI=> ?_) (λeI=> ?_)
  ·refine aa<|Y J<|ae J<|O<|av<|db<|aU<|aU<|db<|aU ?_
   exact aF.ay (show am _ (W::L) from al)<|aZ J J al (⟨⟨_,J,.inr ⟨i,x,J,hx,eI,hi.2⟩⟩,J⟩)
  refine az<|bA<|ai<|aQ<|ab J J (bE J J (by omega))<|cz 18 J<|Y J<|O<|ai ?_
  exact ⟨i+1,⟨by omega,by rw [ll hx]; intro y hy; rcases gD.1 hy with h | h; exact hi.2 y h; (rw [o0.1 h]; exact eI)⟩,by omega,bO rfl⟩
 refine cw<|aY<|aY<|cu<|ai<|aa<|ae J<|O<|av ?_
 have jX:=hi.2
 rw [gQ (show s.length<=i by omega)] at jX
 exact aF.ay (show am _ (W::L) from al)<|aZ J J al (⟨⟨_,J,.inl ⟨by omega,jX⟩⟩,J⟩)
theorem YQ {e:aW} {p:Option Addr × Nat} (x:dv) (hk:bR L (aI .i64) q.1 q.2 x.cut):Fn prog 454 #[C8 x q,.pointer (some ⟨b2,0,none⟩)] (cells b2 (fv e p) 49::L) (λv L'=>v=.bool (decide (FR e x))/\L'=cells b2 (fv e p) 49::L):=by
 refine aH func454 J J J J<|aa<|bS J J J λb2=>ae J<|O<|aa<|ao J<|ax J J<|ao J<|ax J J<|ab J J (kI J J)<|Y J<|dl 9 J (λh9=> ?_) (λh9=> ?_)
 ·refine aj J<|ao J<|aj J<|ax J J<|aj J<|ao J<|aj J<|ax J J<|aj J<|ab J J (eV J J)<|aA J<|Y J<|dl 16 J (λeI=> ?_) (λeI=> ?_)
  ·exact aj J<|ao J<|aj J<|ax J J<|aj J<|ao J<|aj J<|bD J J<|aj J<|aB J J (Eu hk.tail.tail e.dot)<|aA J<|ae J<|O<|av<|aZ J J al (⟨bi Value.bool (gX.2 ⟨λh=>⟨h9,eI,h⟩,λh=>h.2.2⟩),J⟩)
  exact ah J<|ah J<|ah J<|ah J<|ah J<|aA J<|ae J<|O<|av<|aZ J J al (⟨bi Value.bool (cJ λh=>eI h.2.1).symm,J⟩)
 exact ah J<|ah J<|ah J<|ah J<|ah J<|aA J<|Y J<|ah J<|ah J<|ah J<|ah J<|ah J<|aA J<|ae J<|O<|av<|aZ J J al (⟨bi Value.bool (cJ λh=>h9 h.1).symm,J⟩)
theorem Q4 (e:aW) (p:Option Addr × Nat) (hk:a_ L hP A c s):Fn prog 402 #[mt e p,.slice A s.length c] L (λv L'=>v=.tuple #[.int .i64 (Bm s e),.bool (pC s e)]/\L'=L):=by
 refine aH func402 J J J J ?_
 refine b_ hk.lay<|aa<|bS J J J λb2=>ae J<|ae J<|O<|aa<|Y J<|ab J J (gy J J)<|g_ b2<|aJ J J (Rv (cells b2 (fv e p) 49) (λx↦decide (FR e x)) 454 [.pointer (some ⟨b2,0,none⟩)] (λx q L1 _ _ mU↦YQ x mU) slk) ?_
 rintro _ _ ⟨⟨r,rfl,hr⟩,rfl⟩
 refine ae J<|O<|ar ?_
 rcases hr with ⟨h0,hn⟩ | ⟨i,x,rfl,hx,hw,hb⟩
 ·refine aa<|Y J<|ab J J (bU J J)<|fd 11 J h0<|O<|cg J<|aa<|ae J<|ae J<|O<|av<|aU ?_
  have hf:Jd s e=none:=UI hn
  exact eS J J J al (⟨by unfold Bm pC; rw [hf]; rfl,J⟩)
 refine aa<|Y J<|ab J J (bU J J)<|dx 11 J (by omega)<|O<|aT J<|az<|ai<|aa<|Y J<|Y J<|f6 J J J (J) ((bJ (A:=A) (c:=c))) (hx) λBj Bk Bl qm=> ?_
 have qn:=hx
 refine ab J J (cp J)<|ab J J (SG J qm qn (λ_=>J))<|ae J<|ae J<|O<|av ?_
 have hf:Jd s e=some x:=UH hx hw hb
 exact eS J J J al (⟨by unfold Bm pC; rw [hf]; rfl,J⟩)
theorem ab_ (name:ByteArray) (hk:a_ L hP A c s):Fn prog 344 #[.slice A s.length c,.string name] L (λv L'=>v=.int .i64 (sQ s name:Int)/\L'=L):=by
 refine aH func344 J J J J ?_
 refine b_ hk.lay<|bR.lens (bJ (A:=A) (c:=c)) λhl=> ?_
 simp only [cE] at hl
 refine aa<|ae J<|O<|aa<|ae J<|O<|ar<|aa<|Y J<|ab J J (bY J)<|Y J<|O<|aX<|cY (σ:=Nat) [1,8,9] (λi=>i<=s.length) (λi kv=>(10,.int .i64 (i:Int))::(5,.int .i64 (sQ (s.take i) name:Int))::kv) (λi=>sl hP A c s::L) (λi=>s.length - i) (0) J (dF _) (al) (dc J) λi hi=>aa<|ab J J (bU J J)<|O<|ar<|bz J (λgJ=> ?_) (λgJ=> ?_)
 ·refine az<|ai<|ar<|aX ?_
  obtain ⟨x,hx⟩:∃ x,s[i]? =some x:=⟨_,cj (by omega)⟩
  have Pq:sQ (s.take (i+1)) name=sQ (s.take i) name+if x.aK=name then 1 else 0:=(by unfold sQ; rw [ll hx,List.countP_append]; by_cases h:x.aK=name <;> simp [h])
  have vo:sQ (s.take i) name<=(s.take i).length:=List.countP_le_length
  rw [gq] at vo
  refine aa<|f6 J J J (J) ((bJ (A:=A) (c:=c))) (hx) λI' Ja Jb w_=> ?_
  have xa:=hx
  refine kh J J w_ xa (λ_=>J) λsg t7=> ?_
  simp only [dL,dm]
  refine bB J J λb7=>aE J J<|O<|aa<|ao J<|ax J J<|Y J<|ab J J (kI J J)<|O<|bz J (λgx=> ?_) (λgx=> ?_)
  ·refine aQ<|Y J<|ab J J (bE J J (by omega))<|br 19 (v':=.int .i64 (sQ (s.take (i+1)) name:Int)) J (by rw [Pq,if_pos gx]; rfl)<|ae J<|O<|bA<|ai<|aQ<|ab J J (bE J J (by omega))<|cz 20 J<|Y J<|O<|ai ?_
   exact ⟨i+1,(by omega),by omega,bO rfl⟩
  refine az<|bA<|ai<|aQ<|ab J J (bE J J (by omega))<|cz 20 J<|Y J<|O<|ai ?_
  rw [if_neg gx] at Pq
  have akh:sQ (s.take (i+1)) name=sQ (s.take i) name:=Pq
  rw [<- akh]
  exact ⟨i+1,(by omega),by omega,bO rfl⟩
 refine cw<|aY<|aY<|cu<|ai<|aa<|Y J<|ae J<|O<|av ?_
 rw [gQ (show s.length<=i by omega)]
 exact cI J J
theorem KF (W:HP) (want:aW->Bool) (f:FuncId) [li prog f] (lW:List Value) 
  (tY:∀ (e:aW) (q:Option Addr × Nat) (L1:List HP),e∈l->kj e->Fn prog f ([]++[mt e q]++lW).toArray (W::L1) (λv L'=>v=.bool (want e)/\L'=W::L1))
  (hk:a_ L bK A c l) (hl:l.length<=1466015503701):
  Fn prog 403 #[.slice A l.length c,.func (.func f) #[] lW.toArray] (W::L) (λv L'=>∃ A' c',v=.slice A' (l.filter want).length c'/\L'=aN bK 49 A' c' (l.filter want)::W::L):=by
 refine aH func403 J J J J ?_
 refine b_ (a_.lay hk.tail)<|aa<|ae J<|O<|aa<|ae J<|O<|ar<|aa<|Y J<|ab J J (bY J)<|Y J<|O<|aX<|cY (σ:=aj5) [1,8,9] (λg=>g.k<=l.length) (λg kv=>(10,.int .i64 (g.k:Int))::(5,.slice g.A ((l.take g.k).filter want).length g.c)::kv) (λg=>aN bK 49 g.A g.c ((l.take g.k).filter want)::W::sl bK A c l::L) (λg=>l.length - g.k) (⟨0,none,0⟩) J (dF _) (am.trans (am.swap _ _ _) (du bK 49 none _)) (dc J) ?_
 rintro ⟨i,X,cx⟩ eG
 dsimp only at eG ⊢
 refine aa<|ab J J (bU J J)<|O<|ar<|bz J (λgJ=> ?_) (λgJ=> ?_)
 ·refine az<|ai<|ar<|aX ?_
  obtain ⟨e,he⟩:∃ e,l[i]? =some e:=⟨_,cj (by omega)⟩
  have oR:=eA he
  have gW:(l.take (i+1)).filter want=(l.take i).filter want++(bif want e then [e] else []):=(by rw [ll he,nC]; cases hw:want e <;> simp [hw])
  have zt:((l.take i).filter want).length<=(l.take i).length:=kG _ _
  rw [gq] at zt
  refine aa<|f6 J J J (J) ((bJ (A:=A) (c:=c))) (he) λI' Ja Jb w_=> ?_
  have xa:=he
  refine kh J J w_ xa (λ_=>J) λsg t7=> ?_
  simp only [dL,dm]
  refine bB J J λb7=>aE J J<|O<|aa<|Y J<|bD J J ?_
  refine bX (show am _ (W::cells b7 (fv e sg) 49::sl (aI .i64) sg.1 sg.2 e.d7::aN bK 49 X cx ((l.take i).filter want)::sl bK A c l::L) from al)<|jx J J J (tY e sg _ oR t7) ?_
  rintro _ _ ⟨rfl,rfl⟩
  refine O<|gF J (λeI=> ?_) (λeI=> ?_)
  ·rw [eI] at gW
   simp only [cond_true] at gW
   refine aa<|ao J<|ax J J<|aJ J J (gz (a_.n slk) t7.2.2.1) ?_
   rintro _ _ ⟨DJ,DK,rfl,rfl⟩
   refine bF<|ao J<|aE J J<|O<|aQ<|Y J<|bD J J<|ef J J J J J J λPr=> ?_
   refine eh (k:=1) bK [e] (jZ (fI (u:=e) (DJ,DK) (lk slk) t7)) J (by decide)<|bF<|aV 23 (.slice (some ⟨Pr,0,none⟩) [e].length 1) J ?_
   refine fi J J J J J slk (by simp only [dO,ej]; omega) λzh zj=>ae J<|O<|bA<|ai<|aQ<|ab J J (bE J J (by omega))<|cz 25 J<|Y J<|O<|ai ?_
   rw [<- gW]
   exact ⟨⟨i+1,zh,zj⟩,(by simp only; omega),by simp only; omega,bO rfl⟩
  rw [eI] at gW
  simp only [cond_false,tE] at gW
  refine az<|bA<|ai<|aQ<|ab J J (bE J J (by omega))<|cz 25 J<|Y J<|O<|ai ?_
  rw [<- gW]
  exact ⟨⟨i+1,X,cx⟩,(by simp only; omega),by simp only; omega,bO rfl⟩
 refine cw<|aY<|aY<|cu<|ai<|aa<|Y J<|ae J<|O<|av ?_
 rw [gQ (show l.length<=i by omega)]
 exact aZ J J al (⟨X,cx,J,J⟩)
open Go Go.Proofs Go.Proofs.Tryz
abbrev Ou (bb:Nat) (S:Option Addr) (cs:Nat) (s:List dv):List HP:=[cells bb [.slice S s.length cs] 129,sl hP S cs s]
def vC (bb:Nat) (S:Option Addr) (cs:Nat) (s:List dv):HP:=sb (Ou bb S cs s)
variable{cs:Nat}{S:Option Addr}
theorem Rw (e:aW) (q:Option Addr × Nat):Fn prog 401 #[mt e q,.pointer (some ⟨bb,0,none⟩)] (vC bb S cs s::L) (λv L'=>v=.bool (pC s e)/\L'=vC bb S cs s::L):=by
 refine aH func401 J J J J ?_
 refine b_ (show am _ (cells bb [.slice S s.length cs] 129::sl hP S cs s::L) from mC) ?_
 refine aa<|bS J J J λb2=>ae J<|O<|aa<|bD J J<|ax J J<|aB J J (Q4 e q slk) ?_
 refine Y J<|ab J J (aO J J)<|ab J J (aO J J)<|ae J<|ae J<|O<|aa<|Y J<|ae J<|O<|av ?_
 refine aF.ay (show am _ (cells bb [.slice S s.length cs] 129::sl hP S cs s::L) from al) ?_
 refine aF.ay (show am _ (vC bb S cs s::L) from g9 (L:=Ou bb S cs s)) ?_
 exact cI J J
abbrev NM (b6 bb:Nat) (S:Option Addr) (cs:Nat) (s:List dv):List HP:=[cells b6 [.func (.func 401) #[] #[.pointer (some ⟨bb,0,none⟩)]] 327,vC bb S cs s]
def FS (b6 bb:Nat) (S:Option Addr) (cs:Nat) (s:List dv):HP:=sb (NM b6 bb S cs s)
variable{b6:Nat}
theorem aaN (e:aW) (q:Option Addr × Nat):Fn prog 404 #[mt e q,.pointer (some ⟨b6,0,none⟩)] (FS b6 bb S cs s::L) (λv L'=>v=.bool (!pC s e)/\L'=FS b6 bb S cs s::L):=by
 refine aH func404 J J J J ?_
 refine b_ (show am _ (cells b6 [.func (.func 401) #[] #[.pointer (some ⟨bb,0,none⟩)]] 327::vC bb S cs s::L) from mC) ?_
 refine aa<|bS J J J λb2=>ae J<|O<|aa<|ax J J<|bD J J ?_
 refine bX (show am _ (vC bb S cs s::cells b6 [.func (.func 401) #[] #[.pointer (some ⟨bb,0,none⟩)]] 327::cells b2 (fv e q) 49::L) from al) ?_
 refine jx J J J (Rw e q) ?_
 rintro _ _ ⟨rfl,rfl⟩
 refine ab J J (ff J)<|ae J<|O<|av ?_
 refine aF.ay (show am _ (cells b6 [.func (.func 401) #[] #[.pointer (some ⟨bb,0,none⟩)]] 327::vC bb S cs s::L) from al) ?_
 refine aF.ay (show am _ (FS b6 bb S cs s::L) from g9 (L:=NM b6 bb S cs s)) ?_
 exact cI J J
theorem ab' (hk:a_ L bK A c l) (hs:a_ L hP S cs s) (hl:l.length<=1466015503701):Fn prog 349 #[.slice A l.length c,.slice S s.length cs] L (λv L'=>∃ A1 c1 A2 c2,v=.tuple #[.slice A1 (E9 l s).length c1,.slice A2 (rT l s).length c2]/\L'=aN bK 49 A1 c1 (E9 l s)::aN bK 49 A2 c2 (rT l s)::L):=by
 refine aH func349 J J J J ?_
 refine b_ hk.lay ?_
 refine b_ (hs.tail).lay ?_
 refine aa<|bS J J J λb3=>ae J<|ae J<|O<|aa<|ab J J (gy J J)<|bB J J λb6=>aE J J<|O<|aa<|Y J<|ax J J ?_
 refine bX (show am _ (cells b3 [.slice S s.length cs] 129::sl hP S cs s::cells b6 [.func (.func 401) #[] #[.pointer (some ⟨b3,0,none⟩)]] 327::sl bK A c l::L) from al) ?_
 refine bX (show am _ (vC b3 S cs s::cells b6 [.func (.func 401) #[] #[.pointer (some ⟨b3,0,none⟩)]] 327::sl bK A c l::L) from g9 (L:=Ou b3 S cs s)) ?_
 refine aJ J J (KF (vC b3 S cs s) (λe↦pC s e) 401 [.pointer (some ⟨b3,0,none⟩)] (λe q L1 _ _↦Rw e q) slk hl) ?_
 rintro _ _ ⟨np,nq,rfl,rfl⟩
 rw [show l.filter (λe=>pC s e)=E9 l s from rfl]
 refine Y J<|ab J J (gy J J) ?_
 refine bX (show am _ (cells b6 [.func (.func 401) #[] #[.pointer (some ⟨b3,0,none⟩)]] 327::vC b3 S cs s::aN bK 49 np nq (E9 l s)::sl bK A c l::L) from al) ?_
 refine bX (show am _ (FS b6 b3 S cs s::aN bK 49 np nq (E9 l s)::sl bK A c l::L) from g9 (L:=NM b6 b3 S cs s)) ?_
 refine aJ J J (KF (FS b6 b3 S cs s) (λe↦ !pC s e) 404 [.pointer (some ⟨b6,0,none⟩)] (λe q L1 _ _↦aaN e q) slk hl) ?_
 rintro _ _ ⟨lF,kV,rfl,rfl⟩
 rw [show l.filter (λe=> !pC s e)=rT l s from rfl]
 exact ae J<|ae J<|O<|av<|eS J J J al (⟨np,nq,lF,kV,J,J⟩)
theorem adJ {e:aW} (h:e∈rT l s):e∈l:=(ke.1 h).1
theorem adK (l:List aW) (s:List dv):(rT l s).length<=l.length:=kG _ _
variable{ep:Int}
theorem adL {name:ByteArray} {e:aW} (h:e∈sU l s name ep):e∈l:=(ke.1 h).1
theorem adM (l:List aW) (s:List dv) (name:ByteArray) (ep:Int):(sU l s name ep).length<=l.length:=kG _ _
theorem adN (name:ByteArray) (hk:a_ L bK A c l) (hs:a_ L hP S cs s) (hl:l.length<=1466015503701) (hq:∀ e∈l,0<=e.eZ/\e.eZ<=1000):Fn prog 251 #[.slice A l.length c,.slice S s.length cs,.string name] L (λv L'=>∃ A' c' xs,v=.slice A' xs.length c'/\L'=aN kP 70 A' c' xs::L/\l9 (rT l s) name xs):=by
 have xh:=adK l s
 refine aH func251 J J J J<|aa<|ae J<|O<|aa<|Y J<|Y J<|aJ J J (ab' hk hs (by omega)) ?_
 rintro _ _ ⟨A1,c1,A2,c2,rfl,rfl⟩
 refine bX (show am _ (aN bK 49 A2 c2 (rT l s)::L) from al) ?_
 refine bF<|Y J<|ab J J (aO J J)<|ab J J (aO J J)<|ae J<|ae J<|O<|aa<|Y J<|Y J<|aJ J J (R3 name slk (by omega) (λe he↦hq e (adJ he))) ?_
 rintro _ _ ⟨n7,mR,xs,rfl,rfl,hx,kY⟩
 exact ae J<|O<|av<|aZ J J al (⟨n7,mR,xs,J,J,hx⟩)
abbrev FT (b5 b6 b7:Nat) (S:Option Addr) (cs:Nat) (s:List dv) (name:ByteArray) (ep:Int):List HP:=[cells b5 [.slice S s.length cs] 129,cells b6 [.string name] 9,cells b7 [.int .i64 ep] 3,sl hP S cs s]
def zx (b5 b6 b7:Nat) (S:Option Addr) (cs:Nat) (s:List dv) (name:ByteArray) (ep:Int):HP:=sb (FT b5 b6 b7 S cs s name ep)
theorem aaO {b5 b7:Nat} {name:ByteArray} (e:aW) (q:Option Addr × Nat):Fn prog 462 #[mt e q,.pointer (some ⟨b5,0,none⟩),.pointer (some ⟨b7,0,none⟩),.pointer (some ⟨b6,0,none⟩)] (zx b5 b6 b7 S cs s name ep::L) (λv L'=>v=.bool (pC s e && decide (Bm s e=ep) && decide (e.aK=name))/\L'=zx b5 b6 b7 S cs s name ep::L):=by
 refine aH func462 J J J J ?_
 refine b_ (show am _ (cells b5 [.slice S s.length cs] 129::cells b6 [.string name] 9::cells b7 [.int .i64 ep] 3::sl hP S cs s::L) from mC) ?_
 refine aa<|bS J J J λb4=>ae J<|O<|aa<|bD J J<|ax J J<|aB J J (Q4 e q slk) ?_
 refine Y J<|ab J J (aO J J)<|ab J J (aO J J)<|ae J<|ae J<|O ?_
 cases hb:pC s e
 ·refine aa<|Y J<|Y J<|br 15 (v':=.bool false) J (by simp)<|ah J<|ah J<|ah J<|aA J<|Y J<|ah J<|ah J<|ah J<|ah J<|aA J<|ae J<|O<|av ?_
  refine aF.ay (show am _ (cells b5 [.slice S s.length cs] 129::cells b6 [.string name] 9::cells b7 [.int .i64 ep] 3::sl hP S cs s::L) from al) ?_
  refine aF.ay (show am _ (zx b5 b6 b7 S cs s name ep::L) from g9 (L:=FT b5 b6 b7 S cs s name ep)) ?_
  exact cI J J
 refine aa<|Y J<|Y J<|br 15 (v':=.bool true) J (by simp)<|aj J<|Y J<|aj J<|ax J J<|aj J<|ab J J (ce J J)<|aA J<|Y J<|dl 20 J (λjU=> ?_) (λjU=> ?_)
 ·refine aj J<|ao J<|aj J<|ax J J<|aj J<|ax J J<|aj J<|ab J J (kI J J)<|aA J<|ae J<|O<|av ?_
  refine aF.ay (show am _ (cells b5 [.slice S s.length cs] 129::cells b6 [.string name] 9::cells b7 [.int .i64 ep] 3::sl hP S cs s::L) from al) ?_
  refine aF.ay (show am _ (zx b5 b6 b7 S cs s name ep::L) from g9 (L:=FT b5 b6 b7 S cs s name ep)) ?_
  exact aZ J J al (⟨bi Value.bool (by rw [dV jU]; simp),J⟩)
 refine ah J<|ah J<|ah J<|ah J<|aA J<|ae J<|O<|av ?_
 refine aF.ay (show am _ (cells b5 [.slice S s.length cs] 129::cells b6 [.string name] 9::cells b7 [.int .i64 ep] 3::sl hP S cs s::L) from al) ?_
 refine aF.ay (show am _ (zx b5 b6 b7 S cs s name ep::L) from g9 (L:=FT b5 b6 b7 S cs s name ep)) ?_
 exact aZ J J al (⟨bi Value.bool (by rw [cJ jU]; simp),J⟩)
theorem aca (name:ByteArray) (ep:Int) (hk:a_ L bK A c l) (hs:a_ L hP S cs s) (hl:l.length<=1466015503701) (hq:∀ e∈l,0<=e.eZ/\e.eZ<=1000):Fn prog 408 #[.slice A l.length c,.slice S s.length cs,.string name,.int .i64 ep] L (λv L'=>∃ A' c' xs,v=.slice A' xs.length c'/\L'=aN kP 70 A' c' xs::L/\l9 (sU l s name ep) name xs):=by
 have xh:=adM l s name ep
 refine aH func408 J J J J ?_
 refine b_ hk.lay ?_
 refine b_ (hs.tail).lay ?_
 refine aa<|bS J J J λb5=>bS J J J λb6=>bS J J J λb7=>ae J<|O<|bW (cells b6 [.string name] 9::[]) [] [0,2,6,5,9,10] (by kernel_rfl) al<|aq J J<|ak J J (gy J J)<|aG J J J<|an J ?_
 refine bX (show am _ (cells b5 [.slice S s.length cs] 129::cells b6 [.string name] 9::cells b7 [.int .i64 ep] 3::sl hP S cs s::sl bK A c l::L) from al) ?_
 refine bX (show am _ (zx b5 b6 b7 S cs s name ep::sl bK A c l::L) from g9 (L:=FT b5 b6 b7 S cs s name ep)) ?_
 refine aJ J J (KF (zx b5 b6 b7 S cs s name ep) (λe↦pC s e && decide (Bm s e=ep) && decide (e.aK=name)) 462 [.pointer (some ⟨b5,0,none⟩),.pointer (some ⟨b7,0,none⟩),.pointer (some ⟨b6,0,none⟩)] (λe q L1 _ _↦aaO e q) slk (by omega)) ?_
 rintro _ _ ⟨kZ,k9,rfl,rfl⟩
 rw [show l.filter (λe=>pC s e && decide (Bm s e=ep) && decide (e.aK=name))=sU l s name ep from rfl]
 refine bF ?_
 refine bX (show am _ (zx b5 b6 b7 S cs s name ep::sl bK kZ k9 (sU l s name ep)::L) from al) ?_
 refine bX (show am _ (cells b5 [.slice S s.length cs] 129::cells b6 [.string name] 9::cells b7 [.int .i64 ep] 3::sl hP S cs s::sl bK kZ k9 (sU l s name ep)::L) from mC) ?_
 refine au<|an J<|aJ J J (R3 name slk (by omega) (λe he↦hq e (adL he))) ?_
 rintro _ _ ⟨lF,kV,xs,rfl,rfl,hx,kY⟩
 exact au<|ak J J (bT J)<|aR<|av<|aZ J J al (⟨lF,kV,xs,J,J,hx⟩)
theorem Hx {B:Option Addr} {d:Nat} {a b:List Int} (ha:bR L (aI .i64) A c a) (hb:bR L (aI .i64) B d b):Fn prog 313 #[.slice A a.length c,.slice B b.length d] L (λv L'=>v=.bool (mb a b)/\L'=L):=by
 refine aH func313 J J J J<|ha.lens λza=>hb.lens λn3=> ?_
 simp only [cE] at za n3
 refine aa<|ae J<|O<|ar<|aa<|Y J<|ab J J (bY J)<|Y J<|ab J J (bY J)<|ab J J (Df J J)<|br 10 (v':=.int .i64 ((max a.length b.length:Nat):Int)) J (by congr 1; omega)<|Y J<|O<|aX<|cY (σ:=Nat) [0,1,10] (λi=>i<=max a.length b.length/\∀ j:Nat,j < i->l7 a (j:Int)<=l7 b (j:Int)) (λi kv=>(11,.int .i64 (i:Int))::kv) (λi=>L) (λi=>max a.length b.length - i) (0) J (⟨dF _,by omega⟩) (al) (dc J) λi hi=>aa<|ab J J (bU J J)<|O<|ar<|bz J (λf2=> ?_) (λf2=> ?_)
 ·refine az<|ai<|ar<|aX<|aa<|Y J<|ae J<|O<|aa<|Y J<|Y J<|aB J J (yf ha (i:Int)) ?_
  refine Y J<|Y J<|aB J J (yf hb (i:Int)) ?_
  refine ab J J (eE J J)<|O<|bz J (λjU=> ?_) (λjU=> ?_)
  ·refine aa<|ae J<|O<|av<|db<|aU<|aU<|db<|aU ?_
   exact aZ J J al (⟨bi Value.bool (by unfold mb; rw [List.all_eq_false.2 ⟨i,sC.2 (by omega),by simp; omega⟩]),J⟩)
  refine az<|bA<|ai<|aQ<|ab J J (bE J J (by omega))<|cz 21 J<|Y J<|O<|ai ?_
  exact ⟨i+1,⟨by omega,λj hj=>by by_cases h:j=i; (rw [h]; omega); exact hi.2 j (by omega)⟩,by omega,bO rfl⟩
 exact cw<|aY<|aY<|cu<|ai<|aa<|ae J<|O<|av<|aZ J J al (⟨bi Value.bool (by unfold mb; rw [sB.2 λj hj=>dV (hi.2 j (by have:=sC.1 hj; omega))]),J⟩)
abbrev Je (b6 b7:Nat) (name:ByteArray) (ep:Int):List HP:=[cells b6 [.string name] 9,cells b7 [.int .i64 ep] 3]
def DQ (b6 b7:Nat) (name:ByteArray) (ep:Int):HP:=sb (Je b6 b7 name ep)
theorem aaP {b7:Nat} {name:ByteArray} (x:dv) (q:Option Addr × Nat):Fn prog 463 #[C8 x q,.pointer (some ⟨b6,0,none⟩),.pointer (some ⟨b7,0,none⟩)] (DQ b6 b7 name ep::L) (λv L'=>v=.bool (decide (x.aK=name) && decide (x.eO=ep))/\L'=DQ b6 b7 name ep::L):=by
 refine aH func463 J J J J ?_
 refine b_ (show am _ (cells b6 [.string name] 9::cells b7 [.int .i64 ep] 3::L) from mC) ?_
 refine aa<|bS J J J λb3=>ae J<|O<|aa<|ao J<|ax J J<|ax J J<|ab J J (kI J J)<|Y J<|dl 9 J (λh9=> ?_) (λh9=> ?_)
 ·refine aj J<|ao J<|aj J<|ax J J<|aj J<|ax J J<|aj J<|ab J J (ce J J)<|aA J<|ae J<|O<|av ?_
  refine aF.ay (show am _ (cells b6 [.string name] 9::cells b7 [.int .i64 ep] 3::L) from al) ?_
  refine aF.ay (show am _ (DQ b6 b7 name ep::L) from g9 (L:=Je b6 b7 name ep)) ?_
  exact aZ J J al (⟨bi Value.bool (by rw [dV h9]; simp),J⟩)
 refine ah J<|ah J<|ah J<|ah J<|aA J<|ae J<|O<|av ?_
 refine aF.ay (show am _ (cells b6 [.string name] 9::cells b7 [.int .i64 ep] 3::L) from al) ?_
 refine aF.ay (show am _ (DQ b6 b7 name ep::L) from g9 (L:=Je b6 b7 name ep)) ?_
 exact aZ J J al (⟨bi Value.bool (by rw [cJ h9]; simp),J⟩)
variable{ap:List Int}
theorem acb (name:ByteArray) (ep:Int) (ha:bR L (aI .i64) A c ap) (hs:a_ L hP S cs s):Fn prog 409 #[.slice A ap.length c,.slice S s.length cs,.string name,.int .i64 ep] L (λv L'=>v=.bool (Au ap s name ep)/\L'=L):=by
 refine aH func409 J J J J ?_
 refine b_ hs.lay ?_
 refine aa<|bS J J J λb6=>bS J J J λb7=>ae J<|O<|aa<|Y J<|ab J J (gy J J) ?_
 refine bX (show am _ (cells b6 [.string name] 9::cells b7 [.int .i64 ep] 3::sl hP S cs s::L) from al) ?_
 refine bX (show am _ (DQ b6 b7 name ep::sl hP S cs s::L) from g9 (L:=Je b6 b7 name ep)) ?_
 refine aJ J J (Rv (DQ b6 b7 name ep) (λx↦decide (x.aK=name) && decide (x.eO=ep)) 463 [.pointer (some ⟨b6,0,none⟩),.pointer (some ⟨b7,0,none⟩)] (λx q L1 _ _ _↦aaP x q) slk) ?_
 rintro _ _ ⟨⟨r,rfl,hr⟩,rfl⟩
 refine ae J<|O ?_
 rcases hr with ⟨h0,hn⟩ | ⟨i,x,rfl,hx,hw,hb⟩
 ·refine aa<|Y J<|ab J J (eV J J)<|dx 14 J (by omega)<|Y J<|ah J<|ah J<|ah J<|ah J<|ah J<|ah J<|ah J<|aA J<|ae J<|O<|av ?_
  have hf:=UI hn
  exact aZ J J al (⟨bi Value.bool (by unfold Au; rw [hf]),J⟩)
 refine aa<|Y J<|ab J J (eV J J)<|fd 14 J (by omega)<|Y J<|aj J<|Y J<|aj J<|Y J<|aj J<|f6 J J J (J) ((bJ (A:=S) (c:=cs))) (hx) λaj3 aj4 Om On=> ?_
 have Oo:=hx
 refine aj J<|ab J J (cp J)<|aj J<|KU J J On Oo (λ_=>J) λp20 al4=> ?_
 simp only [dL,dm]
 refine aj J<|Y J<|aj J<|aB J J (Hx (a_.n slk) ha.tail.tail.tail) ?_
 refine aA J<|ae J<|O<|av ?_
 have hf:=UH (p:=λx:dv=>decide (x.aK=name) && decide (x.eO=ep)) hx hw hb
 exact aZ J J al (⟨bi Value.bool (by unfold Au; rw [hf]),J⟩)
open Go Go.Proofs Go.Proofs.Tryz
abbrev Ov:=Option Addr × Nat × Nat
abbrev Wf (h:Ov):List Value:=[.slice h.1 h.2.1 h.2.2]
def pD:bZ Ov:=⟨1,λ_ a cs=>cs=Wf a,λ_ h=>h,λh=>by rw [h]; rfl,λh v hv=>by rw [h] at hv; simp at hv; subst hv; rfl⟩
instance:oJ pD Wf:=⟨λ_ _ _ h=>h⟩
abbrev mi:=(Option Addr × Nat) × List aW
abbrev pE (q:List mi):List Ov:=q.map λx=>(x.1.1,x.2.length,x.1.2)
abbrev FU (q:List mi):List HP:=q.map λx=>aN bK 49 x.1.1 x.1.2 x.2
def xB (q:List mi):HP:=c_ (FU q)
def Aw (e:aW):Prop:=kj e/\(0<=e.eZ/\e.eZ<=1000)/\(0<=e.dot.1/\e.dot.1 < 7)
structure vD (by_:List (List aW)) (ap:List Int):Prop where
 len:by_.length=7
 BS:vg ap
 eU:by_.flatten.length<=60000
 ok:∀ es∈by_,∀ e∈es,Aw e
theorem Mz {es:List aW} {l:List (List aW)} (h:es∈l):es.length<=l.flatten.length:=(List.sublist_flatten_of_mem h).length_le
structure vE where
 A:Option Addr
 c:Nat
 q:List mi
 V:Option Addr
 cv:Nat
 bw:Nat
abbrev Gw (by_:List (List aW)) (ap:List Int) (p:vE):Prop:=vD by_ ap/\p.q.map Prod.snd=by_
abbrev Gx (ap:List Int) (p:vE):List Value:=[.slice p.A 7 p.c,.slice p.V ap.length p.cv,.map (some p.bw)]
abbrev Ps (b:Nat) (ap:List Int) (p:vE):List HP:=[cells b (Gx ap p) 330,aN pD 42 p.A p.c (pE p.q),aN (aI .i64) 3 p.V p.cv ap,cy gB bK true p.bw [],xB p.q]
def og (b:Nat) (by_:List (List aW)) (ap:List Int):HP:=n_ (Ps b ap) (Gw by_ ap)
variable{by_:List (List aW)}
instance:jz (og b by_ ap::L) b (og b by_ ap) L:=⟨am.refl _⟩
abbrev ns (b:Nat) (ap:List Int) (p:vE) (L:List HP):List HP:=cells b (Gx ap p) 330::aN pD 42 p.A p.c (pE p.q)::aN (aI .i64) 3 p.V p.cv ap::cy gB bK true p.bw []::xB p.q::L
variable{L0:List HP}
theorem Bn {c:Code} (h:∀ p,Gw by_ ap p->T r n P c ⟨D,E,ns b ap p L⟩ Q):T r n P c ⟨D,E,og b by_ ap::L⟩ Q:=sT h
theorem VG {c:Code} (h:vD by_ ap->T r n P c ⟨D,E,og b by_ ap::L⟩ Q):T r n P c ⟨D,E,og b by_ ap::L⟩ Q:=λW a w hh=>by
 obtain ⟨x,h1,h2⟩:=tL hh.2
 exact h h1.1 W a w hh
variable{q:List mi}
theorem TW {V:Option Addr} {cv bw:Nat} {L3 L4 L5:List HP} (b:Nat) (by_:List (List aW)) (ap:List Int) [h1:fL L b [.slice A 7 c,.slice V ap.length cv,.map (some bw)] 330 L1] [h2:cR L1 (aN pD 42 A c (pE q)) L2] [h3:cR L2 (aN (aI .i64) 3 V cv ap) L3] [h4:iI L3 bw gT aW gB bK true [] L4] [h5:cR L4 (xB q) L5] (hi:vD by_ ap) (hq:q.map Prod.snd=by_):am L (og b by_ ap::L5):=
 (h1.g.trans (am.cons _ (h2.g.trans (am.cons _ (h3.g.trans (am.cons _ (h4.g.trans (am.cons _ h5.g)))))))).trans (nG (F:=Ps b ap) (φ:=Gw by_ ap) ⟨A,c,q,V,cv,bw⟩ ⟨hi,hq⟩)
theorem wu {p:vE} (hi:Gw by_ ap p):am (ns b ap p L) (og b by_ ap::L):=nG (F:=Ps b ap) (φ:=Gw by_ ap) p hi
theorem NN {x:mi} (h:q[i]? =some x):bR (xB q::L) bK x.1.1 x.1.2 x.2:=
 bR.dT (wh (p:=aN bK 49 x.1.1 x.1.2 x.2) (by rw [e_,h]; rfl)) gp
theorem wy {x:mi} (h:q[i]? =some x):(pE q)[i]? =some (x.1.1,x.2.length,x.1.2):=by rw [e_,h]; rfl
theorem NO (hi:vD by_ ap) (hq:q.map Prod.snd=by_):q.length=7:=by rw [<- hi.len, <- hq,gY]
theorem Ow {x:mi} (hq:q.map Prod.snd=by_) (h:q[i]? =some x):by_[i]? =some x.2:=by rw [<- hq,e_,h]; rfl
theorem HE:Fn prog 216 #[.pointer (some ⟨b,0,none⟩)] (og b by_ ap::L) (λv L'=>v=.bool true/\L'=og b by_ ap::L):=by
 exact aH func216 J J J J<|Bn λp hi=>aa<|ae J<|O<|aa<|Y J<|ab J J (f8 J J (dh.eJ))<|br 4 (v':=.bool true) J (by simp)<|Y J<|aj J<|Y J<|aj J<|aS J<|aj J<|ao J<|aj J<|ax J J<|aj J<|ab J J (f8 J J (dh.map_nil))<|br 10 (v':=.bool true) J (by simp)<|aA J<|ae J<|O<|av<|aF.ay (wu hi)<|cI J J
theorem adO {p:vE}:Fn prog 216 #[.pointer (some ⟨b,0,none⟩)] (cells b (Gx ap p) 330::L) (λv L'=>v=.bool true/\L'=cells b (Gx ap p) 330::L):=by
 exact aH func216 J J J J<|aa<|ae J<|O<|aa<|Y J<|ab J J (f8 J J (dh.eJ))<|br 4 (v':=.bool true) J (by simp)<|Y J<|aj J<|Y J<|aj J<|aS J<|aj J<|ao J<|aj J<|ax J J<|aj J<|ab J J (f8 J J (dh.map_nil))<|br 10 (v':=.bool true) J (by simp)<|aA J<|ae J<|O<|av<|cI J J
theorem QC:Fn prog 245 #[.pointer (some ⟨b,0,none⟩)] (og b by_ ap::L) (λv L'=>∃ A c,v=.slice A (dK ap).length c/\L'=aN (aI .i64) 3 A c (dK ap)::og b by_ ap::L):=by
 refine aH func245 J J J J<|aa<|ae J<|O<|ar<|aa<|Y J<|aB J J (HE)<|aV 4 (.bool true) J<|ab J J (df J)<|O<|aT J<|az<|ai<|Bn λp hi=> ?_
 have hm:=hi.1.BS.1
 refine aa<|Y J<|aS J<|ao J<|ax J J<|aJ J J (Q1 (bR.tail (bR.tail gp)) (by omega)) ?_
 rintro _ _ ⟨np,nq,rfl,rfl⟩
 exact ae J<|O<|av<|aF.ay (am.cons _ (wu hi))<|aZ J J al (⟨np,nq,J,J⟩)
theorem Rx {p:vE} (hm:vg ap):Fn prog 336 #[.pointer (some ⟨b,0,none⟩)] (ns b ap p L) (λv L'=>v=.bool (decide (65536<=(nl ap:Int)))/\L'=ns b ap p L):=by
 exact aH func336 J J J J<|aa<|ae J<|O<|aa<|Y J<|aS J<|ao J<|ax J J<|aB J J (Q2 (bR.tail (bR.tail gp)) hm)<|ab J J (eV J J)<|ae J<|O<|av<|cI J J
theorem Ht (e:aW) (p:Option Addr × Nat) (hk:bR L (aI .i64) p.1 p.2 e.d7) (ho:kj e):Fn prog 217 #[mt e p] L (λr L'=>∃ q,r=mt e q/\L'=aN (aI .i64) 3 q.1 q.2 e.d7::L):=by
 refine aH func217 J J J J<|aa<|bS J J J λb1=>bB J J λb2=>O<|aa<|ao J<|ax J J<|aJ J J (gz hk.tail.tail (by have:=ho.2.2.1; omega)) ?_
 rintro _ _ ⟨A5,c5,rfl,rfl⟩
 exact ao J<|aE J J<|O<|aa<|bD J J<|aE J J<|O<|av<|eK (.inl J) J (bf.agg J J) bu.g (⟨(A5,c5),J,J⟩)
theorem R6:Fn prog 110 #[.pointer (some ⟨b,0,none⟩)] L (λv L'=>∃ bl,v=.func (.func 215) #[] #[.pointer (some ⟨bl,0,none⟩)]/\L'=cells bl [.pointer (some ⟨b,0,none⟩)] 128::L):=by
 exact aH func110 J J J J<|aa<|bS J J J λb1=>ae J<|O<|aa<|ab J J (gy J J)<|ae J<|O<|av<|aZ J J al (⟨b1,J,J⟩)
abbrev zy:=aW × (Option Addr × Nat)
abbrev VH (x:zy):List Value:=[mt x.1 x.2]
def Wg (x:zy) (L:List HP):Prop:=Aw x.1/\a_ L (aI .i64) x.2.1 x.2.2 x.1.d7
def W3 (by_:List (List aW)) (st:Bool) (xs:List zy):Prop:=(st=false->xs.map Prod.fst=by_.flatten)/\xs.map Prod.fst <+:by_.flatten
theorem QD {α:Type} {l:List (List α)} {x:List α} (h:l[i]? =some x):(l.take (i+1)).flatten=(l.take i).flatten++x:=by rw [qQ h]; simp
theorem S0 {α:Type} {l:List (List α)} {x:List α} (h:l[i]? =some x) (j:Nat):(l.take i).flatten++x.take j <+:l.flatten:=by
 have h1:(l.take (i+1)).flatten <+:l.flatten:=⟨(l.drop (i+1)).flatten,by rw [<- List.flatten_append,qE]⟩
 refine List.IsPrefix.trans ?_ h1
 rw [QD h]
 exact ⟨x.drop j,by rw [fh,qE]⟩
structure VI (τ:Type) where
 i:Nat
 xs:List zy
 s:τ
variable{bl:Nat}
theorem aaQ 
  {τ:Type} {ly:Nat} {C:τ->HP} {step:τ->zy->τ->Prop} {stop:τ->Bool} {ek:τ->Nat} {s0:τ} {Lx:List HP} (h0:stop s0=false) (n6:ek s0=0) (ip:∀ s x s',step s x s'->ek s'=ek s+1) (hy:EY prog ly C VH Wg step stop ek 60000):
  Fn prog 215 #[.func (.yield ly) #[] #[],.pointer (some ⟨bl,0,none⟩)] (fP ly (C s0)::og b by_ ap::cells bl [.pointer (some ⟨b,0,none⟩)] 128::Lx)
   (λv L'=>∃ xs s',W3 by_ (stop s') xs/\gH step stop s0 xs s'/\L'=fP ly (C s')::og b by_ ap::cells bl [.pointer (some ⟨b,0,none⟩)] 128::Lx):=by
 refine aH func215 J J J J<|ar<|aa<|ax J J<|aP b<|aB J J (HE)<|aV 8 (.bool true) J<|ab J J (df J)<|O<|aT J<|az<|ai<|cQ b<|Bn λp hi=> ?_
 have DR:=NO hi.1 hi.2
 have ia:=hi.1.eU
 refine aa<|ax J J<|aS J<|ao J<|ax J J<|ab J J (bY J)<|Y J<|O<|aX<|cY (σ:=VI τ) [0,13,14] (λg=>g.i<=7/\g.xs.map Prod.fst=(by_.take g.i).flatten/\gH step stop s0 g.xs g.s/\stop g.s=false/\ek g.s=g.xs.length) (λg kv=>(15,.int .i64 (g.i:Int))::kv) (λg=>fP ly (C g.s)::ns b ap p (cells bl [.pointer (some ⟨b,0,none⟩)] 128::Lx)) (λg=>7 - g.i) (⟨0,[],s0⟩) J (⟨dF _,J,.nil _,h0,n6⟩) (al) (dc J) ?_
 rintro ⟨i,xs,s⟩ ⟨JV,hx,hr,hs,hc⟩
 dsimp only at JV hx hr hs hc ⊢
 refine aa<|ab J J (bU J J)<|O<|ar<|bz J (λeI=> ?_) (λeI=> ?_)
 ·refine az<|ai<|ar<|aX ?_
  obtain ⟨x,kC⟩:∃ x,p.q[i]? =some x:=⟨_,cj (by omega)⟩
  have ic:=Ow hi.2 kC
  have W4:=hi.1.ok x.2 (eA ic)
  have kY:=Mz (eA ic)
  refine aa<|f6 J J J (by simp [DR]) (bR.dT bu.g (gp (R:=pD) (t:=42) (A:=p.A) (c:=p.c) (xs:=pE p.q) (L:=[]))) (wy kC) λal5 al6 al7 aki=> ?_
  have akj:=wy kC
  refine ab J J (gi J aki akj J)<|ae J<|O<|aa<|Y J<|ab J J (bY J)<|Y J<|O<|aX<|cY (σ:=VI τ) [0,13,14,15,19,20] (λg=>g.i<=x.2.length/\g.xs.map Prod.fst=(by_.take i).flatten++x.2.take g.i/\gH step stop s0 g.xs g.s/\stop g.s=false/\ek g.s=g.xs.length) (λg kv=>(21,.int .i64 (g.i:Int))::kv) (λg=>fP ly (C g.s)::ns b ap p (cells bl [.pointer (some ⟨b,0,none⟩)] 128::Lx)) (λg=>x.2.length - g.i) (⟨0,xs,s⟩) J (⟨dF _,by simp [hx],hr,hs,hc⟩) (al) (dc J) ?_
  rintro ⟨j,ys,s1⟩ ⟨hj,Gy,Gz,dt,lH⟩
  dsimp only at hj Gy Gz dt lH ⊢
  refine aa<|ab J J (bU J J)<|O<|ar<|bz J (λiT=> ?_) (λiT=> ?_)
  ·refine az<|ai<|ar<|aX ?_
   obtain ⟨e,he⟩:∃ e,x.2[j]? =some e:=⟨_,cj (by omega)⟩
   have ur:=W4 e (eA he)
   have WX:ys.length < 60000:=by have h9:=bi List.length Gy; have h8:=(S0 ic (j+1)).length_le; rw [qQ he] at h8; simp only [gY,eQ,Ce] at h9 h8; omega
   refine aa<|f6 J J J (J) (bR.dT bu.g (NN (L:=[]) kC)) (he) λakk akl akm Ox=> ?_
   have Oy:=he
   refine kh J J Ox Oy (λ_=>J) λW5 Wh=> ?_
   simp only [dL,dm]
   refine bB J J λb6=>aE J J<|O<|aa<|Y J<|bD J J<|aJ J J (Ht e W5 (a_.n slk) Wh) ?_
   rintro _ _ ⟨Pt,rfl,rfl⟩
   refine bF<|aP ly<|yj J J J (hy s1 (e,Pt) _ dt ⟨ur,slk⟩ (by omega)) ?_
   rintro _ _ ⟨s2,cK,rfl,rfl⟩
   refine ab J J (ff J)<|O ?_
   have DF:(ys++[((e,Pt):zy)]).map Prod.fst=(by_.take i).flatten++x.2.take (j+1):=by rw [kp,Gy,qQ he,fh]; rfl
   refine gF J (λkX=> ?_) (λkX=> ?_)
   ·have eF:stop s2=true:=by simpa using kX
    refine av<|db<|aU<|aU<|db<|db<|aU<|aU<|db<|aF.ay (show am _ (fP ly (C s2)::og b by_ ap::cells bl [.pointer (some ⟨b,0,none⟩)] 128::Lx) from (bu.g (L':=fP ly (C s2)::ns b ap p (cells bl [.pointer (some ⟨b,0,none⟩)] 128::Lx))).trans (am.cons _ (wu hi))) ?_
    exact lj (.inl rfl) rfl bu.g (⟨_,s2,⟨λh=>(by rw [eF] at h; cases h),by rw [DF]; exact S0 ic _⟩,Gz.snoc h0 dt cK,rfl⟩)
   have eF:stop s2=false:=by simpa using kX
   refine az<|bA<|ai<|aQ<|ab J J (bE J J (by omega))<|cz 30 J<|Y J<|O<|ai ?_
   exact ⟨⟨j+1,ys++[(e,Pt)],s2⟩,⟨by dsimp only; omega,DF,Gz.snoc h0 dt cK,eF,by dsimp only; rw [ip _ _ _ cK,lH]; simp⟩,by dsimp only; omega,bO rfl⟩
  refine cw<|aY<|aY<|cu<|bA<|ai<|aQ<|ab J J (bE J J (by omega))<|cz 31 J<|Y J<|O<|ai ?_
  exact ⟨⟨i+1,ys,s1⟩,⟨by dsimp only; omega,by dsimp only; rw [Gy,gQ (l:=x.2) (i:=j) (by omega),QD ic],Gz,dt,lH⟩,by dsimp only; omega,bO rfl⟩
 refine cw<|aY<|aY<|cu ?_
 have eH:xs.map Prod.fst=by_.flatten:=by rw [hx,gQ (by rw [hi.1.len]; omega)]
 refine aF.ay (show am _ (fP ly (C s)::og b by_ ap::cells bl [.pointer (some ⟨b,0,none⟩)] 128::Lx) from am.cons _ (wu hi)) ?_
 exact lj (.inr rfl) rfl bu.g (⟨_,s,⟨λ_=>eH,by rw [eH]; exact List.prefix_rfl⟩,hr,rfl⟩)
theorem R7:IQ prog (.func (.func 215) #[] #[.pointer (some ⟨bl,0,none⟩)]) VH Wg 60000 [og b by_ ap,cells bl [.pointer (some ⟨b,0,none⟩)] 128] (W3 by_):=
 ⟨_,[],[.pointer (some ⟨bl,0,none⟩)],rfl,inferInstance,λτ ly C step stop ek s0 Lx h0 hc ip hy=>(aaQ h0 hc ip hy).rM λv L' ⟨xs,s',a1,a2,a3⟩=>⟨xs,s',a1,a2,a3⟩⟩
open Go Go.Proofs Go.Proofs.Tryz
variable{L3:List HP}
variable{l:List Value}
theorem Nh (b bd:Nat) (A:Option Addr) (c:Nat) {q:HP} {t':TypeId} {xs:List wZ} [h1:jz L bd q L1] [h2:md L1 A c wZ jv t xs L2] [h3:fL L2 b l t' L3] (h:TL r n P ops rest ⟨D,E,cells b l t'::aN jv t A c xs::q::L3⟩ K):TL r n P ops rest ⟨D,E,L⟩ K:=
 bX (h1.g.trans ((am.cons q h2.g).trans ((am.cons q (am.cons _ h3.g)).trans ((am.mH 2 _).trans (am.cons _ (am.swap _ _ _)))))) h
theorem agS {c:Code} {f:wZ} (h:l=t6 f->NK f->T r n P c ⟨D,E,L⟩ Q):T r n P c ⟨D,E,is jv f l::L⟩ Q:=
 yu (bV.wC (p:=is jv f l) (φ:=λ_=>l=t6 f/\NK f) λM k h=>h) (λ_ h=>h) λhl=>b_ (am.drop _ _) (h hl.1 hl.2)
theorem akn {R:bZ α} {xs:List α} {te:TypeId} (g:Nat) (x:α) [hf:wF L g α R te c xs i l L0] (hk:bV L0 (λM=>R.fO M x l)):am L (aN R te (some ⟨g,0,none⟩) c (xs.set i x)::L0):=hf.g.trans (MP x hk)
variable{z:Nat}
theorem agT:jE 0 z=[]:=rfl
theorem TX {e e':dQ} (h:e'.name=e.name):jt [e] e'=[e']:=by
 have:iR [e] e'.name=[]:=by unfold iR; simp [h]
 unfold jt; rw [this]; rfl
theorem LT {e:dQ} (h:e.name=kN):fM [e] kN=some e:=by unfold fM; simp [h]
theorem S1:fy kN:=by decide+kernel
theorem aff:fy uX:=by decide+kernel
theorem aia:fy zq:=by decide+kernel
theorem MU (a b:Int) (l:List dQ) (h:b= -1):oC ⟨a,b,l⟩=⟨a,b,l⟩:=by unfold oC; dsimp only; rw [if_neg (by omega)]
variable{r:Nat}
theorem zr.append {s:eM} (h:zr s r z) {xs:List Int} (dA:Nat) (hb:rP xs) (hz:z+xs.length<=1100000) {r':Nat} (hr:0 < r'):(ii s kN xs dA).2=0/\zr (ii s kN xs dA).1 r' (z+xs.length):=by
 have oV:=h.ki.append kN xs dA hb
 have ho:¬ kT s:=by unfold kT; rw [h.calls]; decide
 have hl:jA s=16777216 - (gS s.l:Int):=by unfold jA; rw [h.size]
 rcases h.l with ⟨rfl,rfl,h0⟩ | ⟨hp,e,h0,hn,JW⟩
 ·have ht:gS s.l=0:=by rw [h0]; rfl
  have hs:ii s kN xs dA=(⟨s.size,s.calls,[⟨kN,dA,xs,0⟩]⟩,0):=by
   unfold ii
   rw [if_neg (λk=>k S1),if_neg ho,if_neg (by rintro (h1 | ⟨_,h1⟩) <;> first | omega | (rw [h0] at h1; simp at h1)),h0]
   show (oC _,_)=_
   rw [MU _ _ _ h.calls]; rfl
  rw [hs] at oV ⊢
  exact ⟨rfl,h.size,h.calls,oV,.inr ⟨hr,_,rfl,rfl,by simp⟩⟩
 ·have ht:gS s.l=z:=by rw [h0, <- JW]; simp [gS]
  have hs:ii s kN xs dA=(⟨s.size,s.calls,[⟨kN,e.dA,e.bytes++xs,e.gj⟩]⟩,0):=by
   unfold ii
   rw [if_neg (λk=>k S1),if_neg ho,if_neg (by rintro (h1 | ⟨h1,_⟩) <;> first | omega | (rw [h0,LT hn] at h1; cases h1)),h0,LT hn]
   show (oC _,_)=_
   rw [MU _ _ _ h.calls,TX hn.symm]
  rw [hs] at oV ⊢
  exact ⟨rfl,h.size,h.calls,oV,.inr ⟨hr,_,rfl,rfl,by simp [JW]⟩⟩
theorem zr.sync {s:eM} (h:zr s r z) (hr:0 < r):(oD s kN).2=0/\zr (oD s kN).1 r z:=by
 have oV:=h.ki
 have ho:¬ kT s:=by unfold kT; rw [h.calls]; decide
 rcases h.l with ⟨rfl,_⟩ | ⟨hp,e,h0,hn,JW⟩
 ·omega
 ·have hs:oD s kN=(⟨s.size,s.calls,[⟨kN,e.dA,e.bytes,(e.bytes.length:Int)⟩]⟩,0):=by
   unfold oD
   rw [h0,LT hn]
   dsimp only
   rw [if_neg ho,MU _ _ _ h.calls,TX hn.symm]
  rw [hs]
  have he:=oV.ok e (by rw [h0]; simp)
  refine ⟨rfl,h.size,h.calls,⟨oV.size,oV.calls,by simp [j8],by simp, ?_, ?_⟩,.inr ⟨hr,_,rfl,rfl,JW⟩⟩
  ·have:=oV.eU; rw [h0] at this; simpa [gS] using this
  ·intro q hq; simp at hq; subst hq; exact ⟨by rw [<- hn]; exact he.1,by simp,by simp,he.2.2.2⟩
variable{Z:Nat}
theorem K0:Fn prog 192 #[.pointer (some ⟨b,0,none⟩)] (wl b bd r Z::L) (λv L'=>v=.int .i64 0/\L'=wl b bd r Z::L):=by
 rcases Nat.eq_zero_or_pos r with rfl | hr
 ·skip
  refine aH func192 J J J J<|Dr λp hi=>aa<|ae J<|O<|ar<|aa<|Y J<|aB J J (CC)<|aV 6 (.bool true) J<|ab J J (df J)<|O<|aT J<|az<|ai<|aa<|Y J<|aB J J (Ie)<|ae J<|O<|ar<|aa<|Y J<|ab J J (fR J J (dh.eJ))<|O<|qN J (J)<|aa<|ae J<|O<|av<|aU ?_
  exact aF.ay (wm (A:=p.A) (c:=p.c) (bt:=p.bt) (z:=p.z) (sure:=p.sure) (s:=p.s) b bd 0 Z hi)<|cI J J
 ·skip
  refine aH func192 J J J J<|Dr λp hi=> ?_
  have fW:=CH (z:=p.z) hr
  have JX:=hi.1.sync hr
  have Gz:=hi.2.1
  refine aa<|ae J<|O<|ar<|aa<|Y J<|aB J J (CC)<|aV 6 (.bool true) J<|ab J J (df J)<|O<|aT J<|az<|ai<|aa<|Y J<|aJ J J (Mu hr) ?_
  rintro _ _ ⟨g,hA,rfl,rfl⟩
  refine ae J<|O<|ar<|aa<|Y J<|ab J J (fR J J (dh.eJ))<|O<|ir J (by simp)<|az<|ai<|bW (cells b (xy bd r p.z p) 340::aN jv 346 p.A p.c (jE r p.z)::[]) [] [0,2,4,6,8,10,12,14,16,19,21,22] (by kernel_rfl) al<|aq J J<|aL J J<|aw J J<|aG J J J<|aq J J<|aq J J<|aL J J<|aw J J<|ak J J (gi (f:=t6) (b:=g) (o:=0) (j:=0) (q:=0) (u:=(1,0,(r:Int),(p.z:Int))) J (R:=jv) (c:=p.c) (xs:=jE r p.z) (hA ▸ bR.tail gp) (by rw [fW]; rfl) J)<|an J<|aB J J (Rq)<|au<|an J ?_
  refine aP bd<|aB J J (YH kN (by decide))<|br 22 (v':=.int .i64 0) J (by rw [JX.1])<|au<|ak J J (bT J)<|aR<|ar<|aa<|Y J<|ab J J (ce J J)<|O<|qN J (J)<|aQ<|Y J<|Y J<|aS J<|ab J J (x_ (f:=t6) (b:=g) (o:=0) (j:=0) (q:=0) (u:=(1,0,(r:Int),(p.z:Int))) J (R:=jv) (c:=p.c) (xs:=jE r p.z) (hA ▸ bR.dT bu.g (gp (R:=jv) (t:=346) (A:=p.A) (c:=p.c) (xs:=jE r p.z) (L:=[]))) (by rw [fW]; rfl) J)<|aB J J (Q0 (1,0,(r:Int),(p.z:Int)) (by dsimp only; omega) _)<|aS J<|ao J<|aE J J<|O<|ai<|aa<|Y J<|ae J<|O<|av ?_
  exact aF.ay (wm (A:=p.A) (c:=p.c) (bt:=p.bt) (z:=p.z) (sure:=0+(r:Int)) (s:=(oD p.s kN).1) b bd r Z ⟨JX.2,hi.2.1,hi.2.2.1,hi.2.2.2.1,da (by dsimp only; omega)⟩)<|cI J J
def xb (l:List ByteArray):Nat:=(l.map λs=>8+s.size).sum
theorem S2 {l:List ByteArray} {s:ByteArray} (h:l[i]? =some s):xb (l.take (i+1))=xb (l.take i)+(8+s.size):=by
 unfold xb; rw [qQ h]; simp
structure ako where
 i:Nat
 A:Option Addr
 c:Nat
 xs:List Int
theorem R8 {ps:List ByteArray} (hk:a_ L jO A c ps) (hs:∀ s∈ps,s.size<=65536) (hl:ps.length<=2):Fn prog 452 #[.pointer (some ⟨b,0,none⟩),.int .i64 1,.slice A ps.length c] (ob b bd r z p L) (λv L'=>∃ xs dA,xs.length=xb ps/\rP xs/\v=.tuple #[.int .i64 (xs.length:Int),.int .i64 (ii p.s kN xs dA).2]/\L'=ob b bd r z ⟨p.A,p.c,p.sure,p.bt,p.z,(ii p.s kN xs dA).1⟩ L):=by
 have wY:∀ i,i<=ps.length->xb (ps.take i)<=65544 * i:=by
  intro i
  induction i with
  | zero=>intro _; simp [xb]
  | succ i ih=>
   intro h
   obtain ⟨s,rj⟩:∃ s,ps[i]? =some s:=⟨_,cj (by omega)⟩
   have h1:=S2 rj
   have h2:=hs s (eA rj)
   have h3:=ih (by omega)
   omega
 refine aH func452 J J J J<|aa<|ae J<|ae J<|O<|aa<|ae J<|O<|ar<|aa<|Y J<|ab J J (bY J)<|Y J<|O<|aX<|cY (σ:=ako) [0,1,11,12] (λg=>g.i<=ps.length/\g.xs.length=xb (ps.take g.i)/\rP g.xs) (λg kv=>(13,.int .i64 (g.i:Int))::(8,.slice g.A g.xs.length g.c)::kv) (λg=>sl (aI .u8) g.A g.c g.xs::ob b bd r z p L) (λg=>ps.length - g.i) (⟨0,none,0,[]⟩) J (⟨dF _,J,abO⟩) (a_.lay dP) (dc J) ?_
 rintro ⟨i,A0,c0,xs⟩ ⟨hi,hx,hb⟩
 dsimp only at hi hx hb ⊢
 have BP:=wY i hi
 refine aa<|ab J J (bU J J)<|O<|ar<|bz J (λgK=> ?_) (λgK=> ?_)
 ·refine az<|ai<|ar<|aX ?_
  have cL:i < ps.length:=by omega
  obtain ⟨s,rj⟩:∃ s,ps[i]? =some s:=⟨_,cj cL⟩
  have hss:=hs s (eA rj)
  refine aa<|Yy J J J (a_.dT al hk) rj λakp akq akr=>ab J J (rG J J)<|ae J<|O<|aQ<|Y J<|Y J<|aJ J J (abQ s slk hb hss (by omega)) ?_
  rintro _ _ ⟨A2,c2,ys,WX,Pm,rfl,rfl⟩
  refine bF<|Y J<|ab J J (aO J J)<|ab J J (aO J J)<|ae J<|O<|bA<|ai<|aQ<|ab J J (bE J J (by omega))<|cz 23 J<|Y J<|O<|ai ?_
  exact ⟨⟨i+1,A2,c2,ys⟩,⟨by dsimp only; omega,by dsimp only; rw [S2 rj]; omega,Pm⟩,by dsimp only; omega,bO rfl⟩
 refine cw<|aY<|aY<|cu<|ai ?_
 obtain rfl:i=ps.length:=by omega
 rw [Cg] at hx BP
 refine bW (sl (aI .u8) A0 c0 xs::cells b (xy bd r z p) 340::[]) [] [0,2,4,6,8,10,12,14,18,17,21,22,24] (by kernel_rfl) al<|aq J J<|ak J J (bY J)<|aq J J<|aL J J<|aw J J<|aG J J J<|aq J J<|aq J J<|aq J J<|an J<|Nh b bd p.A p.c<|aB J J (Rq)<|au<|an J ?_
 refine aP bd<|aJ J J (X0 kN (by decide) (bR.dT bu.g (a_.n (slk (L:=[sl (aI .u8) A0 c0 xs])))) hb (by simp only [cE]; omega)) ?_
 rintro _ _ ⟨dA,rfl,rfl⟩
 exact au<|ak J J (bT J)<|ak J J (bT J)<|aR<|av<|eS J J J al (⟨xs,dA,hx,hb,J,J⟩)
theorem agU (s:ByteArray) (h:s.size<=cE) (L:List HP):bV L (λM=>f9 M jO [s] [.string s]):=bV.const λM=>⟨[.string s],[],⟨rfl,h⟩,rfl,rfl⟩
theorem agV (s t:ByteArray) (h:s.size<=cE) (k:t.size<=cE) (L:List HP):bV L (λM=>f9 M jO [s,t] [.string s,.string t]):=bV.const λM=>⟨[.string s],[.string t],⟨rfl,h⟩,⟨[.string t],[],⟨rfl,k⟩,rfl,rfl⟩,rfl⟩
theorem acd (hZ:ByteArray) (hs:hZ.size<=65536) (hr:0 < r) (tr:r < 100000) (hz:Z+hZ.size+40<=1000000):Fn prog 400 #[.pointer (some ⟨b,0,none⟩),.string hZ] (wl b bd r Z::L) (λv L'=>(∃ k:Int,v=.tuple #[.int .i64 k,.int .i64 0])/\L'=wl b bd (r+1) (Z+hZ.size+40)::L):=by
 refine aH func400 J J J J<|Dr λp hi=> ?_
 have fW:=CH (z:=p.z) hr
 have vF:=hi.2.2.1
 have n5:=hi.2.2.2.1
 refine aa<|ae J<|ae J<|O<|aa<|Y J<|aB J J (ae9 hr hi.2.1)<|ae J<|O<|ar<|aX<|aa<|Y J<|aB J J (CC)<|aV 18 (.bool true) J<|ab J J (df J)<|ae J<|O<|aT J<|aa<|Y J<|ab J J (uI J)<|ab J J (eE J J)<|ae J<|O<|ir J (by omega)<|aa<|Y J<|ab J J (eV J J)<|ae J<|O<|ir J (by omega)<|az<|bA<|ai<|aa<|Y J<|aJ J J (Mu hr) ?_
 rintro _ _ ⟨g,hA,rfl,rfl⟩
 refine ae J<|O<|ar<|bW _ [] [0,2,4,6,8,10,12,14,16,18,20,22,24,26,28,30,32,34,36,38] (by kernel_rfl) (am.refl _)<|aq J J<|ak J J (f8 J J (dh.eJ))<|er 30 (v':=.bool true) J (by simp)<|aq J J<|aC J J (cU J)<|aC J J (gc J)<|aC J J (dp J)<|aC J J (gi (f:=t6) (b:=g) (o:=0) (j:=0) (q:=3) (u:=(1,0,(r:Int),(p.z:Int))) J (R:=jv) (c:=p.c) (xs:=jE r p.z) (hA ▸ bR.tail gp) (by rw [fW]; rfl) J)<|aC J J (cU J)<|aC J J (gc J)<|aC J J (dp J)<|aC J J (dY J J)<|aC J J (eV J J)<|lZ 40 J (show ¬ (1048576:Int)<=(p.z:Int) from by omega)<|ak J J (d9 J J)<|aq J J<|aD J J<|aD J J<|aD J J<|aD J J<|aD J J<|ak J J (dG J J)<|aR<|aT J<|az<|ai<|ar<|bW _ [] [0,2,4,6,8,10,12,14,16,18,20,22,24] (by kernel_rfl) (am.refl _)<|aq J J<|ak J J (f8 J J (dh.eJ))<|er 50 (v':=.bool true) J (by simp)<|aq J J<|aC J J (cU J)<|aC J J (gc J)<|aC J J (dp J)<|aC J J (gi (f:=t6) (b:=g) (o:=0) (j:=0) (q:=3) (u:=(1,0,(r:Int),(p.z:Int))) J (R:=jv) (c:=p.c) (xs:=jE r p.z) (hA ▸ bR.tail gp) (by rw [fW]; rfl) J)<|aC J J (cU J)<|aC J J (gc J)<|aC J J (dp J)<|aC J J (dY J J)<|aC J J (bU J J)<|pJ 60 J (show (p.z:Int) < 1048576 from by omega)<|ak J J (d9 J J)<|aR<|cg J<|aa<|Y J<|Y J<|aS J<|ao J<|ab J J (gi (f:=t6) (b:=g) (o:=0) (j:=0) (q:=0) (u:=(1,0,(r:Int),(p.z:Int))) J (R:=jv) (c:=p.c) (xs:=jE r p.z) (hA ▸ bR.tail gp) (by rw [fW]; rfl) J)<|Y J<|ef J J J J J J λW6=> ?_
 refine eh (k:=1) jO [hZ] (agU hZ (by simp only [cE]; omega) _) J (by decide)<|bF<|aV 69 (.slice (some ⟨W6,0,none⟩) [hZ].length 1) J<|Nh b bd p.A p.c<|aJ J J (R8 (ps:=[hZ]) (a_.dT bu.g (slk (L:=[sl jO (some ⟨W6,0,none⟩) 1 [hZ]]))) (by simpa using hs) (by simp)) ?_
 rintro _ _ ⟨xs,dA,kY,se,rfl,rfl⟩
 refine Y J<|ab J J (aO J J)<|ab J J (aO J J)<|ae J<|ae J<|O<|ar ?_
 have kY:xs.length=8+hZ.size:=by rw [kY]; simp [xb]
 have pH:=hi.1.append dA se (by omega) (r':=r+1) (by omega)
 refine aa<|Y J<|ab J J (dB J J)<|O<|ir J (by rw [pH.1]; simp)<|az<|ai ?_
 refine CR (A:=p.A) (c:=p.c) (R:=jv) (xs:=jE r p.z) (i:=0) (x:=(1,0,(r:Int),(p.z:Int))) (by rw [fW]; rfl) λg2 l2 DS n3=> ?_
 obtain rfl:g=g2:=by rw [hA] at DS; cases DS; rfl
 refine ou 1 J<|agS λDT hso=> ?_
 subst DT
 refine aa<|Y J<|aS J<|ao J<|ab J J (fQ (R:=jv) (i:=0) (j:=3) (v:=.int .i64 (p.z:Int)) J J)<|Y J<|ab J J (bE J J (by omega))<|aS J<|ao J<|fc (R:=jv) (i:=0) (j:=3) J J J J J J<|O<|aa<|Y J<|aS J<|ao J<|ab J J (fQ (R:=jv) (i:=0) (j:=2) (v:=.int .i64 (r:Int)) J J)<|ab J J (bE J J (by omega))<|aS J<|ao J<|fc (R:=jv) (i:=0) (j:=2) J J J J J J<|O<|aa<|Y J<|ae J<|ae J<|O<|av<|aU ?_
 refine aF.ay (akn (R:=jv) g (1,0,(r:Int)+1,(p.z:Int)+(xs.length:Int)) (bV.const λM=>⟨J,show bP .i64 1 by decide,show bP .i64 0 by decide,da (by dsimp only; omega),da (by dsimp only; omega)⟩)) ?_
 rw [show (jE r p.z).set 0 (1,0,(r:Int)+1,(p.z:Int)+(xs.length:Int))=jE (r+1) (p.z+xs.length) by rw [fW,CH (by omega)]; simp]
 rw [show (xy bd r p.z {p with s:=(ii p.s kN xs dA).1})=[.pointer (some ⟨bd,0,none⟩),.string uX,.int .i64 1048576,.slice (some ⟨g,0,none⟩) (jE (r+1) (p.z+xs.length)).length p.c,.int .i64 p.sure] from by show [_,_,_,Value.slice p.A (jE r p.z).length p.c,_]=_; rw [hA,fW,CH (Nat.succ_pos r)]; rfl]
 exact aF.ay (wm (A:=some ⟨g,0,none⟩) (c:=p.c) (bt:=p.bt) (z:=p.z+xs.length) (sure:=p.sure) (s:=(ii p.s kN xs dA).1) b bd (r+1) (Z+hZ.size+40) ⟨pH.2,by omega,by dsimp only; omega,hz,hi.2.2.2.2⟩)<|eS J J J al (⟨⟨_,J⟩,J⟩)
theorem ajf:fF 0=[0]:=Cx (by decide)
theorem ace (hZ:ByteArray) (hs:hZ.size<=65536) (hz:Z+hZ.size+40<=1000000):Fn prog 400 #[.pointer (some ⟨b,0,none⟩),.string hZ] (wl b bd 0 Z::L) (λv L'=>(∃ k:Int,v=.tuple #[.int .i64 k,.int .i64 0])/\L'=wl b bd 1 (Z+hZ.size+40)::L):=by
 refine aH func400 J J J J<|Dr λp hi=> ?_
 have vF:=hi.2.2.1
 have n5:=hi.2.2.2.1
 have vG:p.z=0:=by rcases hi.1.l with h | h; exact h.2.1; exact absurd h.1 (by omega)
 refine aa<|ae J<|ae J<|O<|aa<|Y J<|aB J J (TQ)<|ae J<|O<|ar<|aX<|aa<|Y J<|aB J J (CC)<|aV 18 (.bool true) J<|ab J J (df J)<|ae J<|O<|aT J<|aa<|Y J<|ab J J (uI J)<|ab J J (eE J J)<|ae J<|O<|ir J (by omega)<|aa<|Y J<|ab J J (eV J J)<|ae J<|O<|ir J (by omega)<|az<|bA<|ai<|aa<|Y J<|aB J J (Ie)<|ae J<|O<|ar<|bW _ [] [0,2,4,6,8,10,12,14,16,18,20,22,24,26,28,30,32,34,36,38] (by kernel_rfl) (am.refl _)<|aq J J<|ak J J (f8 J J (dh.eJ))<|er 30 (v':=.bool false) J (by simp)<|aq J J<|aD J J<|aD J J<|aD J J<|aD J J<|aD J J<|aD J J<|aD J J<|aD J J<|aD J J<|ak J J (dG J J)<|aq J J<|aD J J<|aD J J<|aD J J<|aD J J<|aD J J<|ak J J (dG J J)<|aR<|aT J<|az<|ai<|ar<|bW _ [] [0,2,4,6,8,10,12,14,16,18,20,22,24] (by kernel_rfl) (am.refl _)<|aq J J<|ak J J (f8 J J (dh.eJ))<|er 50 (v':=.bool false) J (by simp)<|aq J J<|aD J J<|aD J J<|aD J J<|aD J J<|aD J J<|aD J J<|aD J J<|aD J J<|aD J J<|ak J J (dG J J)<|aR<|aT J<|az<|ai<|ar<|aa<|Y J ?_
 refine bX (wm (A:=p.A) (c:=p.c) (bt:=p.bt) (z:=p.z) (sure:=p.sure) (s:=p.s) b bd 0 Z hi)<|aB J J (K0)<|ae J<|O<|aa<|Y J<|ab J J (dB J J)<|O<|ir J (by decide)<|az<|ai<|Dr λp hi=> ?_
 have vF:=hi.2.2.1
 have n5:=hi.2.2.2.1
 have vG:p.z=0:=by rcases hi.1.l with h | h; exact h.2.1; exact absurd h.1 (by omega)
 refine aa<|ae J<|O<|ar<|aa<|Y J<|ab J J (f8 J J (dh.eJ))<|O<|K6 J (J)<|az<|ai<|aa<|Y J<|Y J<|Y J<|ab J J (lO J)<|aV 108 (.int .u64 ((0:Nat):Int)) J<|aJ J J (ac_ (A:=none) (c:=0) (xs:=[]) dP 0 (by decide) (by decide)) ?_
 rintro _ _ ⟨al8,al9,rfl,rfl⟩
 refine ab J J (i9 J bJ)<|br 110 (v':=.string ⟨#[0]⟩) J (by rw [ajf]; rfl)<|Y J<|ef J J J J J J λWi=> ?_
 refine eh (k:=2) jO [⟨#[0]⟩,hZ] (agV ⟨#[0]⟩ hZ (by decide) (by simp only [cE]; omega) _) J (by decide)<|bF<|aV 112 (.slice (some ⟨Wi,0,none⟩) [(⟨#[0]⟩:ByteArray),hZ].length 2) J<|Nh b bd p.A p.c<|aJ J J (R8 (ps:=[⟨#[0]⟩,hZ]) (a_.dT bu.g (slk (L:=[sl jO (some ⟨Wi,0,none⟩) 2 [(⟨#[0]⟩:ByteArray),hZ]]))) (List.forall_mem_cons.2 ⟨by decide,List.forall_mem_cons.2 ⟨hs,λ_ h↦by cases h⟩⟩) (by simp)) ?_
 rintro _ _ ⟨xs,dA,kY,se,rfl,rfl⟩
 refine Y J<|ab J J (aO J J)<|ab J J (aO J J)<|ae J<|ae J<|O<|ar ?_
 have kY:xs.length=17+hZ.size:=by rw [kY]; unfold xb; simp only [kq,List.map_nil,zS,List.sum_nil]; rw [show (⟨#[0]⟩:ByteArray).size=1 from rfl]; omega
 have pH:=hi.1.append dA se (by omega) (r':=1) (by omega)
 refine aa<|Y J<|ab J J (dB J J)<|O<|ir J (by rw [pH.1]; simp)<|az<|ai<|aa<|Y J<|Y J<|aS J<|ao J<|aE J J<|O<|aa<|Y J<|Y J<|aS J<|ao J<|ax J J<|Y J<|Y J<|Y J<|ab J J (bI J J)<|ef J J J J J J λaks=> ?_
 refine eh (k:=1) jv [(1,0,1,(xs.length:Int))] (bV.const λM=>⟨_,[],⟨J,show bP .i64 1 by decide,show bP .i64 0 by decide,show bP .i64 1 by decide,da (by dsimp only; omega)⟩,J,J⟩) J (by decide)<|bF<|aV 132 (.slice (some ⟨aks,0,none⟩) [((1,0,1,(xs.length:Int)):wZ)].length 1) J ?_
 refine fi J J J J J slk (by simp [agT]) λakt aku=>aS J<|ao J<|aE J J<|O<|aa<|Y J<|ae J<|ae J<|O<|av ?_
 rw [show jE 0 p.z++[(1,0,1,(xs.length:Int))]=jE 1 xs.length from rfl]
 exact aF.ay (wm (A:=akt) (c:=aku) (bt:=p.bt) (z:=xs.length) (sure:=0) (s:=(ii p.s kN xs dA).1) b bd 1 (Z+hZ.size+40) ⟨by have:=pH.2; rwa [vG,nD] at this,by omega,by dsimp only; omega,hz,show bP .i64 0 by decide⟩)<|eS J J J al (⟨⟨_,J⟩,J⟩)
theorem YR (hZ:ByteArray) (hs:hZ.size<=65536) (tr:r < 100000) (hz:Z+hZ.size+40<=1000000):Fn prog 400 #[.pointer (some ⟨b,0,none⟩),.string hZ] (wl b bd r Z::L) (λv L'=>(∃ k:Int,v=.tuple #[.int .i64 k,.int .i64 0])/\L'=wl b bd (r+1) (Z+hZ.size+40)::L):=by
 rcases Nat.eq_zero_or_pos r with rfl | hr
 ·exact ace hZ hs hz
 ·exact acd hZ hs hr tr hz
open Go Go.Proofs Go.Proofs.Tryz
section
variable {P:Program} {L L':List HP} {E:cZ} {fn:Func} {Φ:Value->List HP->Prop} {x y z y4:ResultVar} {u v t t4:Value} {e:Exit}
theorem ajg (he:e=.ret\/e=.normal) (hr:fn.results=#[x,y,z,y4]) (hx:bf P E L x u) (hy:bf P E L y v) (hz:bf P E L z t) (h4:bf P E L y4 t4) (h:Φ (.tuple #[u,v,t,t4]) L):aF P fn Φ e ⟨[],E,L⟩:=by
 have key:∃ v L',Φ v L'/\∀ n W a w,Holds n W ⟨[],E,L⟩ a w->bH W w L'/\(results fn a.tmps).run P w=.ok v w:=⟨_,L,h,λn W a w hh=>⟨hh.2,by
  rw [HI,hr]; simp [hx n [] W a w hh,hy n [] W a w hh,hz n [] W a w hh,h4 n [] W a w hh]⟩⟩
 rcases he with rfl | rfl <;> exact ⟨rfl,key⟩
theorem aib (he:e=.ret\/e=.normal) (hr:fn.results=#[x,y,z,y4]) (hx:bf P E L x u) (hy:bf P E L y v) (hz:bf P E L z t) (h4:bf P E L y4 t4) (g:am L L') (h:Φ (.tuple #[u,v,t,t4]) L'):aF P fn Φ e ⟨[],E,L⟩:=
 aF.imp (Ψ:=λq _=>q=.tuple #[u,v,t,t4]) g (λq e=>e ▸ h) (ajg he hr hx hy hz h4 ⟨rfl,rfl⟩)
end
theorem Ym (L:List HP):Fn prog 427 #[.int .u64 0] L (λv L'=>v=.int .i64 0/\L'=L):=by
 exact aH func427 J J J J<|aa<|ae J<|O<|ar<|aa<|Y J<|ab J J (eV J J)<|O<|ir J (by decide)<|az<|ai<|ar<|aa<|Y J<|ab J J (eV J J)<|O<|ir J (by decide)<|az<|ai<|ar<|aa<|Y J<|ab J J (eV J J)<|O<|ir J (by decide)<|az<|ai<|aa<|Y J<|Y J<|ab J J (lO J)<|aV 21 (.int .u8 ((0:Nat):Int)) J<|ab J J (ac4 (j:=0) (u:=0) J J J)<|ab J J (lO J)<|aV 23 (.int .i64 0) J<|ab J J (bE J J (by omega))<|ae J<|O<|av<|cI J J
theorem QM (L:List HP):Fn prog 377 #[.int .u64 0] L (λv L'=>v=.int .i64 0/\L'=L):=by
 exact aH func377 J J J J<|aa<|ae J<|O<|ar<|aT J<|az<|ai<|aa<|Y J<|aB J J (Ym _)<|ae J<|O<|av<|cI J J
variable{f:Value}
theorem acf (L:List HP):Fn prog 434 #[.slice A 0 c,.int .i64 0,.int .i64 0,f] L (λv L'=>v=.tuple #[]/\L'=L):=by
 exact aH func434 J J J J<|aa<|Y J<|ab J J (bE J J (by omega))<|ae J<|O<|aX<|cY (σ:=Unit) [0,1,2,3] (λg=>True) (λg kv=>(8,.int .i64 1)::kv) (λg=>L) (λg=>0) (()) J (trivial) (al) (dc J) λg hg=>ar<|aa<|Y J<|Y J<|ab J J (bU J J)<|br 14 (v':=.bool false) J (by simp)<|O<|aT J<|cw<|aY<|aY<|cu<|ei J
theorem acg {k:Int} (L:List HP):Fn prog 383 #[.slice A 0 c,.int .i64 0,.int .i64 0,.int .i64 k,f] L (λv L'=>v=.tuple #[]/\L'=L):=by
 exact aH func383 J J J J<|aa<|ae J<|O<|aa<|ae J<|O<|aX<|cY (σ:=Unit) [0,4] (λg=>True) (λg kv=>(1,.int .i64 0)::(2,.int .i64 0)::(3,.int .i64 k)::(10,.bool true)::(11,.bool true)::kv) (λg=>L) (λg=>0) (()) J (trivial) (al) (dc J) λg hg=>aX<|aa<|Y J<|Y J<|ab J J (jb J J (by omega))<|ae J<|O<|ar<|aa<|Y J<|ab J J (sX J J)<|O<|qN J (by decide)<|aa<|Y J<|Y J<|Y J<|Y J<|aB J J (acf _)<|O<|av<|aU<|db<|aU<|db<|kR J
theorem aaR (L:List HP):Fn prog 326 #[.slice A 0 c,f] L (λv L'=>v=.tuple #[]/\L'=L):=by
 exact aH func326 J J J J<|aa<|Y J<|ab J J (bY J)<|ae J<|O<|aQ<|Y J<|Y J<|Y J<|ab J J (lO J)<|aV 10 (.int .u64 ((0:Nat):Int)) J<|aB J J (QM _)<|Y J<|aB J J (acg _)<|O<|ei J
theorem YS (L:List HP):Fn prog 223 #[.slice A 0 c] L (λv L'=>v=.bool true/\L'=L):=by
 exact aH func223 J J J J<|aa<|ae J<|O<|ar<|aa<|Y J<|ab J J (bY J)<|Y J<|O<|aX<|cY (σ:=Unit) [0,6,7] (λg=>True) (λg kv=>(8,.int .i64 0)::kv) (λg=>L) (λg=>0) (()) J (trivial) (al) (dc J) λg hg=>aa<|ab J J (bU J J)<|O<|ar<|ir J (by decide)<|cw<|aY<|aY<|cu<|ai<|aa<|ae J<|O<|av<|cI J J
theorem Yn {s:eM} (hs:s.l=[]):Fn prog 222 #[.pointer (some ⟨b,0,none⟩)] (cells b [.pointer (some ⟨bd,0,none⟩),.string uX,.int .i64 1048576,.slice none 0 0,.int .i64 0] 340::dk bd bt s::L) (λv L'=>v=.slice none 0 0/\L'=cells b [.pointer (some ⟨bd,0,none⟩),.string uX,.int .i64 1048576,.slice none 0 0,.int .i64 0] 340::dk bd bt s::L):=by
 refine aH func222 J J J J<|aa<|ae J<|O<|aa<|ae J<|O<|ar<|aa<|Y J<|aS J<|ao J<|ax J J<|aP bd<|aJ J J (Qz) ?_
 rintro _ _ ⟨kZ,k9,rfl,rfl⟩
 exact ab J J (bY J)<|br 12 (v':=.int .i64 0) J (by rw [hs]; rfl)<|Y J<|O<|aX<|cY (σ:=Unit) [0,11,12] (λg=>True) (λg kv=>(13,.int .i64 0)::(3,.slice none 0 0)::kv) (λg=>cells b [.pointer (some ⟨bd,0,none⟩),.string uX,.int .i64 1048576,.slice none 0 0,.int .i64 0] 340::dk bd bt s::L) (λg=>0) (()) J (trivial) (al) (dc J) λg hg=>aa<|ab J J (bU J J)<|O<|ar<|ir J (by decide)<|cw<|aY<|aY<|cu<|ai<|aa<|Y J<|aB J J (aaR _)<|O<|aa<|Y J<|ae J<|O<|av<|cI J J
theorem Zt:Fn prog 114 #[.pointer (some ⟨bd,0,none⟩),.string uX,.int .i64 1048576] (dk bd bt (j3 16777216)::L) (λv L'=>∃ b,v=.tuple #[.pointer (some ⟨b,0,none⟩),.slice none 0 0,.int .i64 0]/\L'=wl b bd 0 0::L):=by
 exact aH func114 J J J J<|aa<|ae J<|ae J<|ae J<|O<|ar<|aa<|Y J<|ab J J (fR J J (dh.eJ))<|br 18 (v':=.bool false) J (by simp)<|Y J<|aj J<|Y J<|aj J<|aB J J (rH _ uX (by decide))<|fd 21 J aff<|aj J<|ab J J (df J)<|aA J<|Y J<|aj J<|Y J<|aj J<|ab J J (uI J)<|aj J<|ab J J (eE J J)<|br 27 (v':=.bool false) J (bi Value.bool (by decide))<|aA J<|Y J<|aj J<|Y J<|aj J<|ab J J (bU J J)<|br 31 (v':=.bool false) J (by simp)<|aA J<|Y J<|aj J<|Y J<|aj J<|ab J J (eE J J)<|br 35 (v':=.bool false) J (by simp)<|aA J<|O<|aT J<|az<|ai<|aa<|Y J<|Y J<|Y J<|ab J J (bI J J)<|bS J J J λJY=>ae J<|O<|cQ bd<|ai8 λoV=>MN JY<|aa<|Y J<|aB J J (Yn J)<|ae J<|O<|ar<|aa<|Y J<|aB J J (YS _)<|ab J J (ff J)<|aV 46 (.bool false) J<|O<|aT J<|az<|ai<|ar<|aa<|Y J<|ab J J (bY J)<|ae J<|O<|aa<|Y J<|ab J J (eE J J)<|O<|ir J (by decide)<|az<|ai<|aa<|ae J<|O<|ar<|aa<|Y J<|ab J J (bY J)<|Y J<|O<|aX<|cY (σ:=Unit) [9,61,62] (λg=>True) (λg kv=>(63,.int .i64 0)::(13,.slice none 0 0)::kv) (λg=>cells JY [.pointer (some ⟨bd,0,none⟩),.string uX,.int .i64 1048576,.slice none 0 0,.int .i64 0] 340::dk bd bt (j3 16777216)::L) (λg=>0) (()) J (trivial) (al) (dc J) λg hg=>aa<|ab J J (bU J J)<|O<|ar<|ir J (by decide)<|cw<|aY<|aY<|cu<|ai<|ar<|b_ (show am _ (aN jv 346 none 0 (jE 0 0)::_) from du jv 346 none _)<|b_ (wm (A:=none) (c:=0) (bt:=bt) (z:=0) (sure:=0) (s:=j3 16777216) JY bd 0 0 ⟨⟨J,J,oV,.inl ⟨J,J,J⟩⟩,dF _,fo 0,dF _,show bP .i64 0 by decide⟩)<|aa<|Y J<|aB J J (K0)<|ae J<|O<|aa<|Y J<|ab J J (dB J J)<|O<|ir J (by decide)<|az<|ai<|aa<|Y J<|Y J<|ae J<|ae J<|ae J<|O<|av<|ja (.inl J) J (bf.tmp J) (bf.tmp J) (bf.tmp J) bu.g (⟨JY,J,J⟩)
def st (b bd r Z:Nat):HP:=n_ (λbl:Nat=>[cells b [.pointer (some ⟨bd,0,none⟩),.string zq,.pointer (some ⟨bl,0,none⟩),.int .i64 0,.int .i64 0] 212,wl bl bd r Z]) (λ_=>True)
instance:jz (st b bd r Z::L) b (st b bd r Z) L:=⟨am.refl _⟩
abbrev vH (bd bl:Nat):List Value:=[.pointer (some ⟨bd,0,none⟩),.string zq,.pointer (some ⟨bl,0,none⟩),.int .i64 0,.int .i64 0]
variable{r:Option Nat}
theorem Wj {c:Code} (h:∀ bl,T r n P c ⟨D,E,cells b (vH bd bl) 212::wl bl bd rr z::L⟩ Q):T r n P c ⟨D,E,st b bd rr z::L⟩ Q:=sT λbl _=>h bl
theorem MA (b bd bl r Z:Nat) [h1:fL L b [.pointer (some ⟨bd,0,none⟩),.string zq,.pointer (some ⟨bl,0,none⟩),.int .i64 0,.int .i64 0] 212 L1] [h2:cR L1 (wl bl bd r Z) L2]:am L (st b bd r Z::L2):=
 (h1.g.trans (am.cons _ h2.g)).trans (nG (F:=λbl:Nat=>[cells b [.pointer (some ⟨bd,0,none⟩),.string zq,.pointer (some ⟨bl,0,none⟩),.int .i64 0,.int .i64 0] 212,wl bl bd r Z]) (φ:=λ_=>True) bl trivial)
theorem S3:Fn prog 190 #[.pointer (some ⟨b,0,none⟩)] (cells b (vH bd bl) 212::L) (λv L'=>v=.bool true/\L'=cells b (vH bd bl) 212::L):=by
 exact aH func190 J J J J<|aa<|ae J<|O<|aa<|Y J<|ab J J (f8 J J (dh.eJ))<|br 4 (v':=.bool true) J (by simp)<|Y J<|aj J<|Y J<|aj J<|aS J<|aj J<|ao J<|aj J<|ax J J<|aj J<|ab J J (f8 J J (dh.eJ))<|br 10 (v':=.bool true) J (by simp)<|aA J<|ae J<|O<|av<|cI J J
theorem YT {r:Nat} (hZ:ByteArray) (hs:hZ.size<=65536) (tr:r < 100000) (hz:Z+hZ.size+40<=1000000):Fn prog 348 #[.pointer (some ⟨b,0,none⟩),.string hZ] (st b bd r Z::L) (λv L'=>(∃ k:Int,v=.tuple #[.int .i64 k,.int .i64 0])/\L'=st b bd (r+1) (Z+hZ.size+40)::L):=by
 refine aH func348 J J J J<|Wj λbl=>aa<|ae J<|ae J<|O<|ar<|aa<|Y J<|aB J J (S3)<|aV 7 (.bool true) J<|ab J J (df J)<|O<|aT J<|az<|ai<|aa<|Y J<|aS J<|ao J<|ax J J<|Y J<|aP bl<|aJ J J (YR hZ hs tr hz) ?_
 rintro _ _ ⟨⟨k,rfl⟩,rfl⟩
 exact ab J J (aO J J)<|ab J J (aO J J)<|ae J<|ae J<|O<|av<|aF.ay (MA b bd bl (r+1) (Z+hZ.size+40))<|eS J J J al (⟨⟨k,J⟩,J⟩)
theorem aaS {r:Nat}:Fn prog 182 #[.pointer (some ⟨b,0,none⟩)] (st b bd r Z::L) (λv L'=>v=.int .i64 0/\L'=st b bd r Z::L):=by
 exact aH func182 J J J J<|Wj λbl=>aa<|ae J<|O<|ar<|aa<|Y J<|aB J J (S3)<|aV 4 (.bool true) J<|ab J J (df J)<|O<|aT J<|az<|ai<|aa<|Y J<|aS J<|ao J<|ax J J<|aP bl<|aB J J (K0)<|ae J<|O<|av<|aF.ay (MA b bd bl r Z)<|cI J J
abbrev GA (bd:Nat):List Value:=[.pointer (some ⟨bd,0,none⟩),.string zq,.pointer none,.int .i64 0,.int .i64 0]
theorem ach:Fn prog 196 #[.pointer (some ⟨b,0,none⟩)] (cells b (GA bd) 212::L) (λv L'=>v=.string NL/\L'=cells b (GA bd) 212::L):=by
 exact aH func196 J J J J<|aa<|ae J<|O<|aa<|Y J<|aS J<|ao J<|ax J J<|ab J J (Ey J J (by decide))<|ae J<|O<|av<|cI J J
theorem aaT {s:eM} (hs:s.l=[]):Fn prog 113 #[.pointer (some ⟨b,0,none⟩)] (cells b (GA bd) 212::dk bd bt s::L) (λv L'=>v=.tuple #[.string ⟨#[]⟩,.int .i64 0]/\L'=cells b (GA bd) 212::dk bd bt s::L):=by
 have hf:fM s.l NL=none:=by rw [hs]; rfl
 exact aH func113 J J J J<|aa<|ae J<|ae J<|O<|ar<|bW (cells b (GA bd) 212::[]) [] [0,2,4,6,8,11,13,14,16,18,20,22] (by kernel_rfl) al<|aq J J<|aL J J<|aw J J<|aG J J J<|aq J J<|an J<|g_ b<|aB J J (ach)<|au<|an J<|aP bd<|aB J J (YL NL (by decide))<|br 16 (v':=.tuple #[.string ⟨#[]⟩,.int .i64 4]) J (by rw [hf]; rfl)<|au<|aq J J<|ak J J (aO J J)<|ak J J (aO J J)<|ak J J (bT J)<|ak J J (bT J)<|aR<|aa<|Y J<|ab J J (dB J J)<|O<|qN J (by decide)<|aa<|ae J<|ae J<|O<|av<|aU<|eS J J J al (⟨J,J⟩)
theorem Zu:Fn prog 117 #[.pointer (some ⟨b,0,none⟩)] (cells b (vH bd bl) 212::wl bl bd 0 Z::L) (λv L'=>v=.int .i64 0/\L'=cells b (vH bd bl) 212::wl bl bd 0 Z::L):=by
 refine aH func117 J J J J<|ou 1 J<|Dr λp hi=> ?_
 have h0:p.s.l=[]:=by rcases hi.1.l with h | h; exact h.2.2; exact absurd h.1 (by omega)
 refine aa<|ae J<|O<|ar<|aa<|Y J<|aS J<|ao J<|ax J J<|aP bd<|aJ J J (Qz) ?_
 rintro _ _ ⟨kZ,k9,rfl,rfl⟩
 exact ab J J (bY J)<|br 11 (v':=.int .i64 0) J (by rw [h0]; rfl)<|Y J<|O<|aX<|cY (σ:=Unit) [0,10,11] (λg=>True) (λg kv=>(12,.int .i64 0)::kv) (λg=>ob bl bd 0 p.z p (cells b (vH bd bl) 212::L)) (λg=>0) (()) J (trivial) (al) (dc J) λg hg=>aa<|ab J J (bU J J)<|O<|ar<|ir J (by decide)<|cw<|aY<|aY<|cu<|ai<|aa<|ae J<|O<|av<|aF.ay (wm (A:=p.A) (c:=p.c) (bt:=p.bt) (z:=p.z) (sure:=p.sure) (s:=p.s) bl bd 0 Z hi)<|cI J J
theorem QN:Fn prog 115 #[.pointer (some ⟨b,0,none⟩)] (wl b bd 0 Z::L) (λv L'=>v=.int .i64 0/\L'=wl b bd 0 Z::L):=by
 refine VC λp hi=> ?_
 exact adx.mono λv L' h=>by obtain ⟨rfl,rfl⟩:=h; exact ⟨_,wm (A:=p.A) (c:=p.c) (bt:=p.bt) (z:=p.z) (sure:=p.sure) (s:=p.s) b bd 0 Z hi,rfl,rfl⟩
theorem Zv:Fn prog 116 #[.pointer (some ⟨b,0,none⟩)] (wl b bd 0 Z::L) (λv L'=>v=.int .i64 0/\L'=wl b bd 0 Z::L):=by
 refine VC λp hi=> ?_
 exact TQ.mono λv L' h=>by obtain ⟨rfl,rfl⟩:=h; exact ⟨_,wm (A:=p.A) (c:=p.c) (bt:=p.bt) (z:=p.z) (sure:=p.sure) (s:=p.s) b bd 0 Z hi,rfl,rfl⟩
theorem aaU:Fn prog 59 #[.pointer (some ⟨bd,0,none⟩),.string zq,.int .i64 1048576] (dk bd bt (j3 16777216)::L) (λv L'=>∃ b A c,v=.tuple #[.pointer (some ⟨b,0,none⟩),.string ⟨#[]⟩,.slice A 0 c,.int .i64 0]/\L'=st b bd 0 0::L):=by
 refine aH func59 J J J J<|aa<|ae J<|ae J<|ae J<|ae J<|O<|ar<|aa<|Y J<|ab J J (fR J J (dh.eJ))<|br 17 (v':=.bool false) J (by simp)<|Y J<|aj J<|Y J<|aj J<|aB J J (rH _ zq (by decide))<|fd 20 J aia<|aj J<|ab J J (df J)<|aA J<|Y J<|aj J<|Y J<|aj J<|ab J J (uI J)<|aj J<|ab J J (eE J J)<|br 26 (v':=.bool false) J (bi Value.bool (by decide))<|aA J<|Y J<|aj J<|Y J<|aj J<|ab J J (bU J J)<|br 30 (v':=.bool false) J (by simp)<|aA J<|Y J<|aj J<|Y J<|aj J<|ab J J (eE J J)<|br 34 (v':=.bool false) J (by simp)<|aA J<|O<|aT J<|az<|ai<|aa<|Y J<|Y J<|ab J J (bI J J)<|bS J J J λum=>ae J<|O<|aa<|Y J<|aB J J (aaT J)<|Y J<|ab J J (aO J J)<|ab J J (aO J J)<|ae J<|ae J<|O<|ar<|aa<|Y J<|ab J J (dB J J)<|O<|ir J (by decide)<|az<|ai<|aa<|Y J<|Y J<|ab J J (Ey J J (by decide))<|Y J<|aP bd<|aJ J J (Zt) ?_
 rintro _ _ ⟨bl,rfl,rfl⟩
 exact Y J<|ab J J (aO J J)<|ab J J (aO J J)<|ab J J (aO J J)<|ae J<|ae J<|ae J<|O<|ar<|aa<|Y J<|ab J J (dB J J)<|O<|ir J (by decide)<|az<|ai<|aa<|Y J<|Y J<|aS J<|ao J<|aE J J<|O<|ar<|bW (cells um (vH bd bl) 212::[]) [] [0,4,6,8,10,3,12,14,16,20,22,24,26,19,28,30] (by kernel_rfl) al<|aq J J<|aq J J<|aL J J<|aw J J<|aG J J J<|an J<|aP bl<|aB J J (QN)<|au<|ak J J (eE J J)<|er 70 (v':=.bool false) J (by simp)<|aq J J<|aC J J (cU J)<|aC J J (cU J)<|aC J J (gc J)<|aC J J (dp J)<|aC J J (dY J J)<|an J<|aj J<|aP bl<|aB J J (Zv)<|au<|aC J J (bU J J)<|er 78 (v':=.bool false) J (by simp)<|ak J J (dG J J)<|aR<|aT J<|az<|ai<|ar<|aa<|Y J<|aP bl<|g_ um<|aB J J (Zu)<|ae J<|O<|aa<|Y J<|ab J J (dB J J)<|O<|ir J (by decide)<|az<|ai<|bW (cells um (vH bd bl) 212::[]) [] [0,2,4,6,8,10,12,14,17,18,20,22,24,26,28] (by kernel_rfl) al<|aq J J<|aq J J<|aq J J<|aq J J<|aL J J<|aw J J<|aG J J J<|aq J J<|an J<|aP bl<|aB J J (QN)<|au<|ak J J (jb J J (by omega))<|ak J J (EU J J (by omega))<|ak J J (bT J)<|ak J J (bT J)<|ak J J (bT J)<|ak J J (bT J)<|aR<|av<|aF.ay (MA um bd bl 0 0)<|aib (.inl J) J (bf.tmp J) (bf.tmp J) (bf.tmp J) (bf.tmp J) bu.g (⟨um,_,_,J,J⟩)
open Go Go.Proofs Go.Proofs.Tryz
structure Bo where
 k:Nat
 xs:List aW
 A:Option Addr
 c:Nat
 le:xs.length<=k
def Ni (want:aW->Bool):LS Bo->zy->LS Bo->Prop:=λs x s'=>s'.2=none/\s'.1.k=s.1.k+1/\s'.1.xs=s.1.xs++(if want x.1=true then [x.1] else [])
theorem UJ {want:aW->Bool} {s s':LS Bo} {xs:List zy} (h0:s.2=none) (h:gH (Ni want) (λs=> !s.2.isNone) s xs s'):s'.2=none/\s'.1.xs=s.1.xs++(xs.map Prod.fst).filter want:=by
 induction h with
 | nil s=>exact ⟨h0,by simp⟩
 | halt a b=>rw [a.1] at b; simp at b
 | @go s1 s2 s3 x xs a b c ih=>
  have h1:=ih a.1
  refine ⟨h1.1, ?_⟩
  rw [h1.2,a.2.2,kq,uA,fh]
  by_cases hw:want x.1=true <;> simp [hw]
variable{e:aW}
theorem EA (q:Option Addr × Nat) (hk:a_ L (aI .i64) q.1 q.2 e.d7) (ho:kj e):bV L (λM=>f9 M bK [e] (fv e q)):=jZ (fI q (lk hk) ho)
theorem afg (l:List α):(l.filter λ_=>true)=l:=rD.2 λ_ _=>rfl
theorem Zw:Fn prog 57 #[.pointer (some ⟨b,0,none⟩),.slice none 0 0,.int .i64 65536] (og b by_ ap::L) (λv L'=>∃ A c,v=.slice A by_.flatten.length c/\L'=aN bK 49 A c by_.flatten::og b by_ ap::L):=by
 refine ye func57 J J J J<|aa<|bS J J J ?_
 intro b4
 refine bS J J J λb5=>ae J<|O ?_
 refine aa<|bB J J λb7=>O ?_
 refine ar<|aa<|Y J ?_
 refine aJ J J (R6) ?_
 rintro _ _ ⟨bl,rfl,rfl⟩
 refine O<|aX<|xY (λg:Bo=>[cells b7 [.slice g.A g.xs.length g.c] 42,aN bK 49 g.A g.c g.xs,cells b4 [.slice none 0 0] 34,cells b5 [.int .i64 65536] 3]) (Ni (λ_=>true)) (λg:Bo=>g.k) (⟨0,[],none,0,fo _⟩) J (R7 (b:=b) (bl:=bl) (by_:=by_) (ap:=ap)) ((du bK 49 none _).trans (show am _ ([cells b7 [.slice none ([]:List aW).length 0] 42,aN bK 49 none 0 [],cells b4 [.slice none 0 0] 34,cells b5 [.int .i64 65536] 3]++([og b by_ ap,cells bl [.pointer (some ⟨b,0,none⟩)] 128]++L)) from bu.g (L':=cells b7 [.slice none ([]:List aW).length 0] 42::aN bK 49 none 0 []::cells b4 [.slice none 0 0] 34::cells b5 [.int .i64 65536] 3::og b by_ ap::cells bl [.pointer (some ⟨b,0,none⟩)] 128::L))) (by decide) (λ_=>J) J (λs x s' h=>h.2.1) (λBg Bh g x Lx hx cL=> ?_) (λBi xs g oM gR=> ?_)
 ·obtain ⟨k,xs,A,c,gt⟩:=g
  dsimp only at cL ⊢
  simp only [dL,dm]
  refine b_ (a_.lay (a_.dT al hx.2)) ?_
  try simp only [dL,dm]
  refine aQ<|bB J J λb8=>aE J J ?_
  refine O ?_
  refine ⟨rfl,_,cR.g, ?_⟩
  refine aX<|ar<|aa ?_
  refine ax J J<|ab J J (bY J)<|ax J J ?_
  refine ab J J (eV J J)<|O<|ir J (by omega) ?_
  refine az<|ai<|aa ?_
  refine ax J J<|ao J<|bD J J ?_
  refine aB J J (Eu bR.nil x.1.dot) ?_
  refine dx 19 J (by unfold pB l7; simp <;> omega)<|ab J J (j0 J)<|O ?_
  refine cg J<|aQ<|ax J J ?_
  refine bD J J<|ef J J J J J J λPr=> ?_
  refine eh (k:=1) bK [x.1] (EA x.2 slk hx.1.1) J (by decide)<|bF<|aV 23 (.slice (some ⟨Pr,0,none⟩) [x.1].length 1) J ?_
  refine fi J J J J J slk (by simp only [dO,ej]; omega) λzh zj=>aE J J<|O ?_
  refine bA ?_
  exact ⟨⟨k+1,xs++[x.1],zh,zj,by simp; omega⟩,none,rfl,⟨rfl,rfl,by simp⟩,al⟩
 obtain ⟨⟨k2,ys,A4,c4,Wk⟩,j⟩:=g
 obtain ⟨hj,h2⟩:=UJ rfl gR
 dsimp only at hj h2
 subst hj
 have rk:=oM.1 rfl
 rw [afg,rk,dm] at h2
 subst h2
 try simp only [dL,dm]
 refine RX (id:=0) (.inl rfl) (λhj=> ?_) (λhj=> ?_)
 ·refine bA<|ai<|aa ?_
  refine ax J J<|ae J<|O ?_
  exact av<|qZ<|aZ J J al (⟨A4,c4,J,J⟩)
 refine cu<|ai<|aa ?_
 refine ax J J<|ae J<|O ?_
 exact av<|qZ<|aZ J J al (⟨A4,c4,J,J⟩)
def vh (by_:List (List aW)) (seen:List Int) (o:Nat):Option aW:=match (by_.getD o [])[(seen.getD o 0).toNat]? with
 | some e=>if 0<=seen.getD o 0/\mb e.d7 seen=true then some e else none
 | none=>none
def Fr (by_:List (List aW)) (seen:List Int):List Nat->Option aW
 | []=>none
 | o::r=>match vh by_ seen o with
  | some e=>some e
  | none=>Fr by_ seen r
def p7 (by_:List (List aW)) (seen:List Int) (k:Nat):Option aW:=Fr by_ seen ((List.range 7).drop k)
theorem aaV {seen:List Int} {k:Nat} (h:k < 7):p7 by_ seen k=match vh by_ seen k with | some e=>some e | none=>p7 by_ seen (k+1):=by
 unfold p7
 rw [xQ (by simpa using h)]
 simp [Fr]
theorem aci {seen:List Int}:p7 by_ seen 7=none:=rfl
abbrev xC:aW:=⟨(0,0),[],⟨#[]⟩,0,⟨#[]⟩,0,false⟩
abbrev DU (bl bs b:Nat) (A:Option Addr) (c:Nat) (seen:List Int) (by_:List (List aW)) (ap:List Int) (L:List HP):List HP:=cells bl [.pointer (some ⟨b,0,none⟩)] 128::cells bs [.slice A seen.length c] 34::aN (aI .i64) 3 A c seen::og b by_ ap::L
theorem aaW {seen:List Int} (zz:7<=seen.length):Fn prog 312 #[.pointer (some ⟨bl,0,none⟩),.pointer (some ⟨bs,0,none⟩)] (DU bl bs b A c seen by_ ap L) (λv L'=>∃ p,v=.tuple #[mt ((p7 by_ seen 0).getD xC) p,.bool (p7 by_ seen 0).isSome]/\L'=sl (aI .i64) p.1 p.2 ((p7 by_ seen 0).getD xC).d7::DU bl bs b A c seen by_ ap L):=by
 refine aH func312 J J J J<|aa<|bB J J ?_
 intro b2
 refine ae J<|O<|ar ?_
 refine cQ b<|Bn λp hi=> ?_
 have DR:=NO hi.1 hi.2
 refine aa<|ax J J<|aS J ?_
 refine ao J<|ax J J<|ab J J (bY J) ?_
 refine Y J<|O<|aX ?_
 refine cY (σ:=Nat) [1,2,10,11] (λi=>i<=7/\p7 by_ seen i=p7 by_ seen 0) (λi kv=>(12,.int .i64 (i:Int))::kv) (λi=>cells b2 (fv xC (none,0)) 49::ns b ap p (cells bl [.pointer (some ⟨b,0,none⟩)] 128::cells bs [.slice A seen.length c] 34::aN (aI .i64) 3 A c seen::L)) (λi=>7 - i) (0) J (⟨dF _,J⟩) (al) (dc J) ?_
 rintro i ⟨JV,jF⟩
 refine aa<|ab J J (bU J J)<|O ?_
 refine ar<|bz J (λka=> ?_) (λka=> ?_)
 ·refine az<|ai<|ar ?_
  refine aX ?_
  obtain ⟨x,kC⟩:∃ x,p.q[i]? =some x:=⟨_,cj (by omega)⟩
  have ic:=Ow hi.2 kC
  have W4:=hi.1.ok x.2 (eA ic)
  have Pu:by_.getD i []=x.2:=by rw [zL,ic]; rfl
  obtain ⟨n,hn⟩:∃ n,seen[i]? =some n:=⟨_,cj (by omega)⟩
  have Pv:seen.getD i 0=n:=by rw [zL,hn]; rfl
  have cK:=aaV (by_:=by_) (seen:=seen) (k:=i) (by omega)
  have kY:=Mz (eA ic)
  have wY:=hi.1.eU
  refine aa<|Y J<|f6 J J J (by simp [DR]) (bR.dT bu.g (gp (R:=pD) (t:=42) (A:=p.A) (c:=p.c) (xs:=pE p.q) (L:=[]))) (wy kC) ?_
  intro akv akw akx Oz
  have OA:=wy kC
  refine ab J J (gi J Oz OA J)<|ae J<|ae J ?_
  refine O<|aa<|ax J J ?_
  refine Y J<|f6 J J J (J) (bR.dT bu.g (gp (R:=aI .i64) (t:=3) (A:=A) (c:=c) (xs:=seen) (L:=[]))) (hn) λal_ al' ama aky=> ?_
  have akz:=hn
  refine ab J J (gi J aky akz J)<|ae J<|O ?_
  rcases (show n < 0\/(0<=n/\(x.2.length:Int)<=n)\/(0<=n/\n < (x.2.length:Int)) by omega) with hc | hc | hc
  ·have DV:vh by_ seen i=none:=by unfold vh; rw [Pu,Pv]; split; exact if_neg (by omega); rfl
   refine bW _ [] [0,2,4,6,8,10,12,14,16,18,20,28,23,24,27,31,32] (by kernel_rfl) (am.refl _)<|aq J J<|ak J J (eV J J) ?_
   refine lZ 22 J (by omega)<|aq J J<|aD J J ?_
   refine aD J J<|aD J J<|aD J J ?_
   refine ak J J (dG J J)<|aq J J<|aD J J ?_
   refine aD J J<|aD J J<|an J ?_
   refine ah J<|au<|aD J J ?_
   refine an J<|ah J<|au ?_
   refine an J<|ah J<|au ?_
   refine ak J J (dG J J)<|aR<|aT J ?_
   refine az<|bA<|ai ?_
   refine aQ<|ab J J (bE J J (by omega))<|cz 42 J ?_
   refine Y J<|O<|ai ?_
   exact ⟨i+1,⟨by omega,by rw [<- jF,cK,DV]⟩,by omega,bO rfl⟩
  ·have DV:vh by_ seen i=none:=by unfold vh; rw [Pu,Pv,xT (by omega)]
   refine bW _ [] [0,2,4,6,8,10,12,14,16,18,20,28,23,24,27,31,32] (by kernel_rfl) (am.refl _)<|aq J J<|ak J J (eV J J) ?_
   refine pJ 22 J (by omega)<|aq J J<|aC J J (cU J) ?_
   refine aC J J (cU J)<|aC J J (bY J)<|aC J J (bU J J) ?_
   refine lZ 27 J (by dsimp only; omega)<|ak J J (d9 J J)<|aq J J ?_
   refine aD J J<|aD J J<|aD J J ?_
   refine an J<|ah J<|au ?_
   refine aD J J<|an J<|ah J ?_
   refine au<|an J<|ah J ?_
   refine au<|ak J J (dG J J)<|aR ?_
   refine aT J<|az<|bA ?_
   refine ai<|aQ<|ab J J (bE J J (by omega)) ?_
   refine cz 42 J<|Y J<|O ?_
   refine ai ?_
   exact ⟨i+1,⟨by omega,by rw [<- jF,cK,DV]⟩,by omega,bO rfl⟩
  obtain ⟨e,he⟩:∃ e,x.2[n.toNat]? =some e:=⟨_,cj (by omega)⟩
  have DV:vh by_ seen i=if mb e.d7 seen=true then some e else none:=by unfold vh; rw [Pu,Pv,he]; by_cases hb:mb e.d7 seen=true <;> simp [hb,hc.1]
  refine bW _ [] [0,2,4,6,8,10,12,14,16,18,20,28,23,24,27,31,32] (by kernel_rfl) (am.refl _)<|aq J J<|ak J J (eV J J) ?_
  refine pJ 22 J (by omega)<|aq J J<|aC J J (cU J) ?_
  refine aC J J (cU J)<|aC J J (bY J)<|aC J J (bU J J) ?_
  refine pJ 27 J (by dsimp only; omega)<|ak J J (d9 J J)<|aq J J ?_
  refine aC J J (cU J)<|aC J J (cU J)<|er 31 (v':=.int .i64 ((n.toNat:Nat):Int)) J (by congr 1; omega) ?_
  refine aC J J (dY J J)<|an J<|aj J ?_
  refine f6 J J J (J) (bR.dT bu.g (NN (L:=[]) kC)) (he) λamb amc V_ I9=> ?_
  have akA:=he
  refine au<|aC J J (cp J)<|an J ?_
  refine aj J<|KU J J I9 akA (λ_=>J) λW7 amd=> ?_
  simp only [dL,dm]
  refine au<|an J<|aj J ?_
  refine aB J J (Hx (a_.n (slk (A:=W7.1) (c:=W7.2))) (bR.dT bu.g (gp (R:=aI .i64) (t:=3) (A:=A) (c:=c) (xs:=seen) (L:=[])))) ?_
  refine au<|ak J J (d9 J J)<|aR ?_
  refine gF J (λlG=> ?_) (λlG=> ?_)
  ·have hrs:p7 by_ seen 0=some e:=by rw [<- jF,cK,DV,if_pos lG]
   refine aa<|Y J<|Y J ?_
   refine br 39 (v':=.int .i64 ((n.toNat:Nat):Int)) J (by congr 1; omega)<|f6 J J J (J) (bR.dT bu.g (NN (L:=[]) kC)) (he) λame amf amg akB=> ?_
   have akC:=he
   refine kh J J akB akC (λ_=>J) λBT amh=> ?_
   simp only [dL,dm]
   refine aE J J<|ae J<|O ?_
   refine av<|db<|aU ?_
   refine aU<|db<|aU ?_
   rw [hrs]
   simp only [vT,tD]
   refine aF.ay (show am _ (sl (aI .i64) BT.1 BT.2 e.d7::cells b2 (fv e BT) 49::DU bl bs b A c seen by_ ap L) from (bu.g (L':=sl (aI .i64) BT.1 BT.2 e.d7::cells b2 (fv e BT) 49::ns b ap p (cells bl [.pointer (some ⟨b,0,none⟩)] 128::cells bs [.slice A seen.length c] 34::aN (aI .i64) 3 A c seen::L))).trans ((am.cons _ (am.cons _ (wu hi))).trans bu.g)) ?_
   exact kK (.inl rfl) rfl (bf.agg rfl rfl) (bf.tmp rfl) bu.g (⟨BT,rfl,rfl⟩)
  have hrn:p7 by_ seen (i+1)=p7 by_ seen 0:=by rw [<- jF,cK,DV,if_neg (by rw [lG]; decide)]
  refine az<|bA<|ai ?_
  refine aQ<|ab J J (bE J J (by omega))<|cz 42 J ?_
  refine Y J<|O<|ai ?_
  exact ⟨i+1,⟨by omega,hrn⟩,by omega,bO rfl⟩
 refine cw<|aY<|aY ?_
 refine cu<|ai<|aa ?_
 refine ab J J (bI J J)<|aE J J<|ae J ?_
 refine O<|av ?_
 obtain rfl:i=7:=by omega
 rw [<- jF,aci]
 simp only [Option.getD_none,vS]
 refine aF.ay (dP (A:=none) (c:=0) (R:=aI .i64)).lay ?_
 refine aF.ay (show am _ (sl (aI .i64) none 0 ([]:List Int)::cells b2 (fv xC (none,0)) 49::DU bl bs b A c seen by_ ap L) from (bu.g (L':=sl (aI .i64) none 0 ([]:List Int)::cells b2 (fv xC (none,0)) 49::ns b ap p (cells bl [.pointer (some ⟨b,0,none⟩)] 128::cells bs [.slice A seen.length c] 34::aN (aI .i64) 3 A c seen::L))).trans ((am.cons _ (am.cons _ (wu hi))).trans bu.g)) ?_
 exact kK (.inl rfl) rfl (bf.agg rfl rfl) (bf.tmp rfl) bu.g (⟨(none,0),rfl,rfl⟩)
def xc (seen:List Int) (e:aW):List Int:=seen.set e.dot.1.toNat (seen.getD e.dot.1.toNat 0+1)
def gA:Nat->List (List aW)->List Int->List aW
 | 0,_,_=>[]
 | k+1,by_,seen=>match p7 by_ seen 0 with
  | none=>[]
  | some e=>e::gA k by_ (xc seen e)
theorem aaX {seen:List Int} {k:Nat} (h:p7 by_ seen 0=some e):gA (k+1) by_ seen=e::gA k by_ (xc seen e):=by simp only [gA,h]
theorem R9 (by_:List (List aW)):∀ (k:Nat) (seen:List Int),(gA k by_ seen).length<=k
 | 0,_=>fo _
 | k+1,seen=>by
  unfold gA
  split
  ·simp
  ·have:=R9 by_ k (xc seen (by assumption)); simp; omega
theorem afh {seen:List Int} {o:Nat} (h:vh by_ seen o=some e):∃ es∈by_,e∈es:=by
 unfold vh at h
 split at h
 ·rename_i e' he
  split at h
  ·obtain rfl:=ez h
   rw [zL] at he
   cases hb:by_[o]? with
   | none=>rw [hb] at he; simp at he
   | some es=>rw [hb] at he; exact ⟨es,eA hb,eA he⟩
  ·cases h
 ·cases h
theorem S4 {by_:List (List aW)} {seen:List Int}:∀ {l:List Nat} {e:aW},Fr by_ seen l=some e->∃ es∈by_,e∈es
 | [],_,h=>by cases h
 | o::r,e,h=>by
  unfold Fr at h
  split at h
  ·rename_i e' he; obtain rfl:=ez h; exact afh he
  ·exact S4 h
structure akD where
 out:List aW
 A:Option Addr
 c:Nat
 seen:List Int
def hQ (v:List Int):List Int:=v++List.replicate 7 0
theorem Zx (hk:a_ L (aI .i64) A c v) (hv:∀ x∈v,0<=x/\x<=2147483647) (hl:v.length<=1048576):Fn prog 200 #[.pointer (some ⟨b,0,none⟩),.slice A v.length c,.int .i64 16] (og b by_ ap::L) (λr L'=>∃ A' c',r=.slice A' (gA 16 by_ (hQ v)).length c'/\L'=aN bK 49 A' c' (gA 16 by_ (hQ v))::og b by_ ap::L):=by
 refine aH func200 J J J J<|aa<|bS J J J ?_
 intro b3
 refine ae J<|O<|ar ?_
 refine aa<|ax J J ?_
 refine aP b<|aB J J (HE) ?_
 refine aV 13 (.bool true) J<|ab J J (df J)<|O ?_
 refine aT J<|az<|ai ?_
 refine cQ b<|VG λhI=>aa ?_
 refine Y J<|aJ J J (gz (a_.n (a_.tail (a_.tail hk))) (by omega)) ?_
 rintro _ _ ⟨rm,rn,rfl,rfl⟩
 refine Qu (R:=aI .i64) (m:=7) (0:Int) J J J J J (λ_=>⟨J,by decide⟩) (by first | omega | (simp; omega)) λn7 mR=> ?_
 rw [show v++List.replicate 7 0=hQ v from rfl]
 refine bB J J λb7=>aE J J<|O ?_
 refine aa<|ab J J (gy J J)<|ae J ?_
 refine O<|aa<|ae J ?_
 refine O<|ar<|aX ?_
 refine cY (σ:=akD × (Option Addr × Nat)) [2,7,8] (λg=>(∀ x∈g.1.seen,0<=x/\x<=2147483647+(g.1.out.length:Int))/\7<=g.1.seen.length/\g.1.out++gA (16 - g.1.out.length) by_ g.1.seen=gA 16 by_ (hQ v)/\g.1.out.length<=16) (λg kv=>(9,.slice g.2.1 g.1.out.length g.2.2)::kv) (λg=>aN bK 49 g.2.1 g.2.2 g.1.out::DU b3 b7 b g.1.A g.1.c g.1.seen by_ ap L) (λg=>16 - g.1.out.length) ((⟨[],n7,mR,hQ v⟩,(none,0))) J (⟨by intro x hx; simp only [hQ,gD] at hx; rcases hx with h | h; have:=hv x h; simp; omega; (rw [Kl h]; simp),by simp [hQ],by simp,by simp⟩) (am.trans (du bK 49 none _) (am.cons _ al)) (dc J) ?_
 rintro ⟨⟨out,A2,c2,seen⟩,A3,c3⟩ ⟨hb,Gn,DW,xh⟩
 dsimp only at hb Gn DW xh ⊢
 refine ar<|aa<|Y J ?_
 refine ab J J (bY J)<|Y J<|ab J J (bU J J) ?_
 refine O<|bz J (λiT=> ?_) (λiT=> ?_)
 ·refine az<|ai<|aX ?_
  refine aa<|Y J ?_
  refine bX (show am _ (DU b3 b7 b A2 c2 seen by_ ap (aN bK 49 A3 c3 out::L)) from al) ?_
  refine jx J J J ((show Fn _ _ #[.pointer (some ⟨b3,0,none⟩),.pointer (some ⟨b7,0,none⟩)] _ _ from aaW Gn)) ?_
  rintro _ _ ⟨sk,rfl,rfl⟩
  refine Y J<|ab J J (aO J J)<|ab J J (aO J J) ?_
  refine bB J J λmr=>aE J J<|ae J ?_
  refine O<|ar ?_
  rcases jF:p7 by_ seen 0 with _ | e
  ·simp only [Option.getD_none,vT,vS,tD]
   refine aa<|Y J<|aV 28 (.bool false) J ?_
   refine ab J J (j0 J)<|O<|cg J ?_
   refine cw<|aY<|z9 J ?_
   refine aY<|cu<|ai ?_
   refine aa<|Y J<|ae J ?_
   refine O<|av ?_
   have iU:out=gA 16 by_ (hQ v):=by rw [<- DW,show 16 - out.length=(15 - out.length)+1 by omega]; unfold gA; rw [jF]; simp
   rw [<- iU]
   exact aZ J J al (⟨A3,c3,J,J⟩)
  simp only [Option.getD_none,vT,vS,tD]
  refine aa<|Y J<|aV 28 (.bool true) J ?_
  refine ab J J (df J)<|O<|aT J ?_
  refine az<|ai ?_
  obtain ⟨es,tj,Pw⟩:=S4 jF
  have JZ:=hI.ok es tj e Pw
  obtain ⟨o,ho⟩:∃ o:Nat,e.dot.1=(o:Int):=⟨e.dot.1.toNat,by have:=JZ.2.2; omega⟩
  have W8:o < 7:=by have:=JZ.2.2; omega
  obtain ⟨n,hn⟩:∃ n,seen[o]? =some n:=⟨_,cj (by omega)⟩
  have rZ:=hb n (eA hn)
  refine aa<|Y J<|bD J J ?_
  refine aJ J J (Ht e sk (a_.n slk) JZ.1) ?_
  rintro _ _ ⟨Px,rfl,rfl⟩
  refine bF<|ef J J J J J J λPy=> ?_
  refine eh (k:=1) bK [e] (EA Px slk JZ.1) J (by decide)<|bF<|aV 33 (.slice (some ⟨Py,0,none⟩) [e].length 1) J ?_
  refine fi J J J J J slk (by simp only [dO,ej]; omega) λrq rt=>ae J<|O ?_
  refine aQ<|ax J J<|ao J ?_
  refine ao J<|ax J J<|br 38 (v':=.int .i64 (o:Int)) J (by rw [<- ho]) ?_
  refine Hv J J J (J) (hn) λOB ami Wl akE=> ?_
  obtain ⟨lv,rfl⟩:=wt akE
  refine wo 1 J<|TV λhv _=> ?_
  obtain rfl:lv=.int .i64 n:=by simpa using hv
  refine ab J J (fQ J J)<|ab J J (bE J J (by omega))<|br 35 (v':=.slice (some ⟨OB,0,none⟩) seen.length c2) J (by rw [Wl]) ?_
  refine ab J J (pS (R:=aI .i64) (xs:=seen) J J J hn)<|fc J J J J J J ?_
  refine jK (R:=aI .i64) OB (n+1) (bV.const λ_=>⟨J,da (by omega)⟩) ?_
  rw [show seen.set o (n+1)=xc seen e by unfold xc; rw [ho,zQ,zL,hn]; rfl]
  refine O<|bA<|ai ?_
  subst Wl
  have fW:(xc seen e).length=seen.length:=by simp [xc]
  rw [<- fW]
  exact ⟨(⟨out++[e],some ⟨OB,0,none⟩,c2,xc seen e⟩,(rq,rt)),⟨(by intro x hx; dsimp only at hx ⊢; unfold xc at hx; rcases G9 hx with h | h; have:=hb x h; simp; omega; (rw [h,ho,zQ,zL,hn]; simp; omega)),by dsimp only; omega,by dsimp only; rw [<- DW,show 16 - (out++[e]).length=15 - out.length by rw [eQ,Ce]; omega,show 16 - out.length=(15 - out.length)+1 by omega,aaX jF,fh]; try rfl,by simp; omega⟩,by simp; omega,bO rfl⟩
 refine cw<|aY<|aY ?_
 refine cu<|ai<|aa ?_
 refine Y J<|ae J<|O ?_
 refine av ?_
 have iU:out=gA 16 by_ (hQ v):=by rw [<- DW,show 16 - out.length=0 by omega]; simp [gA]
 rw [<- iU]
 exact aZ J J al (⟨A3,c3,J,J⟩)
theorem afi {d:gT} (h:Dg d):∀ M,Ds.fO M d (I_ d):=λ_=>⟨rfl,h⟩
structure FV where
 xs:List gT
 A:Option Addr
 c:Nat
def U':LS FV->gT->LS FV->Prop:=λs x s'=>s'.2=none/\s'.1.xs=s.1.xs++[x]
theorem agW {s s':LS FV} {xs:List gT} (h0:s.2=none) (h:gH U' (λs=> !s.2.isNone) s xs s'):s'.2=none/\s'.1.xs=s.1.xs++xs:=by
 induction h with
 | nil s=>exact ⟨h0,by simp⟩
 | halt a b=>rw [a.1] at b; simp at b
 | go a b c ih=>have:=ih a.1; rw [a.2] at this; simpa using this
variable{hY:Bool->List gT->Prop}
theorem X2 {c:Value} (hi:oA prog c (λk:gT=>[FG k]) Dg N Lf hY) (hN:N<=1099511627776):Fn prog 375 #[.slice none 0 0,c] (Lf++Lr) (λv L'=>∃ A' c' xs,v=.slice A' xs.length c'/\hY false xs/\L'=aN Ds 47 A' c' xs::(Lf++Lr)):=by
 refine ye func375 J J J J<|aa<|bS J J J ?_
 intro b2
 refine ae J<|O<|ar ?_
 refine aa<|Y J<|O ?_
 refine aX<|xY (λg:FV=>[cells b2 [.slice g.A g.xs.length g.c] 312,aN Ds 47 g.A g.c g.xs]) (U') (λg:FV=>g.xs.length) (⟨[],none,0⟩) J (hi) ((du Ds 47 none _).trans (am.swap _ _ _)) (by decide) (λ_=>J) J (λs x s' h=>by rw [h.2]; simp) (λBg Bh g x Lx hx cL=> ?_) (λBi xs g oM gR=> ?_)
 ·obtain ⟨xs,A,c⟩:=g
  dsimp only at cL
  try simp only [dL,dm]
  refine aQ<|bB J J λb5=>aE J J ?_
  refine O ?_
  refine ⟨rfl,_,cR.g, ?_⟩
  refine aX<|aQ<|ax J J ?_
  refine bD J J<|ef J J J J J J λmr=> ?_
  refine eh (k:=1) Ds [x] (bV.const λM=>⟨I_ x,[],afi hx M,J,J⟩) J (by decide)<|bF<|aV 10 (.slice (some ⟨mr,0,none⟩) [x].length 1) J ?_
  refine fi J J J J J slk (by simp only [dO,ej]; omega) λkZ k9=>aE J J<|O ?_
  exact bA<|⟨⟨xs++[x],kZ,k9⟩,none,J,⟨J,J⟩,al⟩
 obtain ⟨⟨ys,A,c⟩,j⟩:=g
 obtain ⟨rfl,h2⟩:=agW rfl gR
 dsimp only at h2
 rw [dm] at h2
 subst h2
 try simp only [dL,dm]
 refine Cm<|bA<|ai ?_
 refine aa<|ax J J<|ae J ?_
 refine O<|av<|qZ ?_
 exact aZ J J al (⟨A,c,ys,J,oM,J⟩)
theorem YU {c:Value} (hi:oA prog c (λk:gT=>[FG k]) Dg N Lf hY) (hN:N<=1099511627776):Fn prog 315 #[c] (Lf++Lr) (λv L'=>∃ A' c' xs,v=.slice A' xs.length c'/\hY false xs/\L'=aN Ds 47 A' c' xs::(Lf++Lr)):=by
 refine aH func315 J J J J<|aa<|ae J ?_
 refine O<|aa<|Y J ?_
 refine aJ J J (X2 hi hN) ?_
 rintro _ _ ⟨A4,c4,xs,rfl,hs,rfl⟩
 refine ae J<|O<|av ?_
 exact aZ J J al (⟨A4,c4,xs,J,hs,J⟩)
theorem aaY {τ:Type} {l:Nat} {C:τ->HP} {step:τ->gT->τ->Prop} {stop:τ->Bool} {ek:τ->Nat} {s0:τ} (h0:stop s0=false) (n6:ek s0=0) (ip:∀ s x s',step s x s'->ek s'=ek s+1) (hy:Ak prog l C (λk:gT=>[FG k]) Dg step stop ek 0):
  Fn prog 317 #[.func (.yield l) #[] #[],.pointer (some ⟨bx,0,none⟩)] (fP l (C s0)::cells bx [.map (some b)] 96::cy gB bK true b []::Lx)
   (λv L'=>∃ xs s',(stop s'=false->xs=[])/\gH step stop s0 xs s'/\L'=fP l (C s')::cells bx [.map (some b)] 96::cy gB bK true b []::Lx):=by
 refine aH func317 J J J J<|aa<|ax J J ?_
 refine Aa J J λit=>O<|aX ?_
 refine cY (σ:=Unit) [0,5] (λg=>True) (λg kv=>kv) (λg=>fP l (C s0)::na gB bK true b it [] []::cells bx [.map (some b)] 96::Lx) (λg=>0) (()) J (trivial) (al) (dc J) λg hg=>aa<|Ai J J (λhp=> ?_) (λq1 xo hq mK cL=> ?_)
 ·refine ab J J (aO J J)<|aV 7 (.bool false) J<|O ?_
  refine ar<|aT J<|cw ?_
  refine aY<|aY<|cu ?_
  refine aF.ay (tc it) ?_
  exact lj (.inr rfl) rfl bu.g (⟨[],s0,λ_=>rfl,.nil _,rfl⟩)
 exact absurd hq (by simp)
theorem acj:oA prog (.func (.func 317) #[] #[.pointer (some ⟨bx,0,none⟩)]) (λk:gT=>[FG k]) Dg 0 [cells bx [.map (some b)] 96,cy gB bK true b []] (λs ks=>s=false->ks=[]):=
 ⟨_,[],[.pointer (some ⟨bx,0,none⟩)],rfl,inferInstance,λτ l C step stop ek s0 Lx h0 hc ip hy=>(aaY h0 hc ip hy).rM λv L' ⟨xs,s',a1,a2,a3⟩=>⟨xs,s',a1,a2,a3⟩⟩
theorem ack:Fn prog 204 #[.map (some b)] L (λv L'=>∃ bx,v=.func (.func 317) #[] #[.pointer (some ⟨bx,0,none⟩)]/\L'=cells bx [.map (some b)] 96::L):=by
 refine aH func204 J J J J<|aa<|bS J J J ?_
 intro b1
 refine ae J<|O<|aa ?_
 refine ab J J (gy J J)<|ae J<|O ?_
 exact av<|aZ J J al (⟨b1,J,J⟩)
theorem acl (L:List HP):Fn prog 418 #[.slice A 0 c,.int .i64 0,.int .i64 0,f] L (λv L'=>v=.tuple #[]/\L'=L):=by
 refine aH func418 J J J J<|aa<|Y J ?_
 refine ab J J (bE J J (by omega))<|ae J<|O ?_
 refine aX<|cY (σ:=Unit) [0,1,2,3] (λg=>True) (λg kv=>(8,.int .i64 1)::kv) (λg=>L) (λg=>0) (()) J (trivial) (al) (dc J) λg hg=>ar ?_
 refine aa<|Y J<|Y J ?_
 refine ab J J (bU J J)<|br 14 (v':=.bool false) J (by simp)<|O ?_
 refine aT J<|cw<|aY ?_
 exact aY<|cu<|ei J
theorem acm {k:Int} (L:List HP):Fn prog 376 #[.slice A 0 c,.int .i64 0,.int .i64 0,.int .i64 k,f] L (λv L'=>v=.tuple #[]/\L'=L):=by
 refine aH func376 J J J J<|aa<|ae J ?_
 refine O<|aa<|ae J ?_
 refine O<|aX<|cY (σ:=Unit) [0,4] (λg=>True) (λg kv=>(1,.int .i64 0)::(2,.int .i64 0)::(3,.int .i64 k)::(10,.bool true)::(11,.bool true)::kv) (λg=>L) (λg=>0) (()) J (trivial) (al) (dc J) ?_
 intro g hg
 refine aX<|aa<|Y J ?_
 refine Y J<|ab J J (jb J J (by omega))<|ae J ?_
 refine O<|ar<|aa ?_
 refine Y J<|ab J J (sX J J)<|O ?_
 refine qN J (by decide)<|aa<|Y J ?_
 refine Y J<|Y J<|Y J ?_
 refine aB J J (acl _) ?_
 refine O<|av<|aU ?_
 refine db<|aU<|db ?_
 exact kR J
theorem aaZ (L:List HP):Fn prog 316 #[.slice A 0 c,f] L (λv L'=>v=.tuple #[]/\L'=L):=by
 refine aH func316 J J J J<|aa<|Y J ?_
 refine ab J J (bY J)<|ae J<|O ?_
 refine aQ<|Y J<|Y J ?_
 refine Y J<|ab J J (lO J)<|aV 10 (.int .u64 ((0:Nat):Int)) J ?_
 refine aB J J (QM _) ?_
 refine Y J<|aB J J (acm _) ?_
 exact O<|ei J
theorem Zy:Fn prog 203 #[.func (.func 317) #[] #[.pointer (some ⟨bx,0,none⟩)],f] (cells bx [.map (some b)] 96::cy gB bK true b []::L) (λv L'=>∃ A c,v=.slice A 0 c/\L'=cells bx [.map (some b)] 96::cy gB bK true b []::L):=by
 refine aH func203 J J J J<|aa<|ae J ?_
 refine O<|aa<|Y J ?_
 refine aJ J J (YU (Lf:=[cells bx [.map (some b)] 96,cy gB bK true b []]) (Lr:=L) acj (by decide)) ?_
 rintro _ _ ⟨A7,c7,xs,rfl,rk,rfl⟩
 refine br 7 (v':=.slice A7 0 c7) J (by rw [rk rfl]; rfl) ?_
 obtain rfl:=rk rfl
 simp only [dL,dm]
 refine ae J<|O<|aa ?_
 refine Y J<|Y J<|aB J J (aaZ _) ?_
 refine O<|aa<|Y J ?_
 refine ae J<|O<|av ?_
 refine aF.ay (am.drop _ _) ?_
 exact aZ J J al (⟨A7,c7,J,J⟩)
theorem Zz {p:vE}:Fn prog 450 #[.pointer (some ⟨b,0,none⟩)] (ns b ap p L) (λv L'=>∃ A c,v=.slice A 0 c/\L'=ns b ap p L):=by
 refine aH func450 J J J J<|aa<|ae J ?_
 refine O<|ar<|aa ?_
 refine Y J<|aB J J (adO) ?_
 refine aV 4 (.bool true) J<|ab J J (df J)<|O ?_
 refine aT J<|az<|ai ?_
 refine aa<|Y J<|aS J ?_
 refine ao J<|ax J J<|aJ J J (ack) ?_
 rintro _ _ ⟨bx,rfl,rfl⟩
 refine bX (show am _ (cells bx [.map (some p.bw)] 96::cy gB bK true p.bw []::cells b (Gx ap p) 330::aN pD 42 p.A p.c (pE p.q)::aN (aI .i64) 3 p.V p.cv ap::xB p.q::L) from al) ?_
 refine aJ J J (Zy) ?_
 rintro _ _ ⟨kZ,k9,rfl,rfl⟩
 refine ae J<|O<|av ?_
 exact aZ J J al (⟨kZ,k9,J,J⟩)
theorem adP {p:vE}:Fn prog 398 #[.pointer (some ⟨b,0,none⟩)] (ns b ap p L) (λv L'=>v=.tuple #[mt xC (none,0),.bool false]/\L'=ns b ap p L):=by
 refine aH func398 J J J J<|aa<|bB J J ?_
 intro b2
 refine ae J<|O<|ar ?_
 refine aa<|Y J ?_
 refine bX (show am _ (ns b ap p (cells b2 (fv xC (none,0)) 49::L)) from al) ?_
 refine aJ J J (Zz) ?_
 rintro _ _ ⟨A8,c8,rfl,rfl⟩
 refine ab J J (bY J)<|Y J<|O ?_
 refine aX<|cY (σ:=Unit) [0,2,8,9] (λg=>True) (λg kv=>(10,.int .i64 0)::kv) (λg=>ns b ap p (cells b2 (fv xC (none,0)) 49::L)) (λg=>0) (()) J (trivial) (al) (dc J) λg hg=>aa ?_
 refine ab J J (bU J J)<|O<|ar ?_
 refine ir J (by decide)<|cw<|aY ?_
 refine aY<|cu<|ai ?_
 refine aa<|ab J J (bI J J)<|aE J J ?_
 refine ae J<|O<|av ?_
 exact kK (.inl rfl) rfl (bf.agg rfl rfl) (bf.tmp rfl) bu.g (⟨rfl,rfl⟩)
def ky (by_:List (List aW)) (e:aW):List (List aW):=by_.set e.dot.1.toNat (by_.getD e.dot.1.toNat []++[e])
def ln (ap:List Int) (e:aW):List Int:=dK (qv ap e.dot.1.toNat e.dot.2)
theorem S5:∀ {v:List Int} {x:Int},x∈dK v->x∈v:=by
 intro v x hx
 obtain ⟨i,hi⟩:=od hx
 have h1:=Mv v i
 rw [hi] at h1
 cases hv:v[i]? with
 | none=>
  have h2:=H3 v
  have h3:=(dX.1 hi).1
  rw [List.getElem?_eq_none_iff] at hv
  omega
 | some y=>rw [hv] at h1; simp at h1; rw [h1]; exact eA hv
theorem agX {o:Nat} (h:vg ap) (ho:o < 7) (hx:0<=x/\x<=2147483647):vg (dK (qv ap o x)):=by
 refine ⟨?_,λn hn=> ?_⟩
 ·have h1:=H3 (qv ap o x)
  have h2:=UF ap o x
  have h3:=h.1
  omega
 ·have h1:=S5 hn
  unfold qv at h1
  rcases G9 h1 with h2 | h2
  ·rcases gD.1 h2 with h3 | h3
   ·exact h.2 n h3
   ·rw [Kl h3]; decide
  ·rw [h2]; exact hx
theorem TY:∀ {l:List (List aW)} {i:Nat} {x:List aW},l[i]? =some x->∀ e:aW,(l.set i (x++[e])).flatten.length=l.flatten.length+1
 | y::l,0,x,h,e=>by
  obtain rfl:y=x:=by simpa using h
  simp only [List.set_cons_zero,List.flatten_cons,eQ,dO,ej]; omega
 | y::l,i+1,x,h,e=>by
  have:=TY (l:=l) (i:=i) (x:=x) (by simpa using h) e
  simp only [Hb,List.flatten_cons,eQ,this]; omega
 | [],_,_,h,_=>by simp at h
theorem VJ (h:vD by_ ap) (he:Aw e):by_[e.dot.1.toNat]? =some (by_.getD e.dot.1.toNat []):=by
 have:=he.2.2
 rw [zL,cj (by rw [h.len]; omega)]; rfl
theorem vD.add (h:vD by_ ap) (he:Aw e) (hs:0<=e.dot.2/\e.dot.2<=2147483647) (ht:by_.flatten.length < 60000):vD (ky by_ e) (ln ap e):=by
 refine ⟨by simp [ky,h.len],agX h.BS (by have:=he.2.2; omega) hs, ?_, ?_⟩
 ·unfold ky; rw [TY (VJ h he)]; omega
 ·intro es tj x hx
  unfold ky at tj
  rcases G9 tj with h1 | h1
  ·exact h.ok es h1 x hx
  ·rw [h1] at hx
   rcases gD.1 hx with h2 | h2
   ·exact h.ok _ (eA (VJ h he)) x h2
   ·simp at h2; rw [h2]; exact he
theorem afj {x:mi}:(pE q).set i (x.1.1,x.2.length,x.1.2)=pE (q.set i x):=by show (List.map _ q).set i _=List.map _ (q.set i x); rw [l8]
theorem afk {x:mi}:(FU q).set i (aN bK 49 x.1.1 x.1.2 x.2)=FU (q.set i x):=by show (List.map _ q).set i _=List.map _ (q.set i x); rw [l8]
def W9 (q:List mi) (i:Nat):HP:=c_ ((FU q).set i gP)
theorem afl {x:mi} (h:q[i]? =some x):am (xB q::L) (aN bK 49 x.1.1 x.1.2 x.2::W9 q i::L):=wh (p:=aN bK 49 x.1.1 x.1.2 x.2) (by rw [e_,h]; rfl)
theorem agY (x:mi) (h:i < q.length) [h1:cR L (aN bK 49 x.1.1 x.1.2 x.2) L1] [h2:cR L1 (W9 q i) L2]:am L (xB (q.set i x)::L2):=
 (h1.g.trans (am.cons _ h2.g)).trans ((EL (q:=aN bK 49 x.1.1 x.1.2 x.2) (by simpa using h)).trans (by rw [afk]; exact am.refl _))
theorem ZA (e:aW) (p0:Option Addr × Nat) (hk:a_ L (aI .i64) p0.1 p0.2 e.d7) (he:Aw e) (hs:0<=e.dot.2/\e.dot.2<=2147483647) (ht:by_.flatten.length < 60000):Fn prog 397 #[.pointer (some ⟨b,0,none⟩),mt e p0] (og b by_ ap::L) (λv L'=>v=.tuple #[]/\L'=og b (ky by_ e) (ln ap e)::L):=by
 obtain ⟨o,ho⟩:∃ o:Nat,e.dot.1=(o:Int):=⟨e.dot.1.toNat,by have:=he.2.2; omega⟩
 have W8:o < 7:=by have:=he.2.2; omega
 have W_:e.dot.1.toNat=o:=by omega
 refine aH func397 J J J J ?_
 refine b_ (a_.lay (a_.tail hk)) ?_
 refine aa<|bS J J J λb3=>O ?_
 refine cQ b<|Bn λp hi=> ?_
 obtain ⟨A,c,q,V,cv,bw⟩:=p
 dsimp only at hi ⊢
 have DR:q.length=7:=NO hi.1 hi.2
 obtain ⟨x,kC⟩:∃ x,q[o]? =some x:=⟨_,cj (by omega)⟩
 have ic:=Ow hi.2 kC
 have kY:=Mz (eA ic)
 have amj:=hi.1.BS.1
 refine CQ A c (R:=pD) (te:=42) (xs:=pE q) (wy kC) λg hA=> ?_
 subst hA
 refine agG (xB q) ?_
 refine b_ (afl kC) ?_
 refine bW (cells b [.slice (some ⟨g,0,none⟩) 7 c,.slice V ap.length cv,.map (some bw)] 330::aN pD 42 (some ⟨g,0,none⟩) c (pE q)::cells b3 (fv e p0) 49::[]) [20] [0,2,4,6,8,10,12,14,16,18,20,22,24,26,28,30,32,35,37,38,41] (by kernel_rfl) al<|aq J J<|aL J J ?_
 refine aw J J<|aG J J J<|aw J J ?_
 refine aw J J<|aG J J J<|er 10 (v':=.int .i64 (o:Int)) J (by rw [<- ho]) ?_
 refine aq J J<|aL J J<|aw J J ?_
 refine aG J J J<|aw J J<|aw J J ?_
 refine aG J J J<|er 17 (v':=.int .i64 (o:Int)) J (by rw [<- ho])<|ak J J (pS (R:=pD) (xs:=pE q) J J (by simp [DR]) (wy kC)) ?_
 refine ak J J (adp (R:=pD) (c:=c) (xs:=pE q) (q:=0) J (bR.dT bu.g (gp (R:=pD) (t:=42) (A:=some ⟨g,0,none⟩) (c:=c) (xs:=pE q) (L:=[]))) (wy kC) J)<|cf J J J<|an J ?_
 refine ef J J J J J J λGB=> ?_
 refine eh (k:=1) bK [e] (EA p0 slk he.1) J (by decide)<|bF<|aV 21 (.slice (some ⟨GB,0,none⟩) [e].length 1) J ?_
 refine au<|an J ?_
 refine fi J J J J J slk (by simp only [dO,ej]; omega) λmS k_=>au<|ak J J (pS (R:=pD) (xs:=pE q) J J (by simp [DR]) (wy kC)) ?_
 refine an J ?_
 refine z_ (A:=some ⟨g,0,none⟩) (c:=c) (R:=pD) (wy kC) λg2 l2 DS n3=> ?_
 obtain ⟨rfl⟩:g2=g:=by cases DS; rfl
 obtain ⟨lv,rfl⟩:=wt n3
 refine fc J J J J J J ?_
 refine jK (R:=pD) g (mS,(x.2++[e]).length,k_) (bV.const λ_=>J) ?_
 rw [afj (x:=((mS,k_),x.2++[e]))]
 refine gZ J<|aR ?_
 refine b_ (agY (q:=q) (i:=o) ((mS,k_),x.2++[e]) (by omega)) ?_
 refine i5 (aN (aI .i64) 3 V cv ap::cells b3 (fv e p0) 49::[]) [] [0,2,4,6,10,12,14,16,18,20,9,23,24,26,28,30,32,35] (by kernel_rfl) al<|aq J J<|aq J J ?_
 refine aL J J<|aw J J<|aw J J ?_
 refine aw J J<|aG J J J<|er 32 (v':=.int .i64 (o:Int)) J (by rw [<- ho]) ?_
 refine aw J J<|aw J J<|aG J J J ?_
 refine an J<|ax J J<|au ?_
 refine an J<|aJ J J (aaI o e.dot.2 (bR.dT bu.g (gp (R:=aI .i64) (t:=3) (A:=V) (c:=cv) (xs:=ap) (L:=[]))) (by omega) W8 hs) ?_
 rintro _ _ ⟨J0,J1,rfl,rfl⟩
 refine au<|aq J J<|ak J J (aO J J) ?_
 refine ak J J (aO J J)<|aL J J<|aw J J ?_
 refine an J<|aE J J<|au ?_
 refine aR ?_
 have hn:=hi.1.add he hs ht
 rw [show dK (qv ap o e.dot.2)=ln ap e from by unfold ln; rw [W_]]
 refine aF.ay (TW (A:=some ⟨g,0,none⟩) (c:=c) (V:=J0) (cv:=J1) (bw:=bw) (q:=q.set o ((mS,k_),x.2++[e])) b (ky by_ e) (ln ap e) hn (by unfold ky; rw [l8,hi.2,W_,zL,ic]; rfl)) ?_
 exact ei J
def wz (ap:List Int) (e:aW):Prop:=e.dot.2=l7 ap e.dot.1+1/\mb e.d7 ap=true
instance (ap:List Int) (e:aW):Decidable (wz ap e):=by unfold wz; exact inferInstance
theorem YV {p:vE} (e:aW) (p0:Option Addr × Nat) (hk:a_ L (aI .i64) p0.1 p0.2 e.d7) (hm:vg ap):Fn prog 337 #[.pointer (some ⟨b,0,none⟩),mt e p0] (ns b ap p L) (λv L'=>v=.bool (decide (wz ap e))/\L'=ns b ap p L):=by
 have hof:0<=l7 ap e.dot.1/\l7 ap e.dot.1<=2147483647:=by
  unfold l7
  split
  ·decide
  ·cases h:ap[e.dot.1.toNat]? with
   | none=>simp
   | some x=>have:=hm.2 x (eA h); simpa using this
 refine aH func337 J J J J ?_
 refine b_ (a_.lay (hk.tail.tail.tail.tail.tail)) ?_
 refine aa<|bS J J J λb3=>ae J ?_
 refine O<|bW _ [] [0,2,4,6,8,10,12,14,16,18,21,22,24,26,28,30,32,34,36,38,41,42,44] (by kernel_rfl) (am.refl _)<|aw J J ?_
 refine aw J J<|aG J J J<|aq J J ?_
 refine aL J J<|aw J J<|aG J J J ?_
 refine aw J J<|aw J J<|aG J J J ?_
 refine an J<|aB J J (yf (bR.dT bu.g (gp (R:=aI .i64) (t:=3) (A:=p.V) (c:=p.cv) (xs:=ap) (L:=[]))) e.dot.1) ?_
 refine au<|ak J J (bE J J (by omega))<|ak J J (ce J J) ?_
 refine aq J J<|gE 18 J (λjG=> ?_) (λjG=> ?_)
 ·refine aC J J (dp J)<|aC J J (dY J J)<|aC J J (cU J) ?_
  refine aC J J (gc J)<|aC J J (dp J)<|aC J J (dY J J) ?_
  refine an J<|aj J<|aB J J (Hx (a_.n (a_.dT bu.g (slk (L:=[sl (aI .i64) p0.1 p0.2 e.d7])))) (bR.dT bu.g (gp (R:=aI .i64) (t:=3) (A:=p.V) (c:=p.cv) (xs:=ap) (L:=[])))) ?_
  refine au<|ak J J (d9 J J)<|ak J J (bT J) ?_
  exact aR<|av<|aZ J J al (⟨by unfold wz; simp [jG],J⟩)
 refine aD J J<|aD J J<|aD J J ?_
 refine aD J J<|aD J J<|aD J J ?_
 refine an J<|ah J<|au ?_
 refine ak J J (dG J J)<|ak J J (bT J)<|aR ?_
 exact av<|aZ J J al (⟨by rw [cJ (λh=>jG h.1)],J⟩)
open Go Go.Proofs Go.Proofs.Tryz
variable{ty:TypeId}
theorem Q5 {κ:Type} [DecidableEq κ] {K:hU κ} {R:bZ α} {x y:Operand} {kt et:TypeId} {z:Value} {k:κ} [ht:dy P t (.map kt et)] [hf:iI L b κ α K R ag [] L0] [hk:kw P kt K] [hz:l_ P et z] (hx:ev E x=some (.map (some b))) (hy:ev E y=some (K.enc k)) (cX:K.ok k):
  Yl P E L (.lookup t x y true) ty (.tuple #[z,.bool false]):=λn D W a w dst pos af g ha hs=>by
 rcases wk (P:=P) (t:=t) (kt:=kt) (et:=et) (z:=z) cX true (hs.ay hf.g) with ⟨g1,g2⟩ | ⟨u,cs,g1,g2,g3⟩
 ·simp [execOp,ha.ev hx,ha.ev hy,g2]
 ·simp [cq] at g1
theorem aco (L:List HP):Fn prog 229 #[] L (λv L'=>∃ b,v=.pointer (some ⟨b,0,none⟩)/\L'=og b (List.replicate 7 []) []::L):=by
 refine aH func229 J J J J<|aa<|ae J<|O<|aa<|wq pD (none,0,0) (m:=7) (k:=7) J J J (fo _) (by decide) (by decide) J J J (λ_=>J) λb1=>o7 gB bK true J λbt=>ab J J (bI J J)<|bS J J J λb4=>ae J<|O<|av ?_
 simp only [tC]
 rw [show (List.replicate 7 ((none,0,0):Option Addr × Nat × Nat))=pE (List.replicate 7 ((none,0),[])) from rfl]
 exact aF.ay (du (aI .i64) 3 none _)<|aF.ay (show am _ (xB (List.replicate 7 ((none,0),[]))::_) from (du bK 49 none _).trans ((du bK 49 none _).trans ((du bK 49 none _).trans ((du bK 49 none _).trans ((du bK 49 none _).trans ((du bK 49 none _).trans ((du bK 49 none _).trans (g9 (L:=FU (List.replicate 7 ((none,0),[])))))))))))<|aF.ay (TW (A:=some ⟨b1,0,none⟩) (c:=7) (V:=none) (cv:=0) (bw:=bt) (q:=List.replicate 7 ((none,0),[])) b4 (List.replicate 7 []) [] ⟨by simp,by unfold vg; simp,by decide,by intro es tj e he; rw [Kl tj] at he; cases he⟩ (by simp))<|aZ J J al (⟨b4,J,J⟩)
def t_ (e:aW):Prop:=j7 (iZ e ([],false))=0/\1<=e.dot.2/\l7 e.d7 e.dot.1=e.dot.2 - 1
instance (e:aW):Decidable (t_ e):=by unfold t_; exact inferInstance
theorem Cp (h:nb e):Aw e/\pm e<=300:=by
 have h1:=h.1; have h2:=h.2.1; have h5:=h.2.2.2.2.1; have h7:=h.2.2.2.2.2.2
 unfold de at h1 h2 h5 h7
 have hn1:=h.2.2.2.1.2.2; have DN:=h.2.2.2.2.2.1.2.2; have hv:=h.2.2.1.2.1
 refine ⟨⟨⟨da (by omega),da (by omega),by omega,by simp only [cE]; omega,da (by omega),by simp only [cE]; omega,da (by omega)⟩,by omega,by omega⟩, ?_⟩
 unfold pm; omega
theorem Fs (h:t_ e):nb e:=(adi h.1).1
theorem R_ (e:aW) (p:Option Addr × Nat) (hk:a_ L (aI .i64) p.1 p.2 e.d7) (ho:kj e) (hc:pm e<=140737488355328):Fn prog 271 #[mt e p] L (λv L'=>v=.bool (decide (t_ e))/\L'=L):=by
 have dW:=i64In ho.2.1
 refine aH func271 J J J J<|aa<|bS J J J λb1=>ae J<|O<|aa<|bD J J<|aJ J J (Et e ho hk.tail hc) ?_
 rintro _ _ ⟨A7,c7,rfl,rfl⟩
 refine Y J<|ab J J (aO J J)<|ab J J (aO J J)<|ae J<|ae J<|O<|b_ (am.drop _ _)<|bW _ [] [0,2,4,6,8,10,12,14,16,18,20,22,24,26,30,32,34,36,29,38,40,42] (by kernel_rfl) (am.refl _)<|aq J J<|ak J J (ce J J)<|aq J J<|gE 12 J (λf2=> ?_) (λf2=> ?_)
 ·refine aC J J (dp J)<|aC J J (dp J)<|aC J J (dY J J)<|aC J J (eV J J)<|ak J J (d9 J J)<|aq J J<|gE 18 J (λjG=> ?_) (λjG=> ?_)
  ·exact aC J J (dp J)<|aC J J (dY J J)<|aC J J (dp J)<|aC J J (dp J)<|aC J J (dY J J)<|aC J J (dp J)<|aC J J (dp J)<|aC J J (dY J J)<|aC J J (jb J J (by omega))<|an J<|aj J<|aB J J (yf (a_.n (a_.dT al hk)) e.dot.1)<|au<|aC J J (ce J J)<|ak J J (d9 J J)<|ak J J (bT J)<|aR<|av<|aZ J J al (⟨bi Value.bool (gX.2 ⟨λh=>⟨f2,jG,h⟩,λh=>h.2.2⟩),J⟩)
  exact aD J J<|aD J J<|aD J J<|aD J J<|aD J J<|aD J J<|aD J J<|aD J J<|aD J J<|an J<|ah J<|au<|aD J J<|ak J J (dG J J)<|ak J J (bT J)<|aR<|av<|aZ J J al (⟨by rw [cJ (λh=>jG h.2.1)],J⟩)
 exact aD J J<|aD J J<|aD J J<|aD J J<|ak J J (dG J J)<|aq J J<|aD J J<|aD J J<|aD J J<|aD J J<|aD J J<|aD J J<|aD J J<|aD J J<|aD J J<|an J<|ah J<|au<|aD J J<|ak J J (dG J J)<|ak J J (bT J)<|aR<|av<|aZ J J al (⟨by rw [cJ (λh=>f2 h.1)],J⟩)
abbrev Pz (b b3:Nat) (e:aW) (p0:Option Addr × Nat) (by_:List (List aW)) (ap:List Int):Option (Option Addr × Nat)->List HP->List HP
 | none,L=>cells b3 (fv e p0) 49::og b by_ ap::L
 | some q,L=>cells b3 (fv xC (none,0)) 49::aN bK 49 q.1 q.2 [e]::og b (ky by_ e) (ln ap e)::L
abbrev PA:Option (Option Addr × Nat)->Value
 | none=>.slice none 0 0
 | some q=>.slice q.1 1 q.2
theorem ZB (e:aW) (p0:Option Addr × Nat) (hk:a_ L (aI .i64) p0.1 p0.2 e.d7) (he:Aw e) (hs:0<=e.dot.2/\e.dot.2<=2147483647) (ht:by_.flatten.length < 60000):Fn prog 338 #[.pointer (some ⟨b,0,none⟩),mt e p0] (og b by_ ap::L) (λv L'=>∃ A c,v=.slice A 1 c/\L'=aN bK 49 A c [e]::og b (ky by_ e) (ln ap e)::L):=by
 refine aH func338 J J J J<|aa<|bS J J J λb3=>ae J<|O<|aa<|ae J<|O<|ar<|aa<|ae J<|O<|aX<|cY (σ:=Option (Option Addr × Nat)) [0,3] (λg=>True) (λg kv=>(6,.bool g.isNone)::(5,PA g)::kv) (λg=>Pz b b3 e p0 by_ ap g L) (λg=>if g.isNone then 1 else 0) (none) J (trivial) ((show am _ (cells b3 (fv e p0) 49::og b by_ ap::L) from al)) (dc J) λg hg=>ar ?_
 rcases g with _ | ⟨A2,c2⟩
 ·simp only [Pz,PA,Option.isNone_none]
  refine aa<|Y J<|aV 7 (.bool true) J<|O<|cg J<|az<|ai<|aX<|aa<|Y J<|bD J J<|aP b<|aB J J (ZA e p0 (a_.tail hk) he hs ht)<|O<|cQ b<|VG λhI=>aa<|Y J<|bD J J<|aJ J J (Ht e p0 (a_.n (a_.tail (a_.tail hk))) he.1) ?_
  rintro _ _ ⟨q13,rfl,rfl⟩
  refine bF<|ef J J J J J J λxx=>eh (k:=1) bK [e] (EA q13 slk he.1) J (by decide)<|bF<|aV 14 (.slice (some ⟨xx,0,none⟩) [e].length 1) J<|bX (du bK 49 none _)<|aV 11 (.slice none ([]:List aW).length 0) J<|fi J J J J J slk (by (try simp only [eQ,dO,ej]); omega) λvB uk=>aV 15 (.slice vB 1 uk) J ?_
  simp only [dm]
  refine ae J<|O<|ar<|cQ b<|Bn λp hi=>aa<|Y J<|aB J J (Rx hi.1.BS)<|O<|bz J (λgx=> ?_) (λgx=> ?_)
  ·exact b_ (wu hi)<|cw<|aY<|z9 J<|aY<|cu<|ai<|aa<|Y J<|ae J<|O<|av<|aZ J J al (⟨vB,uk,J,J⟩)
  exact az<|ai<|aa<|Y J<|aB J J (adP)<|bX (wu hi)<|Y J<|ab J J (aO J J)<|ab J J (aO J J)<|aV 22 (.bool false) J<|aE J J<|ae J<|O<|aa<|Y J<|O<|aT J<|az<|bA<|ai<|⟨some (vB,uk),trivial,(by simp),bO J⟩
 simp only [Pz,PA,Option.isNone_some]
 exact aa<|Y J<|aV 7 (.bool false) J<|O<|aT J<|cw<|aY<|aY<|cu<|ai<|aa<|Y J<|ae J<|O<|av<|aZ J J al (⟨A2,c2,J,J⟩)
theorem acp (e:aW) (p0:Option Addr × Nat) (hk:a_ L (aI .i64) p0.1 p0.2 e.d7) (hm:t_ e) (hr:wz ap e) (hs:nl ap < 60000) (ht:by_.flatten.length < 60000):Fn prog 232 #[.pointer (some ⟨b,0,none⟩),mt e p0] (og b by_ ap::L) (λv L'=>∃ A c,v=.tuple #[.slice A 1 c,.int .i64 0]/\L'=aN bK 49 A c [e]::og b (ky by_ e) (ln ap e)::L):=by
 have sn:=Fs hm
 obtain ⟨he,hc⟩:=Cp sn
 have hsq:0<=e.dot.2/\e.dot.2<=2147483647:=sn.2.1
 refine aH func232 J J J J<|b_ (a_.lay (a_.tail hk))<|aa<|bS J J J λb3=>ae J<|ae J<|O<|ar<|aX<|aa<|Y J<|aP b<|aB J J (HE)<|aV 10 (.bool true) J<|ab J J (df J)<|ae J<|O<|aT J<|aa<|bD J J<|aB J J (R_ e p0 slk he.1 (by omega))<|fd 14 J hm<|ab J J (df J)<|ae J<|O<|aT J<|az<|bA<|ai<|ar<|cQ b<|Bn λp hi=>bW _ [] [0,2,4,6,8,10,12,14,16,18,21,23,24] (by kernel_rfl) (am.refl _)<|aq J J<|aL J J<|aw J J<|aG J J J<|aw J J<|cf J J J<|ak J J (Q5 (K:=gB) (R:=bK) (k:=e.dot) J J ⟨he.1.1,he.1.2.1⟩)<|aq J J<|ak J J (aO J J)<|ak J J (aO J J)<|oH 25 (.bool false) J<|an J<|bB J J λb6=>au<|an J<|aE J J<|au<|ak J J (bT J)<|aR<|bW _ [] [0,2,4,6,8,10,12,14,17,18] (by kernel_rfl) (am.refl _)<|aq J J<|aq J J<|aC J J (cU J)<|aC J J (gc J)<|aC J J (dp J)<|aC J J (dY J J)<|aC J J (dp J)<|aC J J (kg J J)<|an J<|aj J<|aB J J (Eu (bR.dT bu.g (gp (R:=aI .i64) (t:=3) (A:=p.V) (c:=p.cv) (xs:=ap) (L:=[]))) e.dot)<|dx 34 J (λh=>by have:=h.2; have:=hr.1; omega)<|au<|ak J J (dG J J)<|aR<|aT J<|az<|ai<|ar<|aX<|aa<|Y J<|bX (L':=ns b ap p (cells b3 (fv e p0) 49::sl (aI .i64) p0.1 p0.2 e.d7::L)) al<|aB J J (Rx hi.1.BS)<|ae J<|O<|K6 J (cJ (by omega))<|aa<|Y J<|bD J J<|aB J J (YV e p0 (a_.tail slk) hi.1.BS)<|ae J<|O<|xZ J (dV hr)<|b_ (wu hi)<|aa<|Y J<|bD J J<|aJ J J (Ht e p0 (a_.n slk) he.1) ?_
 rintro _ _ ⟨q45,rfl,rfl⟩
 refine bF<|aP b<|aJ J J (ZB e q45 slk he hsq ht) ?_
 rintro _ _ ⟨GD,GE,rfl,rfl⟩
 exact ae J<|ae J<|O<|av<|db<|aU<|eS J J J al (⟨GD,GE,J,J⟩)
end Go.SL
set_option linter.unusedSimpArgs false
set_option linter.unusedSectionVars false
