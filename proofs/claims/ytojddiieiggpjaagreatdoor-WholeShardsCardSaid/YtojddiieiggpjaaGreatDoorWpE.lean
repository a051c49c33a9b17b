/- What the law of this claim needs, together: the logic, data in memory, the walks of functions. -/
import Derived.Test.YtojddiieiggpjaaGreatDoorWpD
set_option linter.unusedVariables false
set_option linter.unusedSimpArgs false
set_option linter.unusedSectionVars false
namespace Go.SL
open Go Go.Proofs Go.Proofs.Tryz
variable{m:bQ}
theorem ym {a:gm} (ha:AI a) (hx:gf m) (hm:fZ a m):gf (fk a m):=by
 have hr:=TH hm
 have hn:=ha.node
 have hp:=tQ ha.prom
 have hk:∀ (k:Int) (bj:Int × Int) (vs:List dj),bP .i64 k->bP .i64 bj.1->bP .i64 bj.2->gf (s_ a m k bj vs):=λk bj vs h1 h2 h3=>⟨h1,da (by show _<=a.node/\a.node<=_; omega),hx.bC,h2,h3,hx.slot,Az,IE⟩
 unfold fk
 rw [if_pos hm]
 split
 ·exact hk _ _ _ (da (by decide)) hp.1 hp.2
 ·split
  ·exact hk _ _ _ (da (by decide)) hx.b1 hx.b2
  ·exact hk _ _ _ (da (by decide)) hx.b1 hx.b2
theorem pa {a:gm} (hm:fZ a m):¬ qe (fk a m).kind:=by
 unfold fk qe
 rw [if_pos hm]
 split
 ·simp [s_]
 ·split <;> simp [s_]
variable{s s':cG}
theorem Sf (h:AO s m=some s'):(¬ fZ s.ac m/\s'=s)\/(fZ s.ac m/\(¬ fA s.ac m/\FY s.ac m=true)/\∃ s1,q_ s (f' (fT m ([],false))).length=some s1/\mj {s1 with ac:=jW s.ac m} (.gh (fk s.ac m))=some s')\/(fZ s.ac m/\¬ (¬ fA s.ac m/\FY s.ac m=true)/\mj {s with ac:=jW s.ac m} (.gh (fk s.ac m))=some s'):=by
 unfold AO at h
 split at h
 ·rename_i hm; exact .inl ⟨hm,(ez h).symm⟩
 ·rename_i hm
  obtain ⟨s1,h1,h2⟩:=fK.1 h
  split at h1
  ·rename_i hw; exact .inr (.inl ⟨eX.1 hm,hw,s1,h1,h2⟩)
  ·rename_i hw; obtain rfl:=ez h1; exact .inr (.inr ⟨eX.1 hm,hw,h2⟩)
theorem Ir {s:gm} (h:fZ s m) (h2:¬ fA s m) (h3:fE s m):(f4 (eY s m)).length=(f' (fT m ([],false))).length:=by
 unfold eY
 rw [if_pos ⟨h,h2,h3⟩,nE]
 simp [strOfNums,ByteArray.size]
theorem UP {s:gm} (h:fZ s m) (h2:¬ fA s m) (h3:fE s m):eY s m≠⟨#[]⟩:=λh4=>MF.1 h4 ⟨h,h2,h3⟩
variable{n:Nat}
theorem UQ {s s1:cG} (h:q_ s n=some s1):s1.ac=s.ac/\s1.id=s.id/\s1.nodes=s.nodes:=by
 obtain ⟨_,_,_,rfl⟩:=HR h
 exact ⟨rfl,rfl,rfl⟩
variable{L:List HP}{b bd:Nat}{hd:Value}
theorem HG (m:bQ) (q:gg) (hx:gf m) (hk:fN L m q) (hc:iP m<=140737488355328) (h:AO s m=some s'):Fn prog 151 #[bG b,nk m q] (nx b bd hd s::L) (λv L'=>v=.tuple #[]/\L'=nx b bd hd s'::L):=by
 refine aH func151 J J J J<|b_ (fN.lay (fN.dT (am.drop _ _) hk))<|aa<|bS J J J λb3=>O<|ar<|cQ b<|fU λp hi=>bW (cells b (dw hd s p) 100::cells b3 (dq m q) 174::[]) [] [0,2,4,6,8,10,12,14,16,18,20,22,24,26,29,30] (by kernel_rfl) al<|aw J J<|aG J J J<|ak J J (ce J J)<|aq J J<|gE 12 J (λf2=> ?_) (λf2=> ?_)
 ·refine aC J J (cU J)<|aC J J (gc J)<|aC J J (dp J)<|aC J J (dY J J)<|aC J J (dp J)<|aC J J (kg J J)<|aC J J (cU J)<|aC J J (gc J)<|aC J J (dp J)<|aC J J (dY J J)<|an J<|aj J<|g_ p.bh<|aB J J (YP hi.now.1)<|aV 23 (.bool false) J<|au<|ak J J (d9 J J)<|aR<|aT J<|az<|ai<|cQ p.bv<|IU λGO=>bW (cells b (dw hd s p) 100::cells b3 (dq m q) 174::[]) [] [0,2,4,6,8,11,12,14,16,18,20] (by kernel_rfl) al<|aq J J<|aL J J<|aw J J<|aG J J J<|cf J J J<|an J<|aP p.bv<|aB J J (Q7 m q hx ⟨slk,slk,slk,slk⟩ hc)<|au<|aq J J<|ak J J (aO J J)<|ak J J (aO J J)<|ak J J (bT J)<|ak J J (bT J)<|aR<|ar ?_
  rcases Sf h with ⟨hm,rfl⟩ | ⟨hm,hw,s1,dt,ho⟩ | ⟨hm,hw,ho⟩
  ·exact aa<|Y J<|ab J J (ff J)<|br 35 (v':=.bool true) J (bi Value.bool (by simp [hm]))<|Y J<|ah J<|ah J<|ah J<|g8 J J J<|g8 J J J<|g8 J J J<|g8 J J J<|g8 J J J<|ah J<|aA J<|O<|cg J<|av<|aU<|aF.ay (dg b bd hd s' p hi)<|kR J
  ·refine aa<|Y J<|ab J J (ff J)<|br 35 (v':=.bool false) J (bi Value.bool (by simp [hm]))<|Y J<|aj J<|Y J<|aj J<|ab J J (yh J J)<|fd 38 J (UP hm hw.1 ((yl _ _).1 hw.2))<|aj J<|Y J<|aj J<|Y J<|aj J<|Y J<|aj J<|El J J (by have:=(HR dt).2.1; have:=Ir hm hw.1 ((yl _ _).1 hw.2); rw [nE] at this; simp only [cE]; omega) λGj Gk=>aj J<|bX (dg b bd hd s p hi)<|aB J J (z1 (s':=s1) 77 (by decide) slk (by rw [Ir hm hw.1 ((yl _ _).1 hw.2)]; exact dt))<|aj J<|ab J J (dB J J)<|br 44 (v':=.bool false) J (bi Value.bool (by decide))<|aj J<|aA J<|aA J<|O<|aT J<|az<|ai ?_
   have PW:=UQ dt
   rw [<- PW.1] at hm ho
   refine cQ b<|fU λp2 dW=>cQ p2.bv<|IU λF3=>iQ (by kernel_rfl)<|fq 5 10 (by decide) ?_ ?_
   ·refine dN (cells b (dw hd s1 p2) 100::cells b3 (dq m q) 174::[]) [] [0,2,4,6,8,11,12,14,16,18,21,23,24,26] (by kernel_rfl) al<|aq J J<|aL J J<|aw J J<|aG J J J<|cf J J J<|an J<|aP p2.bv<|aJ J J (yg m q hx ⟨slk,slk,slk,slk⟩ hc) ?_
    rintro _ _ ⟨qz,rfl,rfl⟩
    exact au<|aq J J<|ak J J (aO J J)<|ak J J (aO J J)<|ak J J (aO J J)<|an J<|bB J J λb6=>au<|an J<|aE J J<|au<|ak J J (bT J)<|ak J J (bT J)<|aR<|ai<|aQ<|Y J<|bD J J<|ef J J J J J J λnw=>eh (k:=1) dE [fk s1.ac m] (jZ (fI qz (sL ⟨slk,slk,slk,slk⟩) (ym F3 hx hm))) J (by decide)<|bF<|aV 59 (.slice (some ⟨nw,0,none⟩) [fk s1.ac m].length 1) J<|bX (dg b bd hd {s1 with ac:=jW s1.ac m} p2 (dW.same J J J (yk _ _) ⟨J,J⟩ ⟨J,J⟩ J))<|aB J J (wn (l:=[fk s1.ac m]) (λx lg nm _ _↦absurd nm (by rw [o0.1 lg]; exact pa hm)) slk (show gk [fk s1.ac m] _=some s' from (by unfold gk; rw [if_neg (λh0↦pa hm h0.2),ho]; rfl)))<|O<|ei J
   refine dN (cells b (dw hd s1 p2) 100::cells b3 (dq m q) 174::[]) [] [0,2,4,6,8,21,11,12,14,16,18,23,24,26] (by kernel_rfl) al<|aq J J<|aL J J<|aw J J<|aG J J J<|cf J J J<|an J<|bB J J λb6=>au<|an J<|aP p2.bv<|aJ J J (yg m q hx ⟨slk,slk,slk,slk⟩ hc) ?_
   rintro _ _ ⟨qz,rfl,rfl⟩
   exact au<|aq J J<|ak J J (aO J J)<|ak J J (aO J J)<|ak J J (aO J J)<|an J<|aE J J<|au<|ak J J (bT J)<|ak J J (bT J)<|aR<|ai<|aQ<|Y J<|bD J J<|ef J J J J J J λnw=>eh (k:=1) dE [fk s1.ac m] (jZ (fI qz (sL ⟨slk,slk,slk,slk⟩) (ym F3 hx hm))) J (by decide)<|bF<|aV 59 (.slice (some ⟨nw,0,none⟩) [fk s1.ac m].length 1) J<|bX (dg b bd hd {s1 with ac:=jW s1.ac m} p2 (dW.same J J J (yk _ _) ⟨J,J⟩ ⟨J,J⟩ J))<|aB J J (wn (l:=[fk s1.ac m]) (λx lg nm _ _↦absurd nm (by rw [o0.1 lg]; exact pa hm)) slk (show gk [fk s1.ac m] _=some s' from (by unfold gk; rw [if_neg (λh0↦pa hm h0.2),ho]; rfl)))<|O<|ei J
  refine aa<|Y J<|ab J J (ff J)<|br 35 (v':=.bool false) J (bi Value.bool (by simp [hm]))<|Y J<|aj J<|Y J<|aj J<|ab J J (yh J J)<|dx 38 J (λh0=>h0 (MF.2 λh1=>hw ⟨h1.2.1,(yl _ _).2 h1.2.2⟩))<|aj J<|Y J<|ah J<|ah J<|ah J<|ah J<|ah J<|aj J<|aA J<|aA J<|O<|aT J<|az<|ai<|iQ (by kernel_rfl)<|fq 5 10 (by decide) ?_ ?_
  ·refine dN (cells b (dw hd s p) 100::cells b3 (dq m q) 174::[]) [] [0,2,4,6,8,11,12,14,16,18,21,23,24,26] (by kernel_rfl) al<|aq J J<|aL J J<|aw J J<|aG J J J<|cf J J J<|an J<|aP p.bv<|aJ J J (yg m q hx ⟨slk,slk,slk,slk⟩ hc) ?_
   rintro _ _ ⟨qz,rfl,rfl⟩
   exact au<|aq J J<|ak J J (aO J J)<|ak J J (aO J J)<|ak J J (aO J J)<|an J<|bB J J λb6=>au<|an J<|aE J J<|au<|ak J J (bT J)<|ak J J (bT J)<|aR<|ai<|aQ<|Y J<|bD J J<|ef J J J J J J λnw=>eh (k:=1) dE [fk s.ac m] (jZ (fI qz (sL ⟨slk,slk,slk,slk⟩) (ym GO hx hm))) J (by decide)<|bF<|aV 59 (.slice (some ⟨nw,0,none⟩) [fk s.ac m].length 1) J<|bX (dg b bd hd {s with ac:=jW s.ac m} p (hi.same J J J (yk _ _) ⟨J,J⟩ ⟨J,J⟩ J))<|aB J J (wn (l:=[fk s.ac m]) (λx lg nm _ _↦absurd nm (by rw [o0.1 lg]; exact pa hm)) slk (show gk [fk s.ac m] _=some s' from (by unfold gk; rw [if_neg (λh0↦pa hm h0.2),ho]; rfl)))<|O<|ei J
  refine dN (cells b (dw hd s p) 100::cells b3 (dq m q) 174::[]) [] [0,2,4,6,8,21,11,12,14,16,18,23,24,26] (by kernel_rfl) al<|aq J J<|aL J J<|aw J J<|aG J J J<|cf J J J<|an J<|bB J J λb6=>au<|an J<|aP p.bv<|aJ J J (yg m q hx ⟨slk,slk,slk,slk⟩ hc) ?_
  rintro _ _ ⟨qz,rfl,rfl⟩
  exact au<|aq J J<|ak J J (aO J J)<|ak J J (aO J J)<|ak J J (aO J J)<|an J<|aE J J<|au<|ak J J (bT J)<|ak J J (bT J)<|aR<|ai<|aQ<|Y J<|bD J J<|ef J J J J J J λnw=>eh (k:=1) dE [fk s.ac m] (jZ (fI qz (sL ⟨slk,slk,slk,slk⟩) (ym GO hx hm))) J (by decide)<|bF<|aV 59 (.slice (some ⟨nw,0,none⟩) [fk s.ac m].length 1) J<|bX (dg b bd hd {s with ac:=jW s.ac m} p (hi.same J J J (yk _ _) ⟨J,J⟩ ⟨J,J⟩ J))<|aB J J (wn (l:=[fk s.ac m]) (λx lg nm _ _↦absurd nm (by rw [o0.1 lg]; exact pa hm)) slk (show gk [fk s.ac m] _=some s' from (by unfold gk; rw [if_neg (λh0↦pa hm h0.2),ho]; rfl)))<|O<|ei J
 refine aD J J<|aD J J<|aD J J<|aD J J<|aD J J<|aD J J<|aD J J<|aD J J<|aD J J<|aD J J<|an J<|ah J<|au<|ak J J (dG J J)<|aR<|aT J<|az<|ai<|cQ p.bv<|IU λGO=>bW (cells b (dw hd s p) 100::cells b3 (dq m q) 174::[]) [] [0,2,4,6,8,11,12,14,16,18,20] (by kernel_rfl) al<|aq J J<|aL J J<|aw J J<|aG J J J<|cf J J J<|an J<|aP p.bv<|aB J J (Q7 m q hx ⟨slk,slk,slk,slk⟩ hc)<|au<|aq J J<|ak J J (aO J J)<|ak J J (aO J J)<|ak J J (bT J)<|ak J J (bT J)<|aR<|ar ?_
 rcases Sf h with ⟨hm,rfl⟩ | ⟨hm,hw,s1,dt,ho⟩ | ⟨hm,hw,ho⟩
 ·exact aa<|Y J<|ab J J (ff J)<|br 35 (v':=.bool true) J (bi Value.bool (by simp [hm]))<|Y J<|ah J<|ah J<|ah J<|g8 J J J<|g8 J J J<|g8 J J J<|g8 J J J<|g8 J J J<|ah J<|aA J<|O<|cg J<|av<|aU<|aF.ay (dg b bd hd s' p hi)<|kR J
 ·refine aa<|Y J<|ab J J (ff J)<|br 35 (v':=.bool false) J (bi Value.bool (by simp [hm]))<|Y J<|aj J<|Y J<|aj J<|ab J J (yh J J)<|fd 38 J (UP hm hw.1 ((yl _ _).1 hw.2))<|aj J<|Y J<|aj J<|Y J<|aj J<|Y J<|aj J<|El J J (by have:=(HR dt).2.1; have:=Ir hm hw.1 ((yl _ _).1 hw.2); rw [nE] at this; simp only [cE]; omega) λGj Gk=>aj J<|bX (dg b bd hd s p hi)<|aB J J (z1 (s':=s1) 77 (by decide) slk (by rw [Ir hm hw.1 ((yl _ _).1 hw.2)]; exact dt))<|aj J<|ab J J (dB J J)<|br 44 (v':=.bool false) J (bi Value.bool (by decide))<|aj J<|aA J<|aA J<|O<|aT J<|az<|ai ?_
  have PW:=UQ dt
  rw [<- PW.1] at hm ho
  refine cQ b<|fU λp2 dW=>cQ p2.bv<|IU λF3=>iQ (by kernel_rfl)<|fq 5 10 (by decide) ?_ ?_
  ·refine dN (cells b (dw hd s1 p2) 100::cells b3 (dq m q) 174::[]) [] [0,2,4,6,8,11,12,14,16,18,21,23,24,26] (by kernel_rfl) al<|aq J J<|aL J J<|aw J J<|aG J J J<|cf J J J<|an J<|aP p2.bv<|aJ J J (yg m q hx ⟨slk,slk,slk,slk⟩ hc) ?_
   rintro _ _ ⟨qz,rfl,rfl⟩
   exact au<|aq J J<|ak J J (aO J J)<|ak J J (aO J J)<|ak J J (aO J J)<|an J<|bB J J λb6=>au<|an J<|aE J J<|au<|ak J J (bT J)<|ak J J (bT J)<|aR<|ai<|aQ<|Y J<|bD J J<|ef J J J J J J λnw=>eh (k:=1) dE [fk s1.ac m] (jZ (fI qz (sL ⟨slk,slk,slk,slk⟩) (ym F3 hx hm))) J (by decide)<|bF<|aV 59 (.slice (some ⟨nw,0,none⟩) [fk s1.ac m].length 1) J<|bX (dg b bd hd {s1 with ac:=jW s1.ac m} p2 (dW.same J J J (yk _ _) ⟨J,J⟩ ⟨J,J⟩ J))<|aB J J (wn (l:=[fk s1.ac m]) (λx lg nm _ _↦absurd nm (by rw [o0.1 lg]; exact pa hm)) slk (show gk [fk s1.ac m] _=some s' from (by unfold gk; rw [if_neg (λh0↦pa hm h0.2),ho]; rfl)))<|O<|ei J
  refine dN (cells b (dw hd s1 p2) 100::cells b3 (dq m q) 174::[]) [] [0,2,4,6,8,21,11,12,14,16,18,23,24,26] (by kernel_rfl) al<|aq J J<|aL J J<|aw J J<|aG J J J<|cf J J J<|an J<|bB J J λb6=>au<|an J<|aP p2.bv<|aJ J J (yg m q hx ⟨slk,slk,slk,slk⟩ hc) ?_
  rintro _ _ ⟨qz,rfl,rfl⟩
  exact au<|aq J J<|ak J J (aO J J)<|ak J J (aO J J)<|ak J J (aO J J)<|an J<|aE J J<|au<|ak J J (bT J)<|ak J J (bT J)<|aR<|ai<|aQ<|Y J<|bD J J<|ef J J J J J J λnw=>eh (k:=1) dE [fk s1.ac m] (jZ (fI qz (sL ⟨slk,slk,slk,slk⟩) (ym F3 hx hm))) J (by decide)<|bF<|aV 59 (.slice (some ⟨nw,0,none⟩) [fk s1.ac m].length 1) J<|bX (dg b bd hd {s1 with ac:=jW s1.ac m} p2 (dW.same J J J (yk _ _) ⟨J,J⟩ ⟨J,J⟩ J))<|aB J J (wn (l:=[fk s1.ac m]) (λx lg nm _ _↦absurd nm (by rw [o0.1 lg]; exact pa hm)) slk (show gk [fk s1.ac m] _=some s' from (by unfold gk; rw [if_neg (λh0↦pa hm h0.2),ho]; rfl)))<|O<|ei J
 refine aa<|Y J<|ab J J (ff J)<|br 35 (v':=.bool false) J (bi Value.bool (by simp [hm]))<|Y J<|aj J<|Y J<|aj J<|ab J J (yh J J)<|dx 38 J (λh0=>h0 (MF.2 λh1=>hw ⟨h1.2.1,(yl _ _).2 h1.2.2⟩))<|aj J<|Y J<|ah J<|ah J<|ah J<|ah J<|ah J<|aj J<|aA J<|aA J<|O<|aT J<|az<|ai<|iQ (by kernel_rfl)<|fq 5 10 (by decide) ?_ ?_
 ·refine dN (cells b (dw hd s p) 100::cells b3 (dq m q) 174::[]) [] [0,2,4,6,8,11,12,14,16,18,21,23,24,26] (by kernel_rfl) al<|aq J J<|aL J J<|aw J J<|aG J J J<|cf J J J<|an J<|aP p.bv<|aJ J J (yg m q hx ⟨slk,slk,slk,slk⟩ hc) ?_
  rintro _ _ ⟨qz,rfl,rfl⟩
  exact au<|aq J J<|ak J J (aO J J)<|ak J J (aO J J)<|ak J J (aO J J)<|an J<|bB J J λb6=>au<|an J<|aE J J<|au<|ak J J (bT J)<|ak J J (bT J)<|aR<|ai<|aQ<|Y J<|bD J J<|ef J J J J J J λnw=>eh (k:=1) dE [fk s.ac m] (jZ (fI qz (sL ⟨slk,slk,slk,slk⟩) (ym GO hx hm))) J (by decide)<|bF<|aV 59 (.slice (some ⟨nw,0,none⟩) [fk s.ac m].length 1) J<|bX (dg b bd hd {s with ac:=jW s.ac m} p (hi.same J J J (yk _ _) ⟨J,J⟩ ⟨J,J⟩ J))<|aB J J (wn (l:=[fk s.ac m]) (λx lg nm _ _↦absurd nm (by rw [o0.1 lg]; exact pa hm)) slk (show gk [fk s.ac m] _=some s' from (by unfold gk; rw [if_neg (λh0↦pa hm h0.2),ho]; rfl)))<|O<|ei J
 refine dN (cells b (dw hd s p) 100::cells b3 (dq m q) 174::[]) [] [0,2,4,6,8,21,11,12,14,16,18,23,24,26] (by kernel_rfl) al<|aq J J<|aL J J<|aw J J<|aG J J J<|cf J J J<|an J<|bB J J λb6=>au<|an J<|aP p.bv<|aJ J J (yg m q hx ⟨slk,slk,slk,slk⟩ hc) ?_
 rintro _ _ ⟨qz,rfl,rfl⟩
 exact au<|aq J J<|ak J J (aO J J)<|ak J J (aO J J)<|ak J J (aO J J)<|an J<|aE J J<|au<|ak J J (bT J)<|ak J J (bT J)<|aR<|ai<|aQ<|Y J<|bD J J<|ef J J J J J J λnw=>eh (k:=1) dE [fk s.ac m] (jZ (fI qz (sL ⟨slk,slk,slk,slk⟩) (ym GO hx hm))) J (by decide)<|bF<|aV 59 (.slice (some ⟨nw,0,none⟩) [fk s.ac m].length 1) J<|bX (dg b bd hd {s with ac:=jW s.ac m} p (hi.same J J J (yk _ _) ⟨J,J⟩ ⟨J,J⟩ J))<|aB J J (wn (l:=[fk s.ac m]) (λx lg nm _ _↦absurd nm (by rw [o0.1 lg]; exact pa hm)) slk (show gk [fk s.ac m] _=some s' from (by unfold gk; rw [if_neg (λh0↦pa hm h0.2),ho]; rfl)))<|O<|ei J
theorem wi {p:B4}:Fn prog 22 #[bG b] (cells b (dw hd s p) 100::L) (λv L'=>v=.bool true/\L'=cells b (dw hd s p) 100::L):=by
 exact aH func22 J J J J<|aa<|ae J<|O<|aa<|Y J<|ab J J (f8 J J (dh.eJ))<|br 4 (v':=.bool true) J (by simp)<|Y J<|aj J<|Y J<|aj J<|aS J<|aj J<|ao J<|aj J<|ax J J<|aj J<|ab J J (f8 J J (dh.eJ))<|br 10 (v':=.bool true) J (by simp)<|aA J<|ae J<|O<|av<|cI J J
theorem acG (h:yA s m):lT m:=(CV h.2.2).1
theorem abb (hkd:m.kind=1\/m.kind=3) (hc:iP m<=140737488355328):Xm m:=by
 intro L b bd hd s s' q hx hk h
 unfold Fa at h
 refine aH func80 J J J J<|b_ (fN.lay (fN.dT (am.drop _ _) hk))<|aa<|bS J J J λb3=>O<|ar<|cQ b<|fU λp hi=>bW (cells b (dw hd s p) 100::cells b3 (dq m q) 174::[]) [] [0,3,4,6,8,10,12,14,16,18,20,22,24,26,28,30,32,34,36,38,40,42] (by kernel_rfl) al<|aq J J<|an J<|g_ b<|aB J J (wi)<|aV 7 (.bool true) J<|au<|ak J J (df J)<|aq J J<|aC J J (dp J)<|aC J J (dY J J)<|aC J J (cU J)<|aC J J (gc J)<|aC J J (dp J)<|aC J J (dY J J)<|aC J J (dB J J)<|ak J J (dG J J)<|aq J J<|gE 18 J (λjG=> ?_) (λjG=> ?_)
 ·refine aD J J<|aD J J<|aD J J<|aD J J<|aD J J<|aD J J<|aD J J<|aD J J<|ak J J (d9 J J)<|aR<|cg J<|av<|aU ?_
  rw [if_neg (λh0=>by have:=h0.1; have:=h0.2.1; omega)] at h
  obtain rfl:=ez h
  exact aF.ay (dg b bd hd s p hi)<|kR J
 refine aC J J (dp J)<|aC J J (dY J J)<|aC J J (cU J)<|aC J J (gc J)<|aC J J (dp J)<|aC J J (dp J)<|aC J J (dY J J)<|aC J J (eV J J)<|ak J J (dG J J)<|aR<|bz J (λtu=> ?_) (λtu=> ?_)
 ·refine av<|aU ?_
  rw [if_neg (λh0=>by have:=h0.1; have:=h0.2.1; omega)] at h
  obtain rfl:=ez h
  exact aF.ay (dg b bd hd s p hi)<|kR J
 refine az<|ai<|ar ?_
 have fV:m.cH=s.id/\m.bC < s.nodes:=⟨by omega,by omega⟩
 refine b_ (dg b bd hd s p hi)<|aa<|bD J J<|aJ J J (uL m q hx ⟨slk,slk,slk,slk⟩ hc) ?_
 rintro _ _ ⟨iV,iW,rfl,rfl⟩
 refine Y J<|ab J J (aO J J)<|ab J J (aO J J)<|ae J<|ae J<|O<|aa<|Y J<|ab J J (dB J J)<|O<|bz J (λmq=> ?_) (λmq=> ?_)
 ·refine av<|aU ?_
  rw [if_neg (λh0=>mq h0.2.2)] at h
  obtain rfl:=ez h
  exact kR J
 refine az<|ai ?_
 rw [if_pos ⟨fV.1,fV.2,eX.1 mq⟩] at h
 refine aa<|ao J<|ax J J<|O<|aX<|ar ?_
 rcases hkd with mU | mU
 ·exact aa<|ab J J (ce J J)<|fd 38 J mU<|ae J<|O<|cg J<|az<|ai<|cg J<|aQ<|Y J<|bD J J<|aP b<|aB J J (HG m q hx ⟨slk,slk,slk,slk⟩ hc h)<|O<|bA<|ei J
 exact aa<|ab J J (ce J J)<|dx 38 J (by omega)<|ae J<|O<|aT J<|aQ<|ab J J (ce J J)<|fd 39 J mU<|ae J<|O<|ai<|cg J<|aQ<|Y J<|bD J J<|aP b<|aB J J (HG m q hx ⟨slk,slk,slk,slk⟩ hc h)<|O<|bA<|ei J
variable{A:Option Addr}{c:Nat}
theorem rF {l:List bQ} (hk:a_ L dE A c l) (h:gk l s=some s'):Fn prog 94 #[bG b,.slice A l.length c] (nx b bd hd s::L) (λv L'=>v=.tuple #[]/\L'=nx b bd hd s'::L):=
 wn (λm _ ha h9 hc=>abb (by unfold qe at ha; omega) hc) hk h
open Go
section
variable {r:Option Nat} {n:Nat} {P:Program} {ops:Array Oper} {rest:List Oper} {KK:St->Prop} {D:List Deferred} {E:cZ} {L L' L0:List HP} {d:Nat} {ty:TypeId} {pos:String} {af:Array Edge}
variable {α:Type} {R:bZ α} {g c:Nat} {xs:List α}
theorem afD (z:Array Value) (k:Nat):(Builtin.zeroCells z k).toList.length=k * z.size:=by simp [Builtin.zeroCells]
theorem afE {z:Array Value} {k:Nat} (h:mh z.toList=true):∀ v∈(Builtin.zeroCells z k).toList,v.oneCell'=true:=by
 intro v hv
 simp only [Builtin.zeroCells,Array.toList_map,fY] at hv
 obtain ⟨i,hi,rfl⟩:=hv
 have dW:i < k * z.size:=by simpa using hi
 have hz:0 < z.size:=Nat.pos_of_ne_zero λh0=>by rw [h0,Nat.mul_zero] at dW; omega
 have cL:=Nat.mod_lt i hz
 rw [getElem!_pos z _ cL]
 exact ED h _ (by rw [<- Array.getElem_toList]; exact Ef _)
theorem ad5 {t te ty0 e:TypeId} {z:Value} [ht:dy P t (.slice e)] [hz:l_ P e z] {i m c2:Nat} {W w:World} (hs:bH W w (aN R te (some ⟨g,0,none⟩) c xs::L)) (hi:i+m=xs.length) (ew:z.cells.size=R.sz) (h1:mh z.cells.toList=true) (hA:0 < m->A=some ⟨g,i * R.sz,none⟩):
  ∃ w',(Builtin.clear_ #[t] ty0 #[.slice A m c2]).run P w=.ok (.tuple #[]) w'/\bH W w' (aN R te (some ⟨g,0,none⟩) c (xs.take i)::L):=by
 rcases Nat.eq_zero_or_pos m with rfl | hm
 ·refine ⟨w, ?_,by rw [gQ (by omega)]; exact hs⟩
  cases A <;> simp [Builtin.clear_,ht.run]
 ·obtain rfl:=hA hm
  obtain ⟨M,k,hd,hM,hk,h2,h3,eW,l1,l2,hp,hsep⟩:=hs.ex
  obtain ⟨gt,⟨_,rfl⟩ | ⟨g2,cur,sc,hg,mM,JO,hc,eH⟩⟩:=hp
  ·simp at hi; omega
  ·obtain rfl:g2=g:=by cases sc; rfl
   have hw:w.heap[g2]? =some (.cells cur te (0,0)):=hk _ _ (l1 _ _ hg)
   let vs:=(Builtin.zeroCells z.cells m).toList
   have vL:vs.length=m * R.sz:=by rw [afD,ew]
   have jP:i * R.sz+0+vs.length<=cur.size:=by
    rw [vL,mM,sD, <- jI,hi]; exact nB _ JO
   have cK:=run_storeCells_at P g2 (i * R.sz) te vs 0 cur w hw jP (afE h1)
   simp only [sD] at cK
   let oK:Array Value:=(cur.toList.take (i * R.sz)++vs++cur.toList.drop (i * R.sz+vs.length)).toArray
   have AG:bH W w (own g2 (.cells cur te (0,0))::nV (λM=>(∀ k x,xs[k]? =some x->∃ l,R.fO M x l/\∀ j v,l[j]? =some v->cur[k * R.sz+j]? =some v)) (λhM h k x hx=>let ⟨l,a,b⟩:=h k x hx; ⟨l,R.mono hM a,b⟩)::L):=
    ⟨⟨M,k,hd,hM,hk,h2,h3,eW,l1,l2,hg,Mem.emp,h3,Mem.iD _,Mem.iu _,Mem.le_refl _,eH,hsep⟩,hs.os,hs.tape,hs.output,hs.size⟩
   have py:=bH.set AG (w':=w.setRow g2 oK) (y:=.cells oK te (0,0))
    (by simp only [World.setRow,qD,if_true,hw,qI]) (λi hi=>by simp only [World.setRow,qD]; rw [if_neg (Ne.symm hi)]) rfl rfl rfl (by simp [World.setRow])
   refine ⟨w.setRow g2 oK, ?_,py.ay λN mm ⟨k1,k2,kd,m1,m2,ha,k3,k4,BG,m3,m4,xk,fm⟩=> ?_⟩
   ·obtain ⟨m',rfl⟩:∃ m',m=m'+1:=⟨m - 1,by omega⟩
    have akS:(storeCells ⟨g2,i * R.sz,none⟩ (Builtin.zeroCells z.cells (m'+1)).toList 0).run P w=.ok () (w.setRow g2 oK):=cK
    simp [Builtin.clear_,ht.run,hz.run,akS]
   ·have kU:cur.toList.length=c * R.sz:=by simp [mM]
    have JI:i * R.sz<=c * R.sz:=nB _ (by omega)
    have mn:(cur.toList.take (i * R.sz)).length=i * R.sz:=by rw [gq]; omega
    refine ⟨k1,k4,Mem.i' kd (Mem.le_refl _) m4,m1,Mem.le_trans m4 m2,⟨by rw [gq]; omega,.inr ⟨g2,oK,rfl,ha, ?_,by rw [gq]; omega,hc,λq x kC=> ?_⟩⟩,fm⟩
    ·simp only [oK,qH,eQ,uB,mn,kU,vL]
     rw [vL,sD,mM] at jP
     omega
    ·have Xn:q < i:=by
      have:=(dX.1 kC).1
      rw [gq] at this; omega
     rw [m8,if_pos Xn] at kC
     obtain ⟨l,b1,b2⟩:=xk q x kC
     refine ⟨l,b1,λp v hp=> ?_⟩
     have hb:=b2 p v hp
     have lE:p < R.sz:=by rw [<- R.len b1]; exact (dX.1 hp).1
     have:(q+1) * R.sz<=i * R.sz:=nB _ Xn
     rw [jI] at this
     simp only [oK,tB]
     rw [fh,kF (by omega),m8,if_pos (by omega)]
     simpa using hb
theorem Sg {x:Operand} {t te e:TypeId} {z:Value} {i m c2:Nat} (g c:Nat) [ht:dy P t (.slice e)] [hz:l_ P e z] [hf:md L (some ⟨g,0,none⟩) c α R te xs L0] (hx:ev E x=some (.slice A m c2)) (hi:i+m=xs.length) (hA:0 < m->A=some ⟨g,i * R.sz,none⟩) (ew:z.cells.size=R.sz) (h1:mh z.cells.toList=true) 
  (h:TL r n P ops rest ⟨D,E,aN R te (some ⟨g,0,none⟩) c (xs.take i)::L0⟩ KK):TL r n P ops (⟨none,.call {callee:=.builtin .clear,args:=#[x],argTypes:=#[t]},ty,pos,af,none⟩::rest) ⟨D,E,L⟩ KK:=
 yo rfl rfl (λ_ e=>by cases e) λW a w hh=>by
  obtain ⟨w',gR,hs⟩:=ad5 (P:=P) (t:=t) (ty0:=ty) (e:=e) (z:=z) (c2:=c2) (hh.2.ay hf.g) hi ew h1 hA
  exact ⟨_,w',_,by simp [execOp,resolve,invoke,builtin,hh.1.ev hx,gR]; rfl,.inr ⟨_,rfl⟩,hs,h⟩
end
open Go Go.Proofs Go.Proofs.Tryz
variable{r:cG × Bool}
theorem QQ {c:il} (h:tN s c=some r):(lU s.sm.os c.cV=none/\r=(s,false))\/(∃ o,lU s.sm.os c.cV=some o/\tZ o/\Au (dK s.ap) s.fu o.x.aK o.x.eO=false/\r=(s,false))\/(∃ o s1,lU s.sm.os c.cV=some o/\tZ o/\Au (dK s.ap) s.fu o.x.aK o.x.eO=true/\mj s (.dR {kn s c with ord:=o,known:=true,my:=some (sU (yL s o.x.aK) s.fu o.x.aK o.x.eO,o.x.aK)})=some s1/\r=(s1,true)):=by
 unfold tN at h
 split at h
 ·rename_i ht; exact .inl ⟨ht,(ez h).symm⟩
 ·rename_i o ht
  split at h
  ·cases h
  ·rename_i ho
   split at h
   ·rename_i hw
    obtain ⟨s1,h1,h2⟩:=iq.1 h
    exact .inr (.inr ⟨o,s1,ht,eX.1 ho,hw,h1,h2.symm⟩)
   ·rename_i hw; exact .inr (.inl ⟨o,ht,eX.1 ho,by simpa using hw,(ez h).symm⟩)
theorem CI (o:jk):xw (some o)=o:=rfl
theorem CJ:xw none=rc:=rfl
theorem Ho (c:il) (hc:nO c) (h:tN s c=some r):Fn prog 253 #[bG b,wR c] (nx b bd hd s::L) (λv L'=>v=.bool r.2/\L'=nx b bd hd r.1::L):=by
 refine aH func253 J J J J<|aa<|bS J J J λb3=>ae J<|O ?_
 refine cQ b<|fU λp hi=>iQ (by kernel_rfl)<|fq 6 10 (by decide) ?_ ?_
 ·refine dN (cells b (dw hd s p) 100::cells b3 (lP c) 33::[]) [] [0,2,4,6,8,10,13,14,16,18,21,23,24] (by kernel_rfl) al<|aq J J<|aL J J<|aw J J<|aG J J J<|aw J J<|aG J J J<|an J ?_
  refine aP p.bo<|aJ J J (tF c.cV hc.2.2.2.2.2) ?_
  rintro _ _ ⟨n7,mR,rfl,rfl⟩
  refine au<|aq J J<|ak J J (aO J J)<|ak J J (aO J J)<|an J<|bB J J λb5=>au<|an J<|aE J J<|au<|ak J J (bT J)<|aR<|ai<|ar ?_
  rcases QQ h with ⟨ht,rfl⟩ | ⟨o,ht,ho,hw,rfl⟩ | ⟨o,s1,ht,ho,hw,hs,rfl⟩
  ·rw [ht]
   simp only [CI,CJ,tD,vS]
   refine aa<|Y J<|ab J J (ff J)<|aV 21 (.bool true) J<|O<|cg J<|aa<|ae J<|O<|av<|aU ?_
   exact aF.ay (dg b bd hd s p hi)<|cI J J
  ·rw [ht]
   simp only [CI,CJ,tD,vS]
   refine aa<|Y J<|ab J J (ff J)<|aV 21 (.bool false) J<|O<|aT J<|az<|ai<|bW (cells b (dw hd s p) 100::cells b5 (qk o (n7,mR)) 64::[]) [] [0,2,4,6,8,10,12,14,17,18,20,22,24,26] (by kernel_rfl) al<|aq J J<|aL J J<|aw J J<|aG J J J<|aw J J<|aG J J J<|aw J J<|aG J J J<|an J ?_
   refine aP p.bc<|aJ J J (Hz o.x.aK o.x.eO) ?_
   rintro _ _ ⟨vz,vA,F4,rfl,F5,rfl⟩
   refine bF<|au<|aq J J<|ak J J (aO J J)<|ak J J (aO J J)<|er 33 (v':=.bool false) J (by rw [hw])<|ak J J (bT J)<|ak J J (bT J)<|aR<|ar<|aa<|Y J<|ab J J (j0 J)<|O<|cg J<|aa<|ae J<|O<|av<|aU ?_
   exact aF.ay (dg b bd hd s p hi)<|cI J J
  rw [ht]
  simp only [CI,CJ,tD,vS]
  refine aa<|Y J<|ab J J (ff J)<|aV 21 (.bool false) J<|O<|aT J<|az<|ai<|bW (cells b (dw hd s p) 100::cells b5 (qk o (n7,mR)) 64::[]) [] [0,2,4,6,8,10,12,14,17,18,20,22,24,26] (by kernel_rfl) al<|aq J J<|aL J J<|aw J J<|aG J J J<|aw J J<|aG J J J<|aw J J<|aG J J J<|an J ?_
  refine aP p.bc<|aJ J J (Hz o.x.aK o.x.eO) ?_
  rintro _ _ ⟨vz,vA,F4,rfl,F5,rfl⟩
  refine bF<|au<|aq J J<|ak J J (aO J J)<|ak J J (aO J J)<|er 33 (v':=.bool true) J (by rw [hw])<|ak J J (bT J)<|ak J J (bT J)<|aR<|ar<|aa<|Y J<|ab J J (df J)<|O<|aT J<|az<|ai<|aa<|Y J<|bD J J ?_
  refine bX (dg b bd hd s p hi)<|aJ J J (zT c) ?_
  rintro _ _ ⟨PX,rfl,rfl⟩
  refine bB J J λb9=>aE J J<|O<|aa<|bD J J<|Y J<|ao J<|aE J J<|ao J<|aE J J<|ao J<|aE J J<|O<|aa<|Y J<|bD J J ?_
  exact aP b<|aB J J (zZ {kn s c with ord:=o,known:=true,my:=some (sU (yL s o.x.aK) s.fu o.x.aK o.x.eO,o.x.aK)} ⟨(vz,vA),F4,(n7,mR),PX⟩ ⟨slk,F5,slk,slk⟩ ⟨hc.1,iy,iy,iy,ho,da (by have:=hi.px; dsimp only [kn]; omega)⟩ hs)<|O<|aa<|ae J<|O<|av<|cI J J
 refine dN (cells b (dw hd s p) 100::cells b3 (lP c) 33::[]) [] [0,2,4,6,8,10,21,13,14,16,18,23,24] (by kernel_rfl) al<|aq J J<|aL J J<|aw J J<|aG J J J<|aw J J<|aG J J J<|an J<|bB J J λb5=>au<|an J ?_
 refine aP p.bo<|aJ J J (tF c.cV hc.2.2.2.2.2) ?_
 rintro _ _ ⟨n7,mR,rfl,rfl⟩
 refine au<|aq J J<|ak J J (aO J J)<|ak J J (aO J J)<|an J<|aE J J<|au<|ak J J (bT J)<|aR<|ai<|ar ?_
 rcases QQ h with ⟨ht,rfl⟩ | ⟨o,ht,ho,hw,rfl⟩ | ⟨o,s1,ht,ho,hw,hs,rfl⟩
 ·rw [ht]
  simp only [CI,CJ,tD,vS]
  refine aa<|Y J<|ab J J (ff J)<|aV 21 (.bool true) J<|O<|cg J<|aa<|ae J<|O<|av<|aU ?_
  exact aF.ay (dg b bd hd s p hi)<|cI J J
 ·rw [ht]
  simp only [CI,CJ,tD,vS]
  refine aa<|Y J<|ab J J (ff J)<|aV 21 (.bool false) J<|O<|aT J<|az<|ai<|bW (cells b (dw hd s p) 100::cells b5 (qk o (n7,mR)) 64::[]) [] [0,2,4,6,8,10,12,14,17,18,20,22,24,26] (by kernel_rfl) al<|aq J J<|aL J J<|aw J J<|aG J J J<|aw J J<|aG J J J<|aw J J<|aG J J J<|an J ?_
  refine aP p.bc<|aJ J J (Hz o.x.aK o.x.eO) ?_
  rintro _ _ ⟨vz,vA,F4,rfl,F5,rfl⟩
  refine bF<|au<|aq J J<|ak J J (aO J J)<|ak J J (aO J J)<|er 33 (v':=.bool false) J (by rw [hw])<|ak J J (bT J)<|ak J J (bT J)<|aR<|ar<|aa<|Y J<|ab J J (j0 J)<|O<|cg J<|aa<|ae J<|O<|av<|aU ?_
  exact aF.ay (dg b bd hd s p hi)<|cI J J
 rw [ht]
 simp only [CI,CJ,tD,vS]
 refine aa<|Y J<|ab J J (ff J)<|aV 21 (.bool false) J<|O<|aT J<|az<|ai<|bW (cells b (dw hd s p) 100::cells b5 (qk o (n7,mR)) 64::[]) [] [0,2,4,6,8,10,12,14,17,18,20,22,24,26] (by kernel_rfl) al<|aq J J<|aL J J<|aw J J<|aG J J J<|aw J J<|aG J J J<|aw J J<|aG J J J<|an J ?_
 refine aP p.bc<|aJ J J (Hz o.x.aK o.x.eO) ?_
 rintro _ _ ⟨vz,vA,F4,rfl,F5,rfl⟩
 refine bF<|au<|aq J J<|ak J J (aO J J)<|ak J J (aO J J)<|er 33 (v':=.bool true) J (by rw [hw])<|ak J J (bT J)<|ak J J (bT J)<|aR<|ar<|aa<|Y J<|ab J J (df J)<|O<|aT J<|az<|ai<|aa<|Y J<|bD J J ?_
 refine bX (dg b bd hd s p hi)<|aJ J J (zT c) ?_
 rintro _ _ ⟨PX,rfl,rfl⟩
 refine bB J J λb9=>aE J J<|O<|aa<|bD J J<|Y J<|ao J<|aE J J<|ao J<|aE J J<|ao J<|aE J J<|O<|aa<|Y J<|bD J J ?_
 exact aP b<|aB J J (zZ {kn s c with ord:=o,known:=true,my:=some (sU (yL s o.x.aK) s.fu o.x.aK o.x.eO,o.x.aK)} ⟨(vz,vA),F4,(n7,mR),PX⟩ ⟨slk,F5,slk,slk⟩ ⟨hc.1,iy,iy,iy,ho,da (by have:=hi.px; dsimp only [kn]; omega)⟩ hs)<|O<|aa<|ae J<|O<|av<|cI J J
theorem ZR {s:List dj} (W:HP) (want:dj->Bool) (f:FuncId) [li prog f] (lW:List Value) 
  (tY:∀ (x:dj) (q:Option Addr × Nat) (L1:List HP),Fn prog f ([]++[FW x q]++lW).toArray (W::L1) (λv L'=>v=.bool (want x)/\L'=W::L1))
  (hk:a_ L dz A c s):Fn prog 368 #[.slice A s.length c,.func (.func f) #[] lW.toArray] (W::L) (λv L'=>(∃ r:Int,v=.int .i64 r/\(decide (0<=r)=s.any want))/\L'=W::L):=by
 refine aH func368 J J J J ?_
 refine b_ (a_.lay hk.tail)<|bR.lens (bJ (A:=A) (c:=c)) λhl=> ?_
 simp only [cE] at hl
 refine aa<|ae J<|O<|ar<|aa<|Y J<|ab J J (bY J)<|Y J<|O<|aX<|cY (σ:=Nat) [0,1,7] (λi=>i<=s.length/\∀ x∈s.take i,want x=false) (λi kv=>(8,.int .i64 (i:Int))::kv) (λi=>W::sl dz A c s::L) (λi=>s.length - i) (0) J (⟨dF _,by simp⟩) (am.swap _ _ _) (dc J) λi hi=>aa<|ab J J (bU J J)<|O<|ar<|bz J (λh9=> ?_) (λh9=> ?_)
 ·refine az<|ai<|ar<|aX ?_
  obtain ⟨x,hx⟩:∃ x,s[i]? =some x:=⟨_,cj (by omega)⟩
  have zw:=eA hx
  refine aa<|Y J<|ae J<|O<|aa<|Y J<|Y J<|Y J<|f6 J J J (J) ((bJ (A:=A) (c:=c))) (hx) λBj Bk Bl qm=> ?_
  have qn:=hx
  refine kh J J qm qn (λ_=>J) λuq Jc=> ?_
  simp only [dL,dm]
  refine bX (show am _ (W::sl (aI .i64) uq.1 uq.2 x.en.order.cut::sl dz A c s::L) from al)<|jx J J J (tY x uq _) ?_
  rintro _ _ ⟨rfl,rfl⟩
  refine O<|gF J (λeI=> ?_) (λeI=> ?_)
  ·refine aa<|Y J<|ae J<|O<|av<|db<|aU<|aU<|db<|aU ?_
   refine aF.ay (show am _ (W::L) from al) ?_
   exact aZ J J al (⟨⟨_,J,by rw [dV (by omega)]; exact (List.any_eq_true.2 ⟨x,zw,eI⟩).symm⟩,J⟩)
  refine az<|bA<|ai<|aQ<|ab J J (bE J J (by omega))<|cz 18 J<|Y J<|O<|ai ?_
  exact ⟨i+1,⟨by omega,by rw [ll hx]; intro y hy; rcases gD.1 hy with h | h; exact hi.2 y h; (rw [o0.1 h]; exact eI)⟩,by omega,bO rfl⟩
 refine cw<|aY<|aY<|cu<|ai<|aa<|ae J<|O<|av ?_
 have jX:=hi.2
 rw [gQ (show s.length<=i by omega)] at jX
 refine aF.ay (show am _ (W::L) from al) ?_
 exact aZ J J al (⟨⟨_,J,by rw [cJ (by decide)]; exact (List.any_eq_false.2 λx hx=>by rw [jX x hx]; decide).symm⟩,J⟩)
theorem RB {s:List dj} (W:HP) (want:dj->Bool) (f:FuncId) [li prog f] (lW:List Value) 
  (tY:∀ (x:dj) (q:Option Addr × Nat) (L1:List HP),Fn prog f ([]++[FW x q]++lW).toArray (W::L1) (λv L'=>v=.bool (want x)/\L'=W::L1))
  (hk:a_ L dz A c s):Fn prog 283 #[.slice A s.length c,.func (.func f) #[] lW.toArray] (W::L) (λv L'=>v=.bool (s.any want)/\L'=W::L):=by
 refine aH func283 J J J J<|aa<|ae J<|O<|aa<|Y J<|Y J<|aJ J J (ZR W want f lW tY hk) ?_
 rintro _ _ ⟨⟨r7,rfl,PY⟩,rfl⟩
 exact ab J J (eV J J)<|ae J<|O<|av<|aZ J J al (⟨by rw [PY],J⟩)
theorem RC {bc:Nat} {c:il} (v:dj) (q:Option Addr × Nat):Fn prog 282 #[FW v q,bG bc] (cells bc (lP c) 33::L) (λr L'=>r=.bool (!v.en.fe && decide (v.en.order.cV=c.cV))/\L'=cells bc (lP c) 33::L):=by
 refine aH func282 J J J J<|aa<|bS J J J λb2=>ae J<|O<|aa<|ao J<|ao J<|ax J J<|ab J J (ff J)<|Y J<|nH 8 J (λh8=> ?_) (λh8=> ?_)
 ·exact aj J<|ao J<|aj J<|ao J<|aj J<|ao J<|aj J<|ax J J<|aj J<|ao J<|aj J<|ax J J<|aj J<|ab J J (kI J J)<|aA J<|ae J<|O<|av<|aZ J J al (⟨by rw [h8]; rfl,J⟩)
 exact ah J<|ah J<|ah J<|ah J<|ah J<|ah J<|ah J<|aA J<|ae J<|O<|av<|aZ J J al (⟨by rw [h8]; rfl,J⟩)
theorem Y3 {c:il} (h:Af s c=some s'):(jL s=false/\s=s')\/(jL s=true/\IB s c.cV=true/\s=s')\/(jL s=true/\IB s c.cV=false/\vK (⟨c.cV,c.aK,(i7 s.sm.os c.aK:Int),dK s.ap⟩:dv)/\zB s (nS s.pr ⟨false,⟨c.cV,c.aK,(i7 s.sm.os c.aK:Int),dK s.ap⟩⟩)/\gk (qY s.pr ⟨false,⟨c.cV,c.aK,(i7 s.sm.os c.aK:Int),dK s.ap⟩⟩) {s with pr:=nS s.pr ⟨false,⟨c.cV,c.aK,(i7 s.sm.os c.aK:Int),dK s.ap⟩⟩}=some s'):=by
 unfold Af at h
 cases hl:jL s with
 | false=>rw [if_pos (.inl hl)] at h; exact .inl ⟨rfl,ez h⟩
 | true=>cases hf:IB s c.cV with
  | true=>rw [if_pos (.inr hf)] at h; exact .inr (.inl ⟨rfl,rfl,ez h⟩)
  | false=>
   rw [if_neg (by rw [hl,hf]; decide)] at h
   dsimp only at h
   split at h
   ·rename_i hk; exact .inr (.inr ⟨rfl,rfl,hk.1,hk.2,h⟩)
   ·cases h
theorem Hp (c:il) (hc:nO c) (h:Af s c=some s'):Fn prog 177 #[bG b,wR c] (nx b bd hd s::L) (λv L'=>v=.tuple #[]/\L'=nx b bd hd s'::L):=by
 refine aH func177 J J J J<|aa<|bS J J J λb3=>O<|aa<|ab J J (gy J J)<|ae J<|O<|ar ?_
 rcases Y3 h with ⟨hl,rfl⟩ | ⟨hl,hf,rfl⟩ | ⟨hl,hf,hk,hp,hs⟩
 ·refine aa<|Y J ?_
  exact aP b<|aB J J (tJ)<|br 11 (v':=.bool false) J (by rw [hl])<|ab J J (j0 J)<|Y J<|ah J<|ah J<|ah J<|ah J<|ah J<|ah J<|ah J<|aA J<|O<|cg J<|av<|aU<|kR J
 ·refine aa<|Y J ?_
  refine aP b<|aB J J (tJ)<|br 11 (v':=.bool true) J (by rw [hl])<|ab J J (df J)<|Y J<|aj J<|Y J<|aj J<|aS J<|aj J ?_
  refine aP b<|AU λp hi=>ao J<|aj J<|ax J J<|aj J ?_
  refine aP p.bp<|aJ J J (QG) ?_
  rintro _ _ ⟨oP,n4,rfl,rfl⟩
  refine bF<|g_ b3<|aj J<|Y J<|aj J<|aB J J (RB (cells b3 (lP c) 33) (λv↦ !v.en.fe && decide (v.en.order.cV=c.cV)) 282 [bG b3] (λx q L1↦RC x q) slk)<|br 20 (v':=.bool true) J (bi Value.bool hf)<|aA J<|O<|cg J<|av<|aU ?_
  exact aF.ay (dg b bd hd s p hi)<|kR J
 refine aa<|Y J ?_
 refine aP b<|aB J J (tJ)<|br 11 (v':=.bool true) J (by rw [hl])<|ab J J (df J)<|Y J<|aj J<|Y J<|aj J<|aS J<|aj J ?_
 refine aP b<|AU λp hi=>ao J<|aj J<|ax J J<|aj J ?_
 refine aP p.bp<|aJ J J (QG) ?_
 rintro _ _ ⟨oP,n4,rfl,rfl⟩
 refine bF<|g_ b3<|aj J<|Y J<|aj J<|aB J J (RB (cells b3 (lP c) 33) (λv↦ !v.en.fe && decide (v.en.order.cV=c.cV)) 282 [bG b3] (λx q L1↦RC x q) slk)<|br 20 (v':=.bool false) J (bi Value.bool hf)<|aA J<|O<|aT J<|az<|ai<|iQ (by kernel_rfl)<|fq 10 17 (by decide) ?_ ?_
 ·refine fq 15 17 (by decide) ?_ ?_
  ·refine dN (cells b (dw hd s p) 100::cells b3 (lP c) 33::[]) [] [0,2,4,6,8,10,12,14,16,18,22,24,26,28,21,31,32,35,37] (by kernel_rfl) al<|aw J J<|aG J J J<|aw J J<|aG J J J<|aq J J<|aL J J<|aw J J<|aG J J J<|aw J J<|aG J J J<|aq J J<|aL J J<|aw J J<|aG J J J<|an J ?_
   refine aP p.bo<|aB J J (Kr c.aK hc.2.2.1)<|au<|an J ?_
   refine aP p.bc<|aJ J J (vX) ?_
   rintro _ _ ⟨lJ,lK,rfl,rfl⟩
   refine bF<|au<|ak J J (bI J J)<|an J<|bB J J λb5=>au<|an J<|aE J J<|au<|aR<|ai<|bW (cells b (dw hd s p) 100::cells b5 (pj ⟨c.cV,c.aK,(i7 s.sm.os c.aK:Int),dK s.ap⟩ (lJ,lK)) 156::[]) [] [0,2,4,6,8,10,13,14,16,18,20,22,24,26] (by kernel_rfl) al<|aq J J<|aL J J<|aw J J<|aG J J J<|cf J J J<|ak J J (bI J J)<|an J ?_
   refine aP p.bp<|aJ J J (KJ (⟨false,⟨c.cV,c.aK,(i7 s.sm.os c.aK:Int),dK s.ap⟩⟩:dZ) hk.1 slk hk.2) ?_
   rintro _ _ ⟨GD,GE,rfl,rfl⟩
   refine bF<|au<|aq J J<|ak J J (aO J J)<|ak J J (aO J J)<|ak J J (aO J J)<|ak J J (bT J)<|ak J J (bT J)<|ak J J (bT J)<|aR<|aQ<|Y J<|Y J ?_
   exact bX (dg b bd hd {s with pr:=nS s.pr ⟨false,⟨c.cV,c.aK,(i7 s.sm.os c.aK:Int),dK s.ap⟩⟩} p ⟨hi.nodes,hi.id,hi.now,hi.mA,hp,hi.dn,hi.px,hi.base⟩)<|aB J J (rF slk hs)<|O<|ei J
  refine dN (cells b (dw hd s p) 100::cells b3 (lP c) 33::[]) [] [0,2,4,6,8,10,12,14,16,18,22,24,26,28,21,35,31,32,37] (by kernel_rfl) al<|aw J J<|aG J J J<|aw J J<|aG J J J<|aq J J<|aL J J<|aw J J<|aG J J J<|aw J J<|aG J J J<|aq J J<|aL J J<|aw J J<|aG J J J<|an J ?_
  refine aP p.bo<|aB J J (Kr c.aK hc.2.2.1)<|au<|an J<|bB J J λb5=>au<|an J ?_
  refine aP p.bc<|aJ J J (vX) ?_
  rintro _ _ ⟨lJ,lK,rfl,rfl⟩
  refine bF<|au<|ak J J (bI J J)<|an J<|aE J J<|au<|aR<|ai<|bW (cells b (dw hd s p) 100::cells b5 (pj ⟨c.cV,c.aK,(i7 s.sm.os c.aK:Int),dK s.ap⟩ (lJ,lK)) 156::[]) [] [0,2,4,6,8,10,13,14,16,18,20,22,24,26] (by kernel_rfl) al<|aq J J<|aL J J<|aw J J<|aG J J J<|cf J J J<|ak J J (bI J J)<|an J ?_
  refine aP p.bp<|aJ J J (KJ (⟨false,⟨c.cV,c.aK,(i7 s.sm.os c.aK:Int),dK s.ap⟩⟩:dZ) hk.1 slk hk.2) ?_
  rintro _ _ ⟨GD,GE,rfl,rfl⟩
  refine bF<|au<|aq J J<|ak J J (aO J J)<|ak J J (aO J J)<|ak J J (aO J J)<|ak J J (bT J)<|ak J J (bT J)<|ak J J (bT J)<|aR<|aQ<|Y J<|Y J ?_
  exact bX (dg b bd hd {s with pr:=nS s.pr ⟨false,⟨c.cV,c.aK,(i7 s.sm.os c.aK:Int),dK s.ap⟩⟩} p ⟨hi.nodes,hi.id,hi.now,hi.mA,hp,hi.dn,hi.px,hi.base⟩)<|aB J J (rF slk hs)<|O<|ei J
 refine dN (cells b (dw hd s p) 100::cells b3 (lP c) 33::[]) [] [0,2,4,6,8,10,12,14,16,18,22,24,26,28,35,21,31,32,37] (by kernel_rfl) al<|aw J J<|aG J J J<|aw J J<|aG J J J<|aq J J<|aL J J<|aw J J<|aG J J J<|aw J J<|aG J J J<|aq J J<|aL J J<|aw J J<|aG J J J<|an J<|bB J J λb5=>au<|an J ?_
 refine aP p.bo<|aB J J (Kr c.aK hc.2.2.1)<|au<|an J ?_
 refine aP p.bc<|aJ J J (vX) ?_
 rintro _ _ ⟨lJ,lK,rfl,rfl⟩
 refine bF<|au<|ak J J (bI J J)<|an J<|aE J J<|au<|aR<|ai<|bW (cells b (dw hd s p) 100::cells b5 (pj ⟨c.cV,c.aK,(i7 s.sm.os c.aK:Int),dK s.ap⟩ (lJ,lK)) 156::[]) [] [0,2,4,6,8,10,13,14,16,18,20,22,24,26] (by kernel_rfl) al<|aq J J<|aL J J<|aw J J<|aG J J J<|cf J J J<|ak J J (bI J J)<|an J ?_
 refine aP p.bp<|aJ J J (KJ (⟨false,⟨c.cV,c.aK,(i7 s.sm.os c.aK:Int),dK s.ap⟩⟩:dZ) hk.1 slk hk.2) ?_
 rintro _ _ ⟨GD,GE,rfl,rfl⟩
 refine bF<|au<|aq J J<|ak J J (aO J J)<|ak J J (aO J J)<|ak J J (aO J J)<|ak J J (bT J)<|ak J J (bT J)<|ak J J (bT J)<|aR<|aQ<|Y J<|Y J ?_
 exact bX (dg b bd hd {s with pr:=nS s.pr ⟨false,⟨c.cV,c.aK,(i7 s.sm.os c.aK:Int),dK s.ap⟩⟩} p ⟨hi.nodes,hi.id,hi.now,hi.mA,hp,hi.dn,hi.px,hi.base⟩)<|aB J J (rF slk hs)<|O<|ei J
def nd (b bd:Nat) (s:dD):HP:=n_ (λq:Option Addr × Nat=>[nx b bd (.slice q.1 s.waits.length q.2) s.m,aN fa 290 q.1 q.2 s.waits]) (λ_=>True)
instance {s:dD}:jz (nd b bd s::L) b (nd b bd s) L:=⟨am.refl _⟩
variable{r:Option Nat}{P:Program}{ops:Array Oper}{rest:List Oper}{K:St->Prop}{Q:Exit->St->Prop}{D:List Deferred}{E:cZ}{L' L0:List HP}{s:dD}
theorem jM {c:Code} (h:∀ A cc,T r n P c ⟨D,E,nx b bd (.slice A s.waits.length cc) s.m::aN fa 290 A cc s.waits::L⟩ Q):T r n P c ⟨D,E,nd b bd s::L⟩ Q:=sT λq _=>h q.1 q.2
theorem ag' (h:∀ A cc,TL r n P ops rest ⟨D,E,nx b bd (.slice A s.waits.length cc) s.m::aN fa 290 A cc s.waits::L⟩ K):TL r n P ops rest ⟨D,E,nd b bd s::L⟩ K:=yy λq _=>h q.1 q.2
variable{L1 L2:List HP}
theorem fp (b bd:Nat) (s:cG) (ws:List ls) (A:Option Addr) (cc:Nat) [h1:cR L (nx b bd (.slice A ws.length cc) s) L1] [h2:cR L1 (aN fa 290 A cc ws) L2]:am L (nd b bd ⟨s,ws⟩::L2):=
 (h1.g.trans (am.cons _ h2.g)).trans (nG (F:=λq:Option Addr × Nat=>[nx b bd (.slice q.1 ws.length q.2) s,aN fa 290 q.1 q.2 ws]) (φ:=λ_=>True) (A,cc) trivial)
variable{r:cG × Bool}
theorem Yq {s:cG} (w:ls) (hw:yB w) (hk:w.call.kind=3) (h:tN s w.call=some r):Fn prog 174 #[bG b,NU w] (nx b bd hd s::L) (λv L'=>v=.bool r.2/\L'=nx b bd hd r.1::L):=by
 refine aH func174 J J J J<|aa<|bS J J J λb3=>ae J<|O<|ar<|aa<|ao J<|ao J<|ax J J<|ab J J (ce J J)<|fd 8 J hk<|O<|cg J<|aa<|Y J<|ao J<|bD J J ?_
 exact aP b<|aB J J (Ho w.call hw.1 h)<|ae J<|O<|av<|aU<|cI J J
theorem ZS {s:cG} (w:ls) (hk:w.call.kind=3) (h:tN s w.call=some r):Fn prog 280 #[.slice A 1 c,.func (.func 174) #[bG b] #[]] (nx b bd hd s::aN fa 290 A c [w]::L) (λv L'=>v=.int .i64 (if r.2=true then 0 else -1)/\L'=nx b bd hd r.1::aN fa 290 A c [w]::L):=by
 refine aH func280 J J J J<|aa<|ae J<|O<|ar<|aa<|Y J<|ab J J (bY J)<|Y J<|O<|aX<|cY (σ:=Nat × cG) [0,1,7] (λg=>(g.1=0/\g.2=s)\/(g.1=1/\g.2=r.1/\r.2=false)) (λg kv=>(8,.int .i64 (g.1:Int))::kv) (λg=>nx b bd hd g.2::aN fa 290 A c [w]::L) (λg=>1 - g.1) ((0,s)) J (.inl ⟨J,J⟩) (al) (dc J) ?_
 rintro ⟨i,s1⟩ sq
 dsimp only at sq ⊢
 refine aa<|ab J J (bU J J)<|O<|ar<|bz J (λh9=> ?_) (λh9=> ?_)
 ·refine az<|ai<|ar<|aX ?_
  obtain ⟨rfl,rfl⟩:i=0/\s1=s:=by rcases sq with h0 | h0; exact h0; omega
  refine aa<|Y J<|ae J<|O<|aa<|Y J<|Y J<|Y J<|Em (bR.dT bu.g (gp (R:=fa) (t:=290) (A:=A) (c:=c) (xs:=[w]) (L:=[]))) (j:=0) J (λM l (h:l=nU w/\yB w)=>h.2) λtw=>f6 J J J (J) (bR.dT bu.g (gp (R:=fa) (t:=290) (A:=A) (c:=c) (xs:=[w]) (L:=[]))) ((J:[w][0]? =some w)) λBj Bk Bl qm=> ?_
  have qn:=(rfl:[w][0]? =some w)
  refine ab J J (x_ J qm qn J) ?_
  refine aP b<|jx J J J ((show Fn _ _ #[bG b,NU w] _ _ from Yq w tw hk h)) ?_
  rintro _ _ ⟨rfl,rfl⟩
  refine O<|gF J (λeI=> ?_) (λeI=> ?_)
  ·exact aa<|Y J<|ae J<|O<|av<|db<|aU<|aU<|db<|aU<|aZ J J al (⟨by rw [if_pos eI]; rfl,J⟩)
  exact az<|bA<|ai<|aQ<|ab J J (bE J J (by omega))<|aV 18 (.int .i64 ((1:Nat):Int)) J<|Y J<|O<|ai<|⟨(1,r.1),.inr ⟨J,J,eI⟩,(by dsimp only; omega),bO J⟩
 refine cw<|aY<|aY<|cu<|ai<|aa<|ae J<|O<|av ?_
 obtain ⟨rfl,rfl,hr⟩:i=1/\s1=r.1/\r.2=false:=by rcases sq with h0 | h0; omega; exact h0
 exact aZ J J al (⟨by rw [hr]; rfl,J⟩)
theorem ZT {f:Value}:Fn prog 280 #[.slice A 0 c,f] L (λv L'=>v=.int .i64 (-1)/\L'=L):=by
 exact aH func280 J J J J<|aa<|ae J<|O<|ar<|aa<|Y J<|ab J J (bY J)<|Y J<|O<|aX<|cY (σ:=Unit) [0,1,7] (λg=>True) (λg kv=>(8,.int .i64 0)::kv) (λg=>L) (λg=>0) (()) J (trivial) (al) (dc J) λg hg=>aa<|ab J J (bU J J)<|O<|ar<|ir J (by decide)<|cw<|aY<|aY<|cu<|ai<|aa<|ae J<|O<|av<|cI J J
theorem acH {f:Value}:Fn prog 173 #[.slice A 0 c,f] L (λv L'=>v=.slice A 0 c/\L'=L):=by
 exact aH func173 J J J J<|aa<|ae J<|O<|aa<|Y J<|Y J<|aB J J (ZT)<|ae J<|O<|ar<|aa<|Y J<|ab J J (ce J J)<|O<|qN J (J)<|aa<|Y J<|ae J<|O<|av<|aU<|cI J J
theorem acI {s:cG} (w:ls) (hk:w.call.kind=3) (h:tN s w.call=some r):Fn prog 173 #[.slice A 1 c,.func (.func 174) #[bG b] #[]] (nx b bd hd s::aN fa 290 A c [w]::L) (λv L'=>v=.slice A (if r.2=true then ([]:List ls) else [w]).length c/\L'=nx b bd hd r.1::aN fa 290 A c (if r.2=true then [] else [w])::L):=by
 refine aH func173 J J J J<|aa<|ae J<|O<|aa<|Y J<|Y J<|aB J J (ZS w hk h)<|ae J<|O<|ar ?_
 rcases hr:r.2 with _ | _
 ·simp only [if_true,if_false,lM]
  exact aa<|Y J<|ab J J (ce J J)<|O<|qN J (J)<|aa<|Y J<|ae J<|O<|av<|aU<|cI J J
 simp only [if_true,if_false,lM]
 refine aa<|Y J<|ab J J (ce J J)<|O<|ir J (by decide)<|az<|ai<|ar<|aa<|Y J<|ab J J (bE J J (by omega))<|ae J<|O<|aX<|cY (σ:=Unit) [0,1] (λg=>True) (λg kv=>(6,.int .i64 1)::(5,.int .i64 0)::kv) (λg=>nx b bd hd r.1::aN fa 290 A c [w]::L) (λg=>0) (()) J (trivial) (al) (dc J) λg hg=>ar<|aa<|Y J<|Y J<|ab J J (bY J)<|ab J J (bU J J)<|O<|ir J (by decide)<|cw<|aY<|aY<|cu<|ai<|CQ A c (R:=fa) (te:=290) (xs:=[w]) (i:=0) (x:=w) J λg hA=> ?_
 subst hA
 refine aa<|Y J<|Y J<|ab J J (EU J J (by omega))<|Sg (R:=fa) (xs:=[w]) (i:=0) (m:=1) g c J J (λ_=>by simp [oI,Addr.add]) J J ?_
 rw [show List.take 0 [w]=[] from rfl]
 exact O<|aa<|Y J<|Y J<|ab J J (Ii J J (by omega))<|ae J<|O<|av<|cI J J
theorem Q_:Fn prog 175 #[.slice A 0 c] L (λv L'=>∃ A' c',v=.slice A' 0 c'/\L'=aN fa 290 A' c' []::L):=by
 refine aH func175 J J J J<|aa<|ae J<|O<|ar<|aa<|Y J<|ab J J (fR J J (dh.wg))<|O<|bz J (λh4=> ?_) (λh4=> ?_)
 ·refine aa<|ae J<|O<|av<|aU ?_
  exact aF.ay (du fa 290 none _)<|aZ J J al (⟨none,0,J,J⟩)
 refine az<|ai<|aa<|ef J J J J J J λb5=> ?_
 refine eh (k:=0) fa [] (bV.const λM=>J) J (by simp)<|aV 5 (.slice (some ⟨b5,0,none⟩) ([]:List ls).length 0) J<|Y J ?_
 refine vZ (R:=fa) J J J J J (a_.n (dP (A:=A) (c:=c))) (by simp) λA7 c7=> ?_
 simp only [dm]
 exact ae J<|O<|av<|aZ J J al (⟨A7,c7,J,J⟩)
variable{w:ls}
theorem Ra:Fn prog 175 #[.slice A 1 c] (aN fa 290 A c [w]::L) (λv L'=>∃ A' c',v=.slice A' 1 c'/\L'=aN fa 290 A' c' [w]::aN fa 290 A c [w]::L):=by
 refine aH func175 J J J J<|CQ A c (R:=fa) (te:=290) (xs:=[w]) (i:=0) (x:=w) J λg hA=> ?_
 subst hA
 refine aa<|ae J<|O<|ar<|aa<|Y J<|ab J J (fR J J (dh.wg))<|O<|ir J (by simp)<|az<|ai<|aa<|ef J J J J J J λb5=> ?_
 refine eh (k:=0) fa [] (bV.const λM=>J) J (by simp)<|aV 5 (.slice (some ⟨b5,0,none⟩) ([]:List ls).length 0) J<|Y J ?_
 refine vZ (R:=fa) J J J J J (gp (R:=fa) (t:=290) (A:=some ⟨g,0,none⟩) (c:=c) (xs:=[w])) (by simp) λA7 c7=> ?_
 simp only [dm]
 exact ae J<|O<|av<|aZ J J al (⟨A7,c7,J,J⟩)
open Go Go.Proofs Go.Proofs.Tryz
theorem ZU {m:cG} {s':dD} (h:ph ⟨m,[w]⟩=some s'):w.call.kind=3/\∃ r,tN m w.call=some r/\((r.2=true/\s'=⟨r.1,[]⟩)\/(r.2=false/\(lU r.1.sm.os w.call.cV).isSome=true/\s'=⟨r.1,[w]⟩)\/(r.2=false/\(lU r.1.sm.os w.call.cV).isSome=false/\∃ m2,Af r.1 w.call=some m2/\s'=⟨m2,[w]⟩)):=by
 unfold ph at h
 dsimp only at h
 split at h
 ·cases h
 ·rename_i hk
  obtain ⟨r,h1,h2⟩:=fK.1 h
  refine ⟨eX.1 hk,r,h1, ?_⟩
  split at h2
  ·rename_i hr; exact .inl ⟨hr,(ez h2).symm⟩
  ·rename_i hr
   split at h2
   ·rename_i ht; exact .inr (.inl ⟨by simpa using hr,ht,(ez h2).symm⟩)
   ·rename_i ht
    obtain ⟨m2,h3,h4⟩:=iq.1 h2
    exact .inr (.inr ⟨by simpa using hr,by simpa using ht,m2,h3,h4.symm⟩)
theorem Yr {m:cG}:Fn prog 92 #[bG b] (nd b bd ⟨m,[]⟩::L) (λv L'=>v=.tuple #[]/\L'=nd b bd ⟨m,[]⟩::L):=by
 refine aH func92 J J J J<|jM λA cc=>aa<|Y J<|Y J<|aS J ?_
 refine aP b<|AU λp hi=>ao J<|ax J J<|Y J<|ab J J (gy J J) ?_
 refine bX (dg b bd (.slice A ([]:List ls).length cc) m p hi)<|aB J J (acH)<|aS J ?_
 refine aP b<|AU λp2 dW=>ao J<|aE J J<|O<|aa<|Y J<|aS J<|ao J<|ax J J ?_
 refine bX (dg b bd (.slice A ([]:List ls).length cc) m p2 dW)<|aJ J J (Q_) ?_
 rintro _ _ ⟨ru,rv,rfl,rfl⟩
 refine ab J J (bY J)<|Y J<|O<|aX<|cY (σ:=Unit) [0,20,21] (λg=>True) (λg kv=>(22,.int .i64 0)::kv) (λg=>aN fa 290 ru rv []::nx b bd (.slice A ([]:List ls).length cc) m::aN fa 290 A cc []::L) (λg=>0) (()) J (trivial) (al) (dc J) λg hg=>aa<|ab J J (bU J J)<|O<|ar<|ir J (by decide)<|cw<|aY<|aY<|cu ?_
 refine aF.ay (am.drop _ _) ?_
 exact aF.ay (fp b bd m [] A cc)<|ei J
theorem Ys {m:cG} {s':dD} (h:ph ⟨m,[w]⟩=some s'):Fn prog 92 #[bG b] (nd b bd ⟨m,[w]⟩::L) (λv L'=>v=.tuple #[]/\L'=nd b bd s'::L):=by
 obtain ⟨hk,r,GP,hw⟩:=ZU h
 refine aH func92 J J J J<|jM λA cc=>aa<|Y J<|Y J<|aS J ?_
 refine aP b<|AU λp hi=>ao J<|ax J J<|Y J<|ab J J (gy J J) ?_
 refine bX (dg b bd (.slice A [w].length cc) m p hi) ?_
 refine bX (L':=nx b bd (.slice A [w].length cc) m::aN fa 290 A cc [w]::L) al<|aB J J (acI w hk GP)<|aS J ?_
 refine aP b<|AU λp2 dW=>ao J<|aE J J<|O ?_
 rcases hw with ⟨hr,rfl⟩ | ⟨hr,ht,rfl⟩ | ⟨hr,ht,m2,Xo,rfl⟩
 ·rw [hr]
  simp only [if_true,if_false,lM]
  refine aa<|Y J<|aS J<|ao J<|ax J J ?_
  refine bX (dg b bd (.slice A ([]:List ls).length cc) r.1 p2 dW)<|aJ J J (Q_) ?_
  rintro _ _ ⟨ru,rv,rfl,rfl⟩
  refine ab J J (bY J)<|Y J<|O<|aX<|cY (σ:=Unit) [0,20,21] (λg=>True) (λg kv=>(22,.int .i64 0)::kv) (λg=>aN fa 290 ru rv []::nx b bd (.slice A ([]:List ls).length cc) r.1::aN fa 290 A cc []::L) (λg=>0) (()) J (trivial) (al) (dc J) λg hg=>aa<|ab J J (bU J J)<|O<|ar<|ir J (by decide)<|cw<|aY<|aY<|cu ?_
  refine aF.ay (am.drop _ _) ?_
  exact aF.ay (fp b bd r.1 [] A cc)<|ei J
 ·rw [hr]
  simp only [if_true,if_false,lM]
  refine aa<|Y J<|aS J<|ao J<|ax J J ?_
  refine bX (dg b bd (.slice A [w].length cc) r.1 p2 dW) ?_
  refine bX (L':=aN fa 290 A cc [w]::nx b bd (.slice A [w].length cc) r.1::L) al<|aJ J J (Ra) ?_
  rintro _ _ ⟨ru,rv,rfl,rfl⟩
  refine ab J J (bY J)<|Y J<|O<|aX<|cY (σ:=Nat) [0,20,21] (λg=>g<=1) (λg kv=>(22,.int .i64 (g:Int))::kv) (λg=>aN fa 290 ru rv [w]::nx b bd (.slice A [w].length cc) r.1::aN fa 290 A cc [w]::L) (λg=>1 - g) (0) J (dF _) (al) (dc J) λi sq=>aa<|ab J J (bU J J)<|O<|ar<|bz J (λgv=> ?_) (λgv=> ?_)
  ·refine az<|ai<|ar<|aX ?_
   obtain rfl:i=0:=by omega
   refine aa<|Em (bR.dT bu.g (gp (R:=fa) (t:=290) (A:=ru) (c:=rv) (xs:=[w]) (L:=[]))) (j:=0) J (λM l (h:l=nU w/\yB w)=>h.2) λtw=>f6 J J J (J) (bR.dT bu.g (gp (R:=fa) (t:=290) (A:=ru) (c:=rv) (xs:=[w]) (L:=[]))) ((J:[w][0]? =some w)) λFN FO FP t8=> ?_
   have t9:=(rfl:[w][0]? =some w)
   refine ab J J (x_ J t8 t9 J)<|bB J J λb3=>aE J J<|O ?_
   refine cQ b<|fU λp3 mW=>iQ (by kernel_rfl)<|fq 7 11 (by decide) ?_ ?_
   ·refine dN (cells b (dw (.slice A [w].length cc) r.1 p3) 100::cells b3 (nU w) 290::[]) [] [0,2,4,6,8,10,12,15,16,18,20,23,25,26] (by kernel_rfl) al<|aq J J<|aL J J<|aw J J<|aG J J J<|aw J J<|aw J J<|aG J J J<|an J ?_
    refine aP p3.bo<|aJ J J (tF w.call.cV tw.1.2.2.2.2.2) ?_
    rintro _ _ ⟨rq,rt,rfl,rfl⟩
    exact au<|aq J J<|ak J J (aO J J)<|ak J J (aO J J)<|er 36 (v':=.bool true) J (by rw [ht])<|an J<|bB J J λb4=>au<|an J<|aE J J<|au<|ak J J (bT J)<|aR<|ai<|aa<|Y J<|ab J J (df J)<|Y J<|ah J<|ah J<|ah J<|ah J<|aA J<|O<|aT J<|az<|bA<|ai<|aQ<|ab J J (bE J J (by omega))<|aV 49 (.int .i64 ((1:Nat):Int)) J<|Y J<|O<|ai<|⟨1,fo _,(by omega),iY (dC J (dC J (dC J (dC J (iM))))) ((dg b bd (.slice A [w].length cc) r.1 p3 mW).trans al)⟩
   refine dN (cells b (dw (.slice A [w].length cc) r.1 p3) 100::cells b3 (nU w) 290::[]) [] [0,2,4,6,8,10,12,23,15,16,18,20,25,26] (by kernel_rfl) al<|aq J J<|aL J J<|aw J J<|aG J J J<|aw J J<|aw J J<|aG J J J<|an J<|bB J J λb4=>au<|an J ?_
   refine aP p3.bo<|aJ J J (tF w.call.cV tw.1.2.2.2.2.2) ?_
   rintro _ _ ⟨rq,rt,rfl,rfl⟩
   exact au<|aq J J<|ak J J (aO J J)<|ak J J (aO J J)<|er 36 (v':=.bool true) J (by rw [ht])<|an J<|aE J J<|au<|ak J J (bT J)<|aR<|ai<|aa<|Y J<|ab J J (df J)<|Y J<|ah J<|ah J<|ah J<|ah J<|aA J<|O<|aT J<|az<|bA<|ai<|aQ<|ab J J (bE J J (by omega))<|aV 49 (.int .i64 ((1:Nat):Int)) J<|Y J<|O<|ai<|⟨1,fo _,(by omega),iY (dC J (dC J (dC J (dC J (iM))))) ((dg b bd (.slice A [w].length cc) r.1 p3 mW).trans al)⟩
  refine cw<|aY<|aY<|cu ?_
  refine aF.ay (am.drop _ _) ?_
  exact aF.ay (fp b bd r.1 [w] A cc)<|ei J
 rw [hr]
 simp only [if_true,if_false,lM]
 refine aa<|Y J<|aS J<|ao J<|ax J J ?_
 refine bX (dg b bd (.slice A [w].length cc) r.1 p2 dW) ?_
 refine bX (L':=aN fa 290 A cc [w]::nx b bd (.slice A [w].length cc) r.1::L) al<|aJ J J (Ra) ?_
 rintro _ _ ⟨ru,rv,rfl,rfl⟩
 refine ab J J (bY J)<|Y J<|O<|aX<|cY (σ:=Nat × cG) [0,20,21] (λg=>(g.1=0/\g.2=r.1)\/(g.1=1/\g.2=m2)) (λg kv=>(22,.int .i64 (g.1:Int))::kv) (λg=>aN fa 290 ru rv [w]::nx b bd (.slice A [w].length cc) g.2::aN fa 290 A cc [w]::L) (λg=>1 - g.1) ((0,r.1)) J (.inl ⟨J,J⟩) (al) (dc J) ?_
 rintro ⟨i,s1⟩ sq
 dsimp only at sq ⊢
 refine aa<|ab J J (bU J J)<|O<|ar<|bz J (λgv=> ?_) (λgv=> ?_)
 ·refine az<|ai<|ar<|aX ?_
  obtain ⟨rfl,rfl⟩:i=0/\s1=r.1:=by rcases sq with h0 | h0; exact h0; omega
  refine aa<|Em (bR.dT bu.g (gp (R:=fa) (t:=290) (A:=ru) (c:=rv) (xs:=[w]) (L:=[]))) (j:=0) J (λM l (h:l=nU w/\yB w)=>h.2) λtw=>f6 J J J (J) (bR.dT bu.g (gp (R:=fa) (t:=290) (A:=ru) (c:=rv) (xs:=[w]) (L:=[]))) ((J:[w][0]? =some w)) λFN FO FP t8=> ?_
  have t9:=(rfl:[w][0]? =some w)
  refine ab J J (x_ J t8 t9 J)<|bB J J λb3=>aE J J<|O ?_
  refine cQ b<|fU λp3 mW=>iQ (by kernel_rfl)<|fq 7 11 (by decide) ?_ ?_
  ·refine dN (cells b (dw (.slice A [w].length cc) r.1 p3) 100::cells b3 (nU w) 290::[]) [] [0,2,4,6,8,10,12,15,16,18,20,23,25,26] (by kernel_rfl) al<|aq J J<|aL J J<|aw J J<|aG J J J<|aw J J<|aw J J<|aG J J J<|an J ?_
   refine aP p3.bo<|aJ J J (tF w.call.cV tw.1.2.2.2.2.2) ?_
   rintro _ _ ⟨rq,rt,rfl,rfl⟩
   refine au<|aq J J<|ak J J (aO J J)<|ak J J (aO J J)<|er 36 (v':=.bool false) J (by rw [ht])<|an J<|bB J J λb4=>au<|an J<|aE J J<|au<|ak J J (bT J)<|aR<|ai<|aa<|Y J<|ab J J (j0 J)<|Y J<|aj J<|ao J<|aj J<|ao J<|aj J<|ax J J<|aj J<|ab J J (ce J J)<|fd 43 J hk<|aA J<|O<|cg J<|aQ<|Y J<|ao J<|bD J J ?_
   exact bX (dg b bd (.slice A [w].length cc) r.1 p3 mW)<|aB J J (Hp w.call tw.1 Xo)<|O<|bA<|ai<|aQ<|ab J J (bE J J (by omega))<|aV 49 (.int .i64 ((1:Nat):Int)) J<|Y J<|O<|ai<|⟨(1,m2),.inr ⟨J,J⟩,(by dsimp only; omega),bO J⟩
  refine dN (cells b (dw (.slice A [w].length cc) r.1 p3) 100::cells b3 (nU w) 290::[]) [] [0,2,4,6,8,10,12,23,15,16,18,20,25,26] (by kernel_rfl) al<|aq J J<|aL J J<|aw J J<|aG J J J<|aw J J<|aw J J<|aG J J J<|an J<|bB J J λb4=>au<|an J ?_
  refine aP p3.bo<|aJ J J (tF w.call.cV tw.1.2.2.2.2.2) ?_
  rintro _ _ ⟨rq,rt,rfl,rfl⟩
  refine au<|aq J J<|ak J J (aO J J)<|ak J J (aO J J)<|er 36 (v':=.bool false) J (by rw [ht])<|an J<|aE J J<|au<|ak J J (bT J)<|aR<|ai<|aa<|Y J<|ab J J (j0 J)<|Y J<|aj J<|ao J<|aj J<|ao J<|aj J<|ax J J<|aj J<|ab J J (ce J J)<|fd 43 J hk<|aA J<|O<|cg J<|aQ<|Y J<|ao J<|bD J J ?_
  exact bX (dg b bd (.slice A [w].length cc) r.1 p3 mW)<|aB J J (Hp w.call tw.1 Xo)<|O<|bA<|ai<|aQ<|ab J J (bE J J (by omega))<|aV 49 (.int .i64 ((1:Nat):Int)) J<|Y J<|O<|ai<|⟨(1,m2),.inr ⟨J,J⟩,(by dsimp only; omega),bO J⟩
 refine cw<|aY<|aY<|cu ?_
 obtain ⟨rfl,rfl⟩:i=1/\s1=m2:=by rcases sq with h0 | h0; omega; exact h0
 refine aF.ay (am.drop _ _) ?_
 exact aF.ay (fp b bd s1 [w] A cc)<|ei J
theorem zU {s':dD} (h:ph s=some s'):Fn prog 92 #[bG b] (nd b bd s::L) (λv L'=>v=.tuple #[]/\L'=nd b bd s'::L):=by
 obtain ⟨m,ws⟩:=s
 match ws,h with
 | [],h=>obtain rfl:=ez h; exact Yr
 | [w],h=>exact Ys h
 | _::_::_,h=>cases h
variable{k:Nat}
theorem RE {s:cG} (h:mc k s=some s'):(¬ s.sm.dn < ((eb s.lr:Nat):Int)/\s=s')\/(s.sm.dn < ((eb s.lr:Nat):Int)/\∃ j,k=j+1/\(s.fu.length < 60000/\vK (d8 s.lr s.sm.dn).order/\vK (eo s.sm (d8 s.lr s.sm.dn)).2.1.x/\(eo s.sm (d8 s.lr s.sm.dn)).1.dn=s.sm.dn+1)/\mc j (qV s)=some s'):=by
 cases k with
 | zero=>cases h
 | succ j=>
  unfold mc at h
  split at h
  ·rename_i hl
   split at h
   ·rename_i hc; exact .inr ⟨hl,j,rfl,hc,h⟩
   ·cases h
  ·rename_i hl; exact .inl ⟨hl,ez h⟩
theorem Rb {s:cG} (h:mc k s=some s'):Fn prog 66 #[bG b] (nx b bd hd s::L) (λv L'=>v=.tuple #[]/\L'=nx b bd hd s'::L):=by
 refine aH func66 J J J J<|aX<|cY (σ:=Nat × cG) [0] (λg=>mc g.1 g.2=some s') (λg kv=>kv) (λg=>nx b bd hd g.2::L) (λg=>g.1) ((k,s)) J (h) (al) (dc J) ?_
 rintro ⟨i,s1⟩ dt
 dsimp only at dt ⊢
 refine ar ?_
 refine cQ b<|fU λp hi=>bW (cells b (dw hd s1 p) 100::[]) [] [0,2,4,6,10,12,14,16,9,19,20] (by kernel_rfl) al<|aq J J<|aL J J<|aw J J<|aG J J J<|aq J J<|aL J J<|aw J J<|aG J J J<|an J ?_
 refine aP p.bo<|aB J J (Hr)<|au<|an J ?_
 refine aP p.bl<|aB J J (uE)<|au<|ak J J (bU J J)<|aR<|bz J (λgx=> ?_) (λgx=> ?_)
 ·obtain ⟨_,j,rfl,⟨lH,kb,oW,hc4⟩,qA⟩:=(RE dt).resolve_left (λh0=>h0.1 gx)
  have tp:=hi.dn
  have hpx:=hi.px
  refine az<|ai<|aX<|iQ (by kernel_rfl)<|fq 8 13 (by decide) ?_ ?_
  ·refine fq 9 13 (by decide) ?_ ?_
   ·refine dN (cells b (dw hd s1 p) 100::[]) [] [0,2,4,6,8,10,12,14,17,19,20,22,24,27,29,30] (by kernel_rfl) al<|aq J J<|aL J J<|aw J J<|aG J J J<|aq J J<|aL J J<|aw J J<|aG J J J<|an J ?_
    refine aP p.bo<|aB J J (Hr)<|au<|an J ?_
    refine aP p.bl<|aJ J J (HN s1.sm.dn (da (by omega))) ?_
    rintro _ _ ⟨zD,rfl,Ws,rfl⟩
    refine bF<|au<|aq J J<|ak J J (aO J J)<|ak J J (aO J J)<|an J<|bB J J λb2=>au<|an J<|aE J J<|au<|ak J J (bT J)<|aR<|ai<|iQ (by kernel_rfl)<|fq 5 10 (by decide) ?_ ?_
    ·refine dN (cells b (dw hd s1 p) 100::cells b2 (hO (d8 s1.lr s1.sm.dn) zD) 158::[]) [] [0,2,4,6,8,11,12,14,16,18,21,23,24,26] (by kernel_rfl) al<|aq J J<|aL J J<|aw J J<|aG J J J<|cf J J J<|an J ?_
     refine aP p.bo<|aJ J J (Cn (d8 s1.lr s1.sm.dn) kb.1 slk kb.2 (da (by omega))) ?_
     rintro _ _ ⟨lJ,lK,rfl,rfl⟩
     refine au<|aq J J<|ak J J (aO J J)<|ak J J (aO J J)<|ak J J (aO J J)<|an J<|bB J J λb4=>au<|an J<|aE J J<|au<|ak J J (bT J)<|ak J J (bT J)<|aR<|ai ?_
     rcases oX:(eo s1.sm (d8 s1.lr s1.sm.dn)).2.2.1 with _ | _
     ·exact aa<|Y J<|aV 41 (.bool false) J<|O<|aT J<|az<|bA<|ai<|⟨(j,{s1 with sm:=(eo s1.sm (d8 s1.lr s1.sm.dn)).1}),(show mc j _=some s' from (by have hh:=qA; simp only [qV,oX,lM,if_false,if_true] at hh; exact hh)),(by dsimp only; omega),iY (dC J (iM)) ((dg b bd hd {s1 with sm:=(eo s1.sm (d8 s1.lr s1.sm.dn)).1} p ⟨hi.nodes,hi.id,hi.now,hi.mA,hi.pN,(by dsimp only; omega),hi.px,hi.base⟩).trans al)⟩
     refine aa<|Y J<|aV 41 (.bool true) J<|O<|cg J<|i5 (cells b (dw hd s1 p) 100::cells b4 (qk (eo s1.sm (d8 s1.lr s1.sm.dn)).2.1 (lJ,lK)) 64::[]) [] [0,2,4,6,8,10,12,14,16,18,20,22,24,27] (by kernel_rfl) al<|aq J J<|aL J J<|aw J J<|aG J J J<|aw J J<|aG J J J<|aw J J<|aG J J J<|aw J J<|aG J J J<|aw J J<|aG J J J<|ak J J (bI J J)<|an J ?_
     refine aP p.bc<|aJ J J (Cl (eo s1.sm (d8 s1.lr s1.sm.dn)).2.1.x (lJ,lK) slk oW.1 oW.2 (by omega)) ?_
     rintro _ _ ⟨⟨GQ,rfl⟩,rfl⟩
     exact au<|aR<|bA<|ai<|⟨(j,{s1 with sm:=(eo s1.sm (d8 s1.lr s1.sm.dn)).1,fu:=nc s1.fu (eo s1.sm (d8 s1.lr s1.sm.dn)).2.1.x}),(show mc j _=some s' from (by have hh:=qA; simp only [qV,oX,lM,if_false,if_true] at hh; exact hh)),(by dsimp only; omega),iY (dC J (iM)) ((dg b bd hd {s1 with sm:=(eo s1.sm (d8 s1.lr s1.sm.dn)).1,fu:=nc s1.fu (eo s1.sm (d8 s1.lr s1.sm.dn)).2.1.x} p ⟨hi.nodes,hi.id,hi.now,hi.mA,hi.pN,(by dsimp only; omega),hi.px,hi.base⟩).trans al)⟩
    refine dN (cells b (dw hd s1 p) 100::cells b2 (hO (d8 s1.lr s1.sm.dn) zD) 158::[]) [] [0,2,4,6,8,21,11,12,14,16,18,23,24,26] (by kernel_rfl) al<|aq J J<|aL J J<|aw J J<|aG J J J<|cf J J J<|an J<|bB J J λb4=>au<|an J ?_
    refine aP p.bo<|aJ J J (Cn (d8 s1.lr s1.sm.dn) kb.1 slk kb.2 (da (by omega))) ?_
    rintro _ _ ⟨lJ,lK,rfl,rfl⟩
    refine au<|aq J J<|ak J J (aO J J)<|ak J J (aO J J)<|ak J J (aO J J)<|an J<|aE J J<|au<|ak J J (bT J)<|ak J J (bT J)<|aR<|ai ?_
    rcases oX:(eo s1.sm (d8 s1.lr s1.sm.dn)).2.2.1 with _ | _
    ·exact aa<|Y J<|aV 41 (.bool false) J<|O<|aT J<|az<|bA<|ai<|⟨(j,{s1 with sm:=(eo s1.sm (d8 s1.lr s1.sm.dn)).1}),(show mc j _=some s' from (by have hh:=qA; simp only [qV,oX,lM,if_false,if_true] at hh; exact hh)),(by dsimp only; omega),iY (dC J (iM)) ((dg b bd hd {s1 with sm:=(eo s1.sm (d8 s1.lr s1.sm.dn)).1} p ⟨hi.nodes,hi.id,hi.now,hi.mA,hi.pN,(by dsimp only; omega),hi.px,hi.base⟩).trans al)⟩
    refine aa<|Y J<|aV 41 (.bool true) J<|O<|cg J<|i5 (cells b (dw hd s1 p) 100::cells b4 (qk (eo s1.sm (d8 s1.lr s1.sm.dn)).2.1 (lJ,lK)) 64::[]) [] [0,2,4,6,8,10,12,14,16,18,20,22,24,27] (by kernel_rfl) al<|aq J J<|aL J J<|aw J J<|aG J J J<|aw J J<|aG J J J<|aw J J<|aG J J J<|aw J J<|aG J J J<|aw J J<|aG J J J<|ak J J (bI J J)<|an J ?_
    refine aP p.bc<|aJ J J (Cl (eo s1.sm (d8 s1.lr s1.sm.dn)).2.1.x (lJ,lK) slk oW.1 oW.2 (by omega)) ?_
    rintro _ _ ⟨⟨GQ,rfl⟩,rfl⟩
    exact au<|aR<|bA<|ai<|⟨(j,{s1 with sm:=(eo s1.sm (d8 s1.lr s1.sm.dn)).1,fu:=nc s1.fu (eo s1.sm (d8 s1.lr s1.sm.dn)).2.1.x}),(show mc j _=some s' from (by have hh:=qA; simp only [qV,oX,lM,if_false,if_true] at hh; exact hh)),(by dsimp only; omega),iY (dC J (iM)) ((dg b bd hd {s1 with sm:=(eo s1.sm (d8 s1.lr s1.sm.dn)).1,fu:=nc s1.fu (eo s1.sm (d8 s1.lr s1.sm.dn)).2.1.x} p ⟨hi.nodes,hi.id,hi.now,hi.mA,hi.pN,(by dsimp only; omega),hi.px,hi.base⟩).trans al)⟩
   refine dN (cells b (dw hd s1 p) 100::[]) [] [0,2,4,6,8,10,12,14,17,27,19,20,22,24,29,30] (by kernel_rfl) al<|aq J J<|aL J J<|aw J J<|aG J J J<|aq J J<|aL J J<|aw J J<|aG J J J<|an J ?_
   refine aP p.bo<|aB J J (Hr)<|au<|an J<|bB J J λb2=>au<|an J ?_
   refine aP p.bl<|aJ J J (HN s1.sm.dn (da (by omega))) ?_
   rintro _ _ ⟨zD,rfl,Ws,rfl⟩
   refine bF<|au<|aq J J<|ak J J (aO J J)<|ak J J (aO J J)<|an J<|aE J J<|au<|ak J J (bT J)<|aR<|ai<|iQ (by kernel_rfl)<|fq 5 10 (by decide) ?_ ?_
   ·refine dN (cells b (dw hd s1 p) 100::cells b2 (hO (d8 s1.lr s1.sm.dn) zD) 158::[]) [] [0,2,4,6,8,11,12,14,16,18,21,23,24,26] (by kernel_rfl) al<|aq J J<|aL J J<|aw J J<|aG J J J<|cf J J J<|an J ?_
    refine aP p.bo<|aJ J J (Cn (d8 s1.lr s1.sm.dn) kb.1 slk kb.2 (da (by omega))) ?_
    rintro _ _ ⟨lJ,lK,rfl,rfl⟩
    refine au<|aq J J<|ak J J (aO J J)<|ak J J (aO J J)<|ak J J (aO J J)<|an J<|bB J J λb4=>au<|an J<|aE J J<|au<|ak J J (bT J)<|ak J J (bT J)<|aR<|ai ?_
    rcases oX:(eo s1.sm (d8 s1.lr s1.sm.dn)).2.2.1 with _ | _
    ·exact aa<|Y J<|aV 41 (.bool false) J<|O<|aT J<|az<|bA<|ai<|⟨(j,{s1 with sm:=(eo s1.sm (d8 s1.lr s1.sm.dn)).1}),(show mc j _=some s' from (by have hh:=qA; simp only [qV,oX,lM,if_false,if_true] at hh; exact hh)),(by dsimp only; omega),iY (dC J (iM)) ((dg b bd hd {s1 with sm:=(eo s1.sm (d8 s1.lr s1.sm.dn)).1} p ⟨hi.nodes,hi.id,hi.now,hi.mA,hi.pN,(by dsimp only; omega),hi.px,hi.base⟩).trans al)⟩
    refine aa<|Y J<|aV 41 (.bool true) J<|O<|cg J<|i5 (cells b (dw hd s1 p) 100::cells b4 (qk (eo s1.sm (d8 s1.lr s1.sm.dn)).2.1 (lJ,lK)) 64::[]) [] [0,2,4,6,8,10,12,14,16,18,20,22,24,27] (by kernel_rfl) al<|aq J J<|aL J J<|aw J J<|aG J J J<|aw J J<|aG J J J<|aw J J<|aG J J J<|aw J J<|aG J J J<|aw J J<|aG J J J<|ak J J (bI J J)<|an J ?_
    refine aP p.bc<|aJ J J (Cl (eo s1.sm (d8 s1.lr s1.sm.dn)).2.1.x (lJ,lK) slk oW.1 oW.2 (by omega)) ?_
    rintro _ _ ⟨⟨GQ,rfl⟩,rfl⟩
    exact au<|aR<|bA<|ai<|⟨(j,{s1 with sm:=(eo s1.sm (d8 s1.lr s1.sm.dn)).1,fu:=nc s1.fu (eo s1.sm (d8 s1.lr s1.sm.dn)).2.1.x}),(show mc j _=some s' from (by have hh:=qA; simp only [qV,oX,lM,if_false,if_true] at hh; exact hh)),(by dsimp only; omega),iY (dC J (iM)) ((dg b bd hd {s1 with sm:=(eo s1.sm (d8 s1.lr s1.sm.dn)).1,fu:=nc s1.fu (eo s1.sm (d8 s1.lr s1.sm.dn)).2.1.x} p ⟨hi.nodes,hi.id,hi.now,hi.mA,hi.pN,(by dsimp only; omega),hi.px,hi.base⟩).trans al)⟩
   refine dN (cells b (dw hd s1 p) 100::cells b2 (hO (d8 s1.lr s1.sm.dn) zD) 158::[]) [] [0,2,4,6,8,21,11,12,14,16,18,23,24,26] (by kernel_rfl) al<|aq J J<|aL J J<|aw J J<|aG J J J<|cf J J J<|an J<|bB J J λb4=>au<|an J ?_
   refine aP p.bo<|aJ J J (Cn (d8 s1.lr s1.sm.dn) kb.1 slk kb.2 (da (by omega))) ?_
   rintro _ _ ⟨lJ,lK,rfl,rfl⟩
   refine au<|aq J J<|ak J J (aO J J)<|ak J J (aO J J)<|ak J J (aO J J)<|an J<|aE J J<|au<|ak J J (bT J)<|ak J J (bT J)<|aR<|ai ?_
   rcases oX:(eo s1.sm (d8 s1.lr s1.sm.dn)).2.2.1 with _ | _
   ·exact aa<|Y J<|aV 41 (.bool false) J<|O<|aT J<|az<|bA<|ai<|⟨(j,{s1 with sm:=(eo s1.sm (d8 s1.lr s1.sm.dn)).1}),(show mc j _=some s' from (by have hh:=qA; simp only [qV,oX,lM,if_false,if_true] at hh; exact hh)),(by dsimp only; omega),iY (dC J (iM)) ((dg b bd hd {s1 with sm:=(eo s1.sm (d8 s1.lr s1.sm.dn)).1} p ⟨hi.nodes,hi.id,hi.now,hi.mA,hi.pN,(by dsimp only; omega),hi.px,hi.base⟩).trans al)⟩
   refine aa<|Y J<|aV 41 (.bool true) J<|O<|cg J<|i5 (cells b (dw hd s1 p) 100::cells b4 (qk (eo s1.sm (d8 s1.lr s1.sm.dn)).2.1 (lJ,lK)) 64::[]) [] [0,2,4,6,8,10,12,14,16,18,20,22,24,27] (by kernel_rfl) al<|aq J J<|aL J J<|aw J J<|aG J J J<|aw J J<|aG J J J<|aw J J<|aG J J J<|aw J J<|aG J J J<|aw J J<|aG J J J<|ak J J (bI J J)<|an J ?_
   refine aP p.bc<|aJ J J (Cl (eo s1.sm (d8 s1.lr s1.sm.dn)).2.1.x (lJ,lK) slk oW.1 oW.2 (by omega)) ?_
   rintro _ _ ⟨⟨GQ,rfl⟩,rfl⟩
   exact au<|aR<|bA<|ai<|⟨(j,{s1 with sm:=(eo s1.sm (d8 s1.lr s1.sm.dn)).1,fu:=nc s1.fu (eo s1.sm (d8 s1.lr s1.sm.dn)).2.1.x}),(show mc j _=some s' from (by have hh:=qA; simp only [qV,oX,lM,if_false,if_true] at hh; exact hh)),(by dsimp only; omega),iY (dC J (iM)) ((dg b bd hd {s1 with sm:=(eo s1.sm (d8 s1.lr s1.sm.dn)).1,fu:=nc s1.fu (eo s1.sm (d8 s1.lr s1.sm.dn)).2.1.x} p ⟨hi.nodes,hi.id,hi.now,hi.mA,hi.pN,(by dsimp only; omega),hi.px,hi.base⟩).trans al)⟩
  refine dN (cells b (dw hd s1 p) 100::[]) [] [0,2,4,6,8,10,12,14,27,17,19,20,22,24,29,30] (by kernel_rfl) al<|aq J J<|aL J J<|aw J J<|aG J J J<|aq J J<|aL J J<|aw J J<|aG J J J<|an J<|bB J J λb2=>au<|an J ?_
  refine aP p.bo<|aB J J (Hr)<|au<|an J ?_
  refine aP p.bl<|aJ J J (HN s1.sm.dn (da (by omega))) ?_
  rintro _ _ ⟨zD,rfl,Ws,rfl⟩
  refine bF<|au<|aq J J<|ak J J (aO J J)<|ak J J (aO J J)<|an J<|aE J J<|au<|ak J J (bT J)<|aR<|ai<|iQ (by kernel_rfl)<|fq 5 10 (by decide) ?_ ?_
  ·refine dN (cells b (dw hd s1 p) 100::cells b2 (hO (d8 s1.lr s1.sm.dn) zD) 158::[]) [] [0,2,4,6,8,11,12,14,16,18,21,23,24,26] (by kernel_rfl) al<|aq J J<|aL J J<|aw J J<|aG J J J<|cf J J J<|an J ?_
   refine aP p.bo<|aJ J J (Cn (d8 s1.lr s1.sm.dn) kb.1 slk kb.2 (da (by omega))) ?_
   rintro _ _ ⟨lJ,lK,rfl,rfl⟩
   refine au<|aq J J<|ak J J (aO J J)<|ak J J (aO J J)<|ak J J (aO J J)<|an J<|bB J J λb4=>au<|an J<|aE J J<|au<|ak J J (bT J)<|ak J J (bT J)<|aR<|ai ?_
   rcases oX:(eo s1.sm (d8 s1.lr s1.sm.dn)).2.2.1 with _ | _
   ·exact aa<|Y J<|aV 41 (.bool false) J<|O<|aT J<|az<|bA<|ai<|⟨(j,{s1 with sm:=(eo s1.sm (d8 s1.lr s1.sm.dn)).1}),(show mc j _=some s' from (by have hh:=qA; simp only [qV,oX,lM,if_false,if_true] at hh; exact hh)),(by dsimp only; omega),iY (dC J (iM)) ((dg b bd hd {s1 with sm:=(eo s1.sm (d8 s1.lr s1.sm.dn)).1} p ⟨hi.nodes,hi.id,hi.now,hi.mA,hi.pN,(by dsimp only; omega),hi.px,hi.base⟩).trans al)⟩
   refine aa<|Y J<|aV 41 (.bool true) J<|O<|cg J<|i5 (cells b (dw hd s1 p) 100::cells b4 (qk (eo s1.sm (d8 s1.lr s1.sm.dn)).2.1 (lJ,lK)) 64::[]) [] [0,2,4,6,8,10,12,14,16,18,20,22,24,27] (by kernel_rfl) al<|aq J J<|aL J J<|aw J J<|aG J J J<|aw J J<|aG J J J<|aw J J<|aG J J J<|aw J J<|aG J J J<|aw J J<|aG J J J<|ak J J (bI J J)<|an J ?_
   refine aP p.bc<|aJ J J (Cl (eo s1.sm (d8 s1.lr s1.sm.dn)).2.1.x (lJ,lK) slk oW.1 oW.2 (by omega)) ?_
   rintro _ _ ⟨⟨GQ,rfl⟩,rfl⟩
   exact au<|aR<|bA<|ai<|⟨(j,{s1 with sm:=(eo s1.sm (d8 s1.lr s1.sm.dn)).1,fu:=nc s1.fu (eo s1.sm (d8 s1.lr s1.sm.dn)).2.1.x}),(show mc j _=some s' from (by have hh:=qA; simp only [qV,oX,lM,if_false,if_true] at hh; exact hh)),(by dsimp only; omega),iY (dC J (iM)) ((dg b bd hd {s1 with sm:=(eo s1.sm (d8 s1.lr s1.sm.dn)).1,fu:=nc s1.fu (eo s1.sm (d8 s1.lr s1.sm.dn)).2.1.x} p ⟨hi.nodes,hi.id,hi.now,hi.mA,hi.pN,(by dsimp only; omega),hi.px,hi.base⟩).trans al)⟩
  refine dN (cells b (dw hd s1 p) 100::cells b2 (hO (d8 s1.lr s1.sm.dn) zD) 158::[]) [] [0,2,4,6,8,21,11,12,14,16,18,23,24,26] (by kernel_rfl) al<|aq J J<|aL J J<|aw J J<|aG J J J<|cf J J J<|an J<|bB J J λb4=>au<|an J ?_
  refine aP p.bo<|aJ J J (Cn (d8 s1.lr s1.sm.dn) kb.1 slk kb.2 (da (by omega))) ?_
  rintro _ _ ⟨lJ,lK,rfl,rfl⟩
  refine au<|aq J J<|ak J J (aO J J)<|ak J J (aO J J)<|ak J J (aO J J)<|an J<|aE J J<|au<|ak J J (bT J)<|ak J J (bT J)<|aR<|ai ?_
  rcases oX:(eo s1.sm (d8 s1.lr s1.sm.dn)).2.2.1 with _ | _
  ·exact aa<|Y J<|aV 41 (.bool false) J<|O<|aT J<|az<|bA<|ai<|⟨(j,{s1 with sm:=(eo s1.sm (d8 s1.lr s1.sm.dn)).1}),(show mc j _=some s' from (by have hh:=qA; simp only [qV,oX,lM,if_false,if_true] at hh; exact hh)),(by dsimp only; omega),iY (dC J (iM)) ((dg b bd hd {s1 with sm:=(eo s1.sm (d8 s1.lr s1.sm.dn)).1} p ⟨hi.nodes,hi.id,hi.now,hi.mA,hi.pN,(by dsimp only; omega),hi.px,hi.base⟩).trans al)⟩
  refine aa<|Y J<|aV 41 (.bool true) J<|O<|cg J<|i5 (cells b (dw hd s1 p) 100::cells b4 (qk (eo s1.sm (d8 s1.lr s1.sm.dn)).2.1 (lJ,lK)) 64::[]) [] [0,2,4,6,8,10,12,14,16,18,20,22,24,27] (by kernel_rfl) al<|aq J J<|aL J J<|aw J J<|aG J J J<|aw J J<|aG J J J<|aw J J<|aG J J J<|aw J J<|aG J J J<|aw J J<|aG J J J<|ak J J (bI J J)<|an J ?_
  refine aP p.bc<|aJ J J (Cl (eo s1.sm (d8 s1.lr s1.sm.dn)).2.1.x (lJ,lK) slk oW.1 oW.2 (by omega)) ?_
  rintro _ _ ⟨⟨GQ,rfl⟩,rfl⟩
  exact au<|aR<|bA<|ai<|⟨(j,{s1 with sm:=(eo s1.sm (d8 s1.lr s1.sm.dn)).1,fu:=nc s1.fu (eo s1.sm (d8 s1.lr s1.sm.dn)).2.1.x}),(show mc j _=some s' from (by have hh:=qA; simp only [qV,oX,lM,if_false,if_true] at hh; exact hh)),(by dsimp only; omega),iY (dC J (iM)) ((dg b bd hd {s1 with sm:=(eo s1.sm (d8 s1.lr s1.sm.dn)).1,fu:=nc s1.fu (eo s1.sm (d8 s1.lr s1.sm.dn)).2.1.x} p ⟨hi.nodes,hi.id,hi.now,hi.mA,hi.pN,(by dsimp only; omega),hi.px,hi.base⟩).trans al)⟩
 refine cw<|aY<|aY<|cu ?_
 obtain rfl:s1=s':=(RE dt).elim (λh0=>h0.2) (λh0=>absurd h0.1 gx)
 exact aF.ay (dg b bd hd s1 p hi)<|ei J
variable{s':dD}{e:dZ}
theorem abc {slot:Int} (h:AA s slot e=some s'):(vK e.order/\bP .i64 slot/\iP (nM s.m slot s.m.id e)<=nY/\eb (kr s.m.lr slot e).1<=60000)/\(((kr s.m.lr slot e).2≠0/\s=s')\/((kr s.m.lr slot e).2=0/\∃ s1 s2,q_ {s.m with lr:=(kr s.m.lr slot e).1} (f' (fT (nM s.m slot s.m.id e) ([],false))).length=some s1/\mc 70000 s1=some s2/\ph ⟨s2,s.waits⟩=some s')):=by
 unfold AA at h
 split at h
 ·cases h
 ·rename_i hc
  refine ⟨eX.1 hc, ?_⟩
  split at h
  ·rename_i hz; exact .inl ⟨hz,ez h⟩
  ·rename_i hz
   obtain ⟨s1,h1,h2⟩:=fK.1 h
   obtain ⟨s2,h3,h4⟩:=fK.1 h2
   exact .inr ⟨eX.1 hz,s1,s2,h1,h3,h4⟩
theorem acJ {l:List gG} {slot:Int} (h:(kr l slot e).2≠0):(kr l slot e).1=l:=by
 revert h
 unfold kr
 split <;> (try split) <;> (try split) <;> (try split) <;> simp
theorem MI {s:cG} {slot cH:Int} (hi:NI s) (hs:bP .i64 slot) (ht:bP .i64 cH) (ho:fC e.order):gf (nM s slot cH e):=⟨show bP .i64 6 by decide,da (by have:=hi.id; have:=hi.nodes; show _<=s.id/\s.id<=_; omega),ht,iy,iy,hs,ho,iy⟩
theorem RF {s:cG} {p:B4} (slot cH:Int) (e:dZ) (q:Option Addr × Nat):Fn prog 213 #[bG b,.int .i64 slot,.int .i64 cH,ve e q] (cells b (dw hd s p) 100::L) (λv L'=>v=nk (nM s slot cH e) ⟨q,(none,0),(none,0),(none,0)⟩/\L'=cells b (dw hd s p) 100::L):=by
 exact aH func213 J J J J<|aa<|bS J J J λb7=>bB J J λb8=>O<|bW (cells b (dw hd s p) 100::cells b7 (hO e q) 158::[]) [8] [0,2,4,6,8,10,12,14,17] (by kernel_rfl) al<|aq J J<|aL J J<|aw J J<|aG J J J<|aq J J<|aq J J<|cf J J J<|ak J J (bI J J)<|an J<|aE J J<|gZ J<|aR<|av<|eK (.inl J) J (bf.agg J J) bu.g (⟨J,J⟩)
theorem Rc (slot:Int) (e:dZ) (q:Option Addr × Nat) (hk:a_ L (aI .i64) q.1 q.2 e.order.cut) (h:AA s slot e=some s'):Fn prog 153 #[bG b,.int .i64 slot,ve e q] (nd b bd s::L) (λv L'=>v=.tuple #[]/\L'=nd b bd s'::L):=by
 obtain ⟨⟨cX,fW,B5,hpx⟩,hw⟩:=abc h
 refine aH func153 J J J J ?_
 refine b_ (a_.lay (a_.tail hk))<|aa<|bS J J J λb5=>O<|ar ?_
 refine cQ b<|jM λA cc=> ?_
 refine cQ b<|fU λp hi=>bW (cells b (dw (.slice A s.waits.length cc) s.m p) 100::cells b5 (hO e q) 158::[]) [] [0,2,4,6,8,10,13,14] (by kernel_rfl) al<|aq J J<|aL J J<|aw J J<|aG J J J<|aq J J<|cf J J J<|an J ?_
 refine aP p.bl<|aB J J (YF slot e fW cX.1 cX.2 bJ)<|au<|ak J J (dB J J)<|aR<|bz J (λgU=> ?_) (λgU=> ?_)
 ·obtain rfl:s=s':=hw.elim (λh0=>h0.2) (λh0=>absurd h0.1 gU)
  rw [acJ gU]
  refine av<|aU ?_
  refine aF.ay (dg b bd (.slice A s.waits.length cc) s.m p hi) ?_
  exact aF.ay (fp b bd s.m s.waits A cc)<|kR J
 obtain ⟨_,s1,s2,mU,kb,eF⟩:=hw.resolve_left (λh0=>gU h0.1)
 refine b_ (dg b bd (.slice A s.waits.length cc) {s.m with lr:=(kr s.m.lr slot e).1} p ⟨hi.nodes,hi.id,hi.now,hi.mA,hi.pN,hi.dn,by dsimp only; omega,hi.base⟩)<|fU λp2 dW=>az<|ai<|bW (cells b (dw (.slice A s.waits.length cc) {s.m with lr:=(kr s.m.lr slot e).1} p2) 100::cells b5 (hO e q) 158::[]) [] [0,2,4,6,8,10,12,15,17,18,20,22,24,26] (by kernel_rfl) al<|aq J J<|aq J J<|aq J J<|aL J J<|aw J J<|aG J J J<|cf J J J<|an J<|g_ b<|aB J J (RF slot s.m.id e q)<|au<|an J<|aJ J J (uL (nM s.m slot s.m.id e) ⟨q,(none,0),(none,0),(none,0)⟩ (MI hi fW (da (by have:=hi.id; have:=hi.nodes; omega)) cX.1) ⟨a_.dT bu.g (slk (L:=[sl (aI .i64) q.1 q.2 e.order.cut])),dP,dP,dP⟩ B5) ?_
 rintro _ _ ⟨J5,J6,rfl,rfl⟩
 refine bF<|au<|aq J J<|ak J J (aO J J)<|ak J J (aO J J)<|ak J J (bT J)<|ak J J (bT J)<|aR<|aa<|Y J<|Y J ?_
 refine bX (dg b bd (.slice A s.waits.length cc) {s.m with lr:=(kr s.m.lr slot e).1} p2 dW)<|aB J J (z1 67 (by decide) slk mU)<|O<|aa<|Y J ?_
 refine aP b<|aB J J (Rb kb)<|O<|aQ<|Y J ?_
 exact bX (fp b bd s2 s.waits A cc)<|aB J J (zU eF)<|O<|ei J
open Go Go.Proofs Go.Proofs.Tryz
def AV (s:cG) (m:bQ):cG:={s with pr:=(gn s.pr m).1,base:=if jL s=false/\(gn s.pr m).1.phase=2 then (gn s.pr m).1.next else s.base}
theorem acK (h:AQ s m=some s'):(zB s.m (gn s.m.pr m).1/\bP .i64 (gn s.m.pr m).1.next)/\∃ s2 s3,gk (gn s.m.pr m).2.1 (AV s.m m)=some s2/\AP (gn s.m.pr m).2.2 ⟨s2,s.waits⟩=some s3/\((jL s.m=jL s3.m/\s3=s')\/(jL s.m≠jL s3.m/\ph s3=some s')):=by
 unfold AQ at h
 dsimp only at h
 split at h
 ·cases h
 ·rename_i hc
  refine ⟨eX.1 hc, ?_⟩
  obtain ⟨s2,h1,h2⟩:=fK.1 h
  obtain ⟨s3,h3,h4⟩:=fK.1 h2
  refine ⟨s2,s3,h1,h3, ?_⟩
  split at h4
  ·rename_i he; exact .inl ⟨he,ez h4⟩
  ·rename_i he; exact .inr ⟨he,h4⟩
theorem acL {v:dj} {l:List dj} (h:AP (v::l) s=some s'):(s.waits.length<=1/\∀ w∈s.waits,w.call.kind≠4)/\∃ m s1,CX s.m v.slot v.en (pW s.m)=some m/\AA ⟨m,s.waits⟩ v.slot v.en=some s1/\AP l s1=some s':=by
 unfold AP at h
 split at h
 ·cases h
 ·rename_i hc
  obtain ⟨m,h1,h2⟩:=fK.1 h
  obtain ⟨s1,h3,h4⟩:=fK.1 h2
  refine ⟨⟨by omega,λw hw hk=>hc (.inr (List.any_eq_true.2 ⟨w,hw,by simpa using hk⟩))⟩,m,s1,h1,h3,h4⟩
variable{cH:Int}
theorem ZV {l:List Int} {s s':cG} {slot:Int} (h:CX s slot e (cH::l)=some s'):∃ s1,gk [nM s slot cH e] s=some s1/\CX s1 slot e l=some s':=fK.1 h
theorem ad6 {s:cG} {z:Int} (hi:NI s) (h:z∈pW s):bP .i64 z:=by
 unfold pW at h
 obtain ⟨k,hk,rfl⟩:=fY.1 (ke.1 h).1
 have:=hi.nodes
 rw [sC] at hk
 exact da (by omega)
theorem acM (s:cG) (hi:NI s):(pW s).length<=7:=by
 unfold pW
 have:=hi.nodes
 refine kf (kG _ _) ?_
 simp; omega
variable{r:Option Nat}
variable{l:List Value}
theorem Vg (h:l=nU w->TL r n P ops rest ⟨D,E,L⟩ K):TL r n P ops rest ⟨D,E,is fa w l::L⟩ K:=
 EQ (bV.wC (p:=is fa w l) (φ:=λ_=>l=nU w/\yB w) λM k h=>h) (λ_ h=>h) λhl=>bX (am.drop _ _) (h hl.1)
structure ajs where
 i:Nat
 s:dD
structure akT where
 i:Nat
 s:cG
set_option maxHeartbeats 2000000 in
theorem K3 (m:bQ) (q:gg) (hx:gf m) (hk:fN L m q) (hc:iP m<=nY) (h:AQ s m=some s'):Fn prog 152 #[bG b,nk m q] (nd b bd s::L) (λv L'=>v=.tuple #[]/\L'=nd b bd s'::L):=by
 obtain ⟨⟨cX,jF⟩,s2,s3,eF,qr,By⟩:=acK h
 refine aH func152 J J J J<|b_ (fN.lay (fN.dT (am.drop _ _) hk))<|aa<|bS J J J λb3=>O<|cQ b<|jM λA cc=>aa<|Y J<|aP b<|aB J J (tJ)<|ae J<|O<|cQ b<|fU λp hi=>bW (cells b (dw (.slice A s.waits.length cc) s.m p) 100::cells b3 (dq m q) 174::[]) [] [0,2,4,6,8,11,12,14,16,18,20] (by kernel_rfl) al<|aq J J<|aL J J<|aw J J<|aG J J J<|cf J J J<|an J<|aP p.bp<|aJ J J (ad3 m q hx ⟨slk,slk,slk,slk⟩ hc) ?_
 rintro _ _ ⟨Ao,co,Av,cv,rfl,rfl⟩
 refine bF<|wo 1 J<|bF<|au<|aq J J<|ak J J (aO J J)<|ak J J (aO J J)<|ak J J (bT J)<|ak J J (bT J)<|aR<|ar<|b_ (dg b bd (.slice A s.waits.length cc) {s.m with pr:=(gn s.m.pr m).1} p ⟨hi.nodes,hi.id,hi.now,hi.mA,cX,hi.dn,hi.px,hi.base⟩)<|aa<|Y J<|ab J J (ff J)<|jJ 4 29 (jL s.m=false/\jL {s.m with pr:=(gn s.m.pr m).1}=true) ?_ ?_
 ·refine Y J<|nH 26 J (λno=> ?_) (λno=> ?_)
  ·refine aj J<|Y J<|aj J<|aB J J (tJ)<|aA J<|dH J ?_ (by repeat (first | exact dI | refine dJ rfl ?_)) al
   exact bi Value.bool ((by have h0:jL s.m=false:=(by simpa using no); rw [h0]; simp))
  refine ah J<|ah J<|aA J<|dH J ?_ (by repeat (first | exact dI | refine dJ rfl ?_)) al
  exact bi Value.bool (cJ ((by have h0:jL s.m=true:=(by simpa using no); rw [h0]; simp))).symm
 refine O<|Ae (σ:=Unit) [0,4,5,6] (λg=>True) (λg kv=>kv) (λg=>nx b bd (.slice A s.waits.length cc) (AV s.m m)::aN fa 290 A cc s.waits::sl dE Ao co (gn s.m.pr m).2.1::sl dz Av cv (gn s.m.pr m).2.2::L) J ?_ ?_
 ·refine bz J (λkX=> ?_) (λkX=> ?_)
  ·refine cQ b<|fU λp2 dW=>aQ<|Y J<|Y J<|aS J<|ao J<|ax J J<|aP p2.bp<|aB J J (aa2)<|aS J<|ao J<|aE J J<|O<|ai ?_
   exact ⟨(),trivial,iY (dC rfl (dC rfl (dC rfl (dC rfl (iM))))) ((show am _ (nx b bd (.slice A s.waits.length cc) (AV s.m m)::_) from by (rw [show AV s.m m={s.m with pr:=(gn s.m.pr m).1,base:=(gn s.m.pr m).1.next} from by (unfold AV; rw [if_pos ⟨kX.1,o3 kX.2⟩])]; exact dg b bd (.slice A s.waits.length cc) {s.m with pr:=(gn s.m.pr m).1,base:=(gn s.m.pr m).1.next} p2 ⟨dW.nodes,dW.id,dW.now,dW.mA,dW.pN,dW.dn,dW.px,jF⟩)).trans al)⟩
  refine az<|ai ?_
  exact ⟨(),trivial,iY (dC rfl (dC rfl (dC rfl (dC rfl (iM))))) (by (rw [show AV s.m m={s.m with pr:=(gn s.m.pr m).1} from by (unfold AV; rw [if_neg (λh0=>kX ⟨h0.1,dV h0.2⟩)])]; exact al))⟩
 intro _ _
 refine aa<|Y J<|Y J<|aP b<|aB J J (rF slk eF)<|O<|ar<|b_ (fp b bd s2 s.waits A cc)<|bR.lens (bJ (A:=Av) (c:=cv) (R:=dz)) λPZ=> ?_
 simp only [cE] at PZ
 refine aa<|Y J<|ab J J (bY J)<|Y J<|O<|aX<|cY (σ:=ajs) [0,4,41,42] (λg=>g.i<=(gn s.m.pr m).2.2.length/\AP ((gn s.m.pr m).2.2.drop g.i) g.s=some s3) (λg kv=>(43,.int .i64 (g.i:Int))::kv) (λg=>nd b bd g.s::sl dz Av cv (gn s.m.pr m).2.2::L) (λg=>(gn s.m.pr m).2.2.length - g.i) (⟨0,⟨s2,s.waits⟩⟩) J (⟨dF _,qr⟩) (al) (dc J) ?_
 rintro ⟨i,s4⟩ ⟨eG,GR⟩
 dsimp only at eG GR ⊢
 refine aa<|ab J J (bU J J)<|O<|ar<|bz J (λGu=> ?_) (λGu=> ?_)
 ·refine az<|ai<|ar<|aX ?_
  obtain ⟨v,hv⟩:∃ v,(gn s.m.pr m).2.2[i]? =some v:=⟨_,cj (by omega)⟩
  rw [yp hv] at GR
  obtain ⟨⟨hw1,hw4⟩,m5,s6,PJ,hl6,hr6⟩:=acL GR
  refine gr (bJ (A:=Av) (c:=cv) (R:=dz)) hv λbq oq eq=> ?_
  subst eq
  refine aa<|f6 J J J (J) ((bJ (A:=some ⟨bq,oq,none⟩) (c:=cv) (R:=dz))) (hv) λakN akO akP OC=> ?_
  have OD:=hv
  refine kh J J OC OD (λ_=>J) λvM OE=> ?_
  simp only [dL,dm]
  refine bB J J λb8=>aE J J<|O<|ar<|cQ b<|jM λA2 iz=>cQ b<|fU λp3 mW=>aa<|Y J<|aS J<|ao J<|ax J J<|ab J J (bY J)<|Y J<|O<|aX<|cY (σ:=Nat) [0,4,8,41,42,43,50,51] (λg=>g<=s4.waits.length) (λg kv=>(52,.int .i64 (g:Int))::kv) (λg=>GN b bd (.slice A2 s4.waits.length iz) s4.m p3 (aN fa 290 A2 iz s4.waits::cells b8 (tT v vM) 323::sl (aI .i64) vM.1 vM.2 v.en.order.cut::sl dz (some ⟨bq,oq,none⟩) cv (gn s.m.pr m).2.2::L)) (λg=>s4.waits.length - g) (0) J (dF _) (al) (dc J) λk Xp=>aa<|ab J J (bU J J)<|O<|ar<|bz J (λh53=> ?_) (λh53=> ?_)
  ·refine az<|ai<|ar<|aX ?_
   obtain ⟨w,hw⟩:∃ w,s4.waits[k]? =some w:=⟨_,cj (by omega)⟩
   have akU:=hw4 w (eA hw)
   refine aa<|Y J<|Em (bR.dT bu.g (gp (R:=fa) (t:=290) (A:=A2) (c:=iz) (xs:=s4.waits) (L:=[]))) hw (λM l (h:l=nU w/\yB w)=>h.2) λtw=>f6 J J J (J) (bR.dT bu.g (gp (R:=fa) (t:=290) (A:=A2) (c:=iz) (xs:=s4.waits) (L:=[]))) (hw) λaml amm amn akV=> ?_
   have akW:=hw
   refine ab J J (x_ J akV akW J)<|bB J J λmr=>ae J<|aE J J<|O<|CQ A2 iz (R:=fa) (te:=290) (xs:=s4.waits) hw λgw hA=> ?_
   subst hA
   refine i5 (cells b (dw (.slice (some ⟨gw,0,none⟩) s4.waits.length iz) s4.m p3) 100::cells mr (nU w) 290::[]) [] [0,2,4,6,8,10,12,14,16,18,20,22,24,26,28,30,32,34,36,38,40,42,44,46,48,50,52,54,56,59] (by kernel_rfl) al<|aq J J<|aL J J<|aw J J<|aG J J J<|aq J J<|aw J J<|aG J J J<|aq J J<|L_ 64 J (λP0=> ?_) (λP0=> ?_)
   ·refine aD J J<|aD J J<|aD J J<|aD J J<|aD J J<|dS J J J J<|dS J J J J<|dS J J J J<|dS J J J J<|dS J J J J<|aD J J<|aD J J<|dS J J J J<|dS J J J J<|dS J J J J<|dS J J J J<|dS J J J J<|aD J J<|ak J J (d9 J J)<|ak J J (pS (R:=fa) (xs:=s4.waits) J J J hw)<|ak J J (cp J)<|an J<|z_ (A:=some ⟨gw,0,none⟩) (c:=iz) (R:=fa) hw λg3 l3 xH DT=> ?_
    obtain ⟨rfl⟩:g3=gw:=by cases xH; rfl
    refine wo 1 J<|Vg λP1=> ?_
    subst P1
    refine fc J J J J J J<|jK (R:=fa) gw w (bV.const λ_=>⟨by simp only [nU,P0],tw⟩) ?_
    rw [pd hw]
    refine au<|aR<|bA<|ai<|aQ<|ab J J (bE J J (by omega))<|cz 86 J<|Y J<|O<|ai ?_
    exact ⟨k+1,(by omega),by omega,bO rfl⟩
   refine aC J J (dp J)<|aC J J (dp J)<|aC J J (dY J J)<|aC J J (ce J J)<|lZ 68 J akU<|aC J J (cU J)<|aD J J<|aD J J<|aD J J<|aD J J<|aD J J<|aC J J (dG J J)<|aC J J (cU J)<|aD J J<|aD J J<|aD J J<|aD J J<|aD J J<|aC J J (dG J J)<|ak J J (dG J J)<|ak J J (pS (R:=fa) (xs:=s4.waits) J J J hw)<|ak J J (cp J)<|an J<|z_ (A:=some ⟨gw,0,none⟩) (c:=iz) (R:=fa) hw λg3 l3 xH DT=> ?_
   obtain ⟨rfl⟩:g3=gw:=by cases xH; rfl
   refine wo 1 J<|Vg λP1=> ?_
   subst P1
   refine fc J J J J J J<|jK (R:=fa) gw w (bV.const λ_=>⟨by simp only [nU,P0],tw⟩) ?_
   rw [pd hw]
   refine au<|aR<|bA<|ai<|aQ<|ab J J (bE J J (by omega))<|cz 86 J<|Y J<|O<|ai ?_
   exact ⟨k+1,(by omega),by omega,bO rfl⟩
  refine cw<|aY<|aY<|cu<|ai<|ar<|b_ (dg b bd (.slice A2 s4.waits.length iz) s4.m p3 mW)<|aa<|Y J<|aJ J J (Y2) ?_
  rintro _ _ ⟨JP,JQ,rfl,rfl⟩
  refine bF<|ab J J (bY J)<|Y J<|O<|aX<|cY (σ:=akT) [0,4,8,41,42,43,88,89] (λg=>g.i<=(pW s4.m).length/\CX g.s v.slot v.en ((pW s4.m).drop g.i)=some m5) (λg kv=>(90,.int .i64 (g.i:Int))::kv) (λg=>nx b bd (.slice A2 s4.waits.length iz) g.s::aN fa 290 A2 iz s4.waits::sl (aI .i64) JP JQ (pW s4.m)::cells b8 (tT v vM) 323::sl (aI .i64) vM.1 vM.2 v.en.order.cut::sl dz (some ⟨bq,oq,none⟩) cv (gn s.m.pr m).2.2::L) (λg=>(pW s4.m).length - g.i) (⟨0,s4.m⟩) J (⟨dF _,PJ⟩) (al) (dc J) ?_
  rintro ⟨k2,s7⟩ ⟨gV,zz⟩
  dsimp only at gV zz ⊢
  refine aa<|ab J J (bU J J)<|O<|ar<|bz J (λh91=> ?_) (λh91=> ?_)
  ·refine az<|ai<|ar<|aX ?_
   obtain ⟨z,hz⟩:∃ z,(pW s4.m)[k2]? =some z:=⟨_,cj (by omega)⟩
   rw [yp hz] at zz
   obtain ⟨s8,hs8,hr8⟩:=ZV zz
   have xI:=ad6 mW (eA hz)
   have xh:=acM s4.m mW
   exact aa<|uG J J J slk hz λamo amp amq=>ab J J (rG J J)<|ae J<|O<|cQ b<|Dj λJV=>aQ<|Y J<|Y J<|ao J<|ax J J<|Y J<|ao J<|bD J J<|aP b<|aB J J (Y1 v.slot z v.en vM)<|ef J J J J J J λakX=>eh (k:=1) dE [nM s7 v.slot z v.en] (sM ⟨vM,(none,0),(none,0),(none,0)⟩ ⟨slk,dP,dP,dP⟩ (MI JV OE.1 xI OE.2.2.2)) J (by decide)<|bF<|aV 102 (.slice (some ⟨akX,0,none⟩) [nM s7 v.slot z v.en].length 1) J<|aP b<|aB J J (rF slk hs8)<|O<|bA<|ai<|aQ<|ab J J (bE J J (by omega))<|cz 104 J<|Y J<|O<|ai<|⟨⟨k2+1,s8⟩,⟨by dsimp only; omega,hr8⟩,(by dsimp only; omega),bO J⟩
  refine cw<|aY<|aY<|cu<|ai ?_
  obtain rfl:k2=(pW s4.m).length:=by omega
  rw [xV] at zz
  obtain rfl:s7=m5:=ez zz
  exact b_ (fp b bd s7 s4.waits A2 iz)<|aQ<|Y J<|ao J<|ax J J<|ao J<|bD J J<|aB J J (Rc v.slot v.en vM slk hl6)<|O<|bA<|ai<|aQ<|ab J J (bE J J (by omega))<|cz 111 J<|Y J<|O<|ai<|⟨⟨i+1,s6⟩,⟨by dsimp only; omega,hr6⟩,(by dsimp only; omega),bO J⟩
 refine cw<|aY<|aY<|cu<|ai ?_
 obtain rfl:i=(gn s.m.pr m).2.2.length:=by omega
 rw [xV] at GR
 obtain rfl:s4=s3:=ez GR
 refine jM λA9 Xq=>aa<|Y J<|Y J<|aB J J (tJ)<|ab J J (f8 J J (dh.bool))<|O<|gF J (λJj=> ?_) (λJj=> ?_)
 ·obtain qx:=(By.resolve_left (λh0=>by rw [h0.1] at Jj; simp at Jj)).2
  exact b_ (fp b bd s4.m s4.waits A9 Xq)<|aQ<|Y J<|aB J J (zU qx)<|O<|ei J
 refine az ?_
 obtain rfl:s4=s':=By.elim (λh0=>h0.2) (λh0=>absurd (show jL s.m=jL s4.m from by simpa using Jj) h0.1)
 exact aF.ay (fp b bd s4.m s4.waits A9 Xq)<|ei J
open Go Go.Proofs Go.Proofs.Tryz
structure akY where
 i:Nat
 held:List jl
 H:Option Addr
 ch:Nat
variable{s:cG}
theorem afF {p:B4} (hn:¬ qe m.kind) (hl:s.held.length < 100000) (hk:a_ L dE A c [m]):Fn prog 94 #[bG b,.slice A 1 c] (cells b (dw hd s p) 100::aN iw 196 p.H p.ch s.held::L) (λv L'=>v=.tuple #[]/\∃ q:Option Addr × Nat,L'=cells b (dw hd {s with held:=s.held++[.gh m]} {p with H:=q.1,ch:=q.2}) 100::aN iw 196 q.1 q.2 (s.held++[.gh m])::L):=by
 refine aH func94 J J J J ?_
 refine b_ (a_.lay hk.tail.tail)<|aa<|Y J<|ab J J (bY J)<|Y J<|O<|aX<|cY (σ:=akY) [0,6,7] (λg=>(g.i=0/\g.held=s.held)\/(g.i=1/\g.held=s.held++[.gh m])) (λg kv=>(8,.int .i64 (g.i:Int))::kv) (λg=>cells b (dw hd {s with held:=g.held} {p with H:=g.H,ch:=g.ch}) 100::aN iw 196 g.H g.ch g.held::sl dE A c [m]::L) (λg=>1 - g.i) (⟨0,s.held,p.H,p.ch⟩) J (.inl ⟨J,J⟩) (al) (dc J) ?_
 rintro ⟨i,held,H,ch⟩ sq
 dsimp only at sq ⊢
 refine aa<|ab J J (bU J J)<|O<|ar<|bz J (λh9=> ?_) (λh9=> ?_)
 ·refine az<|ai<|ar<|aX ?_
  obtain ⟨rfl,rfl⟩:i=0/\held=s.held:=by rcases sq with h0 | h0; exact h0; omega
  refine gr (bJ (A:=A) (c:=c) (R:=dE) (xs:=[m])) (j:=0) J λbq oq eq=> ?_
  subst eq
  refine aa<|f6 J J J (J) ((bJ (A:=some ⟨bq,oq,none⟩) (c:=c) (R:=dE) (xs:=[m]))) ((J:[m][0]? =some m)) λV' Wa Wb FL=> ?_
  have FM:=(rfl:[m][0]? =some m)
  refine kh J J FL FM (λ_=>J) λtv Dt=> ?_
  simp only [dL,dm]
  refine bB J J λb5=>aE J J<|O<|ar<|bW (cells b (dw hd {s with held:=s.held} {p with H:=H,ch:=ch}) 100::cells b5 (dq m tv) 174::[]) [] [0,2,4,6,8,10,12,14,16,18,21,22] (by kernel_rfl) al<|aw J J<|aG J J J<|aq J J<|aL J J<|aw J J<|aG J J J<|ak J J (ce J J)<|aq J J<|gE 19 J (λj9=> ?_) (λj9=> ?_)
  ·refine aC J J (dp J)<|aC J J (dY J J)<|an J<|aj J<|aB J J (RA m.kind _)<|dx 22 J hn<|au<|ak J J (d9 J J)<|aR<|aT J<|az<|ai<|i5 (cells b (dw hd {s with held:=s.held} {p with H:=H,ch:=ch}) 100::cells b5 (dq m tv) 174::[]) [11] [0,2,4,6,8,10,12,15,17,18,20,23] (by kernel_rfl) al<|aq J J<|aq J J<|aL J J<|aw J J<|aG J J J<|cf J J J<|ak J J (bI J J)<|an J<|ef J J J J J J λxG=> ?_
   refine eh (k:=1) iw [.gh m] (EP tv ⟨slk,slk,slk,slk⟩ Dt) J (by decide)<|bF<|aV 34 (.slice (some ⟨xG,0,none⟩) [jl.gh m].length 1) J<|au<|an J ?_
   exact fi J J J J J slk (by simp only [dO,ej]; omega) λgM gN=>au<|aL J J<|aw J J<|an J<|aE J J<|gZ J<|aR<|bA<|ai<|aQ<|ab J J (bE J J (by omega))<|aV 38 (.int .i64 ((1:Nat):Int)) J<|Y J<|O<|ai<|⟨⟨1,s.held++[.gh m],gM,gN⟩,.inr ⟨J,J⟩,(by dsimp only; omega),bO J⟩
  refine aD J J<|aD J J<|an J<|ah J<|au<|ak J J (dG J J)<|aR<|aT J<|az<|ai<|i5 (cells b (dw hd {s with held:=s.held} {p with H:=H,ch:=ch}) 100::cells b5 (dq m tv) 174::[]) [11] [0,2,4,6,8,10,12,15,17,18,20,23] (by kernel_rfl) al<|aq J J<|aq J J<|aL J J<|aw J J<|aG J J J<|cf J J J<|ak J J (bI J J)<|an J<|ef J J J J J J λxG=> ?_
  refine eh (k:=1) iw [.gh m] (EP tv ⟨slk,slk,slk,slk⟩ Dt) J (by decide)<|bF<|aV 34 (.slice (some ⟨xG,0,none⟩) [jl.gh m].length 1) J<|au<|an J ?_
  exact fi J J J J J slk (by simp only [dO,ej]; omega) λgM gN=>au<|aL J J<|aw J J<|an J<|aE J J<|gZ J<|aR<|bA<|ai<|aQ<|ab J J (bE J J (by omega))<|aV 38 (.int .i64 ((1:Nat):Int)) J<|Y J<|O<|ai<|⟨⟨1,s.held++[.gh m],gM,gN⟩,.inr ⟨J,J⟩,(by dsimp only; omega),bO J⟩
 refine cw<|aY<|aY<|cu ?_
 obtain ⟨rfl,rfl⟩:i=1/\held=s.held++[.gh m]:=by rcases sq with h0 | h0; omega; exact h0
 exact lj (.inr rfl) rfl bu.g (⟨rfl,(H,ch),rfl⟩)
variable{s':cG}
theorem ZW {l:List bQ} (h:CY s (m::l)=some s'):∃ s1,gk [if m.kind=7 then {m with slot:=((eb s.lr:Nat):Int)} else m] s=some s1/\CY s1 l=some s':=fK.1 h
theorem Rd (h:E2 s m=some s'):(m.bC=s.id/\s=s')\/(m.bC≠s.id/\∃ s1,CY s (nh s.id s.by_ s.ap m)=some s1/\s1.held.length<=99000/\((((eb s1.lr:Nat):Int) < m.slot/\mb m.seen (dK s.ap)=true/\gk [ua {s1 with held:=s1.held++lI s1 m.bC ((je s1.lr m.slot).take 16)} m.bC] {s1 with held:=s1.held++lI s1 m.bC ((je s1.lr m.slot).take 16)}=some s')\/(¬ (((eb s1.lr:Nat):Int) < m.slot/\mb m.seen (dK s.ap)=true)/\{s1 with held:=s1.held++lI s1 m.bC ((je s1.lr m.slot).take 16)}=s'))):=by
 unfold E2 at h
 split at h
 ·rename_i hf; exact .inl ⟨hf,ez h⟩
 ·rename_i hf
  obtain ⟨s1,h1,h2⟩:=fK.1 h
  split at h2
  ·cases h2
  ·rename_i hl
   refine .inr ⟨hf,s1,h1,by omega, ?_⟩
   split at h2
   ·rename_i hc; exact .inl ⟨hc.1,hc.2,h2⟩
   ·rename_i hc; exact .inr ⟨hc,ez h2⟩
theorem ad7 (node:Int) (by_:List (List aW)) (ap:List Int) (m:bQ):(nh node by_ ap m).length<=2:=by
 unfold nh
 rw [eQ]
 have h1:(if (gA 16 by_ (hQ m.seen)).length > 0 then [rh node m.bC (gA 16 by_ (hQ m.seen))] else []).length<=1:=by split <;> simp
 have h2:(if mb m.seen (dK ap)=true then [] else [Bv node m.bC ap]).length<=1:=by split <;> simp
 omega
structure akZ where
 i:Nat
 asked:Bool
 s:cG
def AX (m:bQ):Bool:=decide (m.kind=7)
theorem ad8 (node:Int) (by_:List (List aW)) (ap:List Int) (m:bQ):(nh node by_ ap m).any AX= !mb m.seen (dK ap):=by
 unfold nh
 rw [List.any_append]
 have h1:(if (gA 16 by_ (hQ m.seen)).length > 0 then [rh node m.bC (gA 16 by_ (hQ m.seen))] else []).any AX=false:=by
  split <;> simp [AX]
 rw [h1,Bool.false_or]
 cases mb m.seen (dK ap) <;> simp [AX]
structure F6 (n0:Nat) where
 k:Nat
 j:Nat
 held:List jl
 H:Option Addr
 ch:Nat
 le:held.length=n0+j/\j<=16
def Vh (s1:cG) (bC:Int) (n0:Nat):LS (F6 n0)->sS->LS (F6 n0)->Prop:=λs x s'=>s'.1.k=s.1.k+1/\((16<=s.1.j/\s'.2=some (.exit 2)/\s'.1.held=s.1.held/\s'.1.j=s.1.j)\/(s.1.j < 16/\s'.2=none/\s'.1.j=s.1.j+1/\s'.1.held=s.1.held++[.gh (nM s1 x.1 bC x.2.1)]))
theorem aha {s1:cG} {bC:Int} {n0:Nat} {s s':LS (F6 n0)} {ys:List sS} (h:gH (Vh s1 bC n0) (λs=> !s.2.isNone) s ys s') (h0:s.2=none):s'.1.held=s.1.held++lI s1 bC ((ys.map AJ).take (16 - s.1.j))/\(s'.2=none\/(s'.2=some (.exit 2)/\16<=ys.length+s.1.j)):=by
 induction h with
 | nil s=>exact ⟨by simp [lI],.inl h0⟩
 | @halt s1 s2 x xs a b=>
  rcases a.2 with ⟨h1,h2,h3,h4⟩ | ⟨_,h2,_⟩
  ·refine ⟨?_,.inr ⟨h2,by omega⟩⟩
   rw [h3,show 16 - s1.1.j=0 by omega]; simp [lI]
  ·rw [h2] at b; simp at b
 | @go s1 s2 s3 x xs a b c ih=>
  rcases a.2 with ⟨_,h2,_⟩ | ⟨h1,h2,h3,h4⟩
  ·rw [h2] at b; simp at b
  ·obtain ⟨q1,q2⟩:=ih h2
   refine ⟨?_, ?_⟩
   ·rw [q1,h4,h3,show 16 - s1.1.j=(16 - (s1.1.j+1))+1 by omega,kq,List.take_succ_cons,fh]
    rfl
   ·rcases q2 with h5 | ⟨h5,h6⟩
    ·exact .inl h5
    ·exact .inr ⟨h5,by rw [h3] at h6; simp; omega⟩
theorem ad9 {l:List gG} {slot:Int} {st:Bool} {ys:List sS} (hq:NF l slot st ys) (h:st=false\/16<=ys.length):(ys.map AJ).take 16=(je l slot).take 16:=by
 rcases h with h | h
 ·rw [hq.1 h]
 ·obtain ⟨t,ht⟩:=hq.2
  rw [<- ht,List.take_append_of_le_length (by simpa using h)]
theorem NV (hi:NI s) (ht:bP .i64 cH):gf (ua s cH):=⟨show bP .i64 7 by decide,da (by have:=hi.id; have:=hi.nodes; show _<=s.id/\s.id<=_; omega),ht,iy,iy,da (by have:=hi.px; show _<=((eb s.lr:Nat):Int)/\((eb s.lr:Nat):Int)<=_; omega),Az,iy⟩
section
variable {r:Option Nat} {n:Nat} {P:Program} {ops:Array Oper} {rest:List Oper} {K:St->Prop} {D:List Deferred} {E:cZ} {L L':List HP} {α:Type} {R:bZ α} {te:TypeId} {xs:List α}
theorem LV (A:Option Addr) (c:Nat) [h:md L A c α R te xs L'] (hh:TL r n P ops rest ⟨D,E,aN R te A c xs::L'⟩ K):TL r n P ops rest ⟨D,E,L⟩ K:=bX h.g hh
end
set_option maxHeartbeats 2000000 in
theorem Y4 (m:bQ) (q:gg) (zw:gf m) (hk:fN L m q) (hr:lT m) (h7:m.kind=7) (uo:m.cH=s.id) (h:E2 s m=some s'):Fn prog 154 #[bG b,nk m q] (nx b bd hd s::L) (λv L'=>v=.tuple #[]/\L'=nx b bd hd s'::L):=by
 refine ye func154 J J J J ?_
 refine b_ (fN.lay (fN.dT (am.drop _ _) hk))<|aa<|bS J J J λb2=>bS J J J λb3=>O<|ar ?_
 refine cQ b<|fU λp hi=>bW (cells b2 [bG b] 40::cells b (dw hd s p) 100::cells b3 (dq m q) 174::[]) [] [0,2,4,6,8,10,12] (by kernel_rfl) al<|aw J J<|aG J J J<|aG J J J<|aL J J<|aw J J<|aG J J J<|ak J J (ce J J)<|aR<|bz J (λeI=> ?_) (λeI=> ?_)
 ·refine av<|aU<|ai6 ?_
  obtain rfl:s=s':=(Rd h).elim (λh0=>h0.2) (λh0=>absurd eI h0.1)
  exact aF.ay (dg b bd hd s p hi)<|kR J
 refine az<|ai ?_
 obtain ⟨s1,dt,za,By⟩:=((Rd h).resolve_left (λh0=>eI h0.1)).2
 refine aa<|ae J<|O<|ar<|bW (cells b2 [bG b] 40::cells b (dw hd s p) 100::cells b3 (dq m q) 174::[]) [] [0,2,4,6,8,14,11,12] (by kernel_rfl) al<|aG J J J<|aL J J<|aw J J<|aG J J J<|cf J J J<|aq J J<|an J ?_
 refine aP p.bc<|aJ J J (YZ m q ⟨h7,uo,eI⟩ hr ⟨slk,slk,slk,slk⟩) ?_
 rintro _ _ ⟨mS,k_,rfl,rfl⟩
 refine bF<|au<|ak J J (bY J)<|aR<|aX<|cY (σ:=akZ) [2,3,22,23] (λg=>g.i<=(nh s.id s.by_ s.ap m).length/\CY g.s ((nh s.id s.by_ s.ap m).drop g.i)=some s1/\g.asked=((nh s.id s.by_ s.ap m).take g.i).any AX) (λg kv=>(24,.int .i64 (g.i:Int))::(4,.bool g.asked)::kv) (λg=>nx b bd hd g.s::cells b2 [bG b] 40::cells b3 (dq m q) 174::sl dE mS k_ (nh s.id s.by_ s.ap m)::L) (λg=>(nh s.id s.by_ s.ap m).length - g.i) (⟨0,false,s⟩) J (⟨dF _,dt,J⟩) (((dg b bd hd s p hi).trans al)) (dc J) ?_
 rintro ⟨i,asked,s2⟩ ⟨eG,eF,Bz⟩
 dsimp only at eG eF Bz ⊢
 have ze:=ad7 s.id s.by_ s.ap m
 refine aa<|ab J J (bU J J)<|O<|ar<|bz J (λj_=> ?_) (λj_=> ?_)
 ·refine az<|ai<|ar<|aX ?_
  obtain ⟨x,xJ⟩:∃ x,(nh s.id s.by_ s.ap m)[i]? =some x:=⟨_,cj (by omega)⟩
  rw [yp xJ] at eF
  obtain ⟨s3,qr,sd⟩:=ZW eF
  refine gr (bJ (A:=mS) (c:=k_) (R:=dE)) xJ λbq oq eq=> ?_
  subst eq
  refine aa<|f6 J J J (J) ((bJ (A:=some ⟨bq,oq,none⟩) (c:=k_) (R:=dE))) (xJ) λamr ams amt ak0=> ?_
  have ak1:=xJ
  refine kh J J ak0 ak1 (λ_=>J) λXr yZ=> ?_
  simp only [dL,dm]
  refine bB J J λb6=>aE J J<|O<|ar<|aa<|ao J<|ax J J<|ab J J (ce J J)<|O<|bz J (λoU=> ?_) (λoU=> ?_)
  ·refine aa<|ae J<|O ?_
   refine cQ b<|fU λp5 Xs=>aQ<|ax J J<|aS J<|ao J<|ax J J ?_
   refine aP p5.bl<|aB J J (uE)<|ao J<|aE J J<|O<|ai ?_
   rw [if_pos oU] at qr
   refine b_ (dg b bd hd s2 p5 Xs)<|aQ<|ax J J<|bD J J<|ef J J J J J J λum=> ?_
   refine eh (k:=1) dE [{x with slot:=((eb s2.lr:Nat):Int)}] (sM (m:={x with slot:=((eb s2.lr:Nat):Int)}) Xr ⟨slk,slk,slk,slk⟩ ⟨yZ.1,yZ.2,yZ.3,yZ.4,yZ.5,da (by have:=Xs.px; dsimp only; omega),yZ.7,yZ.8⟩) J (by decide)<|bF<|aV 39 (.slice (some ⟨um,0,none⟩) [({x with slot:=((eb s2.lr:Nat):Int)}:bQ)].length 1) J ?_
   refine aP b<|aB J J (rF slk qr)<|O<|bA<|ai<|aQ<|ab J J (bE J J (by omega))<|cz 41 J<|Y J<|O<|ai ?_
   exact ⟨⟨i+1,true,s3⟩,⟨by dsimp only; omega,sd,by dsimp only; rw [qQ xJ,List.any_append]; simp [AX,oU]⟩,(by dsimp only; omega),bO rfl⟩
  refine az<|ai ?_
  rw [if_neg oU] at qr
  refine aQ<|ax J J<|bD J J<|ef J J J J J J λum=> ?_
  refine eh (k:=1) dE [x] (sM Xr ⟨slk,slk,slk,slk⟩ yZ) J (by decide)<|bF<|aV 39 (.slice (some ⟨um,0,none⟩) [x].length 1) J ?_
  refine aP b<|aB J J (rF slk qr)<|O<|bA<|ai<|aQ<|ab J J (bE J J (by omega))<|cz 41 J<|Y J<|O<|ai ?_
  exact ⟨⟨i+1,asked,s3⟩,⟨by dsimp only; omega,sd,by dsimp only; rw [qQ xJ,List.any_append, <- Bz]; simp [AX,oU]⟩,(by dsimp only; omega),bO rfl⟩
 refine cw<|aY<|aY<|cu<|ai ?_
 obtain rfl:i=(nh s.id s.by_ s.ap m).length:=by omega
 rw [xV] at eF
 obtain rfl:s2=s1:=ez eF
 rw [Cg,ad8] at Bz
 refine aa<|bB J J λb7=>aE J J<|O<|ar ?_
 refine cQ b<|fU λp6 xK=>bW (cells b2 [bG b] 40::cells b (dw hd s2 p6) 100::cells b3 (dq m q) 174::[]) [] [0,2,4,6,8,10,13] (by kernel_rfl) al<|aG J J J<|aL J J<|aw J J<|aG J J J<|aw J J<|aG J J J<|an J<|aJ J J (Ro m.slot) ?_
 rintro _ _ ⟨bl,bs,rfl,rfl⟩
 refine au<|aR<|aX<|xY (λg:F6 s2.held.length=>[cells b7 [.int .i64 (g.j:Int)] 3,cells b (dw hd {s2 with held:=g.held} {p6 with H:=g.H,ch:=g.ch}) 100,aN iw 196 g.H g.ch g.held,cells b2 [bG b] 40,cells b3 (dq m q) 174]) (Vh s2 m.bC s2.held.length) (λg:F6 s2.held.length=>g.k) (⟨0,0,s2.held,p6.H,p6.ch,J,dF _⟩) J (SO (b:=p6.bl) (bl:=bl) (bs:=bs) (l:=s2.lr) (slot:=m.slot) zw.slot) ((show am _ ([cells b7 [.int .i64 ((0:Nat):Int)] 3,cells b (dw hd {s2 with held:=s2.held} {p6 with H:=p6.H,ch:=p6.ch}) 100,aN iw 196 p6.H p6.ch s2.held,cells b2 [bG b] 40,cells b3 (dq m q) 174]++([lr p6.bl s2.lr,cells bl [.pointer (some ⟨p6.bl,0,none⟩)] 92,cells bs [.int .i64 m.slot] 3]++(st p6.bs bd s2.km s2.size::rp p6.bc s2.id s2.by_ s2.ap s2.fu::ac p6.bv s2.ac::pr p6.bp s2.pr::sm p6.bo s2.sm::le p6.ny s2.nodes.toNat::cells p6.bh (tq (0,0) 0) 236::cy gB bK true p6.bm []::L))) from bu.g (L':=cells b7 [.int .i64 0] 3::cells b (dw hd s2 p6) 100::aN iw 196 p6.H p6.ch s2.held::cells b2 [bG b] 40::cells b3 (dq m q) 174::lr p6.bl s2.lr::cells bl [.pointer (some ⟨p6.bl,0,none⟩)] 92::cells bs [.int .i64 m.slot] 3::st p6.bs bd s2.km s2.size::rp p6.bc s2.id s2.by_ s2.ap s2.fu::ac p6.bv s2.ac::pr p6.bp s2.pr::sm p6.bo s2.sm::le p6.ny s2.nodes.toNat::cells p6.bh (tq (0,0) 0) 236::cy gB bK true p6.bm []::L))) (by decide) (λ_=>J) J (λs x s' h=>h.1) (λBg Bh g x Lx hx cL=> ?_) (λBi xs g oM gR=> ?_)
 ·obtain ⟨k,j,held,H,ch,gt⟩:=g
  dsimp only at cL ⊢
  simp only [dL,dm]
  refine b_ (a_.lay (a_.dT al hx.2.2)) ?_
  try simp only [dL,dm]
  refine aa<|ae J<|O<|aQ<|bB J J λb9=>aE J J<|O ?_
  refine ⟨rfl,_,cR.g, ?_⟩
  refine aX<|ar<|aa<|ax J J<|ab J J (eV J J)<|O<|bz J (λB6=> ?_) (λB6=> ?_)
  ·exact cw<|aY<|z9 J<|⟨⟨k+1,j,held,H,ch,gt⟩,some (.exit 2),J,⟨J,.inl ⟨by dsimp only; omega,J,J,J⟩⟩,al⟩
  refine az<|ai<|bW (cells b2 [bG b] 40::cells b3 (dq m q) 174::cells b9 (hO x.2.1 x.2.2) 158::[]) [] [0,2,4,6,8,10,13,15,17] (by kernel_rfl) al<|aG J J J<|aG J J J<|aq J J<|aw J J<|aG J J J<|cf J J J<|an J<|g_ b<|aB J J (RF x.1 m.bC x.2.1 x.2.2)<|au<|an J<|ef J J J J J J λb60=> ?_
  refine eh (k:=1) dE [nM s2 x.1 m.bC x.2.1] (sM ⟨x.2.2,(none,0),(none,0),(none,0)⟩ ⟨slk,dP,dP,dP⟩ (MI xK hx.1 zw.bC hx.2.1)) J (by decide)<|bF<|aV 60 (.slice (some ⟨b60,0,none⟩) [nM s2 x.1 m.bC x.2.1].length 1) J<|au<|an J<|LV H ch<|g_ b<|aJ J J (afF (s:={s2 with held:=held}) (p:={p6 with H:=H,ch:=ch}) (m:=nM s2 x.1 m.bC x.2.1) (show ¬ ((6:Int)=1\/(6:Int)=3\/(6:Int)=9) by decide) (by have:=gt.1; dsimp only; omega) slk) ?_
  rintro _ _ ⟨rfl,Xt,rfl⟩
  refine au<|aR<|aQ<|ax J J<|ab J J (bE J J (by omega))<|cz 63 J<|aE J J<|O<|bA ?_
  exact ⟨⟨k+1,j+1,held++[.gh (nM s2 x.1 m.bC x.2.1)],Xt.1,Xt.2,by have:=gt.1; simp; omega⟩,none,rfl,⟨rfl,.inr ⟨by dsimp only; omega,rfl,rfl,rfl⟩⟩,al⟩
 obtain ⟨⟨k2,j2,h2,H2,vN,le2⟩,jj⟩:=g
 obtain ⟨hh,hj⟩:=aha gR rfl
 dsimp only at hh hj
 rw [ad9 oM (by rcases hj with h0 | ⟨_,h0⟩; (rw [h0]; exact .inl rfl); exact .inr (by simpa using h0))] at hh
 subst hh
 try simp only [dL,dm]
 refine RX (id:=2) (hj.imp id (λh=>h.1)) (λhj=> ?_) (λhj=> ?_)
 ·refine bA<|ai ?_
  rcases By with ⟨cL,GS,qx⟩ | ⟨jX,rfl⟩
  ·refine bW (cells b2 [bG b] 40::cells b (dw hd {s2 with held:=s2.held++lI s2 m.bC ((je s2.lr m.slot).take 16)} {p6 with H:=H2,ch:=vN}) 100::cells b3 (dq m q) 174::[]) [] [0,2,4,6,8,10,13,14,16,18,20,22] (by kernel_rfl) al<|aw J J<|aG J J J<|aG J J J<|aL J J<|aw J J<|aG J J J<|an J ?_
   refine aP p6.bl<|aB J J (uE)<|au<|ak J J (eE J J)<|pJ 71 J cL<|aq J J<|aC J J (cU J)<|er 73 (v':=.bool false) J (by rw [Bz,GS]; rfl)<|aC J J (j0 J)<|ak J J (d9 J J)<|aR<|cg J ?_
   refine b_ (dg b bd hd {s2 with held:=s2.held++lI s2 m.bC ((je s2.lr m.slot).take 16)} {p6 with H:=H2,ch:=vN} (xK.same J J J J ⟨J,J⟩ ⟨J,J⟩ J))<|i5 (cells b2 [bG b] 40::cells b3 (dq m q) 174::[]) [] [0,2,4,6,9,11,13] (by kernel_rfl) al<|aG J J J<|aG J J J<|aw J J<|aG J J J<|an J ?_
   refine aP b<|aJ J J (Kx m.bC) ?_
   rintro _ _ ⟨P2,rfl,rfl⟩
   refine au<|an J<|ef J J J J J J λP3=> ?_
   refine eh (k:=1) dE [ua {s2 with held:=s2.held++lI s2 m.bC ((je s2.lr m.slot).take 16)} m.bC] (sM ⟨(none,0),(none,0),P2,(none,0)⟩ ⟨dP,dP,slk,dP⟩ (NV (xK.same J J J J ⟨J,J⟩ ⟨J,J⟩ J) zw.bC)) J (by decide)<|bF<|aV 81 (.slice (some ⟨P3,0,none⟩) [ua {s2 with held:=s2.held++lI s2 m.bC ((je s2.lr m.slot).take 16)} m.bC].length 1) J<|au<|an J ?_
   exact aP b<|aB J J (rF slk qx)<|au<|aR<|qZ<|ei J
  refine bW (cells b2 [bG b] 40::cells b (dw hd {s2 with held:=s2.held++lI s2 m.bC ((je s2.lr m.slot).take 16)} {p6 with H:=H2,ch:=vN}) 100::cells b3 (dq m q) 174::[]) [] [0,2,4,6,8,10,13,14,16,18,20,22] (by kernel_rfl) al<|aw J J<|aG J J J<|aG J J J<|aL J J<|aw J J<|aG J J J<|an J ?_
  refine aP p6.bl<|aB J J (uE)<|au<|ak J J (eE J J)<|aq J J<|gE 72 J (λB7=> ?_) (λB7=> ?_)
  ·refine aC J J (cU J)<|er 73 (v':=.bool true) J (bi Value.bool (by rw [Bz]; cases hb:mb m.seen (dK s.ap); rfl; exact absurd ⟨B7,hb⟩ jX))<|aC J J (df J)<|ak J J (d9 J J)<|aR<|aT J<|az<|qZ ?_
   exact aF.ay (dg b bd hd {s2 with held:=s2.held++lI s2 m.bC ((je s2.lr m.slot).take 16)} {p6 with H:=H2,ch:=vN} (xK.same J J J J ⟨J,J⟩ ⟨J,J⟩ J))<|ei J
  refine aD J J<|aD J J<|ak J J (dG J J)<|aR<|aT J<|az<|qZ ?_
  exact aF.ay (dg b bd hd {s2 with held:=s2.held++lI s2 m.bC ((je s2.lr m.slot).take 16)} {p6 with H:=H2,ch:=vN} (xK.same J J J J ⟨J,J⟩ ⟨J,J⟩ J))<|ei J
 refine cu<|ai ?_
 rcases By with ⟨cL,GS,qx⟩ | ⟨jX,rfl⟩
 ·refine bW (cells b2 [bG b] 40::cells b (dw hd {s2 with held:=s2.held++lI s2 m.bC ((je s2.lr m.slot).take 16)} {p6 with H:=H2,ch:=vN}) 100::cells b3 (dq m q) 174::[]) [] [0,2,4,6,8,10,13,14,16,18,20,22] (by kernel_rfl) al<|aw J J<|aG J J J<|aG J J J<|aL J J<|aw J J<|aG J J J<|an J ?_
  refine aP p6.bl<|aB J J (uE)<|au<|ak J J (eE J J)<|pJ 71 J cL<|aq J J<|aC J J (cU J)<|er 73 (v':=.bool false) J (by rw [Bz,GS]; rfl)<|aC J J (j0 J)<|ak J J (d9 J J)<|aR<|cg J ?_
  refine b_ (dg b bd hd {s2 with held:=s2.held++lI s2 m.bC ((je s2.lr m.slot).take 16)} {p6 with H:=H2,ch:=vN} (xK.same J J J J ⟨J,J⟩ ⟨J,J⟩ J))<|i5 (cells b2 [bG b] 40::cells b3 (dq m q) 174::[]) [] [0,2,4,6,9,11,13] (by kernel_rfl) al<|aG J J J<|aG J J J<|aw J J<|aG J J J<|an J ?_
  refine aP b<|aJ J J (Kx m.bC) ?_
  rintro _ _ ⟨P2,rfl,rfl⟩
  refine au<|an J<|ef J J J J J J λP3=> ?_
  refine eh (k:=1) dE [ua {s2 with held:=s2.held++lI s2 m.bC ((je s2.lr m.slot).take 16)} m.bC] (sM ⟨(none,0),(none,0),P2,(none,0)⟩ ⟨dP,dP,slk,dP⟩ (NV (xK.same J J J J ⟨J,J⟩ ⟨J,J⟩ J) zw.bC)) J (by decide)<|bF<|aV 81 (.slice (some ⟨P3,0,none⟩) [ua {s2 with held:=s2.held++lI s2 m.bC ((je s2.lr m.slot).take 16)} m.bC].length 1) J<|au<|an J ?_
  exact aP b<|aB J J (rF slk qx)<|au<|aR<|qZ<|ei J
 refine bW (cells b2 [bG b] 40::cells b (dw hd {s2 with held:=s2.held++lI s2 m.bC ((je s2.lr m.slot).take 16)} {p6 with H:=H2,ch:=vN}) 100::cells b3 (dq m q) 174::[]) [] [0,2,4,6,8,10,13,14,16,18,20,22] (by kernel_rfl) al<|aw J J<|aG J J J<|aG J J J<|aL J J<|aw J J<|aG J J J<|an J ?_
 refine aP p6.bl<|aB J J (uE)<|au<|ak J J (eE J J)<|aq J J<|gE 72 J (λB7=> ?_) (λB7=> ?_)
 ·refine aC J J (cU J)<|er 73 (v':=.bool true) J (bi Value.bool (by rw [Bz]; cases hb:mb m.seen (dK s.ap); rfl; exact absurd ⟨B7,hb⟩ jX))<|aC J J (df J)<|ak J J (d9 J J)<|aR<|aT J<|az<|qZ ?_
  exact aF.ay (dg b bd hd {s2 with held:=s2.held++lI s2 m.bC ((je s2.lr m.slot).take 16)} {p6 with H:=H2,ch:=vN} (xK.same J J J J ⟨J,J⟩ ⟨J,J⟩ J))<|ei J
 refine aD J J<|aD J J<|ak J J (dG J J)<|aR<|aT J<|az<|qZ ?_
 exact aF.ay (dg b bd hd {s2 with held:=s2.held++lI s2 m.bC ((je s2.lr m.slot).take 16)} {p6 with H:=H2,ch:=vN} (xK.same J J J J ⟨J,J⟩ ⟨J,J⟩ J))<|ei J
open Go Go.Proofs Go.Proofs.Tryz
theorem HH {e:aW} {l:List aW} (h:uQ (e::l) s=some s'):((¬ t_ e\/e.dot.1=s.id\/pB (dK s.ap) e.dot)/\uQ l s=some s')\/(¬ (¬ t_ e\/e.dot.1=s.id\/pB (dK s.ap) e.dot)/\∃ s1 s2,q_ s (f' (iZ e ([],false))).length=some s1/\wP s1 e=some s2/\uQ l s2=some s'):=by
 unfold uQ at h
 split at h
 ·rename_i hc; exact .inl ⟨hc,h⟩
 ·rename_i hc
  obtain ⟨s1,h1,h2⟩:=fK.1 h
  obtain ⟨s2,h3,h4⟩:=fK.1 h2
  exact .inr ⟨hc,s1,s2,h1,h3,h4⟩
structure ak2 where
 i:Nat
 s:cG
variable{s s':dD}{m1:cG}
theorem ZX (m:bQ) (q:gg) (hk:fN L m q) (hr:lT m) (h:uQ m.events s.m=some m1) (qx:ph ⟨m1,s.waits⟩=some s'):Fn prog 155 #[bG b,nk m q] (nd b bd s::L) (λv L'=>v=.tuple #[]/\L'=nd b bd s'::L):=by
 refine aH func155 J J J J<|b_ (fN.lay (fN.dT (am.drop _ _) hk)) ?_
 have rz:=hr.2.2.2.2.2.2.2.2.1
 refine aa<|bS J J J λb3=>O<|ar<|cQ b<|jM λA cc=>aa<|ao J<|ax J J<|ab J J (bY J)<|Y J<|O<|aX<|cY (σ:=ak2) [0,11,12] (λg=>g.i<=m.events.length/\uQ (m.events.drop g.i) g.s=some m1) (λg kv=>(13,.int .i64 (g.i:Int))::kv) (λg=>nx b bd (.slice A s.waits.length cc) g.s::aN fa 290 A cc s.waits::sl bK q.events.1 q.events.2 m.events::L) (λg=>m.events.length - g.i) (⟨0,s.m⟩) J (⟨dF _,h⟩) (al) (dc J) ?_
 rintro ⟨i,s1⟩ ⟨eG,dt⟩
 dsimp only at eG dt ⊢
 refine aa<|ab J J (bU J J)<|O<|ar<|bz J (λgK=> ?_) (λgK=> ?_)
 ·refine az<|ai<|ar<|aX ?_
  obtain ⟨e,he⟩:∃ e,m.events[i]? =some e:=⟨_,cj (by omega)⟩
  rw [yp he] at dt
  have sn:=rz.2 e (eA he)
  have zd:=Cp sn
  refine gr (bJ (A:=q.events.1) (c:=q.events.2) (R:=bK)) he λbq oq eq=> ?_
  rw [eq]
  have pM:=eq
  refine aa<|f6 J J J (J) ((bJ (A:=some ⟨bq,oq,none⟩) (c:=q.events.2) (R:=bK))) (he) λakv akw akx Oz=> ?_
  have OA:=he
  refine kh J J Oz OA (λ_=>J) λJ9 amu=> ?_
  simp only [dL,dm]
  refine bB J J λb5=>aE J J<|O<|ar<|cQ b<|fU λp hi=>iQ (by kernel_rfl)<|dN (cells b (dw (.slice A s.waits.length cc) s1 p) 100::cells b5 (fv e J9) 49::cy gB bK true p.bm []::[]) [] [0,2,4,6,8,10,12,14,16,18,21,23,24] (by kernel_rfl) al<|aq J J<|aL J J<|aw J J<|aG J J J<|aw J J<|cf J J J<|ak J J (Q5 (K:=gB) (R:=bK) (k:=e.dot) J J ⟨zd.1.1.1,zd.1.1.2.1⟩)<|aq J J<|ak J J (aO J J)<|ak J J (aO J J)<|oH 26 (.bool false) J<|an J<|bB J J λb6=>au<|an J<|aE J J<|au<|ak J J (bT J)<|aR<|ai<|bW (cells b (dw (.slice A s.waits.length cc) s1 p) 100::cells b5 (fv e J9) 49::[]) [] [0,2,4,7,8,10,12,14,16,18,20,22,24,26,28,30,32,34,36,38,40,44,46,43,49,50] (by kernel_rfl) al<|aq J J<|aq J J<|aC J J (kg J J)<|an J<|aj J<|aB J J (R_ e J9 slk zd.1.1 (by have:=zd.2; omega))<|au<|aC J J (iF J)<|ak J J (dG J J)<|aq J J<|gE 33 J (λr6=> ?_) (λr6=> ?_)
  ·exact aD J J<|aD J J<|aD J J<|aD J J<|aD J J<|aD J J<|aD J J<|aD J J<|ak J J (d9 J J)<|aq J J<|aD J J<|aD J J<|aD J J<|aD J J<|aD J J<|aD J J<|an J<|ah J<|au<|an J<|ah J<|au<|ak J J (d9 J J)<|aR<|cg J<|cw<|aY<|cu<|ai<|aQ<|ab J J (bE J J (by omega))<|cz 65 J<|Y J<|O<|ai<|⟨⟨i+1,s1⟩,⟨by dsimp only; omega,(HH dt).elim (λh0=>h0.2) (λh0=>absurd (by first | exact .inl r6 | exact .inr (.inl ld) | exact .inr (.inr B6)) h0.1)⟩,(by dsimp only; omega),iY (dC J (dC J (dC J (dC J (iM))))) ((dg b bd (.slice A s.waits.length cc) s1 p hi).trans al)⟩
  refine aC J J (dp J)<|aC J J (dp J)<|aC J J (dY J J)<|aC J J (cU J)<|aC J J (gc J)<|aC J J (dp J)<|aC J J (dY J J)<|aC J J (ce J J)<|ak J J (dG J J)<|aq J J<|gE 43 J (λld=> ?_) (λld=> ?_)
  ·exact aD J J<|aD J J<|aD J J<|aD J J<|aD J J<|aD J J<|an J<|ah J<|au<|an J<|ah J<|au<|ak J J (d9 J J)<|aR<|cg J<|cw<|aY<|cu<|ai<|aQ<|ab J J (bE J J (by omega))<|cz 65 J<|Y J<|O<|ai<|⟨⟨i+1,s1⟩,⟨by dsimp only; omega,(HH dt).elim (λh0=>h0.2) (λh0=>absurd (by first | exact .inl r6 | exact .inr (.inl ld) | exact .inr (.inr B6)) h0.1)⟩,(by dsimp only; omega),iY (dC J (dC J (dC J (dC J (iM))))) ((dg b bd (.slice A s.waits.length cc) s1 p hi).trans al)⟩
  refine aC J J (cU J)<|aC J J (gc J)<|aC J J (dp J)<|aC J J (dY J J)<|aC J J (dp J)<|aC J J (kg J J)<|an J<|aj J<|aP p.bc<|aJ J J (vX) ?_
  rintro _ _ ⟨A48,c48,rfl,rfl⟩
  refine au<|an J<|aj J<|aB J J (Eu (bR.dT bu.g (gp (R:=aI .i64) (t:=3) (A:=A48) (c:=c48) (xs:=dK s1.ap) (L:=[]))) e.dot)<|au<|ak J J (dG J J)<|aR<|bz J (λB6=> ?_) (λB6=> ?_)
  ·exact cw<|aY<|cu<|ai<|aQ<|ab J J (bE J J (by omega))<|cz 65 J<|Y J<|O<|ai<|⟨⟨i+1,s1⟩,⟨by dsimp only; omega,(HH dt).elim (λh0=>h0.2) (λh0=>absurd (by first | exact .inl r6 | exact .inr (.inl ld) | exact .inr (.inr B6)) h0.1)⟩,(by dsimp only; omega),iY (dC J (dC J (dC J (dC J (iM))))) ((dg b bd (.slice A s.waits.length cc) s1 p hi).trans al)⟩
  refine az<|ai ?_
  obtain ⟨s2,s3,gV,PH,sd⟩:=((HH dt).resolve_left (λh0=>h0.1.elim r6 (λh1=>h1.elim ld B6))).2
  refine aa<|bD J J<|aJ J J (Et e zd.1.1 slk (by have:=zd.2; omega)) ?_
  rintro _ _ ⟨A55,c55,rfl,rfl⟩
  exact bF<|Y J<|ab J J (aO J J)<|ab J J (aO J J)<|ae J<|ae J<|O<|ar<|aa<|Y J<|Y J<|bX (dg b bd (.slice A s.waits.length cc) s1 p hi)<|aB J J (z1 (s':=s2) 69 (by decide) slk gV)<|ab J J (dB J J)<|br 61 (v':=.bool false) J (bi Value.bool (by decide))<|O<|aT J<|az<|ai<|aQ<|Y J<|bD J J<|aP b<|aB J J (HF e J9 slk PH)<|O<|bA<|ai<|aQ<|ab J J (bE J J (by omega))<|cz 65 J<|Y J<|O<|ai<|⟨⟨i+1,s3⟩,⟨by dsimp only; omega,sd⟩,(by dsimp only; omega),bO J⟩
 refine cw<|aY<|aY<|cu<|ai ?_
 obtain rfl:i=m.events.length:=by omega
 rw [xV] at dt
 obtain rfl:s1=m1:=ez dt
 exact b_ (fp b bd s1 s.waits A cc)<|aQ<|Y J<|aB J J (zU qx)<|O<|ei J
theorem afG (h:zC s m=some s'):(¬ yA s.m m/\s=s')\/(yA s.m m/\((m.kind=1/\∃ m1,AO s.m m=some m1/\s'=⟨m1,s.waits⟩)\/(m.kind=3/\∃ m1,AO s.m m=some m1/\s'=⟨m1,s.waits⟩)\/(m.kind=2/\AQ s m=some s')\/(m.kind=4/\AQ s m=some s')\/(m.kind=5/\AQ s m=some s')\/(m.kind=6/\AA s m.slot m.en=some s')\/(m.kind=7/\∃ m1,E2 s.m m=some m1/\s'=⟨m1,s.waits⟩)\/(m.kind=8/\∃ m1,uQ m.events s.m=some m1/\ph ⟨m1,s.waits⟩=some s'))):=by
 unfold zC at h
 split at h
 ·rename_i hc; exact .inl ⟨hc,ez h⟩
 ·rename_i hc
  refine .inr ⟨eX.1 hc, ?_⟩
  split at h
  ·rename_i hk
   obtain ⟨m1,h1,h2⟩:=iq.1 h
   rcases hk with hk | hk
   ·exact .inl ⟨hk,m1,h1,h2.symm⟩
   ·exact .inr (.inl ⟨hk,m1,h1,h2.symm⟩)
  ·split at h
   ·rename_i hk
    rcases hk with hk | hk | hk
    ·exact .inr (.inr (.inl ⟨hk,h⟩))
    ·exact .inr (.inr (.inr (.inl ⟨hk,h⟩)))
    ·exact .inr (.inr (.inr (.inr (.inl ⟨hk,h⟩))))
   ·split at h
    ·rename_i hk; exact .inr (.inr (.inr (.inr (.inr (.inl ⟨hk,h⟩)))))
    ·split at h
     ·rename_i hk
      obtain ⟨m1,h1,h2⟩:=iq.1 h
      exact .inr (.inr (.inr (.inr (.inr (.inr (.inl ⟨hk,m1,h1,h2.symm⟩))))))
     ·split at h
      ·rename_i hk
       obtain ⟨m1,h1,h2⟩:=fK.1 h
       exact .inr (.inr (.inr (.inr (.inr (.inr (.inr ⟨hk,m1,h1,h2⟩))))))
      ·cases h
theorem Tg (m:bQ) (q:gg) (hx:gf m) (hk:fN L m q) (hc:iP m<=nY) (h:zC s m=some s'):Fn prog 80 #[bG b,nk m q] (nd b bd s::L) (λv L'=>v=.tuple #[]/\L'=nd b bd s'::L):=by
 have qw:=afG h
 refine aH func80 J J J J<|b_ (fN.lay (fN.dT (am.drop _ _) hk))<|aa<|bS J J J λb3=>O<|ar<|cQ b<|jM λA cc=>fU λp hi=>bW (cells b (dw (.slice A s.waits.length cc) s.m p) 100::cells b3 (dq m q) 174::[]) [] [0,3,4,6,8,10,12,14,16,18,20,22,24,26,28,30,32,34,36,38,40,42] (by kernel_rfl) al<|aq J J<|an J<|g_ b<|aB J J (wi)<|aV 7 (.bool true) J<|au<|ak J J (df J)<|aq J J<|aC J J (dp J)<|aC J J (dY J J)<|aC J J (cU J)<|aC J J (gc J)<|aC J J (dp J)<|aC J J (dY J J)<|aC J J (dB J J)<|ak J J (dG J J)<|aq J J<|gE 18 J (λjG=> ?_) (λjG=> ?_)
 ·refine aD J J<|aD J J<|aD J J<|aD J J<|aD J J<|aD J J<|aD J J<|aD J J<|ak J J (d9 J J)<|aR<|cg J<|av<|aU ?_
  obtain rfl:s=s':=qw.elim (λh0=>h0.2) (λh0=>by have h1:=h0.1.1; have h2:=h0.1.2.1; omega)
  exact aF.ay (dg b bd (.slice A s.waits.length cc) s.m p hi)<|aF.ay (fp b bd s.m s.waits A cc)<|kR J
 refine aC J J (dp J)<|aC J J (dY J J)<|aC J J (cU J)<|aC J J (gc J)<|aC J J (dp J)<|aC J J (dp J)<|aC J J (dY J J)<|aC J J (eV J J)<|ak J J (dG J J)<|aR<|bz J (λtu=> ?_) (λtu=> ?_)
 ·refine av<|aU ?_
  obtain rfl:s=s':=qw.elim (λh0=>h0.2) (λh0=>by have h1:=h0.1.1; have h2:=h0.1.2.1; omega)
  exact aF.ay (dg b bd (.slice A s.waits.length cc) s.m p hi)<|aF.ay (fp b bd s.m s.waits A cc)<|kR J
 refine az<|ai<|ar ?_
 have fV:m.cH=s.m.id/\m.bC < s.m.nodes:=⟨by omega,by omega⟩
 refine b_ (dg b bd (.slice A s.waits.length cc) s.m p hi)<|aa<|bD J J<|aJ J J (uL m q hx ⟨slk,slk,slk,slk⟩ hc) ?_
 rintro _ _ ⟨iV,iW,rfl,rfl⟩
 refine Y J<|ab J J (aO J J)<|ab J J (aO J J)<|ae J<|ae J<|O<|aa<|Y J<|ab J J (dB J J)<|O<|bz J (λmq=> ?_) (λmq=> ?_)
 ·refine av<|aU ?_
  obtain rfl:s=s':=qw.elim (λh0=>h0.2) (λh0=>absurd h0.1.2.2 mq)
  exact aF.ay (am.drop _ _)<|aF.ay (fp b bd s.m s.waits A cc)<|kR J
 refine az<|ai ?_
 have B5:yA s.m m:=⟨fV.1,fV.2,eX.1 mq⟩
 have J_:=acG B5
 have ajt:=(qw.resolve_left (λh0=>h0.1 B5)).2
 refine aa<|ao J<|ax J J<|O<|aX<|ar ?_
 rcases ajt with ⟨lb,m1,hv,rfl⟩ | ⟨lb,m1,hv,rfl⟩ | ⟨lb,hv⟩ | ⟨lb,hv⟩ | ⟨lb,hv⟩ | ⟨lb,hv⟩ | ⟨lb,m1,hv,rfl⟩ | ⟨lb,m1,hv,qx⟩
 ·exact aa<|ab J J (ce J J)<|fd 38 J lb<|ae J<|O<|cg J<|az<|ai<|cg J<|aQ<|Y J<|bD J J<|aP b<|aB J J (HG m q hx ⟨slk,slk,slk,slk⟩ hc hv)<|O<|bA<|aF.ay (fp b bd m1 s.waits A cc)<|ei J
 ·exact aa<|ab J J (ce J J)<|dx 38 J (by omega)<|ae J<|O<|aT J<|aQ<|ab J J (ce J J)<|fd 39 J lb<|ae J<|O<|ai<|cg J<|aQ<|Y J<|bD J J<|aP b<|aB J J (HG m q hx ⟨slk,slk,slk,slk⟩ hc hv)<|O<|bA<|aF.ay (fp b bd m1 s.waits A cc)<|ei J
 ·exact aa<|ab J J (ce J J)<|dx 38 J (by omega)<|ae J<|O<|aT J<|aQ<|ab J J (ce J J)<|dx 39 J (by omega)<|ae J<|O<|ai<|aT J<|ar<|aa<|ab J J (ce J J)<|fd 44 J lb<|ae J<|O<|cg J<|az<|ai<|cg J<|aQ<|Y J<|bD J J<|bX (fp b bd s.m s.waits A cc)<|aB J J (K3 (s:=⟨s.m,s.waits⟩) m q hx ⟨slk,slk,slk,slk⟩ hc hv)<|O<|bA<|ei J
 ·exact aa<|ab J J (ce J J)<|dx 38 J (by omega)<|ae J<|O<|aT J<|aQ<|ab J J (ce J J)<|dx 39 J (by omega)<|ae J<|O<|ai<|aT J<|ar<|aa<|ab J J (ce J J)<|dx 44 J (by omega)<|ae J<|O<|aT J<|aa<|ab J J (ce J J)<|fd 45 J lb<|ae J<|O<|cg J<|az<|ai<|cg J<|aQ<|Y J<|bD J J<|bX (fp b bd s.m s.waits A cc)<|aB J J (K3 (s:=⟨s.m,s.waits⟩) m q hx ⟨slk,slk,slk,slk⟩ hc hv)<|O<|bA<|ei J
 ·exact aa<|ab J J (ce J J)<|dx 38 J (by omega)<|ae J<|O<|aT J<|aQ<|ab J J (ce J J)<|dx 39 J (by omega)<|ae J<|O<|ai<|aT J<|ar<|aa<|ab J J (ce J J)<|dx 44 J (by omega)<|ae J<|O<|aT J<|aa<|ab J J (ce J J)<|dx 45 J (by omega)<|ae J<|O<|aT J<|aQ<|ab J J (ce J J)<|fd 46 J lb<|ae J<|O<|ai<|cg J<|aQ<|Y J<|bD J J<|bX (fp b bd s.m s.waits A cc)<|aB J J (K3 (s:=⟨s.m,s.waits⟩) m q hx ⟨slk,slk,slk,slk⟩ hc hv)<|O<|bA<|ei J
 ·exact aa<|ab J J (ce J J)<|dx 38 J (by omega)<|ae J<|O<|aT J<|aQ<|ab J J (ce J J)<|dx 39 J (by omega)<|ae J<|O<|ai<|aT J<|ar<|aa<|ab J J (ce J J)<|dx 44 J (by omega)<|ae J<|O<|aT J<|aa<|ab J J (ce J J)<|dx 45 J (by omega)<|ae J<|O<|aT J<|aQ<|ab J J (ce J J)<|dx 46 J (by omega)<|ae J<|O<|ai<|aT J<|aa<|ab J J (ce J J)<|fd 51 J lb<|ae J<|O<|cg J<|aQ<|Y J<|ao J<|ax J J<|ao J<|bD J J<|bX (fp b bd s.m s.waits A cc)<|aB J J (Rc (s:=⟨s.m,s.waits⟩) m.slot m.en q.cut slk hv)<|O<|bA<|ei J
 ·exact aa<|ab J J (ce J J)<|dx 38 J (by omega)<|ae J<|O<|aT J<|aQ<|ab J J (ce J J)<|dx 39 J (by omega)<|ae J<|O<|ai<|aT J<|ar<|aa<|ab J J (ce J J)<|dx 44 J (by omega)<|ae J<|O<|aT J<|aa<|ab J J (ce J J)<|dx 45 J (by omega)<|ae J<|O<|aT J<|aQ<|ab J J (ce J J)<|dx 46 J (by omega)<|ae J<|O<|ai<|aT J<|aa<|ab J J (ce J J)<|dx 51 J (by omega)<|ae J<|O<|aT J<|aa<|ab J J (ce J J)<|fd 59 J lb<|ae J<|O<|cg J<|aQ<|Y J<|bD J J<|aP b<|aB J J (Y4 m q hx ⟨slk,slk,slk,slk⟩ J_ lb fV.1 hv)<|O<|bA<|aF.ay (fp b bd m1 s.waits A cc)<|ei J
 exact aa<|ab J J (ce J J)<|dx 38 J (by omega)<|ae J<|O<|aT J<|aQ<|ab J J (ce J J)<|dx 39 J (by omega)<|ae J<|O<|ai<|aT J<|ar<|aa<|ab J J (ce J J)<|dx 44 J (by omega)<|ae J<|O<|aT J<|aa<|ab J J (ce J J)<|dx 45 J (by omega)<|ae J<|O<|aT J<|aQ<|ab J J (ce J J)<|dx 46 J (by omega)<|ae J<|O<|ai<|aT J<|aa<|ab J J (ce J J)<|dx 51 J (by omega)<|ae J<|O<|aT J<|aa<|ab J J (ce J J)<|dx 59 J (by omega)<|ae J<|O<|aT J<|aa<|ab J J (ce J J)<|fd 64 J lb<|ae J<|O<|cg J<|aQ<|Y J<|bD J J<|bX (fp b bd s.m s.waits A cc)<|aB J J (ZX (s:=⟨s.m,s.waits⟩) m q ⟨slk,slk,slk,slk⟩ J_ hv qx)<|O<|bA<|ei J
open Go Go.Proofs Go.Proofs.Tryz
theorem ad_ {v:List Int} (h:vg v):vg (dK v):=⟨kf (H3 v) h.1,λn hn=>h.2 n (S5 hn)⟩
theorem ahb {v:List Int} (h:vg v) (o:Int):0<=l7 v o/\l7 v o<=2147483647:=by
 unfold l7
 split
 ·decide
 ·cases h2:v[o.toNat]? with
  | none=>simp
  | some x=>have:=h.2 x (eA h2); simpa using this
theorem ZY {c:il} (h:Am s c=some s'):(nl (dK s.m.ap) < 65536/\kj (fJ s.m c)/\pm (fJ s.m c)<=nY/\j7 (iZ (fJ s.m c) ([],false))=0)/\∃ s1 s2 s3,q_ s.m (f' (iZ (fJ s.m c) ([],false))).length=some s1/\wP s1 (fJ s.m c)=some s2/\mj s2 (.dR {kn s2 c with dot:=(fJ s.m c).dot})=some s3/\ph ⟨s3,s.waits⟩=some s':=by
 unfold Am at h
 split at h
 ·cases h
 ·rename_i hc
  have h2:kj (fJ s.m c)/\pm (fJ s.m c)<=nY/\j7 (iZ (fJ s.m c) ([],false))=0:=eX.1 λh0=>hc (.inr h0)
  obtain ⟨s1,h3,h4⟩:=fK.1 h
  obtain ⟨s2,h5,h6⟩:=fK.1 h4
  obtain ⟨s3,h7,h8⟩:=fK.1 h6
  exact ⟨⟨Nat.lt_of_not_le λh0=>hc (.inl h0),h2⟩,s1,s2,s3,h3,h5,h7,h8⟩
theorem Y5 (c:il) (hc:nO c) (h:Am s c=some s'):Fn prog 143 #[bG b,wR c] (nd b bd s::L) (λv L'=>v=.tuple #[]/\L'=nd b bd s'::L):=by
 obtain ⟨⟨amv,ur,J',zm⟩,s1,s2,s3,mU,xD,P4,qx⟩:=ZY h
 refine aH func143 J J J J<|aa<|bS J J J λb3=>O ?_
 refine cQ b<|jM λA cc=>fU λp hi=> ?_
 refine cQ p.bc<|NP λBV fW=> ?_
 have Xu:=ad_ BV.BS
 have hof:=ahb Xu s.m.id
 refine aa<|Y J<|aS J<|ao J<|ax J J ?_
 refine aP p.bc<|aJ J J (vX) ?_
 rintro _ _ ⟨lF,kV,rfl,rfl⟩
 refine bF<|ae J<|O<|ar<|aa<|Y J<|aB J J (Q2 (a_.n slk) Xu)<|ab J J (eV J J)<|dx 16 J (by omega)<|O<|aT J<|az<|ai<|iQ (by kernel_rfl)<|fq 9 29 (by decide) ?_ ?_
 ·refine fq 21 29 (by decide) ?_ ?_
  ·refine dN (cells b (dw (.slice A s.waits.length cc) s.m p) 100::cells b3 (lP c) 33::[]) [] [0,2,4,6,8,10,12,14,16,24,26,28,30,32,34,36,38,40,44,46,48,50,52,54,19,20,22,43,56,59,61] (by kernel_rfl) al<|aq J J<|aL J J<|aw J J<|aG J J J<|aq J J<|aq J J<|aL J J<|aw J J<|aG J J J<|aq J J<|aw J J<|aG J J J<|aq J J<|aL J J<|aw J J<|aG J J J<|aw J J<|aG J J J<|aw J J<|aG J J J<|aw J J<|aG J J J<|aw J J<|aG J J J<|an J<|aB J J (yf (a_.n slk) s.m.id)<|au<|ak J J (bE J J (by omega))<|ak J J (bI J J)<|an J ?_
   refine aP p.bc<|aB J J (Hy c.aK)<|au<|ak J J (bI J J)<|an J<|bB J J λb5=>au<|an J<|aE J J<|au<|aR<|ai<|aa<|bD J J<|aJ J J (Et (fJ s.m c) ur slk J') ?_
   rintro _ _ ⟨JS,JT,rfl,rfl⟩
   refine bF<|Y J<|ab J J (aO J J)<|ab J J (aO J J)<|br 53 (v':=.int .i64 0) J (by rw [zm])<|ae J<|ae J<|O<|ar<|aa<|Y J<|ab J J (ce J J)<|br 55 (v':=.bool true) J (bi Value.bool (by decide))<|O<|cg J<|aQ<|Y J<|Y J ?_
   refine bX (dg b bd (.slice A s.waits.length cc) s.m p hi)<|aB J J (z1 (s':=s1) 69 (by decide) slk mU)<|ae J<|O<|ai<|ar<|aa<|Y J<|ab J J (dB J J)<|br 60 (v':=.bool false) J (bi Value.bool (by decide))<|O<|aT J<|az<|ai<|aa<|Y J<|bD J J ?_
   refine aP b<|aB J J (HF (fJ s.m c) (lF,kV) slk xD)<|O ?_
   refine cQ b<|Dj λdW=>aa<|Y J<|bD J J<|aJ J J (zT c) ?_
   rintro _ _ ⟨GT,rfl,rfl⟩
   refine bB J J λb8=>aE J J<|O<|aa<|ao J<|bD J J<|ao J<|aE J J<|O<|aa<|Y J<|bD J J ?_
   refine aP b<|aB J J (zZ {kn s2 c with dot:=(fJ s.m c).dot} ⟨(none,0),[],(none,0),GT⟩ ⟨dP,J,dP,slk⟩ ⟨hc.1,iy,ur.1,ur.2.1,EZ,da (by have:=dW.px; dsimp only [kn]; omega)⟩ P4)<|O<|aQ<|Y J ?_
   exact bX (fp b bd s3 s.waits A cc)<|aB J J (zU qx)<|O<|ei J
  refine dN (cells b (dw (.slice A s.waits.length cc) s.m p) 100::cells b3 (lP c) 33::[]) [] [0,2,4,6,8,10,12,14,16,24,26,28,30,32,34,36,38,40,44,46,48,50,52,54,19,20,22,59,43,56,61] (by kernel_rfl) al<|aq J J<|aL J J<|aw J J<|aG J J J<|aq J J<|aq J J<|aL J J<|aw J J<|aG J J J<|aq J J<|aw J J<|aG J J J<|aq J J<|aL J J<|aw J J<|aG J J J<|aw J J<|aG J J J<|aw J J<|aG J J J<|aw J J<|aG J J J<|aw J J<|aG J J J<|an J<|aB J J (yf (a_.n slk) s.m.id)<|au<|ak J J (bE J J (by omega))<|ak J J (bI J J)<|an J<|bB J J λb5=>au<|an J ?_
  refine aP p.bc<|aB J J (Hy c.aK)<|au<|ak J J (bI J J)<|an J<|aE J J<|au<|aR<|ai<|aa<|bD J J<|aJ J J (Et (fJ s.m c) ur slk J') ?_
  rintro _ _ ⟨JS,JT,rfl,rfl⟩
  refine bF<|Y J<|ab J J (aO J J)<|ab J J (aO J J)<|br 53 (v':=.int .i64 0) J (by rw [zm])<|ae J<|ae J<|O<|ar<|aa<|Y J<|ab J J (ce J J)<|br 55 (v':=.bool true) J (bi Value.bool (by decide))<|O<|cg J<|aQ<|Y J<|Y J ?_
  refine bX (dg b bd (.slice A s.waits.length cc) s.m p hi)<|aB J J (z1 (s':=s1) 69 (by decide) slk mU)<|ae J<|O<|ai<|ar<|aa<|Y J<|ab J J (dB J J)<|br 60 (v':=.bool false) J (bi Value.bool (by decide))<|O<|aT J<|az<|ai<|aa<|Y J<|bD J J ?_
  refine aP b<|aB J J (HF (fJ s.m c) (lF,kV) slk xD)<|O ?_
  refine cQ b<|Dj λdW=>aa<|Y J<|bD J J<|aJ J J (zT c) ?_
  rintro _ _ ⟨GT,rfl,rfl⟩
  refine bB J J λb8=>aE J J<|O<|aa<|ao J<|bD J J<|ao J<|aE J J<|O<|aa<|Y J<|bD J J ?_
  refine aP b<|aB J J (zZ {kn s2 c with dot:=(fJ s.m c).dot} ⟨(none,0),[],(none,0),GT⟩ ⟨dP,J,dP,slk⟩ ⟨hc.1,iy,ur.1,ur.2.1,EZ,da (by have:=dW.px; dsimp only [kn]; omega)⟩ P4)<|O<|aQ<|Y J ?_
  exact bX (fp b bd s3 s.waits A cc)<|aB J J (zU qx)<|O<|ei J
 refine dN (cells b (dw (.slice A s.waits.length cc) s.m p) 100::cells b3 (lP c) 33::[]) [] [0,2,4,6,8,10,12,14,16,24,26,28,30,32,34,36,38,40,44,46,48,50,52,54,59,19,20,22,43,56,61] (by kernel_rfl) al<|aq J J<|aL J J<|aw J J<|aG J J J<|aq J J<|aq J J<|aL J J<|aw J J<|aG J J J<|aq J J<|aw J J<|aG J J J<|aq J J<|aL J J<|aw J J<|aG J J J<|aw J J<|aG J J J<|aw J J<|aG J J J<|aw J J<|aG J J J<|aw J J<|aG J J J<|an J<|bB J J λb5=>au<|an J<|aB J J (yf (a_.n slk) s.m.id)<|au<|ak J J (bE J J (by omega))<|ak J J (bI J J)<|an J ?_
 refine aP p.bc<|aB J J (Hy c.aK)<|au<|ak J J (bI J J)<|an J<|aE J J<|au<|aR<|ai<|aa<|bD J J<|aJ J J (Et (fJ s.m c) ur slk J') ?_
 rintro _ _ ⟨JS,JT,rfl,rfl⟩
 refine bF<|Y J<|ab J J (aO J J)<|ab J J (aO J J)<|br 53 (v':=.int .i64 0) J (by rw [zm])<|ae J<|ae J<|O<|ar<|aa<|Y J<|ab J J (ce J J)<|br 55 (v':=.bool true) J (bi Value.bool (by decide))<|O<|cg J<|aQ<|Y J<|Y J ?_
 refine bX (dg b bd (.slice A s.waits.length cc) s.m p hi)<|aB J J (z1 (s':=s1) 69 (by decide) slk mU)<|ae J<|O<|ai<|ar<|aa<|Y J<|ab J J (dB J J)<|br 60 (v':=.bool false) J (bi Value.bool (by decide))<|O<|aT J<|az<|ai<|aa<|Y J<|bD J J ?_
 refine aP b<|aB J J (HF (fJ s.m c) (lF,kV) slk xD)<|O ?_
 refine cQ b<|Dj λdW=>aa<|Y J<|bD J J<|aJ J J (zT c) ?_
 rintro _ _ ⟨GT,rfl,rfl⟩
 refine bB J J λb8=>aE J J<|O<|aa<|ao J<|bD J J<|ao J<|aE J J<|O<|aa<|Y J<|bD J J ?_
 refine aP b<|aB J J (zZ {kn s2 c with dot:=(fJ s.m c).dot} ⟨(none,0),[],(none,0),GT⟩ ⟨dP,J,dP,slk⟩ ⟨hc.1,iy,ur.1,ur.2.1,EZ,da (by have:=dW.px; dsimp only [kn]; omega)⟩ P4)<|O<|aQ<|Y J ?_
 exact bX (fp b bd s3 s.waits A cc)<|aB J J (zU qx)<|O<|ei J
theorem RG {m:cG} (w:ls) (hw:yB w):Fn prog 254 #[bG b,NU w] (nd b bd ⟨m,[]⟩::L) (λv L'=>v=.bool true/\L'=nd b bd ⟨m,[w]⟩::L):=by
 refine aH func254 J J J J<|aa<|bS J J J λb3=>ae J<|O<|ar ?_
 refine cQ b<|jM λA cc=>fU λp hi=>aa<|Y J<|aS J<|ao J<|ax J J<|ab J J (bY J)<|ab J J (eV J J)<|dx 10 J (show ¬ ((64:Int)<=0) by decide)<|O<|aT J<|az<|ai<|bW (cells b (dw (.slice A ([]:List ls).length cc) m p) 100::cells b3 (nU w) 290::[]) [10] [0,2,4,6,8,10,13,15,16,18,21] (by kernel_rfl) al<|aq J J<|aq J J<|aL J J<|aw J J<|aG J J J<|cf J J J<|an J<|ef J J J J J J λGB=> ?_
 refine eh (k:=1) fa [w] (bV.const λM=>⟨nU w,[],⟨J,hw⟩,J,J⟩) J (by decide)<|bF<|aV 21 (.slice (some ⟨GB,0,none⟩) [w].length 1) J<|au<|an J ?_
 refine fi J J J J J slk (by (try simp only [eQ,dO,ej]); omega) λmS k_=> ?_
 simp only [dm]
 refine au<|aL J J<|aw J J<|an J<|aE J J<|gZ J<|aR<|aa<|ae J<|O<|av ?_
 refine aF.ay (dg b bd (.slice mS [w].length k_) m p hi) ?_
 exact aF.ay (fp b bd m [w] mS k_)<|cI J J
theorem Yt {c:il} (h:CD s c=some s'):∃ r,tN s.m c=some r/\((r.2=true/\s'=⟨r.1,s.waits⟩)\/(r.2=false/\(lU r.1.sm.os c.cV).isSome=false/\jL r.1=false/\∃ m,yK r.1 c 4=some m/\s'=⟨m,s.waits⟩)\/(r.2=false/\(lU r.1.sm.os c.cV).isSome=false/\jL r.1=true/\s.waits=[]/\∃ m,Af r.1 c=some m/\s'=⟨m,[⟨c,0,(0,0),false⟩]⟩)):=by
 unfold CD at h
 obtain ⟨r,h1,h2⟩:=fK.1 h
 refine ⟨r,h1, ?_⟩
 split at h2
 ·rename_i hr; exact .inl ⟨hr,(ez h2).symm⟩
 ·rename_i hr
  split at h2
  ·cases h2
  ·rename_i ht
   split at h2
   ·rename_i hl
    obtain ⟨m,h3,h4⟩:=iq.1 h2
    exact .inr (.inl ⟨by simpa using hr,by simpa using ht,hl,m,h3,h4.symm⟩)
   ·rename_i hl
    split at h2
    ·cases h2
    ·rename_i hw
     obtain ⟨m,h3,h4⟩:=iq.1 h2
     have GU:s.waits=[]:=rC (eX.1 hw)
     exact .inr (.inr ⟨by simpa using hr,by simpa using ht,by simpa using hl,GU,m,h3,by rw [<- h4,GU]; rfl⟩)
theorem X_ (c:il) (hc:nO c) (h:CD s c=some s'):Fn prog 147 #[bG b,wR c] (nd b bd s::L) (λv L'=>v=.tuple #[]/\L'=nd b bd s'::L):=by
 obtain ⟨r,GP,hw⟩:=Yt h
 refine aH func147 J J J J<|aa<|bS J J J λb3=>O<|ar ?_
 rcases hw with ⟨hr,rfl⟩ | ⟨hr,ht,hl,m2,hf,rfl⟩ | ⟨hr,ht,hl,GU,m2,hp,rfl⟩
 ·refine cQ b<|jM λA cc=>aa<|Y J<|bD J J<|aB J J (Ho c hc GP)<|br 10 (v':=.bool true) J (by rw [hr])<|O<|cg J<|av<|aU ?_
  exact aF.ay (fp b bd r.1 s.waits A cc)<|kR J
 ·refine cQ b<|jM λA cc=>aa<|Y J<|bD J J<|aB J J (Ho c hc GP)<|br 10 (v':=.bool false) J (by rw [hr])<|O<|aT J<|az<|ai ?_
  refine cQ b<|fU λp2 dW=>iQ (by kernel_rfl)<|fq 6 10 (by decide) ?_ ?_
  ·refine dN (cells b (dw (.slice A s.waits.length cc) r.1 p2) 100::cells b3 (lP c) 33::[]) [] [0,2,4,6,8,10,13,14,16,18,21,23,24] (by kernel_rfl) al<|aq J J<|aL J J<|aw J J<|aG J J J<|aw J J<|aG J J J<|an J ?_
   refine aP p2.bo<|aJ J J (tF c.cV hc.2.2.2.2.2) ?_
   rintro _ _ ⟨oP,n4,rfl,rfl⟩
   refine au<|aq J J<|ak J J (aO J J)<|ak J J (aO J J)<|er 20 (v':=.bool false) J (by rw [ht])<|an J<|bB J J λb4=>au<|an J<|aE J J<|au<|ak J J (bT J)<|aR<|ai<|ar<|aa<|Y J<|ab J J (j0 J)<|Y J<|aj J<|Y J<|aj J ?_
   refine bX (dg b bd (.slice A s.waits.length cc) r.1 p2 dW)<|aB J J (tJ)<|br 25 (v':=.bool false) J (by rw [hl])<|aj J<|ab J J (j0 J)<|aA J<|O<|cg J<|aa<|Y J<|bD J J ?_
   refine aP b<|aB J J (K2 c 4 hc (by decide) hf)<|O<|av<|aU ?_
   exact aF.ay (fp b bd m2 s.waits A cc)<|kR J
  refine dN (cells b (dw (.slice A s.waits.length cc) r.1 p2) 100::cells b3 (lP c) 33::[]) [] [0,2,4,6,8,10,21,13,14,16,18,23,24] (by kernel_rfl) al<|aq J J<|aL J J<|aw J J<|aG J J J<|aw J J<|aG J J J<|an J<|bB J J λb4=>au<|an J ?_
  refine aP p2.bo<|aJ J J (tF c.cV hc.2.2.2.2.2) ?_
  rintro _ _ ⟨oP,n4,rfl,rfl⟩
  refine au<|aq J J<|ak J J (aO J J)<|ak J J (aO J J)<|er 20 (v':=.bool false) J (by rw [ht])<|an J<|aE J J<|au<|ak J J (bT J)<|aR<|ai<|ar<|aa<|Y J<|ab J J (j0 J)<|Y J<|aj J<|Y J<|aj J ?_
  refine bX (dg b bd (.slice A s.waits.length cc) r.1 p2 dW)<|aB J J (tJ)<|br 25 (v':=.bool false) J (by rw [hl])<|aj J<|ab J J (j0 J)<|aA J<|O<|cg J<|aa<|Y J<|bD J J ?_
  refine aP b<|aB J J (K2 c 4 hc (by decide) hf)<|O<|av<|aU ?_
  exact aF.ay (fp b bd m2 s.waits A cc)<|kR J
 refine cQ b<|jM λA cc=>aa<|Y J<|bD J J<|aB J J (Ho c hc GP)<|br 10 (v':=.bool false) J (by rw [hr])<|O<|aT J<|az<|ai ?_
 refine cQ b<|fU λp2 dW=>iQ (by kernel_rfl)<|fq 6 10 (by decide) ?_ ?_
 ·refine dN (cells b (dw (.slice A s.waits.length cc) r.1 p2) 100::cells b3 (lP c) 33::[]) [] [0,2,4,6,8,10,13,14,16,18,21,23,24] (by kernel_rfl) al<|aq J J<|aL J J<|aw J J<|aG J J J<|aw J J<|aG J J J<|an J ?_
  refine aP p2.bo<|aJ J J (tF c.cV hc.2.2.2.2.2) ?_
  rintro _ _ ⟨oP,n4,rfl,rfl⟩
  refine au<|aq J J<|ak J J (aO J J)<|ak J J (aO J J)<|er 20 (v':=.bool false) J (by rw [ht])<|an J<|bB J J λb4=>au<|an J<|aE J J<|au<|ak J J (bT J)<|aR<|ai<|ar<|aa<|Y J<|ab J J (j0 J)<|Y J<|aj J<|Y J<|aj J ?_
  refine bX (dg b bd (.slice A s.waits.length cc) r.1 p2 dW)<|aB J J (tJ)<|br 25 (v':=.bool true) J (by rw [hl])<|aj J<|ab J J (df J)<|aA J<|O<|aT J<|az<|ai<|ar ?_
  rw [GU]
  refine b_ (fp b bd r.1 [] A cc)<|aa<|Y J<|bD J J<|ab J J (bI J J)<|aB J J (RG ⟨c,0,(0,0),false⟩ ⟨hc,iy,iy,iy⟩)<|aV 34 (.bool true) J<|ab J J (df J)<|O<|aT J<|az<|ai<|ar<|aa<|Y J<|ab J J (j0 J)<|O<|cg J<|jM λA2 iz=>aa<|Y J<|bD J J<|aB J J (Hp c hc hp)<|O<|av<|aU ?_
  exact aF.ay (fp b bd m2 [⟨c,0,(0,0),false⟩] A2 iz)<|kR J
 refine dN (cells b (dw (.slice A s.waits.length cc) r.1 p2) 100::cells b3 (lP c) 33::[]) [] [0,2,4,6,8,10,21,13,14,16,18,23,24] (by kernel_rfl) al<|aq J J<|aL J J<|aw J J<|aG J J J<|aw J J<|aG J J J<|an J<|bB J J λb4=>au<|an J ?_
 refine aP p2.bo<|aJ J J (tF c.cV hc.2.2.2.2.2) ?_
 rintro _ _ ⟨oP,n4,rfl,rfl⟩
 refine au<|aq J J<|ak J J (aO J J)<|ak J J (aO J J)<|er 20 (v':=.bool false) J (by rw [ht])<|an J<|aE J J<|au<|ak J J (bT J)<|aR<|ai<|ar<|aa<|Y J<|ab J J (j0 J)<|Y J<|aj J<|Y J<|aj J ?_
 refine bX (dg b bd (.slice A s.waits.length cc) r.1 p2 dW)<|aB J J (tJ)<|br 25 (v':=.bool true) J (by rw [hl])<|aj J<|ab J J (df J)<|aA J<|O<|aT J<|az<|ai<|ar ?_
 rw [GU]
 refine b_ (fp b bd r.1 [] A cc)<|aa<|Y J<|bD J J<|ab J J (bI J J)<|aB J J (RG ⟨c,0,(0,0),false⟩ ⟨hc,iy,iy,iy⟩)<|aV 34 (.bool true) J<|ab J J (df J)<|O<|aT J<|az<|ai<|ar<|aa<|Y J<|ab J J (j0 J)<|O<|cg J<|jM λA2 iz=>aa<|Y J<|bD J J<|aB J J (Hp c hc hp)<|O<|av<|aU ?_
 exact aF.ay (fp b bd m2 [⟨c,0,(0,0),false⟩] A2 iz)<|kR J
theorem Y6 {s s':cG} (c:il) (hc:nO c) (hl:jL s=false) (h:yK s c 4=some s'):Fn prog 148 #[bG b,wR c] (nx b bd hd s::L) (λv L'=>v=.tuple #[]/\L'=nx b bd hd s'::L):=by
 refine aH func148 J J J J<|aa<|bS J J J λb3=>O<|aX<|aa<|Y J ?_
 refine aP b<|aB J J (tJ)<|br 38 (v':=.bool false) J (by rw [hl])<|ab J J (j0 J)<|ae J<|O<|cg J<|aQ<|Y J<|bD J J ?_
 exact aP b<|aB J J (K2 c 4 hc (by decide) h)<|O<|bA<|ei J
theorem Ev (c:il) (hc:nO c) (L:List HP):Fn prog 142 #[wR c] L (λv L'=>v=.bool (decide (Al c))/\L'=L):=by
 refine aH func142 J J J J<|aa<|bS J J J λb1=>ae J<|O<|ar ?_
 rcases (show c.kind=1\/c.kind=2\/c.kind=3\/c.kind=4\/(c.kind≠1/\c.kind≠2/\c.kind≠3/\c.kind≠4) by omega) with hk | hk | hk | hk | hk
 ·refine aa<|ao J<|ax J J<|O<|aX<|aa<|ab J J (ce J J)<|fd 6 J hk<|ae J<|O<|cg J<|aa<|ao J<|ax J J<|aB J J (rH _ c.aK hc.2.2.1)<|jJ 15 24 (fy c.aK/\fy c.di/\0<=c.eZ/\c.eZ<=1000) ?_ ?_
  ·refine Y J<|nH 10 J (λf0=> ?_) (λf0=> ?_)
   ·refine aj J<|ao J<|aj J<|ax J J<|aj J<|aB J J (rH _ c.di hc.2.2.2.1)<|aA J<|Y J<|nH 15 J (λgU=> ?_) (λgU=> ?_)
    ·refine aj J<|ao J<|aj J<|ax J J<|aj J<|ab J J (eV J J)<|aA J<|Y J<|dl 20 J (λjU=> ?_) (λjU=> ?_)
     ·refine aj J<|ao J<|aj J<|ax J J<|aj J<|ab J J (sX J J)<|aA J<|dH J ?_ (by repeat (first | exact dI | refine dJ rfl ?_)) al
      exact bi Value.bool (gX.2 (by first | exact id | (simp_all; done) | (simp_all; omega) | omega))
     refine ah J<|ah J<|ah J<|aA J<|dH J ?_ (by repeat (first | exact dI | refine dJ rfl ?_)) al
     exact bi Value.bool (cJ (by first | exact id | (simp_all; done) | (simp_all; omega) | omega)).symm
    refine ah J<|ah J<|ah J<|aA J<|Y J<|ah J<|ah J<|ah J<|aA J<|dH J ?_ (by repeat (first | exact dI | refine dJ rfl ?_)) al
    exact bi Value.bool (cJ (by first | exact id | (simp_all; done) | (simp_all; omega) | omega)).symm
   refine ah J<|ah J<|ah J<|aA J<|Y J<|ah J<|ah J<|ah J<|aA J<|Y J<|ah J<|ah J<|ah J<|aA J<|dH J ?_ (by repeat (first | exact dI | refine dJ rfl ?_)) al
   exact bi Value.bool (cJ (by first | exact id | (simp_all; done) | (simp_all; omega) | omega)).symm
  refine ae J<|O<|av<|db<|aU ?_
  exact aZ J J al (⟨bi Value.bool (gX.2 ⟨λh=>.inl ⟨hk,h⟩,λh=>by rcases h with h | h | h; exact h.2; omega; omega⟩),J⟩)
 ·refine aa<|ao J<|ax J J<|O<|aX<|aa<|ab J J (ce J J)<|dx 6 J (by omega)<|ae J<|O<|aT J<|aa<|ab J J (ce J J)<|fd 26 J hk<|ae J<|O<|cg J<|aa<|ao J<|ax J J<|aB J J (rH _ c.aK hc.2.2.1)<|ae J<|O<|av<|db<|aU ?_
  exact aZ J J al (⟨bi Value.bool (gX.2 ⟨λh=>.inr (.inl ⟨hk,h⟩),λh=>by rcases h with h | h | h; omega; exact h.2; omega⟩),J⟩)
 ·refine aa<|ao J<|ax J J<|O<|aX<|aa<|ab J J (ce J J)<|dx 6 J (by omega)<|ae J<|O<|aT J<|aa<|ab J J (ce J J)<|dx 26 J (by omega)<|ae J<|O<|aT J<|ar<|aa<|ab J J (ce J J)<|fd 31 J hk<|ae J<|O<|cg J<|az<|ai<|cg J<|aa<|ao J<|ax J J<|aB J J (rH _ c.aK hc.2.2.1)<|jJ 5 40 (fy c.aK/\fy c.cV) ?_ ?_
  ·refine Y J<|nH 36 J (λB1=> ?_) (λB1=> ?_)
   ·refine aj J<|ao J<|aj J<|ax J J<|aj J<|aB J J (rH _ c.cV hc.2.2.2.2.2)<|aA J<|dH J ?_ (by repeat (first | exact dI | refine dJ rfl ?_)) al
    exact bi Value.bool (by simp_all)
   refine ah J<|ah J<|ah J<|aA J<|dH J ?_ (by repeat (first | exact dI | refine dJ rfl ?_)) al
   exact bi Value.bool (cJ (by simp_all)).symm
  refine ae J<|O<|av<|db<|aU ?_
  exact aZ J J al (⟨bi Value.bool (gX.2 ⟨λh=>.inr (.inr ⟨.inl hk,h⟩),λh=>by rcases h with h | h | h; omega; omega; exact h.2⟩),J⟩)
 ·refine aa<|ao J<|ax J J<|O<|aX<|aa<|ab J J (ce J J)<|dx 6 J (by omega)<|ae J<|O<|aT J<|aa<|ab J J (ce J J)<|dx 26 J (by omega)<|ae J<|O<|aT J<|ar<|aa<|ab J J (ce J J)<|dx 31 J (by omega)<|ae J<|O<|aT J<|aQ<|ab J J (ce J J)<|fd 32 J hk<|ae J<|O<|ai<|cg J<|aa<|ao J<|ax J J<|aB J J (rH _ c.aK hc.2.2.1)<|jJ 5 40 (fy c.aK/\fy c.cV) ?_ ?_
  ·refine Y J<|nH 36 J (λB1=> ?_) (λB1=> ?_)
   ·refine aj J<|ao J<|aj J<|ax J J<|aj J<|aB J J (rH _ c.cV hc.2.2.2.2.2)<|aA J<|dH J ?_ (by repeat (first | exact dI | refine dJ rfl ?_)) al
    exact bi Value.bool (by simp_all)
   refine ah J<|ah J<|ah J<|aA J<|dH J ?_ (by repeat (first | exact dI | refine dJ rfl ?_)) al
   exact bi Value.bool (cJ (by simp_all)).symm
  refine ae J<|O<|av<|db<|aU ?_
  exact aZ J J al (⟨bi Value.bool (gX.2 ⟨λh=>.inr (.inr ⟨.inr hk,h⟩),λh=>by rcases h with h | h | h; omega; omega; exact h.2⟩),J⟩)
 refine aa<|ao J<|ax J J<|O<|aX<|aa<|ab J J (ce J J)<|dx 6 J (by omega)<|ae J<|O<|aT J<|aa<|ab J J (ce J J)<|dx 26 J (by omega)<|ae J<|O<|aT J<|ar<|aa<|ab J J (ce J J)<|dx 31 J (by omega)<|ae J<|O<|aT J<|aQ<|ab J J (ce J J)<|dx 32 J (by omega)<|ae J<|O<|ai<|aT J<|az<|bA<|ai<|aa<|ae J<|O<|av ?_
 exact aZ J J al (⟨bi Value.bool (cJ (λh=>by rcases h with h | h | h <;> omega)).symm,J⟩)
variable{e:Int}
theorem acN {c:il} (h:wQ s c=some (s',e)):(¬ Al c/\s=s'/\e=230)\/(Al c/\e=0/\((c.kind=1/\Am s c=some s')\/(c.kind=2/\∃ m,mj s.m (.dR {kn s.m c with my:=some (rT (yL s.m c.aK) s.m.fu,c.aK)})=some m/\s'=⟨m,s.waits⟩)\/(c.kind=3/\CD s c=some s')\/(c.kind=4/\jL s.m=false/\∃ m,yK s.m c 4=some m/\s'=⟨m,s.waits⟩))):=by
 unfold wQ at h
 split at h
 ·rename_i hm; have:=ez h; exact .inl ⟨hm,bi Prod.fst this,(bi Prod.snd this).symm⟩
 ·rename_i hm
  have hm:=eX.1 hm
  split at h
  ·rename_i hk
   obtain ⟨s1,h1,h2⟩:=iq.1 h
   obtain ⟨rfl,rfl⟩:=jY h2
   exact .inr ⟨hm,rfl,.inl ⟨hk,h1⟩⟩
  ·rename_i mU
   split at h
   ·rename_i hk
    obtain ⟨s1,h1,h2⟩:=iq.1 h
    obtain ⟨rfl,rfl⟩:=jY h2
    exact .inr ⟨hm,rfl,.inr (.inl ⟨hk,s1,h1,rfl⟩)⟩
   ·rename_i gV
    split at h
    ·rename_i hk
     obtain ⟨s1,h1,h2⟩:=iq.1 h
     obtain ⟨rfl,rfl⟩:=jY h2
     exact .inr ⟨hm,rfl,.inr (.inr (.inl ⟨hk,h1⟩))⟩
    ·rename_i P5
     split at h
     ·cases h
     ·rename_i hl
      obtain ⟨s1,h1,h2⟩:=iq.1 h
      obtain ⟨rfl,rfl⟩:=jY h2
      refine .inr ⟨hm,rfl,.inr (.inr (.inr ⟨?_,by simpa using hl,s1,h1,rfl⟩))⟩
      rcases hm with hm | hm | hm
      ·exact absurd hm.1 mU
      ·exact absurd hm.1 gV
      ·exact hm.1.resolve_left P5
theorem abd (c:il) (hc:nO c) (h:wQ s c=some (s',e)):Fn prog 77 #[bG b,wR c] (nd b bd s::L) (λv L'=>v=.int .i64 e/\L'=nd b bd s'::L):=by
 refine aH func77 J J J J<|aa<|bS J J J λb3=>ae J<|O<|ar ?_
 refine cQ b<|jM λA cc=>aa<|Y J<|aB J J (K1)<|aV 7 (.bool true) J<|ab J J (df J)<|O<|aT J<|az<|ai<|ar ?_
 rcases acN h with ⟨hm,rfl,rfl⟩ | ⟨hm,rfl,⟨hk,hu⟩ | ⟨hk,m2,ho,rfl⟩ | ⟨hk,hu⟩ | ⟨hk,hl,m2,ho,rfl⟩⟩
 ·refine aa<|bD J J<|aB J J (Ev c hc _)<|dx 10 J hm<|ab J J (j0 J)<|O<|cg J<|aa<|ae J<|O<|av<|aU ?_
  exact aF.ay (fp b bd s.m s.waits A cc)<|cI J J
 ·refine aa<|bD J J<|aB J J (Ev c hc _)<|fd 10 J hm<|ab J J (df J)<|O<|aT J<|az<|ai<|ar<|aa<|ao J<|ax J J<|O<|aX<|aa<|ab J J (ce J J)<|fd 15 J hk<|ae J<|O<|cg J<|aQ<|Y J<|bD J J ?_
  exact bX (fp b bd s.m s.waits A cc)<|aB J J (Y5 (s:=⟨s.m,s.waits⟩) c hc hu)<|O<|bA<|ai<|aa<|ae J<|O<|av<|cI J J
 ·refine aa<|bD J J<|aB J J (Ev c hc _)<|fd 10 J hm<|ab J J (df J)<|O<|aT J<|az<|ai<|ar<|aa<|ao J<|ax J J<|O<|aX<|aa<|ab J J (ce J J)<|dx 15 J (by omega)<|ae J<|O<|aT J<|aa<|ab J J (ce J J)<|fd 20 J hk<|ae J<|O<|cg J<|aa<|Y J<|bD J J ?_
  refine aP b<|ail λhi=>aJ J J (zT c) ?_
  rintro _ _ ⟨q23,rfl,rfl⟩
  refine bB J J λb5=>aE J J<|O ?_
  refine cQ b<|fU λp2 dW=>bW (cells b (dw (.slice A s.waits.length cc) s.m p2) 100::cells b3 (lP c) 33::[]) [] [0,2,4,6,8,10,13,14,17] (by kernel_rfl) al<|aq J J<|aL J J<|aw J J<|aG J J J<|aw J J<|aG J J J<|an J ?_
  refine aP p2.bc<|aJ J J (aa0 c.aK) ?_
  rintro _ _ ⟨iV,iW,ak3,rfl,ak4,rfl⟩
  refine bF<|au<|aw J J<|an J<|aE J J<|au<|aR<|aQ<|Y J<|bD J J ?_
  refine bX (dg b bd (.slice A s.waits.length cc) s.m p2 dW)<|aB J J (zZ {kn s.m c with my:=some (rT (yL s.m c.aK) s.m.fu,c.aK)} ⟨(iV,iW),ak3,(none,0),q23⟩ ⟨slk,ak4,dP,slk⟩ ⟨hc.1,iy,iy,iy,EZ,da (by have:=hi.px; dsimp only [kn]; omega)⟩ ho)<|O<|bA<|ai<|aa<|ae J<|O<|av ?_
  exact aF.ay (fp b bd m2 s.waits A cc)<|cI J J
 ·refine aa<|bD J J<|aB J J (Ev c hc _)<|fd 10 J hm<|ab J J (df J)<|O<|aT J<|az<|ai<|ar<|aa<|ao J<|ax J J<|O<|aX<|aa<|ab J J (ce J J)<|dx 15 J (by omega)<|ae J<|O<|aT J<|aa<|ab J J (ce J J)<|dx 20 J (by omega)<|ae J<|O<|aT J<|aa<|ab J J (ce J J)<|fd 36 J hk<|ae J<|O<|cg J<|aQ<|Y J<|bD J J ?_
  exact bX (fp b bd s.m s.waits A cc)<|aB J J (X_ (s:=⟨s.m,s.waits⟩) c hc hu)<|O<|bA<|ai<|aa<|ae J<|O<|av<|cI J J
 refine aa<|bD J J<|aB J J (Ev c hc _)<|fd 10 J hm<|ab J J (df J)<|O<|aT J<|az<|ai<|ar<|aa<|ao J<|ax J J<|O<|aX<|aa<|ab J J (ce J J)<|dx 15 J (by omega)<|ae J<|O<|aT J<|aa<|ab J J (ce J J)<|dx 20 J (by omega)<|ae J<|O<|aT J<|aa<|ab J J (ce J J)<|dx 36 J (by omega)<|ae J<|O<|aT J<|aa<|ab J J (ce J J)<|fd 41 J hk<|ae J<|O<|cg J<|aQ<|Y J<|bD J J ?_
 refine aP b<|aB J J (Y6 c hc hl ho)<|O<|bA<|ai<|aa<|ae J<|O<|av ?_
 exact aF.ay (fp b bd m2 s.waits A cc)<|cI J J
open Go Go.Proofs Go.Proofs.Tryz
theorem abe (now:Int):Fn prog 86 #[bG b,.int .i64 now] (nd b bd s::L) (λv L'=>v=.tuple #[]/\L'=nd b bd (t0 s now)::L):=by
 refine aH func86 J J J J<|jM λA cc=>fU λp hi=> ?_
 have hnw:=hi.now
 refine aa<|Y J<|g_ b<|aB J J (wi)<|aV 5 (.bool true) J<|Y J<|aj J<|Y J<|aj J<|Y J<|aj J<|aS J<|jJ 8 17 (s.m.now<=now/\now<=1152921504606846976) ?_ ?_
 ·refine aj J<|ao J<|aj J<|ax J J<|aj J<|ab J J (eV J J)<|aA J<|Y J<|dl 14 J (λgK=> ?_) (λgK=> ?_)
  ·refine aj J<|Y J<|aj J<|ab J J (sX J J)<|aA J<|dH J ?_ (by repeat (first | exact dI | refine dJ rfl ?_)) al
   exact bi Value.bool (gX.2 (by first | omega | simp_all))
  refine ah J<|ah J<|aA J<|dH J ?_ (by repeat (first | exact dI | refine dJ rfl ?_)) al
  exact bi Value.bool (cJ (by first | omega | simp_all)).symm
 refine O<|bz J (λgx=> ?_) (λgx=> ?_)
 ·refine aQ<|Y J<|Y J<|aS J<|ao J<|aE J J<|O ?_
  rw [show t0 s now=⟨{s.m with now:=now},s.waits⟩ from if_pos gx]
  refine aF.ay (dg b bd (.slice A s.waits.length cc) {s.m with now:=now} p ⟨hi.nodes,hi.id,⟨by dsimp only; omega,gx.2⟩,hi.mA,hi.pN,hi.dn,hi.px,hi.base⟩) ?_
  exact aF.ay (fp b bd {s.m with now:=now} s.waits A cc)<|ei J
 refine az ?_
 rw [show t0 s now=s from if_neg gx]
 refine aF.ay (dg b bd (.slice A s.waits.length cc) s.m p hi) ?_
 exact aF.ay (fp b bd s.m s.waits A cc)<|ei J
theorem Y7 (cH:Int) (h:E3 s.m cH=some m1):Fn prog 48 #[bG b,.int .i64 cH] (nd b bd s::L) (λv L'=>v=.tuple #[]/\L'=nd b bd ⟨m1,s.waits⟩::L):=by
 unfold E3 at h
 refine aH func48 J J J J<|jM λA cc=>fU λp hi=> ?_
 have jX:=hi.nodes
 refine aa<|Y J<|g_ b<|aB J J (wi)<|aV 5 (.bool true) J<|Y J<|aj J<|Y J<|aj J<|ab J J (eV J J)<|aA J<|jJ 17 26 (0<=cH/\cH < s.m.nodes/\cH≠s.m.id) ?_ ?_
 ·refine Y J<|dl 10 J (λf0=> ?_) (λf0=> ?_)
  ·refine aj J<|Y J<|aj J<|Y J<|aj J<|aS J<|aj J<|ao J<|aj J<|ao J<|aj J<|ax J J<|aj J<|ab J J (bU J J)<|aA J<|Y J<|dl 19 J (λj9=> ?_) (λj9=> ?_)
   ·refine aj J<|Y J<|aj J<|Y J<|aj J<|aS J<|aj J<|ao J<|aj J<|ax J J<|aj J<|ab J J (dB J J)<|aA J<|dH J ?_ (by repeat (first | exact dI | refine dJ rfl ?_)) al
    exact bi Value.bool (gX.2 (by first | omega | simp_all))
   refine ah J<|ah J<|ah J<|ah J<|ah J<|ah J<|aA J<|dH J ?_ (by repeat (first | exact dI | refine dJ rfl ?_)) al
   exact bi Value.bool (cJ (by first | omega | simp_all)).symm
  refine ah J<|ah J<|ah J<|ah J<|ah J<|ah J<|ah J<|aA J<|Y J<|ah J<|ah J<|ah J<|ah J<|ah J<|ah J<|aA J<|dH J ?_ (by repeat (first | exact dI | refine dJ rfl ?_)) al
  exact bi Value.bool (cJ (by first | omega | simp_all)).symm
 refine O<|bz J (λno=> ?_) (λno=> ?_)
 ·rw [if_pos no] at h
  refine b_ (dg b bd (.slice A s.waits.length cc) s.m p hi)<|aQ<|Y J<|Y J<|Y J<|aJ J J (Kx cH) ?_
  rintro _ _ ⟨q30,rfl,rfl⟩
  refine ef J J J J J J λmw=> ?_
  refine eh (k:=1) dE [ua s.m cH] (sM ⟨(none,0),(none,0),q30,(none,0)⟩ ⟨dP,dP,slk,dP⟩ (NV hi (da (by omega)))) J (by decide)<|bF<|aV 31 (.slice (some ⟨mw,0,none⟩) [ua s.m cH].length 1) J ?_
  refine aP b<|aB J J (rF slk h)<|O ?_
  exact aF.ay (fp b bd m1 s.waits A cc)<|ei J
 refine az ?_
 rw [if_neg no] at h
 obtain rfl:=ez h
 refine aF.ay (dg b bd (.slice A s.waits.length cc) s.m p hi) ?_
 exact aF.ay (fp b bd s.m s.waits A cc)<|ei J
theorem Z1 (h:IC s.m=some m1):Fn prog 51 #[bG b] (nd b bd s::L) (λv L'=>v=.tuple #[]/\L'=nd b bd ⟨m1,s.waits⟩::L):=by
 refine aH func51 J J J J<|jM λA cc=>aa<|Y J<|aB J J (K1)<|O<|xZ J (J)<|fU λp hi=>aQ<|Y J<|Y J<|aS J<|ao J<|ax J J ?_
 refine aP p.bp<|aJ J J (ZP) ?_
 rintro _ _ ⟨A9,c9,rfl,rfl⟩
 refine bF ?_
 refine bX (dg b bd (.slice A s.waits.length cc) s.m p hi)<|aB J J (rF slk h)<|O ?_
 exact aF.ay (fp b bd m1 s.waits A cc)<|ei J
def ne (id:Int) (m:bQ):Bool:= !decide (m.cH=id)
theorem aju (h:l.length=15):∃ a0 a1 a2 a3 a4 a5 a6 a7 a8 a9 P6 P7 a12 P8 P9,l=[a0,a1,a2,a3,a4,a5,a6,a7,a8,a9,P6,P7,a12,P8,P9]:=by
 match l,h with
 | [a0,a1,a2,a3,a4,a5,a6,a7,a8,a9,P6,P7,a12,P8,P9],_=>exact ⟨_,_,_,_,_,_,_,_,_,_,_,_,_,_,_,rfl⟩
abbrev zE (b1 b bd:Nat) (hd:Value) (s:cG) (L:List HP):List HP:=cells b1 [bG b] 40::nx b bd hd s::L
variable{b1:Nat}
theorem RH {s:cG} (m:bQ) (q:gg):Fn prog 97 #[nk m q,bG b1] (zE b1 b bd hd s L) (λv L'=>v=.bool (decide (m.cH=s.id))/\L'=zE b1 b bd hd s L):=by
 refine aH func97 J J J J<|aa<|bS J J J λb2=>ae J<|O ?_
 refine cQ b<|fU λp hi=>bW (cells b1 [bG b] 40::cells b2 (dq m q) 174::cells b (dw hd s p) 100::[]) [] [0,2,4,6,8,10,12,14] (by kernel_rfl) al<|aw J J<|aG J J J<|aG J J J<|aL J J<|aw J J<|aG J J J<|ak J J (ce J J)<|ak J J (bT J)<|aR<|av ?_
 exact aF.ay (dg b bd hd s p hi)<|cI J J
variable{ms:List bQ}
theorem Z2 {s:cG}:Fn prog 180 #[.slice A ms.length c,.func (.func 97) #[] #[bG b1]] (zE b1 b bd hd s (aN dE 174 A c ms::L)) (λv L'=>(∃ r:Int,v=.int .i64 r/\((r= -1/\∀ x∈ms,ne s.id x=true)\/∃ (i:Nat) (x:bQ),r=(i:Int)/\ms[i]? =some x/\ne s.id x=false/\∀ y∈ms.take i,ne s.id y=true))/\L'=zE b1 b bd hd s (aN dE 174 A c ms::L)):=by
 refine aH func180 J J J J<|bR.lens (bR.dT bu.g (gp (R:=dE) (t:=174) (A:=A) (c:=c) (xs:=ms) (L:=[]))) λhl=> ?_
 simp only [cE] at hl
 refine aa<|ae J<|O<|ar<|aa<|Y J<|ab J J (bY J)<|Y J<|O<|aX<|cY (σ:=Nat) [0,1,7] (λi=>i<=ms.length/\∀ x∈ms.take i,ne s.id x=true) (λi kv=>(8,.int .i64 (i:Int))::kv) (λi=>zE b1 b bd hd s (aN dE 174 A c ms::L)) (λi=>ms.length - i) (0) J (⟨dF _,by simp⟩) (al) (dc J) λi hi=>aa<|ab J J (bU J J)<|O<|ar<|bz J (λh9=> ?_) (λh9=> ?_)
 ·refine az<|ai<|ar<|aX ?_
  obtain ⟨x,hx⟩:∃ x,ms[i]? =some x:=⟨_,cj (by omega)⟩
  refine gr (bR.dT bu.g (gp (R:=dE) (t:=174) (A:=A) (c:=c) (xs:=ms) (L:=[]))) hx λbq oq eq=> ?_
  subst eq
  refine aa<|Y J<|ae J<|O<|aa<|Y J<|Y J<|Y J<|f6 J J J (J) (bR.dT bu.g (gp (R:=dE) (t:=174) (A:=some ⟨bq,oq,none⟩) (c:=c) (xs:=ms) (L:=[]))) (hx) λBj Bk Bl qm=> ?_
  have qn:=hx
  refine kh J J qm qn (λ_=>J) λuq Jc=> ?_
  simp only [dL,dm]
  refine aP b<|g_ b1<|jx J J J ((show Fn _ _ #[nk x uq,bG b1] _ _ from RH x uq)) ?_
  rintro _ _ ⟨rfl,rfl⟩
  refine O<|bz J (λeI=> ?_) (λeI=> ?_)
  ·refine aa<|Y J<|ae J<|O<|av<|db<|aU<|aU<|db<|aU ?_
   exact aZ J J al (⟨⟨_,J,.inr ⟨i,x,J,hx,by unfold ne; rw [dV eI]; rfl,hi.2⟩⟩,J⟩)
  refine az<|bA<|ai<|aQ<|ab J J (bE J J (by omega))<|cz 18 J<|Y J<|O<|ai ?_
  exact ⟨i+1,⟨by omega,by rw [ll hx]; intro y hy; rcases gD.1 hy with h | h; exact hi.2 y h; (rw [o0.1 h]; unfold ne; rw [cJ eI]; rfl)⟩,by omega,bO rfl⟩
 refine cw<|aY<|aY<|cu<|ai<|aa<|ae J<|O<|av ?_
 have jX:=hi.2
 rw [gQ (show ms.length<=i by omega)] at jX
 exact aZ J J al (⟨⟨_,J,.inl ⟨J,jX⟩⟩,J⟩)
structure ak5 where
 i:Nat
 j:Nat
 zs:List bQ
variable{i:Nat}
theorem aea {id:Int} {j:Nat} {zs:List bQ} {x:bQ} (hx:ms[j]? =some x) (kA:i<=j) (hz:zs.length=ms.length) (ht:zs.take i=(ms.take j).filter (ne id)) (hd:zs.drop j=ms.drop j):zs[j]? =some x/\(ne id x=false->zs.take i=(ms.take (j+1)).filter (ne id))/\zs.drop (j+1)=ms.drop (j+1)/\(ne id x=true->(zs.set i x).take (i+1)=(ms.take (j+1)).filter (ne id)/\(zs.set i x).drop (j+1)=ms.drop (j+1)):=by
 have hj:=(dX.1 hx).1
 have h1:zs[j]? =some x:=by
  have:=bi (λl=>l[0]?) hd
  simp only [qF,sD] at this
  rw [this,hx]
 have h2:zs.drop (j+1)=ms.drop (j+1):=by
  have:=bi (List.drop 1) hd
  rwa [List.drop_drop,List.drop_drop] at this
 refine ⟨h1,λhk=> ?_,h2,λhk=>⟨?_, ?_⟩⟩
 ·rw [qQ hx,nC,ht]; simp [hk]
 ·rw [qQ hx,nC, <- ht,qQ (show (zs.set i x)[i]? =some x by rw [List.getElem?_set_self (by omega)]),List.take_set_of_le (by omega)]
  simp [hk]
 ·rw [List.drop_set_of_lt (by omega)]; exact h2
set_option maxHeartbeats 1000000 in
theorem acO {s:cG}:Fn prog 96 #[.slice A ms.length c,.func (.func 97) #[] #[bG b1]] (zE b1 b bd hd s (aN dE 174 A c ms::L)) (λv L'=>v=.slice A (ms.filter (ne s.id)).length c/\L'=zE b1 b bd hd s (aN dE 174 A c (ms.filter (ne s.id))::L)):=by
 refine aH func96 J J J J<|bR.lens (bR.dT bu.g (gp (R:=dE) (t:=174) (A:=A) (c:=c) (xs:=ms) (L:=[]))) λhl=> ?_
 simp only [cE] at hl
 refine aa<|ae J<|O<|aa<|Y J<|Y J<|aJ J J (Z2) ?_
 rintro _ _ ⟨⟨r10,rfl,ak6⟩,rfl⟩
 refine ae J<|O<|ar ?_
 rcases ak6 with ⟨rfl,eH⟩ | ⟨i0,x0,rfl,lg,Xp,eH⟩
 ·refine aa<|Y J<|ab J J (ce J J)<|O<|qN J (J)<|aa<|Y J<|ae J<|O<|av<|aU ?_
  rw [rD.2 eH]
  exact cI J J
 refine aa<|Y J<|ab J J (ce J J)<|O<|ir J (by omega)<|az<|ai<|ar ?_
 have sq:=(dX.1 lg).1
 refine CQ A c (R:=dE) (te:=174) (xs:=ms) lg λg hA=> ?_
 subst hA
 refine aa<|Y J<|ab J J (bE J J (by omega))<|cz 15 J<|ae J<|O<|aX<|cY (σ:=ak5) [0,1] (λg3=>g3.i<=g3.j/\g3.j<=ms.length/\g3.zs.length=ms.length/\g3.zs.take g3.i=(ms.take g3.j).filter (ne s.id)/\g3.zs.drop g3.j=ms.drop g3.j) (λg3 kv=>(5,.int .i64 (g3.i:Int))::(6,.int .i64 (g3.j:Int))::kv) (λg3=>zE b1 b bd hd s (aN dE 174 (some ⟨g,0,none⟩) c g3.zs::L)) (λg3=>ms.length - g3.j) (⟨i0,i0+1,ms⟩) J (⟨by dsimp only; omega,by dsimp only; omega,J,by dsimp only; rw [qQ lg,nC,rD.2 eH]; simp [Xp],J⟩) (al) (dc J) ?_
 rintro ⟨i,j,zs⟩ ⟨kA,kB,ga,qt,Pl⟩
 dsimp only at kA kB ga qt Pl ⊢
 refine ar<|aa<|Y J<|Y J<|ab J J (bY J)<|ab J J (bU J J)<|O<|bz J (λj9=> ?_) (λj9=> ?_)
 ·refine az<|ai<|ar<|aX ?_
  obtain ⟨x,hx⟩:∃ x,ms[j]? =some x:=⟨_,cj (by omega)⟩
  obtain ⟨Xv,hkF,tp,Xw⟩:=aea hx kA ga qt Pl
  refine aa<|Y J<|Y J<|f6 J J J (by rw [ga]) (bR.dT bu.g (gp (R:=dE) (t:=174) (A:=some ⟨g,0,none⟩) (c:=c) (xs:=zs) (L:=[]))) (Xv) λFN FO FP t8=> ?_
  have t9:=Xv
  refine kh J J t8 t9 (λ_=>J) λsk F7=> ?_
  simp only [dL,dm]
  refine bB J J λb7=>aE J J<|O<|aa<|Y J<|bD J J ?_
  refine aP b<|g_ b1<|jx J J J ((show Fn _ _ #[nk x sk,bG b1] _ _ from RH x sk)) ?_
  rintro _ _ ⟨rfl,rfl⟩
  refine ab J J (ff J)<|O<|gF J (λkX=> ?_) (λkX=> ?_)
  ·have Xx:ne s.id x=true:=by simpa [ne] using kX
   obtain ⟨y,hy⟩:∃ y,zs[i]? =some y:=⟨_,cj (by omega)⟩
   refine aa<|Y J<|Y J<|bD J J<|ab J J (pS (R:=dE) (xs:=zs) J J ga.symm hy) ?_
   refine z_ (A:=some ⟨g,0,none⟩) (c:=c) (R:=dE) hy λg5 l5 P_ ug=> ?_
   obtain ⟨rfl⟩:g5=g:=by cases P_; rfl
   obtain ⟨a0,a1,a2,a3,a4,a5,a6,a7,a8,a9,P6,P7,a12,P8,P9,rfl⟩:=aju ug
   refine fc J J J J J J ?_
   refine jK (R:=dE) g x (fI sk (sL ⟨slk,slk,slk,slk⟩) F7)<|O<|aQ<|Y J<|ab J J (bE J J (by omega))<|cz 35 J<|ae J<|O<|bA<|ai<|aQ<|Y J<|ab J J (bE J J (by omega))<|cz 21 J<|ae J<|O<|ai ?_
   exact ⟨⟨i+1,j+1,zs.set i x⟩,⟨by dsimp only; omega,by dsimp only; omega,by dsimp only; rw [vW]; exact ga,(Xw Xx).1,(Xw Xx).2⟩,(by dsimp only; omega),bO rfl⟩
  refine az<|bA<|ai<|aQ<|Y J<|ab J J (bE J J (by omega))<|cz 21 J<|ae J<|O<|ai ?_
  exact ⟨⟨i,j+1,zs⟩,⟨by dsimp only; omega,by dsimp only; omega,ga,hkF (by simpa [ne] using kX),tp⟩,(by dsimp only; omega),bO rfl⟩
 refine cw<|aY<|aY<|cu<|ai ?_
 obtain rfl:j=ms.length:=by omega
 rw [Cg] at qt
 refine bR.lens (bR.dT bu.g (gp (R:=dE) (t:=174) (A:=some ⟨g,0,none⟩) (c:=c) (xs:=zs) (L:=[]))) λn3=> ?_
 have ia:(ms.filter (ne s.id)).length=i:=by rw [<- qt,gq]; omega
 refine aa<|Y J<|Y J<|ab J J (EU J J (by omega))<|br 38 (v':=.slice (oI (some ⟨g,0,none⟩) i c dE.sz) (zs.length - i) (c - i)) J (by rw [ga]; simp; rfl)<|Sg (R:=dE) (xs:=zs) (i:=i) (m:=zs.length - i) g c J (by omega) (λh0=>by unfold oI; rw [if_neg (by omega)]; simp [Addr.add]; exact λh=>h.symm) J J ?_
 rw [qt]
 refine O<|aa<|Y J<|Y J<|ab J J (Ii J J (by omega))<|ae J<|O<|av ?_
 rw [ia]
 exact cI J J
open Go Go.Proofs Go.Proofs.Tryz
theorem abf (h:C9 s=some s'):(kM s.m.pr s.m.ac.prom ((eb s.m.lr:Nat):Int)≠0/\s=s')\/(kM s.m.pr s.m.ac.prom ((eb s.m.lr:Nat):Int)=0/\zB s.m (iN s.m.pr s.m.ac.prom ((eb s.m.lr:Nat):Int))/\∃ s1 x m2,ph ⟨{s.m with pr:=iN s.m.pr s.m.ac.prom ((eb s.m.lr:Nat):Int)},s.waits⟩=some s1/\(ku s.m.pr s.m.ac.prom ((eb s.m.lr:Nat):Int))[s1.m.id.toNat]? =some x/\gk [x] s1.m=some m2/\((m2.ac.prom≠s1.m.pr.bj/\s'=⟨{m2 with pr:=kL m2.pr},s1.waits⟩)\/(m2.ac.prom=s1.m.pr.bj/\∃ m3,gk ((ku s.m.pr s.m.ac.prom ((eb s.m.lr:Nat):Int)).filter (ne m2.id)) m2=some m3/\s'=⟨m3,s1.waits⟩))):=by
 unfold C9 at h
 split at h
 ·rename_i hz; exact .inl ⟨hz,ez h⟩
 ·rename_i hz
  split at h
  ·cases h
  ·rename_i ho
   obtain ⟨s1,h1,h2⟩:=fK.1 h
   split at h2
   ·cases h2
   ·rename_i x hx
    obtain ⟨m2,h3,h4⟩:=fK.1 h2
    refine .inr ⟨eX.1 hz,eX.1 ho,s1,x,m2,h1,hx,h3, ?_⟩
    split at h4
    ·rename_i hb; exact .inl ⟨hb,(ez h4).symm⟩
    ·rename_i hb
     obtain ⟨m3,h5,h6⟩:=iq.1 h4
     exact .inr ⟨eX.1 hb,m3,h5,h6.symm⟩
theorem aeb {p:PP} {f:Int × Int} {sl:Int} (h:kM p f sl≠0):iN p f sl=p:=by unfold iN; rw [if_neg h]
theorem Z3 (h:C9 s=some s'):Fn prog 44 #[bG b] (nd b bd s::L) (λv L'=>v=.tuple #[]/\L'=nd b bd s'::L):=by
 have hw:=abf h
 refine aH func44 J J J J<|aa<|bS J J J λb1=>O<|ar ?_
 refine cQ b<|jM λA cc=>aa<|ax J J<|aB J J (K1)<|aV 6 (.bool true) J<|ab J J (df J)<|O<|aT J<|az<|ai<|fU λp hi=>bW (cells b1 [bG b] 40::cells b (dw (.slice A s.waits.length cc) s.m p) 100::[]) [] [0,2,4,6,8,10,12,14,18,20,22,24,17,27,29,30,32,34,36,38] (by kernel_rfl) al<|aG J J J<|aL J J<|aw J J<|aG J J J<|aG J J J<|aL J J<|aw J J<|aG J J J<|aG J J J<|aL J J<|aw J J<|aG J J J<|an J ?_
 refine aP p.bv<|aB J J (Kq)<|au<|an J ?_
 refine aP p.bl<|aB J J (uE)<|au<|an J ?_
 refine aP p.bp<|aJ J J (ZM s.m.ac.prom ((eb s.m.lr:Nat):Int)) ?_
 rintro _ _ ⟨xp,xq,rfl,rfl⟩
 refine au<|aq J J<|ak J J (aO J J)<|ak J J (aO J J)<|ak J J (bT J)<|ak J J (bT J)<|aR<|ar<|aa<|Y J<|ab J J (dB J J)<|O<|bz J (λtu=> ?_) (λtu=> ?_)
 ·obtain rfl:s=s':=hw.elim (λh0=>h0.2) (λh0=>absurd h0.1 tu)
  rw [aeb tu]
  refine av<|aU ?_
  refine aF.ay (dg b bd (.slice A s.waits.length cc) s.m p hi) ?_
  exact aF.ay (fp b bd s.m s.waits A cc)<|kR J
 refine az<|ai ?_
 obtain ⟨Gb,s1,x,m2,dt,xJ,eF,By⟩:=(hw.resolve_left (λh0=>tu h0.1)).2
 refine aa<|ax J J<|aS J<|ao J<|ax J J ?_
 refine aP p.ny<|aB J J (KE)<|O<|aa<|ax J J ?_
 refine bX (dg b bd (.slice A s.waits.length cc) {s.m with pr:=iN s.m.pr s.m.ac.prom ((eb s.m.lr:Nat):Int)} p ⟨hi.nodes,hi.id,hi.now,hi.mA,Gb,hi.dn,hi.px,hi.base⟩) ?_
 refine bX (fp b bd {s.m with pr:=iN s.m.pr s.m.ac.prom ((eb s.m.lr:Nat):Int)} s.waits A cc)<|aB J J (zU dt)<|O ?_
 refine cQ b<|jM λA2 iz=>fU λp2 dW=>aa<|ax J J<|aS J<|ao J<|ax J J ?_
 refine aP p2.bp<|aB J J (YX)<|bB J J λb4=>aE J J<|O<|bW (cells b1 [bG b] 40::cells b (dw (.slice A2 s1.waits.length iz) s1.m p2) 100::[]) [9] [0,2,4,6,8,10,13,15,17,19] (by kernel_rfl) al<|aG J J J<|aq J J<|aG J J J<|aL J J<|aw J J<|aG J J J<|er 45 (v':=.int .i64 ((s1.m.id.toNat:Nat):Int)) J (by have:=dW.id; congr 1; omega)<|an J<|f6 J J J (J) (bR.dT bu.g (gp (R:=dE) (t:=174) (A:=xp) (c:=xq) (xs:=ku s.m.pr s.m.ac.prom ((eb s.m.lr:Nat):Int)) (L:=[]))) (xJ) λaj8 aj9 aj_ Or=> ?_
 have Ot:=xJ
 refine au<|an J<|kh J J Or Ot (λ_=>J) λp47 ak7=> ?_
 simp only [dL,dm]
 refine au<|an J<|ef J J J J J J λb48=> ?_
 refine eh (k:=1) dE [x] (sM p47 ⟨slk,slk,slk,slk⟩ ak7) J (by decide)<|bF<|aV 48 (.slice (some ⟨b48,0,none⟩) [x].length 1) J<|au<|an J ?_
 refine bX (dg b bd (.slice A2 s1.waits.length iz) s1.m p2 dW)<|aB J J (rF slk eF)<|gZ J<|aR<|ar ?_
 rcases By with ⟨hb,rfl⟩ | ⟨hb,m3,qr,rfl⟩
 ·refine cQ b<|fU λp3 mW=>bW (cells b1 [bG b] 40::cells b (dw (.slice A2 s1.waits.length iz) m2 p3) 100::cells b4 [.int .i64 s1.m.pr.bj.1,.int .i64 s1.m.pr.bj.2] 171::[]) [] [0,2,4,6,10,9,12] (by kernel_rfl) al<|aG J J J<|aL J J<|aw J J<|aG J J J<|cf J J J<|an J ?_
  refine aP p3.bv<|aB J J (Kq)<|au<|ak J J (ot (a:=m2.ac.prom) (b:=s1.m.pr.bj) J J)<|er 56 (v':=.bool true) J (bi Value.bool (by rw [cJ hb]; rfl))<|aR<|cg J<|aa<|ax J J<|aS J<|ao J<|ax J J ?_
  refine aP p3.bp<|aB J J (Cr)<|O<|av<|aU ?_
  refine aF.ay (dg b bd (.slice A2 s1.waits.length iz) {m2 with pr:=kL m2.pr} p3 (mW.same J J J J ⟨J,J⟩ ⟨J,J⟩ J)) ?_
  exact aF.ay (fp b bd {m2 with pr:=kL m2.pr} s1.waits A2 iz)<|kR J
 refine cQ b<|fU λp3 mW=>bW (cells b1 [bG b] 40::cells b (dw (.slice A2 s1.waits.length iz) m2 p3) 100::cells b4 [.int .i64 s1.m.pr.bj.1,.int .i64 s1.m.pr.bj.2] 171::[]) [] [0,2,4,6,10,9,12] (by kernel_rfl) al<|aG J J J<|aL J J<|aw J J<|aG J J J<|cf J J J<|an J ?_
 refine aP p3.bv<|aB J J (Kq)<|au<|ak J J (ot (a:=m2.ac.prom) (b:=s1.m.pr.bj) J J)<|er 56 (v':=.bool false) J (bi Value.bool (by rw [dV hb]; rfl))<|aR<|aT J<|az<|ai ?_
 refine b_ (dg b bd (.slice A2 s1.waits.length iz) m2 p3 mW)<|i5 (cells b1 [bG b] 40::[]) [] [0,2,4,7,9] (by kernel_rfl) al<|aG J J J<|aq J J<|ak J J (gy J J)<|an J<|LV xp xq ?_
 refine aP b<|g_ b1<|aB J J (acO)<|LV xp xq<|bF<|au<|an J ?_
 refine aP b<|aB J J (rF slk qr)<|au<|aR ?_
 exact aF.ay (fp b bd m3 s1.waits A2 iz)<|ei J
section
variable {r:Option Nat} {n:Nat} {P:Program} {Q:Exit->St->Prop} {D:List Deferred} {E:cZ} {L L':List HP} {α:Type} {R:bZ α} {te:TypeId} {xs:List α}
theorem afH (A:Option Addr) (c:Nat) {k:Code} [h:md L A c α R te xs L'] (hh:T r n P k ⟨D,E,aN R te A c xs::L'⟩ Q):T r n P k ⟨D,E,L⟩ Q:=b_ h.g hh
theorem T8 {p:Prop} {ops:Array Oper} {rest:List Oper} (h:p->TL r n P ops rest ⟨D,E,L⟩ K):TL r n P ops rest ⟨D,E,pure p::L⟩ K:=λW a w hh=>by
 obtain ⟨hp,hs⟩:=HO hh.2
 exact h hp W a w ⟨hh.1,hs⟩
theorem CZ {p:Prop} {k:Code} (h:p->T r n P k ⟨D,E,L⟩ Q):T r n P k ⟨D,E,pure p::L⟩ Q:=λW a w hh=>by
 obtain ⟨hp,hs⟩:=HO hh.2
 exact h hp W a w ⟨hh.1,hs⟩
end
theorem Sh {l:List jl} {out o:List jl} (h:uR (.gh m::l) s out=some (s',o)):(m.cH=s.m.id/\iP m<=nY/\∃ s1,zC s m=some s1/\uR l s1 out=some (s',o))\/(m.cH≠s.m.id/\uR l s (out++[.gh m])=some (s',o)):=by
 unfold uR at h
 split at h
 ·rename_i ht
  split at h
  ·cases h
  ·rename_i hb
   obtain ⟨s1,h1,h2⟩:=fK.1 h
   exact .inl ⟨ht,by omega,s1,h1,h2⟩
 ·rename_i ht; exact .inr ⟨ht,h⟩
structure ak8 where
 i:Nat
 s:dD
 out:List jl
 A:Option Addr
 c:Nat
set_option maxHeartbeats 1000000 in
theorem Z4 {o:List jl} (h:Fb s=some (s',o)):Fn prog 100 #[bG b] (nd b bd s::L) (λv L'=>∃ A c,v=.tuple #[.slice A o.length c,.int .i64 0]/\L'=aN iw 196 A c o::nd b bd s'::L):=by
 unfold Fb at h
 rw [Option.ite_none_right_eq_some] at h
 obtain ⟨eP,h⟩:=h
 refine aH func100 J J J J<|jM λA cc=>fU λp hi=>aa<|ae J<|ae J<|O<|ar<|aa<|Y J<|g_ b<|aB J J (wi)<|aV 10 (.bool true) J<|ab J J (df J)<|O<|aT J<|az<|ai<|ar<|aa<|Y J<|aS J<|ao J<|ax J J ?_
 refine aP p.bs<|aB J J (aaS)<|ae J<|O<|aa<|Y J<|ab J J (dB J J)<|br 18 (v':=.bool false) J (bi Value.bool (by decide))<|O<|aT J<|az<|ai<|aa<|Y J<|aS J<|ao J<|ax J J<|ae J<|O<|aa<|Y J<|aS J<|ao J<|aE J J<|O<|afH p.H p.ch<|uF ?_
 refine b_ (du iw 196 none _) ?_
 refine b_ (dg b bd (.slice A s.waits.length cc) {s.m with held:=[]} {p with H:=none,ch:=0} (hi.same J J J J ⟨J,J⟩ ⟨J,J⟩ J)) ?_
 refine b_ (fp b bd {s.m with held:=[]} s.waits A cc)<|aa<|ae J<|O<|ar<|aa<|Y J<|ab J J (bY J)<|Y J<|O<|aX<|cY (σ:=ak8) [0,27,28] (λg=>g.i<=s.m.held.length/\g.out.length<=g.i/\uR (s.m.held.drop g.i) g.s g.out=some (s',o)) (λg kv=>(29,.int .i64 (g.i:Int))::(6,.slice g.A g.out.length g.c)::kv) (λg=>aN iw 196 g.A g.c g.out::nd b bd g.s::sl iw p.H p.ch s.m.held::L) (λg=>s.m.held.length - g.i) (⟨0,⟨{s.m with held:=[]},s.waits⟩,[],none,0⟩) J (⟨dF _,fo _,h⟩) ((du iw 196 none _).trans (am.cons _ al)) (dc J) ?_
 rintro ⟨i,s1,out,A1,c1⟩ ⟨eG,xh,dt⟩
 dsimp only at eG xh dt ⊢
 refine aa<|ab J J (bU J J)<|O<|ar<|bz J (λoU=> ?_) (λoU=> ?_)
 ·obtain ⟨x,hx⟩:∃ x,s.m.held[i]? =some x:=⟨_,cj (by omega)⟩
  rw [yp hx] at dt
  refine az<|ai<|ar<|aX ?_
  rcases x with m | a
  ·refine gr (bJ (A:=p.H) (c:=p.ch) (R:=iw)) hx λbq oq eq=> ?_
   rw [eq]
   refine aa<|f6 J J J (J) ((bJ (A:=some ⟨bq,oq,none⟩) (c:=p.ch) (R:=iw))) (hx) λak9 ak_ ak' OG=> ?_
   have OH:=hx
   refine kh J J OG OH (λ_=>J) λGV Jk=> ?_
   simp only [dL,dm]
   simp only [F1,dL,dm]
   refine bB J J λb8=>aE J J<|O<|ar ?_
   refine cQ b<|jM λA2 iz=>fU λp2 dW=>bW (cells b (dw (.slice A2 s1.waits.length iz) s1.m p2) 100::[]) [] [0,3,4,6,8,10,14,16,18,20,13,22,24] (by kernel_rfl) al<|aw J J<|an J<|ax J J<|aV 34 (.bool false) J<|au<|ak J J (ff J)<|oH 35 (.bool true) J<|aq J J<|aC J J (dp J)<|aC J J (dp J)<|aC J J (cU J)<|aC J J (gc J)<|aC J J (dp J)<|aC J J (dY J J)<|an J<|aj J<|ax J J<|au<|aC J J (ce J J)<|ak J J (d9 J J)<|aR<|bz J (λxr=> ?_) (λxr=> ?_)
   ·obtain ⟨PO,s2,qw,ia⟩:=((Sh dt).resolve_right (λh0=>h0.1 xr)).2
    refine b_ (dg b bd (.slice A2 s1.waits.length iz) s1.m p2 dW) ?_
    refine b_ (fp b bd s1.m s1.waits A2 iz)<|aa<|Y J<|ao J<|bD J J<|aV 48 (nk m GV.m) J<|aB J J (Tg (s:=⟨s1.m,s1.waits⟩) m GV.m Jk ⟨slk,slk,slk,slk⟩ PO qw)<|O<|cw<|aY<|cu<|ai<|aQ<|ab J J (bE J J (by omega))<|cz 54 J<|Y J<|O<|ai ?_
    exact ⟨⟨i+1,s2,out,A1,c1⟩,⟨by dsimp only; omega,by dsimp only; omega,ia⟩,(by dsimp only; omega),bO rfl⟩
   refine az<|ai ?_
   have ia:=((Sh dt).resolve_left (λh0=>xr h0.1)).2
   refine aQ<|Y J<|bD J J<|ef J J J J J J λP'=> ?_
   refine eh (k:=1) iw [.gh m] (EP GV.m ⟨slk,slk,slk,slk⟩ Jk) J (by decide)<|bF<|aV 52 (.slice (some ⟨P',0,none⟩) [jl.gh m].length 1) J ?_
   refine fi J J J J J slk (by simp only [dO,ej]; omega) λQa Qb=>ae J<|O<|bA<|ai<|aQ<|ab J J (bE J J (by omega))<|cz 54 J<|Y J<|O<|ai ?_
   exact ⟨⟨i+1,s1,out++[.gh m],Qa,Qb⟩,⟨by dsimp only; omega,by simp; omega,ia⟩,(by dsimp only; omega),iY (dC rfl (dC rfl (dC rfl (dC rfl (dC rfl (iM)))))) ((dg b bd (.slice A2 s1.waits.length iz) s1.m p2 dW).trans ((fp b bd s1.m s1.waits A2 iz).trans al))⟩
  refine gr (bJ (A:=p.H) (c:=p.ch) (R:=iw)) hx λbq oq eq=> ?_
  rw [eq]
  refine aa<|f6 J J J (J) ((bJ (A:=some ⟨bq,oq,none⟩) (c:=p.ch) (R:=iw))) (hx) λak9 ak_ ak' OG=> ?_
  have OH:=hx
  refine kh J J OG OH (λ_=>J) λGV Jk=> ?_
  simp only [dL,dm]
  simp only [F1,Bw,dL,dm]
  refine wo 1 J<|T8 λjp=>bB J J λb8=>aE J J<|O<|ar ?_
  refine cQ b<|jM λA2 iz=>fU λp2 dW=>bW (cells b (dw (.slice A2 s1.waits.length iz) s1.m p2) 100::[]) [] [0,3,4,6,8,10,14,16,18,20,13,22,24] (by kernel_rfl) al<|aw J J<|an J<|ax J J<|aV 34 (.bool true) J<|au<|ak J J (ff J)<|oH 35 (.bool false) J<|aq J J<|aD J J<|aD J J<|aD J J<|aD J J<|aD J J<|aD J J<|an J<|ah J<|au<|aD J J<|ak J J (dG J J)<|aR<|aT J<|az<|ai ?_
  have ia:uR (s.m.held.drop (i+1)) s1 (out++[.dR a])=some (s',o):=dt
  refine aQ<|Y J<|bD J J<|ef J J J J J J λP'=> ?_
  refine eh (k:=1) iw [.dR a] (UO GV.a (nN ⟨slk,jp,slk,slk⟩) Jk) J (by decide)<|bF<|aV 52 (.slice (some ⟨P',0,none⟩) [jl.dR a].length 1) J ?_
  refine fi J J J J J slk (by simp only [dO,ej]; omega) λQa Qb=>ae J<|O<|bA<|ai<|aQ<|ab J J (bE J J (by omega))<|cz 54 J<|Y J<|O<|ai ?_
  exact ⟨⟨i+1,s1,out++[.dR a],Qa,Qb⟩,⟨by dsimp only; omega,by simp; omega,ia⟩,(by dsimp only; omega),iY (dC rfl (dC rfl (dC rfl (dC rfl (dC rfl (iM)))))) ((dg b bd (.slice A2 s1.waits.length iz) s1.m p2 dW).trans ((fp b bd s1.m s1.waits A2 iz).trans al))⟩
 refine cw<|aY<|aY<|cu<|ai<|aa<|Y J<|ae J<|ae J<|O<|av ?_
 obtain rfl:i=s.m.held.length:=by omega
 rw [xV] at dt
 obtain ⟨rfl,rfl⟩:=jY (ez dt)
 exact eS J J J al (⟨A1,c1,J,J⟩)
open Go Go.Proofs Go.Proofs.Tryz
abbrev F8 (n:Int):Value:=.agg #[.int .i64 n,.int .i64 100,.int .i64 0,.int .i64 1048576,.int .i64 16777216]
theorem Eo (n a b:Int) (L:List HP):Fn prog 24 #[.int .i64 n,.int .i64 a,.int .i64 b] L (λv L'=>v=.bool (decide (a<=n/\n<=b))/\L'=L):=by
 refine aH func24 J J J J<|aa<|ae J<|O<|aa<|Y J<|Y J<|ab J J (eV J J)<|jJ 5 14 (a<=n/\n<=b) ?_ ?_
 ·refine Y J<|dl 10 J (λf0=> ?_) (λf0=> ?_)
  ·refine aj J<|Y J<|aj J<|Y J<|aj J<|ab J J (sX J J)<|aA J<|dH J ?_ (by repeat (first | exact dI | refine dJ rfl ?_)) al
   exact bi Value.bool (gX.2 (by omega))
  refine ah J<|ah J<|ah J<|aA J<|dH J ?_ (by repeat (first | exact dI | refine dJ rfl ?_)) al
  exact bi Value.bool (cJ (by omega)).symm
 exact ae J<|O<|av<|cI J J
theorem Re (n:Int) (h:1<=n/\n<=7) (L:List HP):Fn prog 11 #[F8 n] L (λv L'=>v=.int .i64 0/\L'=L):=by
 refine aH func11 J J J J<|aa<|bS J J J λb1=>ae J<|O<|aa<|ae J<|O<|ar<|aa<|Y J<|ao J<|ax J J<|jx J J J ((show Fn _ _ #[.int .i64 n,.int .i64 1,.int .i64 7] _ _ from Eo n 1 7 _)) ?_
 rintro _ _ ⟨rfl,rfl⟩
 refine fd 7 J h<|ab J J (df J)<|Y J<|aj J<|Y J<|aj J<|ao J<|aj J<|ax J J<|aj J<|jx J J J ((show Fn _ _ #[.int .i64 100,.int .i64 1,.int .i64 1048576] _ _ from Eo 100 1 1048576 _)) ?_
 rintro _ _ ⟨rfl,rfl⟩
 refine br 13 (v':=.bool true) J (bi Value.bool (by decide))<|aj J<|ab J J (df J)<|aA J<|Y J<|aj J<|Y J<|aj J<|ao J<|aj J<|ax J J<|aj J<|jx J J J ((show Fn _ _ #[.int .i64 0,.int .i64 0,.int .i64 999] _ _ from Eo 0 0 999 _)) ?_
 rintro _ _ ⟨rfl,rfl⟩
 refine br 20 (v':=.bool true) J (bi Value.bool (by decide))<|aj J<|ab J J (df J)<|aA J<|Y J<|aj J<|Y J<|aj J<|ao J<|aj J<|ax J J<|aj J<|jx J J J ((show Fn _ _ #[.int .i64 1048576,.int .i64 1,.int .i64 1048576] _ _ from Eo 1048576 1 1048576 _)) ?_
 rintro _ _ ⟨rfl,rfl⟩
 refine br 27 (v':=.bool true) J (bi Value.bool (by decide))<|aj J<|ab J J (df J)<|aA J<|Y J<|aj J<|Y J<|aj J<|ao J<|aj J<|ax J J<|aj J<|jx J J J ((show Fn _ _ #[.int .i64 16777216,.int .i64 0,.int .i64 268435456] _ _ from Eo 16777216 0 268435456 _)) ?_
 rintro _ _ ⟨rfl,rfl⟩
 exact br 34 (v':=.bool true) J (bi Value.bool (by decide))<|aj J<|ab J J (df J)<|aA J<|O<|aT J<|az<|ai<|aa<|ae J<|O<|av<|cI J J
structure Xy where
 bc:Nat
 bv:Nat
 bp:Nat
 bl:Nat
 bo:Nat
 ny:Nat
 bh:Nat
 bm:Nat
abbrev emC (n id now:Int) (st:Value) (p:Xy):List Value:=[.int .i64 n,.int .i64 100,.int .i64 0,.int .i64 1048576,.int .i64 16777216,.int .i64 id,.int .i64 now,st,bG p.bc,bG p.bv,bG p.bp,bG p.bl,bG p.bo,bG p.ny,bG p.bh,.int .i64 0,.map (some p.bm),.slice none 0 0,.slice none 0 0]
abbrev Xz (b:Nat) (n id now:Int) (st:Value) (p:Xy) (L:List HP):List HP:=cells b (emC n id now st p) 100::rp p.bc id (List.replicate 7 []) [] []::ac p.bv (AL id)::pr p.bp (oz id n)::lr p.bl []::sm p.bo ⟨[],0⟩::le p.ny n.toNat::cells p.bh (tq (0,0) 0) 236::cy gB bK true p.bm []::L
theorem Z5 (n id now:Int) (hn:1<=n/\n<=7) (hi:0<=id/\id < n) (L:List HP):Fn prog 60 #[F8 n,.int .i64 id,.int .i64 now] L (λv L'=>∃ b p,v=bG b/\L'=Xz b n id now (.pointer none) p L):=by
 refine aH func60 J J J J<|aa<|bS J J J λb3=>ae J<|O<|iQ (by kernel_rfl)<|fq 3 5 (by decide) ?_ ?_
 ·refine fq 4 5 (by decide) ?_ ?_
  ·refine dN (cells b3 [.int .i64 n,.int .i64 100,.int .i64 0,.int .i64 1048576,.int .i64 16777216] 28::[]) [] [0,2,4,7,9,11,12,15,16] (by kernel_rfl) al<|cf J J J<|aq J J<|aq J J<|an J<|aJ J J (Lk _) ?_
   rintro _ _ ⟨bl,rfl,rfl⟩
   refine au<|an J<|aJ J J (KD _) ?_
   rintro _ _ ⟨bo,rfl,rfl⟩
   refine au<|an J<|o7 gB bK true J λbm=>au<|ak J J (bI J J)<|an J<|bS J J J λBJ=>au<|ak J J (bT J)<|aR<|ai<|aa<|Y J<|Y J<|aJ J J (Lq id (by omega) _) ?_
   rintro _ _ ⟨bc,rfl,rfl⟩
   refine Y J<|ab J J (aO J J)<|ab J J (aO J J)<|aS J<|ao J<|aE J J<|O<|aa<|Y J<|Y J<|aJ J J (MB id (by omega) _) ?_
   rintro _ _ ⟨bv,rfl,rfl⟩
   refine Y J<|ab J J (aO J J)<|ab J J (aO J J)<|aS J<|ao J<|aE J J<|O<|aa<|Y J<|Y J<|ao J<|ax J J<|aJ J J (MD hn hi _) ?_
   rintro _ _ ⟨bp,rfl,rfl⟩
   refine Y J<|ab J J (aO J J)<|ab J J (aO J J)<|aS J<|ao J<|aE J J<|O<|aa<|Y J<|ao J<|ax J J<|ao J<|ax J J<|ao J<|ax J J<|br 45 (v':=.int .i64 ((n.toNat:Nat):Int)) J (by congr 1; omega)<|aJ J J (Lo n.toNat 100 0 (by omega) (by decide) (by decide) _) ?_
   rintro _ _ ⟨ny,rfl,rfl⟩
   refine Y J<|ab J J (aO J J)<|ab J J (aO J J)<|aS J<|ao J<|aE J J<|O<|aa<|Y J<|ao J<|ax J J<|aJ J J (Lp _) ?_
   rintro _ _ ⟨bh,rfl,rfl⟩
   exact Y J<|ab J J (aO J J)<|ab J J (aO J J)<|aS J<|ao J<|aE J J<|O<|aa<|Y J<|ae J<|O<|av<|aZ J J al (⟨BJ,⟨bc,bv,bp,bl,bo,ny,bh,bm⟩,J,J⟩)
  refine dN (cells b3 [.int .i64 n,.int .i64 100,.int .i64 0,.int .i64 1048576,.int .i64 16777216] 28::[]) [] [0,2,4,7,11,9,12,15,16] (by kernel_rfl) al<|cf J J J<|aq J J<|aq J J<|an J<|aJ J J (Lk _) ?_
  rintro _ _ ⟨bl,rfl,rfl⟩
  refine au<|an J<|o7 gB bK true J λbm=>au<|an J<|aJ J J (KD _) ?_
  rintro _ _ ⟨bo,rfl,rfl⟩
  refine au<|ak J J (bI J J)<|an J<|bS J J J λBJ=>au<|ak J J (bT J)<|aR<|ai<|aa<|Y J<|Y J<|aJ J J (Lq id (by omega) _) ?_
  rintro _ _ ⟨bc,rfl,rfl⟩
  refine Y J<|ab J J (aO J J)<|ab J J (aO J J)<|aS J<|ao J<|aE J J<|O<|aa<|Y J<|Y J<|aJ J J (MB id (by omega) _) ?_
  rintro _ _ ⟨bv,rfl,rfl⟩
  refine Y J<|ab J J (aO J J)<|ab J J (aO J J)<|aS J<|ao J<|aE J J<|O<|aa<|Y J<|Y J<|ao J<|ax J J<|aJ J J (MD hn hi _) ?_
  rintro _ _ ⟨bp,rfl,rfl⟩
  refine Y J<|ab J J (aO J J)<|ab J J (aO J J)<|aS J<|ao J<|aE J J<|O<|aa<|Y J<|ao J<|ax J J<|ao J<|ax J J<|ao J<|ax J J<|br 45 (v':=.int .i64 ((n.toNat:Nat):Int)) J (by congr 1; omega)<|aJ J J (Lo n.toNat 100 0 (by omega) (by decide) (by decide) _) ?_
  rintro _ _ ⟨ny,rfl,rfl⟩
  refine Y J<|ab J J (aO J J)<|ab J J (aO J J)<|aS J<|ao J<|aE J J<|O<|aa<|Y J<|ao J<|ax J J<|aJ J J (Lp _) ?_
  rintro _ _ ⟨bh,rfl,rfl⟩
  exact Y J<|ab J J (aO J J)<|ab J J (aO J J)<|aS J<|ao J<|aE J J<|O<|aa<|Y J<|ae J<|O<|av<|aZ J J al (⟨BJ,⟨bc,bv,bp,bl,bo,ny,bh,bm⟩,J,J⟩)
 refine dN (cells b3 [.int .i64 n,.int .i64 100,.int .i64 0,.int .i64 1048576,.int .i64 16777216] 28::[]) [] [0,2,4,11,7,9,12,15,16] (by kernel_rfl) al<|cf J J J<|aq J J<|aq J J<|an J<|o7 gB bK true J λbm=>au<|an J<|aJ J J (Lk _) ?_
 rintro _ _ ⟨bl,rfl,rfl⟩
 refine au<|an J<|aJ J J (KD _) ?_
 rintro _ _ ⟨bo,rfl,rfl⟩
 refine au<|ak J J (bI J J)<|an J<|bS J J J λBJ=>au<|ak J J (bT J)<|aR<|ai<|aa<|Y J<|Y J<|aJ J J (Lq id (by omega) _) ?_
 rintro _ _ ⟨bc,rfl,rfl⟩
 refine Y J<|ab J J (aO J J)<|ab J J (aO J J)<|aS J<|ao J<|aE J J<|O<|aa<|Y J<|Y J<|aJ J J (MB id (by omega) _) ?_
 rintro _ _ ⟨bv,rfl,rfl⟩
 refine Y J<|ab J J (aO J J)<|ab J J (aO J J)<|aS J<|ao J<|aE J J<|O<|aa<|Y J<|Y J<|ao J<|ax J J<|aJ J J (MD hn hi _) ?_
 rintro _ _ ⟨bp,rfl,rfl⟩
 refine Y J<|ab J J (aO J J)<|ab J J (aO J J)<|aS J<|ao J<|aE J J<|O<|aa<|Y J<|ao J<|ax J J<|ao J<|ax J J<|ao J<|ax J J<|br 45 (v':=.int .i64 ((n.toNat:Nat):Int)) J (by congr 1; omega)<|aJ J J (Lo n.toNat 100 0 (by omega) (by decide) (by decide) _) ?_
 rintro _ _ ⟨ny,rfl,rfl⟩
 refine Y J<|ab J J (aO J J)<|ab J J (aO J J)<|aS J<|ao J<|aE J J<|O<|aa<|Y J<|ao J<|ax J J<|aJ J J (Lp _) ?_
 rintro _ _ ⟨bh,rfl,rfl⟩
 exact Y J<|ab J J (aO J J)<|ab J J (aO J J)<|aS J<|ao J<|aE J J<|O<|aa<|Y J<|ae J<|O<|av<|aZ J J al (⟨BJ,⟨bc,bv,bp,bl,bo,ny,bh,bm⟩,J,J⟩)
theorem aec {n id now:Int} (hn:1<=n/\n<=7) (hi:0<=id/\id < n) (hw:0<=now/\now<=1152921504606846976):NI (nL n id now).m:=⟨hn,hi,hw,rfl,⟨rfl,rfl⟩,⟨qJ 0,show (0:Int)<=60000 by decide⟩,show ((eb ([]:List gG):Nat):Int)<=60000 by decide,iy⟩
variable{bt:Nat}
theorem Si (n id now:Int) (hn:1<=n/\n<=7) (hi:0<=id/\id < n) (hw:0<=now/\now<=1152921504606846976):Fn prog 28 #[F8 n,.int .i64 id,.pointer (some ⟨bd,0,none⟩),.int .i64 now] (dk bd bt (j3 16777216)::L) (λv L'=>∃ b,v=.tuple #[bG b,.int .i64 0]/\L'=nd b bd (nL n id now)::L):=by
 refine aH func28 J J J J<|aa<|bS J J J λb4=>ae J<|ae J<|O<|ar<|aa<|bD J J<|aB J J (Re n hn _)<|ab J J (dB J J)<|br 23 (v':=.bool false) J (bi Value.bool (by decide))<|Y J<|aj J<|Y J<|aj J<|ab J J (bU J J)<|dx 26 J (by omega)<|aA J<|Y J<|aj J<|Y J<|aj J<|ao J<|aj J<|ax J J<|aj J<|ab J J (eV J J)<|dx 32 J (by omega)<|aA J<|Y J<|aj J<|Y J<|aj J<|ab J J (fR J J (dh.eJ))<|br 36 (v':=.bool false) J (bi Value.bool (by simp))<|aA J<|Y J<|aj J<|Y J<|aj J<|ab J J (bU J J)<|dx 40 J (by omega)<|aA J<|Y J<|aj J<|Y J<|aj J<|ab J J (eE J J)<|dx 44 J (by omega)<|aA J<|O<|aT J<|az<|ai<|aa<|Y J<|ao J<|ax J J<|aP bd<|aJ J J (aaU) ?_
 rintro _ _ ⟨bs,Ar,cr,rfl,rfl⟩
 refine Y J<|ab J J (aO J J)<|ab J J (aO J J)<|ab J J (aO J J)<|ab J J (aO J J)<|ae J<|ae J<|ae J<|ae J<|O<|ar<|aa<|Y J<|ab J J (dB J J)<|br 56 (v':=.bool false) J (bi Value.bool (by decide))<|O<|aT J<|az<|ai<|aa<|bD J J<|Y J<|Y J<|aJ J J (Z5 n id now hn hi _) ?_
 rintro _ _ ⟨b,p,rfl,rfl⟩
 exact ae J<|O<|aa<|Y J<|Y J<|aS J<|ao J<|aE J J<|O<|ar<|aa<|Y J<|ab J J (yh J J)<|br 67 (v':=.bool false) J (bi Value.bool (by decide))<|O<|aT J<|az<|ai<|ar<|aa<|Y J<|ab J J (bY J)<|Y J<|O<|aX<|cY (σ:=Unit) [3,12,14,89,90] (λg=>True) (λg kv=>(91,.int .i64 0)::kv) (λg=>Xz b n id now (bG bs) p (st bs bd 0 0::L)) (λg=>0) (()) J (trivial) (al) (dc J) λg hg=>aa<|ab J J (bU J J)<|O<|ar<|ir J (by decide)<|cw<|aY<|aY<|cu<|ai<|ar<|aa<|Y J<|ab J J (bY J)<|ab J J (eE J J)<|br 101 (v':=.bool false) J (bi Value.bool (by decide))<|O<|aT J<|az<|ai<|b_ (du iw 196 none _)<|b_ (dg b bd (.slice none 0 0) (nL n id now).m ⟨bs,p.bc,p.bv,p.bp,p.bl,p.bo,p.ny,p.bh,p.bm,none,0⟩ (aec hn hi hw))<|aa<|Y J<|aB J J (Rb (k:=1) (s':=(nL n id now).m) (by unfold mc; rw [if_neg (show ¬ ((0:Int) < ((eb ([]:List gG):Nat):Int)) by decide)]))<|O<|aa<|Y J<|ae J<|ae J<|O<|av<|aF.ay (du fa 290 none _)<|aF.ay (fp b bd (nL n id now).m [] none 0)<|eS J J J al (⟨b,J,J⟩)
theorem QR:Fn prog 10 #[bG b] (nd b bd s::L) (λv L'=>∃ A c,v=.slice A s.m.by_.flatten.length c/\L'=aN bK 49 A c s.m.by_.flatten::nd b bd s::L):=by
 refine aH func10 J J J J<|jM λA cc=>fU λp hi=>aa<|ae J<|O<|ar<|aa<|Y J<|g_ b<|aB J J (wi)<|aV 4 (.bool true) J<|ab J J (df J)<|O<|aT J<|az<|ai<|aa<|Y J<|aS J<|ao J<|ax J J<|aP p.bc<|aJ J J (ZD) ?_
 rintro _ _ ⟨np,nq,rfl,rfl⟩
 exact ae J<|O<|av<|aF.ay (dg b bd (.slice A s.waits.length cc) s.m p hi)<|aF.ay (fp b bd s.m s.waits A cc)<|aZ J J al (⟨np,nq,J,J⟩)
theorem QH:Fn prog 70 #[bG b] (nd b bd s::L) (λv L'=>∃ A c,v=.slice A (dK s.m.ap).length c/\L'=aN (aI .i64) 3 A c (dK s.m.ap)::nd b bd s::L):=by
 refine aH func70 J J J J<|jM λA cc=>fU λp hi=>aa<|ae J<|O<|ar<|aa<|Y J<|g_ b<|aB J J (wi)<|aV 4 (.bool true) J<|ab J J (df J)<|O<|aT J<|az<|ai<|aa<|Y J<|aS J<|ao J<|ax J J<|aP p.bc<|aJ J J (vX) ?_
 rintro _ _ ⟨np,nq,rfl,rfl⟩
 exact ae J<|O<|av<|aF.ay (dg b bd (.slice A s.waits.length cc) s.m p hi)<|aF.ay (fp b bd s.m s.waits A cc)<|aZ J J al (⟨np,nq,J,J⟩)
theorem Z6:Fn prog 67 #[bG b] (nd b bd s::L) (λv L'=>v=.int .i64 s.m.pr.phase/\L'=nd b bd s::L):=by
 exact aH func67 J J J J<|jM λA cc=>fU λp hi=>aa<|ae J<|O<|ar<|aa<|Y J<|g_ b<|aB J J (wi)<|aV 4 (.bool true) J<|ab J J (df J)<|O<|aT J<|az<|ai<|aa<|Y J<|aS J<|ao J<|ax J J<|aP p.bp<|aB J J (Q6)<|ae J<|O<|av<|aF.ay (dg b bd (.slice A s.waits.length cc) s.m p hi)<|aF.ay (fp b bd s.m s.waits A cc)<|cI J J
open Go Go.Proofs
structure im where
 id:Int
 bC:Int
 cH:Int
 body:ByteArray
abbrev AY (p:im):List Value:=[.int .i64 p.id,.int .i64 p.bC,.int .i64 p.cH,.string p.body]
abbrev sV (p:im):Value:=.agg (List.toArray (AY p))
def yC (p:im):Prop:=bP .i64 p.id/\bP .i64 p.bC/\bP .i64 p.cH/\p.body.size<=cE
def oE:bZ im:=⟨4,λ_ a cs=>cs=AY a/\yC a,λ_ h=>h,λh=>by rw [h.1]; rfl,λh v hv=>by rw [h.1] at hv; simp at hv; rcases hv with rfl | rfl | rfl | rfl <;> rfl⟩
instance:oJ oE AY:=⟨λ_ _ _ h=>h.1⟩
abbrev IX:im:=⟨0,0,0,⟨#[]⟩⟩
section
variable {κ α:Type} [DecidableEq κ] {K:hU κ} {b n d:Nat} {P:Program} {E:cZ} {L L0:List HP} {ty:TypeId}
theorem acP {x y:Operand} {t kt et:TypeId} {z:Value} {k:κ} {m:List (κ × α)} {R:bZ α} {f:α->List Value} [hv:oJ R f] [ht:dy P t (.map kt et)] [hf:iI L b κ α K R true m L0] [hk:kw P kt K] [hz:l_ P et z] (hx:ev E x=some (.map (some b))) (hy:ev E y=some (K.enc k)) (cX:K.ok k):
  Yl P E L (.lookup t x y false) ty (nP (λu=>.agg (f u).toArray) z (cq m k)):=λn D W a w dst pos af g ha hs=>by
 rcases wk (P:=P) (t:=t) (kt:=kt) (et:=et) (z:=z) cX false (hs.ay hf.g) with ⟨g1,g2⟩ | ⟨u,cs,g1,g2,g3⟩
 ·rw [g1]; simp [execOp,ha.ev hx,ha.ev hy,nP,g2]
 ·obtain ⟨M,q,_,_,_,h1,h2,_,_,_,hi,_⟩:=g2.ex
  have e:=hv.e _ _ _ hi
  subst e
  rw [g1]; simp only [nP]
  simp [execOp,ha.ev hx,ha.ev hy,g3,ij]
theorem Y8 {x y:Operand} {t kt et:TypeId} {z:Value} {k:κ} {m:List (κ × α)} {R:bZ α} {f:α->List Value} [hv:oJ R f] [ht:dy P t (.map kt et)] [hf:iI L b κ α K R true m L0] [hk:kw P kt K] [hz:l_ P et z] (hx:ev E x=some (.map (some b))) (hy:ev E y=some (K.enc k)) (cX:K.ok k):
  Yl P E L (.lookup t x y true) ty (.tuple #[nP (λu=>.agg (f u).toArray) z (cq m k),.bool (cq m k).isSome]):=λn D W a w dst pos af g ha hs=>by
 rcases wk (P:=P) (t:=t) (kt:=kt) (et:=et) (z:=z) cX true (hs.ay hf.g) with ⟨g1,g2⟩ | ⟨u,cs,g1,g2,g3⟩
 ·rw [g1]; simp [execOp,ha.ev hx,ha.ev hy,nP,g2]
 ·obtain ⟨M,q,_,_,_,h1,h2,_,_,_,hi,_⟩:=g2.ex
  have e:=hv.e _ _ _ hi
  subst e
  rw [g1]; simp only [nP]
  simp [execOp,ha.ev hx,ha.ev hy,g3,ij]
end
structure NS where
 nodes:Int
 last:Int
 L:List im
def mp (l:List im):List (Int × im):=l.map λp=>(p.id,p)
def oF (l:List im) (k:Int):Option im:=l.find? λp=>decide (p.id=k)
def y0 (l:List im) (k:Int):List im:=l.filter λp=> !decide (p.id=k)
theorem UR (l:List im) (k:Int):cq (mp l) k=oF l k:=by
 unfold cq mp oF
 rw [List.find?_map]
 show Option.map (·.2) (Option.map (λp=>(p.id,p)) (l.find? λp=>decide (p.id=k)))=l.find? λp=>decide (p.id=k)
 cases l.find? λp=>decide (p.id=k) <;> rfl
theorem ahc (l:List im) (k:Int):fS (mp l) k=mp (y0 l k):=by
 unfold fS mp y0; rw [Eg]; rfl
def tx (s:NS) (k:Int):Prop:=0<=k/\k < s.nodes
instance (s:NS) (k:Int):Decidable (tx s k):=by unfold tx; exact inferInstance
def qf (s:NS) (f t:Int) (body:ByteArray):NS × Int × Int:=
 if ¬ tx s f\/¬ tx s t then (s,0,1) else if 65536 < body.size then (s,0,3) else if 65536<=s.L.length then (s,0,2) else (⟨s.nodes,s.last+1,s.L++[⟨s.last+1,f,t,body⟩]⟩,s.last+1,0)
def wS (s:NS) (k:Int):NS × im × Int:=match oF s.L k with
 | none=>(s,IX,4)
 | some p=>(⟨s.nodes,s.last,y0 s.L k⟩,p,0)
structure pO (s:NS):Prop where
 nodes:1<=s.nodes/\s.nodes<=7
 last:0<=s.last/\s.last<=1152921504606846976
 len:s.L.length<=65536
 inc:s.L.Pairwise λp q=>p.id < q.id
 ids:∀ p∈s.L,1<=p.id/\p.id<=s.last/\0<=p.bC/\p.bC < s.nodes/\0<=p.cH/\p.cH < s.nodes/\p.body.size<=65536
variable{s:NS}
theorem pO.out (h:pO s) (k:Int):pO ⟨s.nodes,s.last,y0 s.L k⟩:=
 ⟨h.nodes,h.last,kf (kG _ _) h.len,h.inc.filter _,λp hp=>h.ids p (ke.1 hp).1⟩
variable{t:Int}
theorem pO.send (h:pO s) {f:Int} {body:ByteArray} (hf:tx s f) (ht:tx s t) (hb:body.size<=65536) (hl:s.L.length < 65536) (h2:s.last < 1152921504606846976):pO ⟨s.nodes,s.last+1,s.L++[⟨s.last+1,f,t,body⟩]⟩:=by
 have ajv:=h.last
 refine ⟨h.nodes,by show 0<=s.last+1/\s.last+1<=_; omega,by simp; omega, ?_,λp hp=> ?_⟩
 ·refine Eb.2 ⟨h.inc,by simp,λp hp q hq=> ?_⟩
  simp at hq; subst hq
  have:=h.ids p hp
  show p.id < s.last+1
  omega
 ·rcases gD.1 hp with hp | hp
  ·have:=h.ids p hp
   show 1<=p.id/\p.id<=s.last+1/\_
   refine ⟨by omega,by omega,this.2.2⟩
  ·simp at hp; subst hp
   unfold tx at hf ht
   exact ⟨by show 1<=s.last+1; omega,qJ _,hf.1,hf.2,ht.1,ht.2,hb⟩
theorem Th (h:pO s) {p:im} (hp:p∈s.L):yC p:=by
 have h1:=h.ids p hp; have h2:=h.nodes; have h3:=h.last
 exact ⟨da (by omega),da (by omega),da (by omega),by simp only [cE]; omega⟩
theorem aio (h:pO s):∀ q∈mp s.L,q.1≠s.last+1:=λq hq=>by
 obtain ⟨p,hp,rfl⟩:=fY.1 hq
 have:=h.ids p hp
 show p.id≠s.last+1
 omega
theorem ahd (l:List im) (p:im):mp (l++[p])=mp l++[(p.id,p)]:=by simp [mp]
theorem ahe (l:List im):(mp l).map (·.1)=l.map (·.id):=by simp [mp]
abbrev Qc (b:Nat) (s:NS) (bt:Nat):List HP:=[cells b [.int .i64 s.nodes,.int .i64 s.last,.map (some bt)] 137,cy eL oE true bt (mp s.L),pure (pO s)]
def nt (b:Nat) (s:NS):HP:=oS (Qc b s)
instance:jz (nt b s::L) b (nt b s) L:=⟨am.refl _⟩
theorem abg {p:Prop} {W w:World} (h:bH W w (pure p::L)):p/\bH W w L:=by
 obtain ⟨M,k,hd,hM,hk,h1,h2,eW,l1,l2,hp,hs⟩:=h.ex
 exact ⟨hp,h.ay (am.drop _ _)⟩
theorem ahf {W w:World} (h:bH W w (nt b s::L)):∃ bt,pO s/\bH W w (cells b [.int .i64 s.nodes,.int .i64 s.last,.map (some bt)] 137::cy eL oE true bt (mp s.L)::L):=by
 obtain ⟨bt,hp⟩:=sI h
 obtain ⟨hi,hs⟩:=abg (hp.ay (am.mH 2 (Qc b s bt++L)))
 exact ⟨bt,hi,hs⟩
theorem xf {c:Code} (h:∀ bt,pO s->T r n P c ⟨D,E,cells b [.int .i64 s.nodes,.int .i64 s.last,.map (some bt)] 137::cy eL oE true bt (mp s.L)::L⟩ Q):T r n P c ⟨D,E,nt b s::L⟩ Q:=λW a w hh=>by
 obtain ⟨bt,hi,hs⟩:=ahf hh.2
 exact h bt hi W a w ⟨hh.1,hs⟩
theorem sK (b:Nat) (s:NS) [h1:fL L b [.int .i64 s.nodes,.int .i64 s.last,.map (some bt)] 137 L1] [h2:iI L1 bt Int im eL oE true (mp s.L) L2] (hi:pO s):am L (nt b s::L2):=by
 refine am.trans (h1.g.trans (am.cons _ h2.g)) ?_
 refine am.trans ?_ (o_ (f:=Qc b s) bt)
 exact am.cons _ (am.cons _ (am.sF hi))
open Go Go.Proofs Go.Proofs.Tryz
def yN (n:Int):NS:=⟨n,0,[]⟩
theorem aed (n:Int) (h:1<=n/\n<=7) (L:List HP):Fn prog 26 #[.int .i64 n] L (λv L'=>∃ b,v=.tuple #[.pointer (some ⟨b,0,none⟩),.int .i64 0]/\L'=nt b (yN n)::L):=by
 exact aH func26 J J J J<|aa<|ae J<|ae J<|O<|ar<|aa<|Y J<|ab J J (bU J J)<|Y J<|dx 6 J (by omega)<|aj J<|Y J<|aj J<|ab J J (eE J J)<|dx 8 J (by omega)<|aA J<|O<|aT J<|az<|ai<|aa<|Y J<|o7 eL oE true J λbt=>ab J J (bI J J)<|bS J J J λr5=>ae J<|ae J<|O<|av<|aF.ay (sK (bt:=bt) r5 (yN n) ⟨h,by simp [yN],by simp [yN],by simp [yN],by simp [yN]⟩)<|eS J J J al (⟨r5,J,J⟩)
theorem KL:Fn prog 186 #[.pointer (some ⟨b,0,none⟩)] (nt b s::L) (λv L'=>v=.bool true/\L'=nt b s::L):=by
 exact aH func186 J J J J<|xf λbt hi=>aa<|ae J<|O<|aa<|Y J<|ab J J (f8 J J (dh.eJ))<|br 4 (v':=.bool true) J (by simp)<|Y J<|aj J<|Y J<|aj J<|aS J<|aj J<|ao J<|aj J<|ax J J<|aj J<|ab J J (f8 J J (dh.map_nil))<|br 10 (v':=.bool true) J (by simp)<|aA J<|ae J<|O<|av<|aF.ay (sK b s hi)<|cI J J
theorem Sj (k:Int):Fn prog 187 #[.pointer (some ⟨b,0,none⟩),.int .i64 k] (nt b s::L) (λv L'=>v=.bool (decide (tx s k))/\L'=nt b s::L):=by
 refine aH func187 J J J J<|xf λbt hi=>aa<|ae J<|O<|aa<|Y J<|jJ 9 14 (tx s k) ?_ ?_
 ·refine ab J J (eV J J)<|Y J<|dl 7 J (λh7=> ?_) (λh7=> ?_)
  ·refine aj J<|Y J<|aj J<|Y J<|aj J<|aS J<|aj J<|ao J<|aj J<|ax J J<|aj J<|ab J J (bU J J)<|aA J<|dH J ?_ (by repeat (first | exact dI | refine dJ rfl ?_)) al
   exact bi Value.bool (gX.2 (by unfold tx; omega))
  refine ah J<|ah J<|ah J<|ah J<|ah J<|ah J<|aA J<|dH J ?_ (by repeat (first | exact dI | refine dJ rfl ?_)) al
  exact bi Value.bool (cJ (by unfold tx; omega)).symm
 exact ae J<|O<|av<|aF.ay (sK b s hi)<|cI J J
theorem Z7 (k:Int) (hk:bP .i64 k):Fn prog 159 #[.pointer (some ⟨b,0,none⟩),.int .i64 k] (nt b s::L) (λv L'=>v=.tuple #[sV ((oF s.L k).getD IX),.int .i64 (if (oF s.L k).isSome then 0 else 4)]/\L'=nt b s::L):=by
 refine aH func159 J J J J<|aa<|bB J J λb4=>ae J<|O<|ar<|aa<|Y J<|aP b<|aB J J (KL)<|aV 9 (.bool true) J<|ab J J (df J)<|O<|aT J<|az<|ai<|cQ b<|xf λbt hi=>aa<|Y J<|aS J<|ao J<|ax J J<|Y J<|ab J J (Y8 (k:=k) J J hk)<|br 18 (v':=.tuple #[sV ((oF s.L k).getD IX),.bool (oF s.L k).isSome]) J (by rw [UR]; cases oF s.L k <;> rfl)<|Y J<|ab J J (aO J J)<|ab J J (aO J J)<|bB J J λb6=>aE J J<|ae J<|O<|ar<|aa<|Y J<|ab J J (ff J)<|O<|gF J (λiT=> ?_) (λiT=> ?_)
 ·have hn:oF s.L k=none:=by simpa using iT
  refine aa<|ab J J (bI J J)<|aE J J<|ae J<|O<|av<|aU ?_
  rw [hn]
  exact aF.ay (sK b s hi)<|kK (.inl J) J (bf.agg J J) (bf.tmp J) bu.g (⟨J,J⟩)
 obtain ⟨p,hp⟩:=xS.1 (show (oF s.L k).isSome=true by simpa using iT)
 refine az<|ai<|aa<|bD J J<|aE J J<|ae J<|O<|av ?_
 rw [hp]
 exact aF.ay (sK b s hi)<|kK (.inl J) J (bf.agg J J) (bf.tmp J) bu.g (⟨J,J⟩)
theorem Z8 (f t:Int) (body:ByteArray) (h2:s.last < 1152921504606846976):Fn prog 102 #[.pointer (some ⟨b,0,none⟩),.int .i64 f,.int .i64 t,.string body] (nt b s::L) (λv L'=>v=.tuple #[.int .i64 (qf s f t body).2.1,.int .i64 (qf s f t body).2.2]/\L'=nt b (qf s f t body).1::L):=by
 refine aH func102 J J J J<|aa<|ae J<|ae J<|O<|ar<|aX<|aa<|Y J<|aP b<|aB J J (KL)<|aV 12 (.bool true) J<|ab J J (df J)<|ae J<|O<|aT J<|aa<|Y J<|Y J<|aP b<|aB J J (Sj f)<|ab J J (iF J)<|Y J<|dl 19 J (λj9=> ?_) (λj9=> ?_)
 ·refine ah J<|ah J<|ah J<|ah J<|aA J<|ae J<|O<|cg J<|aa<|ae J<|ae J<|O<|av<|db<|aU ?_
  have hs:qf s f t body=(s,0,1):=by unfold qf; rw [if_pos (.inl j9)]
  rw [hs]
  exact eS J J J al (⟨J,J⟩)
 refine aj J<|Y J<|aj J<|Y J<|aj J<|aP b<|aB J J (Sj t)<|aj J<|ab J J (iF J)<|aA J<|ae J<|O<|bz J (λgK=> ?_) (λgK=> ?_)
 ·refine aa<|ae J<|ae J<|O<|av<|db<|aU ?_
  have hs:qf s f t body=(s,0,1):=by unfold qf; rw [if_pos (.inr gK)]
  rw [hs]
  exact eS J J J al (⟨J,J⟩)
 refine aa<|Y J<|ab J J (uI J)<|ab J J (eE J J)<|ae J<|O<|bz J (λj_=> ?_) (λj_=> ?_)
 ·have GW:65536 < body.size:=by omega
  refine aa<|ae J<|ae J<|O<|av<|db<|aU ?_
  have hs:qf s f t body=(s,0,3):=by unfold qf; rw [if_neg (by simp only [not_or,eX]; exact ⟨eX.1 j9,eX.1 gK⟩),if_pos GW]
  rw [hs]
  exact eS J J J al (⟨J,J⟩)
 refine cQ b<|xf λbt hi=> ?_
 have ajv:=hi.last
 have rZ:¬ 65536 < body.size:=by omega
 refine aa<|Y J<|aS J<|ao J<|ax J J<|ab J J (Cz J)<|br 34 (v':=.int .i64 (s.L.length:Int)) J (by simp [mp])<|ab J J (eV J J)<|ae J<|O<|bz J (λkX=> ?_) (λkX=> ?_)
 ·refine aa<|ae J<|ae J<|O<|av<|db<|aU ?_
  have hs:qf s f t body=(s,0,2):=by unfold qf; rw [if_neg (by simp only [not_or,eX]; exact ⟨eX.1 j9,eX.1 gK⟩),if_neg rZ,if_pos (by omega)]
  rw [hs]
  exact aF.ay (sK b s hi)<|eS J J J al (⟨J,J⟩)
 refine az<|bA<|ai ?_
 have pL:¬ 65536<=s.L.length:=by omega
 have ib:=hi.send (f:=f) (t:=t) (body:=body) (eX.1 j9) (eX.1 gK) (by omega) (by omega) h2
 have XA:=Th ib (p:=⟨s.last+1,f,t,body⟩) (by simp)
 refine aa<|Y J<|aS J<|ao J<|ax J J<|ab J J (bE J J (by omega))<|aS J<|ao J<|aE J J<|O<|bW _ [16] [0,2,4,6,8,10,12,14,16,18,20,22,24,26,28,30,33] (by kernel_rfl) (am.refl _)<|aq J J<|aL J J<|aw J J<|aG J J J<|aq J J<|aL J J<|aw J J<|aG J J J<|aq J J<|aL J J<|aw J J<|aG J J J<|aq J J<|aq J J<|aq J J<|ak J J (bI J J)<|an J<|sH (k:=s.last+1) (u:=⟨s.last+1,f,t,body⟩) (cs:=AY ⟨s.last+1,f,t,body⟩) (mp (s.L++[⟨s.last+1,f,t,body⟩])) J J J XA.1 (bV.const λM=>(show oE.fO M ⟨s.last+1,f,t,body⟩ (AY ⟨s.last+1,f,t,body⟩) from ⟨J,XA⟩)) (by rw [ahd]; exact ago (p:=(s.last+1,(⟨s.last+1,f,t,body⟩:im))) (aio hi))<|gZ J<|aR<|aa<|Y J<|aS J<|ao J<|ax J J<|ae J<|ae J<|O<|av ?_
 have hs:qf s f t body=(⟨s.nodes,s.last+1,s.L++[⟨s.last+1,f,t,body⟩]⟩,s.last+1,0):=by unfold qf; rw [if_neg (by simp only [not_or,eX]; exact ⟨eX.1 j9,eX.1 gK⟩),if_neg rZ,if_neg pL]
 rw [hs]
 exact aF.ay (sK b ⟨s.nodes,s.last+1,s.L++[⟨s.last+1,f,t,body⟩]⟩ ib)<|eS J J J al (⟨J,J⟩)
theorem Z9 (k:Int) (hk:bP .i64 k):Fn prog 149 #[.pointer (some ⟨b,0,none⟩),.int .i64 k] (nt b s::L) (λv L'=>v=.tuple #[sV (wS s k).2.1,.int .i64 (wS s k).2.2]/\L'=nt b (wS s k).1::L):=by
 refine aH func149 J J J J<|aa<|bB J J λb4=>ae J<|O<|aa<|Y J<|Y J<|aP b<|aB J J (Z7 k hk)<|Y J<|ab J J (aO J J)<|ab J J (aO J J)<|bB J J λb6=>aE J J<|ae J<|O<|ar<|aa<|Y J<|ab J J (ce J J)<|O<|bz J (λgU=> ?_) (λgU=> ?_)
 ·obtain ⟨p,hp⟩:∃ p,oF s.L k=some p:=by cases e:oF s.L k with | some p=>exact ⟨p,rfl⟩ | none=>rw [e] at gU; simp at gU
  refine cQ b<|xf λbt hi=>aQ<|Y J<|aS J<|ao J<|ax J J<|Y J<|Es (k:=k) J J hk ?_
  rw [ahc]
  refine O<|ai<|aa<|bD J J<|Y J<|aE J J<|ae J<|O<|av ?_
  have hs:wS s k=(⟨s.nodes,s.last,y0 s.L k⟩,p,0):=by unfold wS; rw [hp]
  rw [hs,hp]
  exact aF.ay (sK b ⟨s.nodes,s.last,y0 s.L k⟩ (hi.out k))<|kK (.inl J) J (bf.agg J J) (bf.tmp J) bu.g (⟨J,J⟩)
 have hn:oF s.L k=none:=by cases e:oF s.L k with | none=>rfl | some p=>rw [e] at gU; simp at gU
 refine az<|ai<|aa<|bD J J<|Y J<|aE J J<|ae J<|O<|av ?_
 have hs:wS s k=(s,IX,4):=by unfold wS; rw [hn]
 rw [hs,hn]
 exact kK (.inl rfl) rfl (bf.agg rfl rfl) (bf.tmp rfl) bu.g (⟨rfl,rfl⟩)
open Go Go.Proofs Go.Proofs.Tryz
theorem afI {α:Type} {l:List α} {x:α} (h:l[i]? =some x):l.take (i+1)=l.take i++[x]:=by rw [rE,h]; rfl
abbrev Du (s:NS):List Int:=s.L.map (·.id)
theorem RI:Fn prog 158 #[.pointer (some ⟨b,0,none⟩)] (nt b s::L) (λv L'=>∃ A c,v=.slice A (Du s).length c/\L'=aN (aI .i64) 3 A c (Du s)::nt b s::L):=by
 refine aH func158 J J J J<|aa<|ae J<|O<|ar<|aa<|Y J<|aP b<|aB J J (KL)<|aV 4 (.bool true) J<|ab J J (df J)<|O<|aT J<|az<|ai<|cQ b<|xf λbt hi=> ?_
 have eP:=hi.len
 refine aa<|Y J<|aS J<|ao J<|ax J J<|aJ J J (abL) ?_
 rintro _ _ ⟨bx,rfl,rfl⟩
 refine bX (show am _ (cells bx [.map (some bt)] 135::cy eL oE true bt (mp s.L)::cells b [.int .i64 s.nodes,.int .i64 s.last,.map (some bt)] 137::L) from al)<|aJ J J (KY (Lf:=[cells bx [.map (some bt)] 135,cy eL oE true bt (mp s.L)]) (Lr:=cells b [.int .i64 s.nodes,.int .i64 s.last,.map (some bt)] 137::L) (abK (R:=oE) (ag:=true) (b:=bt) (bx:=bx) (m:=mp s.L)) (by simp [mp]; omega)) ?_
 rintro _ _ ⟨kZ,k9,ks,rfl,tW,rfl⟩
 rw [show oT ks=Du s from Nb (by have:=tW rfl; rwa [ahe] at this) (oh.2 hi.inc)]
 simp only [dL,dm]
 exact ae J<|O<|av<|aF.ay (sK b s hi)<|aZ J J al (⟨kZ,k9,J,J⟩)
theorem afJ (h:pO s) {p:im} (hp:s.L[i]? =some p):oF s.L p.id=some p:=by
 have cL:=(dX.1 hp).1
 have he:=(dX.1 hp).2
 refine List.find?_eq_some_iff_getElem.2 ⟨by simp,i,cL,he,λj hj=> ?_⟩
 have:=(xR.1 h.inc) j i (by omega) cL hj
 rw [he] at this
 simp; omega
variable{bn bw:Nat}{fw:FuncId}{xL xM:List Value}
theorem abh [li prog fw] {Lw:HP} {W:im->Bool} (hw:∀ p Lx,yC p->Fn prog fw (xL++[sV p]++xM).toArray (fP bw Lw::Lx) (λv L'=>v=.bool (W p)/\L'=fP bw Lw::Lx)) 
  {τ:Type} {l:Nat} {C:τ->HP} {step:τ->im->τ->Prop} {stop:τ->Bool} {ek:τ->Nat} {s0:τ} {Lx:List HP} (h0:stop s0=false) (n6:ek s0=0) (ip:∀ s x s',step s x s'->ek s'=ek s+1) (hy:Ak prog l C (λp:im=>[sV p]) yC step stop ek 65536):
  Fn prog 346 #[.func (.yield l) #[] #[],.pointer (some ⟨bn,0,none⟩),.pointer (some ⟨bw,0,none⟩)] (fP l (C s0)::nt b s::cells bn [.pointer (some ⟨b,0,none⟩)] 82::cells bw [.func (.func fw) xL.toArray xM.toArray] 376::fP bw Lw::Lx)
   (λv L'=>∃ xs s',((stop s'=false->xs=s.L.filter W)/\xs <+:s.L.filter W)/\gH step stop s0 xs s'/\L'=fP l (C s')::nt b s::cells bn [.pointer (some ⟨b,0,none⟩)] 82::cells bw [.func (.func fw) xL.toArray xM.toArray] 376::fP bw Lw::Lx):=by
 refine aH func346 J J J J<|aa<|ax J J<|aP b<|aJ J J (RI) ?_
 rintro _ _ ⟨A8,c8,rfl,rfl⟩
 refine bF<|ab J J (bY J)<|br 9 (v':=.int .i64 (s.L.length:Int)) J (by simp)<|Y J<|O<|aX<|cY (σ:=Nat × τ) [0,1,2,8,9] (λg=>g.1<=s.L.length/\gH step stop s0 ((s.L.take g.1).filter W) g.2/\stop g.2=false/\ek g.2=((s.L.take g.1).filter W).length) (λg kv=>(10,.int .i64 (g.1:Int))::kv) (λg=>fP l (C g.2)::sl (aI .i64) A8 c8 (Du s)::nt b s::cells bn [.pointer (some ⟨b,0,none⟩)] 82::cells bw [.func (.func fw) xL.toArray xM.toArray] 376::fP bw Lw::Lx) (λg=>s.L.length - g.1) ((0,s0)) J (⟨dF _,.nil _,h0,n6⟩) (al) (dc J) ?_
 rintro ⟨i,st⟩ ⟨hi,hr,hs,hc⟩
 dsimp only at hi hr hs hc ⊢
 refine aa<|ab J J (bU J J)<|O<|ar<|bz J (λgJ=> ?_) (λgJ=> ?_)
 ·refine az<|ai<|ar<|aX<|aa ?_
  obtain ⟨p,hp⟩:∃ p,s.L[i]? =some p:=⟨_,cj (by omega)⟩
  have hu:(Du s)[i]? =some p.id:=by simp [hp]
  have qt:=afI hp
  refine uG J J J slk hu λamw amx amy=>ab J J (rG J J)<|ae J<|O<|cQ b<|xf λbt ib=> ?_
  have vy:=Th ib (eA hp)
  have eP:=ib.len
  refine aa<|ax J J<|aS J<|ao J<|ax J J<|Y J<|ab J J (acP (k:=p.id) J J vy.1)<|br 19 (v':=sV p) J (by rw [UR,afJ ib hp]; rfl)<|bX (sK b s ib)<|bB J J λb6=>aE J J<|O<|aa<|ax J J<|bD J J<|aP bw<|jx J J J (hw p _ vy) ?_
  rintro _ _ ⟨rfl,rfl⟩
  refine Y J<|nH 23 J (λgv=> ?_) (λgv=> ?_)
  ·refine aj J<|Y J<|aj J<|bD J J<|aj J<|aP l ?_
   have kU:((s.L.take i).filter W).length < 65536:=by have h1:=kG W (s.L.take i); rw [gq] at h1; omega
   refine yj J J J (hy st p _ hs vy (by omega)) ?_
   rintro _ _ ⟨s2,cK,rfl,rfl⟩
   refine aj J<|ab J J (ff J)<|aA J<|O<|gF J (λxu=> ?_) (λxu=> ?_)
   ·have eF:stop s2=true:=by simpa using xu
    refine av<|db<|aU<|aU<|db ?_
    have vO:(s.L.take (i+1)).filter W=(s.L.take i).filter W++[p]:=by rw [qt,nC]; simp [gv]
    have ala:((s.L.take i).filter W++[p]) <+:s.L.filter W:=by rw [<- vO]; exact (Hh _ _).filter W
    exact lj (.inl rfl) rfl bu.g (⟨_,s2,⟨λh=>(by rw [eF] at h; cases h),ala⟩,hr.snoc h0 hs cK,rfl⟩)
   have eF:stop s2=false:=by simpa using xu
   refine az<|bA<|ai<|aQ<|ab J J (bE J J (by omega))<|cz 29 J<|Y J<|O<|ai ?_
   have GX:(s.L.take (i+1)).filter W=(s.L.take i).filter W++[p].filter W:=by rw [qt,nC]
   exact ⟨(i+1,s2),⟨by simp only; omega,by dsimp only; rw [GX]; simp only [uA,gv,if_true,List.filter_nil]; exact hr.snoc h0 hs cK,eF,by dsimp only; rw [ip _ _ _ cK,hc,GX]; simp [gv]⟩,by simp only; omega,bO rfl⟩
  refine ah J<|ah J<|ah J<|ah J<|aA J<|O<|aT J<|az<|bA<|ai<|aQ<|ab J J (bE J J (by omega))<|cz 29 J<|Y J<|O<|ai ?_
  have GX:(s.L.take (i+1)).filter W=(s.L.take i).filter W++[p].filter W:=by rw [qt,nC]
  exact ⟨(i+1,st),⟨by simp only; omega,by dsimp only; rw [GX]; simpa [gv] using hr,hs,by dsimp only; rw [hc,GX]; simp [gv]⟩,by simp only; omega,bO rfl⟩
 refine cw<|aY<|aY<|cu ?_
 have e:s.L.take i=s.L:=gQ (by omega)
 exact lj (.inr rfl) rfl bu.g (⟨_,st,⟨λ_=>by rw [e],by rw [e]; exact List.prefix_rfl⟩,hr,rfl⟩)
open Go Go.Proofs Go.Proofs.Tryz
structure F9 where
 xs:List im
 A:Option Addr
 c:Nat
def Vi:LS F9->im->LS F9->Prop:=λs x s'=>s'.2=none/\s'.1.xs=s.1.xs++[x]
theorem ahg {s s':LS F9} {xs:List im} (h0:s.2=none) (h:gH Vi (λs=> !s.2.isNone) s xs s'):s'.2=none/\s'.1.xs=s.1.xs++xs:=by
 induction h with
 | nil s=>exact ⟨h0,by simp⟩
 | halt a b=>rw [a.1] at b; simp at b
 | go a b c ih=>have:=ih a.1; rw [a.2] at this; simpa using this
variable{hY:Bool->List im->Prop}
theorem X' {c:Value} {N:Nat} {Lf Lr:List HP} (hi:oA prog c (λp:im=>[sV p]) yC N Lf hY) (hN:N<=1099511627776):Fn prog 345 #[.slice none 0 0,c] (Lf++Lr) (λv L'=>∃ A' c' xs,v=.slice A' xs.length c'/\hY false xs/\L'=aN oE 167 A' c' xs::(Lf++Lr)):=by
 refine ye func345 J J J J<|aa<|bS J J J λb2=>ae J<|O<|ar<|aa<|Y J<|O<|aX<|xY (λg:F9=>[cells b2 [.slice g.A g.xs.length g.c] 150,aN oE 167 g.A g.c g.xs]) (Vi) (λg:F9=>g.xs.length) (⟨[],none,0⟩) J (hi) ((du oE 167 none _).trans (am.swap _ _ _)) (by decide) (λ_=>J) J (λs x s' h=>by rw [h.2]; simp) (λBg Bh g x Lx hx cL=> ?_) (λBi xs g oM gR=> ?_)
 ·obtain ⟨xs,A,c⟩:=g
  dsimp only at cL
  try simp only [dL,dm]
  refine aQ<|bB J J λb5=>aE J J<|O ?_
  refine ⟨rfl,_,cR.g, ?_⟩
  refine aX<|aQ<|ax J J<|bD J J<|ef J J J J J J λmr=> ?_
  refine eh (k:=1) oE [x] (bV.const λM=>⟨AY x,[],⟨J,hx⟩,J,J⟩) J (by decide)<|bF<|aV 10 (.slice (some ⟨mr,0,none⟩) [x].length 1) J ?_
  exact fi J J J J J slk (by simp only [dO,ej]; omega) λkZ k9=>aE J J<|O<|bA<|⟨⟨xs++[x],kZ,k9⟩,none,J,⟨J,J⟩,al⟩
 obtain ⟨⟨ys,A,c⟩,j⟩:=g
 obtain ⟨rfl,h2⟩:=ahg rfl gR
 dsimp only at h2
 rw [dm] at h2
 subst h2
 try simp only [dL,dm]
 exact Cm<|bA<|ai<|aa<|ax rfl rfl<|ae rfl<|O<|av<|qZ<|aZ rfl rfl al (⟨A,c,ys,rfl,oM,rfl⟩)
theorem Y9 {c:Value} {N:Nat} {Lf Lr:List HP} (hi:oA prog c (λp:im=>[sV p]) yC N Lf hY) (hN:N<=1099511627776):Fn prog 242 #[c] (Lf++Lr) (λv L'=>∃ A' c' xs,v=.slice A' xs.length c'/\hY false xs/\L'=aN oE 167 A' c' xs::(Lf++Lr)):=by
 refine aH func242 J J J J<|aa<|ae J<|O<|aa<|Y J<|aJ J J (X' hi hN) ?_
 rintro _ _ ⟨A4,c4,xs,rfl,hs,rfl⟩
 exact ae J<|O<|av<|aZ J J al (⟨A4,c4,xs,J,hs,J⟩)
theorem abi {f1 c1:Array Value}:Fn prog 243 #[.pointer (some ⟨b,0,none⟩),.func (.func fw) f1 c1] L (λv L'=>∃ bn bw,v=.func (.func 346) #[] #[.pointer (some ⟨bn,0,none⟩),.pointer (some ⟨bw,0,none⟩)]/\L'=cells bn [.pointer (some ⟨b,0,none⟩)] 82::cells bw [.func (.func fw) f1 c1] 376::L):=by
 exact aH func243 J J J J<|aa<|bS J J J λb2=>bS J J J λb3=>ae J<|O<|aa<|ab J J (gy J J)<|ae J<|O<|av<|aZ J J al (⟨b2,b3,J,J⟩)
abbrev Qd (b bn bw:Nat) (s:NS) (fw:FuncId) (xL xM:List Value) (Lw:HP):List HP:=[nt b s,cells bn [.pointer (some ⟨b,0,none⟩)] 82,cells bw [.func (.func fw) xL.toArray xM.toArray] 376,fP bw Lw]
theorem acQ [li prog fw] {Lw:HP} {W:im->Bool} (hw:∀ p Lx,yC p->Fn prog fw (xL++[sV p]++xM).toArray (fP bw Lw::Lx) (λv L'=>v=.bool (W p)/\L'=fP bw Lw::Lx)):
  oA prog (.func (.func 346) #[] #[.pointer (some ⟨bn,0,none⟩),.pointer (some ⟨bw,0,none⟩)]) (λp:im=>[sV p]) yC 65536 (Qd b bn bw s fw xL xM Lw) (λst xs=>(st=false->xs=s.L.filter W)/\xs <+:s.L.filter W):=
 ⟨_,[],[.pointer (some ⟨bn,0,none⟩),.pointer (some ⟨bw,0,none⟩)],rfl,inferInstance,λτ l C step stop ek s0 Lx h0 hc ip hy=>(abh hw h0 hc ip hy).rM λv L' ⟨xs,s',a1,a2,a3⟩=>⟨xs,s',a1,a2,a3⟩⟩
theorem aee (p:im):Fn prog 244 #[sV p] (fP bw (pure True)::L) (λv L'=>v=.bool true/\L'=fP bw (pure True)::L):=by
 exact aH func244 J J J J<|aa<|bS J J J λb1=>ae J<|O<|aa<|ae J<|O<|av<|cI J J
theorem abj:Fn prog 137 #[.pointer (some ⟨b,0,none⟩)] (nt b s::L) (λv L'=>∃ A c,v=.slice A s.L.length c/\L'=aN oE 167 A c s.L::nt b s::L):=by
 refine aH func137 J J J J<|aa<|ae J<|O<|aa<|Y J<|aJ J J (abi) ?_
 rintro _ _ ⟨bn,bw,rfl,rfl⟩
 refine bX (am.sF trivial) ?_
 refine bX (show am (fP bw (pure True)::cells bn [.pointer (some ⟨b,0,none⟩)] 82::cells bw [.func (.func 244) #[] #[]] 376::nt b s::L) (nt b s::cells bn [.pointer (some ⟨b,0,none⟩)] 82::cells bw [.func (.func 244) #[] #[]] 376::fP bw (pure True)::L) from al)<|aJ J J (Y9 (Lf:=Qd b bn bw s 244 [] [] (pure True)) (Lr:=L) (acQ (W:=λ_↦true) (λp Lx hp↦aee p)) (by decide)) ?_
 rintro _ _ ⟨A5,c5,xs,rfl,oM,rfl⟩
 obtain rfl:xs=s.L:=(oM.1 rfl).trans (rD.2 λ_ _=>rfl)
 simp only [Qd,dL,dm]
 exact ae J<|O<|av<|aZ J J al (⟨A5,c5,J,J⟩)
open Go Go.Proofs Go.Proofs.Tryz
def D3 (s:NS) (place:Int):Int × Bool:=match s.L[(place % (s.L.length:Int)).toNat]? with
 | some p=>(p.id,true)
 | none=>(0,false)
theorem acR (place:Int) (hp:bP .i64 place):Fn prog 81 #[.pointer (some ⟨b,0,none⟩),.int .i64 place] (nt b s::L) (λv L'=>v=.tuple #[.int .i64 (D3 s place).1,.bool (D3 s place).2]/\L'=nt b s::L):=by
 have hp:=i64In hp
 refine aH func81 J J J J<|aa<|ae J<|ae J<|O<|aa<|Y J<|aP b<|aJ J J (RI) ?_
 rintro _ _ ⟨A8,c8,rfl,rfl⟩
 refine bF<|ae J<|O<|ar<|aa<|Y J<|ab J J (bY J)<|br 10 (v':=.int .i64 (s.L.length:Int)) J (by simp)<|ab J J (ce J J)<|O<|bz J (λgJ=> ?_) (λgJ=> ?_)
 ·refine aa<|ae J<|ae J<|O<|av<|aU ?_
  have he:s.L=[]:=rC (by omega)
  exact eS J J J al (⟨by simp [D3,he],J⟩)
 refine az<|ai<|cQ b<|xf λbt ib=>b_ (sK b s ib) ?_
 have eP:=ib.len
 have sY:(0:Int) < (s.L.length:Int):=by omega
 have Gt:=aeR place sY
 have DI:=ahR place sY
 have e1:=Int.emod_nonneg place (by omega:(s.L.length:Int)≠0)
 have e2:=Int.emod_lt_of_pos place sY
 refine aa<|Y J<|Y J<|Y J<|ab J J (bY J)<|br 15 (v':=.int .i64 (s.L.length:Int)) J (by simp)<|ab J J (AC J J (by omega))<|Y J<|ab J J (bY J)<|br 18 (v':=.int .i64 (s.L.length:Int)) J (by simp)<|ab J J (bE J J (by omega))<|Y J<|ab J J (bY J)<|br 21 (v':=.int .i64 (s.L.length:Int)) J (by simp)<|ab J J (AC J J (by omega))<|br 22 (v':=.int .i64 (((place % (s.L.length:Int)).toNat:Nat):Int)) J (by rw [DI]; congr 1; omega) ?_
 obtain ⟨p,hq⟩:∃ p,s.L[(place % (s.L.length:Int)).toNat]? =some p:=⟨_,cj (by omega)⟩
 have hu:(Du s)[(place % (s.L.length:Int)).toNat]? =some p.id:=by simp [hq]
 exact uG J J J slk hu λamz amA amB=>ab J J (rG J J)<|ae J<|ae J<|O<|av<|eS J J J al (⟨by simp [D3,hq],J⟩)
open Go
def yO (b:List Int):Int:=b.foldl (λh c=>IntKind.u32.wrap (sN .xor .u32 h c * 16777619)) 2166136261
def nf (aK:ByteArray) (n:Nat):Nat:=(yO (f4 aK)).toNat % n
structure oY where
 id:Int
 bC:Int
 cH:Int
 m:bQ
structure cP where
 nodes:List (Option dD)
 last:Int
 pk:List oY
 e8:List Int
 tm:Int
structure yP where
 step:Int
 pw:Int
 node:Int
 call:il
structure lu where
 step:Int
 pw:Int
 node:Int
 dR:mJ
structure cF where
 n:Int
 steps:Int
 eB:List cP
 made:List yP
 told:List lu
structure i8 where
 kind:Int
 pw:Int:=0
 node:Int:=0
 at_:Int:=0
 call:il:=⟨0,0,⟨#[]⟩,⟨#[]⟩,0,false,⟨#[]⟩⟩
 jq:Int:=0
 on:List Int:=[]
abbrev p8 (n:Nat):cP:=⟨(List.range n).map λi:Nat=>some (nL (n:Int) (i:Int) 0),0,[],List.replicate n 0,0⟩
def yD (n eB:Nat):cF:=⟨(n:Int),0,List.replicate eB (p8 n),[],[]⟩
def pi (id:Int) (c:cF) (k:Nat):List jl->cP->List lu->cP × List lu
 | [],g,t=>(g,t)
 | .dR a::l,g,t=>pi id c k l g (t++[⟨c.steps,(k:Int),id,a⟩])
 | .gh m::l,g,t=>pi id c k l (if j7 (fT m ([],false))=0/\0<=m.cH/\m.cH < c.n then {g with last:=g.last+1,pk:=g.pk++[⟨g.last+1,id,m.cH,m⟩]} else g) t
def IF:jl->Bool
 | .dR _=>true
 | .gh m=>decide (iP m<=nY)
def Fc (g:cP) (i:Nat) (f:dD->Option dD):Option (cP × Int):=match g.nodes[i]? with
 | some (some s)=>(f s).map λs1=>({g with nodes:=g.nodes.set i (some s1)},0)
 | _=>none
def Dk (c:cF) (k:Nat) (g:cP) (x:i8):Option (cF × cP × Int):=
 let i:=x.node.toNat
 if x.kind=1 then match g.nodes[i]? with
  | some (some s)=>(wQ s x.call).map λr=>(if r.2=0 then {c with made:=c.made++[⟨c.steps,(k:Int),x.node,x.call⟩]} else c,{g with nodes:=g.nodes.set i (some r.1)},r.2)
  | _=>none
 else if x.kind=2 then match g.pk with
  | []=>none
  | p::r=>if x.at_≠0 then none else match g.nodes[p.cH.toNat]? with
   | some (some s)=>(if iP p.m<=nY then zC s p.m else none).map λs1=>(c,{g with nodes:=g.nodes.set p.cH.toNat (some s1),pk:=r},0)
   | _=>none
 else if x.kind=5 then match g.nodes[i]? with
  | some (some s)=>if s.m.km=0 then some (c,{g with nodes:=g.nodes.set i none},0) else none
  | _=>none
 else if x.kind=6 then match g.nodes[i]?,g.e8[i]? with
  | some none,some t=>some (c,{g with nodes:=g.nodes.set i (some (nL c.n x.node t))},0)
  | _,_=>none
 else if x.kind=7 then
  if 0<=x.jq/\x.jq<=1000/\x.on.length=g.e8.length/\(∀ a∈x.on,0<=a/\a<=1000)/\(∀ t∈g.e8,t<=1000000000)/\g.tm<=1000000000/\(∀ o∈g.nodes,o.isSome=true) then
   let e8:=List.zipWith (·+·) g.e8 x.on
   some (c,{g with e8:=e8,tm:=g.tm+x.jq,nodes:=List.zipWith (λo t=>o.map λs=>t0 s t) g.nodes e8},0)
  else none
 else if x.kind=8 then (Fc g i C9).map λr=>(c,r.1,r.2)
 else if x.kind=10 then (Fc g i λs=>(E3 s.m x.at_).map λm=>⟨m,s.waits⟩).map λr=>(c,r.1,r.2)
 else if x.kind=11 then match g.nodes[i]? with
  | some (some s)=>(Fb s).bind λr=>if g.pk.length+r.2.length<=65000/\g.last<=1000000000/\c.told.length+r.2.length<=1000000/\c.steps<=1000000/\(r.2.all IF)=true then
    let q:=pi x.node c k r.2 {g with nodes:=g.nodes.set i (some r.1)} []
    some ({c with told:=c.told++q.2},q.1,0) else none
  | _=>none
 else if x.kind=12 then (Fc g i λs=>(IC s.m).map λm=>⟨m,s.waits⟩).map λr=>(c,r.1,r.2)
 else none
def qg (c:cF) (x:i8):Option (cF × Int):=
 let c1:={c with steps:=c.steps+1}
 let k:=if x.kind=1 then nf x.call.aK c.eB.length else x.pw.toNat
 match c1.eB[k]? with
 | none=>none
 | some g=>if x.pw < 0\/x.node < 0\/c.n<=x.node\/c.steps < 0\/999999<=c.steps\/1000000<=c.made.length then none else (Dk c1 k g x).map λr=>({r.1 with eB:=r.1.eB.set k r.2.1},r.2.2)
def xN (s:cF) (x:i8):Option cF:=(qg s x).map (·.1)
def Dv (s:cF):Nat:=match s.eB with
 | g::_=>g.pk.length
 | []=>0
def ox (s:cF) (i:Nat):Option dD:=match s.eB with
 | g::_=>(g.nodes[i]?).join
 | []=>none
def tR (s:cF) (i:Nat):Bool:=match ox s i with
 | some n=>jL n.m
 | none=>false
def yn (s:cF):Bool:=match ox s 0,ox s 1,ox s 2 with
 | some a,some b,some c=>decide (dK a.m.ap=dK b.m.ap) && decide (eb a.m.lr=eb b.m.lr) && decide (dK a.m.ap=dK c.m.ap) && decide (eb a.m.lr=eb c.m.lr)
 | _,_,_=>false
abbrev Dw:ByteArray:=⟨#[97]⟩
abbrev nmT:ByteArray:=⟨#[116]⟩
abbrev IY:ByteArray:=⟨#[116,101,97]⟩
open Go Go.Proofs Go.Proofs.Tryz
theorem aef (x:Int):0<=IntKind.u32.wrap x/\IntKind.u32.wrap x<=4294967295:=by
 have:IntKind.u32.wrap x=x % 4294967296:=by simp [IntKind.wrap,IntKind.bits,IntKind.signed]
 omega
theorem Sk (l:List Int) (c:Int):yO (l++[c])=IntKind.u32.wrap (sN .xor .u32 (yO l) c * 16777619):=by simp [yO]
theorem afK (l:List Int):0<=yO l/\yO l<=4294967295:=by
 rcases List.eq_nil_or_concat l with rfl | ⟨l,c,rfl⟩
 ·decide
 ·rw [List.concat_eq_append,Sk]; exact aef _
theorem aeg (h:Int) (h0:0<=h) (n:Nat):h.tmod (n:Int)=((h.toNat % n:Nat):Int):=by
 obtain ⟨k,rfl⟩:=Int.eq_ofNat_of_zero_le h0
 rfl
theorem afL (aK:ByteArray) (n:Nat) (h:1<=n):nf aK n < n:=Nat.mod_lt _ h
theorem acS (aK:ByteArray) (n:Nat) (hn:1<=n/\n<=8) (hc:aK.size<=cE) (L:List HP):Fn prog 19 #[.string aK,.int .i64 (n:Int)] L (λv L'=>v=.int .i64 (nf aK n:Int)/\L'=L):=by
 have fW:=nE aK
 have hh:=afK (f4 aK)
 simp only [cE] at hc
 refine aH func19 J J J J<|aa<|ae J<|O<|ar<|aa<|Y J<|ab J J (bU J J)<|dx 9 J (by omega)<|O<|aT J<|az<|ai<|aa<|ae J<|O<|ar<|aa<|Y J<|El J J (by simp only [cE]; omega) λkZ k9=>ab J J (bY J)<|Y J<|O<|aX<|cY (σ:=Nat) [1,11,12] (λi=>i<=(f4 aK).length) (λi kv=>(13,.int .i64 (i:Int))::(5,.int .u32 (yO ((f4 aK).take i)))::kv) (λi=>sl (aI .u8) kZ k9 (f4 aK)::L) (λi=>(f4 aK).length - i) (0) J (dF _) (al) (dc J) λi hi=>aa<|ab J J (bU J J)<|O<|ar<|bz J (λgK=> ?_) (λgK=> ?_)
 ·refine az<|ai<|ar<|aX ?_
  obtain ⟨x,hx⟩:∃ x,(f4 aK)[i]? =some x:=⟨_,cj (by omega)⟩
  have se:=Rg hx
  refine aa<|uG J J J slk hx λakp akq akr=>ab J J (rG J J)<|ae J<|O<|aa<|Y J<|Y J<|ab J J (HT J (by rw [IntKind.wrap]; simp [IntKind.bits,IntKind.signed]; omega))<|ab J J (tS (by simp) J J)<|ae J<|O<|aQ<|Y J<|ab J J (Ub J J)<|br 22 (v':=.int .u32 (yO ((f4 aK).take (i+1)))) J (by rw [ll hx,Sk])<|ae J<|O<|bA<|ai<|aQ<|ab J J (bE J J (by omega))<|cz 23 J<|Y J<|O<|ai ?_
  exact ⟨i+1,(by omega),by omega,bO rfl⟩
 refine cw<|aY<|aY<|cu<|ai ?_
 obtain rfl:i=(f4 aK).length:=by omega
 rw [Cg]
 have cL:=afL aK n hn.1
 exact aa<|Y J<|ab J J (HT J (IntWalk.u64_in _ (by omega)))<|Y J<|ab J J (HT J (IntWalk.u64_in _ (by omega)))<|ab J J (AC J J (by omega))<|br 28 (v':=.int .u64 (nf aK n:Int)) J (bi (Value.int .u64) (aeg _ hh.1 n))<|ab J J (HT J (IntWalk.i64_in _ (by omega)))<|ae J<|O<|av<|cI J J
structure cO where
 Ka:Value
 node:Bool
 up:Bool
abbrev AZ (k:cO):List Value:=[k.Ka,.bool k.node,.bool k.up]
def me:bZ cO:=⟨3,λ_ a cs=>cs=AZ a/\a.Ka.oneCell'=true,λ_ h=>h,λh=>by rw [h.1]; rfl,λh v hv=>by rw [h.1] at hv; simp at hv; rcases hv with rfl | rfl | rfl; exact h.2; rfl; rfl⟩
section
variable {r:Option Nat} {n:Nat} {P:Program} {ops:Array Oper} {rest:List Oper} {KK:St->Prop} {D:List Deferred} {E:cZ} {L L' L0:List HP} {d:Nat} {ty:TypeId} {pos:String} {af:Array Edge}
variable {κ α:Type} [DecidableEq κ] {K:hU κ} {R:bZ α} {ag:Bool} {b:Nat} {m:List (κ × α)}
theorem qL {x y z:Operand} {t kt et:TypeId} {k:κ} {u:α} {cs:List Value} (m':List (κ × α)) [ht:dy P t (.map kt et)] [hf:iI L b κ α K R ag m L0] [hk:kw P kt K] (hx:ev E x=some (.map (some b))) (hy:ev E y=some (K.enc k)) (hz:ev E z=some (ij ag cs)) (cX:K.ok k) (hr:bV L0 (λM=>R.fO M u cs)) (hm:((k,u)::fS m k).Perm m') 
  (h:TL r n P ops rest ⟨D,E,cy K R ag b m'::L0⟩ KK):TL r n P ops (⟨none,.insert t x y z,ty,pos,af,none⟩::rest) ⟨D,E,L⟩ KK:=
 yo rfl rfl (λ_ e=>by cases e) λW a w hh=>by
  obtain ⟨w',gR,hs⟩:=Um (P:=P) (t:=t) (kt:=kt) (et:=et) cX hr hm (hh.2.ay hf.g)
  exact ⟨.skip,w',_,by simp [execOp,hh.1.ev hx,hh.1.ev hy,hh.1.ev hz,gR],.inl rfl,hs,h⟩
end
theorem HS (f:FuncId) (L:List HP):Fn prog 42 #[.func (.func f) #[] #[]] L (λv L'=>∃ bx,v=.agg #[.func (.func 87) #[] #[bG bx],.bool true,.bool true]/\L'=cells bx [.func (.func f) #[] #[]] 122::L):=by
 exact aH func42 J J J J<|aa<|bS J J J λb1=>bB J J λb2=>O<|aa<|ab J J (gy J J)<|ab J J (bI J J)<|aE J J<|O<|av<|eK (.inl J) J (bf.agg J J) bu.g (⟨b1,J,J⟩)
structure lQ where
 b8:Nat
 b9:Nat
 mr:Nat
 ix:Nat
abbrev pP (b:Nat) (B:lQ):cO:=⟨.func (.func 35) #[bG b] #[],true,true⟩
abbrev qB (b:Nat) (B:lQ):cO:=⟨.func (.func 36) #[bG b] #[],false,false⟩
abbrev rA (b:Nat) (B:lQ):cO:=⟨.func (.func 37) #[bG b] #[],false,false⟩
abbrev sr (b:Nat) (B:lQ):cO:=⟨.func (.func 38) #[bG b] #[],false,false⟩
abbrev tz (b:Nat) (B:lQ):cO:=⟨.func (.func 39) #[bG b] #[],true,true⟩
abbrev uv (b:Nat) (B:lQ):cO:=⟨.func (.func 40) #[bG b] #[],true,false⟩
abbrev vP (b:Nat) (B:lQ):cO:=⟨.func (.func 41) #[bG b] #[],false,false⟩
abbrev kd8 (b:Nat) (B:lQ):cO:=⟨.func (.func 87) #[] #[bG B.b8],true,true⟩
abbrev kd9 (b:Nat) (B:lQ):cO:=⟨.func (.func 87) #[] #[bG B.b9],true,true⟩
abbrev alb (b:Nat) (B:lQ):cO:=⟨.func (.func 87) #[] #[bG B.mr],true,true⟩
abbrev Dx (b:Nat) (B:lQ):cO:=⟨.func (.func 49) #[bG b] #[],true,true⟩
abbrev alc (b:Nat) (B:lQ):cO:=⟨.func (.func 87) #[] #[bG B.ix],true,true⟩
abbrev Jl (b:Nat) (B:lQ):cO:=⟨.func (.func 52) #[] #[],true,true⟩
abbrev OI (b:Nat) (B:lQ):cO:=⟨.func (.func 54) #[] #[],true,true⟩
abbrev Dl (b:Nat) (B:lQ):List (Int × cO):=[(14,OI b B),(13,Jl b B),(12,alc b B),(11,Dx b B),(10,alb b B),(9,kd9 b B),(8,kd8 b B),(7,vP b B),(6,uv b B),(5,tz b B),(4,sr b B),(3,rA b B),(2,qB b B),(1,pP b B)]
abbrev wT (b bm:Nat) (B:lQ) (L:List HP):List HP:=cy eL me true bm (Dl b B)::cells B.ix [.func (.func 50) #[] #[]] 122::cells B.mr [.func (.func 47) #[] #[]] 122::cells B.b9 [.func (.func 45) #[] #[]] 122::cells B.b8 [.func (.func 43) #[] #[]] 122::L
theorem Cu (b:Nat):Fn prog 18 #[bG b] L (λv L'=>∃ bm B,v=.map (some bm)/\L'=wT b bm B L):=by
 refine aH func18 J J J J<|aa<|ae J<|O<|aa<|o7 eL me true J λbm=>Y J<|ab J J (gy J J)<|ab J J (bI J J)<|qL (K:=eL) (R:=me) (k:=1) (u:=pP b ⟨0,0,0,0⟩) [(1,(pP b ⟨0,0,0,0⟩:cO))] J J J (show bP .i64 1 by decide) (bV.const λ_=>⟨J,J⟩) (.refl _)<|Y J<|ab J J (gy J J)<|ab J J (bI J J)<|qL (K:=eL) (R:=me) (k:=2) (u:=qB b ⟨0,0,0,0⟩) [(2,(qB b ⟨0,0,0,0⟩:cO)),(1,(pP b ⟨0,0,0,0⟩:cO))] J J J (show bP .i64 2 by decide) (bV.const λ_=>⟨J,J⟩) (.refl _)<|Y J<|ab J J (gy J J)<|ab J J (bI J J)<|qL (K:=eL) (R:=me) (k:=3) (u:=rA b ⟨0,0,0,0⟩) [(3,(rA b ⟨0,0,0,0⟩:cO)),(2,(qB b ⟨0,0,0,0⟩:cO)),(1,(pP b ⟨0,0,0,0⟩:cO))] J J J (show bP .i64 3 by decide) (bV.const λ_=>⟨J,J⟩) (.refl _)<|Y J<|ab J J (gy J J)<|ab J J (bI J J)<|qL (K:=eL) (R:=me) (k:=4) (u:=sr b ⟨0,0,0,0⟩) [(4,(sr b ⟨0,0,0,0⟩:cO)),(3,(rA b ⟨0,0,0,0⟩:cO)),(2,(qB b ⟨0,0,0,0⟩:cO)),(1,(pP b ⟨0,0,0,0⟩:cO))] J J J (show bP .i64 4 by decide) (bV.const λ_=>⟨J,J⟩) (.refl _)<|Y J<|ab J J (gy J J)<|ab J J (bI J J)<|qL (K:=eL) (R:=me) (k:=5) (u:=tz b ⟨0,0,0,0⟩) [(5,(tz b ⟨0,0,0,0⟩:cO)),(4,(sr b ⟨0,0,0,0⟩:cO)),(3,(rA b ⟨0,0,0,0⟩:cO)),(2,(qB b ⟨0,0,0,0⟩:cO)),(1,(pP b ⟨0,0,0,0⟩:cO))] J J J (show bP .i64 5 by decide) (bV.const λ_=>⟨J,J⟩) (.refl _)<|Y J<|ab J J (gy J J)<|ab J J (bI J J)<|qL (K:=eL) (R:=me) (k:=6) (u:=uv b ⟨0,0,0,0⟩) [(6,(uv b ⟨0,0,0,0⟩:cO)),(5,(tz b ⟨0,0,0,0⟩:cO)),(4,(sr b ⟨0,0,0,0⟩:cO)),(3,(rA b ⟨0,0,0,0⟩:cO)),(2,(qB b ⟨0,0,0,0⟩:cO)),(1,(pP b ⟨0,0,0,0⟩:cO))] J J J (show bP .i64 6 by decide) (bV.const λ_=>⟨J,J⟩) (.refl _)<|Y J<|ab J J (gy J J)<|ab J J (bI J J)<|qL (K:=eL) (R:=me) (k:=7) (u:=vP b ⟨0,0,0,0⟩) [(7,(vP b ⟨0,0,0,0⟩:cO)),(6,(uv b ⟨0,0,0,0⟩:cO)),(5,(tz b ⟨0,0,0,0⟩:cO)),(4,(sr b ⟨0,0,0,0⟩:cO)),(3,(rA b ⟨0,0,0,0⟩:cO)),(2,(qB b ⟨0,0,0,0⟩:cO)),(1,(pP b ⟨0,0,0,0⟩:cO))] J J J (show bP .i64 7 by decide) (bV.const λ_=>⟨J,J⟩) (.refl _)<|aJ J J (HS 43 _) ?_
 rintro _ _ ⟨x8,rfl,rfl⟩
 refine qL (K:=eL) (R:=me) (k:=8) (u:=⟨.func (.func 87) #[] #[bG x8],true,true⟩) [(8,(⟨.func (.func 87) #[] #[bG x8],true,true⟩:cO)),(7,(vP b ⟨0,0,0,0⟩:cO)),(6,(uv b ⟨0,0,0,0⟩:cO)),(5,(tz b ⟨0,0,0,0⟩:cO)),(4,(sr b ⟨0,0,0,0⟩:cO)),(3,(rA b ⟨0,0,0,0⟩:cO)),(2,(qB b ⟨0,0,0,0⟩:cO)),(1,(pP b ⟨0,0,0,0⟩:cO))] J J J (show bP .i64 8 by decide) (bV.const λ_=>⟨J,J⟩) (.refl _)<|aJ J J (HS 45 _) ?_
 rintro _ _ ⟨x9,rfl,rfl⟩
 refine qL (K:=eL) (R:=me) (k:=9) (u:=⟨.func (.func 87) #[] #[bG x9],true,true⟩) [(9,(⟨.func (.func 87) #[] #[bG x9],true,true⟩:cO)),(8,(⟨.func (.func 87) #[] #[bG x8],true,true⟩:cO)),(7,(vP b ⟨0,0,0,0⟩:cO)),(6,(uv b ⟨0,0,0,0⟩:cO)),(5,(tz b ⟨0,0,0,0⟩:cO)),(4,(sr b ⟨0,0,0,0⟩:cO)),(3,(rA b ⟨0,0,0,0⟩:cO)),(2,(qB b ⟨0,0,0,0⟩:cO)),(1,(pP b ⟨0,0,0,0⟩:cO))] J J J (show bP .i64 9 by decide) (bV.const λ_=>⟨J,J⟩) (.refl _)<|aJ J J (HS 47 _) ?_
 rintro _ _ ⟨B8,rfl,rfl⟩
 refine qL (K:=eL) (R:=me) (k:=10) (u:=⟨.func (.func 87) #[] #[bG B8],true,true⟩) [(10,(⟨.func (.func 87) #[] #[bG B8],true,true⟩:cO)),(9,(⟨.func (.func 87) #[] #[bG x9],true,true⟩:cO)),(8,(⟨.func (.func 87) #[] #[bG x8],true,true⟩:cO)),(7,(vP b ⟨0,0,0,0⟩:cO)),(6,(uv b ⟨0,0,0,0⟩:cO)),(5,(tz b ⟨0,0,0,0⟩:cO)),(4,(sr b ⟨0,0,0,0⟩:cO)),(3,(rA b ⟨0,0,0,0⟩:cO)),(2,(qB b ⟨0,0,0,0⟩:cO)),(1,(pP b ⟨0,0,0,0⟩:cO))] J J J (show bP .i64 10 by decide) (bV.const λ_=>⟨J,J⟩) (.refl _)<|Y J<|ab J J (gy J J)<|ab J J (bI J J)<|qL (K:=eL) (R:=me) (k:=11) (u:=Dx b ⟨0,0,0,0⟩) [(11,(Dx b ⟨0,0,0,0⟩:cO)),(10,(⟨.func (.func 87) #[] #[bG B8],true,true⟩:cO)),(9,(⟨.func (.func 87) #[] #[bG x9],true,true⟩:cO)),(8,(⟨.func (.func 87) #[] #[bG x8],true,true⟩:cO)),(7,(vP b ⟨0,0,0,0⟩:cO)),(6,(uv b ⟨0,0,0,0⟩:cO)),(5,(tz b ⟨0,0,0,0⟩:cO)),(4,(sr b ⟨0,0,0,0⟩:cO)),(3,(rA b ⟨0,0,0,0⟩:cO)),(2,(qB b ⟨0,0,0,0⟩:cO)),(1,(pP b ⟨0,0,0,0⟩:cO))] J J J (show bP .i64 11 by decide) (bV.const λ_=>⟨J,J⟩) (.refl _)<|aJ J J (HS 50 _) ?_
 rintro _ _ ⟨GY,rfl,rfl⟩
 exact qL (K:=eL) (R:=me) (k:=12) (u:=⟨.func (.func 87) #[] #[bG GY],true,true⟩) [(12,(⟨.func (.func 87) #[] #[bG GY],true,true⟩:cO)),(11,(Dx b ⟨0,0,0,0⟩:cO)),(10,(⟨.func (.func 87) #[] #[bG B8],true,true⟩:cO)),(9,(⟨.func (.func 87) #[] #[bG x9],true,true⟩:cO)),(8,(⟨.func (.func 87) #[] #[bG x8],true,true⟩:cO)),(7,(vP b ⟨0,0,0,0⟩:cO)),(6,(uv b ⟨0,0,0,0⟩:cO)),(5,(tz b ⟨0,0,0,0⟩:cO)),(4,(sr b ⟨0,0,0,0⟩:cO)),(3,(rA b ⟨0,0,0,0⟩:cO)),(2,(qB b ⟨0,0,0,0⟩:cO)),(1,(pP b ⟨0,0,0,0⟩:cO))] J J J (show bP .i64 12 by decide) (bV.const λ_=>⟨J,J⟩) (.refl _)<|ab J J (bI J J)<|qL (K:=eL) (R:=me) (k:=13) (u:=Jl b ⟨0,0,0,0⟩) [(13,(Jl b ⟨0,0,0,0⟩:cO)),(12,(⟨.func (.func 87) #[] #[bG GY],true,true⟩:cO)),(11,(Dx b ⟨0,0,0,0⟩:cO)),(10,(⟨.func (.func 87) #[] #[bG B8],true,true⟩:cO)),(9,(⟨.func (.func 87) #[] #[bG x9],true,true⟩:cO)),(8,(⟨.func (.func 87) #[] #[bG x8],true,true⟩:cO)),(7,(vP b ⟨0,0,0,0⟩:cO)),(6,(uv b ⟨0,0,0,0⟩:cO)),(5,(tz b ⟨0,0,0,0⟩:cO)),(4,(sr b ⟨0,0,0,0⟩:cO)),(3,(rA b ⟨0,0,0,0⟩:cO)),(2,(qB b ⟨0,0,0,0⟩:cO)),(1,(pP b ⟨0,0,0,0⟩:cO))] J J J (show bP .i64 13 by decide) (bV.const λ_=>⟨J,J⟩) (.refl _)<|ab J J (bI J J)<|qL (K:=eL) (R:=me) (k:=14) (u:=OI b ⟨0,0,0,0⟩) [(14,(OI b ⟨0,0,0,0⟩:cO)),(13,(Jl b ⟨0,0,0,0⟩:cO)),(12,(⟨.func (.func 87) #[] #[bG GY],true,true⟩:cO)),(11,(Dx b ⟨0,0,0,0⟩:cO)),(10,(⟨.func (.func 87) #[] #[bG B8],true,true⟩:cO)),(9,(⟨.func (.func 87) #[] #[bG x9],true,true⟩:cO)),(8,(⟨.func (.func 87) #[] #[bG x8],true,true⟩:cO)),(7,(vP b ⟨0,0,0,0⟩:cO)),(6,(uv b ⟨0,0,0,0⟩:cO)),(5,(tz b ⟨0,0,0,0⟩:cO)),(4,(sr b ⟨0,0,0,0⟩:cO)),(3,(rA b ⟨0,0,0,0⟩:cO)),(2,(qB b ⟨0,0,0,0⟩:cO)),(1,(pP b ⟨0,0,0,0⟩:cO))] J J J (show bP .i64 14 by decide) (bV.const λ_=>⟨J,J⟩) (.refl _)<|Y J<|ae J<|O<|av<|aZ J J al (⟨bm,⟨x8,x9,B8,GY⟩,J,J⟩)
variable{ty:TypeId}
theorem Cv {κ:Type} [DecidableEq κ] {K:hU κ} {m:List (κ × cO)} {x y:Operand} {t kt et:TypeId} {z:Value} {k:κ} {u:cO} [ht:dy P t (.map kt et)] [hf:iI L b κ cO K me true m L0] [hk:kw P kt K] [hz:l_ P et z] (hx:ev E x=some (.map (some b))) (hy:ev E y=some (K.enc k)) (cX:K.ok k) (hm:cq m k=some u):
  Yl P E L (.lookup t x y true) ty (.tuple #[.agg (List.toArray (AZ u)),.bool true]):=λn D W a w dst pos af g ha hs=>by
 rcases wk (P:=P) (t:=t) (kt:=kt) (et:=et) (z:=z) cX true (hs.ay hf.g) with ⟨g1,g2⟩ | ⟨u',cs,g1,g2,g3⟩
 ·rw [hm] at g1; cases g1
 ·obtain rfl:u=u':=by rw [hm] at g1; exact ez g1
  obtain ⟨M,_,h1⟩:=g2.uS (φ:=λM=>cs=AZ u) (bV.wC (p:=is me u cs) (φ:=λ_=>cs=AZ u) λM k h=>h.1)
  subst h1
  simp [execOp,ha.ev hx,ha.ev hy,g3,ij]
open Go Go.Proofs Go.Proofs.Tryz
abbrev Jm (o:Option Nat):Value:=.pointer (o.map λb=>⟨b,0,none⟩)
def h_:bZ (Option Nat):=⟨1,λ_ o cs=>cs=[Jm o],λ_ h=>h,λh=>by simp [h],λh v hv=>by rw [h] at hv; simp at hv; subst hv; cases ‹Option Nat› <;> rfl⟩
instance:oJ h_ (λo=>[Jm o]):=⟨λ_ _ _ h=>h⟩
instance:oJ gl (λb=>[bG b]):=⟨λ_ _ _ h=>h⟩
def su (bd:Nat):HP:=n_ (λbt:Nat=>[dk bd bt (j3 16777216)]) (λ_=>True)
abbrev fz:=Option Nat × Nat × Option dD
def io:fz->HP
 | (some b,bd,some s)=>nd b bd s
 | (none,bd,none)=>su bd
 | _=>pure False
abbrev tV (m:bQ):ByteArray:=strOfNums (kS m)
abbrev rQ (p:oY):im:=⟨p.id,p.bC,p.cH,tV p.m⟩
abbrev jT (n:Nat) (g:cP):NS:=⟨(n:Int),g.last,g.pk.map rQ⟩
structure nz where
 AN:Option Addr
 cN:Nat
 AD:Option Addr
 cD:Nat
 bn:Nat
 bk:Nat
 Z:List fz
abbrev mX (p:nz):List Value:=[.slice p.AN (p.Z.map (·.1)).length p.cN,.slice p.AD (p.Z.map (·.2.1)).length p.cD,bG p.bn,bG p.bk]
structure lL (g:cP) (p:nz):Prop where
 nodes:p.Z.map (·.2.2)=g.nodes
 len:1<=p.Z.length/\p.Z.length<=7
 e8:g.e8.length=p.Z.length
 pk:∀ x∈g.pk,lT x.m/\f4 (tV x.m)=kS x.m
abbrev D4 (bg:Nat) (g:cP) (p:nz):List HP:=[cells bg (mX p) 85,aN h_ 40 p.AN p.cN (p.Z.map (·.1)),aN gl 103 p.AD p.cD (p.Z.map (·.2.1)),nt p.bn (jT p.Z.length g),ck p.bk g.tm g.e8,c_ (p.Z.map io)]
def sh (bg:Nat) (g:cP):HP:=n_ (D4 bg g) (lL g)
variable{bg:Nat}{g:cP}
instance:jz (sh bg g::L) bg (sh bg g) L:=⟨am.refl _⟩
abbrev sv (bg:Nat) (g:cP) (p:nz) (L:List HP):List HP:=cells bg (mX p) 85::aN h_ 40 p.AN p.cN (p.Z.map (·.1))::aN gl 103 p.AD p.cD (p.Z.map (·.2.1))::nt p.bn (jT p.Z.length g)::ck p.bk g.tm g.e8::c_ (p.Z.map io)::L
theorem vk {c:Code} (h:∀ p,lL g p->T r n P c ⟨D,E,sv bg g p L⟩ Q):T r n P c ⟨D,E,sh bg g::L⟩ Q:=sT h
variable{L3 L4 L5 L6:List HP}
theorem CK (bg:Nat) (g:cP) (p:nz) [h1:fL L bg (mX p) 85 L1] [h2:cR L1 (aN h_ 40 p.AN p.cN (p.Z.map (·.1))) L2] [h3:cR L2 (aN gl 103 p.AD p.cD (p.Z.map (·.2.1))) L3] [h4:cR L3 (nt p.bn (jT p.Z.length g)) L4] [h5:cR L4 (ck p.bk g.tm g.e8) L5] [h6:cR L5 (c_ (p.Z.map io)) L6] (hi:lL g p):am L (sh bg g::L6):=
 (h1.g.trans (am.cons _ (h2.g.trans (am.cons _ (h3.g.trans (am.cons _ (h4.g.trans (am.cons _ (h5.g.trans (am.cons _ h6.g)))))))))).trans (nG (F:=D4 bg g) (φ:=lL g) p hi)
variable{Z:List fz}{z:fz}
theorem IG {c:Code} (hz:Z[i]? =some z) [h1:cR L (c_ (Z.map io)) L0] (h:T r n P c ⟨D,E,io z::c_ ((Z.map io).set i gP)::L0⟩ Q):T r n P c ⟨D,E,L⟩ Q:=b_ (h1.g.trans (wh (by rw [e_,hz]; rfl))) h
theorem US (hz:Z[i]? =some z) [h1:cR L (c_ (Z.map io)) L0] (h:TL r n P ops rest ⟨D,E,io z::c_ ((Z.map io).set i gP)::L0⟩ K):TL r n P ops rest ⟨D,E,L⟩ K:=bX (h1.g.trans (wh (by rw [e_,hz]; rfl))) h
theorem T9 (z':fz) (hz:Z[i]? =some z) [h1:cR L (io z') L1] [h2:cR L1 (c_ ((Z.map io).set i gP)) L2]:am L (c_ ((Z.set i z').map io)::L2):=
 (h1.g.trans (am.cons _ h2.g)).trans ((EL (q:=io z') (by simpa using (dX.1 hz).1)).trans (by rw [l8]; exact am.refl _))
theorem Vj (h:∀ bt,TL r n P ops rest ⟨D,E,dk bd bt (j3 16777216)::L⟩ K):TL r n P ops rest ⟨D,E,su bd::L⟩ K:=yy λbt _=>h bt
variable{d:Nat}
theorem T_ (hz:Z[i]? =some (none,d,none)) [h1:cR L (c_ (Z.map io)) L0] (h:TL r n P ops rest ⟨D,E,su d::c_ ((Z.map io).set i gP)::L0⟩ K):TL r n P ops rest ⟨D,E,L⟩ K:=US (z:=(none,d,none)) hz h
variable{s:dD}
theorem tO (hz:Z[i]? =some (some b,d,some s)) [h1:cR L (c_ (Z.map io)) L0] (h:TL r n P ops rest ⟨D,E,nd b d s::c_ ((Z.map io).set i gP)::L0⟩ K):TL r n P ops rest ⟨D,E,L⟩ K:=US (z:=(some b,d,some s)) hz h
theorem EC (hz:Z[i]? =some z) [h1:cR L (nd b d s) L1] [h2:cR L1 (c_ ((Z.map io).set i gP)) L2]:am L (c_ ((Z.set i (some b,d,some s)).map io)::L2):=T9 (h1:=h1) (some b,d,some s) hz
theorem aeh (hz:Z[i]? =some z) [h1:cR L (su d) L1] [h2:cR L1 (c_ ((Z.map io).set i gP)) L2]:am L (c_ ((Z.set i (none,d,none)).map io)::L2):=T9 (h1:=h1) (none,d,none) hz
structure ald where
 DB:List Nat
 A:Option Addr
 c:Nat
structure ale where
 i:Nat
 Z:List fz
theorem aip (DB:List Nat) (bd:Nat) [h1:cR L (su bd) L1] [h2:cR L1 (c_ (DB.map su)) L2]:am L (c_ ((DB++[bd]).map su)::L2):=(h1.g.trans (am.cons _ h2.g)).trans (Mt (f:=su) (bs:=DB) (b:=bd))
theorem Ti:∀ DB:List Nat,((DB.map λd=>((none,d,none):fz)).map (·.1))=List.replicate DB.length (none:Option Nat)
 | []=>rfl
 | _::t=>bi (none::·) (Ti t)
theorem aiq (hl:Z.length=n) (h:∀ j,j < n->∃ b d,Z[j]? =some (some b,d,some (nL (n:Int) (j:Int) 0))):Z.map (·.2.2)=(p8 n).nodes:=by
 apply zP
 intro j
 unfold p8
 dsimp only
 rw [e_,e_]
 by_cases hj:j < n
 ·obtain ⟨b,d,hz⟩:=h j hj
  rw [hz,List.getElem?_range hj]; rfl
 ·rw [xT (by omega),xT (by simpa using Nat.le_of_not_lt hj)]; rfl
set_option maxHeartbeats 1000000 in
theorem Y_ (n:Nat) (hn:1<=n/\n<=7) (L:List HP):Fn prog 12 #[F8 (n:Int)] L (λv L'=>∃ b,v=.tuple #[bG b,.int .i64 0]/\L'=sh b (p8 n)::L):=by
 refine aH func12 J J J J<|aa<|bS J J J λb1=>ae J<|ae J<|O<|aa<|ao J<|ax J J ?_
 refine wq h_ none (m:=n) (k:=n) J J J (fo _) (by omega) (by omega) J J J (λ_=>J) λix=>ab J J (bI J J)<|bS J J J λxx=>ae J<|O<|ar<|aa<|ao J<|ax J J<|Y J<|O<|aX<|cY (σ:=ald) [1,4,16] (λg=>g.DB.length<=n) (λg kv=>(17,.int .i64 (g.DB.length:Int))::kv) (λg=>cells xx [.slice (some ⟨ix,0,none⟩) (List.replicate n (none:Option Nat)).length n,.slice g.A g.DB.length g.c,.pointer none,.pointer none] 85::aN gl 103 g.A g.c g.DB::c_ (g.DB.map su)::aN h_ 40 (some ⟨ix,0,none⟩) n (List.replicate n none)::cells b1 [.int .i64 (n:Int),.int .i64 100,.int .i64 0,.int .i64 1048576,.int .i64 16777216] 28::L) (λg=>n - g.DB.length) (⟨[],none,0⟩) J (dF _) ((du gl 103 none _).trans ((show am _ (c_ (([]:List Nat).map su)::_) from g9 (L:=[])).trans al)) (dc J) ?_
 rintro ⟨DB,A,c⟩ Kb
 dsimp only at Kb ⊢
 refine aa<|ab J J (bU J J)<|O<|ar<|bz J (λjG=> ?_) (λjG=> ?_)
 ·refine az<|ai<|ar<|aX<|aa<|ao J<|ax J J<|aJ J J (abN 16777216 (by decide) _) ?_
  rintro _ _ ⟨bd,bt,rfl,rfl⟩
  refine Y J<|ab J J (aO J J)<|ab J J (aO J J)<|ae J<|ae J<|O<|ar<|aa<|Y J<|ab J J (dB J J)<|br 26 (v':=.bool false) J (bi Value.bool (by decide))<|O<|aT J<|az<|ai ?_
  refine b_ (show am _ (su bd::_) from nG (F:=λbt:Nat=>[dk bd bt (j3 16777216)]) (φ:=λ_=>True) bt trivial)<|aQ<|Y J<|Y J<|aS J<|ao J<|ax J J<|Y J<|ef J J J J J J λxG=> ?_
  refine eh (k:=1) gl [bd] (bV.const λM=>⟨[bG bd],[],J,J,J⟩) J (by decide)<|bF<|aV 34 (.slice (some ⟨xG,0,none⟩) [bd].length 1) J ?_
  refine fi J J J J J slk (by simp only [dO,ej]; omega) λgM gN=>aS J<|ao J<|aE J J<|O<|bA<|ai<|aQ ?_
  exact bX (aip DB bd)<|ab J J (bE J J (by omega))<|br 38 (v':=.int .i64 (((DB++[bd]).length:Nat):Int)) J (by simp)<|Y J<|O<|ai<|⟨⟨DB++[bd],gM,gN⟩,(by simp; omega),(by simp; omega),bO J⟩
 refine cw<|aY<|aY<|cu<|ai ?_
 obtain tp:DB.length=n:=by omega
 have DW:(List.replicate n (none:Option Nat)).length=n:=tC
 rw [show DB.map su=(DB.map λd=>((none,d,none):fz)).map io from by rw [sE]; rfl]
 refine aa<|Y J<|ao J<|ax J J<|aJ J J (aed (n:Int) (by omega) _) ?_
 rintro _ _ ⟨bn,rfl,rfl⟩
 refine Y J<|ab J J (aO J J)<|ab J J (aO J J)<|aS J<|ao J<|aE J J<|O<|aa<|Y J<|ao J<|ax J J<|aJ J J (ab5 n hn _) ?_
 rintro _ _ ⟨bk,rfl,rfl⟩
 refine Y J<|ab J J (aO J J)<|ab J J (aO J J)<|aS J<|ao J<|aE J J<|O<|ar<|aa<|Y J<|aS J<|ao J<|ax J J<|ab J J (bY J)<|Y J<|O<|aX<|cY (σ:=ale) [1,4,61] (λg=>g.i<=n/\g.Z.length=n/\g.Z.map (·.2.1)=DB/\(∀ j,j < g.i->∃ b d,g.Z[j]? =some (some b,d,some (nL (n:Int) (j:Int) 0)))/\∀ j z,g.i<=j->g.Z[j]? =some z->z=(none,z.2.1,none)) (λg kv=>(62,.int .i64 (g.i:Int))::kv) (λg=>cells xx [.slice (some ⟨ix,0,none⟩) (List.replicate n (none:Option Nat)).length n,.slice A DB.length c,bG bn,bG bk] 85::aN h_ 40 (some ⟨ix,0,none⟩) n (g.Z.map (·.1))::aN gl 103 A c DB::nt bn (yN (n:Int))::ck bk 0 (List.replicate n 0)::c_ (g.Z.map io)::cells b1 [.int .i64 (n:Int),.int .i64 100,.int .i64 0,.int .i64 1048576,.int .i64 16777216] 28::L) (λg=>n - g.i) (⟨0,DB.map λd=>((none,d,none):fz)⟩) J (⟨dF _,by simp [tp],by simp [sE,Function.comp_def],λj h=>absurd h (Nat.not_lt_zero _),λj z _ hz=>by rw [e_] at hz; obtain ⟨d,_,rfl⟩:=iq.1 hz; rfl⟩) ((by rw [show ((DB.map λd=>((none,d,none):fz)).map (·.1))=List.replicate n (none:Option Nat) from by rw [Ti,tp]]; exact al)) (dc J) ?_
 rintro ⟨i,Z⟩ ⟨fV,ga,zF,D5,Qe⟩
 dsimp only at fV ga zF D5 Qe ⊢
 refine aa<|ab J J (bU J J)<|O<|ar<|bz J (λOT=> ?_) (λOT=> ?_)
 ·refine az<|ai<|ar<|aX<|aa<|Y J<|ae J<|O ?_
  obtain ⟨z,hz⟩:∃ z,Z[i]? =some z:=⟨_,cj (by omega)⟩
  obtain ⟨zn,d,zs⟩:=z
  obtain ⟨rfl,_,rfl⟩:zn=none/\d=d/\zs=none:=by have:=Qe i _ (fo _) hz; injection this with a1 a2; injection a2 with a3 a4; exact ⟨a1,rfl,a4⟩
  have Kc:DB[i]? =some d:=by rw [<- zF,e_,hz]; rfl
  refine gr (bJ (A:=A) (c:=c) (R:=gl)) Kc λbl ol el=> ?_
  subst el
  refine bW (cells b1 [.int .i64 (n:Int),.int .i64 100,.int .i64 0,.int .i64 1048576,.int .i64 16777216] 28::cells xx [.slice (some ⟨ix,0,none⟩) (List.replicate n (none:Option Nat)).length n,.slice (some ⟨bl,ol,none⟩) DB.length c,bG bn,bG bk] 85::aN gl 103 (some ⟨bl,ol,none⟩) c DB::[]) [] [0,2,4,6,8,10,12,14,16,19,20,22,24,26,28] (by kernel_rfl) al<|cf J J J<|aq J J<|aq J J<|aL J J<|aw J J<|aG J J J<|aq J J<|ak J J (iX (R:=gl) (xs:=DB) J J J Kc)<|ak J J (gi (R:=gl) (c:=c) (xs:=DB) (q:=0) J bJ Kc J)<|an J<|T_ hz<|Vj λbt=>aJ J J (Si (n:Int) (i:Int) 0 (by omega) (by omega) (by decide)) ?_
  rintro _ _ ⟨bN,rfl,rfl⟩
  refine au<|aq J J<|ak J J (aO J J)<|ak J J (aO J J)<|ak J J (bT J)<|ak J J (bT J)<|aR<|ar<|aa<|Y J<|ab J J (dB J J)<|br 79 (v':=.bool false) J (bi Value.bool (by decide))<|O<|aT J<|az<|ai ?_
  have pQ:(Z.map (·.1))[i]? =some none:=by rw [e_,hz]; rfl
  refine aQ<|Y J<|aS J<|ao J<|ax J J<|Y J<|Y J<|ab J J (pS (R:=h_) (xs:=Z.map (·.1)) J J (by simp [ga]) pQ) ?_
  refine z_ (A:=some ⟨ix,0,none⟩) (c:=n) (R:=h_) pQ λg5 l5 P_ ug=> ?_
  obtain ⟨rfl⟩:g5=ix:=by cases P_; rfl
  obtain ⟨lv,rfl⟩:=wt ug
  refine fc J J J J J J ?_
  refine jK (R:=h_) ix (some bN) (bV.const λ_=>J) ?_
  rw [show (Z.map (·.1)).set i (some bN)=(Z.set i (some bN,d,some (nL (n:Int) (i:Int) 0))).map (·.1) from by rw [l8]]
  refine bX (EC (b:=bN) (d:=d) (s:=nL (n:Int) (i:Int) 0) hz)<|O<|bA<|ai<|aQ<|ab J J (bE J J (by omega))<|cz 88 J<|Y J<|O<|ai ?_
  exact ⟨⟨i+1,Z.set i (some bN,d,some (nL (n:Int) (i:Int) 0))⟩,⟨by dsimp only; omega,by simp [ga],by dsimp only; rw [l8,zF]; exact pd Kc,λj hj=>by (dsimp only at hj ⊢; rw [uz]; by_cases e:i=j; (subst e; rw [if_pos rfl,if_pos (by omega)]; exact ⟨bN,d,rfl⟩); (rw [if_neg e]; exact D5 j (by omega))),λj z hj n5=>by (dsimp only at hj n5; rw [uz,if_neg (by omega)] at n5; exact Qe j z (by omega) n5)⟩,(by dsimp only; omega),bO rfl⟩
 refine cw<|aY<|aY<|cu<|ai<|aa<|Y J<|ae J<|ae J<|O<|av ?_
 obtain rfl:i=n:=by omega
 rw [show (List.replicate i (none:Option Nat)).length=(Z.map (·.1)).length from by simp [ga], <- zF,show yN (i:Int)=jT Z.length (p8 i) from by rw [ga]; rfl]
 exact aF.ay (CK xx (p8 i) ⟨some ⟨ix,0,none⟩,i,A,c,bn,bk,Z⟩ ⟨aiq ga D5,by dsimp only; omega,by simp [ga],by simp⟩)<|eS J J J al (⟨xx,J,J⟩)
open Go Go.Proofs Go.Proofs.Tryz
abbrev VO (a:yP):List Value:=[.int .i64 a.step,.int .i64 a.pw,.int .i64 a.node,.int .i64 a.call.id,.int .i64 a.call.kind,.string a.call.aK,.string a.call.di,.int .i64 a.call.eZ,.bool a.call.jy,.string a.call.cV]
def air (a:yP):Prop:=bP .i64 a.step/\bP .i64 a.pw/\bP .i64 a.node/\nO a.call
def mf:bZ yP:=⟨10,λ_ a cs=>cs=VO a/\air a,λ_ h=>h,λh=>by rw [h.1]; rfl,λh v hv=>by rw [h.1] at hv; simp at hv; rcases hv with rfl | rfl | rfl | rfl | rfl | rfl | rfl | rfl | rfl | rfl <;> rfl⟩
instance:oJ mf VO:=⟨λ_ _ _ h=>h.1⟩
def NW (t:lu) (p:jw):List Value:=[.int .i64 t.step,.int .i64 t.pw,.int .i64 t.node]++vj t.dR p
def IZ (t:lu) (p:jw):List HP:=Bw t.dR p
def Nl (t:lu):Prop:=bP .i64 t.step/\bP .i64 t.pw/\bP .i64 t.node/\IW t.dR
def eu:bZ lu:=mo 16 NW IZ Nl (λx p=>rfl) (λx p=>rfl)
instance:yU eu jw 16 NW IZ Nl:=⟨_,_,rfl⟩
structure Kd where
 AS:Option Addr
 cS:Nat
 AM:Option Addr
 cM:Nat
 AT:Option Addr
 cT:Nat
abbrev vQ (c:cF) (B:List Nat) (p:Kd):List Value:=[.int .i64 c.n,.int .i64 100,.int .i64 0,.int .i64 1048576,.int .i64 16777216,.slice p.AS B.length p.cS,.int .i64 c.steps,.slice p.AM c.made.length p.cM,.slice p.AT c.told.length p.cT]
structure sw (c:cF) (Z:List (Nat × cP)):Prop where
 sh:Z.map (·.2)=c.eB
 n:1<=c.n/\c.n<=7
 len:1<=Z.length/\Z.length<=8
 nodes:∀ g∈c.eB,(g.nodes.length:Int)=c.n
abbrev jH (z:Nat × cP):HP:=sh z.1 z.2
abbrev Wt (b:Nat) (c:cF) (B:List Nat) (p:Kd):List HP:=[cells b (vQ c B p) 55,aN gl 56 p.AS p.cS B,aN mf 45 p.AM p.cM c.made,aN eu 120 p.AT p.cT c.told]
def fX (b:Nat) (c:cF) (B:List Nat):HP:=n_ (Wt b c B) (λ_=>True)
abbrev Ke (b:Nat) (c:cF) (Z:List (Nat × cP)):List HP:=[fX b c (Z.map (·.1)),c_ (Z.map jH)]
def cl (b:Nat) (c:cF):HP:=n_ (Ke b c) (sw c)
variable{B:List Nat}
instance {c:cF}:jz (fX b c B::L) b (fX b c B) L:=⟨am.refl _⟩
instance {c:cF}:jz (cl b c::L) b (cl b c) L:=⟨am.refl _⟩
abbrev Wu (b:Nat) (c:cF) (B:List Nat) (p:Kd) (L:List HP):List HP:=cells b (vQ c B p) 55::aN gl 56 p.AS p.cS B::aN mf 45 p.AM p.cM c.made::aN eu 120 p.AT p.cT c.told::L
abbrev XB (b:Nat) (c:cF) (Z:List (Nat × cP)) (L:List HP):List HP:=fX b c (Z.map (·.1))::c_ (Z.map jH)::L
variable{s:cF}
variable{c:Code}
theorem BA (h:∀ Z,sw s Z->T r n P c ⟨D,E,XB b s Z L⟩ Q):T r n P c ⟨D,E,cl b s::L⟩ Q:=sT h
theorem NX (h:∀ Z,sw s Z->TL r n P ops rest ⟨D,E,XB b s Z L⟩ K):TL r n P ops rest ⟨D,E,cl b s::L⟩ K:=yy h
theorem uY (h:∀ p,T r n P c ⟨D,E,Wu b s B p L⟩ Q):T r n P c ⟨D,E,fX b s B::L⟩ Q:=sT λp _=>h p
theorem Nn (h:∀ p,TL r n P ops rest ⟨D,E,Wu b s B p L⟩ K):TL r n P ops rest ⟨D,E,fX b s B::L⟩ K:=yy λp _=>h p
theorem qM (b:Nat) (s:cF) (B:List Nat) (p:Kd) [h1:fL L b (vQ s B p) 55 L1] [h2:cR L1 (aN gl 56 p.AS p.cS B) L2] [h3:cR L2 (aN mf 45 p.AM p.cM s.made) L3] [h4:cR L3 (aN eu 120 p.AT p.cT s.told) L4]:am L (fX b s B::L4):=
 (h1.g.trans (am.cons _ (h2.g.trans (am.cons _ (h3.g.trans (am.cons _ h4.g)))))).trans (nG (F:=Wt b s B) (φ:=λ_=>True) p trivial)
theorem CL (b:Nat) (s:cF) (Z:List (Nat × cP)) [h1:cR L (fX b s (Z.map (·.1))) L1] [h2:cR L1 (c_ (Z.map jH)) L2] (hi:sw s Z):am L (cl b s::L2):=
 (h1.g.trans (am.cons _ h2.g)).trans (nG (F:=Ke b s) (φ:=sw s) Z hi)
variable{Z:List (Nat × cP)}
theorem Dm (hz:Z[i]? =some (bg,g)) [h1:cR L (c_ (Z.map jH)) L0] (h:T r n P c ⟨D,E,sh bg g::c_ ((Z.map jH).set i gP)::L0⟩ Q):T r n P c ⟨D,E,L⟩ Q:=b_ (h1.g.trans (wh (by rw [e_,hz]; rfl))) h
theorem ais (hz:Z[i]? =some (bg,g)) [h1:cR L (c_ (Z.map jH)) L0] (h:TL r n P ops rest ⟨D,E,sh bg g::c_ ((Z.map jH).set i gP)::L0⟩ K):TL r n P ops rest ⟨D,E,L⟩ K:=bX (h1.g.trans (wh (by rw [e_,hz]; rfl))) h
variable{g':cP}
theorem M4 (hz:Z[i]? =some (bg,g)) [h1:cR L (sh bg g') L1] [h2:cR L1 (c_ ((Z.map jH).set i gP)) L2]:am L (c_ ((Z.set i (bg,g')).map jH)::L2):=
 (h1.g.trans (am.cons _ h2.g)).trans ((EL (q:=sh bg g') (by simpa using (dX.1 hz).1)).trans (by rw [l8]; exact am.refl _))
theorem afM (Z:List (Nat × cP)) (bg:Nat) (g:cP) [h1:cR L (sh bg g) L1] [h2:cR L1 (c_ (Z.map jH)) L2]:am L (c_ ((Z++[(bg,g)]).map jH)::L2):=(h1.g.trans (am.cons _ h2.g)).trans (Mt (f:=jH) (bs:=Z) (b:=(bg,g)))
structure alf where
 Z:List (Nat × cP)
 A:Option Addr
 c:Nat
set_option maxHeartbeats 1000000 in
theorem RJ (n k:Nat) (hn:1<=n/\n<=7) (hk:1<=k/\k<=8) (L:List HP):Fn prog 4 #[F8 (n:Int),.int .i64 (k:Int)] L (λv L'=>∃ b,v=.tuple #[bG b,.int .i64 0]/\L'=cl b (yD n k)::L):=by
 refine aH func4 J J J J<|aa<|bS J J J λb2=>ae J<|ae J<|O<|ar<|aa<|bD J J<|aB J J (Re (n:Int) (by omega) _)<|ab J J (dB J J)<|br 11 (v':=.bool false) J (bi Value.bool (by decide))<|Y J<|aj J<|Y J<|aj J<|ab J J (bU J J)<|aA J<|dx 15 J (by omega)<|Y J<|aj J<|Y J<|aj J<|ab J J (eE J J)<|aA J<|dx 19 J (by omega)<|O<|aT J<|az<|ai<|aa<|bD J J<|ab J J (bI J J)<|bS J J J λBU=>ae J<|O<|ar<|aa<|Y J<|Y J<|O<|aX<|cY (σ:=alf) [2,6,23] (λg=>g.Z.length<=k/\g.Z.map (·.2)=List.replicate g.Z.length (p8 n)) (λg kv=>(24,.int .i64 (g.Z.length:Int))::kv) (λg=>cells BU [.int .i64 (n:Int),.int .i64 100,.int .i64 0,.int .i64 1048576,.int .i64 16777216,.slice g.A (g.Z.map (·.1)).length g.c,.int .i64 0,.slice none 0 0,.slice none 0 0] 55::aN gl 56 g.A g.c (g.Z.map (·.1))::c_ (g.Z.map jH)::cells b2 [.int .i64 (n:Int),.int .i64 100,.int .i64 0,.int .i64 1048576,.int .i64 16777216] 28::L) (λg=>k - g.Z.length) (⟨[],none,0⟩) J (⟨dF _,J⟩) ((by simp only [List.map_nil,ej]; exact (du gl 56 none _).trans ((show am _ (c_ []::_) from g9 (L:=[])).trans al))) (dc J) ?_
 rintro ⟨Z,A,c⟩ ⟨ga,Qf⟩
 dsimp only at ga Qf ⊢
 refine aa<|ab J J (bU J J)<|O<|ar<|bz J (λj_=> ?_) (λj_=> ?_)
 ·refine az<|ai<|ar<|aX<|aa<|bD J J<|aJ J J (Y_ n hn _) ?_
  rintro _ _ ⟨bg,rfl,rfl⟩
  refine Y J<|ab J J (aO J J)<|ab J J (aO J J)<|ae J<|ae J<|O<|ar<|aa<|Y J<|ab J J (dB J J)<|br 32 (v':=.bool false) J (bi Value.bool (by decide))<|O<|aT J<|az<|ai<|aQ<|Y J<|Y J<|aS J<|ao J<|ax J J<|Y J<|ef J J J J J J λKf=> ?_
  refine eh (k:=1) gl [bg] (bV.const λM=>⟨[bG bg],[],J,J,J⟩) J (by decide)<|bF<|aV 40 (.slice (some ⟨Kf,0,none⟩) [bg].length 1) J ?_
  refine fi J J J J J slk (by simp only [dO,ej,gY]; omega) λiA iB=>aS J<|ao J<|aE J J<|O<|bA<|ai<|aQ ?_
  refine bX (afM Z bg (p8 n)) ?_
  rw [show Z.map (·.1)++[bg]=(Z++[(bg,p8 n)]).map (·.1) from by simp]
  refine ab J J (bE J J (by omega))<|br 44 (v':=.int .i64 (((Z++[(bg,p8 n)]).length:Nat):Int)) J (by simp)<|Y J<|O<|ai ?_
  exact ⟨⟨Z++[(bg,p8 n)],iA,iB⟩,⟨by simp; omega,by dsimp only; rw [kp,Qf,eQ,Ce,List.replicate_succ']; rfl⟩,(by simp; omega),bO rfl⟩
 refine cw<|aY<|aY<|cu<|ai<|aa<|Y J<|ae J<|ae J<|O<|av ?_
 obtain hzk:Z.length=k:=by omega
 refine aF.ay (du mf 45 none _) ?_
 refine aF.ay (du eu 120 none _) ?_
 exact aF.ay (show am _ (cl BU (yD n k)::_) from (qM BU (⟨(n:Int),0,List.replicate k (p8 n),[],[]⟩:cF) (Z.map (·.1)) ⟨A,c,none,0,none,0⟩).trans (CL BU (⟨(n:Int),0,List.replicate k (p8 n),[],[]⟩:cF) Z ⟨by dsimp only; rw [Qf,hzk],by dsimp only; omega,by omega,λg hg=>by (obtain rfl:=(List.mem_replicate.1 hg).2; simp [p8])⟩))<|eS J J J al (⟨BU,J,J⟩)
variable{c:cF}
theorem Cw (hB:1<=B.length):Fn prog 17 #[bG b] (fX b c B::L) (λv L'=>v=.bool true/\L'=fX b c B::L):=by
 refine aH func17 J J J J<|aa<|ae J<|O<|uY λp=>aa<|Y J<|ab J J (f8 J J (dh.eJ))<|aV 4 (.bool true) J<|Y J<|aj J<|Y J<|aj J<|aS J<|aj J<|ao J<|aj J<|ax J J<|aj J<|ab J J (bY J)<|aj J<|ab J J (eE J J)<|fd 11 J (by omega)<|aA J<|ae J<|O<|av ?_
 exact aF.ay (qM b c B p)<|cI J J
theorem QS:Fn prog 32 #[bG b] (cl b c::L) (λv L'=>v=.int .i64 c.steps/\L'=cl b c::L):=by
 refine aH func32 J J J J<|BA λZ hi=> ?_
 have zG:=hi.len
 refine aa<|ae J<|O<|ar<|aa<|Y J<|aB J J (Cw (by simp; omega))<|ab J J (ff J)<|aV 5 (.bool false) J<|O<|aT J<|az<|ai<|uY λp=>aa<|Y J<|aS J<|ao J<|ax J J<|ae J<|O<|av ?_
 refine aF.ay (qM b c _ p) ?_
 exact aF.ay (CL b c Z hi)<|cI J J
theorem QT (hz:B[k]? =some bg) (hl:B.length<=8):Fn prog 21 #[bG b,.int .i64 (k:Int)] (fX b c B::L) (λv L'=>v=bG bg/\L'=fX b c B::L):=by
 have hk:k < B.length:=(dX.1 hz).1
 refine aH func21 J J J J<|aa<|ae J<|O<|ar<|aa<|Y J<|aB J J (Cw (by omega))<|ab J J (ff J)<|aV 7 (.bool false) J<|Nn λp=>Y J<|aj J<|Y J<|aj J<|ab J J (bU J J)<|dx 10 J (by omega)<|aA J<|Y J<|aj J<|Y J<|aj J<|Y J<|aj J<|aS J<|aj J<|ao J<|aj J<|ax J J<|aj J<|ab J J (bY J)<|aj J<|ab J J (eV J J)<|dx 19 J (by omega)<|aA J<|O<|aT J<|az<|ai ?_
 obtain ⟨AS,cS,AM,cM,AT,cT⟩:=p
 refine gr (bJ (A:=AS) (c:=cS) (R:=gl)) hz λbl ol el=> ?_
 subst el
 refine aa<|Y J<|aS J<|ao J<|ax J J<|Y J<|ab J J (iX (R:=gl) (xs:=B) J J J hz)<|ab J J (gi (R:=gl) (c:=cS) (xs:=B) (q:=0) J bJ hz J)<|ae J<|O<|av ?_
 exact aF.ay (qM b c B ⟨some ⟨bl,ol,none⟩,cS,AM,cM,AT,cT⟩)<|cI J J
open Go Go.Proofs Go.Proofs.Tryz
abbrev pF (x:i8) (q:Option Addr × Nat):List Value:=[.int .i64 x.kind,.int .i64 x.pw,.int .i64 x.node,.int .i64 x.at_,.int .i64 x.call.id,.int .i64 x.call.kind,.string x.call.aK,.string x.call.di,.int .i64 x.call.eZ,.bool x.call.jy,.string x.call.cV,.int .i64 x.jq,.slice q.1 x.on.length q.2,.slice none 0 0]
abbrev nZ (x:i8) (q:Option Addr × Nat):Value:=.agg (List.toArray (pF x q))
abbrev sx (bg:Nat) (o:Option Nat) (x:i8) (q:Option Addr × Nat) (id k:Int):List Value:=[bG bg,Jm o,.int .i64 x.kind,.int .i64 x.pw,.int .i64 x.node,.int .i64 x.at_,.int .i64 x.call.id,.int .i64 x.call.kind,.string x.call.aK,.string x.call.di,.int .i64 x.call.eZ,.bool x.call.jy,.string x.call.cV,.int .i64 x.jq,.slice q.1 x.on.length q.2,.slice none 0 0,.int .i64 id,.int .i64 k]
abbrev rB (bg:Nat) (o:Option Nat) (x:i8) (q:Option Addr × Nat) (id k:Int):Value:=.agg (List.toArray (sx bg o x q id k))
variable{p:nz}
theorem lL.set {s:dD} (hi:lL g p) (hz:p.Z[i]? =some (some bn,bd,some s)):lL {g with nodes:=g.nodes.set i (some s')} {p with Z:=p.Z.set i (some bn,bd,some s')}:=
 ⟨by dsimp only; rw [l8,hi.nodes],by simpa using hi.len,by simpa using hi.e8,hi.pk⟩
variable{Z:List fz}
theorem VP {s:dD} (hz:Z[i]? =some (some bn,bd,some s)):(Z.set i (some bn,bd,some s')).map (·.1)=Z.map (·.1):=by
 rw [l8]; exact pd (by rw [e_,hz]; rfl)
variable{o o':Option Nat}
theorem Fu {s s':Option dD} (hz:Z[i]? =some (o,bd,s)):(Z.set i (o',bd,s')).map (·.2.1)=Z.map (·.2.1):=by
 rw [l8]; exact pd (by rw [e_,hz]; rfl)
theorem LW (bg:Nat) (p:nz) (Z':List fz) (hl:Z'.length=p.Z.length) (e2:Z'.map (·.2.1)=p.Z.map (·.2.1)) (hi:lL g' {p with Z:=Z'}) [h1:fL L bg (mX p) 85 L1] [h2:cR L1 (aN h_ 40 p.AN p.cN (Z'.map (·.1))) L2] [h3:cR L2 (aN gl 103 p.AD p.cD (p.Z.map (·.2.1))) L3] [h4:cR L3 (nt p.bn (jT p.Z.length g')) L4] [h5:cR L4 (ck p.bk g'.tm g'.e8) L5] [h6:cR L5 (c_ (Z'.map io)) L6]:am L (sh bg g'::L6):=
 (h1.g.trans (am.cons _ (h2.g.trans (am.cons _ (h3.g.trans (am.cons _ (h4.g.trans (am.cons _ (h5.g.trans (am.cons _ h6.g)))))))))).trans (by
  have e:=nG (L:=L6) (F:=D4 bg g') (φ:=lL g') {p with Z:=Z'} hi
  have ec:mX {p with Z:=Z'}=mX p:=by simp [mX,hl,e2]
  dsimp only [D4] at e
  rw [ec,e2,hl] at e
  exact e)
theorem H4 {L7:List HP} (p:nz) {s:dD} (hz:p.Z[i]? =some (some bn,bd,some s)) (hi:lL g' {p with Z:=p.Z.set i (some bn,bd,some s')}) [h1:fL L bg (mX p) 85 L1] [h2:cR L1 (aN h_ 40 p.AN p.cN (p.Z.map (·.1))) L2] [h3:cR L2 (aN gl 103 p.AD p.cD (p.Z.map (·.2.1))) L3] [h4:cR L3 (nt p.bn (jT p.Z.length g')) L4] [h5:cR L4 (ck p.bk g'.tm g'.e8) L5] [h6:cR L5 (nd bn bd s') L6] [h7:cR L6 (c_ ((p.Z.map io).set i gP)) L7]:am L (sh bg g'::L7):=
 (h1.g.trans (am.cons _ (h2.g.trans (am.cons _ (h3.g.trans (am.cons _ (h4.g.trans (am.cons _ (h5.g.trans (am.cons _ ((h6.g.trans (am.cons _ h7.g)).trans (EC (b:=bn) (d:=bd) (s:=s') hz)))))))))))).trans (by
  have e:=nG (L:=L7) (F:=D4 bg g') (φ:=lL g') {p with Z:=p.Z.set i (some bn,bd,some s')} hi
  have ec:mX {p with Z:=p.Z.set i (some bn,bd,some s')}=mX p:=by simp [mX,Fu hz]
  dsimp only [D4] at e
  rw [ec,Fu hz,VP hz,vW] at e
  exact e)
variable{x:i8}{q:Option Addr × Nat}
set_option maxHeartbeats 1000000 in
theorem Z_ {s:dD} {id k:Int} (hi:lL g p) (hz:p.Z[i]? =some (some bn,bd,some s)) (hs:wQ s x.call=some (s',e)) (hc:nO x.call) (hb:bP .i64 c.steps/\bP .i64 id/\bP .i64 k) (hm:c.made.length < 1000000):Fn prog 35 #[bG b,rB bg (some bn) x q id k] (sv bg g p (fX b c B::L)) (λv L'=>v=.int .i64 e/\L'=sh bg {g with nodes:=g.nodes.set i (some s')}::fX b (if e=0 then {c with made:=c.made++[⟨c.steps,k,id,x.call⟩]} else c) B::L):=by
 refine aH func35 J J J J<|aa<|bS J J J λb3=>ae J<|O<|aa<|ao J<|ax J J<|ao J<|ao J<|bD J J<|tO hz<|aB J J (abd x.call hc hs)<|ae J<|O<|ar ?_
 refine b_ (H4 (bg:=bg) (g':={g with nodes:=g.nodes.set i (some s')}) (bn:=bn) (bd:=bd) (s':=s') p hz (hi.set hz))<|aa<|Y J<|ab J J (ce J J)<|O<|bz J (λka=> ?_) (λka=> ?_)
 ·refine cQ b<|uY λpc=> ?_
  rw [if_pos ka]
  refine i5 (cells b (vQ c B pc) 55::cells b3 (sx bg (some bn) x q id k) 79::[]) [21] [0,2,4,6,8,10,12,14,16,18,20,22,24,26,28,30,32,35,37,38,40,43] (by kernel_rfl) al<|aq J J<|aq J J<|aL J J<|aw J J<|aG J J J<|aq J J<|aL J J<|aw J J<|aG J J J<|aw J J<|aG J J J<|aw J J<|aG J J J<|aw J J<|aw J J<|cf J J J<|ak J J (bI J J)<|an J<|ef J J J J J J λmw=> ?_
  refine eh (k:=1) mf [⟨c.steps,k,id,x.call⟩] (jZ (R:=mf) (bV.const λM=>⟨J,hb.1,hb.2.2,hb.2.1,hc⟩)) J (by decide)<|bF<|aV 31 (.slice (some ⟨mw,0,none⟩) [(⟨c.steps,k,id,x.call⟩:yP)].length 1) J<|au<|an J ?_
  refine fi J J J J J slk (by simp only [dO,ej]; omega) λBZ B0=>au<|aL J J<|aw J J<|an J<|aE J J<|gZ J<|aR<|ai<|aa<|Y J<|ae J<|O<|av ?_
  exact aF.ay (qM b {c with made:=c.made++[⟨c.steps,k,id,x.call⟩]} B {pc with AM:=BZ,cM:=B0})<|cI J J
 refine az<|ai<|aa<|Y J<|ae J<|O<|av ?_
 rw [if_neg ka]
 exact cI J J
open Go Go.Proofs Go.Proofs.Tryz
variable{s:dD}{id k:Int}
theorem abk (h:C9 s=some s'):Fn prog 43 #[rB bg (some bn) x q id k] (nd bn bd s::L) (λv L'=>v=.tuple #[]/\L'=nd bn bd s'::L):=by
 refine aH func43 J J J J<|aa<|bS J J J ?_
 intro b1
 refine O<|aQ<|ao J ?_
 refine ax J J ?_
 refine aP bn<|aB J J (Z3 h) ?_
 exact O<|ei J
theorem aaa (h:E3 s.m x.at_=some m1):Fn prog 47 #[rB bg (some bn) x q id k] (nd bn bd s::L) (λv L'=>v=.tuple #[]/\L'=nd bn bd ⟨m1,s.waits⟩::L):=by
 refine aH func47 J J J J<|aa<|bS J J J ?_
 intro b1
 refine O<|aQ<|ao J ?_
 refine ax J J<|ao J<|ao J ?_
 refine ax J J ?_
 refine aP bn<|aB J J (Y7 x.at_ h) ?_
 exact O<|ei J
theorem abl (h:IC s.m=some m1):Fn prog 50 #[rB bg (some bn) x q id k] (nd bn bd s::L) (λv L'=>v=.tuple #[]/\L'=nd bn bd ⟨m1,s.waits⟩::L):=by
 refine aH func50 J J J J<|aa<|bS J J J ?_
 intro b1
 refine O<|aQ<|ao J ?_
 refine ax J J ?_
 refine aP bn<|aB J J (Z1 h) ?_
 exact O<|ei J
theorem K4 {f:FuncId} [li prog f] {bx:Nat} (hf:∀ L,Fn prog f #[rB bg (some bn) x q id k] (nd bn bd s::L) (λv L'=>v=.tuple #[]/\L'=nd bn bd s'::L)) (hi:lL g p) (hz:p.Z[i]? =some (some bn,bd,some s)):Fn prog 87 #[rB bg (some bn) x q id k,bG bx] (sv bg g p (cells bx [.func (.func f) #[] #[]] 122::L)) (λv L'=>v=.int .i64 0/\L'=sh bg {g with nodes:=g.nodes.set i (some s')}::cells bx [.func (.func f) #[] #[]] 122::L):=by
 refine aH func87 J J J J<|aa<|bS J J J ?_
 intro b2
 refine ae J<|O<|aa ?_
 refine ax J J<|bD J J<|tO hz ?_
 refine jx J J J (hf _) ?_
 rintro _ _ ⟨rfl,rfl⟩
 refine O ?_
 refine b_ (H4 (bg:=bg) (g':={g with nodes:=g.nodes.set i (some s')}) (bn:=bn) (bd:=bd) (s':=s') p hz (hi.set hz)) ?_
 refine aa<|ae J<|O ?_
 exact av<|cI J J
open Go Go.Proofs Go.Proofs.Tryz
structure alg where
 i:Nat
 Z:List fz
def I0 (e8:List Int) (j:Nat) (z:fz):fz:=(z.1,z.2.1,z.2.2.bind λs=>(e8[j]?).map λt=>t0 s t)
theorem afN {Z0:List fz} {e8:List Int} {nodes:List (Option dD)} (hn:Z0.map (·.2.2)=nodes) (hl:Z.length=Z0.length) (hc:e8.length=Z0.length) (h:∀ j z,j < Z0.length->Z0[j]? =some z->Z[j]? =some (I0 e8 j z)):Z.map (·.2.2)=List.zipWith (λo t=>o.map λs=>t0 s t) nodes e8:=by
 subst hn
 apply zP
 intro j
 rw [e_,List.getElem?_zipWith,e_]
 by_cases hj:j < Z0.length
 ·rw [h j _ hj (cj hj),cj hj,cj (by omega:j < e8.length)]
  simp only [qI,I0,cj (by omega:j < e8.length)]
  cases Z0[j].2.2 <;> rfl
 ·rw [xT (by omega),xT (by omega:Z0.length<=j)]; rfl
set_option maxHeartbeats 1000000 in
theorem aab {id k:Int} (hk:a_ L (aI .i64) q.1 q.2 x.on) (ht:0<=x.jq/\x.jq<=1000) (hl:x.on.length=g.e8.length) (qw:∀ a∈x.on,0<=a/\a<=1000) (FQ:∀ t∈g.e8,t<=1000000000) (Gt:g.tm<=1000000000) (GZ:∀ o∈g.nodes,o.isSome=true):Fn prog 41 #[bG b,rB bg o x q id k] (sh bg g::L) (λv L'=>v=.int .i64 0/\L'=sh bg {g with e8:=List.zipWith (·+·) g.e8 x.on,tm:=g.tm+x.jq,nodes:=List.zipWith (λo t=>o.map λs=>t0 s t) g.nodes (List.zipWith (·+·) g.e8 x.on)}::L):=by
 refine aH func41 J J J J<|b_ (a_.lay (a_.tail hk))<|cQ bg<|vk λp hi=> ?_
 obtain ⟨AN,cN,AD,cD,bn,bk,Z0⟩:=p
 obtain ⟨fV,zG,JO,vy⟩:=hi
 dsimp only at fV zG JO vy
 obtain ⟨e8,OJ⟩:∃ e8,e8=List.zipWith (·+·) g.e8 x.on:=⟨_,rfl⟩
 have kU:e8.length=Z0.length:=by rw [OJ,List.length_zipWith,hl]; omega
 rw [<- OJ]
 refine aa<|bS J J J λb3=>ae J<|O<|ar<|bW (cells bg (mX ⟨AN,cN,AD,cD,bn,bk,Z0⟩) 85::cells b3 (sx bg o x q id k) 79::[]) [] [0,2,4,6,8,10,12,14,16,18,20,23,24] (by kernel_rfl) al<|aw J J<|aG J J J<|aL J J<|aw J J<|aG J J J<|aw J J<|aw J J<|aG J J J<|aw J J<|aw J J<|aG J J J<|an J<|aP bk<|aB J J (aaM x.jq ht bJ hl qw FQ Gt) ?_
 rw [<- OJ]
 refine au<|ak J J (bT J)<|aR<|aa<|Y J<|ab J J (dB J J)<|br 21 (v':=.bool false) J (bi Value.bool (by decide))<|O<|aT J<|az<|ai<|ar<|aa<|ao J<|ax J J<|aS J<|ao J<|ax J J<|ab J J (bY J)<|Y J<|O<|aX<|cY (σ:=alg) [3,27,28] (λg2=>g2.i<=Z0.length/\g2.Z.length=Z0.length/\g2.Z.map (·.1)=Z0.map (·.1)/\g2.Z.map (·.2.1)=Z0.map (·.2.1)/\(∀ j z,j < g2.i->Z0[j]? =some z->g2.Z[j]? =some (I0 e8 j z))/\∀ j,g2.i<=j->g2.Z[j]? =Z0[j]?) (λg2 kv=>(29,.int .i64 (g2.i:Int))::kv) (λg2=>cells bg (mX ⟨AN,cN,AD,cD,bn,bk,Z0⟩) 85::aN h_ 40 AN cN (Z0.map (·.1))::aN gl 103 AD cD (Z0.map (·.2.1))::nt bn (jT Z0.length g)::ck bk (g.tm+x.jq) e8::c_ (g2.Z.map io)::cells b3 (sx bg o x q id k) 79::L) (λg2=>Z0.length - g2.i) (⟨0,Z0⟩) J (⟨dF _,J,J,J,λj z hj=>absurd hj (Nat.not_lt_zero _),λj _=>J⟩) (al) (dc J) ?_
 rintro ⟨i,Z⟩ ⟨eG,ga,vF,n5,zF,Qg⟩
 dsimp only at eG ga vF n5 zF Qg ⊢
 have GM:(Z0.map (·.1)).length=Z0.length:=gY _
 refine aa<|ab J J (bU J J)<|O<|ar<|bz J (λoU=> ?_) (λoU=> ?_)
 ·refine az<|ai<|ar<|aX ?_
  obtain ⟨z,hz⟩:∃ z,Z0[i]? =some z:=⟨_,cj (by omega)⟩
  obtain ⟨t,xD⟩:∃ t,e8[i]? =some t:=⟨_,cj (by omega)⟩
  obtain ⟨ZN,zH⟩:∃ ZN:List (Option Nat),ZN=Z0.map (·.1):=⟨_,rfl⟩
  have hm0:=GM
  rw [<- zH] at GM vF ⊢
  have zv:g.nodes[i]? =some z.2.2:=by (rw [<- fV,e_,hz]; rfl)
  obtain ⟨zo,bd,zs⟩:=z
  obtain ⟨s,rfl⟩:∃ s,zs=some s:=xS.1 (GZ _ (eA zv))
  have iL:Z[i]? =some (zo,bd,some s):=(Qg i (fo _)).trans hz
  have sa:ZN[i]? =some zo:=by (rw [zH,e_,hz]; rfl)
  refine IG iL ?_
  obtain ⟨bN,rfl⟩ | rfl:(∃ bN,zo=some bN)\/zo=none:=by (cases zo; exact .inr rfl; exact .inl ⟨_,rfl⟩)
  rotate_left
  exact CZ (p:=False) λhF=>hF.elim
  refine b_ (show am _ (nd bN bd s::_) from cR.g (p:=io (some bN,bd,some s)))<|gr (bJ (A:=AN) (c:=cN) (R:=h_)) sa λbl ol el=> ?_
  subst el
  refine aa<|Y J<|ab J J (iX (R:=h_) (xs:=ZN) J J J sa)<|ab J J (gi (R:=h_) (c:=cN) (xs:=ZN) (q:=0) J bJ sa J)<|ae J<|ae J<|O<|aQ<|Y J<|ao J<|ax J J<|aS J<|ao J<|ax J J<|Y J<|aP bk<|aB J J (R4 i xD)<|aP bN<|aB J J (abe t)<|O<|bA<|ai<|aQ<|bX (EC (b:=bN) (d:=bd) (s:=t0 s t) iL) ?_
  subst zH
  refine ab J J (bE J J (by omega))<|cz 43 J<|Y J<|O<|ai ?_
  exact ⟨⟨i+1,Z.set i (some bN,bd,some (t0 s t))⟩,⟨by dsimp only; omega,by simp [ga],by dsimp only; rw [VP iL,vF],by dsimp only; rw [Fu iL,n5],λj z hj h0=>by (dsimp only at hj ⊢; rw [uz]; by_cases e:i=j; (subst e; rw [if_pos rfl,if_pos (by omega)]; cases (h0.symm.trans hz); simp [I0,xD]); (rw [if_neg e]; exact zF j z (by omega) h0)),λj hj=>by (dsimp only at hj ⊢; rw [uz,if_neg (by omega)]; exact Qg j (by omega))⟩,(by dsimp only; omega),bO rfl⟩
 refine cw<|aY<|aY<|cu<|ai<|aa<|ae J<|O<|av ?_
 obtain rfl:i=Z0.length:=by omega
 rw [<- vF]
 exact aF.ay (LW (g':={g with e8:=e8,tm:=g.tm+x.jq,nodes:=List.zipWith (λo t=>o.map λs=>t0 s t) g.nodes e8}) bg ⟨AN,cN,AD,cD,bn,bk,Z0⟩ Z ga n5 ⟨afN fV ga kU zF,by dsimp only; omega,by dsimp only; omega,vy⟩)<|cI J J
open Go Go.Proofs Go.Proofs.Tryz
variable{x:oY}{r:List oY}
theorem afO (h:g.pk=x::r) (hn:pO (jT n g)):oF (jT n g).L x.id=some (rQ x):=by
 dsimp only [jT]
 rw [h,kq]; unfold oF
 exact List.find?_cons_of_pos (by simp)
theorem ait (h:g.pk=x::r):D3 (jT n g) 0=(x.id,true):=by
 unfold D3; dsimp only [jT]
 rw [h,kq,Int.zero_emod]; rfl
theorem ahh (h:g.pk=x::r) (hn:pO (jT n g)):y0 (jT n g).L x.id=r.map rQ:=by
 have hi:=hn.inc
 dsimp only [jT] at hi ⊢
 rw [h,kq] at hi ⊢
 unfold y0
 rw [Km (by simp),rD]
 intro y hy
 have:=(qG.1 hi).1 y hy
 dsimp only at this
 simp only [Hf,decide_eq_false_iff_not]
 omega
theorem afP (h:g.pk=x::r) (hn:pO (jT n g)):wS (jT n g) x.id=(jT n {g with pk:=r},rQ x,0):=by
 unfold wS; rw [afO h hn,ahh h hn]
set_option maxHeartbeats 1000000 in
theorem abm {x:i8} {id k:Int} {iC:oY} (hp:g.pk=iC::r) (hx:x.at_=0):Fn prog 78 #[rB bg o x q id k] (sh bg g::L) (λv L'=>(v=.tuple #[sV (rQ iC),.int .i64 0]/\(lT iC.m/\f4 (tV iC.m)=kS iC.m)/\(kS iC.m).length<=65536/\0<=iC.cH/\iC.cH < (g.nodes.length:Int))/\L'=sh bg {g with pk:=r}::L):=by
 refine aH func78 J J J J<|cQ bg<|vk λp hi=> ?_
 have zG:=hi.len
 have hgl:g.nodes.length=p.Z.length:=by rw [<- hi.nodes,gY]
 refine cQ p.bn<|xf λbt hn=>b_ (sK p.bn (jT p.Z.length g) hn)<|aa<|bS J J J λb1=>bB J J λb2=>ae J<|O<|bW (cells bg (mX p) 85::cells b1 (sx bg o x q id k) 79::[]) [] [0,2,4,6,8,10,12,14,17,18,20,22,24,26] (by kernel_rfl) al<|aw J J<|aG J J J<|aL J J<|aw J J<|aG J J J<|aw J J<|aw J J<|aG J J J<|an J<|aP p.bn<|aB J J (acR x.at_ (by rw [hx]; decide)) ?_
 rw [hx,ait hp]
 refine au<|aq J J<|ak J J (aO J J)<|ak J J (aO J J)<|ak J J (bT J)<|ak J J (bT J)<|aR<|ar<|aa<|Y J<|ab J J (ff J)<|aV 19 (.bool false) J<|O<|aT J<|az<|ai<|aa<|ao J<|ax J J<|aS J<|ao J<|ax J J<|Y J<|aP p.bn<|aB J J (Z9 iC.id (by have:=hn.ids (rQ iC) (by rw [show (jT p.Z.length g).L=g.pk.map rQ from rfl,hp]; exact ie ..); have:=hn.last; dsimp only [rQ] at *; exact da (by omega))) ?_
 rw [afP hp hn]
 refine ab J J (aO J J)<|ab J J (aO J J)<|aE J J<|ae J<|O<|av ?_
 have Jn:=hn.ids (rQ iC) (by rw [show (jT p.Z.length g).L=g.pk.map rQ from rfl,hp]; exact ie ..)
 dsimp only [rQ] at Jn
 refine aF.ay (CK bg {g with pk:=r} p ⟨hi.nodes,hi.len,hi.e8,λy hy=>hi.pk y (by rw [hp]; exact gO _ hy)⟩) ?_
 exact kK (.inl rfl) rfl (bf.agg rfl rfl) (bf.tmp rfl) bu.g (⟨⟨rfl,hi.pk _ (by rw [hp]; exact ie ..),by have:=Jn.2.2.2.2.2.2; simpa [strOfNums,ByteArray.size] using this,Jn.2.2.2.2.1,by rw [hgl]; exact Jn.2.2.2.2.2.1⟩,rfl⟩)
open Go Go.Proofs Go.Proofs.Tryz
theorem afQ {x:bQ} (hr:lT m) (hl:(kS m).length<=65536) (h:E_ (kS m) x e):e=0/\x=m:=by
 obtain ⟨y,s',h1,h2⟩:=h
 have g:=h1.cmp m [] rfl hr (by simp [PK])
 obtain ⟨_,a2,a3⟩:=h1.snd g
 obtain ⟨e1,e2⟩:=ahN m y [] s'.b hr a2 (by rw [tE]; exact a3)
 rcases h2 with ⟨k1,k2,_⟩ | ⟨_,k | k | k⟩
 ·exact ⟨k1,by rw [k2,e1]⟩
 ·rw [g] at k; cases k
 ·exact absurd e2.symm k
 ·omega
variable{x:i8}
set_option maxHeartbeats 1000000 in
theorem Ya {id k:Int} {iC:oY} {s s1:dD} (hp:g.pk=iC::r) (hx:x.at_=0) (hs:g.nodes[iC.cH.toNat]? =some (some s)) (hc:iP iC.m<=nY) (ho:zC s iC.m=some s1):Fn prog 36 #[bG b,rB bg o x q id k] (sh bg g::L) (λv L'=>v=.int .i64 0/\L'=sh bg {g with nodes:=g.nodes.set iC.cH.toNat (some s1),pk:=r}::L):=by
 refine aH func36 J J J J<|aa<|bS J J J λb3=>ae J<|O<|aa<|bD J J<|aP bg<|aJ J J (abm hp hx) ?_
 rintro _ _ ⟨⟨rfl,⟨hr,XC⟩,ew,DZ,J4⟩,rfl⟩
 refine Y J<|ab J J (aO J J)<|ab J J (aO J J)<|bB J J λb5=>aE J J<|ae J<|O<|ar<|aa<|Y J<|ab J J (dB J J)<|br 16 (v':=.bool false) J (bi Value.bool (by decide))<|O<|aT J<|az<|ai<|aa<|ao J<|ax J J<|El J J (by have:=nE (tV iC.m); rw [XC] at this; exact kf (show (tV iC.m).size<=65536 by omega) (by decide)) λJK JL=> ?_
 rw [XC]
 refine aJ J J (ZL (bs:=kS iC.m) slk (by omega)) ?_
 rintro _ _ ⟨m1,p1,e1,rfl,rfl,cX,uZ⟩
 obtain ⟨rfl,rfl⟩:=afQ hr ew uZ
 refine Y J<|ab J J (aO J J)<|ab J J (aO J J)<|bB J J λb7=>aE J J<|ae J<|O<|ar<|cQ bg<|vk λp hi=> ?_
 obtain ⟨AN,cN,AD,cD,bn,bk,Z⟩:=p
 have D5:=hi.nodes
 dsimp only at D5
 obtain ⟨z,hz,zv⟩:∃ z,Z[iC.cH.toNat]? =some z/\z.2.2=some s:=by (rw [<- D5,e_] at hs; exact iq.1 hs)
 obtain ⟨zo,bd,zs⟩:=z
 obtain rfl:zs=some s:=zv
 refine IG hz ?_
 obtain ⟨bN,rfl⟩ | rfl:(∃ bN,zo=some bN)\/zo=none:=by (cases zo; exact .inr rfl; exact .inl ⟨_,rfl⟩)
 rotate_left
 exact CZ (p:=False) λhF=>hF.elim
 refine b_ (show am _ (nd bN bd s::_) from cR.g (p:=io (some bN,bd,some s))) ?_
 obtain ⟨ZN,zH⟩:∃ ZN:List (Option Nat),ZN=Z.map (·.1):=⟨_,rfl⟩
 have sa:ZN[iC.cH.toNat]? =some (some bN):=by (rw [zH,e_,hz]; rfl)
 rw [<- zH]
 refine gr (bJ (A:=AN) (c:=cN) (R:=h_)) sa λbl ol el=> ?_
 subst el
 refine bW (cells bg [.slice (some ⟨bl,ol,none⟩) (Z.map (·.1)).length cN,.slice AD (Z.map (·.2.1)).length cD,bG bn,bG bk] 85::aN h_ 40 (some ⟨bl,ol,none⟩) cN ZN::cells b5 (AY (rQ iC)) 167::cells b3 (sx bg o x q id k) 79::[]) [] [0,2,4,6,8,10,12,14,16,18] (by kernel_rfl) al<|aw J J<|aG J J J<|aL J J<|aw J J<|aG J J J<|aw J J<|aG J J J<|er 31 (v':=.int .i64 ((iC.cH.toNat:Nat):Int)) J (by show Value.int .i64 iC.cH=_; congr 1; omega)<|ak J J (iX (R:=h_) (xs:=ZN) J J (by rw [zH]) sa)<|ak J J (gi (R:=h_) (c:=cN) (xs:=ZN) (q:=0) J bJ sa J)<|oH 33 (bG bN) J<|ak J J (bT J)<|aR<|aa<|Y J<|ab J J (f8 J J (dh.eJ))<|aV 35 (.bool true) J<|Y J<|aj J<|Y J<|aj J<|ab J J (ce J J)<|br 38 (v':=.bool true) J (bi Value.bool (by decide))<|aA J<|O<|cg J<|aQ<|Y J<|bD J J<|aP bN<|aB J J (Tg iC.m p1 cX ⟨slk,slk,slk,slk⟩ hc ho)<|O<|ai ?_
 subst zH
 exact b_ (H4 (bg:=bg) (g':={g with nodes:=g.nodes.set iC.cH.toNat (some s1),pk:=r}) (bn:=bN) (bd:=bd) (s':=s1) ⟨some ⟨bl,ol,none⟩,cN,AD,cD,bn,bk,Z⟩ hz (hi.set hz))<|aa<|ae J<|O<|av<|cI J J
open Go Go.Proofs Go.Proofs.Tryz
theorem afR {s:eM} {z:Nat} (h:zr s 0 z):s=j3 16777216:=by
 have h1:=h.size; have h2:=h.calls
 have h3:s.l=[]:=by rcases h.l with h | h; exact h.2.2; exact absurd h.1 (by omega)
 cases s; dsimp only at h1 h2 h3; subst h1 h2 h3; rfl
theorem aei [h1:cR L (dk bd bt (j3 16777216)) L1]:am L (su bd::L1):=h1.g.trans (nG (F:=λbt:Nat=>[dk bd bt (j3 16777216)]) (φ:=λ_=>True) bt trivial)
theorem lL.Wv {s s':Option dD} (hi:lL g p) (hz:p.Z[i]? =some (o,bd,s)):lL {g with nodes:=g.nodes.set i s'} {p with Z:=p.Z.set i (o',bd,s')}:=
 ⟨by dsimp only; rw [l8,hi.nodes],by simpa using hi.len,by simpa using hi.e8,hi.pk⟩
variable{r:Option Nat}
theorem aiu {ops:Array Oper} {rest:List Oper} {Z:Nat} (h:∀ bl bt A c sure z,TL r n P ops rest ⟨D,E,dk bd bt (j3 16777216)::cells bl (xy bd 0 z ⟨A,c,sure,bt,z,j3 16777216⟩) 340::aN jv 346 A c (jE 0 z)::cells b (vH bd bl) 212::L⟩ K):TL r n P ops rest ⟨D,E,st b bd 0 Z::L⟩ K:=
 yy λbl _=>by
  show TL r n P ops rest ⟨D,E,cells b (vH bd bl) 212::wl bl bd 0 Z::L⟩ K
  refine aP bl ?_
  refine ajb λp hi=> ?_
  have e:=afR hi.1
  obtain ⟨A,c,sure,bt,z,s⟩:=p
  dsimp only at e; subst e
  exact bX bu.g (h bl bt A c sure z)
set_option maxHeartbeats 1000000 in
theorem Y' (hi:lL g p) (hz:p.Z[i]? =some (some bn,bd,some s)) (hr:s.m.km=0):Fn prog 39 #[bG b,rB bg (some bn) x q (i:Int) k] (sv bg g p L) (λv L'=>v=.int .i64 0/\L'=sh bg {g with nodes:=g.nodes.set i none}::L):=by
 obtain ⟨AN,cN,AD,cD,zI,bk,Z⟩:=p
 dsimp only at hz
 refine aH func39 J J J J<|aa<|bS J J J λb3=>ae J<|O ?_
 have pQ:(Z.map (·.1))[i]? =some (some bn):=by (rw [e_,hz]; rfl)
 have B9:(Z.map (·.2.1))[i]? =some bd:=by (rw [e_,hz]; rfl)
 have XD:pV (j3 16777216) []:=⟨List.Pairwise.nil,λt ht=>absurd ht List.not_mem_nil⟩
 refine CR (A:=AN) (c:=cN) (R:=h_) pQ λb5 l5 e5 ug=> ?_
 subst e5
 obtain ⟨lv,rfl⟩:=wt ug
 refine gr (bJ (A:=AD) (c:=cD) (R:=gl)) B9 λb6 o6 e6=> ?_
 subst e6
 refine bW (cells bg [.slice (some ⟨b5,0,none⟩) (Z.map (·.1)).length cN,.slice (some ⟨b6,o6,none⟩) (Z.map (·.2.1)).length cD,bG zI,bG bk] 85::aN gl 103 (some ⟨b6,o6,none⟩) cD (Z.map (·.2.1))::cells b3 (sx bg (some bn) x q (i:Int) k) 79::[]) [] [0,2,4,6,8,10,12,14,16,18,20,22,25,26] (by kernel_rfl) al<|aw J J<|aG J J J<|aL J J<|aw J J<|aG J J J<|aw J J<|aG J J J<|ak J J (iX (R:=gl) (xs:=Z.map λz:fz=>z.2.1) J J J B9)<|ak J J (gi (R:=gl) (c:=cD) (xs:=Z.map λz:fz=>z.2.1) (q:=0) J bJ B9 J)<|aw J J<|aw J J<|aG J J J<|an J<|tO hz<|ag' λA1 c1=>AU λp1 hI=>aP p1.bs ?_
 rw [hr]
 refine aiu λbl bt A2 c2 sure z=>aB J J (Yk (keep:=[]) (A0:=none) (c0:=0) bR.nil) ?_
 rw [if_pos XD,if_pos XD,show IA (j3 16777216) []=j3 16777216 from rfl]
 refine bX (aei (bd:=bd) (bt:=bt))<|bX (aeh (d:=bd) hz)<|au<|ak J J (bT J)<|aR<|ar<|aa<|Y J<|ab J J (ce J J)<|br 20 (v':=.bool true) J (bi Value.bool (by decide))<|O<|cg J<|i5 (cells bg [.slice (some ⟨b5,0,none⟩) (Z.map (·.1)).length cN,.slice (some ⟨b6,o6,none⟩) (Z.map (·.2.1)).length cD,bG zI,bG bk] 85::cells b3 (sx bg (some bn) x q (i:Int) k) 79::[]) [] [0,2,4,6,8,10,12,14,17] (by kernel_rfl) al<|aw J J<|aG J J J<|aL J J<|aw J J<|aG J J J<|aw J J<|aG J J J<|ak J J (pS (R:=h_) (xs:=Z.map λz:fz=>z.1) J J (by simp) pQ)<|an J<|fc J J J J J J<|jK (R:=h_) b5 (none:Option Nat) (bV.const λ_=>J) ?_
 rw [show (Z.map λz:fz=>z.1).set i none=(Z.set i (none,bd,none)).map (·.1) from by rw [l8]]
 exact au<|aR<|ai<|aa<|Y J<|ae J<|O<|av<|aF.ay (LW (g':={g with nodes:=g.nodes.set i none}) bg ⟨some ⟨b5,0,none⟩,cN,some ⟨b6,o6,none⟩,cD,zI,bk,Z⟩ (Z.set i (none,bd,none)) (vW ..) (Fu hz) (hi.Wv hz))<|cI J J
open Go Go.Proofs Go.Proofs.Tryz
set_option maxHeartbeats 1000000 in
theorem Yb (hi:lL g p) (hz:p.Z[i]? =some (none,bd,none)) (hn:1<=c.n/\c.n<=7) (fV:(i:Int) < c.n) (ht:g.e8[i]? =some t) (hw:0<=t/\t<=1152921504606846976):Fn prog 40 #[bG b,rB bg none x q (i:Int) k] (sv bg g p (fX b c B::L)) (λv L'=>v=.int .i64 0/\L'=sh bg {g with nodes:=g.nodes.set i (some (nL c.n (i:Int) t))}::fX b c B::L):=by
 obtain ⟨AN,cN,AD,cD,zI,bk,Z⟩:=p
 dsimp only at hz
 refine aH func40 J J J J<|aa<|bS J J J λb3=>ae J<|O<|ar<|aa<|ao J<|ax J J<|aV 8 (.pointer none) J<|ab J J (f8 J J (dh.eJ))<|aV 9 (.bool false) J<|O<|aT J<|az<|ai ?_
 have pQ:(Z.map (·.1))[i]? =some none:=by (rw [e_,hz]; rfl)
 have B9:(Z.map (·.2.1))[i]? =some bd:=by (rw [e_,hz]; rfl)
 refine cQ b<|uY λpc=>CR (A:=AN) (c:=cN) (R:=h_) pQ λb5 l5 e5 ug=> ?_
 subst e5
 obtain ⟨lv,rfl⟩:=wt ug
 refine gr (bJ (A:=AD) (c:=cD) (R:=gl)) B9 λb6 o6 e6=> ?_
 subst e6
 refine bW (cells b (vQ c B pc) 55::cells bg [.slice (some ⟨b5,0,none⟩) (Z.map (·.1)).length cN,.slice (some ⟨b6,o6,none⟩) (Z.map (·.2.1)).length cD,bG zI,bG bk] 85::aN gl 103 (some ⟨b6,o6,none⟩) cD (Z.map (·.2.1))::cells b3 (sx bg none x q (i:Int) k) 79::[]) [] [0,2,4,6,8,10,12,14,16,18,20,22,24,26,28,30,32,34,36,38,40,42,45,47,48,50,52,54,56] (by kernel_rfl) al<|aq J J<|aL J J<|aw J J<|cf J J J<|aw J J<|aG J J J<|aw J J<|aG J J J<|aL J J<|aw J J<|aG J J J<|aw J J<|aG J J J<|ak J J (iX (R:=gl) (xs:=Z.map λz:fz=>z.2.1) J J J B9)<|ak J J (gi (R:=gl) (c:=cD) (xs:=Z.map λz:fz=>z.2.1) (q:=0) J bJ B9 J)<|aw J J<|aG J J J<|aL J J<|aw J J<|aG J J J<|aw J J<|aG J J J<|an J<|aP bk<|aB J J (R4 i ht)<|au<|an J<|T_ hz<|Vj λbt=>aJ J J (Si c.n (i:Int) t hn ⟨by omega,fV⟩ hw) ?_
 rintro _ _ ⟨bN,rfl,rfl⟩
 refine bX (EC (b:=bN) (d:=bd) (s:=nL c.n (i:Int) t) hz)<|au<|aq J J<|ak J J (aO J J)<|ak J J (aO J J)<|ak J J (bT J)<|ak J J (bT J)<|aR<|ar<|aa<|Y J<|ab J J (ce J J)<|br 38 (v':=.bool true) J (bi Value.bool (by decide))<|O<|cg J<|i5 (cells bg [.slice (some ⟨b5,0,none⟩) (Z.map (·.1)).length cN,.slice (some ⟨b6,o6,none⟩) (Z.map (·.2.1)).length cD,bG zI,bG bk] 85::cells b3 (sx bg none x q (i:Int) k) 79::[]) [] [0,2,4,6,8,10,12,14,16,19] (by kernel_rfl) al<|aw J J<|aG J J J<|aL J J<|aw J J<|aG J J J<|aw J J<|aG J J J<|aq J J<|ak J J (pS (R:=h_) (xs:=Z.map λz:fz=>z.1) J J (by simp) pQ)<|an J<|fc J J J J J J<|jK (R:=h_) b5 (some bN) (bV.const λ_=>J) ?_
 rw [show (Z.map λz:fz=>z.1).set i (some bN)=(Z.set i (some bN,bd,some (nL c.n (i:Int) t))).map (·.1) from by rw [l8]]
 exact au<|aR<|ai<|aa<|Y J<|ae J<|O<|av<|aF.ay (qM b c B pc)<|aF.ay (LW (g':={g with nodes:=g.nodes.set i (some (nL c.n (i:Int) t))}) bg ⟨some ⟨b5,0,none⟩,cN,some ⟨b6,o6,none⟩,cD,zI,bk,Z⟩ (Z.set i (some bN,bd,some (nL c.n (i:Int) t))) (vW ..) (Fu hz) (hi.Wv hz))<|cI J J
open Go Go.Proofs Go.Proofs.Tryz
structure alh where
 j:Nat
 g:cP
 t:List lu
theorem aiv {M:Mem} {c:Nat} {xs:List Int} (h:sliceAt M (aI .u8) A c xs):∀ x∈xs,0<=x/\x<=255:=λx hx=>by
 rcases h.2.2 with rfl | ⟨b,o,rfl,cs,t,fr,hb,eH⟩
 ·cases hx
 ·obtain ⟨i,hi⟩:=od hx
  obtain ⟨l,hl,_⟩:=eH i x hi
  have:=hl.2
  simp [bP,IntKind.min,IntKind.max] at this
  exact this
theorem afS {t:lu} (p:jw) (h:bV L (λM=>Sep (Bw t.dR p) M Mem.emp)) (ho:Nl t):bV L (λM=>f9 M eu [t] (NW t p)):=jZ (fI p h ho)
theorem aej (h:j7 (fT m ([],false))=0):(tV m).size<=65536:=by
 rw [show (tV m).size=(kS m).length from by simp [strOfNums,ByteArray.size], <- (CV h).2,(In h).2]
 unfold j7 at h
 rw [if_neg (by rw [(In h).1]; decide)] at h
 by_cases h2:65536 < (fT m ([],false)).1.length
 ·rw [if_pos h2] at h; cases h
 ·omega
theorem ahi {i:Int} (hl:(tV m).size<=65536) (hp:g.pk.length < 65536) (hi:0<=i/\i < (n:Int)) (uo:m.cH=cH):(qf (jT n g) i cH (tV m)).1=jT n (if 0<=cH/\cH < (n:Int) then {g with last:=g.last+1,pk:=g.pk++[⟨g.last+1,i,cH,m⟩]} else g):=by
 unfold qf tx
 dsimp only [jT]
 by_cases h:0<=cH/\cH < (n:Int)
 ·rw [if_neg (by intro hh; rcases hh with hh | hh; exact hh hi; exact hh h),if_neg (by omega),if_neg (by rw [gY]; omega),if_pos h]
  simp [kp]
 ·rw [if_pos (.inr h),if_neg h]
theorem ahj {l:Int} {ks:List oY} (c:Prop) [Decidable c] [h1:fL L bg (mX p) 85 L1] [h2:cR L1 (aN h_ 40 p.AN p.cN (p.Z.map (·.1))) L2] [h3:cR L2 (aN gl 103 p.AD p.cD (p.Z.map (·.2.1))) L3] [h4:cR L3 (nt p.bn (jT p.Z.length (if c then {g with last:=l,pk:=ks} else g))) L4] [h5:cR L4 (ck p.bk g.tm g.e8) L5] [h6:cR L5 (c_ (p.Z.map io)) L6] (hi:lL g p) (hk:c->∀ x∈ks,lT x.m/\f4 (tV x.m)=kS x.m):am L (sh bg (if c then {g with last:=l,pk:=ks} else g)::L6):=by
 by_cases h:c
 ·have G0:=h4; rw [if_pos h] at G0 ⊢
  exact CK (h1:=h1) (h2:=h2) (h3:=h3) (h4:=G0) (h5:=h5) (h6:=h6) bg {g with last:=l,pk:=ks} p ⟨hi.nodes,hi.len,hi.e8,hk h⟩
 ·have G0:=h4; rw [if_neg h] at G0 ⊢
  exact CK (h1:=h1) (h2:=h2) (h3:=h3) (h4:=G0) (h5:=h5) (h6:=h6) bg g p hi
variable{k:Nat}
set_option maxHeartbeats 1000000 in
theorem Za {out:List jl} (hi:lL g p) (hz:p.Z[i]? =some (some bn,bd,some s)) (hs:Fb s=some (s',out)) (hn:c.n=(p.Z.length:Int)) (fV:i < p.Z.length) (XE:k<=8) (cK:0<=c.steps/\c.steps<=1000000) (hb:g.pk.length+out.length<=65000/\g.last<=1000000000/\c.told.length+out.length<=1000000/\(out.all IF)=true):Fn prog 49 #[bG b,rB bg (some bn) x q (i:Int) (k:Int)] (sv bg g p (fX b c B::L)) (λv L'=>v=.int .i64 0/\L'=sh bg (pi (i:Int) c k out {g with nodes:=g.nodes.set i (some s')} []).1::fX b {c with told:=c.told++(pi (i:Int) c k out {g with nodes:=g.nodes.set i (some s')} []).2} B::L):=by
 obtain ⟨fin,I5⟩:∃ fin,fin=pi (i:Int) c k out {g with nodes:=g.nodes.set i (some s')} []:=⟨_,rfl⟩
 rw [<- I5]
 have zG:=hi.len
 refine aH func49 J J J J<|aa<|bS J J J λb3=>ae J<|O<|aa<|ao J<|ax J J<|tO hz<|aJ J J (Z4 hs) ?_
 rintro _ _ ⟨Ao,co,rfl,rfl⟩
 refine bF<|Y J<|ab J J (aO J J)<|ab J J (aO J J)<|ae J<|ae J<|O<|ar<|aa<|Y J<|ab J J (dB J J)<|br 18 (v':=.bool false) J (bi Value.bool (by decide))<|O<|aT J<|az<|ai<|ar ?_
 refine b_ (H4 (bg:=bg) (g':={g with nodes:=g.nodes.set i (some s')}) (bn:=bn) (bd:=bd) (s':=s') p hz (hi.set hz))<|aa<|Y J<|ab J J (bY J)<|Y J<|O<|aX<|cY (σ:=alh) [0,3,20,21] (λg2=>g2.j<=out.length/\pi (i:Int) c k (out.drop g2.j) g2.g g2.t=fin/\g2.t.length<=g2.j/\g2.g.pk.length<=g.pk.length+g2.j/\g2.g.last<=g.last+g2.j/\g2.g.nodes.length=p.Z.length) (λg2 kv=>(22,.int .i64 (g2.j:Int))::kv) (λg2=>sh bg g2.g::fX b {c with told:=c.told++g2.t} B::sl iw Ao co out::cells b3 (sx bg (some bn) x q (i:Int) (k:Int)) 79::L) (λg2=>out.length - g2.j) (⟨0,{g with nodes:=g.nodes.set i (some s')},[]⟩) J (⟨dF _,I5.symm,fo _,fo _,by dsimp only; omega,by simp [<- hi.nodes]⟩) ((by rw [show ({c with told:=c.told++([]:List lu)}:cF)=c from by rw [tE]]; exact al)) (dc J) ?_
 rintro ⟨j,g1,t⟩ ⟨kB,vO,mn,lE,BL,pL⟩
 dsimp only at kB vO mn lE BL pL ⊢
 refine aa<|ab J J (bU J J)<|O<|ar<|bz J (λgv=> ?_) (λgv=> ?_)
 ·obtain ⟨y,hy⟩:∃ y,out[j]? =some y:=⟨_,cj (by omega)⟩
  rw [yp hy] at vO
  refine az<|ai<|ar<|aX ?_
  rcases y with m | a
  ·refine gr (bJ (A:=Ao) (c:=co) (R:=iw)) hy λbq oq eq=> ?_
   rw [eq]
   refine aa<|f6 J J J (J) ((bJ (A:=some ⟨bq,oq,none⟩) (c:=co) (R:=iw))) (hy) λFN FO FP t8=> ?_
   have t9:=hy
   refine kh J J t8 t9 (λ_=>J) λsk F7=> ?_
   simp only [dL,dm]
   simp only [F1,dL,dm]
   refine bB J J λb8=>aE J J<|O<|ar<|aa<|ao J<|ax J J<|aV 27 (.bool false) J<|O<|aT J<|az<|ai<|aa<|ao J<|bD J J<|aJ J J (uL m sk.m F7 ⟨slk,slk,slk,slk⟩ (by have:=sB.1 hb.2.2.2 _ (eA hy); simpa [IF] using this)) ?_
   rintro _ _ ⟨Ab,cb,rfl,rfl⟩
   refine Y J<|ab J J (aO J J)<|ab J J (aO J J)<|ae J<|ae J<|O<|aa<|Y J<|ab J J (ce J J)<|O<|bz J (λuw=> ?_) (λuw=> ?_)
   ·obtain ⟨J_,hob⟩:=CV uw
    rw [hob]
    refine uF ?_
    refine cQ bg<|vk λp2 dW=>MN b8 ?_
    refine b_ (show am (cells b8 _ _::_) (cells b8 (Bx (.gh m) sk) 196::_) from am.refl _) ?_
    have hpz:p2.Z.length=p.Z.length:=by rw [<- pL, <- dW.nodes,gY]
    refine yu (φ:=λM=>sliceAt M (aI .u8) Ab cb (kS m)) (slk (A:=Ab) (c:=cb) (R:=aI .u8) (xs:=kS m)) (λM h=>aiv h) λud=>i5 (cells bg (mX p2) 85::sl (aI .u8) Ab cb (kS m)::cells b8 (Bx (.gh m) sk) 196::cells b3 (sx bg (some bn) x q (i:Int) (k:Int)) 79::[]) [12] [0,2,4,6,8,10,12,14,16,18,20,22,25] (by kernel_rfl) al<|aw J J<|aG J J J<|aL J J<|aw J J<|aG J J J<|aw J J<|aG J J J<|aw J J<|aw J J<|aG J J J<|aq J J<|ak J J (KN J slk)<|an J ?_
    refine aP p2.bn<|aB J J (Z8 (i:Int) m.cH (tV m) (by dsimp only; omega)) ?_
    rw [ahi (n:=p2.Z.length) (aej uw) (by omega) ⟨by omega,by omega⟩ rfl]
    refine bX (ahj (bg:=bg) (g:=g1) (p:=p2) (l:=g1.last+1) (ks:=g1.pk++[⟨g1.last+1,(i:Int),m.cH,m⟩]) (0<=m.cH/\m.cH < (p2.Z.length:Int)) dW (λ_ y PD=>by rcases gD.1 PD with h | h; exact dW.pk y h; cases o0.1 h; exact ⟨J_,Qx ud⟩))<|gZ J<|aR<|bA<|ai<|aQ<|ab J J (bE J J (by omega))<|Y J<|O<|ai ?_
    exact ⟨⟨j+1,if 0<=m.cH/\m.cH < (p2.Z.length:Int) then {g1 with last:=g1.last+1,pk:=g1.pk++[⟨g1.last+1,(i:Int),m.cH,m⟩]} else g1,t⟩,⟨by dsimp only; omega,by (dsimp only; rw [<- vO]; simp only [pi,uw,true_and,hn,hpz]),by dsimp only; omega,by (dsimp only; split; simp; omega; omega),by (dsimp only; split; dsimp only; omega; omega),by (dsimp only; split; exact pL; exact pL)⟩,(by dsimp only; omega),bO rfl⟩
   refine az<|bA<|ai<|aQ<|ab J J (bE J J (by omega))<|Y J<|O<|ai ?_
   exact ⟨⟨j+1,g1,t⟩,⟨by dsimp only; omega,by (dsimp only; rw [<- vO]; simp only [pi,uw,false_and,if_false]),by dsimp only; omega,by dsimp only; omega,by dsimp only; omega,pL⟩,(by dsimp only; omega),bO rfl⟩
  refine gr (bJ (A:=Ao) (c:=co) (R:=iw)) hy λbq oq eq=> ?_
  rw [eq]
  refine aa<|f6 J J J (J) ((bJ (A:=some ⟨bq,oq,none⟩) (c:=co) (R:=iw))) (hy) λFN FO FP t8=> ?_
  have t9:=hy
  refine kh J J t8 t9 (λ_=>J) λsk F7=> ?_
  simp only [dL,dm]
  simp only [F1,Bw,dL,dm]
  refine wo 1 J<|T8 λjp=>bB J J λb8=>aE J J<|O<|ar<|aa<|ao J<|ax J J<|aV 27 (.bool true) J<|O<|cg J ?_
  refine cQ b<|uY λpc=>MN b8 ?_
  refine b_ (show am (cells b8 _ _::_) (cells b8 (Bx (.dR a) sk) 196::_) from am.refl _)<|bW (cells b (vQ {c with told:=c.told++t} B pc) 55::cells b8 (Bx (.dR a) sk) 196::cells b3 (sx bg (some bn) x q (i:Int) (k:Int)) 79::[]) [20] [0,2,4,6,8,10,12,14,16,18,20,22,24,26,28,30,33,35,36,38,41] (by kernel_rfl) al<|aq J J<|aq J J<|aL J J<|aw J J<|aG J J J<|aq J J<|aL J J<|aw J J<|aG J J J<|aw J J<|aG J J J<|aw J J<|aG J J J<|aw J J<|cf J J J<|ak J J (bI J J)<|an J<|ef J J J J J J λPL=> ?_
  refine eh (k:=1) eu [⟨c.steps,(k:Int),(i:Int),a⟩] (afS (t:=⟨c.steps,(k:Int),(i:Int),a⟩) sk.a (nN ⟨slk,jp,slk,slk⟩) ⟨da (by dsimp only; omega),da (by dsimp only; omega),da (by dsimp only; omega),F7⟩) J (by decide)<|bF<|aV 44 (.slice (some ⟨PL,0,none⟩) [(⟨c.steps,(k:Int),(i:Int),a⟩:lu)].length 1) J<|au<|an J ?_
  refine fi J J J J J slk (by simp only [dO,ej,eQ]; omega) λPM PN=>au<|aL J J<|aw J J<|an J<|aE J J<|gZ J<|aR<|cw<|aY<|cu<|ai<|aQ<|ab J J (bE J J (by omega))<|Y J<|O<|ai ?_
  exact ⟨⟨j+1,g1,t++[⟨c.steps,(k:Int),(i:Int),a⟩]⟩,⟨by dsimp only; omega,by simpa only [pi] using vO,by simp; omega,by dsimp only; omega,by dsimp only; omega,pL⟩,(by dsimp only; omega),iY (dC rfl (dC rfl (dC rfl (dC rfl (dC rfl (iM)))))) ((qM b {c with told:=c.told++t++[⟨c.steps,(k:Int),(i:Int),a⟩]} B {pc with AT:=PM,cT:=PN}).trans (by rw [fh]; exact al))⟩
 refine cw<|aY<|aY<|cu<|ai<|aa<|ae J<|O<|av ?_
 obtain rfl:j=out.length:=by omega
 rw [xV] at vO
 simp only [pi] at vO
 subst vO
 exact cI J J
open Go Go.Proofs Go.Proofs.Tryz
theorem zV (hB:B[k]? =some bg) (hl:B.length<=8) (hi:lL g p) (hz:p.Z[i]? =some z):Fn prog 9 #[bG b,.int .i64 (k:Int),.int .i64 (i:Int)] (sv bg g p (fX b c B::L)) (λv L'=>v=Jm z.1/\L'=sv bg g p (fX b c B::L)):=by
 obtain ⟨AN,cN,AD,cD,zI,bk,Z⟩:=p
 dsimp only at hz
 have zG:=hi.len
 have eG:i < Z.length:=(dX.1 hz).1
 refine aH func9 J J J J ?_
 refine cQ b<|aa<|ae J<|O<|aa<|Y J<|Y J ?_
 refine aP b<|aB J J (QT hB hl)<|ae J<|O<|ar<|aa<|Y J<|ab J J (fR J J (dh.eJ))<|aV 12 (.bool false) J<|Y J<|aj J<|Y J<|aj J<|ab J J (bU J J)<|dx 15 J (by omega)<|aA J<|Y J<|aj J<|Y J<|aj J<|Y J<|aj J<|aS J<|aj J<|ao J<|aj J<|ax J J<|aj J<|ab J J (bY J)<|aj J<|ab J J (eV J J)<|dx 24 J (by simp; omega)<|aA J<|O<|aT J<|az<|ai ?_
 have pQ:(Z.map (·.1))[i]? =some z.1:=by (rw [e_,hz]; rfl)
 refine gr (bJ (A:=AN) (c:=cN) (R:=h_)) pQ λb5 o5 e5=> ?_
 subst e5
 exact aa<|Y J<|aS J<|ao J<|ax J J<|Y J<|ab J J (iX (R:=h_) (xs:=Z.map λz:fz=>z.1) J J J pQ)<|ab J J (gi (R:=h_) (c:=cN) (xs:=Z.map λz:fz=>z.1) (q:=0) J bJ pQ J)<|ae J<|O<|av<|cI J J
theorem Yc (hB:B[k]? =some bg) (hl:B.length<=8):Fn prog 68 #[bG b,.int .i64 (k:Int)] (sh bg g::fX b c B::L) (λv L'=>∃ A cc,v=.slice A g.pk.length cc/\L'=aN oE 167 A cc (g.pk.map rQ)::sh bg g::fX b c B::L):=by
 refine aH func68 J J J J<|aa<|ae J<|O<|aa<|Y J<|Y J ?_
 refine aP b<|aB J J (QT hB hl)<|ae J<|O<|ar<|aa<|Y J<|ab J J (fR J J (dh.eJ))<|aV 10 (.bool false) J<|O<|aT J<|az<|ai ?_
 refine cQ bg<|vk λp hi=>aa<|Y J<|aS J<|ao J<|ax J J ?_
 refine aP p.bn<|aJ J J (abj) ?_
 rintro _ _ ⟨vB,uk,rfl,rfl⟩
 refine ae J<|O<|av ?_
 refine aF.ay (CK bg g p hi) ?_
 exact aZ J J al (⟨vB,uk,by simp,J⟩)
open Go Go.Proofs Go.Proofs.Tryz
theorem Yu {c:Nat} {xs:List yP} (hk:bR L mf A c xs) (hb:xs.length<=1000000):Fn prog 20 #[.slice A xs.length c] L (λv L'=>∃ A' c',v=.slice A' xs.length c'/\L'=aN mf 45 A' c' xs::L):=by
 refine aH func20 J J J J<|aa<|ae J<|O<|ar<|aa<|Y J<|ab J J (fR J J (dh.wg))<|O<|bz J (λh4=> ?_) (λh4=> ?_)
 ·subst h4
  refine hk.yi λe=> ?_
  subst e
  exact yw (A:=none) mf 45<|aa<|ae J<|O<|av<|aU<|aZ J J al (⟨none,0,J,J⟩)
 refine az<|ai<|aa<|ef J J J J J J λb5=> ?_
 refine eh (k:=0) mf [] (bV.const λM=>J) J (by simp)<|aV 5 (.slice (some ⟨b5,0,none⟩) ([]:List yP).length 0) J<|Y J ?_
 refine vZ J J J J J hk (by simp; omega) λA7 c7=>ae J<|O<|av ?_
 simp only [dm]
 exact aZ J J al (⟨A7,c7,J,J⟩)
theorem aac (hB:1<=B.length) (hm:c.made.length<=1000000):Fn prog 8 #[bG b] (fX b c B::L) (λv L'=>∃ A cc,v=.slice A c.made.length cc/\L'=aN mf 45 A cc c.made::fX b c B::L):=by
 refine aH func8 J J J J<|aa<|ae J<|O<|ar<|aa<|Y J<|aB J J (Cw hB)<|ab J J (ff J)<|aV 5 (.bool false) J<|O<|aT J<|az<|ai<|uY λp=>aa<|Y J<|aS J<|ao J<|ax J J<|aJ J J (Yu (xs:=c.made) bJ hm) ?_
 rintro _ _ ⟨np,nq,rfl,rfl⟩
 refine ae J<|O<|av ?_
 exact aF.ay (qM b c B p)<|aZ J J al (⟨np,nq,J,J⟩)
theorem Yv {c:Nat} {xs:List lu} (hk:bR L eu A c xs) (hb:xs.length<=1000000):Fn prog 74 #[.slice A xs.length c] L (λv L'=>∃ A' c',v=.slice A' xs.length c'/\L'=aN eu 120 A' c' xs::L):=by
 refine aH func74 J J J J<|aa<|ae J<|O<|ar<|aa<|Y J<|ab J J (fR J J (dh.wg))<|O<|bz J (λh4=> ?_) (λh4=> ?_)
 ·subst h4
  refine hk.yi λe=> ?_
  subst e
  exact yw (A:=none) eu 120<|aa<|ae J<|O<|av<|aU<|aZ J J al (⟨none,0,J,J⟩)
 refine az<|ai<|aa<|ef J J J J J J λb5=> ?_
 refine eh (k:=0) eu [] (bV.const λM=>J) J (by simp)<|aV 5 (.slice (some ⟨b5,0,none⟩) ([]:List lu).length 0) J<|Y J ?_
 refine vZ J J J J J hk (by simp; omega) λA7 c7=>ae J<|O<|av ?_
 simp only [dm]
 exact aZ J J al (⟨A7,c7,J,J⟩)
theorem pR {c:Nat} {xs:List lm} (hk:bR L kP A c xs) (hb:xs.length<=1000000):Fn prog 75 #[.slice A xs.length c] L (λv L'=>∃ A' c',v=.slice A' xs.length c'/\L'=aN kP 70 A' c' xs::L):=by
 refine aH func75 J J J J<|aa<|ae J<|O<|ar<|aa<|Y J<|ab J J (fR J J (dh.wg))<|O<|bz J (λh4=> ?_) (λh4=> ?_)
 ·subst h4
  refine hk.yi λe=> ?_
  subst e
  exact yw (A:=none) kP 70<|aa<|ae J<|O<|av<|aU<|aZ J J al (⟨none,0,J,J⟩)
 refine az<|ai<|aa<|ef J J J J J J λb5=> ?_
 refine eh (k:=0) kP [] (bV.const λM=>J) J (by simp)<|aV 5 (.slice (some ⟨b5,0,none⟩) ([]:List lm).length 0) J<|Y J ?_
 refine vZ J J J J J hk (by simp; omega) λA7 c7=>ae J<|O<|av ?_
 simp only [dm]
 exact aZ J J al (⟨A7,c7,J,J⟩)
open Go Go.Proofs Go.Proofs.Tryz
theorem xO {f:FuncId} {args:Array Value} {M R:List HP} (h:Fn P f args L1 (λv L'=>v=.int .i64 e/\L'=M)) (g1:am L0 L1) (g2:am M R):Fn P f args L0 (λv L'=>v=.int .i64 e/\L'=R):=
 (Tm g1 h).mono λv L' hv=>⟨R,by rw [hv.2]; exact g2,hv.1,rfl⟩
theorem C0 {c:Code} (hz:Z[i]? =some z) [h1:cR L (c_ (Z.map io)) L0] (h:z.1.isSome=z.2.2.isSome->T r n P c ⟨D,E,L⟩ Q):T r n P c ⟨D,E,L⟩ Q:=by
 obtain ⟨o,bd,s⟩:=z
 cases o with
 | none=>cases s with
  | none=>exact h rfl
  | some s=>exact IG hz (CZ (p:=False) λhF=>hF.elim)
 | some b=>cases s with
  | none=>exact IG hz (CZ (p:=False) λhF=>hF.elim)
  | some s=>exact h rfl
theorem wA (h:z.2.2=some s) (h2:z.1.isSome=(some s).isSome):∃ bn bd,z=(some bn,bd,some s):=by
 obtain ⟨o,bd,t⟩:=z
 dsimp only at h h2
 subst h
 cases o with
 | none=>cases h2
 | some b=>exact ⟨b,bd,rfl⟩
theorem afT (h:z.2.2=none) (h2:z.1.isSome=(none:Option dD).isSome):∃ bd,z=(none,bd,none):=by
 obtain ⟨o,bd,t⟩:=z
 dsimp only at h h2
 subst h
 cases o with
 | none=>exact ⟨bd,rfl⟩
 | some b=>cases h2
abbrev KH (b:Nat) (c1 c':cF) (B:List Nat) (bg:Nat) (g g':cP) (x:i8) (q:Option Addr × Nat) (k:Nat) (e:Int) (f:FuncId) (fs:List Value) (cs:lQ->List Value) (o:Option dD) (i:Nat):Prop:=
 ∀ (KB:lQ) (bm:Nat) (p:nz) (z:fz) (R:List HP),lL g p->p.Z[i]? =some z->z.2.2=o->z.1.isSome=o.isSome->Fn prog f (fs++[rB bg z.1 x q (i:Int) (k:Int)]++cs KB).toArray (sv bg g p (fX b c1 B::wT b bm KB R)) (λv L'=>v=.int .i64 e/\L'=sh bg g'::fX b c' B::R)
abbrev FH (b:Nat) (c1:cF) (B:List Nat) (bg:Nat) (g g':cP) (x:i8) (q:Option Addr × Nat) (k:Nat) (e:Int) (f:FuncId):Prop:=
 ∀ (KB:lQ) (bm:Nat) (R:List HP),a_ R (aI .i64) q.1 q.2 x.on->Fn prog f ([bG b]++[rB bg none x q 0 (k:Int)]++[]).toArray (sh bg g::fX b c1 B::wT b bm KB R) (λv L'=>v=.int .i64 e/\L'=sh bg g'::fX b c1 B::R)
variable{c':cF}
theorem ahk (hs:wQ s x.call=some (s',e)) (hc:nO x.call) (hb:0<=c.steps/\c.steps<=1000000) (hi:i<=7) (hk:k<=8) (hm:c.made.length < 1000000):KH b c (if e=0 then {c with made:=c.made++[⟨c.steps,(k:Int),(i:Int),x.call⟩]} else c) B bg g {g with nodes:=g.nodes.set i (some s')} x q k e 35 [bG b] (λ_=>[]) (some s) i:=λKB bm p z R fG hz ho hn=>by
 obtain ⟨bn,bd,rfl⟩:=wA ho hn
 exact xO (Z_ fG hz hs hc ⟨da (by omega),da (by omega),da (by omega)⟩ hm) (am.refl _) bu.g
theorem afU (hr:s.m.km=0):KH b c c B bg g {g with nodes:=g.nodes.set i none} x q k 0 39 [bG b] (λ_=>[]) (some s) i:=λKB bm p z R fG hz ho hn=>by
 obtain ⟨bn,bd,rfl⟩:=wA ho hn
 exact xO (Y' fG hz hr) (am.refl _) bu.g
theorem acT (Kg:1<=c.n/\c.n<=7) (fV:(i:Int) < c.n) (ht:g.e8[i]? =some t) (hw:0<=t/\t<=1152921504606846976):KH b c c B bg g {g with nodes:=g.nodes.set i (some (nL c.n (i:Int) t))} x q k 0 40 [bG b] (λ_=>[]) none i:=λKB bm p z R fG hz ho hn=>by
 obtain ⟨bd,rfl⟩:=afT ho hn
 exact xO (Yb fG hz Kg fV ht hw) (am.refl _) bu.g
theorem afV (h:C9 s=some s'):KH b c c B bg g {g with nodes:=g.nodes.set i (some s')} x q k 0 87 [] (λKB=>[bG KB.b8]) (some s) i:=λKB bm p z R fG hz ho hn=>by
 obtain ⟨bn,bd,rfl⟩:=wA ho hn
 exact xO (K4 (L:=fX b c B::cy eL me true bm (Dl b KB)::cells KB.ix [.func (.func 50) #[] #[]] 122::cells KB.mr [.func (.func 47) #[] #[]] 122::cells KB.b9 [.func (.func 45) #[] #[]] 122::R) (bx:=KB.b8) (f:=43) (λL=>abk h) fG hz) bu.g bu.g
theorem aek (h:E3 s.m x.at_=some m1):KH b c c B bg g {g with nodes:=g.nodes.set i (some ⟨m1,s.waits⟩)} x q k 0 87 [] (λKB=>[bG KB.mr]) (some s) i:=λKB bm p z R fG hz ho hn=>by
 obtain ⟨bn,bd,rfl⟩:=wA ho hn
 exact xO (K4 (L:=fX b c B::cy eL me true bm (Dl b KB)::cells KB.ix [.func (.func 50) #[] #[]] 122::cells KB.b9 [.func (.func 45) #[] #[]] 122::cells KB.b8 [.func (.func 43) #[] #[]] 122::R) (bx:=KB.mr) (f:=47) (λL=>aaa h) fG hz) bu.g bu.g
theorem afW (h:IC s.m=some m1):KH b c c B bg g {g with nodes:=g.nodes.set i (some ⟨m1,s.waits⟩)} x q k 0 87 [] (λKB=>[bG KB.ix]) (some s) i:=λKB bm p z R fG hz ho hn=>by
 obtain ⟨bn,bd,rfl⟩:=wA ho hn
 exact xO (K4 (L:=fX b c B::cy eL me true bm (Dl b KB)::cells KB.mr [.func (.func 47) #[] #[]] 122::cells KB.b9 [.func (.func 45) #[] #[]] 122::cells KB.b8 [.func (.func 43) #[] #[]] 122::R) (bx:=KB.ix) (f:=50) (λL=>abl h) fG hz) bu.g bu.g
theorem afX {out:List jl} (hs:Fb s=some (s',out)) (Qh:c.n=(g.nodes.length:Int)) (fV:i < g.nodes.length) (XE:k<=8) (cK:0<=c.steps/\c.steps<=1000000) (hb:g.pk.length+out.length<=65000/\g.last<=1000000000/\c.told.length+out.length<=1000000/\(out.all IF)=true):KH b c {c with told:=c.told++(pi (i:Int) c k out {g with nodes:=g.nodes.set i (some s')} []).2} B bg g (pi (i:Int) c k out {g with nodes:=g.nodes.set i (some s')} []).1 x q k 0 49 [bG b] (λ_=>[]) (some s) i:=λKB bm p z R fG hz ho hn=>by
 obtain ⟨bn,bd,rfl⟩:=wA ho hn
 have hl:p.Z.length=g.nodes.length:=by rw [<- fG.nodes,gY]
 exact xO (Za fG hz hs (by rw [hl]; exact Qh) (by rw [hl]; exact fV) XE cK hb) (am.refl _) bu.g
theorem acU {iC:oY} {r:List oY} {s1:dD} (hp:g.pk=iC::r) (hx:x.at_=0) (hs:g.nodes[iC.cH.toNat]? =some (some s)) (hc:iP iC.m<=nY) (ho:zC s iC.m=some s1):FH b c B bg g {g with nodes:=g.nodes.set iC.cH.toNat (some s1),pk:=r} x q k 0 36:=λKB bm R hk=>xO (Ya hp hx hs hc ho) (am.refl _) bu.g
theorem ahl (ht:0<=x.jq/\x.jq<=1000) (hl:x.on.length=g.e8.length) (qw:∀ a∈x.on,0<=a/\a<=1000) (FQ:∀ t∈g.e8,t<=1000000000) (Gt:g.tm<=1000000000) (GZ:∀ o∈g.nodes,o.isSome=true):FH b c B bg g {g with e8:=List.zipWith (·+·) g.e8 x.on,tm:=g.tm+x.jq,nodes:=List.zipWith (λo t=>o.map λs=>t0 s t) g.nodes (List.zipWith (·+·) g.e8 x.on)} x q k 0 41:=λKB bm R hk=>xO (aab hk.tail.tail.tail.tail.tail.tail ht hl qw FQ Gt GZ) (am.refl _) bu.g
variable{Z:List (Nat × cP)}
theorem sw.put (h:sw c Z) (hz:Z[k]? =some (bg,g)) (hn:c'.n=c.n) (hs:c'.eB=c.eB) (hl:g'.nodes.length=g.nodes.length):sw {c' with eB:=c'.eB.set k g'} (Z.set k (bg,g')):=by
 have hg:g∈c.eB:=by rw [<- h.sh]; exact fY.2 ⟨_,eA hz,rfl⟩
 refine ⟨by dsimp only; rw [l8,h.sh,hs],by dsimp only; rw [hn]; exact h.n,by simpa using h.len,λy hy=> ?_⟩
 dsimp only at hy ⊢
 rw [hn]
 rcases G9 hy with hy | rfl
 ·exact h.nodes y (hs ▸ hy)
 ·rw [hl]; exact h.nodes g hg
theorem aiw (hz:Z[k]? =some (bg,g)):(Z.set k (bg,g')).map (·.1)=Z.map (·.1):=by
 rw [l8]; exact pd (by rw [e_,hz]; rfl)
theorem No (b:Nat) (hi:sw c Z) (hz:Z[k]? =some (bg,g)) (hn:c'.n=c.n) (hs:c'.eB=c.eB) (hl:g'.nodes.length=g.nodes.length) [h1:cR L (fX b c' (Z.map (·.1))) L1] [h2:cR L1 (sh bg g') L2] [h3:cR L2 (c_ ((Z.map jH).set k gP)) L3]:am L (cl b {c' with eB:=c'.eB.set k g'}::L3):=by
 refine (h1.g.trans (am.cons _ ((h2.g.trans (am.cons _ h3.g)).trans (M4 (g':=g') hz)))).trans ?_
 have e:=nG (L:=L3) (F:=Ke b {c' with eB:=c'.eB.set k g'}) (φ:=sw {c' with eB:=c'.eB.set k g'}) (Z.set k (bg,g')) (hi.put hz hn hs hl)
 dsimp only [Ke] at e
 rw [aiw hz] at e
 exact e
theorem Ky (id:Int) (c:cF) (k:Nat):∀ (l:List jl) (g:cP) (t:List lu),(pi id c k l g t).1.nodes=g.nodes
 | [],g,t=>rfl
 | .dR a::l,g,t=>by unfold pi; exact Ky id c k l g _
 | .gh m::l,g,t=>by
  unfold pi
  rw [Ky id c k l]
  split <;> rfl
end Go.SL
