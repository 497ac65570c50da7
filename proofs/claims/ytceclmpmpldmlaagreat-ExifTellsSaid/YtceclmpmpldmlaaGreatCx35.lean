import Derived.Test.YtceclmpmpldmlaaGreatCx26
set_option linter.unusedSimpArgs false
set_option linter.unusedVariables false
namespace Go.Proofs.YtceclmpmpldmlaaGreat
open Go.RowKit Tt
structure Keeps (n:Nat) (P:St→Prop):Prop where
 take:∀x s s',1≤x.2.2.2.2→aBT n x s= .ok s'→P s→P s'
 free:∀s s',s'.JK=s.JK→P s→P s'
section
variable {z:List Int} {P:St→Prop} (hP:Keeps z.length P)
include hP
end
section
variable {z z2:List Int}
end
set_option maxRecDepth 20000 in
set_option maxHeartbeats 8000000 in
theorem aIR (f:Nat) (o:Int) (sa:Option Addr) (sn sc:Nat) (ds:List (jR f)) (a:Option Addr) (n c:Nat) (zs:List QN) (w:World) (h:yP f w sa sn sc ds) (hz:ShR w a n c zs) (hs:∀d∈ds,lN f d) (rU:∀d∈ds,BJ f d) (hN:(lK f ds).length<1000) (AR:sn≤500)
  (D5:tY f o ds (jP zs)=0→OKT f o ds (jP zs)):
  Calls Tryz.prog 10 #[.agg #[.int .i64 o,.slice sa sn sc],.slice a n c] w fun e w'=>∃a' m c',e= .returned (.tuple #[.slice a' m c',.int .i64 (tY f o ds (jP zs))])∧w'.ownsRow w.heap.size 5 1 (.slice a' m c') m (ints .u8 (a3H f o ds (jP zs)))∧Below w.heap.size w w':=by
 have jY:=aD w (.cells #[.int .i64 o,.slice sa sn sc] 39);have bA:=jW.new w 39 #[.int .i64 o,.slice sa sn sc];obtain⟨W1,pR⟩:=aC (w.alloc (.cells #[.int .i64 o,.slice sa sn sc] 39));have IY:W1.heap.size=w.heap.size+1:=by rw[←pR];simp
 rw[pR]at jY bA;have hC:=aHH f o sa sn sc ds a n c zs W1 (h.mono jY) (hz.mono jY) hs rU hN AR;obtain⟨R,hR⟩:=aC (tY f o ds (jP zs));have hwr:a3H f o ds (jP zs)=if R=0 then a3G f o ds (jP zs)else []:=by unfold a3H;rw[hR]
 rw[hR]at hC D5 ⊢;obtain⟨WB,hWB⟩:∃x,a3H f o ds (jP zs)=x:=⟨_,rfl⟩;rw[hWB]at hwr ⊢;have c0:=bA.cell (i:=0) rfl;have c1:=bA.cell (i:=1) rfl;obtain⟨h',AQ,pX,wJ⟩:=aL h hz hs rU;obtain⟨YD,kR,bA',y8,MC,vG,a4L,ED,aVF⟩:=aQ hN jY bA pR hC hR hwr D5 hWB;clear h hz hs rU hN jY bA pR hC hR hwr D5 hWB;go_enter Tryz.func10,Tryz.ntmps10;go_wp2_with fail
 rw[y8.o];refine MC.o.mono ?_;rintro e w2 ⟨rfl,jT⟩;have bA2:=bA'.o.late jT;have lJ:=kR.o.tm jT;clear c0 c1;by_cases hR0:R=0
 ·subst hR0;rw[if_pos (by rfl)]at a4L;have hO:=ED.o rfl;have vW:=(aY w2.heap.size w2).drew;have bA3:=bA2.late vW;obtain⟨Ty,ff,oJ,nK,jK⟩:=lM (fun W=>jW W w.heap.size 39 #[.int .i64 o,.slice sa sn sc]) w2 bA2;have HS:=aA (jK w2.drew bA3);have q0:=fun s=>(nK s).cell (i:=0) rfl;have q1:=fun s=>(nK s).cell (i:=1) rfl;obtain⟨wD,qF⟩:=aC w2.drew;rw[qF]at bA3 HS vW;have sD:=lJ.tm vW;obtain⟨m,hm⟩:∃m:Nat,nS f ds=m:=⟨(nS f ds).toNat,by have:=hO.n8;omega⟩;have U3:=hO.n8;have U8:=hO.n1;have hL:=a3E f o sa sn sc ds wD (h'.o.mono sD) pX.o wJ.o YD.o;rw[hm]at hL U3 U8;obtain⟨mE,aVG,lG,zZ,a07,aCV,AB,jF,nX,EN,hL'⟩:=aS jT bA2 lJ hO vW bA3 nK jK sD hm hL;clear jT bA2 lJ hO vW bA3 nK jK sD hm hL;go_wp2_with fail
  refine kM (S:=fun W=>∃s,W=ff s) aF 10 rfl ?_;rw[qF];refine jS [0,3,4,6] 6 aF aI aF aF aF HS.o ?_;simp only[jI,aW,aX,aU,aV];iterate 4 (go_big_quiet_step (fail))
  refine wpQuiet_nil ?_;clear q0 q1 qF;refine jJ 1 5 aF aF ?_;simp only[jI,aW,aX,aU,aV];go_wp2_with fail
  refine hL'.o.mono ?_;rintro e w4 ⟨rfl,mF⟩;have bA4:=aCV.o.late mF;have qZ:=nX.o.tm mF;obtain⟨HS,rT,a04,kW⟩:=aL (jF.o _ bA4) mF bA4 qZ;clear mF bA4 qZ;go_wp2_with fail
  first|refine Mid.mk ⟨HS.o,?_⟩|refine Mid.mk ?_
  refine jJ 2 4 aF aF ?_;simp only[jI,aW,aX,aU,aV];obtain⟨i0,hi,sN,oG,qK⟩:=info_parts aGZ;go_wp2_with (at_make;refine wpList_make_full w4 rfl _ _ 24 rfl w4.heap.size 5 i0 _ 1 Tryz.underlying24 hi sN oG .i64 .i64 _ _ m rfl rfl rfl rfl (by rw[qK];omega) (by unfold maxLen;omega) (aZ _) ?_;intro w5 kY nW;have R5:=Row.jU (by rw[NH]at kY;exact kY);have nZ:=(aY w4.heap.size w4).grown nW (aZ _) (fun k e=>by cases e);clear kY nW)
  have bA5:=a04.o.late nZ;have wN:=kW.o.tm nZ;have HS:=aA (jF.o _ bA5);have bVX:=kW.o.size;obtain⟨g0,hg0⟩:=aC w4.heap.size;rw[hg0]at R5;have hgl:=Row.lt R5;obtain⟨xJ,aS7,nN,R5'⟩:=aL nZ bA5 wN R5;clear nZ bA5 wN R5;first|refine Mid.mk ⟨HS.o,?_⟩|refine Mid.mk ?_
  refine jS [5,7] 2 aF aI aF aF aF HS.o ?_;simp only[jI,aW,aX,aU,aV];iterate 2 (go_big_quiet_step (fail))
  refine wpQuiet_nil ?_;refine jJ 8 1 aF aF ?_;simp only[jI,aW,aX,aU,aV];go_wp2_with fail
  have ha6:=aD w5 (.cells #[.slice (some ⟨g0,0,none⟩) m m,.int .i64 o,.slice none 0 0,.slice a n c,.int .i64 0] 91);have bw:=jW.new w5 91 #[.slice (some ⟨g0,0,none⟩) m m,.int .i64 o,.slice none 0 0,.slice a n c,.int .i64 0];obtain⟨g1,hg1⟩:=aC w5.heap.size;obtain⟨W6,hW6⟩:=aC (w5.alloc (.cells #[.slice (some ⟨g0,0,none⟩) m m,.int .i64 o,.slice none 0 0,.slice a n c,.int .i64 0] 91));rw[hW6]at ha6 bw ⊢;rw[hg1]at bw ⊢;have bA6:=aS7.o.late ha6;have Q8:=nN.o.tm ha6;have HS:=aA (jF.o _ bA6);have R6:Row W6 g0 5 .u8 (List.replicate m 0):=jW.late (T:=5) R5'.o ha6;obtain⟨bR7,bw',aSH⟩:=aK ha6 bw hW6;clear ha6 bw hW6;first|refine Mid.mk ⟨HS.o,?_⟩|refine Mid.mk ?_
  refine jS [9] 0 aF aI aF aF aF HS.o ?_;simp only[jI,aW,aX,aU,aV];iterate 1 (go_big_quiet_step (fail))
  refine wpQuiet_nil ?_;refine jV aF ?_;have bRA:=aS7;have bRB:=a04;clear HS AB jF aVG aCV a04 aS7 MC R5' xJ rT hL' aSH bR7;have hO:=zZ.o;have hPO:=aSN f o sa sn sc ds W6 (h'.o.mono Q8) pX.o wJ.o YD.o;have c0:=bA6.cell (i:=0) rfl;have c1:=bA6.cell (i:=1) rfl;obtain⟨aVH,AO,R6',zZ,bRC⟩:=aM bA6 Q8 R6 hO hPO;clear bA6 Q8 R6 hO hPO;go_wp2_with fail
  refine bRC.o.mono ?_;rintro e w7 ⟨hor,rE⟩;obtain⟨v7,rfl,a9G⟩:∃v,e= .returned (.tuple #[v,.bool true])∧Spr W6.heap.size w7 v (jX f ds):=by
   rcases hor with ⟨_,h⟩|⟨h,_⟩
   ·exact h
   ·rw[zZ.o.fit]at h;cases h
  obtain⟨GH,J6,rfl⟩:∃a c,v7= .slice a (jX f ds).length c:=by
   rcases a9G.2 with ⟨rfl,h0⟩|⟨g,cap,cur,rfl,_⟩
   ·exact⟨none,0,by rw[h0]⟩
   ·exact⟨_,_,rfl⟩
  obtain⟨H6,aIS⟩:∃x,(jX f ds).length=x:=⟨_,rfl⟩;rw[aIS]at a9G ⊢;have bA7:=aVH.o.late rE;have bw7:=bw'.o.late rE;have R7:Row w7 g0 5 .u8 (List.replicate m 0):=jW.late (T:=5) R6'.o rE;have a6I:=AO.o.tm rE;clear c0 c1;have p2:=bw7.cell (i:=2) rfl;have y2:=bw7.frozen 2;have bw8:=bw7.set 2 (.slice GH H6 J6);have oU:=(But.refl g1 w7).set 2 (.slice GH H6 J6);have bVY:g1<W6.heap.size:=bw'.o.lt;have bVZ:g0<W6.heap.size:=Row.lt R6'.o;have b3O:g1≠g0:=by omega
  have bAC:=(Sl.jU a9G).1;have aVI:∀x,GH=some x→W6.heap.size≤x.block∧x.block<w7.heap.size:=fun x e=>by
   have h1:=a9G.2;rcases h1 with ⟨hv,_⟩|⟨g,cap,cur,hv,hB,hg,_⟩
   ·injection hv with h1 _ _;rw[h1]at e;cases e
   ·injection hv with h1 _ _
    rw[h1]at e;injection e with e;rw[←e];exact⟨hB,(bW.1 hg).1⟩
  have hWS:P7 ⟨g1,g0,m,o,GH,H6,J6,jX f ds,a,n,c,w7.heap.size⟩ (w7.setCell ⟨g1,2,none⟩ (.slice GH H6 J6)) 0 (List.replicate m 0):=
   ⟨bw8,(oU.block _ (Row.lt R7) (Ne.symm b3O)).trans R7,by simp,RX bAC oU.size (fun x e hx=>oU.block _ hx (by have:=aVI x e;omega)),fun x e=>by have:=aVI x e;exact⟨by show x.block≠g1;omega,by show x.block≠g0;omega⟩,b3O,fun x e=>(aVI x e).2,oU.size⟩
  have aVJ:=a6I.trans (oU.below (B:=w.heap.size) aG a6I.size);have bA8:=jW.a9H oU bA7 aG;obtain⟨W8,hW8⟩:=aC (w7.setCell ⟨g1,2,none⟩ (.slice GH H6 J6));rw[hW8]at hWS aVJ bA8;have bUD:w.heap.size<g1:=by have:=bRA.o.lt;omega
  have bUE:w.heap.size<g0:=by have:=bRB.o.lt;omega
  obtain⟨bK2,b1N,bW0,bW1,R7',aCG,bW2,a2H,bUF,bUG⟩:=aR aIS a9G bA7 bw7 R7 a6I bw8 oU bAC aVI;clear aIS a9G bA7 bw7 R7 a6I bw8 oU bAC aVI;obtain⟨K,rfl,rfl,rfl,rfl,hKa,rfl,rfl,hKl,hWS⟩:∃K:Wc,K.gw=g1∧K.gb=g0∧K.n=m∧K.o=o∧K.qa=a∧K.qn=n∧K.qc=c∧K.l=jX f ds∧P7 K W8 0 (List.replicate m 0):=⟨_,rfl,rfl,rfl,rfl,rfl,rfl,rfl,rfl,hWS⟩;have hzK:ShR w K.qa K.qn K.qc zs:=by rw[hKa];exact AQ.o
  obtain⟨bK3,bW3⟩:=aJ hzK hKa;clear hzK hKa;obtain⟨w9,hr9,SC,YU⟩:=aDE hWS ⟨#[77,77]⟩ [77,77] rfl rfl (by show 2≤K.n;omega) 9 3;have bW4:=bA8.lt;have bA9:=Mv.blk YU bA8 aG aG;have c0:=bA9.cell (i:=0) rfl;have d0:=hWS.blk.cell (i:=0) rfl;rw[←hW8]at d0 hr9;have d9:=SC.blk.cell (i:=0) rfl;have AU:lZ 42 2 K.o=true:=by
   rcases zZ.o.ord with h|h <;> rw[h] <;> decide
  have BP:=nQ AU;by_cases OT:K.o=1
  ·have e1:(K.o==1)=true:=by simp[OT]
   obtain⟨w10,aOO,aVK,aEW⟩:=aDE SC ⟨#[73,73]⟩ [73,73] rfl rfl (by show 2≤K.n;omega) 9 3;have hPp:=EH K w10 0 _ aVK 2 42 2 AU (by rw[BP];decide) (by rw[BP,show(2:Int).toNat=2 from rfl];omega);have hsg:tO (VG K.o) (List.replicate K.n 0)=splice (splice (List.replicate K.n 0) 0 [77,77]) 0 [73,73]:=by unfold VG;rw[if_pos OT];rfl
   have a4M:=Mv.blk aEW bA9 aG aG;have aEW:=(YU.trans aEW);obtain⟨bRD,aVL,aVM,aSJ,aGU,aVN,bRE,KE,a6Z,YG,bRF,aEX⟩:=aT hWS bA8 hKl SC YU bA9 hW8 aVJ AU BP aVK a4M;obtain⟨a3D,bAD,aY1,aVO⟩:=aL hPp hsg OT aEW;clear hWS bA8 hKl SC YU bA9 hW8 aVJ AU BP aVK a4M hPp hsg OT aEW;go_wp2_with (at_builtin;first|(refine wpList_copy_run _ rfl _ _ _ _ rfl _ _ rfl rfl hr9 ?_;clear hr9)|refine wpList_copy_run _ rfl _ _ _ _ rfl _ _ rfl rfl aOO ?_)
   clear aOO d0 d9 c0;refine a3D.o.mono ?_;rintro e PS ⟨rfl,VW,aAF⟩;have TD:=Mv.blk aAF aEX.o aG aG;have TF:=aVO.o.trans aAF;obtain⟨P2,hP2⟩:=aC (tO (VG K.o) (List.replicate K.n 0));rw[←bAD.o,hP2]at VW;obtain⟨P3,MU⟩:=aC (splice P2 2 (kZ 42 2 K.o));rw[MU]at VW;have hWt:WB=tO (chW (jP zs) K.l K.o f ds ds.length) P3:=by
    rw[a4L.o,aDC,EN.o,bM,hP2,MU,aVM.o]
   obtain⟨xC,oQ,nL,nR⟩:=h'.o;have sM:ds.length=sn:=by rw[←oQ];exact nL.rP mP aH
   have c1:=TD.cell (i:=1) rfl;have hms:=TF.size;have qJ:(jP zs).length=K.qn:=by unfold jP;rw[bL];exact AQ.o.len
   have hqm:=AQ.o.row.max;have hql:=AQ.o.row.le;obtain⟨VX,a4N,aSE,a9T,bAF,sH,tX,oW,wI,aIT,bK4,mX⟩:=aT TD TF hP2 MU hWt oQ nL nR sM VW aAF qJ;clear TD TF hP2 MU hWt oQ nL nR sM VW aAF qJ;go_wp2_with fail
   clear c1;go_loopw [8,9,58] (fun sv lv iv wr=>∃k:Nat,k≤sn∧sv= .int .i64 (nA (jP zs) k)∧lv= .int .i64 (IK K.l f ds k)∧iv= .int .i64 k∧Hid (P7 K wr (noT f ds k) (tO (chW (jP zs) K.l K.o f ds k) P3))∧Hid (Mv K.gw K.gb tZ tZ W8 wr)) (fun _ _ iv _=>sn - (intOf iv).toNat)
   case atStart=>
    exact⟨0,by omega,rfl,rfl,rfl,aIT,a4N⟩
   case round=>
    obtain⟨k,hk,rfl,rfl,rfl,hws,hmv⟩:=hrel;by_cases kD:k<sn
    ·have I4:(k:Int)<(sn:Int):=by omega
     have sS:IntKind.i64.wrap ((k:Int)+1)=k+1:=by rw[bF];omega
     have hid:k<ds.length:=by rw[wI.o];exact kD
     have nV:k<xC.length:=by rw[sH.o];exact hid
     have lI:Below w.heap.size w wr:=KE.o.trans (hmv.o.below (B:=w.heap.size) aG aG (fun k e=>by cases e) KE.o.size);obtain⟨b,o2,rfl,lC,fe⟩:=(tX.o.mono lI).elem mP aH dzz kD;rw[jO nV]at fe;have nD:=oW.o k nV hid;obtain⟨ua,un,uc,ra,rn,rc,ya,yn,yc,hv⟩:=nD.v;have g0:=fe 0 _ rfl;have g1:=fe 1 _ rfl;have g2:=fe 2 _ rfl;clear fe;rw[hv]at nD g0 g1 g2;simp only[bU]at g0 g1 g2;have KJ:ds.getD k (lY f)=ds[k]:=jO hid _;have tH:=pX.o _ (bJ hid);have tQ:=wJ.o _ (bJ hid);have zM:=zZ.o.nx k hid;have ME:=zZ.o.dir k hid;have EC:=zZ.o.lnk k hid;have IX:=zZ.o.pk k hid;rw[←aVM.o]at ME EC IX;rw[EN.o,bM]at ME EC;have hnl:=I9 zZ.o.shp k;rw[mX.o]at hnl;have LY:=JX f ds hid;have hNl:=IL f ds k;have a2Y:=IL f ds (k+1);have hNN:=YD.o;have GQ:=aDD (jP zs) K.l K.o f ds k;have YA:IK K.l f ds (k+1)=oV K.l 2 (noT f ds k) 0+2+12*(a08 f (ds.getD k (lY f)):Nat):=rfl;have hXs:nA (jP zs) (k+1)=((jP zs).getD (nA (jP zs) k).toNat mD).2.2.2:=rfl;obtain⟨hen,IZ,OU,XB⟩:=VH nD tH;rw[KJ]at ME LY GQ YA;obtain⟨ns,hns⟩:∃x,noT f ds k=x:=⟨_,rfl⟩;rw[hns]at ME IX LY hNl GQ YA hws;obtain⟨ik,hik⟩:∃x:Nat,nA (jP zs) k=x:=⟨(nA (jP zs) k).toNat,by omega⟩;rw[hik]at ME hnl GQ hXs ⊢;obtain⟨lk,TG⟩:∃x:Nat,IK K.l f ds k=x:=⟨(IK K.l f ds k).toNat,by omega⟩;rw[TG]at EC GQ ⊢;rw[bM]at EC GQ;obtain⟨at_,EL⟩:∃x,oV K.l 2 ns 0=x:=⟨_,rfl⟩;rw[EL]at IX GQ YA;rw[hen]at YA;obtain⟨dd,OX⟩:=aC (ds[k]);rw[OX]at nD tH tQ ME LY GQ;have l9:=aD wr (.cells #[.slice ua un uc,.slice ra rn rc,.slice ya yn yc] 26);have bD:=jW.new wr 26 #[.slice ua un uc,.slice ra rn rc,.slice ya yn yc];have aIU:=hws.o.later l9;have hD:=aSK zs K f w _ ns _ dd (.slice ua un uc,.slice ra rn rc,.slice ya yn yc) ik aIU bK3.o (lI.tm l9) aG aG nD tH tQ zZ.o.shp ME aG aG aG aG;rw[EL]at hD;simp only at hD;have yJ:(ik:Int)<(K.qn:Int):=by omega
     have bAG:(0:Int)≤(ik:Int):=by omega
     have aVP:=nQ IX;have hwl:=hmv.o.size;obtain⟨bRG,bRH⟩:=hws.o.ne_of;obtain⟨KY,zH,xE,aFM,yG,a2B,bAH,VY,a2Z,a2T,TH,TI⟩:=aT lI nD hv KJ tH tQ ME IX LY GQ YA hXs;obtain⟨bCM,aD2,aXN,aVQ,YE,aCW,oL,Z7,bK5,hD',aEY⟩:=aS hen hns hik TG EL OX l9 bD aIU hD aVP;clear lI nD hv KJ tH tQ ME IX LY GQ YA hXs hen hns hik TG EL OX l9 bD aIU hD aVP;go_wp2_with fail
     refine hD'.o.mono ?_;rintro e w12 ⟨rfl,a4O,TF⟩;have aVR:=Mv.blk TF Z7.o aG aG;have hPp:=EH K w12 _ _ a4O lk at_ 4 VY.o (by rw[aEY.o];decide) (by rw[aEY.o,show(4:Int).toNat=4 from rfl];omega);obtain⟨bAI,a4N,aVS,a3D⟩:=aL a4O TF aVR hPp;clear a4O TF aVR hPp;clear g0 g1 g2;go_wp2_with fail
     refine a3D.o.mono ?_;rintro e SX ⟨rfl,a4P,aAG⟩;have YB:=Mv.blk aAG aVS.o aG aG;have VZ:=((hmv.o.later oL.o).trans a4N.o).trans aAG;have rZ:Below w.heap.size w SX:=KE.o.trans (VZ.below (B:=w.heap.size) aG aG (fun k e=>by cases e) KE.o.size);obtain⟨b3,o3,ha3,vB,fe⟩:=AQ.o.row.elem qD aH sJ (show ik<K.qn by omega);subst ha3;rw[bM,qL (by rw[AQ.o.len];omega)]at TI;have l3:=late rZ vB (fe 3 _ rfl);rw[←TI.o]at l3;clear fe;obtain⟨gD,hgD⟩:=aC wr.heap.size;rw[hgD]at YB ⊢;obtain⟨xs,TY⟩:∃x,nA (jP zs) (k+1)=x:=⟨_,rfl⟩;rw[TY]at l3;have aIV:jW SX gD 26 #[.slice ua un uc,.slice ra rn rc,.slice ya yn yc]∧SX.cell? ⟨b3,o3+ik*4+3,none⟩=some (.int .i64 xs):=⟨YB,l3⟩;have vW:=(aY SX.heap.size SX).drew;obtain⟨Ty,ff,oJ,nK,jK⟩:=lM (fun W=>jW W gD 26 #[.slice ua un uc,.slice ra rn rc,.slice ya yn yc]∧W.cell? ⟨b3,o3+ik*4+3,none⟩=some (.int .i64 xs)) SX aIV;have HS:=aA (jK SX.drew ⟨YB.late vW,l3⟩);have q0:∀s,(ff s).cell? ⟨gD,0,none⟩=some (.slice ua un uc):=fun s=>(nK s).1.cell rfl;have q1:∀s,(ff s).cell? ⟨gD,1,none⟩=some (.slice ra rn rc):=fun s=>(nK s).1.cell rfl;have q2:∀s,(ff s).cell? ⟨gD,2,none⟩=some (.slice ya yn yc):=fun s=>(nK s).1.cell rfl;have q3:∀s,(ff s).cell? ⟨b3,o3+ik*4+3,none⟩=some (.int .i64 xs):=fun s=>(nK s).2;have bDD:=YB.late vW;have aIW:=a4P.later vW;have aIX:=VZ.later vW;have hbD:=rZ.tm vW;have l3D:SX.drew.cell? ⟨b3,o3+ik*4+3,none⟩=some (.int .i64 xs):=l3;obtain⟨wD,qF⟩:=aC SX.drew;rw[qF]at HS bDD aIW aIX l3D hbD;have hE:=UU ua ra ya un uc rn rc yn yc wD aG aG;obtain⟨ne,sU⟩:∃x,qM un rn yn=x:=⟨_,rfl⟩;have bAJ:ne≤1002:=by rw[←sU];exact yY IZ OU
     rw[sU]at hE TH;have hpa:=VY.o;have bRI:0≤at_∧at_<4294967296:=by
      unfold lZ at hpa;simp only[bV,decide_eq_true_eq]at hpa;have:rF 4=4294967296:=by decide
      omega
     have MQ:=aB (at_+2) aG;have HY:IntKind.i64.wrap (12*(ne:Int))=12*ne:=by rw[bF];omega
     have ZL:IntKind.i64.wrap (at_+2+12*(ne:Int))=at_+2+12*ne:=by rw[bF];omega
     clear hpa l3;obtain⟨bAK,bK6,bK7,bAL,QT,U0,bK8,a07,AB,jF,bAM,aVT⟩:=aT a4P aAG YB VZ rZ TY aIV vW nK jK bDD aIW;obtain⟨aVU,aVV,bAN,JA,a3W⟩:=aM aIX hbD l3D hE sU;clear a4P aAG YB VZ rZ TY aIV vW nK jK bDD aIW aIX hbD l3D hE sU;go_wp2_with fail
     refine kM (S:=fun W=>∃s,W=ff s) aF 13 rfl ?_;rw[qF];refine jS [0,1,2,6,7,8,9,10] 5 aF aI aF aF aF HS.o ?_;simp only[jI,aW,aX,aU,aV];iterate 8 (go_big_quiet_step (fail))
     refine wpQuiet_nil ?_;clear q0 q1 q2 q3 qF;refine jJ 3 4 aF aF ?_;simp only[jI,aW,aX,aU,aV];go_wp2_with fail
     refine JA.o.mono ?_;rintro e w15 ⟨rfl,pV⟩;have aEZ:=aVT.o.later pV;have aF0:=aVU.o.later pV;obtain⟨HS,vM,aIY,aIZ⟩:=aL (jF.o _ ⟨bAM.o.late pV,late pV (p:=⟨b3,o3+ik*4+3,none⟩) (by show b3<_;have:=aVV.o.size;omega) bAN.o⟩) pV aEZ aF0;clear pV aEZ aF0;go_wp2_with fail
     first|refine Mid.mk ⟨HS.o,?_⟩|refine Mid.mk ?_
     refine jS [4,5,11,12] 0 aF aI aF aF aF HS.o ?_;simp only[jI,aW,aX,aU,aV];iterate 4 (go_big_quiet_step (fail))
     refine wpQuiet_nil ?_;refine jV aF ?_;have aF1:P7 K w15 (noT f ds (k+1)) (tO (chW (jP zs) K.l K.o f ds (k+1)) P3):=by
      rw[a2Z.o,a2T.o,l6,l6];exact aIY.o
     have aJ0:=aA aF1;clear aF1;go_wp2_with fail
     go_roundw
     case rel=>exact⟨k+1,by omega,by rw[U0.o],by rw[TH.o],by go_num,aJ0,aIZ⟩
     case measure=>simp[intOf];omega
    ·obtain rfl:k=sn:=by omega
     rw[←wI.o,←bAF.o]at hws;have c0:=hws.o.blk.cell (i:=0) rfl;have wR:Below w.heap.size w wr:=KE.o.trans (hmv.o.below (B:=w.heap.size) aG aG (fun k e=>by cases e) KE.o.size);have kY:=(hws.o.row.own hws.o.len (B:=w.heap.size) aG (by unfold maxLen;omega));obtain⟨zI,tF⟩:=aJ wR kY;clear wR kY;go_wp2_with fail
     refine bodyPost_ret (results_tmp2 rfl _ _ _) rfl ?_;exact⟨_,_,_,rfl,tF.o,zI.o⟩
  ·have e1:(K.o==1)=false:=by simp[OT]
   have hPp:=EH K w9 0 _ SC 2 42 2 AU (by rw[BP];decide) (by rw[BP,show(2:Int).toNat=2 from rfl];omega);have hsg:tO (VG K.o) (List.replicate K.n 0)=splice (List.replicate K.n 0) 0 [77,77]:=by unfold VG;rw[if_neg OT];rfl
   have a4M:=bA9;have aEW:=YU;obtain⟨bRD,aVL,aVM,aSJ,aGU,aVN,bRE,KE,a6Z,YG,aEX,a3D⟩:=aT hWS bA8 hKl SC YU bA9 hW8 aVJ AU BP a4M hPp;obtain⟨bAD,aY1,aVO⟩:=aK hsg OT aEW;clear hWS bA8 hKl SC YU bA9 hW8 aVJ AU BP a4M hPp hsg OT aEW;go_wp2_with (at_builtin;refine wpList_copy_run _ rfl _ _ _ _ rfl _ _ rfl rfl hr9 ?_;clear hr9)
   clear d0 d9 c0;refine a3D.o.mono ?_;rintro e PS ⟨rfl,VW,aAF⟩;have TD:=Mv.blk aAF aEX.o aG aG;have TF:=aVO.o.trans aAF;obtain⟨P2,hP2⟩:=aC (tO (VG K.o) (List.replicate K.n 0));rw[←bAD.o,hP2]at VW;obtain⟨P3,MU⟩:=aC (splice P2 2 (kZ 42 2 K.o));rw[MU]at VW;have hWt:WB=tO (chW (jP zs) K.l K.o f ds ds.length) P3:=by
    rw[a4L.o,aDC,EN.o,bM,hP2,MU,aVM.o]
   obtain⟨xC,oQ,nL,nR⟩:=h'.o;have sM:ds.length=sn:=by rw[←oQ];exact nL.rP mP aH
   have c1:=TD.cell (i:=1) rfl;have hms:=TF.size;have qJ:(jP zs).length=K.qn:=by unfold jP;rw[bL];exact AQ.o.len
   have hqm:=AQ.o.row.max;have hql:=AQ.o.row.le;obtain⟨VX,a4N,aSE,a9T,bAF,sH,tX,oW,wI,aIT,bK4,mX⟩:=aT TD TF hP2 MU hWt oQ nL nR sM VW aAF qJ;clear TD TF hP2 MU hWt oQ nL nR sM VW aAF qJ;go_wp2_with fail
   clear c1;go_loopw [8,9,58] (fun sv lv iv wr=>∃k:Nat,k≤sn∧sv= .int .i64 (nA (jP zs) k)∧lv= .int .i64 (IK K.l f ds k)∧iv= .int .i64 k∧Hid (P7 K wr (noT f ds k) (tO (chW (jP zs) K.l K.o f ds k) P3))∧Hid (Mv K.gw K.gb tZ tZ W8 wr)) (fun _ _ iv _=>sn - (intOf iv).toNat)
   case atStart=>
    exact⟨0,by omega,rfl,rfl,rfl,aIT,a4N⟩
   case round=>
    obtain⟨k,hk,rfl,rfl,rfl,hws,hmv⟩:=hrel;by_cases kD:k<sn
    ·have I4:(k:Int)<(sn:Int):=by omega
     have sS:IntKind.i64.wrap ((k:Int)+1)=k+1:=by rw[bF];omega
     have hid:k<ds.length:=by rw[wI.o];exact kD
     have nV:k<xC.length:=by rw[sH.o];exact hid
     have lI:Below w.heap.size w wr:=KE.o.trans (hmv.o.below (B:=w.heap.size) aG aG (fun k e=>by cases e) KE.o.size);obtain⟨b,o2,rfl,lC,fe⟩:=(tX.o.mono lI).elem mP aH dzz kD;rw[jO nV]at fe;have nD:=oW.o k nV hid;obtain⟨ua,un,uc,ra,rn,rc,ya,yn,yc,hv⟩:=nD.v;have g0:=fe 0 _ rfl;have g1:=fe 1 _ rfl;have g2:=fe 2 _ rfl;clear fe;rw[hv]at nD g0 g1 g2;simp only[bU]at g0 g1 g2;have KJ:ds.getD k (lY f)=ds[k]:=jO hid _;have tH:=pX.o _ (bJ hid);have tQ:=wJ.o _ (bJ hid);have zM:=zZ.o.nx k hid;have ME:=zZ.o.dir k hid;have EC:=zZ.o.lnk k hid;have IX:=zZ.o.pk k hid;rw[←aVM.o]at ME EC IX;rw[EN.o,bM]at ME EC;have hnl:=I9 zZ.o.shp k;rw[mX.o]at hnl;have LY:=JX f ds hid;have hNl:=IL f ds k;have a2Y:=IL f ds (k+1);have hNN:=YD.o;have GQ:=aDD (jP zs) K.l K.o f ds k;have YA:IK K.l f ds (k+1)=oV K.l 2 (noT f ds k) 0+2+12*(a08 f (ds.getD k (lY f)):Nat):=rfl;have hXs:nA (jP zs) (k+1)=((jP zs).getD (nA (jP zs) k).toNat mD).2.2.2:=rfl;obtain⟨hen,IZ,OU,XB⟩:=VH nD tH;rw[KJ]at ME LY GQ YA;obtain⟨ns,hns⟩:∃x,noT f ds k=x:=⟨_,rfl⟩;rw[hns]at ME IX LY hNl GQ YA hws;obtain⟨ik,hik⟩:∃x:Nat,nA (jP zs) k=x:=⟨(nA (jP zs) k).toNat,by omega⟩;rw[hik]at ME hnl GQ hXs ⊢;obtain⟨lk,TG⟩:∃x:Nat,IK K.l f ds k=x:=⟨(IK K.l f ds k).toNat,by omega⟩;rw[TG]at EC GQ ⊢;rw[bM]at EC GQ;obtain⟨at_,EL⟩:∃x,oV K.l 2 ns 0=x:=⟨_,rfl⟩;rw[EL]at IX GQ YA;rw[hen]at YA;obtain⟨dd,OX⟩:=aC (ds[k]);rw[OX]at nD tH tQ ME LY GQ;have l9:=aD wr (.cells #[.slice ua un uc,.slice ra rn rc,.slice ya yn yc] 26);have bD:=jW.new wr 26 #[.slice ua un uc,.slice ra rn rc,.slice ya yn yc];have aIU:=hws.o.later l9;have hD:=aSK zs K f w _ ns _ dd (.slice ua un uc,.slice ra rn rc,.slice ya yn yc) ik aIU bK3.o (lI.tm l9) aG aG nD tH tQ zZ.o.shp ME aG aG aG aG;rw[EL]at hD;simp only at hD;have yJ:(ik:Int)<(K.qn:Int):=by omega
     have bAG:(0:Int)≤(ik:Int):=by omega
     have aVP:=nQ IX;have hwl:=hmv.o.size;obtain⟨bRG,bRH⟩:=hws.o.ne_of;obtain⟨KY,zH,xE,aFM,yG,a2B,bAH,VY,a2Z,a2T,TH,TI⟩:=aT lI nD hv KJ tH tQ ME IX LY GQ YA hXs;obtain⟨bCM,aD2,aXN,aVQ,YE,aCW,oL,Z7,bK5,hD',aEY⟩:=aS hen hns hik TG EL OX l9 bD aIU hD aVP;clear lI nD hv KJ tH tQ ME IX LY GQ YA hXs hen hns hik TG EL OX l9 bD aIU hD aVP;go_wp2_with fail
     refine hD'.o.mono ?_;rintro e w12 ⟨rfl,a4O,TF⟩;have aVR:=Mv.blk TF Z7.o aG aG;have hPp:=EH K w12 _ _ a4O lk at_ 4 VY.o (by rw[aEY.o];decide) (by rw[aEY.o,show(4:Int).toNat=4 from rfl];omega);obtain⟨bAI,a4N,aVS,a3D⟩:=aL a4O TF aVR hPp;clear a4O TF aVR hPp;clear g0 g1 g2;go_wp2_with fail
     refine a3D.o.mono ?_;rintro e SX ⟨rfl,a4P,aAG⟩;have YB:=Mv.blk aAG aVS.o aG aG;have VZ:=((hmv.o.later oL.o).trans a4N.o).trans aAG;have rZ:Below w.heap.size w SX:=KE.o.trans (VZ.below (B:=w.heap.size) aG aG (fun k e=>by cases e) KE.o.size);obtain⟨b3,o3,ha3,vB,fe⟩:=AQ.o.row.elem qD aH sJ (show ik<K.qn by omega);subst ha3;rw[bM,qL (by rw[AQ.o.len];omega)]at TI;have l3:=late rZ vB (fe 3 _ rfl);rw[←TI.o]at l3;clear fe;obtain⟨gD,hgD⟩:=aC wr.heap.size;rw[hgD]at YB ⊢;obtain⟨xs,TY⟩:∃x,nA (jP zs) (k+1)=x:=⟨_,rfl⟩;rw[TY]at l3;have aIV:jW SX gD 26 #[.slice ua un uc,.slice ra rn rc,.slice ya yn yc]∧SX.cell? ⟨b3,o3+ik*4+3,none⟩=some (.int .i64 xs):=⟨YB,l3⟩;have vW:=(aY SX.heap.size SX).drew;obtain⟨Ty,ff,oJ,nK,jK⟩:=lM (fun W=>jW W gD 26 #[.slice ua un uc,.slice ra rn rc,.slice ya yn yc]∧W.cell? ⟨b3,o3+ik*4+3,none⟩=some (.int .i64 xs)) SX aIV;have HS:=aA (jK SX.drew ⟨YB.late vW,l3⟩);have q0:∀s,(ff s).cell? ⟨gD,0,none⟩=some (.slice ua un uc):=fun s=>(nK s).1.cell rfl;have q1:∀s,(ff s).cell? ⟨gD,1,none⟩=some (.slice ra rn rc):=fun s=>(nK s).1.cell rfl;have q2:∀s,(ff s).cell? ⟨gD,2,none⟩=some (.slice ya yn yc):=fun s=>(nK s).1.cell rfl;have q3:∀s,(ff s).cell? ⟨b3,o3+ik*4+3,none⟩=some (.int .i64 xs):=fun s=>(nK s).2;have bDD:=YB.late vW;have aIW:=a4P.later vW;have aIX:=VZ.later vW;have hbD:=rZ.tm vW;have l3D:SX.drew.cell? ⟨b3,o3+ik*4+3,none⟩=some (.int .i64 xs):=l3;obtain⟨wD,qF⟩:=aC SX.drew;rw[qF]at HS bDD aIW aIX l3D hbD;have hE:=UU ua ra ya un uc rn rc yn yc wD aG aG;obtain⟨ne,sU⟩:∃x,qM un rn yn=x:=⟨_,rfl⟩;have bAJ:ne≤1002:=by rw[←sU];exact yY IZ OU
     rw[sU]at hE TH;have hpa:=VY.o;have bRI:0≤at_∧at_<4294967296:=by
      unfold lZ at hpa;simp only[bV,decide_eq_true_eq]at hpa;have:rF 4=4294967296:=by decide
      omega
     have MQ:=aB (at_+2) aG;have HY:IntKind.i64.wrap (12*(ne:Int))=12*ne:=by rw[bF];omega
     have ZL:IntKind.i64.wrap (at_+2+12*(ne:Int))=at_+2+12*ne:=by rw[bF];omega
     clear hpa l3;obtain⟨bAK,bK6,bK7,bAL,QT,U0,bK8,a07,AB,jF,bAM,aVT⟩:=aT a4P aAG YB VZ rZ TY aIV vW nK jK bDD aIW;obtain⟨aVU,aVV,bAN,JA,a3W⟩:=aM aIX hbD l3D hE sU;clear a4P aAG YB VZ rZ TY aIV vW nK jK bDD aIW aIX hbD l3D hE sU;go_wp2_with fail
     refine kM (S:=fun W=>∃s,W=ff s) aF 13 rfl ?_;rw[qF];refine jS [0,1,2,6,7,8,9,10] 5 aF aI aF aF aF HS.o ?_;simp only[jI,aW,aX,aU,aV];iterate 8 (go_big_quiet_step (fail))
     refine wpQuiet_nil ?_;clear q0 q1 q2 q3 qF;refine jJ 3 4 aF aF ?_;simp only[jI,aW,aX,aU,aV];go_wp2_with fail
     refine JA.o.mono ?_;rintro e w15 ⟨rfl,pV⟩;have aEZ:=aVT.o.later pV;have aF0:=aVU.o.later pV;obtain⟨HS,vM,aIY,aIZ⟩:=aL (jF.o _ ⟨bAM.o.late pV,late pV (p:=⟨b3,o3+ik*4+3,none⟩) (by show b3<_;have:=aVV.o.size;omega) bAN.o⟩) pV aEZ aF0;clear pV aEZ aF0;go_wp2_with fail
     first|refine Mid.mk ⟨HS.o,?_⟩|refine Mid.mk ?_
     refine jS [4,5,11,12] 0 aF aI aF aF aF HS.o ?_;simp only[jI,aW,aX,aU,aV];iterate 4 (go_big_quiet_step (fail))
     refine wpQuiet_nil ?_;refine jV aF ?_;have aF1:P7 K w15 (noT f ds (k+1)) (tO (chW (jP zs) K.l K.o f ds (k+1)) P3):=by
      rw[a2Z.o,a2T.o,l6,l6];exact aIY.o
     have aJ0:=aA aF1;clear aF1;go_wp2_with fail
     go_roundw
     case rel=>exact⟨k+1,by omega,by rw[U0.o],by rw[TH.o],by go_num,aJ0,aIZ⟩
     case measure=>simp[intOf];omega
    ·obtain rfl:k=sn:=by omega
     rw[←wI.o,←bAF.o]at hws;have c0:=hws.o.blk.cell (i:=0) rfl;have wR:Below w.heap.size w wr:=KE.o.trans (hmv.o.below (B:=w.heap.size) aG aG (fun k e=>by cases e) KE.o.size);have kY:=(hws.o.row.own hws.o.len (B:=w.heap.size) aG (by unfold maxLen;omega));obtain⟨zI,tF⟩:=aJ wR kY;clear wR kY;go_wp2_with fail
     refine bodyPost_ret (results_tmp2 rfl _ _ _) rfl ?_;exact⟨_,_,_,rfl,tF.o,zI.o⟩
 ·rw[if_neg hR0]at a4L;obtain rfl:=a4L.o;have oG:(R != 0)=true:=by simp[hR0]
  obtain⟨mE,aVG,lG⟩:=aK jT bA2 lJ;clear jT bA2 lJ;go_wp2_with fail
  refine bodyPost_ret (results_tmp2 rfl _ _ _) rfl ?_;exact⟨none,0,0,rfl,kF _ _ _ _,lG.o⟩
