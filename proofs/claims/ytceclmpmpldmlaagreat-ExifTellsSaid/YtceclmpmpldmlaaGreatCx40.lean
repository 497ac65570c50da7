import Derived.Test.YtceclmpmpldmlaaGreatCx39
set_option linter.unusedSimpArgs false
set_option linter.unusedVariables false
namespace Go.Proofs.YtceclmpmpldmlaaGreat
open Go.RowKit Tt
set_option maxRecDepth 20000 in
set_option maxHeartbeats 2000000 in
theorem aF4 (f:Nat) (o:Int) (sa:Option Addr) (sn sc:Nat) (ds:List (jR f)) (a:Option Addr) (n c:Nat) (zs:List QN) (w:World) (h:yP f w sa sn sc ds) (hz:ShR w a n c zs) (hs:∀d∈ds,lN f d) (rU:∀d∈ds,BJ f d) (hN:(lK f ds).length<1000) (AR:sn≤500):
  Calls Tryz.prog 65 #[.agg #[.int .i64 o,.slice sa sn sc],.slice a n c] w fun e w'=>∃a' m c',e= .returned (.tuple #[.slice a' m c',.int .i64 (tY f o ds (jP zs))])∧w'.ownsRow w.heap.size 5 1 (.slice a' m c') m (ints .u8 (a3H f o ds (jP zs)))∧Below w.heap.size w w':=by
 have jY:=aD w (.cells #[.int .i64 o,.slice sa sn sc] 39);have bA:=jW.new w 39 #[.int .i64 o,.slice sa sn sc];obtain⟨W1,pR⟩:=aC (w.alloc (.cells #[.int .i64 o,.slice sa sn sc] 39));rw[pR]at jY bA;have hC:=aJ3 f o sa sn sc ds a n c zs W1 (h.mono jY) (hz.mono jY) hs hN AR;have D5:=fun e=>a3M (f:=f) (o:=o) (ds:=ds) (L:=jP zs) e rU;obtain⟨R,hR⟩:=aC (tY f o ds (jP zs));have hwr:a3H f o ds (jP zs)=if R=0 then a3G f o ds (jP zs)else []:=by unfold a3H;rw[hR]
 rw[hR]at hC D5 ⊢;obtain⟨WB,hWB⟩:∃x,a3H f o ds (jP zs)=x:=⟨_,rfl⟩;rw[hWB]at hwr ⊢;have c0:=bA.cell (i:=0) rfl;have c1:=bA.cell (i:=1) rfl;obtain⟨h',AQ,pX,wJ⟩:=aL h hz hs rU;obtain⟨YD,kR,bA',y8,MC,a4L,ED,aVF⟩:=aP hN jY bA pR hC hwr D5 hWB;clear h hz hs rU hN jY bA pR hC hwr D5 hWB;go_enter Tryz.func65,Tryz.ntmps65;go_wp2_with fail
 rw[y8.o];refine MC.o.mono ?_;rintro e w2 ⟨rfl,jT⟩;have bA2:=bA'.o.late jT;have lJ:=kR.o.tm jT;clear c0 c1;by_cases hR0:R=0
 ·subst hR0;rw[if_pos (by rfl)]at a4L;have hO:=ED.o rfl;have bKQ:=(FI hR).2.2.2.2.1;have hOf:=aCF f o sa sn sc ds w2 (h'.o.mono lJ) pX.o YD.o;have c0:=bA2.cell (i:=0) rfl;have c1:=bA2.cell (i:=1) rfl;obtain⟨vG,mE,aVG,lG,zZ,b3V,b84⟩:=aO hR jT bA2 lJ hO bKQ hOf;clear hR jT bA2 lJ hO bKQ hOf;go_wp2_with fail
  refine b84.o.mono ?_;rintro e w3 ⟨hor,jQ⟩;obtain⟨v3,rfl,b0Q⟩:∃v,e= .returned (.tuple #[v,.bool true])∧Spr w2.heap.size w3 v (jX f ds):=by
   rcases hor with ⟨_,h⟩|⟨h,_⟩
   ·exact h
   ·rw[zZ.o.fit]at h;cases h
  obtain⟨GH,J6,rfl⟩:∃a c,v3= .slice a (jX f ds).length c:=by
   rcases b0Q.2 with ⟨rfl,h0⟩|⟨g,cap,cur,rfl,_⟩
   ·exact⟨none,0,by rw[h0]⟩
   ·exact⟨_,_,rfl⟩
  obtain⟨H6,aIS⟩:∃x,(jX f ds).length=x:=⟨_,rfl⟩;have aWG:=(Sl.jU b0Q).1;rw[aIS]at aWG ⊢;have bA3:=aVG.o.late jQ;have sD:=lG.o.tm jQ;clear c0 c1;have c0:=bA3.cell (i:=0) rfl;have c1:=bA3.cell (i:=1) rfl;obtain⟨m,hm⟩:∃m:Nat,nS f ds=m:=⟨(nS f ds).toNat,by have:=zZ.o.n8;omega⟩;have U3:=zZ.o.n8;have U8:=zZ.o.n1;have hL:=aCH f o sa sn sc ds w3 (h'.o.mono sD) pX.o YD.o;rw[hm]at hL U3 U8;obtain⟨bWG,bUN,bK2,bBF,qN,aCV,nX,EN,hL'⟩:=aQ hor b0Q aIS aWG jQ bA3 sD hm hL;clear hor b0Q aIS aWG jQ bA3 sD hm hL;go_wp2_with fail
  refine hL'.o.mono ?_;rintro e w4 ⟨rfl,mF⟩;have bA4:=aCV.o.late mF;have qZ:=nX.o.tm mF;have bKR:=bBF.o.mono mF;clear c0 c1;obtain⟨i0,hi,sN,oG,qK⟩:=info_parts aGZ;obtain⟨rT,a04,kW,bKS⟩:=aL mF bA4 qZ bKR;clear mF bA4 qZ bKR;go_upto_region 6 with (at_make;refine wpList_make_full w4 rfl _ _ 24 rfl w4.heap.size 5 i0 _ 1 Tryz.underlying24 hi sN oG .i64 .i64 _ _ m rfl rfl rfl rfl (by rw[qK];omega) (by unfold maxLen;omega) (aZ _) ?_;intro w5 kY nW;have R5:=Row.jU (by rw[NH]at kY;exact kY);have nZ:=(aY w4.heap.size w4).grown nW (aZ _) (fun k e=>by cases e);clear kY nW)
  have bA6:=a04.o.late nZ;have Q8:=kW.o.tm nZ;have b0R:=bKS.o.mono nZ;obtain⟨g5,nW⟩:=aC w4.heap.size;rw[nW]at R5 ⊢;obtain⟨w6,rfl⟩:∃w6,w6=w5:=⟨_,rfl⟩;have hz6:=AQ.o.mono Q8;obtain⟨xC,oQ,nL,nR⟩:=h'.o;have sM:ds.length=sn:=by rw[←oQ];exact nL.rP mP aH
  have qJ:(jP zs).length=n:=by unfold jP;rw[bL];exact AQ.o.len
  have hqm:=AQ.o.row.max;have hql:=AQ.o.row.le;have b0S:lZ 42 2 o=true:=(lU zZ.o.ord).2 aH;have YN:lZ 8 4 o=true:=(lU zZ.o.ord).2 aH;have bJ2:w.heap.size<w6.heap.size:=bA6.lt;have hZ6:Sl w6 (some ⟨g5,0,none⟩) m m 1 (ints .u8 (List.replicate m 0)):=(Sl.jU (R5.own (by simp) (B:=w.heap.size) (by rw[←nW];exact kW.o.size) (by unfold maxLen;omega))).1;by_cases vS:o=2
  ·have e1:(o==2)=true:=by simp[vS]
   obtain⟨W7,U6,b73,b77,xI,s7⟩:=nM w6 5 #[.int .u8 73,.int .u8 73] 5 #[.int .u8 77,.int .u8 77];have c0:=bA6.cell (i:=0) rfl;have bAx:=bA6.late xI;have hZ:=hZ6.mono xI;have aOU:Sl W7 (some ⟨w6.heap.size+1,0,none⟩) 2 2 1 (ints .u8 (CP o)):=by
    have:=Sl.new (w6.alloc (.cells #[.int .u8 73,.int .u8 73] 5)) 5 1 2 #[.int .u8 77,.int .u8 77] (0,0) aG rfl;rw[U6,show(w6.alloc (.cells #[.int .u8 73,.int .u8 73] 5)).heap.size=w6.heap.size+1 by simp]at this;unfold CP;rw[if_pos vS];exact this
   obtain⟨xJ,aVH,AO,a4T,aS8,a4U,sH,tX,oW,wI,mX,aWH⟩:=aT nZ bA6 Q8 b0R nW hz6 oQ nL nR sM qJ b0S;obtain⟨XF,R5',bS9,WA,bWH,bWI,a2I,aWI,hZ',aWJ,Q6⟩:=aS YN R5 hZ6 U6 b73 b77 xI bAx hZ aOU vS;clear nZ bA6 Q8 b0R nW hz6 oQ nL nR sM qJ b0S YN R5 hZ6 U6 b73 b77 xI bAx hZ aOU vS;go_upto_region 9 with fail
   clear c0;try rw[WA.o]
   have hov:=FV (some ⟨g5,0,none⟩) m m (List.replicate m 0) 0 (some ⟨w6.heap.size+1,0,none⟩) 2 2 (CP o) W7 hZ'.o aWJ.o aG aG;have q0:=aWI.o.cell (i:=0) rfl;have bBG:=aA hov;clear hov;go_wp2_with fail
   refine bBG.o.mono ?_;rintro e w8 ⟨a8,c8,rfl,ho8,J4⟩;have LV:=a2I.o.tm J4;have bA8:=aWI.o.late J4;have hN1:=xA a8 m c8 _ 2 42 2 o w8 (Sl.jU ho8).1 aG aWH.o (by rw[show(2:Int).toNat=2 from rfl];omega);clear q0;have q0:=bA8.cell (i:=0) rfl;obtain⟨aN0,a96,a4G,aVL,bBH⟩:=aM ho8 J4 LV bA8 hN1;clear ho8 J4 LV bA8 hN1;go_wp2_with fail
   refine bBH.o.mono ?_;rintro e w9 ⟨a9,c9,rfl,DK,yB⟩;have aWK:=a4G.o.tm yB;have bA9:=aVL.o.late yB;have hN2:=xA a9 m c9 _ 4 8 4 o w9 (Sl.jU DK).1 aG XF.o (by rw[show(4:Int).toNat=4 from rfl];omega);clear q0;have q0:=bA9.cell (i:=0) rfl;obtain⟨aGH,tN,a4V,aVN,aBR⟩:=aM DK yB aWK bA9 hN2;clear DK yB aWK bA9 hN2;go_wp2_with fail
   refine aBR.o.mono ?_;rintro e w10 ⟨a10,c10,rfl,WE,CQ⟩;have aF5:=a4V.o.tm CQ;have a4M:=aVN.o.late CQ;clear q0;obtain⟨P3,MU⟩:=aC (splice (splice (splice (List.replicate m 0) 0 (CP o)) 2 (kZ 42 2 o)) 4 (kZ 8 4 o));rw[MU]at WE;have WE:=kI WE (show w.heap.size≤w9.heap.size from bQ AO.o.size a4V.o.size);have hWB:WB=tO (chQ (jP zs) (jX f ds) o f ds ds.length) P3:=by
    rw[a4L.o,aKM vG.o wJ.o,EN.o,bM,←MU];rfl
   obtain⟨aF2,a8K,aJ7,aEX,a9T,aVF⟩:=aN WE CQ aF5 a4M MU hWB;clear WE CQ aF5 a4M MU hWB;go_wp2_with fail
   go_loopw [9,11,12,13] (fun bv nv sv iv wr=>∃(k:Nat) (a:Option Addr) (c:Nat),k≤sn∧bv= .slice a m c∧iv= .int .i64 k∧nv= .int .i64 (noT f ds k)∧sv= .int .i64 (nA (jP zs) k)∧Hid (wr.ownsRow w.heap.size 5 1 (.slice a m c) m (ints .u8 (tO (chQ (jP zs) (jX f ds) o f ds k) P3)))∧Hid (Below w6.heap.size w6 wr)) (fun _ _ _ iv _=>sn - (intOf iv).toNat)
   case atStart=>
    exact⟨0,a10,c10,by omega,rfl,rfl,by simp[noT,lK],rfl,aF2,aJ7⟩
   case round=>
    obtain⟨k,ak,ck,hk,rfl,rfl,rfl,rfl,kY,WV⟩:=hrel;have lI:=AO.o.tm WV.o;have Y7:=aVH.o.late WV.o;have q1:=Y7.cell (i:=1) rfl;by_cases kD:k<sn
    ·have I4:(k:Int)<(sn:Int):=by omega
     have sS:IntKind.i64.wrap ((k:Int)+1)=k+1:=by rw[bF];omega
     have hid:k<ds.length:=by rw[wI.o];exact kD
     have nV:k<xC.length:=by rw[sH.o];exact hid
     obtain⟨xb,xo,rfl,GJ,fe⟩:=tX.o.elem mP aH dzz kD;rw[jO nV]at fe;have nD:=oW.o k nV hid;obtain⟨ua,un,uc,ra,rn,rc,ya,yn,yc,hv⟩:=nD.v;have g0:=fe 0 _ rfl;have g1:=fe 1 _ rfl;have g2:=fe 2 _ rfl;clear fe;rw[hv]at nD g0 g1 g2;simp only[bU]at g0 g1 g2;have KJ:ds.getD k (lY f)=ds[k]:=jO hid _;have tH:=pX.o _ (bJ hid);have tQ:=wJ.o _ (bJ hid);have zM:=zZ.o.nx k hid;have ME:=zZ.o.dir k hid;have hhk:=vQ b3V.o hid;rw[EN.o,bM]at ME;have hnl:=I9 zZ.o.shp k;rw[mX.o]at hnl;have LY:=JX f ds hid;have hNl:=IL f ds k;have a2Y:=IL f ds (k+1);have hNN:=YD.o;have GQ:=aDQ (jP zs) (jX f ds) o f ds k;have YA:IK (jX f ds) f ds (k+1)=oV (jX f ds) 2 (noT f ds k) 0+2+12*(a08 f (ds.getD k (lY f)):Nat):=rfl;have hXs:nA (jP zs) (k+1)=((jP zs).getD (nA (jP zs) k).toNat mD).2.2.2:=rfl;obtain⟨hen,IZ,OU,XB⟩:=VH nD tH;rw[KJ]at ME LY GQ YA hhk;obtain⟨ik,hik⟩:∃x:Nat,nA (jP zs) k=x:=⟨(nA (jP zs) k).toNat,by omega⟩;rw[hik]at ME hnl GQ hXs hhk;have EC:=zZ.o.lnk (k+1);have IX:=zZ.o.pk (k+1);obtain⟨ns,hns⟩:∃x,noT f ds k=x:=⟨_,rfl⟩;rw[hns]at ME LY hNl GQ YA;obtain⟨n2,PX⟩:∃x,noT f ds (k+1)=x:=⟨_,rfl⟩;rw[PX]at LY a2Y IX;have hnq:nextQ (jX f ds) o f ds k=if k+1<ds.length then [((IK (jX f ds) f ds (k+1)).toNat,kZ (oV (jX f ds) 2 n2 0) 4 o)]else []:=by
      unfold nextQ wY;rw[PX]
     obtain⟨dd,OX⟩:=aC (ds[k]);rw[OX]at nD tH tQ ME LY GQ YA hhk hen;rw[hen]at YA;have yJ:(ik:Int)<(n:Int):=by omega
     have bAG:(0:Int)≤(ik:Int):=by omega
     have vF:Below w.heap.size w wr∧jW wr w.heap.size 39 #[.int .i64 o,.slice (some ⟨xb,xo,none⟩) sn sc]∧Below w6.heap.size w6 wr:=⟨lI,Y7,WV.o⟩;have vW:=(aY wr.heap.size wr).drew;obtain⟨Ty,ff,oJ,nK,jK⟩:=lM (fun W=>Below w.heap.size w W∧jW W w.heap.size 39 #[.int .i64 o,.slice (some ⟨xb,xo,none⟩) sn sc]∧Below w6.heap.size w6 W) wr vF;have aAI:=lI.tm vW;have aAJ:=Y7.late vW;have a4W:=WV.o.tm vW;have WH:=kC kY.o vW;have HS:=aA (jK wr.drew ⟨aAI,aAJ,a4W⟩);have p0:∀s,(ff s).cell? ⟨w.heap.size,0,none⟩=some (.int .i64 o):=fun s=>(nK s).2.1.cell rfl;have p1:∀s,(ff s).cell? ⟨w.heap.size,1,none⟩=some (.slice (some ⟨xb,xo,none⟩) sn sc):=fun s=>(nK s).2.1.cell rfl;have p2:∀s,(ff s).cell? ⟨xb,xo+k*3,none⟩=some (.slice ua un uc):=fun s=>late (nK s).1 GJ g0;have p3:∀s,(ff s).cell? ⟨xb,xo+k*3+1,none⟩=some (.slice ra rn rc):=fun s=>late (nK s).1 GJ g1;have p4:∀s,(ff s).cell? ⟨xb,xo+k*3+2,none⟩=some (.slice ya yn yc):=fun s=>late (nK s).1 GJ g2;obtain⟨wD,qF⟩:=aC wr.drew;rw[qF]at HS aAI aAJ a4W WH;have hI:=aF3 zs a n c GH H6 J6 (jX f ds) m o f w6 wD ak ck _ dd (.slice ua un uc,.slice ra rn rc,.slice ya yn yc) ns ik (Sl.jU WH).1 a4W a4T.o a4U.o (nD.mono AO.o) tH tQ zZ.o.shp hhk ME aG aG aG aG;simp only at hI;rw[←LY,←l6]at hI;obtain⟨KY,aID,zH,xE,aFM,yG,a2B,bAH,bSA,a2Z,a2T,TH⟩:=aT lI Y7 nD hv KJ tH tQ ME hhk LY GQ YA;obtain⟨TI,bCM,aD2,aXN,aCW,tL,a07,AB,jF,a4X,aWL,aF6⟩:=aT hXs hen hns hik OX vF vW nK jK aAI aAJ a4W;obtain⟨bBI,MR,TK,VY,a6B,aD3⟩:=aN WH hI hnq IX EC PX;clear lI Y7 nD hv KJ tH tQ ME hhk LY GQ YA hXs hen hns hik OX vF vW nK jK aAI aAJ a4W WH hI hnq IX EC PX;rw[aD2.o,aXN.o];go_wp2_with fail
     clear q1;refine kM (S:=fun W=>∃s,W=ff s) aF 18 rfl ?_;rw[qF];refine jS [0,1,2,3,4,5,6,7,8,9,10,11] 6 aF aI aF aF aF HS.o ?_;simp only[jI,aW,aX,aU,aV];iterate 12 (go_big_quiet_step (fail))
     refine wpQuiet_nil ?_;clear p0 p1 p2 p3 p4 qF;refine jJ 12 5 aF aF ?_;simp only[jI,aW,aX,aU,aV];go_wp2_with fail
     refine MR.o.mono ?_;rintro e PS ⟨a11,c11,rfl,aJ8,K8⟩;have a4Y:=a4X.o.tm K8;have TD:=aWL.o.late K8;have a4Z:=aF6.o.tm K8;have aWM:=kI aJ8 (show w.heap.size≤wD.heap.size from a4X.o.size);obtain⟨HS,aTX,bKT,TL,VX,FW,aF7⟩:=aO (jF.o _ ⟨a4Y,TD,a4Z⟩) K8 aJ8 a4Y TD a4Z aWM;clear K8 aJ8 a4Y TD a4Z aWM;go_wp2_with fail
     first|refine Mid.mk ⟨HS.o,?_⟩|refine Mid.mk ?_
     refine jS [13,14,15,16,17] 0 aF aI aF aF aF HS.o ?_;simp only[jI,aW,aX,aU,aV];iterate 5 (go_big_quiet_step (fail))
     refine wpQuiet_nil ?_;refine jV aF ?_;have q1:=VX.o.cell (i:=1) rfl;clear HS tL AB jF;by_cases hl1:k+1<sn
     ·have e1:decide ((k:Int)+1<(sn:Int))=true:=by simp;omega
      have hl2:k+1<ds.length:=by rw[wI.o];exact hl1
      have a5A:=a6B.o hl2;have aJ9:=VY.o hl2;rw[if_pos hl2]at TK;rw[EN.o,bM]at a5A;obtain⟨lk,TG⟩:∃x:Nat,IK (jX f ds) f ds (k+1)=x:=⟨(IK (jX f ds) f ds (k+1)).toNat,by omega⟩;rw[TG]at a5A TH TK;rw[bM]at a5A TK;have vW:=(aY PS.heap.size PS).drew;obtain⟨Ty,ff,oJ,nK,jK⟩:=lM (fun W=>Below w.heap.size w W∧jW W w.heap.size 39 #[.int .i64 o,.slice (some ⟨xb,xo,none⟩) sn sc]∧Below w6.heap.size w6 W) PS ⟨TL.o,VX.o,FW.o⟩;have aAK:=TL.o.tm vW;have bAE:=VX.o.late vW;have a5B:=FW.o.tm vW;have hoE:=kC aF7.o vW;have HS:=aA (jK PS.drew ⟨aAK,bAE,a5B⟩);have p0:∀s,(ff s).cell? ⟨w.heap.size,0,none⟩=some (.int .i64 o):=fun s=>(nK s).2.1.cell rfl;have p1:∀s,(ff s).cell? ⟨w.heap.size,1,none⟩=some (.slice (some ⟨xb,xo,none⟩) sn sc):=fun s=>(nK s).2.1.cell rfl;have p2:∀s,(ff s).cell? ⟨xb,xo+k*3,none⟩=some (.slice ua un uc):=fun s=>late (nK s).1 GJ g0;have p3:∀s,(ff s).cell? ⟨xb,xo+k*3+1,none⟩=some (.slice ra rn rc):=fun s=>late (nK s).1 GJ g1;have p4:∀s,(ff s).cell? ⟨xb,xo+k*3+2,none⟩=some (.slice ya yn yc):=fun s=>late (nK s).1 GJ g2;obtain⟨wE,hwE⟩:=aC PS.drew;rw[hwE]at HS aAK bAE a5B hoE;obtain⟨at_,EL⟩:∃x,oV (jX f ds) 2 ns 0=x:=⟨_,rfl⟩;obtain⟨at2,aAL⟩:∃x,oV (jX f ds) 2 n2 0=x:=⟨_,rfl⟩;rw[EL]at TH;rw[aAL]at aJ9 TK;have hA1:=EA GH H6 J6 (jX f ds) 2 ns 0 wE (a4T.o.mono a5B);rw[EL]at hA1;have hA2:=fun W (h:Below w6.heap.size w6 W)=>EA GH H6 J6 (jX f ds) 2 n2 0 W (a4T.o.mono h);simp only[aAL]at hA2;have hE:=fun W=>NN ua ra ya un uc rn rc yn yc W aG aG;obtain⟨ne,sU⟩:∃x,qM un rn yn=x:=⟨_,rfl⟩;have bAJ:ne≤1002:=by rw[←sU];exact yY IZ OU
      rw[sU]at TH;simp only[sU]at hE;have hLz:=TH.o;have MQ:=aB (at_+2) aG;have HY:IntKind.i64.wrap (12*(ne:Int))=12*ne:=by rw[bF];omega
      have ZL:IntKind.i64.wrap (at_+2+12*(ne:Int))=(lk:Int):=by rw[bF];omega
      clear hLz;obtain⟨aWN,aWO,a07,AB,jF,aF8,bBJ,aF9,bBK,YE,bKU,bBL⟩:=aT a5A aJ9 vW nK jK aAK bAE a5B hoE EL aAL hA1;obtain⟨bBM,JA,a3W,aVQ⟩:=aL hA2 hE sU TG;clear a5A aJ9 vW nK jK aAK bAE a5B hoE EL aAL hA1 hA2 hE sU TG;go_wp2_with fail
      clear q1;refine kM (S:=fun W=>∃s,W=ff s) aF 20 rfl ?_;rw[hwE];refine jS [0,1,2,5,6,7,8,9,13,14,16,17] 8 aF aI aF aF aF HS.o ?_;simp only[jI,aW,aX,aU,aV];iterate 12 (go_big_quiet_step (fail))
      refine wpQuiet_nil ?_;clear p0 p1 p2 p3 p4 hwE;refine jJ 3 7 aF aF ?_;simp only[jI,aW,aX,aU,aV];go_wp2_with fail
      refine bBL.o.mono ?_;rintro e SX ⟨rfl,rZ⟩;have a5C:=aF8.o.tm rZ;have aJA:=bBJ.o.late rZ;have a5D:=aF9.o.tm rZ;have aWP:=kC bBK.o rZ;obtain⟨HS,QT,a5E,aWQ,a5F,aWR⟩:=aN (jF.o _ ⟨a5C,aJA,a5D⟩) rZ a5C aJA a5D aWP;clear rZ a5C aJA a5D aWP;go_wp2_with fail
      first|refine Mid.mk ⟨HS.o,?_⟩|refine Mid.mk ?_
      refine jS [4] 6 aF aI aF aF aF HS.o ?_;simp only[jI,aW,aX,aU,aV];iterate 1 (go_big_quiet_step (fail))
      refine wpQuiet_nil ?_;refine jJ 10 5 aF aF ?_;simp only[jI,aW,aX,aU,aV];go_wp2_with fail
      refine(JA.o _).mono ?_;rintro e w14 ⟨rfl,DC⟩;have a5G:=a5E.o.tm DC;have aJB:=aWQ.o.late DC;have a5H:=a5F.o.tm DC;have aWS:=kC aWR.o DC;obtain⟨HS,JV,a5I,aWT,TM,aWU⟩:=aN (jF.o _ ⟨a5G,aJB,a5H⟩) DC a5G aJB a5H aWS;clear DC a5G aJB a5H aWS;go_wp2_with fail
      first|refine Mid.mk ⟨HS.o,?_⟩|refine Mid.mk ?_
      refine jS [11,12] 3 aF aI aF aF aF HS.o ?_;simp only[jI,aW,aX,aU,aV];iterate 2 (go_big_quiet_step (fail))
      refine wpQuiet_nil ?_;refine jJ 15 2 aF aF ?_;simp only[jI,aW,aX,aU,aV];go_wp2_with fail
      refine(bBM.o _ TM.o).mono ?_;rintro e w15 ⟨rfl,pV⟩;have a5J:=a5I.o.tm pV;have aJC:=aWT.o.late pV;have a5K:=TM.o.tm pV;have aJD:=kC aWU.o pV;have HS:=aA (jF.o _ ⟨a5J,aJC,a5K⟩);have hNn:=xA a11 m c11 _ lk at2 4 o w15 (Sl.jU aJD).1 aG aWO.o (by rw[show(4:Int).toNat=4 from rfl];have:=aWN.o;omega);obtain⟨vM,TN,aWV,a5L,bKV,bBN⟩:=aN pV a5J aJC a5K aJD hNn;clear pV a5J aJC a5K aJD hNn;go_wp2_with fail
      first|refine Mid.mk ⟨HS.o,?_⟩|refine Mid.mk ?_
      refine jJ 18 1 aF aF ?_;simp only[jI,aW,aX,aU,aV];go_wp2_with fail
      refine bBN.o.mono ?_;rintro e w16 ⟨a16,c16,rfl,aJE,a5M⟩;have a5N:=TN.o.tm a5M;have aJF:=aWV.o.late a5M;have a5O:=a5L.o.tm a5M;have aJG:=kI aJE (show w.heap.size≤w15.heap.size from TN.o.size);have a5P:w16.ownsRow w.heap.size 5 1 (.slice a16 m c16) m (ints .u8 (tO (chQ (jP zs) (jX f ds) o f ds (k+1)) P3)):=by
       rw[a2T.o,TK.o,←dH,l6];exact aJG
      obtain⟨HS,bKW,bBO,bKX,a5Q,bKY,bKZ,a5R⟩:=aP (jF.o _ ⟨a5N,aJF,a5O⟩) a5M a5N aJF a5O aJE aJG a5P;clear a5M a5N aJF a5O aJE aJG a5P;go_wp2_with fail
      first|refine Mid.mk ⟨HS.o,?_⟩|refine Mid.mk ?_
      refine jS [19] 0 aF aI aF aF aF HS.o ?_;simp only[jI,aW,aX,aU,aV];iterate 1 (go_big_quiet_step (fail))
      refine wpQuiet_nil ?_;refine jV aF ?_;obtain⟨b3,o3,ha3,vB,fe⟩:=a4U.o.row.elem qD aH sJ (show ik<n by omega);subst ha3;rw[bM,qL (by rw[a4U.o.len];omega)]at TI;have l3:=late a5Q.o vB (fe 3 _ rfl);rw[←TI.o]at l3;clear fe;obtain⟨xs,TY⟩:∃x,nA (jP zs) (k+1)=x:=⟨_,rfl⟩;rw[TY]at l3;have U0:=aA TY;clear TY;go_wp2_with fail
      go_roundw
      case rel=>exact⟨k+1,a16,c16,by omega,rfl,by go_num,by rw[aD3.o],by rw[U0.o],a5R,a5Q⟩
      case measure=>simp[intOf];omega
     ·have e1:decide ((k:Int)+1<(sn:Int))=false:=by simp;omega
      have hl2:¬k+1<ds.length:=by rw[wI.o];exact hl1
      rw[if_neg hl2]at TK;obtain⟨b3,o3,ha3,vB,fe⟩:=a4U.o.row.elem qD aH sJ (show ik<n by omega);subst ha3;rw[bM,qL (by rw[a4U.o.len];omega)]at TI;have l3:=late FW.o vB (fe 3 _ rfl);rw[←TI.o]at l3;clear fe;obtain⟨xs,TY⟩:∃x,nA (jP zs) (k+1)=x:=⟨_,rfl⟩;rw[TY]at l3;have a5P:PS.ownsRow w.heap.size 5 1 (.slice a11 m c11) m (ints .u8 (tO (chQ (jP zs) (jX f ds) o f ds (k+1)) P3)):=by
       rw[a2T.o,TK.o,dR];exact aF7.o
      obtain⟨U0,a5R⟩:=aJ TY a5P;clear TY a5P;go_wp2_with fail
      go_roundw
      case rel=>exact⟨k+1,a11,c11,by omega,rfl,by go_num,by rw[aD3.o],by rw[U0.o],a5R,FW⟩
      case measure=>simp[intOf];omega
    ·obtain rfl:k=sn:=by omega
     rw[←wI.o,←aVF.o]at kY;obtain⟨KY,aID⟩:=aJ lI Y7;clear lI Y7;go_wp2_with fail
     refine bodyPost_ret (results_tmp2 rfl _ _ _) rfl ?_;exact⟨_,_,_,rfl,kY.o,KY.o⟩
  ·have e1:(o==2)=false:=by simp[vS]
   have xI:=aD w6 (.cells #[.int .u8 73,.int .u8 73] 5);have c0:=bA6.cell (i:=0) rfl;have aOU:Sl (w6.alloc (.cells #[.int .u8 73,.int .u8 73] 5)) (some ⟨w6.heap.size,0,none⟩) 2 2 1 (ints .u8 (CP o)):=by
    have:=Sl.new w6 5 1 2 #[.int .u8 73,.int .u8 73] (0,0) aG rfl;unfold CP;rw[if_neg vS];exact this
   obtain⟨W7,U6⟩:=aC (w6.alloc (.cells #[.int .u8 73,.int .u8 73] 5));rw[U6]at xI aOU;have bAx:=bA6.late xI;have hZ:=hZ6.mono xI;obtain⟨xJ,aVH,AO,a4T,aS8,a4U,sH,tX,oW,wI,mX,aWH⟩:=aT nZ bA6 Q8 b0R nW hz6 oQ nL nR sM qJ b0S;obtain⟨XF,R5',bS9,WA,a2I,aWI,hZ',aWJ,Q6⟩:=aQ YN R5 hZ6 U6 xI bAx hZ aOU vS;clear nZ bA6 Q8 b0R nW hz6 oQ nL nR sM qJ b0S YN R5 hZ6 U6 xI bAx hZ aOU vS;go_upto_region 9 with fail
   clear c0;try rw[WA.o]
   have hov:=FV (some ⟨g5,0,none⟩) m m (List.replicate m 0) 0 (some ⟨w6.heap.size,0,none⟩) 2 2 (CP o) W7 hZ'.o aWJ.o aG aG;have q0:=aWI.o.cell (i:=0) rfl;have bBG:=aA hov;clear hov;go_wp2_with fail
   refine bBG.o.mono ?_;rintro e w8 ⟨a8,c8,rfl,ho8,J4⟩;have LV:=a2I.o.tm J4;have bA8:=aWI.o.late J4;have hN1:=xA a8 m c8 _ 2 42 2 o w8 (Sl.jU ho8).1 aG aWH.o (by rw[show(2:Int).toNat=2 from rfl];omega);clear q0;have q0:=bA8.cell (i:=0) rfl;obtain⟨aN0,a96,a4G,aVL,bBH⟩:=aM ho8 J4 LV bA8 hN1;clear ho8 J4 LV bA8 hN1;go_wp2_with fail
   refine bBH.o.mono ?_;rintro e w9 ⟨a9,c9,rfl,DK,yB⟩;have aWK:=a4G.o.tm yB;have bA9:=aVL.o.late yB;have hN2:=xA a9 m c9 _ 4 8 4 o w9 (Sl.jU DK).1 aG XF.o (by rw[show(4:Int).toNat=4 from rfl];omega);clear q0;have q0:=bA9.cell (i:=0) rfl;obtain⟨aGH,tN,a4V,aVN,aBR⟩:=aM DK yB aWK bA9 hN2;clear DK yB aWK bA9 hN2;go_wp2_with fail
   refine aBR.o.mono ?_;rintro e w10 ⟨a10,c10,rfl,WE,CQ⟩;have aF5:=a4V.o.tm CQ;have a4M:=aVN.o.late CQ;clear q0;obtain⟨P3,MU⟩:=aC (splice (splice (splice (List.replicate m 0) 0 (CP o)) 2 (kZ 42 2 o)) 4 (kZ 8 4 o));rw[MU]at WE;have WE:=kI WE (show w.heap.size≤w9.heap.size from bQ AO.o.size a4V.o.size);have hWB:WB=tO (chQ (jP zs) (jX f ds) o f ds ds.length) P3:=by
    rw[a4L.o,aKM vG.o wJ.o,EN.o,bM,←MU];rfl
   obtain⟨aF2,a8K,aJ7,aEX,a9T,aVF⟩:=aN WE CQ aF5 a4M MU hWB;clear WE CQ aF5 a4M MU hWB;go_wp2_with fail
   go_loopw [9,11,12,13] (fun bv nv sv iv wr=>∃(k:Nat) (a:Option Addr) (c:Nat),k≤sn∧bv= .slice a m c∧iv= .int .i64 k∧nv= .int .i64 (noT f ds k)∧sv= .int .i64 (nA (jP zs) k)∧Hid (wr.ownsRow w.heap.size 5 1 (.slice a m c) m (ints .u8 (tO (chQ (jP zs) (jX f ds) o f ds k) P3)))∧Hid (Below w6.heap.size w6 wr)) (fun _ _ _ iv _=>sn - (intOf iv).toNat)
   case atStart=>
    exact⟨0,a10,c10,by omega,rfl,rfl,by simp[noT,lK],rfl,aF2,aJ7⟩
   case round=>
    obtain⟨k,ak,ck,hk,rfl,rfl,rfl,rfl,kY,WV⟩:=hrel;have lI:=AO.o.tm WV.o;have Y7:=aVH.o.late WV.o;have q1:=Y7.cell (i:=1) rfl;by_cases kD:k<sn
    ·have I4:(k:Int)<(sn:Int):=by omega
     have sS:IntKind.i64.wrap ((k:Int)+1)=k+1:=by rw[bF];omega
     have hid:k<ds.length:=by rw[wI.o];exact kD
     have nV:k<xC.length:=by rw[sH.o];exact hid
     obtain⟨xb,xo,rfl,GJ,fe⟩:=tX.o.elem mP aH dzz kD;rw[jO nV]at fe;have nD:=oW.o k nV hid;obtain⟨ua,un,uc,ra,rn,rc,ya,yn,yc,hv⟩:=nD.v;have g0:=fe 0 _ rfl;have g1:=fe 1 _ rfl;have g2:=fe 2 _ rfl;clear fe;rw[hv]at nD g0 g1 g2;simp only[bU]at g0 g1 g2;have KJ:ds.getD k (lY f)=ds[k]:=jO hid _;have tH:=pX.o _ (bJ hid);have tQ:=wJ.o _ (bJ hid);have zM:=zZ.o.nx k hid;have ME:=zZ.o.dir k hid;have hhk:=vQ b3V.o hid;rw[EN.o,bM]at ME;have hnl:=I9 zZ.o.shp k;rw[mX.o]at hnl;have LY:=JX f ds hid;have hNl:=IL f ds k;have a2Y:=IL f ds (k+1);have hNN:=YD.o;have GQ:=aDQ (jP zs) (jX f ds) o f ds k;have YA:IK (jX f ds) f ds (k+1)=oV (jX f ds) 2 (noT f ds k) 0+2+12*(a08 f (ds.getD k (lY f)):Nat):=rfl;have hXs:nA (jP zs) (k+1)=((jP zs).getD (nA (jP zs) k).toNat mD).2.2.2:=rfl;obtain⟨hen,IZ,OU,XB⟩:=VH nD tH;rw[KJ]at ME LY GQ YA hhk;obtain⟨ik,hik⟩:∃x:Nat,nA (jP zs) k=x:=⟨(nA (jP zs) k).toNat,by omega⟩;rw[hik]at ME hnl GQ hXs hhk;have EC:=zZ.o.lnk (k+1);have IX:=zZ.o.pk (k+1);obtain⟨ns,hns⟩:∃x,noT f ds k=x:=⟨_,rfl⟩;rw[hns]at ME LY hNl GQ YA;obtain⟨n2,PX⟩:∃x,noT f ds (k+1)=x:=⟨_,rfl⟩;rw[PX]at LY a2Y IX;have hnq:nextQ (jX f ds) o f ds k=if k+1<ds.length then [((IK (jX f ds) f ds (k+1)).toNat,kZ (oV (jX f ds) 2 n2 0) 4 o)]else []:=by
      unfold nextQ wY;rw[PX]
     obtain⟨dd,OX⟩:=aC (ds[k]);rw[OX]at nD tH tQ ME LY GQ YA hhk hen;rw[hen]at YA;have yJ:(ik:Int)<(n:Int):=by omega
     have bAG:(0:Int)≤(ik:Int):=by omega
     have vF:Below w.heap.size w wr∧jW wr w.heap.size 39 #[.int .i64 o,.slice (some ⟨xb,xo,none⟩) sn sc]∧Below w6.heap.size w6 wr:=⟨lI,Y7,WV.o⟩;have vW:=(aY wr.heap.size wr).drew;obtain⟨Ty,ff,oJ,nK,jK⟩:=lM (fun W=>Below w.heap.size w W∧jW W w.heap.size 39 #[.int .i64 o,.slice (some ⟨xb,xo,none⟩) sn sc]∧Below w6.heap.size w6 W) wr vF;have aAI:=lI.tm vW;have aAJ:=Y7.late vW;have a4W:=WV.o.tm vW;have WH:=kC kY.o vW;have HS:=aA (jK wr.drew ⟨aAI,aAJ,a4W⟩);have p0:∀s,(ff s).cell? ⟨w.heap.size,0,none⟩=some (.int .i64 o):=fun s=>(nK s).2.1.cell rfl;have p1:∀s,(ff s).cell? ⟨w.heap.size,1,none⟩=some (.slice (some ⟨xb,xo,none⟩) sn sc):=fun s=>(nK s).2.1.cell rfl;have p2:∀s,(ff s).cell? ⟨xb,xo+k*3,none⟩=some (.slice ua un uc):=fun s=>late (nK s).1 GJ g0;have p3:∀s,(ff s).cell? ⟨xb,xo+k*3+1,none⟩=some (.slice ra rn rc):=fun s=>late (nK s).1 GJ g1;have p4:∀s,(ff s).cell? ⟨xb,xo+k*3+2,none⟩=some (.slice ya yn yc):=fun s=>late (nK s).1 GJ g2;obtain⟨wD,qF⟩:=aC wr.drew;rw[qF]at HS aAI aAJ a4W WH;have hI:=aF3 zs a n c GH H6 J6 (jX f ds) m o f w6 wD ak ck _ dd (.slice ua un uc,.slice ra rn rc,.slice ya yn yc) ns ik (Sl.jU WH).1 a4W a4T.o a4U.o (nD.mono AO.o) tH tQ zZ.o.shp hhk ME aG aG aG aG;simp only at hI;rw[←LY,←l6]at hI;obtain⟨KY,aID,zH,xE,aFM,yG,a2B,bAH,bSA,a2Z,a2T,TH⟩:=aT lI Y7 nD hv KJ tH tQ ME hhk LY GQ YA;obtain⟨TI,bCM,aD2,aXN,aCW,tL,a07,AB,jF,a4X,aWL,aF6⟩:=aT hXs hen hns hik OX vF vW nK jK aAI aAJ a4W;obtain⟨bBI,MR,TK,VY,a6B,aD3⟩:=aN WH hI hnq IX EC PX;clear lI Y7 nD hv KJ tH tQ ME hhk LY GQ YA hXs hen hns hik OX vF vW nK jK aAI aAJ a4W WH hI hnq IX EC PX;rw[aD2.o,aXN.o];go_wp2_with fail
     clear q1;refine kM (S:=fun W=>∃s,W=ff s) aF 18 rfl ?_;rw[qF];refine jS [0,1,2,3,4,5,6,7,8,9,10,11] 6 aF aI aF aF aF HS.o ?_;simp only[jI,aW,aX,aU,aV];iterate 12 (go_big_quiet_step (fail))
     refine wpQuiet_nil ?_;clear p0 p1 p2 p3 p4 qF;refine jJ 12 5 aF aF ?_;simp only[jI,aW,aX,aU,aV];go_wp2_with fail
     refine MR.o.mono ?_;rintro e PS ⟨a11,c11,rfl,aJ8,K8⟩;have a4Y:=a4X.o.tm K8;have TD:=aWL.o.late K8;have a4Z:=aF6.o.tm K8;have aWM:=kI aJ8 (show w.heap.size≤wD.heap.size from a4X.o.size);obtain⟨HS,aTX,bKT,TL,VX,FW,aF7⟩:=aO (jF.o _ ⟨a4Y,TD,a4Z⟩) K8 aJ8 a4Y TD a4Z aWM;clear K8 aJ8 a4Y TD a4Z aWM;go_wp2_with fail
     first|refine Mid.mk ⟨HS.o,?_⟩|refine Mid.mk ?_
     refine jS [13,14,15,16,17] 0 aF aI aF aF aF HS.o ?_;simp only[jI,aW,aX,aU,aV];iterate 5 (go_big_quiet_step (fail))
     refine wpQuiet_nil ?_;refine jV aF ?_;have q1:=VX.o.cell (i:=1) rfl;clear HS tL AB jF;by_cases hl1:k+1<sn
     ·have e1:decide ((k:Int)+1<(sn:Int))=true:=by simp;omega
      have hl2:k+1<ds.length:=by rw[wI.o];exact hl1
      have a5A:=a6B.o hl2;have aJ9:=VY.o hl2;rw[if_pos hl2]at TK;rw[EN.o,bM]at a5A;obtain⟨lk,TG⟩:∃x:Nat,IK (jX f ds) f ds (k+1)=x:=⟨(IK (jX f ds) f ds (k+1)).toNat,by omega⟩;rw[TG]at a5A TH TK;rw[bM]at a5A TK;have vW:=(aY PS.heap.size PS).drew;obtain⟨Ty,ff,oJ,nK,jK⟩:=lM (fun W=>Below w.heap.size w W∧jW W w.heap.size 39 #[.int .i64 o,.slice (some ⟨xb,xo,none⟩) sn sc]∧Below w6.heap.size w6 W) PS ⟨TL.o,VX.o,FW.o⟩;have aAK:=TL.o.tm vW;have bAE:=VX.o.late vW;have a5B:=FW.o.tm vW;have hoE:=kC aF7.o vW;have HS:=aA (jK PS.drew ⟨aAK,bAE,a5B⟩);have p0:∀s,(ff s).cell? ⟨w.heap.size,0,none⟩=some (.int .i64 o):=fun s=>(nK s).2.1.cell rfl;have p1:∀s,(ff s).cell? ⟨w.heap.size,1,none⟩=some (.slice (some ⟨xb,xo,none⟩) sn sc):=fun s=>(nK s).2.1.cell rfl;have p2:∀s,(ff s).cell? ⟨xb,xo+k*3,none⟩=some (.slice ua un uc):=fun s=>late (nK s).1 GJ g0;have p3:∀s,(ff s).cell? ⟨xb,xo+k*3+1,none⟩=some (.slice ra rn rc):=fun s=>late (nK s).1 GJ g1;have p4:∀s,(ff s).cell? ⟨xb,xo+k*3+2,none⟩=some (.slice ya yn yc):=fun s=>late (nK s).1 GJ g2;obtain⟨wE,hwE⟩:=aC PS.drew;rw[hwE]at HS aAK bAE a5B hoE;obtain⟨at_,EL⟩:∃x,oV (jX f ds) 2 ns 0=x:=⟨_,rfl⟩;obtain⟨at2,aAL⟩:∃x,oV (jX f ds) 2 n2 0=x:=⟨_,rfl⟩;rw[EL]at TH;rw[aAL]at aJ9 TK;have hA1:=EA GH H6 J6 (jX f ds) 2 ns 0 wE (a4T.o.mono a5B);rw[EL]at hA1;have hA2:=fun W (h:Below w6.heap.size w6 W)=>EA GH H6 J6 (jX f ds) 2 n2 0 W (a4T.o.mono h);simp only[aAL]at hA2;have hE:=fun W=>NN ua ra ya un uc rn rc yn yc W aG aG;obtain⟨ne,sU⟩:∃x,qM un rn yn=x:=⟨_,rfl⟩;have bAJ:ne≤1002:=by rw[←sU];exact yY IZ OU
      rw[sU]at TH;simp only[sU]at hE;have hLz:=TH.o;have MQ:=aB (at_+2) aG;have HY:IntKind.i64.wrap (12*(ne:Int))=12*ne:=by rw[bF];omega
      have ZL:IntKind.i64.wrap (at_+2+12*(ne:Int))=(lk:Int):=by rw[bF];omega
      clear hLz;obtain⟨aWN,aWO,a07,AB,jF,aF8,bBJ,aF9,bBK,YE,bKU,bBL⟩:=aT a5A aJ9 vW nK jK aAK bAE a5B hoE EL aAL hA1;obtain⟨bBM,JA,a3W,aVQ⟩:=aL hA2 hE sU TG;clear a5A aJ9 vW nK jK aAK bAE a5B hoE EL aAL hA1 hA2 hE sU TG;go_wp2_with fail
      clear q1;refine kM (S:=fun W=>∃s,W=ff s) aF 20 rfl ?_;rw[hwE];refine jS [0,1,2,5,6,7,8,9,13,14,16,17] 8 aF aI aF aF aF HS.o ?_;simp only[jI,aW,aX,aU,aV];iterate 12 (go_big_quiet_step (fail))
      refine wpQuiet_nil ?_;clear p0 p1 p2 p3 p4 hwE;refine jJ 3 7 aF aF ?_;simp only[jI,aW,aX,aU,aV];go_wp2_with fail
      refine bBL.o.mono ?_;rintro e SX ⟨rfl,rZ⟩;have a5C:=aF8.o.tm rZ;have aJA:=bBJ.o.late rZ;have a5D:=aF9.o.tm rZ;have aWP:=kC bBK.o rZ;obtain⟨HS,QT,a5E,aWQ,a5F,aWR⟩:=aN (jF.o _ ⟨a5C,aJA,a5D⟩) rZ a5C aJA a5D aWP;clear rZ a5C aJA a5D aWP;go_wp2_with fail
      first|refine Mid.mk ⟨HS.o,?_⟩|refine Mid.mk ?_
      refine jS [4] 6 aF aI aF aF aF HS.o ?_;simp only[jI,aW,aX,aU,aV];iterate 1 (go_big_quiet_step (fail))
      refine wpQuiet_nil ?_;refine jJ 10 5 aF aF ?_;simp only[jI,aW,aX,aU,aV];go_wp2_with fail
      refine(JA.o _).mono ?_;rintro e w14 ⟨rfl,DC⟩;have a5G:=a5E.o.tm DC;have aJB:=aWQ.o.late DC;have a5H:=a5F.o.tm DC;have aWS:=kC aWR.o DC;obtain⟨HS,JV,a5I,aWT,TM,aWU⟩:=aN (jF.o _ ⟨a5G,aJB,a5H⟩) DC a5G aJB a5H aWS;clear DC a5G aJB a5H aWS;go_wp2_with fail
      first|refine Mid.mk ⟨HS.o,?_⟩|refine Mid.mk ?_
      refine jS [11,12] 3 aF aI aF aF aF HS.o ?_;simp only[jI,aW,aX,aU,aV];iterate 2 (go_big_quiet_step (fail))
      refine wpQuiet_nil ?_;refine jJ 15 2 aF aF ?_;simp only[jI,aW,aX,aU,aV];go_wp2_with fail
      refine(bBM.o _ TM.o).mono ?_;rintro e w15 ⟨rfl,pV⟩;have a5J:=a5I.o.tm pV;have aJC:=aWT.o.late pV;have a5K:=TM.o.tm pV;have aJD:=kC aWU.o pV;have HS:=aA (jF.o _ ⟨a5J,aJC,a5K⟩);have hNn:=xA a11 m c11 _ lk at2 4 o w15 (Sl.jU aJD).1 aG aWO.o (by rw[show(4:Int).toNat=4 from rfl];have:=aWN.o;omega);obtain⟨vM,TN,aWV,a5L,bKV,bBN⟩:=aN pV a5J aJC a5K aJD hNn;clear pV a5J aJC a5K aJD hNn;go_wp2_with fail
      first|refine Mid.mk ⟨HS.o,?_⟩|refine Mid.mk ?_
      refine jJ 18 1 aF aF ?_;simp only[jI,aW,aX,aU,aV];go_wp2_with fail
      refine bBN.o.mono ?_;rintro e w16 ⟨a16,c16,rfl,aJE,a5M⟩;have a5N:=TN.o.tm a5M;have aJF:=aWV.o.late a5M;have a5O:=a5L.o.tm a5M;have aJG:=kI aJE (show w.heap.size≤w15.heap.size from TN.o.size);have a5P:w16.ownsRow w.heap.size 5 1 (.slice a16 m c16) m (ints .u8 (tO (chQ (jP zs) (jX f ds) o f ds (k+1)) P3)):=by
       rw[a2T.o,TK.o,←dH,l6];exact aJG
      obtain⟨HS,bKW,bBO,bKX,a5Q,bKY,bKZ,a5R⟩:=aP (jF.o _ ⟨a5N,aJF,a5O⟩) a5M a5N aJF a5O aJE aJG a5P;clear a5M a5N aJF a5O aJE aJG a5P;go_wp2_with fail
      first|refine Mid.mk ⟨HS.o,?_⟩|refine Mid.mk ?_
      refine jS [19] 0 aF aI aF aF aF HS.o ?_;simp only[jI,aW,aX,aU,aV];iterate 1 (go_big_quiet_step (fail))
      refine wpQuiet_nil ?_;refine jV aF ?_;obtain⟨b3,o3,ha3,vB,fe⟩:=a4U.o.row.elem qD aH sJ (show ik<n by omega);subst ha3;rw[bM,qL (by rw[a4U.o.len];omega)]at TI;have l3:=late a5Q.o vB (fe 3 _ rfl);rw[←TI.o]at l3;clear fe;obtain⟨xs,TY⟩:∃x,nA (jP zs) (k+1)=x:=⟨_,rfl⟩;rw[TY]at l3;have U0:=aA TY;clear TY;go_wp2_with fail
      go_roundw
      case rel=>exact⟨k+1,a16,c16,by omega,rfl,by go_num,by rw[aD3.o],by rw[U0.o],a5R,a5Q⟩
      case measure=>simp[intOf];omega
     ·have e1:decide ((k:Int)+1<(sn:Int))=false:=by simp;omega
      have hl2:¬k+1<ds.length:=by rw[wI.o];exact hl1
      rw[if_neg hl2]at TK;obtain⟨b3,o3,ha3,vB,fe⟩:=a4U.o.row.elem qD aH sJ (show ik<n by omega);subst ha3;rw[bM,qL (by rw[a4U.o.len];omega)]at TI;have l3:=late FW.o vB (fe 3 _ rfl);rw[←TI.o]at l3;clear fe;obtain⟨xs,TY⟩:∃x,nA (jP zs) (k+1)=x:=⟨_,rfl⟩;rw[TY]at l3;have a5P:PS.ownsRow w.heap.size 5 1 (.slice a11 m c11) m (ints .u8 (tO (chQ (jP zs) (jX f ds) o f ds (k+1)) P3)):=by
       rw[a2T.o,TK.o,dR];exact aF7.o
      obtain⟨U0,a5R⟩:=aJ TY a5P;clear TY a5P;go_wp2_with fail
      go_roundw
      case rel=>exact⟨k+1,a11,c11,by omega,rfl,by go_num,by rw[aD3.o],by rw[U0.o],a5R,FW⟩
      case measure=>simp[intOf];omega
    ·obtain rfl:k=sn:=by omega
     rw[←wI.o,←aVF.o]at kY;obtain⟨KY,aID⟩:=aJ lI Y7;clear lI Y7;go_wp2_with fail
     refine bodyPost_ret (results_tmp2 rfl _ _ _) rfl ?_;exact⟨_,_,_,rfl,kY.o,KY.o⟩
 ·rw[if_neg hR0]at a4L;obtain rfl:=a4L.o;have oG:(R != 0)=true:=by simp[hR0]
  obtain⟨vG,mE,aVG,lG⟩:=aL hR jT bA2 lJ;clear hR jT bA2 lJ;go_wp2_with fail
  refine bodyPost_ret (results_tmp2 rfl _ _ _) rfl ?_;exact⟨none,0,0,rfl,kF _ _ _ _,lG.o⟩
