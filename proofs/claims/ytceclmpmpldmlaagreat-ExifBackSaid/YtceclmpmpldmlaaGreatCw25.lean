import Derived.Test.YtceclmpmpldmlaaGreatCw20
set_option linter.unusedSimpArgs false
set_option linter.unusedVariables false
set_option maxRecDepth 100000
set_option maxHeartbeats 8000000
namespace Go.Proofs.YtceclmpmpldmlaaGreat
open Go.RowKit Tt
theorem aK8 (f:Nat) (o:Int) (sa:Option Addr) (sn sc:Nat) (ds:List (jY f)) (a:Option Addr) (n c:Nat) (zs:List Shz) (w:World) (h:JX f w sa sn sc ds) (hz:ShR w a n c zs) (hs:∀d∈ds,mY f d) (qL:∀d∈ds,tJ f d) (hN:(oI f ds).length<1000) (UG:sn≤500)
  (wP:oD f o ds (kK zs)=0→OKT f o ds (kK zs)):
  Calls Tryz.prog 10 #[.agg #[.int .i64 o,.slice sa sn sc],.slice a n c] w fun e w'=>∃a' m c',e= .returned (.tuple #[.slice a' m c',.int .i64 (oD f o ds (kK zs))])∧w'.ownsRow w.heap.size 5 1 (.slice a' m c') m (ints .u8 (aJS f o ds (kK zs)))∧Below w.heap.size w w':=by
 have kV:=aD w (.cells #[.int .i64 o,.slice sa sn sc] 39);have bA:=kG.new w 39 #[.int .i64 o,.slice sa sn sc];obtain⟨W1,vS⟩:=aC (w.alloc (.cells #[.int .i64 o,.slice sa sn sc] 39));have NW:W1.heap.size=w.heap.size+1:=by rw[←vS];simp
 rw[vS]at kV bA;have hC:=VD f o sa sn sc ds a n c zs W1 (h.mono kV) (hz.mono kV) hs qL hN UG;obtain⟨R,hR⟩:=aC (oD f o ds (kK zs));have hwr:aJS f o ds (kK zs)=if R=0 then yD f o ds (kK zs)else []:=by unfold aJS;rw[hR]
 rw[hR]at hC wP ⊢;obtain⟨WB,hWB⟩:∃x,aJS f o ds (kK zs)=x:=⟨_,rfl⟩;rw[hWB]at hwr ⊢;have c0:=bA.cell (i:=0) rfl;have c1:=bA.cell (i:=1) rfl;obtain⟨h',GX,sK,vR⟩:=aL h hz hs qL;obtain⟨hN',lZ,bA',FY,OO,qM,aVO,nJ,c5P⟩:=aQ hN kV bA vS hC hR hwr wP hWB;clear h hz hs qL hN kV bA vS hC hR hwr wP hWB;go_enter Tryz.func10,Tryz.ntmps10;go_wp2_with fail
 rw[FY.o];refine OO.o.mono ?_;rintro e w2 ⟨rfl,kP⟩;have bA2:=bA'.o.late kP;have rG:=lZ.o.tm kP;clear c0 c1;by_cases hR0:R=0
 ·subst hR0;rw[if_pos (by rfl)]at aVO;have hO:=nJ.o rfl;have LG:=(bF w2.heap.size w2).drew;have bA3:=bA2.late LG;obtain⟨Ty,ff,pQ,sI,kE⟩:=oW (fun W=>kG W w.heap.size 39 #[.int .i64 o,.slice sa sn sc]) w2 bA2;have HS:=aA (kE w2.drew bA3);have q0:=fun s=>(sI s).cell (i:=0) rfl;have q1:=fun s=>(sI s).cell (i:=1) rfl;obtain⟨wD,xB⟩:=aC w2.drew;rw[xB]at bA3 HS LG;have D6:=rG.tm LG;obtain⟨m,hm⟩:∃m:Nat,oU f ds=m:=⟨(oU f ds).toNat,by have:=hO.n8;omega⟩;have hm8:=hO.n8;have OL:=hO.n1;have hL:=a4Z f o sa sn sc ds wD (h'.o.mono D6) sK.o vR.o hN'.o;rw[hm]at hL hm8 OL;obtain⟨pG,bLC,nD,hO',aQB,aQ2,OB,jV,wT,hm',hL'⟩:=aS kP bA2 rG hO LG bA3 sI kE D6 hm hL;clear kP bA2 rG hO LG bA3 sI kE D6 hm hL;go_wp2_with fail
  refine kR (S:=fun W=>∃s,W=ff s) aF 10 rfl ?_;rw[xB];refine jZ [0,3,4,6] 6 aF aI aF aF aF HS.o ?_;simp only[jW,aW,aX,aU,aV];iterate 4 (go_big_quiet_step (fail))
  refine wpQuiet_nil ?_;clear q0 q1 xB;refine jX 1 5 aF aF ?_;simp only[jW,aW,aX,aU,aV];go_wp2_with fail
  refine hL'.o.mono ?_;rintro e w4 ⟨rfl,mX⟩;have bA4:=aQ2.o.late mX;have y8:=wT.o.tm mX;obtain⟨HS,xG,a8K,mP⟩:=aL (jV.o _ bA4) mX bA4 y8;clear mX bA4 y8;go_wp2_with fail
  first|refine Mid.mk ⟨HS.o,?_⟩|refine Mid.mk ?_
  refine jX 2 4 aF aF ?_;simp only[jW,aW,aX,aU,aV];obtain⟨i0,hi,yZ,qC,wY⟩:=info_parts aU1;go_wp2_with (at_make;refine wpList_make_full w4 rfl _ _ 24 rfl w4.heap.size 5 i0 _ 1 Tryz.underlying24 hi yZ qC .i64 .i64 _ _ m rfl rfl rfl rfl (by rw[wY];omega) (by unfold maxLen;omega) (aY _) ?_;intro w5 mK qA;have R5:=Row.kZ (by rw[L6]at mK;exact mK);have nV:=(bF w4.heap.size w4).grown qA (aY _) (fun k e=>by cases e);clear mK qA)
  have bA5:=a8K.o.late nV;have zA:=mP.o.tm nV;have HS:=aA (jV.o _ bA5);have c5Q:=mP.o.size;obtain⟨g0,hg0⟩:=aC w4.heap.size;rw[hg0]at R5;have hgl:=Row.lt R5;obtain⟨LF,aUN,pJ,R5'⟩:=aL nV bA5 zA R5;clear nV bA5 zA R5;first|refine Mid.mk ⟨HS.o,?_⟩|refine Mid.mk ?_
  refine jZ [5,7] 2 aF aI aF aF aF HS.o ?_;simp only[jW,aW,aX,aU,aV];iterate 2 (go_big_quiet_step (fail))
  refine wpQuiet_nil ?_;refine jX 8 1 aF aF ?_;simp only[jW,aW,aX,aU,aV];go_wp2_with fail
  have ha6:=aD w5 (.cells #[.slice (some ⟨g0,0,none⟩) m m,.int .i64 o,.slice none 0 0,.slice a n c,.int .i64 0] 91);have bw:=kG.new w5 91 #[.slice (some ⟨g0,0,none⟩) m m,.int .i64 o,.slice none 0 0,.slice a n c,.int .i64 0];obtain⟨g1,hg1⟩:=aC w5.heap.size;obtain⟨W6,hW6⟩:=aC (w5.alloc (.cells #[.slice (some ⟨g0,0,none⟩) m m,.int .i64 o,.slice none 0 0,.slice a n c,.int .i64 0] 91));rw[hW6]at ha6 bw ⊢;rw[hg1]at bw ⊢;have bA6:=aUN.o.late ha6;have a8C:=pJ.o.tm ha6;have HS:=aA (jV.o _ bA6);have R6:Row W6 g0 5 .u8 (List.replicate m 0):=kG.late (T:=5) R5'.o ha6;obtain⟨bWF,bw',aUW⟩:=aK ha6 bw hW6;clear ha6 bw hW6;first|refine Mid.mk ⟨HS.o,?_⟩|refine Mid.mk ?_
  refine jZ [9] 0 aF aI aF aF aF HS.o ?_;simp only[jW,aW,aX,aU,aV];iterate 1 (go_big_quiet_step (fail))
  refine wpQuiet_nil ?_;refine kH aF ?_;have bWG:=aUN;have bWH:=a8K;clear HS OB jV bLC aQ2 a8K aUN OO R5' LF xG hL' aUW bWF;have hO:=hO'.o;have hPO:=aV1 f o sa sn sc ds W6 (h'.o.mono a8C) sK.o vR.o hN'.o;have c0:=bA6.cell (i:=0) rfl;have c1:=bA6.cell (i:=1) rfl;obtain⟨bWI,a0Y,R6',hO',bWJ⟩:=aM bA6 a8C R6 hO hPO;clear bA6 a8C R6 hO hPO;go_wp2_with fail
  refine bWJ.o.mono ?_;rintro e w7 ⟨hor,xC⟩;obtain⟨v7,rfl,aQX⟩:∃v,e= .returned (.tuple #[v,.bool true])∧Spr W6.heap.size w7 v (kW f ds):=by
   rcases hor with ⟨_,h⟩|⟨h,_⟩
   ·exact h
   ·rw[hO'.o.fit]at h;cases h
  obtain⟨spa,spc,rfl⟩:∃a c,v7= .slice a (kW f ds).length c:=by
   rcases aQX.2 with ⟨rfl,h0⟩|⟨g,cap,cur,rfl,_⟩
   ·exact⟨none,0,by rw[h0]⟩
   ·exact⟨_,_,rfl⟩
  obtain⟨spn,bE5⟩:∃x,(kW f ds).length=x:=⟨_,rfl⟩;rw[bE5]at aQX ⊢;have bA7:=bWI.o.late xC;have bw7:=bw'.o.late xC;have R7:Row w7 g0 5 .u8 (List.replicate m 0):=kG.late (T:=5) R6'.o xC;have b4H:=a0Y.o.tm xC;clear c0 c1;have p2:=bw7.cell (i:=2) rfl;have y2:=bw7.frozen 2;have bw8:=bw7.set 2 (.slice spa spn spc);have mQ:=(But.refl g1 w7).set 2 (.slice spa spn spc);have c5R:g1<W6.heap.size:=bw'.o.lt;have c5S:g0<W6.heap.size:=Row.lt R6'.o;have b7I:g1≠g0:=by omega
  have bE7:=(Sl.kZ aQX).1;have aVP:∀x,spa=some x→W6.heap.size≤x.block∧x.block<w7.heap.size:=fun x e=>by
   have h1:=aQX.2;rcases h1 with ⟨hv,_⟩|⟨g,cap,cur,hv,hB,hg,_⟩
   ·injection hv with h1 _ _;rw[h1]at e;cases e
   ·injection hv with h1 _ _
    rw[h1]at e;injection e with e;rw[←e];exact⟨hB,(dA.1 hg).1⟩
  have hWS:RX ⟨g1,g0,m,o,spa,spn,spc,kW f ds,a,n,c,w7.heap.size⟩ (w7.setCell ⟨g1,2,none⟩ (.slice spa spn spc)) 0 (List.replicate m 0):=
   ⟨bw8,(mQ.block _ (Row.lt R7) (Ne.symm b7I)).trans R7,by simp,ZY bE7 mQ.size (fun x e hx=>mQ.block _ hx (by have:=aVP x e;omega)),fun x e=>by have:=aVP x e;exact⟨by show x.block≠g1;omega,by show x.block≠g0;omega⟩,b7I,fun x e=>(aVP x e).2,mQ.size⟩
  have VJ:=b4H.trans (mQ.below (B:=w.heap.size) aG b4H.size);have bA8:=kG.aBE mQ bA7 aG;obtain⟨W8,hW8⟩:=aC (w7.setCell ⟨g1,2,none⟩ (.slice spa spn spc));rw[hW8]at hWS VJ bA8;have c2Q:w.heap.size<g1:=by have:=bWG.o.lt;omega
  have c2R:w.heap.size<g0:=by have:=bWH.o.lt;omega
  obtain⟨c2S,c2T,c5T,c5U,R7',c2U,c5V,GN,c2V,c2W⟩:=aR bE5 aQX bA7 bw7 R7 b4H bw8 mQ bE7 aVP;clear bE5 aQX bA7 bw7 R7 b4H bw8 mQ bE7 aVP;obtain⟨K,rfl,rfl,rfl,rfl,hKa,rfl,rfl,hKl,hWS⟩:∃K:Wc,K.gw=g1∧K.gb=g0∧K.n=m∧K.o=o∧K.qa=a∧K.qn=n∧K.qc=c∧K.l=kW f ds∧RX K W8 0 (List.replicate m 0):=⟨_,rfl,rfl,rfl,rfl,rfl,rfl,rfl,rfl,hWS⟩;have hzK:ShR w K.qa K.qn K.qc zs:=by rw[hKa];exact GX.o
  obtain⟨bLD,c5W⟩:=aJ hzK hKa;clear hzK hKa;obtain⟨w9,hr9,VB,hm9⟩:=aF8 hWS ⟨#[77,77]⟩ [77,77] rfl rfl (by show 2≤K.n;omega) 9 3;have c5X:=bA8.lt;have bA9:=Mv.blk hm9 bA8 aG aG;have c0:=bA9.cell (i:=0) rfl;have d0:=hWS.blk.cell (i:=0) rfl;rw[←hW8]at d0 hr9;have d9:=VB.blk.cell (i:=0) rfl;have CZ:mH 42 2 K.o=true:=by
   rcases hO'.o.ord with h|h <;> rw[h] <;> decide
  have GY:=rQ CZ;by_cases NM:K.o=1
  ·have e1:(K.o==1)=true:=by simp[NM]
   obtain⟨w10,aQY,aVQ,aG3⟩:=aF8 VB ⟨#[73,73]⟩ [73,73] rfl rfl (by show 2≤K.n;omega) 9 3;have hPp:=HY K w10 0 _ aVQ 2 42 2 CZ (by rw[GY];decide) (by rw[GY,show(2:Int).toNat=2 from rfl];omega);have hsg:FL (XO K.o) (List.replicate K.n 0)=splice (splice (List.replicate K.n 0) 0 [77,77]) 0 [73,73]:=by unfold XO;rw[if_pos NM];rfl
   have aVR:=Mv.blk aG3 bA9 aG aG;have aG3:=(hm9.trans aG3);obtain⟨bWK,bWL,aVS,aUX,b40,bWM,bWN,sW,a8V,a7Y,bWO,aVT⟩:=aT hWS bA8 hKl VB hm9 bA9 hW8 VJ CZ GY aVQ aVR;obtain⟨a4X,bEA,aDT,aVU⟩:=aL hPp hsg NM aG3;clear hWS bA8 hKl VB hm9 bA9 hW8 VJ CZ GY aVQ aVR hPp hsg NM aG3;go_wp2_with (at_builtin;first|(refine wpList_copy_run _ rfl _ _ _ _ rfl _ _ rfl rfl hr9 ?_;clear hr9)|refine wpList_copy_run _ rfl _ _ _ _ rfl _ _ rfl rfl aQY ?_)
   clear aQY d0 d9 c0;refine a4X.o.mono ?_;rintro e w11 ⟨rfl,YB,aCA⟩;have aK9:=Mv.blk aCA aVT.o aG aG;have VK:=aVU.o.trans aCA;obtain⟨P2,hP2⟩:=aC (FL (XO K.o) (List.replicate K.n 0));rw[←bEA.o,hP2]at YB;obtain⟨P3,hP3⟩:=aC (splice P2 2 (lQ 42 2 K.o));rw[hP3]at YB;have hWt:WB=FL (chW (kK zs) K.l K.o f ds ds.length) P3:=by
    rw[aVO.o,aF5,hm'.o,cB,hP2,hP3,aVS.o]
   obtain⟨ME,wG,qU,vV⟩:=h'.o;have AP:ds.length=sn:=by rw[←wG];exact qU.xZ qW aH
   have c1:=aK9.cell (i:=1) rfl;have hms:=VK.size;have vO:(kK zs).length=K.qn:=by unfold kK;rw[dF];exact GX.o.len
   have hqm:=GX.o.row.max;have hql:=GX.o.row.le;obtain⟨bLE,a5V,bKX,bDM,bEB,GK,yB,BO,FQ,aKA,bLF,oC⟩:=aT aK9 VK hP2 hP3 hWt wG qU vV AP YB aCA vO;clear aK9 VK hP2 hP3 hWt wG qU vV AP YB aCA vO;go_wp2_with fail
   clear c1;go_loopw [8,9,58] (fun sv lv iv wr=>∃k:Nat,k≤sn∧sv= .int .i64 (o8 (kK zs) k)∧lv= .int .i64 (XM K.l f ds k)∧iv= .int .i64 k∧Hid (RX K wr (noT f ds k) (FL (chW (kK zs) K.l K.o f ds k) P3))∧Hid (Mv K.gw K.gb wI wI W8 wr)) (fun _ _ iv _=>sn - (intOf iv).toNat)
   case atStart=>
    exact⟨0,by omega,rfl,rfl,rfl,aKA,a5V⟩
   case round=>
    obtain⟨k,hk,rfl,rfl,rfl,OH,yJ⟩:=hrel;by_cases kY:k<sn
    ·have hil:(k:Int)<(sn:Int):=by omega
     have xR:IntKind.i64.wrap ((k:Int)+1)=k+1:=by rw[bJ];omega
     have hid:k<ds.length:=by rw[FQ.o];exact kY
     have rC:k<ME.length:=by rw[GK.o];exact hid
     have nR:Below w.heap.size w wr:=sW.o.trans (yJ.o.below (B:=w.heap.size) aG aG (fun k e=>by cases e) sW.o.size);obtain⟨b,o2,rfl,xL,fe⟩:=(yB.o.mono nR).elem qW aH dzz kY;rw[kF rC]at fe;have rH:=BO.o k rC hid;obtain⟨ua,un,uc,ra,rn,rc,ya,yn,yc,hv⟩:=rH.v;have g0:=fe 0 _ rfl;have g1:=fe 1 _ rfl;have g2:=fe 2 _ rfl;clear fe;rw[hv]at rH g0 g1 g2;simp only[dB]at g0 g1 g2;have hgi:ds.getD k (kS f)=ds[k]:=kF hid _;have EJ:=sK.o _ (bP hid);have FJ:=vR.o _ (bP hid);have KE:=hO'.o.nx k hid;have hdk:=hO'.o.dir k hid;have OC:=hO'.o.lnk k hid;have a0B:=hO'.o.pk k hid;rw[←aVS.o]at hdk OC a0B;rw[hm'.o,cB]at hdk OC;have hnl:=KJ hO'.o.zG k;rw[oC.o]at hnl;have hNs:=IX f ds hid;have hNl:=PZ f ds k;have b3Z:=PZ f ds (k+1);have hNN:=hN'.o;have W9:=aF6 (kK zs) K.l K.o f ds k;have hLs:XM K.l f ds (k+1)=qK K.l 2 (noT f ds k) 0+2+12*(a2E f (ds.getD k (kS f)):Nat):=rfl;have hXs:o8 (kK zs) (k+1)=((kK zs).getD (o8 (kK zs) k).toNat kQ).2.2.2:=rfl;obtain⟨hen,he1,he2,he3⟩:=aF7 rH EJ;rw[hgi]at hdk hNs W9 hLs;obtain⟨ns,hns⟩:∃x,noT f ds k=x:=⟨_,rfl⟩;rw[hns]at hdk a0B hNs hNl W9 hLs OH;obtain⟨ik,hik⟩:∃x:Nat,o8 (kK zs) k=x:=⟨(o8 (kK zs) k).toNat,by omega⟩;rw[hik]at hdk hnl W9 hXs ⊢;obtain⟨lk,aKB⟩:∃x:Nat,XM K.l f ds k=x:=⟨(XM K.l f ds k).toNat,by omega⟩;rw[aKB]at OC W9 ⊢;rw[cB]at OC W9;obtain⟨at_,SX⟩:∃x,qK K.l 2 ns 0=x:=⟨_,rfl⟩;rw[SX]at a0B W9 hLs;rw[hen]at hLs;obtain⟨dd,hdd⟩:=aC (ds[k]);rw[hdd]at rH EJ FJ hdk hNs W9;have kU:=aD wr (.cells #[.slice ua un uc,.slice ra rn rc,.slice ya yn yc] 26);have bD:=kG.new wr 26 #[.slice ua un uc,.slice ra rn rc,.slice ya yn yc];have aKC:=OH.o.later kU;have hD:=aUY zs K f w _ ns _ dd (.slice ua un uc,.slice ra rn rc,.slice ya yn yc) ik aKC bLD.o (nR.tm kU) aG aG rH EJ FJ hO'.o.zG hdk aG aG aG aG;rw[SX]at hD;simp only at hD;have CY:(ik:Int)<(K.qn:Int):=by omega
     have bWP:(0:Int)≤(ik:Int):=by omega
     have aVV:=rQ a0B;have hwl:=yJ.o.size;obtain⟨bWQ,bWR⟩:=OH.o.ne_of;obtain⟨aB9,L9,GA,b6T,JN,aBD,bWS,aG4,aQ9,aUH,aVW,aVX⟩:=aT nR rH hv hgi EJ FJ hdk a0B hNs W9 hLs hXs;obtain⟨b26,bKT,c1J,bLG,aIC,b3S,qR,bD',bLH,hD',aG5⟩:=aS hen hns hik aKB SX hdd kU bD aKC hD aVV;clear nR rH hv hgi EJ FJ hdk a0B hNs W9 hLs hXs hen hns hik aKB SX hdd kU bD aKC hD aVV;go_wp2_with fail
     refine hD'.o.mono ?_;rintro e w12 ⟨rfl,a5W,VK⟩;have aVY:=Mv.blk VK bD'.o aG aG;have hPp:=HY K w12 _ _ a5W lk at_ 4 aG4.o (by rw[aG5.o];decide) (by rw[aG5.o,show(4:Int).toNat=4 from rfl];omega);obtain⟨bEC,a5V,aVZ,a4X⟩:=aL a5W VK aVY hPp;clear a5W VK aVY hPp;clear g0 g1 g2;go_wp2_with fail
     refine a4X.o.mono ?_;rintro e w13 ⟨rfl,a5X,aCB⟩;have a0C:=Mv.blk aCB aVZ.o aG aG;have YC:=((yJ.o.later qR.o).trans a5V.o).trans aCB;have GV:Below w.heap.size w w13:=sW.o.trans (YC.below (B:=w.heap.size) aG aG (fun k e=>by cases e) sW.o.size);obtain⟨b3,o3,ha3,PV,fe⟩:=GX.o.row.elem zQ aH BL (show ik<K.qn by omega);subst ha3;rw[cB,y9 (by rw[GX.o.len];omega)]at aVX;have l3:=late GV PV (fe 3 _ rfl);rw[←aVX.o]at l3;clear fe;obtain⟨gD,hgD⟩:=aC wr.heap.size;rw[hgD]at a0C ⊢;obtain⟨xs,hxs⟩:∃x,o8 (kK zs) (k+1)=x:=⟨_,rfl⟩;rw[hxs]at l3;have aKD:kG w13 gD 26 #[.slice ua un uc,.slice ra rn rc,.slice ya yn yc]∧w13.cell? ⟨b3,o3+ik*4+3,none⟩=some (.int .i64 xs):=⟨a0C,l3⟩;have LG:=(bF w13.heap.size w13).drew;obtain⟨Ty,ff,pQ,sI,kE⟩:=oW (fun W=>kG W gD 26 #[.slice ua un uc,.slice ra rn rc,.slice ya yn yc]∧W.cell? ⟨b3,o3+ik*4+3,none⟩=some (.int .i64 xs)) w13 aKD;have HS:=aA (kE w13.drew ⟨a0C.late LG,l3⟩);have q0:∀s,(ff s).cell? ⟨gD,0,none⟩=some (.slice ua un uc):=fun s=>(sI s).1.cell rfl;have q1:∀s,(ff s).cell? ⟨gD,1,none⟩=some (.slice ra rn rc):=fun s=>(sI s).1.cell rfl;have q2:∀s,(ff s).cell? ⟨gD,2,none⟩=some (.slice ya yn yc):=fun s=>(sI s).1.cell rfl;have q3:∀s,(ff s).cell? ⟨b3,o3+ik*4+3,none⟩=some (.int .i64 xs):=fun s=>(sI s).2;have bDD:=a0C.late LG;have aKE:=a5X.later LG;have aKF:=YC.later LG;have hbD:=GV.tm LG;have l3D:w13.drew.cell? ⟨b3,o3+ik*4+3,none⟩=some (.int .i64 xs):=l3;obtain⟨wD,xB⟩:=aC w13.drew;rw[xB]at HS bDD aKE aKF l3D hbD;have hE:=X0 ua ra ya un uc rn rc yn yc wD aG aG;obtain⟨ne,EH⟩:∃x,pU un rn yn=x:=⟨_,rfl⟩;have bWT:ne≤1002:=by rw[←EH];exact JY he1 he2
     rw[EH]at hE aVW;have hpa:=aG4.o;have bWU:0≤at_∧at_<4294967296:=by
      unfold mH at hpa;simp only[bK,decide_eq_true_eq]at hpa;have:wS 4=4294967296:=by decide
      omega
     have hw2:=aB (at_+2) aG;have xE:IntKind.i64.wrap (12*(ne:Int))=12*ne:=by rw[bJ];omega
     have hw4:IntKind.i64.wrap (at_+2+12*(ne:Int))=at_+2+12*ne:=by rw[bJ];omega
     clear hpa l3;obtain⟨bED,bLI,bLJ,bEE,YD,aMB,bLK,aQB,OB,jV,bEF,aW0⟩:=aT a5X aCB a0C YC GV hxs aKD LG sI kE bDD aKE;obtain⟨aW1,aW2,bEG,hE',aW3⟩:=aM aKF hbD l3D hE EH;clear a5X aCB a0C YC GV hxs aKD LG sI kE bDD aKE aKF hbD l3D hE EH;go_wp2_with fail
     refine kR (S:=fun W=>∃s,W=ff s) aF 13 rfl ?_;rw[xB];refine jZ [0,1,2,6,7,8,9,10] 5 aF aI aF aF aF HS.o ?_;simp only[jW,aW,aX,aU,aV];iterate 8 (go_big_quiet_step (fail))
     refine wpQuiet_nil ?_;clear q0 q1 q2 q3 xB;refine jX 3 4 aF aF ?_;simp only[jW,aW,aX,aU,aV];go_wp2_with fail
     refine hE'.o.mono ?_;rintro e w15 ⟨rfl,xU⟩;have aG6:=aW0.o.later xU;have aG7:=aW1.o.later xU;obtain⟨HS,BP,aKG,aKH⟩:=aL (jV.o _ ⟨bEF.o.late xU,late xU (p:=⟨b3,o3+ik*4+3,none⟩) (by show b3<_;have:=aW2.o.size;omega) bEG.o⟩) xU aG6 aG7;clear xU aG6 aG7;go_wp2_with fail
     first|refine Mid.mk ⟨HS.o,?_⟩|refine Mid.mk ?_
     refine jZ [4,5,11,12] 0 aF aI aF aF aF HS.o ?_;simp only[jW,aW,aX,aU,aV];iterate 4 (go_big_quiet_step (fail))
     refine wpQuiet_nil ?_;refine kH aF ?_;have aG8:RX K w15 (noT f ds (k+1)) (FL (chW (kK zs) K.l K.o f ds (k+1)) P3):=by
      rw[aQ9.o,aUH.o,qG,qG];exact aKG.o
     have aKI:=aA aG8;clear aG8;go_wp2_with fail
     go_roundw
     case rel=>exact⟨k+1,by omega,by rw[aMB.o],by rw[aVW.o],by go_num,aKI,aKH⟩
     case measure=>simp[intOf];omega
    ·obtain rfl:k=sn:=by omega
     rw[←FQ.o,←bEB.o]at OH;have c0:=OH.o.blk.cell (i:=0) rfl;have yV:Below w.heap.size w wr:=sW.o.trans (yJ.o.below (B:=w.heap.size) aG aG (fun k e=>by cases e) sW.o.size);have mK:=(OH.o.row.own OH.o.len (B:=w.heap.size) aG (by unfold maxLen;omega));obtain⟨FR,xQ⟩:=aJ yV mK;clear yV mK;go_wp2_with fail
     refine bodyPost_ret (results_tmp2 rfl _ _ _) rfl ?_;exact⟨_,_,_,rfl,xQ.o,FR.o⟩
  ·have e1:(K.o==1)=false:=by simp[NM]
   have hPp:=HY K w9 0 _ VB 2 42 2 CZ (by rw[GY];decide) (by rw[GY,show(2:Int).toNat=2 from rfl];omega);have hsg:FL (XO K.o) (List.replicate K.n 0)=splice (List.replicate K.n 0) 0 [77,77]:=by unfold XO;rw[if_neg NM];rfl
   have aVR:=bA9;have aG3:=hm9;obtain⟨bWK,bWL,aVS,aUX,b40,bWM,bWN,sW,a8V,a7Y,aVT,a4X⟩:=aT hWS bA8 hKl VB hm9 bA9 hW8 VJ CZ GY aVR hPp;obtain⟨bEA,aDT,aVU⟩:=aK hsg NM aG3;clear hWS bA8 hKl VB hm9 bA9 hW8 VJ CZ GY aVR hPp hsg NM aG3;go_wp2_with (at_builtin;refine wpList_copy_run _ rfl _ _ _ _ rfl _ _ rfl rfl hr9 ?_;clear hr9)
   clear d0 d9 c0;refine a4X.o.mono ?_;rintro e w11 ⟨rfl,YB,aCA⟩;have aK9:=Mv.blk aCA aVT.o aG aG;have VK:=aVU.o.trans aCA;obtain⟨P2,hP2⟩:=aC (FL (XO K.o) (List.replicate K.n 0));rw[←bEA.o,hP2]at YB;obtain⟨P3,hP3⟩:=aC (splice P2 2 (lQ 42 2 K.o));rw[hP3]at YB;have hWt:WB=FL (chW (kK zs) K.l K.o f ds ds.length) P3:=by
    rw[aVO.o,aF5,hm'.o,cB,hP2,hP3,aVS.o]
   obtain⟨ME,wG,qU,vV⟩:=h'.o;have AP:ds.length=sn:=by rw[←wG];exact qU.xZ qW aH
   have c1:=aK9.cell (i:=1) rfl;have hms:=VK.size;have vO:(kK zs).length=K.qn:=by unfold kK;rw[dF];exact GX.o.len
   have hqm:=GX.o.row.max;have hql:=GX.o.row.le;obtain⟨bLE,a5V,bKX,bDM,bEB,GK,yB,BO,FQ,aKA,bLF,oC⟩:=aT aK9 VK hP2 hP3 hWt wG qU vV AP YB aCA vO;clear aK9 VK hP2 hP3 hWt wG qU vV AP YB aCA vO;go_wp2_with fail
   clear c1;go_loopw [8,9,58] (fun sv lv iv wr=>∃k:Nat,k≤sn∧sv= .int .i64 (o8 (kK zs) k)∧lv= .int .i64 (XM K.l f ds k)∧iv= .int .i64 k∧Hid (RX K wr (noT f ds k) (FL (chW (kK zs) K.l K.o f ds k) P3))∧Hid (Mv K.gw K.gb wI wI W8 wr)) (fun _ _ iv _=>sn - (intOf iv).toNat)
   case atStart=>
    exact⟨0,by omega,rfl,rfl,rfl,aKA,a5V⟩
   case round=>
    obtain⟨k,hk,rfl,rfl,rfl,OH,yJ⟩:=hrel;by_cases kY:k<sn
    ·have hil:(k:Int)<(sn:Int):=by omega
     have xR:IntKind.i64.wrap ((k:Int)+1)=k+1:=by rw[bJ];omega
     have hid:k<ds.length:=by rw[FQ.o];exact kY
     have rC:k<ME.length:=by rw[GK.o];exact hid
     have nR:Below w.heap.size w wr:=sW.o.trans (yJ.o.below (B:=w.heap.size) aG aG (fun k e=>by cases e) sW.o.size);obtain⟨b,o2,rfl,xL,fe⟩:=(yB.o.mono nR).elem qW aH dzz kY;rw[kF rC]at fe;have rH:=BO.o k rC hid;obtain⟨ua,un,uc,ra,rn,rc,ya,yn,yc,hv⟩:=rH.v;have g0:=fe 0 _ rfl;have g1:=fe 1 _ rfl;have g2:=fe 2 _ rfl;clear fe;rw[hv]at rH g0 g1 g2;simp only[dB]at g0 g1 g2;have hgi:ds.getD k (kS f)=ds[k]:=kF hid _;have EJ:=sK.o _ (bP hid);have FJ:=vR.o _ (bP hid);have KE:=hO'.o.nx k hid;have hdk:=hO'.o.dir k hid;have OC:=hO'.o.lnk k hid;have a0B:=hO'.o.pk k hid;rw[←aVS.o]at hdk OC a0B;rw[hm'.o,cB]at hdk OC;have hnl:=KJ hO'.o.zG k;rw[oC.o]at hnl;have hNs:=IX f ds hid;have hNl:=PZ f ds k;have b3Z:=PZ f ds (k+1);have hNN:=hN'.o;have W9:=aF6 (kK zs) K.l K.o f ds k;have hLs:XM K.l f ds (k+1)=qK K.l 2 (noT f ds k) 0+2+12*(a2E f (ds.getD k (kS f)):Nat):=rfl;have hXs:o8 (kK zs) (k+1)=((kK zs).getD (o8 (kK zs) k).toNat kQ).2.2.2:=rfl;obtain⟨hen,he1,he2,he3⟩:=aF7 rH EJ;rw[hgi]at hdk hNs W9 hLs;obtain⟨ns,hns⟩:∃x,noT f ds k=x:=⟨_,rfl⟩;rw[hns]at hdk a0B hNs hNl W9 hLs OH;obtain⟨ik,hik⟩:∃x:Nat,o8 (kK zs) k=x:=⟨(o8 (kK zs) k).toNat,by omega⟩;rw[hik]at hdk hnl W9 hXs ⊢;obtain⟨lk,aKB⟩:∃x:Nat,XM K.l f ds k=x:=⟨(XM K.l f ds k).toNat,by omega⟩;rw[aKB]at OC W9 ⊢;rw[cB]at OC W9;obtain⟨at_,SX⟩:∃x,qK K.l 2 ns 0=x:=⟨_,rfl⟩;rw[SX]at a0B W9 hLs;rw[hen]at hLs;obtain⟨dd,hdd⟩:=aC (ds[k]);rw[hdd]at rH EJ FJ hdk hNs W9;have kU:=aD wr (.cells #[.slice ua un uc,.slice ra rn rc,.slice ya yn yc] 26);have bD:=kG.new wr 26 #[.slice ua un uc,.slice ra rn rc,.slice ya yn yc];have aKC:=OH.o.later kU;have hD:=aUY zs K f w _ ns _ dd (.slice ua un uc,.slice ra rn rc,.slice ya yn yc) ik aKC bLD.o (nR.tm kU) aG aG rH EJ FJ hO'.o.zG hdk aG aG aG aG;rw[SX]at hD;simp only at hD;have CY:(ik:Int)<(K.qn:Int):=by omega
     have bWP:(0:Int)≤(ik:Int):=by omega
     have aVV:=rQ a0B;have hwl:=yJ.o.size;obtain⟨bWQ,bWR⟩:=OH.o.ne_of;obtain⟨aB9,L9,GA,b6T,JN,aBD,bWS,aG4,aQ9,aUH,aVW,aVX⟩:=aT nR rH hv hgi EJ FJ hdk a0B hNs W9 hLs hXs;obtain⟨b26,bKT,c1J,bLG,aIC,b3S,qR,bD',bLH,hD',aG5⟩:=aS hen hns hik aKB SX hdd kU bD aKC hD aVV;clear nR rH hv hgi EJ FJ hdk a0B hNs W9 hLs hXs hen hns hik aKB SX hdd kU bD aKC hD aVV;go_wp2_with fail
     refine hD'.o.mono ?_;rintro e w12 ⟨rfl,a5W,VK⟩;have aVY:=Mv.blk VK bD'.o aG aG;have hPp:=HY K w12 _ _ a5W lk at_ 4 aG4.o (by rw[aG5.o];decide) (by rw[aG5.o,show(4:Int).toNat=4 from rfl];omega);obtain⟨bEC,a5V,aVZ,a4X⟩:=aL a5W VK aVY hPp;clear a5W VK aVY hPp;clear g0 g1 g2;go_wp2_with fail
     refine a4X.o.mono ?_;rintro e w13 ⟨rfl,a5X,aCB⟩;have a0C:=Mv.blk aCB aVZ.o aG aG;have YC:=((yJ.o.later qR.o).trans a5V.o).trans aCB;have GV:Below w.heap.size w w13:=sW.o.trans (YC.below (B:=w.heap.size) aG aG (fun k e=>by cases e) sW.o.size);obtain⟨b3,o3,ha3,PV,fe⟩:=GX.o.row.elem zQ aH BL (show ik<K.qn by omega);subst ha3;rw[cB,y9 (by rw[GX.o.len];omega)]at aVX;have l3:=late GV PV (fe 3 _ rfl);rw[←aVX.o]at l3;clear fe;obtain⟨gD,hgD⟩:=aC wr.heap.size;rw[hgD]at a0C ⊢;obtain⟨xs,hxs⟩:∃x,o8 (kK zs) (k+1)=x:=⟨_,rfl⟩;rw[hxs]at l3;have aKD:kG w13 gD 26 #[.slice ua un uc,.slice ra rn rc,.slice ya yn yc]∧w13.cell? ⟨b3,o3+ik*4+3,none⟩=some (.int .i64 xs):=⟨a0C,l3⟩;have LG:=(bF w13.heap.size w13).drew;obtain⟨Ty,ff,pQ,sI,kE⟩:=oW (fun W=>kG W gD 26 #[.slice ua un uc,.slice ra rn rc,.slice ya yn yc]∧W.cell? ⟨b3,o3+ik*4+3,none⟩=some (.int .i64 xs)) w13 aKD;have HS:=aA (kE w13.drew ⟨a0C.late LG,l3⟩);have q0:∀s,(ff s).cell? ⟨gD,0,none⟩=some (.slice ua un uc):=fun s=>(sI s).1.cell rfl;have q1:∀s,(ff s).cell? ⟨gD,1,none⟩=some (.slice ra rn rc):=fun s=>(sI s).1.cell rfl;have q2:∀s,(ff s).cell? ⟨gD,2,none⟩=some (.slice ya yn yc):=fun s=>(sI s).1.cell rfl;have q3:∀s,(ff s).cell? ⟨b3,o3+ik*4+3,none⟩=some (.int .i64 xs):=fun s=>(sI s).2;have bDD:=a0C.late LG;have aKE:=a5X.later LG;have aKF:=YC.later LG;have hbD:=GV.tm LG;have l3D:w13.drew.cell? ⟨b3,o3+ik*4+3,none⟩=some (.int .i64 xs):=l3;obtain⟨wD,xB⟩:=aC w13.drew;rw[xB]at HS bDD aKE aKF l3D hbD;have hE:=X0 ua ra ya un uc rn rc yn yc wD aG aG;obtain⟨ne,EH⟩:∃x,pU un rn yn=x:=⟨_,rfl⟩;have bWT:ne≤1002:=by rw[←EH];exact JY he1 he2
     rw[EH]at hE aVW;have hpa:=aG4.o;have bWU:0≤at_∧at_<4294967296:=by
      unfold mH at hpa;simp only[bK,decide_eq_true_eq]at hpa;have:wS 4=4294967296:=by decide
      omega
     have hw2:=aB (at_+2) aG;have xE:IntKind.i64.wrap (12*(ne:Int))=12*ne:=by rw[bJ];omega
     have hw4:IntKind.i64.wrap (at_+2+12*(ne:Int))=at_+2+12*ne:=by rw[bJ];omega
     clear hpa l3;obtain⟨bED,bLI,bLJ,bEE,YD,aMB,bLK,aQB,OB,jV,bEF,aW0⟩:=aT a5X aCB a0C YC GV hxs aKD LG sI kE bDD aKE;obtain⟨aW1,aW2,bEG,hE',aW3⟩:=aM aKF hbD l3D hE EH;clear a5X aCB a0C YC GV hxs aKD LG sI kE bDD aKE aKF hbD l3D hE EH;go_wp2_with fail
     refine kR (S:=fun W=>∃s,W=ff s) aF 13 rfl ?_;rw[xB];refine jZ [0,1,2,6,7,8,9,10] 5 aF aI aF aF aF HS.o ?_;simp only[jW,aW,aX,aU,aV];iterate 8 (go_big_quiet_step (fail))
     refine wpQuiet_nil ?_;clear q0 q1 q2 q3 xB;refine jX 3 4 aF aF ?_;simp only[jW,aW,aX,aU,aV];go_wp2_with fail
     refine hE'.o.mono ?_;rintro e w15 ⟨rfl,xU⟩;have aG6:=aW0.o.later xU;have aG7:=aW1.o.later xU;obtain⟨HS,BP,aKG,aKH⟩:=aL (jV.o _ ⟨bEF.o.late xU,late xU (p:=⟨b3,o3+ik*4+3,none⟩) (by show b3<_;have:=aW2.o.size;omega) bEG.o⟩) xU aG6 aG7;clear xU aG6 aG7;go_wp2_with fail
     first|refine Mid.mk ⟨HS.o,?_⟩|refine Mid.mk ?_
     refine jZ [4,5,11,12] 0 aF aI aF aF aF HS.o ?_;simp only[jW,aW,aX,aU,aV];iterate 4 (go_big_quiet_step (fail))
     refine wpQuiet_nil ?_;refine kH aF ?_;have aG8:RX K w15 (noT f ds (k+1)) (FL (chW (kK zs) K.l K.o f ds (k+1)) P3):=by
      rw[aQ9.o,aUH.o,qG,qG];exact aKG.o
     have aKI:=aA aG8;clear aG8;go_wp2_with fail
     go_roundw
     case rel=>exact⟨k+1,by omega,by rw[aMB.o],by rw[aVW.o],by go_num,aKI,aKH⟩
     case measure=>simp[intOf];omega
    ·obtain rfl:k=sn:=by omega
     rw[←FQ.o,←bEB.o]at OH;have c0:=OH.o.blk.cell (i:=0) rfl;have yV:Below w.heap.size w wr:=sW.o.trans (yJ.o.below (B:=w.heap.size) aG aG (fun k e=>by cases e) sW.o.size);have mK:=(OH.o.row.own OH.o.len (B:=w.heap.size) aG (by unfold maxLen;omega));obtain⟨FR,xQ⟩:=aJ yV mK;clear yV mK;go_wp2_with fail
     refine bodyPost_ret (results_tmp2 rfl _ _ _) rfl ?_;exact⟨_,_,_,rfl,xQ.o,FR.o⟩
 ·rw[if_neg hR0]at aVO;obtain rfl:=aVO.o;have qC:(R != 0)=true:=by simp[hR0]
  obtain⟨pG,bLC,nD⟩:=aK kP bA2 rG;clear kP bA2 rG;go_wp2_with fail
  refine bodyPost_ret (results_tmp2 rfl _ _ _) rfl ?_;exact⟨none,0,0,rfl,lC _ _ _ _,nD.o⟩
theorem bLL (w:World):Calls Tryz.prog 215 #[.int .i64 3] w fun e w'=>e= .returned (.bool false)∧w=w':=by
 go_enter Tryz.func215,Tryz.ntmps215;go_wp2;go_ret;exact⟨rfl,rfl⟩
theorem bLM (w:World):Calls Tryz.prog 217 #[.int .i64 3] w fun e w'=>e= .returned (.int .i64 2)∧w=w':=by
 go_enter Tryz.func217,Tryz.ntmps217;go_wp2_with (go_at_call 146;refine(ZJ _ _).mono ?_;rintro e w' ⟨rfl,rfl⟩)
 go_ret;exact⟨rfl,rfl⟩
theorem aST (n:Int) (h:mH n 2 2=true) (w:World):Calls Tryz.prog 188 #[.int .i64 n,.int .i64 2,.int .i64 2] w fun e w'=>∃a c,e= .returned (.tuple #[.slice a 2 c,.bool true])∧Sl w' a 2 c 1 (ints .u8 (lQ n 2 2))∧Below w.heap.size w w':=by
 refine(a9A _ _ _ _).mono ?_;rintro e w' ⟨a,m,c,rfl,ho,hb⟩;have hs:=(Sl.kZ ho).1;obtain rfl:m=2:=by have:=hs.p9;rw[rQ h]at this;exact this.symm
 exact⟨a,c,by rw[h],hs,hb⟩
theorem bWV (n:Int) (hn:mH n 2 2=true) (hmt:wH 3 1 (lQ n 2 2)=true) (a:Option Addr) (c:Nat) (w:World) (hs:Sl w a 1 c 1 (ints .i64 [n])):
  Calls Tryz.prog 147 #[.int .i64 3,.slice a 1 c,.int .i64 1] w fun e w'=>∃a' c',e= .returned (.tuple #[.agg #[.int .i64 3,.int .i64 1,.slice a' 2 c'],.bool true])∧w'.ownsRow w.heap.size 5 1 (.slice a' 2 c') 2 (ints .u8 (lQ n 2 2))∧Below w.heap.size w w':=by
 obtain⟨i0,hi,yZ,qC,wY⟩:=info_parts a99;obtain⟨b,o,rfl,OM,cx⟩:=hs.at (i:=0) aG;have c1:w.cell? ⟨b,o,none⟩=some (.int .i64 n):=cx 0 _ rfl;clear cx;have Hs:=aA hs;clear hs;go_enter Tryz.func147,Tryz.ntmps147;go_wp2;obtain⟨W0,hW0⟩:∃W0,W0=(w.alloc (.cells #[.int .i64 0,.int .i64 0,.slice none 0 0] 72)).alloc (.cells #[.int .i64 3,.int .i64 1,.slice none 0 0] 72):=⟨_,rfl⟩;obtain⟨g,hg⟩:∃g,g=w.heap.size+1:=⟨_,rfl⟩;have B0:kG W0 w.heap.size 72 #[.int .i64 0,.int .i64 0,.slice none 0 0]:=by rw[hW0];exact(kG.new _ _ _).alloc _
 have G0:kG W0 g 72 #[.int .i64 3,.int .i64 1,.slice none 0 0]:=by rw[hW0,hg];have:=kG.new (w.alloc (.cells #[.int .i64 0,.int .i64 0,.slice none 0 0] 72)) 72 #[.int .i64 3,.int .i64 1,.slice none 0 0];simpa using this
 have BW:Below w.heap.size w W0:=by rw[hW0];exact((bF _ _).alloc (aY _) _).alloc (by simp) _
 obtain⟨B0,G0,BW,Hg⟩:=aL B0 G0 BW hg;have c2:W0.cell? ⟨b,o,none⟩=some (.int .i64 n):=late BW.o OM c1;rw[←hW0,←hg];clear hW0 hg c1;refine wp_loop_rounds 2 ?_;rw[rounds_succ];go_wp2_with (first
  |(go_at_call 215;refine(bLL _).mono ?_;rintro e w' ⟨rfl,rfl⟩)
  |(go_at_call 217;refine(bLM _).mono ?_;rintro e w' ⟨rfl,rfl⟩)
  |(go_at_call 188;refine(aST n hn _).mono ?_;rintro e w1 ⟨a1,c1,rfl,NW,kV⟩;obtain⟨Hs1,G1,Hb1⟩:=aK NW (G0.o.late kV) kV;clear NW kV;have q2:w1.cell? ⟨g,2,none⟩=some (.slice none 0 0):=G1.o.cell rfl)
  |(at_builtin;refine qD rfl _ _ 24 rfl W0.heap.size 5 i0 _ 1 1 Tryz.underlying24 hi yZ qC wY rfl aH _ 0 [] rfl (lC _ _ _ _) a1 2 c1 _ rfl Hs1.o wQ aG aH Hb1.o.size ?_;intro a5 c5 w2 ob kP MB;clear MB;obtain⟨Ob,Hb2⟩:=aJ ob (Hb1.o.trans kP);clear ob kP;have G2:=aA (G0.o.late Hb2.o);have z0:=G2.o.cell (i:=0) rfl;have z1:=G2.o.cell (i:=1) rfl;have z2:=G2.o.cell (i:=2) rfl;have fz:=G2.o.frozen 2))
 obtain⟨w3,xE⟩:∃w3,w3=w2.setCell ⟨g,2,none⟩ (.slice a5 2 c5):=⟨_,rfl⟩;rw[←xE];have B2:kG w2 w.heap.size 72 #[.int .i64 0,.int .i64 0,.slice none 0 0]:=B0.o.late Hb2.o;have G3:kG w3 g 72 #[.int .i64 3,.int .i64 1,.slice a5 2 c5]:=by rw[xE];exact G2.o.set 2 _
 have B3:kG w3 w.heap.size 72 #[.int .i64 0,.int .i64 0,.slice none 0 0]:=by rw[xE];exact B2.mO (by have:=Hg.o;omega) _ _
 have O3:w3.ownsRow W0.heap.size 5 1 (.slice a5 2 c5) 2 (ints .u8 (lQ n 2 2)):=by rw[xE];exact lW Ob.o G0.o.lt _ _
 have BB:Below w.heap.size w w3:=by rw[xE];exact(BW.o.tm Hb2.o).setCell (by show w.heap.size≤g;have:=Hg.o;omega) _
 have S3:=aA (Sl.kZ O3).1;have HO3:=aA O3;have aG9:w.heap.size<W0.heap.size:=by have h1:=G0.o.lt;have h2:=Hg.o;omega
 obtain⟨aKJ,G3,B3,BB⟩:=aL aG9 G3 B3 BB;clear xE z0 z1 z2 fz B2 O3 q2 aG9;have z0:=G3.o.cell (i:=0) rfl;have z1:=G3.o.cell (i:=1) rfl;have z2:=G3.o.cell (i:=2) rfl;have Hmt:=aA hmt;rw[rounds_succ];go_wp2_with (go_at_call 183;refine(aSO 3 1 a5 2 c5 (lQ n 2 2) _ S3.o).mono ?_;rw[Hmt.o];rintro e w4 ⟨rfl,mX⟩;obtain⟨G4,B4,O4,Hb4⟩:=aL (G3.o.late mX) (B3.o.late mX) (l6 HO3.o mX) mX;clear mX;have y0:=G4.o.cell (i:=0) rfl;have y1:=G4.o.cell (i:=1) rfl;have y2:=G4.o.cell (i:=2) rfl;have x0:=B4.o.cell (i:=0) rfl;have x1:=B4.o.cell (i:=1) rfl;have x2:=B4.o.cell (i:=2) rfl;have f0:=B4.o.frozen 0;have f1:=B4.o.frozen 1;have f2:=B4.o.frozen 2)
 have B5:=((B4.o.set 0 (.int .i64 3)).set 1 (.int .i64 1)).set 2 (.slice a5 2 c5);refine bodyPost_ret (kJ rfl _ _ w.heap.size 72 #[.int .i64 3,.int .i64 1,.slice a5 2 c5] _ rfl B5 Tryz.underlying72 rfl aF) rfl ?_;have O5:=lW (lW (lW O4.o aKJ.o 0 (.int .i64 3)) aKJ.o 1 (.int .i64 1)) aKJ.o 2 (.slice a5 2 c5);exact⟨_,_,rfl,lN O5 (jO aKJ.o),(((BB.o.tm Hb4.o).setCell (aY _) _).setCell (aY _) _).setCell (aY _) _⟩
theorem aKK (n:Int) (hn:mH n 2 2=true) (hmt:wH 3 1 (lQ n 2 2)=true) (a:Option Addr) (c:Nat) (w:World) (hs:Sl w a 1 c 1 (ints .i64 [n])):
  Calls Tryz.prog 87 #[.int .i64 3,.slice a 1 c] w fun e w'=>∃a' c',e= .returned (.tuple #[.agg #[.int .i64 3,.int .i64 1,.slice a' 2 c'],.bool true])∧w'.ownsRow w.heap.size 5 1 (.slice a' 2 c') 2 (ints .u8 (lQ n 2 2))∧Below w.heap.size w w':=by
 have Hs:=aA hs;clear hs;go_enter Tryz.func87,Tryz.ntmps87;obtain⟨W0,hW0⟩:∃W0,W0=w.alloc (.cells #[.int .i64 0,.int .i64 0,.slice none 0 0] 72):=⟨_,rfl⟩;have B0:kG W0 w.heap.size 72 #[.int .i64 0,.int .i64 0,.slice none 0 0]:=by rw[hW0];exact kG.new _ _ _
 have BW:Below w.heap.size w W0:=by rw[hW0];exact(bF _ _).alloc (aY _) _
 obtain⟨B0,BW⟩:=aJ B0 BW;have HS:=aA (Hs.o.mono BW.o);have aG9:w.heap.size<W0.heap.size:=B0.o.lt;have aKJ:=aA aG9;clear aG9;go_upto_region 1 with fail
 rw[←hW0];clear hW0;go_wp2_with (first
  |(go_at_call 146;refine(ZJ _ _).mono ?_;rintro e w' ⟨rfl,rfl⟩)
  |(go_at_call 147;refine(bWV n hn hmt a c _ HS.o).mono ?_;rintro e w4 ⟨a5,c5,rfl,hs5,mX⟩;obtain⟨S4,B4,Hb4⟩:=aK hs5 (B0.o.late mX) mX;clear mX hs5;have x0:=B4.o.cell (i:=0) rfl;have x1:=B4.o.cell (i:=1) rfl;have x2:=B4.o.cell (i:=2) rfl;have f0:=B4.o.frozen 0;have f1:=B4.o.frozen 1;have f2:=B4.o.frozen 2))
 have B5:=B4.o.D5 (.int .i64 3) (.int .i64 1) (.slice a5 2 c5);refine bodyPost_ret (kJ rfl _ _ w.heap.size 72 #[.int .i64 3,.int .i64 1,.slice a5 2 c5] _ rfl B5 Tryz.underlying72 rfl aF) rfl ?_;exact⟨_,_,rfl,lN (OT S4.o aKJ.o _ _ _) (jO aKJ.o),lT (BW.o.tm Hb4.o) (aY _) _ _ _⟩
def bWW:List nP:= [([],0,0, -1)]
def xT (n:Int):oZ:=(256,3,1,lQ n 2 2)
def xD:jY 2:=([xT 258], [], [])
theorem xc2:oD 2 2 [xD,xD] bWW=1:=by decide+kernel
