import Derived.Test.YtceclmpmpldmlaaGreatCw17
set_option linter.unusedSimpArgs false
set_option linter.unusedVariables false
namespace Go.Proofs.YtceclmpmpldmlaaGreat
open Go.RowKit Tt
abbrev dvA (ta:Option Addr) (tn tc:Nat) (sa:Option Addr) (sn sc:Nat) (ba:Option Addr) (bn bc:Nat):Array Value:=#[.slice ta tn tc,.slice sa sn sc,.slice ba bn bc]
abbrev svA (la:Option Addr) (ln lc:Nat) (sat kC oM:Int):Array Value:=#[.slice la ln lc,.int .i64 sat,.int .i64 kC,.int .i64 oM]
def PW (zs:List Shz) (K:Wc) (f:Nat):Prop:=∀(w0 w:World) (no:Int) (P:List Int) (d:jY f) (dv:Dz) (i:Nat),RX K w no P→ShR w0 K.qa K.qn K.qc zs→Below w0.heap.size w0 w→w0.heap.size≤K.gw→w0.heap.size≤K.gb→FN w0 f d dv→mY f d→tJ f d→mW (kK zs)=true→
 okW (kK zs) K.l K.n K.o f d no i→i<K.qn→0≤no→no+(lD f d).length<1000000→K.n≤1000000000000→
 Calls Tryz.prog 43 #[.pointer (some ⟨K.gw,0,none⟩),.agg #[dv.1,dv.2.1,dv.2.2],.int .i64 i] w fun e w'=>e= .returned (.int .i64 (qK K.l 2 no 0))∧RX K w' (no+(lD f d).length) (FL (O1 (kK zs) K.l K.o f d no i) P)∧Mv K.gw K.gb wI wI w w'
set_option maxRecDepth 20000 in
set_option maxHeartbeats 8000000 in
theorem b3T (zs:List Shz) (K:Wc) (f:Nat) (ih:PW zs K f):PW zs K (f+1):=by
 intro w0 w no P d dv i hw hsh AX JJ hgb hd hs qL wP hW hi sJ bK3 hKn;have vO:=hsh.len;obtain⟨ta,tn,tc,ts,sa,sn,sc,ds,ba,bn,bc,rfl,htg,hdt,qU,wG,vV,D9⟩:=hd;obtain⟨h1,h2,h3,h4⟩:=hs;obtain⟨hy1,hy2,hy3⟩:=qL;have htn:d.1.length=tn:=by rw[hdt,dF];exact htg.len
 have UG:d.2.1.length=sn:=by rw[←wG];exact qU.xZ qV aH
 have hbn:d.2.2.length=bn:=D9.p9;have bK4:tn≤500:=by omega
 have bK5:sn≤500:=by omega
 have bCF:bn≤1000000:=by omega
 have UC:=hsh.row.max;have FI:=hsh.row.le;have GZ:(kK zs).getD i kQ=(zs.getD i BL).2:=y9 (by rw[vO];exact hi);have a4T:=fun t=>a2T (L:=kK zs) (i:=i) (t:=t) wP (by unfold kK;rw[dF,vO];exact hi);have aMA:(kK zs).length=K.qn:=by unfold kK;rw[dF];exact vO
 have hD:=a9L (kK zs) K.l K.o f d no i;have hfl:(lD (f+1) d).length=(mD f d.2.1).length+1:=by rw[pK];rfl
 obtain⟨k1,k2,k3,k4,k5,k6,k7,k8,k9⟩:=XG hW;have hel:=S9 f K.l K.o no ((kK zs).getD (i:Int).toNat kQ) d;rw[cB]at hD k2 k4 k5 k6 k8 k9 hel;rw[htn,UG,hbn]at hel;have XB:=hsh.at hi;obtain⟨b,o,hqa,xL,fe⟩:=hsh.row.elem zQ aH BL hi;obtain⟨⟨⟨la,ln,lc⟩,⟨oN,sat,kC,oM⟩⟩,hz⟩:∃z,zs.getD i BL=z:=⟨_,rfl⟩;rw[hz]at fe GZ XB;simp only at GZ XB;rw[GZ]at hD k2 k4 k5 k6 k8 k9 a4T hel;have f0:=late AX xL (fe 0 _ rfl);have f1:=late AX xL (fe 1 _ rfl);have f2:=late AX xL (fe 2 _ rfl);have f3:=late AX xL (fe 3 _ rfl);simp only[dB]at f0 f1 f2 f3;clear fe;have CY:(i:Int)<(K.qn:Int):=by omega
 have AY:(0:Int)≤(i:Int):=by omega
 have a9J:b<w.heap.size:=dD xL AX.size;have kY:=hw.ne_of;have hwn:=aB (no+1) aG;obtain⟨hg1,aEX⟩:=kY;have hsb:=hw.aEM;have c0:=hw.blk.cell (i:=0) rfl;have c3:=hw.blk.cell (i:=3) rfl;have c4:=hw.blk.cell (i:=4) rfl;rw[hqa]at c3;have bA:=kG.new w 26 #[.slice ta tn tc,.slice sa sn sc,.slice ba bn bc];obtain⟨W1,vS⟩:=aC (w.alloc (.cells #[.slice ta tn tc,.slice sa sn sc,.slice ba bn bc] 26));have kV:=aD w (.cells #[.slice ta tn tc,.slice sa sn sc,.slice ba bn bc] 26);have NW:(w.alloc (.cells #[.slice ta tn tc,.slice sa sn sc,.slice ba bn bc] 26)).heap.size=w.heap.size+1:=by simp
 rw[vS]at bA kV NW;have xR:=hw.later kV;obtain⟨Ty,ff,pQ,kI,kE⟩:=kM W1;obtain⟨HS,HD⟩:=aJ (kE _ ((bF _ _).drew)) ((bF W1.heap.size W1).drew);have aIE:b<W1.heap.size:=by omega
 have q3:=fun s=>(xR.blk.late (kI s)).cell (i:=3) rfl;have q4:=fun s=>(xR.blk.late (kI s)).cell (i:=4) rfl;have r0:∀s,(ff s).cell? ⟨b,o+i*4,none⟩=some (.slice la ln lc):=fun s=>late (kI s) aIE (late kV a9J f0);have r1:∀s,(ff s).cell? ⟨b,o+i*4+1,none⟩=some (.int .i64 sat):=fun s=>late (kI s) aIE (late kV a9J f1);have r2:∀s,(ff s).cell? ⟨b,o+i*4+2,none⟩=some (.int .i64 kC):=fun s=>late (kI s) aIE (late kV a9J f2);have r3:∀s,(ff s).cell? ⟨b,o+i*4+3,none⟩=some (.int .i64 oM):=fun s=>late (kI s) aIE (late kV a9J f3);rw[hqa]at q3;clear c0 c3 c4 f0 f1 f2 f3;obtain⟨hw',Z5,r9,aBB,a7Z,yB,GK,BO,vE,h4',ih',nJ⟩:=aT hw hsh AX htg hdt qU wG vV D9 h4 ih wP;obtain⟨oC,aTO,NZ,aBC,a2M,aBM,aN0,hD',bD5,k1',k2',k3'⟩:=aT vO htn UG hbn GZ a4T aMA hD hfl k1 k2 k3;obtain⟨k4',k5',k6',k7',k8',k9',IU,GX,c4T,bVE,bVF,c4U⟩:=aT k4 k5 k6 k7 k8 k9 XB hz hqa hy1 hy2 hy3;obtain⟨aUQ,bA',WH,lZ,b3U,kD,jV,FY⟩:=aP hel bA hW kV xR kI kE vS;clear hw hsh AX htg hdt qU wG vV D9 h4 ih wP vO htn UG hbn GZ a4T aMA hD hfl k1 k2 k3 k4 k5 k6 k7 k8 k9 XB hz hqa hy1 hy2 hy3 hel bA hW kV xR kI kE vS;go_enter Tryz.func43,Tryz.ntmps43;go_wp2_with fail
 rw[FY.o];refine kR (S:=fun W=>∃s,W=ff s) aF 14 rfl ?_;refine jZ [0,1,2,3,4,5,6,7,8,9,10] 3 aF aI aF aF aF HS.o ?_;simp only[jW,aW,aX,aU,aV];iterate 11 (go_big_quiet_step (fail))
 refine wpQuiet_nil ?_;obtain⟨wD,xB⟩:=aC W1.drew;rw[xB]at HS HD ⊢;have hsD:wD.heap.size=w.heap.size+1:=by rw[←xB];exact NW
 have hA:=HD.o;clear xB q3 q4 r0 r1 r2 r3;refine jX 11 2 aF aF ?_;simp only[jW,aW,aX,aU,aV];go_wp2_with fail
 have bS:=kG.new wD 35 #[.slice none 0 0,.int .i64 0,.int .i64 0,.int .i64 0];have kU:=hA.trans ((aD wD (.cells #[.slice none 0 0,.int .i64 0,.int .i64 0,.int .i64 0] 35)).mono hA.size);rw[hsD]at bS;obtain⟨W2,hW2⟩:=aC (wD.alloc (.cells #[.slice none 0 0,.int .i64 0,.int .i64 0,.int .i64 0] 35));have xV:W2.heap.size=w.heap.size+2:=by rw[←hW2];simp;omega
 rw[hW2]at bS kU ⊢;have HS:=aA (jV.o _ kU);first|refine Mid.mk ⟨HS.o,?_⟩|refine Mid.mk ?_
 refine jZ [12] 1 aF aI aF aF aF HS.o ?_;simp only[jW,aW,aX,aU,aV];iterate 1 (go_big_quiet_step (fail))
 refine wpQuiet_nil ?_;have p0:=bS.cell (i:=0) rfl;have p1:=bS.cell (i:=1) rfl;have p2:=bS.cell (i:=2) rfl;have p3:=bS.cell (i:=3) rfl;have y0:=bS.frozen 0;have y1:=bS.frozen 1;have y2:=bS.frozen 2;have y3:=bS.frozen 3;obtain⟨bS',qR,bJ1,hA'⟩:=aL bS kU hW2 hA;clear bS kU hW2 hA;refine jX 13 0 aF aF ?_;simp only[jW,aW,aX,aU,aV];go_wp2_with fail
 have bS:=(((bS'.o.set 0 (.slice la ln lc)).set 1 (.int .i64 sat)).set 2 (.int .i64 kC)).set 3 (.int .i64 oM);have hge:W1.heap.size≤w.heap.size+1:=by omega
 have a2C:=(((qR.o.setCell (p:=⟨w.heap.size+1,0,none⟩) hge (.slice la ln lc)).setCell (p:=⟨w.heap.size+1,1,none⟩) hge (.int .i64 sat)).setCell (p:=⟨w.heap.size+1,2,none⟩) hge (.int .i64 kC)).setCell (p:=⟨w.heap.size+1,3,none⟩) hge (.int .i64 oM);obtain⟨W3,hW3⟩:∃W3,(((W2.setCell ⟨w.heap.size+1,0,none⟩ (.slice la ln lc)).setCell ⟨w.heap.size+1,1,none⟩ (.int .i64 sat)).setCell ⟨w.heap.size+1,2,none⟩ (.int .i64 kC)).setCell ⟨w.heap.size+1,3,none⟩ (.int .i64 oM)=W3:=⟨_,rfl⟩;have hs3:W3.heap.size=w.heap.size+2:=by rw[←hW3];simpa using xV
 rw[hW3]at bS a2C ⊢;have HS:=aA (jV.o _ a2C);first|refine Mid.mk ⟨HS.o,?_⟩|refine Mid.mk ?_
 refine kH aF ?_;clear p0 p1 p2 p3 y0 y1 y2 y3 xV HD;have xE:=b3U.o.later a2C;have bA3:=bA'.o.late a2C;have c4:=xE.blk.cell (i:=4) rfl;have y4:=xE.blk.frozen 4;have sJ:=RX.no xE (no+1);have hwl:=bA3.lt;have aQ8:=sJ.1;have TJ:=(Mv.of_below (g:=K.gw) (gt:=K.gb) (sv:=wI) (lZ.o.tm a2C)).trans sJ.2;have bA4:=Mv.blk sJ.2 bA3 aG aG;have bS4:=Mv.blk sJ.2 bS aG aG;obtain⟨W4,hW4⟩:=aC (W3.setCell ⟨K.gw,4,none⟩ (.int .i64 (no+1)));have hs4:W4.heap.size=w.heap.size+2:=by rw[←hW4];simpa using hs3
 have b3V:(W3.setCell ⟨K.gw,4,none⟩ (.int .i64 (no+1))).heap.size=w.heap.size+2:=by simpa using hs3
 rw[hW4]at aQ8 TJ bA4 bS4;have nV:=aD W4 (.cells #[.slice none 0 0] 154);have bl:=kG.new W4 154 #[.slice none 0 0];have b3W:WIn K w (W4.alloc (.cells #[.slice none 0 0] 154)) (no+1) P w.heap.size (w.heap.size+1) (w.heap.size+2) (dvA ta tn tc sa sn sc ba bn bc) (svA la ln lc sat kC oM) wI []:=
  ⟨aQ8.later nV,bA4.late nV,bS4.late nV,by rw[←hs4];exact bl,lC _ _ _ _,TJ.later nV⟩
 obtain⟨W5,hW5⟩:=aC (W4.alloc (.cells #[.slice none 0 0] 154));rw[hW5]at b3W;have d0:=b3W.bA.cell (i:=0) rfl;rw[←hW5,←hW4]at d0;obtain⟨b7E,bVG,bS',a2D,aQ2,bKP,bKQ,vT,bKR,a8D,a8K,bVH⟩:=aT a2C hW3 bS xE bA3 hW4 hW5 sJ aQ8 TJ bA4 bS4;obtain⟨LF,bl',b7F⟩:=aK nV bl b3W;clear a2C hW3 bS xE bA3 hW4 hW5 sJ aQ8 TJ bA4 bS4 nV bl b3W;go_wp2_with fail
 rw[bKP.o,bKQ.o];clear d0 b3V hs4 hs3 bS' a2D aQ2 bVG b7E vT bKR a8D a8K bVH LF bl' bKP bKQ bJ1 qR hA' FY b3U lZ bA' y4 c4;go_loopw [44] (fun iv wr=>∃(k:Nat) (v:Value),k≤tn∧iv= .int .i64 k∧Hid (WIn K w wr (no+1) (FL ((d.1.take k).flatMap (FT K.l K.o no)) P) w.heap.size (w.heap.size+1) (w.heap.size+2) (dvA ta tn tc sa sn sc ba bn bc) (svA la ln lc sat kC oM) v ((d.1.take k).map (PO K.l K.o no)))) (fun iv _=>tn - (intOf iv).toNat)
 case atStart=>exact⟨0,wI,by omega,rfl,b7F⟩
 case round=>
  obtain⟨k,v,hk,rfl,hW⟩:=hrel;by_cases kY:k<tn
  ·
   have hil:(k:Int)<(tn:Int):=by omega
   have xR:IntKind.i64.wrap ((k:Int)+1)=k+1:=by rw[bJ];omega
   have nR:=r9.o.trans (hW.o.mv.below (B:=w0.heap.size) JJ hgb (fun k e=>by cases e) r9.o.size);obtain⟨b2,o2,rfl,U4,f0,f1,f2,f3,DT⟩:=aBB.o.at kY;have f0:=late nR U4 f0;have f1:=late nR U4 f1;have f2:=late nR U4 f2;have f3:=late nR U4 f3;have hkd:k<d.1.length:=by rw[aTO.o];exact kY
   have hgx:d.1[k]=nO (ts.getD k JL):=by
    have h1:k<ts.length:=by rw[aBB.o.len];exact kY
    simp only[a7Z.o,fI];rw[kF h1]
   have hpt:=aQ5 K.l K.o no d.1 hkd;have het:=aQ6 K.l K.o no d.1 hkd;have hk1:=k1'.o _ (bP hkd);have b3X:=bVE.o _ (bP hkd);obtain⟨⟨⟨y,t,cn,xa,xn,xc⟩,dd⟩,hzi⟩:∃z,ts.getD k JL=z:=⟨_,rfl⟩;rw[hzi]at f0 f1 f2 f3 DT hgx;simp only[nO]at f0 f1 f2 f3 DT hgx;rw[hgx]at hpt het hk1 b3X;have hxn:xn≤1000000000:=by have:=DT.p9;have:=hk1.2;simp only at this;omega
   have kU:=aD wr (.cells #[.int .i64 y,.int .i64 t,.int .i64 cn,.slice xa xn xc] 74);have bk:=kG.new wr 74 #[.int .i64 y,.int .i64 t,.int .i64 cn,.slice xa xn xc];have aS5:=hW.o.later kU;have aJO:=nR.tm kU;have hV:=aJF K _ (no+1) no _ aS5.ws y t cn xa xn xc dd w0 DT aJO JJ hgb b3X hxn hk1.1;have hwr:=hW.o.mv.size;obtain⟨aB9,a3N,c4V,bCK,bVI,c4W,c2F,b33,qR,bk',aUR,aUS⟩:=aT nR DT hgx hpt het hk1 b3X hzi kU bk aS5 aJO;have hV':=aA hV;clear nR DT hgx hpt het hk1 b3X hzi kU bk aS5 aJO hV;go_wp2_with fail
   refine hV'.o.mono ?_;rintro e w2 ⟨x0,x1,x2,x3,rfl,aDA,bDC,T9⟩;have z8:=aUR.o.turn bDC T9 aG aG aG aG aG;have ha2:=aD w2 (.cells #[.int .i64 x0,.int .i64 x1,.int .i64 x2,.int .i64 x3] 55);have IV:=z8.later ha2;clear f0 f1 f2 f3;have a81:=Sl.new w2 55 4 1 #[.int .i64 x0,.int .i64 x1,.int .i64 x2,.int .i64 x3] (0,0) aG rfl;have c7A:=z8.mv.size;have hC:=aBI w.heap.size (w.heap.size+2) _ [(x0,x1,x2,x3)] v _ 1 1 _ IV.bl IV.ow (oV IV.ow IV.bl aH) (by have:=IV.mv.size;omega) (by simpa [fl,oF] using a81) aG (by simp;omega);obtain⟨aEY,c2G,ZQ,a4A,aN2,c4X,b7G,OO⟩:=aP aDA bDC T9 z8 IV ha2 a81 hC;clear aDA bDC T9 z8 IV ha2 a81 hC;go_wp2_with fail
   refine OO.o.mono ?_;rintro e w4 ⟨v4,rfl,hl4,Z9,b3Y,TJ⟩;have E8:=aN2.o.add hl4 Z9 TJ aG aG aG aG aG aG;rw[aEY.o,←bVI.o,←qG,←bCK.o]at E8;obtain⟨a9N,bCU,aB1,c2H,a8D⟩:=aM E8 hl4 Z9 b3Y TJ;clear E8 hl4 Z9 b3Y TJ;go_wp2_with fail
   go_roundw
   case rel=>exact⟨k+1,v4,by omega,by go_num,a9N⟩
   case measure=>simp[intOf];omega
  ·obtain rfl:k=tn:=by omega
   have KF:d.1.take k=d.1:=bW (by rw[aTO.o];omega);rw[KF]at hW;obtain⟨P1,hP1⟩:=aC (FL (d.1.flatMap (FT K.l K.o no)) P);obtain⟨E1,hE1⟩:=aC (d.1.map (PO K.l K.o no));rw[hP1,hE1]at hW;have bVJ:E1.length=k:=by rw[←hE1,dF];exact aTO.o
   have d1:=hW.o.bA.cell (i:=1) rfl;clear KF b7F;obtain⟨bVK,bVL⟩:=aJ hP1 hE1;clear hP1 hE1;go_wp2_with fail
   clear d1;go_loopw [59] (fun iv wr=>∃(j:Nat) (v:Value),j≤sn∧iv= .int .i64 j∧Hid (WIn K w wr (rX f d.2.1 no j) (FL (MU (O1 (kK zs) K.l K.o f) (oN,sat,kC,oM) d.2.1 no j) P1) w.heap.size (w.heap.size+1) (w.heap.size+2) (dvA ta k tc sa sn sc ba bn bc) (svA la ln lc sat kC oM) v (E1++KM f K.l d.2.1 no j))) (fun iv _=>sn - (intOf iv).toNat)
   case atStart=>
    refine⟨0,v,by omega,rfl,?_⟩;have e1:rX f d.2.1 no 0=no+1:=by simp[rX,mD]
    have e2:MU (O1 (kK zs) K.l K.o f) (oN,sat,kC,oM) d.2.1 no 0= []:=rfl;have e3:E1++KM f K.l d.2.1 no 0=E1:=by simp[KM]
    rw[e1,e2,e3];exact hW
   case round=>
    clear hW;obtain⟨j,v,hj,rfl,hW⟩:=hrel;by_cases kY:j<sn
    ·
     have hil:(j:Int)<(sn:Int):=by omega
     have xR:IntKind.i64.wrap ((j:Int)+1)=j+1:=by rw[bJ];omega
     have nR:=r9.o.trans (hW.o.mv.below (B:=w0.heap.size) JJ hgb (fun k e=>by cases e) r9.o.size);have hid:j<d.2.1.length:=by rw[NZ.o];exact kY
     have rC:j<ds.length:=by rw[GK.o];exact hid
     obtain⟨xb,xo,rfl,U4,fe⟩:=yB.o.elem qV aH (0,(.slice none 0 0,.slice none 0 0,.slice none 0 0)) kY;rw[kF rC]at fe;obtain⟨hq1,rH⟩:=BO.o j rC hid;obtain⟨ua,un,uc,ra,rn,rc,xa,xn,xc,hv⟩:=rH.v;have g0:=late nR U4 (fe 0 _ rfl);have g1:=late nR U4 (fe 1 _ rfl);have g2:=late nR U4 (fe 2 _ rfl);have g3:=late nR U4 (fe 3 _ rfl);simp only[dB]at g0 g1 g2 g3;clear fe;rw[hv]at rH g1 g2 g3;rw[hq1]at g0;simp only at g0 g1 g2 g3;have UA:d.2.1.getD j (0,kS f)=d.2.1[j]:=kF hid _;have hNs:=RZ f d.2.1 no hid;have hNl:=K5 f d.2.1 no j;have b3Z:=K5 f d.2.1 no (j+1);have hPs:=aQ4 (O1 (kK zs) K.l K.o f) (oN,sat,kC,oM) d.2.1 no j;have IW:=a9M f K.l d.2.1 no j;obtain⟨OC,hkW⟩:=k2'.o j hid;have XD:=aBM.o (d.2.1.getD j (0,kS f)).1 OC;rw[aN0.o]at XD;have EJ:mY f d.2.1[j].2:=h4'.o _ (bP hid);have PX:tJ f d.2.1[j].2:=bVF.o _ (bP hid);have hEx:aQ3 f K.l d.2.1 no j=((d.2.1.getD j (0,kS f)).1,4,1,qK K.l 2 (rX f d.2.1 no j) 0):=rfl;rw[UA]at hNs hPs OC hkW XD hEx;obtain⟨y,hy⟩:=aC (d.2.1[j].1);obtain⟨dd,hdd⟩:=aC (d.2.1[j].2);rw[hy]at g0 hPs OC hkW XD hEx;rw[hdd]at rH hNs hPs hkW EJ PX;obtain⟨ns,hns⟩:=aC (rX f d.2.1 no j);rw[hns]at hNs hPs hkW hEx hNl hW;obtain⟨si,hsi⟩:∃si:Nat,vG (oN,sat,kC,oM) y=si:=⟨(vG (oN,sat,kC,oM) y).toNat,by omega⟩;have hsI:vG (oN,sat,kC,oM) y=(oN.getD (fst (fun z=>z.1==y) oN).toNat (0,0)).2:=rfl;rw[hsi]at hkW XD hPs hsI;have hlP:=EL (p:=fun(z:Lk)=>z.1==y) (l:=oN);have bIJ:nQ (oN,sat,kC,oM) y=oN.any fun z=>z.1==y:=rfl;rw[←bIJ,OC,decide_eq_true_eq]at hlP;have hfb:=MQ (p:=fun(z:Lk)=>z.1==y) (l:=oN);obtain⟨kx,hkx⟩:∃kx:Nat,fst (fun(z:Lk)=>z.1==y) oN=kx:=⟨(fst (fun(z:Lk)=>z.1==y) oN).toNat,by omega⟩;have aBO:=IU.o.xZ sO aH;rw[hkx]at hsI hfb;rw[cB]at hsI;rw[aBO]at hfb;have kU:=aD wr (.cells #[.int .i64 y,.slice ua un uc,.slice ra rn rc,.slice xa xn xc] 28);have b5:=kG.new wr 28 #[.int .i64 y,.slice ua un uc,.slice ra rn rc,.slice xa xn xc];have aS5:=hW.o.later kU;have aJO:=nR.tm kU;have hIX:=aQ7 (.pointer (some ⟨wr.heap.size,0,none⟩)) la ln lc oN (fun z=>z.1==y) _ (IU.o.mono aJO) (fun W' x hb=>b3N _ y x.1 x.2 W' (late hb b5.lt (b5.cell rfl)) (dD b5.lt hb.size));rw[hkx]at hIX;have hwr:=hW.o.mv.size;have k0:=hW.o.bS.cell (i:=0) rfl;have hSl:w.heap.size+1<wr.heap.size:=hW.o.bS.lt;have hGl:w.heap.size+2<wr.heap.size:=hW.o.bl.lt;have hln:ln≤9223372036854775807:=bU IU.o.le IU.o.max;have bVM:kx<ln:=by omega
     have c4Y:(kx:Int)<(ln:Int):=by omega
     have c4Z:(0:Int)≤(kx:Int):=by omega
     obtain⟨aB9,bKN,L9,GA,OI,aQ9,bVN,bKS,bVO,a01,aOY,bVP⟩:=aT nR hq1 rH hv UA hNs hNl b3Z hPs IW OC hkW;obtain⟨XF,JN,XE,bVQ,hy',b3S,bKT,aQA,aJL,c2I,a9K,qR⟩:=aT XD EJ PX hEx hy hdd hns hsi hsI bIJ aBO kU;obtain⟨b5',aUR,aUS,aUL,c52⟩:=aM b5 aS5 aJO hIX hkx;clear nR hq1 rH hv UA hNs hNl b3Z hPs IW OC hkW XD EJ PX hEx hy hdd hns hsi hsI bIJ aBO kU b5 aS5 aJO hIX hkx;go_wp2_with fail
     refine aUL.o.mono ?_;rintro e w5 ⟨rfl,nV⟩;have z8:=aUR.o.later nV;have b52:=b5'.o.late nV;clear g0 g1 g2 g3 k0;obtain⟨g5,qA⟩:=aC wr.heap.size;rw[qA]at b52 ⊢;have GU:=aUS.o.tm nV;obtain⟨b3,o3,hla,PV,fe⟩:=IU.o.elem sO aH (0,0) bVM;subst hla;have l1:=fe 1 _ rfl;rw[←aJL.o]at l1;clear fe;have hC5:kG w5 (w.heap.size+1) 35 (svA (some ⟨b3,o3,none⟩) ln lc sat kC oM)∧kG w5 g5 28 #[.int .i64 y,.slice ua un uc,.slice ra rn rc,.slice xa xn xc]∧w5.cell? ⟨b3,o3+kx*2+1,none⟩=some (.int .i64 si):=⟨z8.bS,b52,late GU PV l1⟩;obtain⟨Ty,ff,pQ,sI,kE⟩:=oW (fun W=>kG W (w.heap.size+1) 35 (svA (some ⟨b3,o3,none⟩) ln lc sat kC oM)∧kG W g5 28 #[.int .i64 y,.slice ua un uc,.slice ra rn rc,.slice xa xn xc]∧W.cell? ⟨b3,o3+kx*2+1,none⟩=some (.int .i64 si)) w5 hC5;have LG:=(bF w5.heap.size w5).drew;have O6:=z8.later LG;have hC6:=kE w5.drew ⟨hC5.1.late LG,hC5.2.1.late LG,by exact hC5.2.2⟩;have HS:=aA hC6;have PY:=GU.tm LG;have b56:=b52.late LG;have l16:w5.drew.cell? ⟨b3,o3+kx*2+1,none⟩=some (.int .i64 si):=hC5.2.2;have q0:∀s,(ff s).cell? ⟨w.heap.size+1,0,none⟩=some (.slice (some ⟨b3,o3,none⟩) ln lc):=fun s=>(sI s).1.cell rfl;have q1:∀s,(ff s).cell? ⟨g5,0,none⟩=some (.int .i64 y):=fun s=>(sI s).2.1.cell rfl;have q2:∀s,(ff s).cell? ⟨g5,1,none⟩=some (.slice ua un uc):=fun s=>(sI s).2.1.cell rfl;have q3:∀s,(ff s).cell? ⟨g5,2,none⟩=some (.slice ra rn rc):=fun s=>(sI s).2.1.cell rfl;have q4:∀s,(ff s).cell? ⟨g5,3,none⟩=some (.slice xa xn xc):=fun s=>(sI s).2.1.cell rfl;have q5:∀s,(ff s).cell? ⟨b3,o3+kx*2+1,none⟩=some (.int .i64 si):=fun s=>(sI s).2.2;obtain⟨wD,xB⟩:=aC w5.drew;rw[xB]at O6 HS PY b56 l16;have hI:=ih'.o w0 wD ns _ dd (.slice ua un uc,.slice ra rn rc,.slice xa xn xc) si O6.ws Z5.o PY JJ hgb L9.o JN.o XE.o nJ.o bVP.o (by have:=XF.o;omega) (by have:=bVN.o;omega) (by have:=aQ9.o;have:=bKS.o;have:=bD5.o;omega) hKn;simp only at hI;obtain⟨bVR,aQB,c54,OB,jV,a4A,c55,F7,LF,l1',XH,bVS⟩:=aT hC5 LG hC6 sI kE z8 b52 GU nV l1 O6 b56;obtain⟨bVT,hI',BQ⟩:=aK l16 hI PY;clear hC5 LG hC6 sI kE z8 b52 GU nV l1 O6 b56 l16 hI PY;go_wp2_with fail
     refine kR (S:=fun W=>∃s,W=ff s) aF 16 rfl ?_;rw[xB];refine jZ [0,1,2,3,4,5,6,7,8,9,10,11] 4 aF aI aF aF aF HS.o ?_;simp only[jW,aW,aX,aU,aV];iterate 12 (go_big_quiet_step (fail))
     refine wpQuiet_nil ?_;clear q0 q1 q2 q3 q4 q5 xB;refine jX 12 3 aF aF ?_;simp only[jW,aW,aX,aU,aV];go_wp2_with fail
     refine hI'.o.mono ?_;rintro e w6 ⟨rfl,bDF,hm6⟩;have EY:=XH.o.turn bDF hm6 aG aG aG aG aG;have b57:=Mv.blk hm6 bVS.o aG aG;have l17:=Mv.cell hm6 (p:=⟨b3,o3+kx*2+1,none⟩) (by show b3<_;have:=BQ.o.size;omega) (by show b3≠_;omega) (by show b3≠_;omega) bVT.o;have HS:=aA (jV.o _ ⟨EY.bS,b57,l17⟩);have HL:=fun W=>V6 y (qK K.l 2 ns 0) W;obtain⟨c2J,bCR,PE,bVU,bVV,HL'⟩:=aN bDF hm6 EY b57 l17 HL;clear bDF hm6 EY b57 l17 HL;go_wp2_with fail
     first|refine Mid.mk ⟨HS.o,?_⟩|refine Mid.mk ?_
     refine jX 13 2 aF aF ?_;simp only[jW,aW,aX,aU,aV];go_wp2_with fail
     refine(HL'.o _).mono ?_;rintro e w7 ⟨rfl,xC⟩;have TN:=PE.o.later xC;have b58:=bVU.o.late xC;have l18:=late xC (p:=⟨b3,o3+kx*2+1,none⟩) (by show b3<_;have:=BQ.o.size;have:=PE.o.mv.size;omega) bVV.o;obtain⟨HS,wV,LH,bKU,bVW⟩:=aM (jV.o _ ⟨TN.bS,b58,l18⟩) xC TN b58 l18;clear xC TN b58 l18;go_wp2_with fail
     first|refine Mid.mk ⟨HS.o,?_⟩|refine Mid.mk ?_
     refine jX 14 1 aF aF ?_;simp only[jW,aW,aX,aU,aV];go_wp2_with fail
     have c56:=LH.o.mv.size;have a81:=Sl.new w7 55 4 1 #[.int .i64 y,.int .i64 4,.int .i64 1,.int .i64 (qK K.l 2 ns 0)] (0,0) aG rfl;have ha7:=aD w7 (.cells #[.int .i64 y,.int .i64 4,.int .i64 1,.int .i64 (qK K.l 2 ns 0)] 55);have F8:=LH.o.later ha7;have b59:=bKU.o.late ha7;have l19:=late ha7 (p:=⟨b3,o3+kx*2+1,none⟩) (by show b3<_;have:=BQ.o.size;have:=PE.o.mv.size;omega) bVW.o;have HS:=aA (jV.o _ ⟨F8.bS,b59,l19⟩);have hg7:g5<w7.heap.size:=bKU.o.lt;have hC:=aBI w.heap.size (w.heap.size+2) _ [(y,4,1,qK K.l 2 ns 0)] v _ 1 1 _ F8.bl F8.ow (oV F8.ow F8.bl aH) (by have:=F8.mv.size;omega) (by simpa [fl,oF] using a81) aG (by rw[cO,bVJ,aEW];omega);obtain⟨b7G,c57,a19,bKV,bVX,OO⟩:=aN a81 ha7 F8 b59 l19 hC;clear a81 ha7 F8 b59 l19 hC;first|refine Mid.mk ⟨HS.o,?_⟩|refine Mid.mk ?_
     refine jX 15 0 aF aF ?_;simp only[jW,aW,aX,aU,aV];go_wp2_with fail
     refine OO.o.mono ?_;rintro e w8 ⟨v8,rfl,hl8,ho8,bKW,hm8⟩;have DJ:=a19.o.add hl8 ho8 hm8 aG aG aG aG aG aG;have aUT:=hm8.below (B:=w.heap.size) aG aG (fun k e=>(a19.o.ow.lt k e).1) a19.o.mv.size;have b60:=bKV.o.mv hm8 aG aG (oV a19.o.ow bKV.o aH);have l20:=aJN aUT (p:=⟨b3,o3+kx*2+1,none⟩) (by show b3<_;omega) bVX.o;have HS:=aA (jV.o _ ⟨DJ.bS,b60,l20⟩);have b7H:WIn K w w8 (rX f d.2.1 no (j+1)) (FL (MU (O1 (kK zs) K.l K.o f) (oN,sat,kC,oM) d.2.1 no (j+1)) P1) w.heap.size (w.heap.size+1) (w.heap.size+2) (dvA ta k tc (some ⟨xb,xo,none⟩) sn sc ba bn bc) (svA (some ⟨b3,o3,none⟩) ln lc sat kC oM) v8 (E1++KM f K.l d.2.1 no (j+1)):=by
      rw[aQ9.o,bVO.o,qG,a01.o,bVQ.o,←dJ];exact DJ
     obtain⟨a4V,bVY,c58,c5A,bDG,c5B,c5C,c2K,bK6⟩:=aQ DJ aUT b60 l20 b7H hl8 ho8 bKW hm8;clear DJ aUT b60 l20 b7H hl8 ho8 bKW hm8;go_wp2_with fail
     first|refine Mid.mk ⟨HS.o,?_⟩|refine Mid.mk ?_
     refine kH aF ?_;go_wp2_with fail
     go_roundw
     case rel=>exact⟨j+1,v8,by omega,by go_num,bDG⟩
     case measure=>simp[intOf];omega
    ·obtain rfl:j=sn:=by omega
     obtain⟨n2,hn2⟩:=aC (rX f d.2.1 no j);obtain⟨P2,hP2⟩:=aC (FL (MU (O1 (kK zs) K.l K.o f) (oN,sat,kC,oM) d.2.1 no j) P1);obtain⟨E2,hE2⟩:=aC (E1++KM f K.l d.2.1 no j);have hnN:n2=no+(lD (f+1) d).length:=by
      have h:=aEV f d.2.1 no;rw[NZ.o,hn2]at h;rw[h,bD5.o];omega
     rw[hn2,hP2,hE2]at hW;have hDw:FL (O1 (kK zs) K.l K.o (f+1) d no i) P=FL (U3 K.l K.o no (o9 f K.l K.o no (oN,sat,kC,oM) d)) (FL (DI K.l d.2.2 no) P2):=by
      rw[hD'.o,NZ.o,qG,qG,qG,bVK.o,hP2]
     have hEd:o9 f K.l K.o no (oN,sat,kC,oM) d=E2++DF K.l (oN,sat,kC,oM) d.2.2 no:=by
      unfold o9;rw[NZ.o,bVL.o,hE2]
     obtain⟨m,hm⟩:∃m,(o9 f K.l K.o no (oN,sat,kC,oM) d).length=m:=⟨_,rfl⟩;have OL:=k5'.o;have T9:=k6'.o;have hF:=k4'.o;rw[hm]at OL T9 hF;obtain⟨hfa,hf0,hfn⟩:=hF;obtain⟨q,hq⟩:∃q:Nat,qK K.l 2 no 0=q:=⟨(qK K.l 2 no 0).toNat,by omega⟩;rw[hq,cB]at hfn;have d2:=hW.o.bA.cell (i:=2) rfl;obtain⟨c5D,bKX,c5E,bKY,bKZ,bDH,hm',aU8,hq'⟩:=aQ hn2 hP2 hE2 hnN hDw hEd hm hfa hq;clear hn2 hP2 hE2 hnN hDw hEd hm hfa hq;by_cases aEF:0<bn
     ·have hdc:decide ((0:Int)<bn)=true:=by simp;omega
      have hFb:=k3'.o (by rw[aBC.o];exact aEF);rw[aBC.o]at hFb;obtain⟨hba,hbf,bVZ⟩:=hFb;obtain⟨q2,rH⟩:∃q2:Nat,qK K.l 4 no 0=q2:=⟨(qK K.l 4 no 0).toNat,by omega⟩;rw[rH,cB]at bVZ;have bDI:=RY K wr n2 P2 hW.o.ws 4 no 0 hba;rw[rH]at bDI;obtain⟨c5F,L9,bL0⟩:=aK hba rH bDI;clear hba rH bDI;go_wp2_with fail
      refine bL0.o.mono ?_;rintro e w3 ⟨rfl,kT⟩;have IV:=hW.o.later kT;have LG:=(bF w3.heap.size w3).drew;have E8:=IV.later LG;have hC3:kG w3 w.heap.size 26 (dvA ta k tc sa j sc ba bn bc)∧kG w3 K.gw 91 #[.slice (some ⟨K.gb,0,none⟩) K.n K.n,.int .i64 K.o,.slice K.spa K.spn K.spc,.slice K.qa K.qn K.qc,.int .i64 n2]:=⟨IV.bA,IV.ws.blk⟩;obtain⟨Ty,ff,pQ,sI,kE⟩:=oW (fun W=>kG W w.heap.size 26 (dvA ta k tc sa j sc ba bn bc)∧kG W K.gw 91 #[.slice (some ⟨K.gb,0,none⟩) K.n K.n,.int .i64 K.o,.slice K.spa K.spn K.spc,.slice K.qa K.qn K.qc,.int .i64 n2]) w3 hC3;have HS:=aA (kE w3.drew ⟨E8.bA,E8.ws.blk⟩);have q0:∀s,(ff s).cell? ⟨w.heap.size,2,none⟩=some (.slice ba bn bc):=fun s=>(sI s).1.cell rfl;have q1:∀s,(ff s).cell? ⟨K.gw,0,none⟩=some (.slice (some ⟨K.gb,0,none⟩) K.n K.n):=fun s=>(sI s).2.cell rfl;have b24:=fun W=>a4K (P:=Tryz.prog) (T:=24) (E:=5) Tryz.underlying24 aEN K.gb K.n q2 aG W;obtain⟨wD,xB⟩:=aC w3.drew;rw[xB]at E8 HS;have bDJ:=r9.o.trans (E8.mv.below (B:=w0.heap.size) JJ hgb (fun k e=>by cases e) r9.o.size);obtain⟨w5,hr5,bDK,hm5,XI⟩:=LA E8.ws ba bn bc _ (vE.o.mono bDJ) q2 aG aG 3;have XJ:=E8.turn bDK hm5 hg1 aEX (aY _) aG aG;have HS5:=aA (kE _ ⟨XJ.bA,XJ.ws.blk⟩);clear d2;obtain⟨sM,aN2,aQB,a9N,aBL,OB,jV,c2L,c2M,aTP,c2N,a4W⟩:=aT kT IV LG E8 hC3 sI kE bDJ bDK hm5 XI XJ;clear kT IV LG E8 hC3 sI kE bDJ bDK hm5 XI XJ;go_wp2_with fail
      refine kR (S:=fun W=>∃s,W=ff s) aF 10 rfl ?_;rw[xB];refine jZ [0,1,2,3,4,5,6,7,8] 1 aF aI aF aF aF HS.o ?_;simp only[jW,aW,aX,aU,aV];iterate 9 (go_big_quiet_step (fail))
      refine wpQuiet_nil ?_;clear q0 q1 xB;refine jX 9 0 aF aF ?_;simp only[jW,aW,aX,aU,aV];go_wp2_with (at_builtin;refine wpList_copy_run _ rfl _ _ _ _ rfl _ _ rfl rfl hr5 ?_)
      first|refine Mid.mk ⟨HS5.o,?_⟩|refine Mid.mk ?_
      refine kH aF ?_;clear hr5 b24 HS HS5 OB jV;have bDL:=(bF w5.heap.size w5).drew;have O6:=a4W.o.later bDL;have hC5:kG w5 w.heap.size 26 (dvA ta k tc sa j sc ba bn bc)∧kG w5 (w.heap.size+1) 35 (svA la ln lc sat kC oM):=⟨a4W.o.bA,a4W.o.bS⟩;obtain⟨Ty,ff,pQ,sI,kE⟩:=oW (fun W=>kG W w.heap.size 26 (dvA ta k tc sa j sc ba bn bc)∧kG W (w.heap.size+1) 35 (svA la ln lc sat kC oM)) w5 hC5;have HS:=aA (kE w5.drew ⟨O6.bA,O6.bS⟩);have q0:∀s,(ff s).cell? ⟨w.heap.size,2,none⟩=some (.slice ba bn bc):=fun s=>(sI s).1.cell rfl;have q1:∀s,(ff s).cell? ⟨w.heap.size+1,1,none⟩=some (.int .i64 sat):=fun s=>(sI s).2.cell rfl;have q2_:∀s,(ff s).cell? ⟨w.heap.size+1,2,none⟩=some (.int .i64 kC):=fun s=>(sI s).2.cell rfl;obtain⟨wE,hwE⟩:=aC w5.drew;rw[hwE]at O6 HS;obtain⟨c2O,XH,bVR,OB,jV⟩:=aM bDL O6 hC5 sI kE;clear bDL O6 hC5 sI kE;go_wp2_with fail
      refine kR (S:=fun W=>∃s,W=ff s) aF 13 rfl ?_;rw[hwE];refine jZ [0,1,2,3,5,6,7,8,9] 4 aF aI aF aF aF HS.o ?_;simp only[jW,aW,aX,aU,aV];iterate 9 (go_big_quiet_step (fail))
      refine wpQuiet_nil ?_;clear q0 q1 q2_ hwE;refine jX 4 3 aF aF ?_;simp only[jW,aW,aX,aU,aV];go_wp2_with fail
      refine(V6 sat q2 _).mono ?_;rintro e w7 ⟨rfl,xC⟩;have EY:=XH.o.later xC;obtain⟨HS,wV,PE⟩:=aK (jV.o _ ⟨EY.bA,EY.bS⟩) xC EY;clear xC EY;go_wp2_with fail
      first|refine Mid.mk ⟨HS.o,?_⟩|refine Mid.mk ?_
      refine jX 10 2 aF aF ?_;simp only[jW,aW,aX,aU,aV];go_wp2_with fail
      refine(V6 kC bn _).mono ?_;rintro e w8 ⟨rfl,rW⟩;have TN:=PE.o.later rW;obtain⟨HS,ZU,LH⟩:=aK (jV.o _ ⟨TN.bA,TN.bS⟩) rW TN;clear rW TN;go_wp2_with fail
      first|refine Mid.mk ⟨HS.o,?_⟩|refine Mid.mk ?_
      refine jX 11 1 aF aF ?_;simp only[jW,aW,aX,aU,aV];go_wp2_with fail
      have c5G:=LH.o.mv.size;have a81:=Sl.new w8 55 4 2 #[.int .i64 sat,.int .i64 4,.int .i64 1,.int .i64 q2,.int .i64 kC,.int .i64 4,.int .i64 1,.int .i64 bn] (0,0) aG rfl;have ha8:=aD w8 (.cells #[.int .i64 sat,.int .i64 4,.int .i64 1,.int .i64 q2,.int .i64 kC,.int .i64 4,.int .i64 1,.int .i64 bn] 55);have F8:=LH.o.later ha8;have HS:=aA (jV.o _ ⟨F8.bA,F8.bS⟩);have c5H:E2.length≤100000:=by
       have h1:=bDH.o;have h2:=hm'.o;rw[h1,cO]at h2;omega
      have hC:=aBI w.heap.size (w.heap.size+2) E2 [(sat,4,1,q2),(kC,4,1,bn)] v _ 2 2 _ F8.bl F8.ow (oV F8.ow F8.bl aH) (by have:=F8.mv.size;omega) (by simpa [fl,oF] using a81) aG aG;obtain⟨b7G,c5I,a19,OO⟩:=aL a81 ha8 F8 hC;clear a81 ha8 F8 hC;first|refine Mid.mk ⟨HS.o,?_⟩|refine Mid.mk ?_
      refine jX 12 0 aF aF ?_;simp only[jW,aW,aX,aU,aV];go_wp2_with fail
      refine OO.o.mono ?_;rintro e w9 ⟨v9,rfl,hl9,TK,bL1,hm9⟩;have DJ:=a19.o.add hl9 TK hm9 hg1 aEX hsb aG aG aG;have HS:=aA (jV.o _ ⟨DJ.bA,DJ.bS⟩);obtain⟨E3,hE3⟩:=aC (E2++ [(sat,4,1,(q2:Int)),(kC,4,1,(bn:Int))]);obtain⟨P3,hP3⟩:=aC (splice P2 q2 d.2.2);rw[hE3,hP3]at DJ;have hbE:DF K.l (oN,sat,kC,oM) d.2.2 no= [(sat,4,1,(q2:Int)),(kC,4,1,(bn:Int))]:=by unfold DF;rw[if_pos (by rw[aBC.o];exact aEF),L9.o,aBC.o]
      have hbP:DI K.l d.2.2 no= [(q2,d.2.2)]:=by unfold DI;rw[if_pos (by rw[aBC.o];exact aEF),L9.o,cB]
      have hEt:o9 f K.l K.o no (oN,sat,kC,oM) d=E3:=by rw[bDH.o,hbE,hE3]
      have hPt:FL (O1 (kK zs) K.l K.o (f+1) d no i) P=FL (U3 K.l K.o no E3) P3:=by rw[bKZ.o,hbP,hEt,b3H,hP3]
      have CY:=DJ;obtain⟨v,hv9⟩:=aC v9;rw[hv9]at CY DJ hl9 TK hm9;clear hbE hbP;obtain⟨c5J,bK2,c2P,b40,a4V,aUU,aUV,aDB,bL2,bDM⟩:=aR hl9 TK bL1 hm9 DJ hEt hPt CY hE3 hP3;clear hl9 TK bL1 hm9 DJ hEt hPt CY hE3 hP3;go_wp2_with fail
      first|refine Mid.mk ⟨HS.o,?_⟩|refine Mid.mk ?_
      refine kH aF ?_;clear HS OB jV;have hEl:E3.length=m:=by rw[←aUU.o];exact hm'.o
      have hEn:=k8'.o;have hEo:=k9'.o;rw[aUU.o]at hEn hEo;obtain⟨av,cv,rfl⟩:∃a c,v= .slice a m c:=by
       rcases aDB.o.ow.2 with ⟨rfl,h0⟩|⟨g,cap,cur,rfl,_⟩
       ·exact⟨none,0,by rw[←hEl,h0]⟩
       ·exact⟨_,_,by rw[hEl]⟩
      have v0:=aDB.o.bl.cell (i:=0) rfl;have hSr:=a9I w.heap.size E3 (.slice av m cv) w9 aDB.o.ow aG aG hEn;obtain⟨VA,XK,bDN,bDO⟩:=aL hEl hEn hEo hSr;clear hEl hEn hEo hSr;go_wp2_with fail
      refine bDO.o.mono ?_;rintro e w2 ⟨rfl,C9,MB⟩;have z8:=aDB.o.sort C9 MB hg1 aEX hsb aG;have hSp:=RY K w2 n2 P3 z8.ws 2 no 0 aU8.o;rw[hq'.o]at hSp;clear v0;obtain⟨KH,aQC,a4A,bDP⟩:=aL C9 MB z8 hSp;clear C9 MB z8 hSp;go_wp2_with fail
      refine bDP.o.mono ?_;rintro e w3 ⟨rfl,kT⟩;have IV:=a4A.o.later kT;have LG:=(bF w3.heap.size w3).drew;have E8:=IV.later LG;obtain⟨Ty,ff,pQ,sI,kE⟩:=oW (fun W=>kG W (w.heap.size+2) 154 #[.slice av m cv]) w3 IV.bl;have HS:=aA (kE w3.drew E8.bl);have q0:=fun s=>(sI s).cell (i:=0) rfl;have CZ:mH (m:Int) 2 K.o=true:=by
       unfold mH;rcases k7'.o with h|h <;> rw[h] <;> simp[wS] <;> omega
      have GY:=rQ CZ;obtain⟨wD,xB⟩:=aC w3.drew;rw[xB]at E8 HS;have hPp:=HY K wD n2 P3 E8.ws q m 2 CZ (by rw[GY];decide) (by rw[GY,show(2:Int).toNat=2 from rfl];omega);obtain⟨P4,hP4⟩:=aC (splice P3 q (lQ m 2 K.o));rw[hP4]at hPp;have hPh:FL (U3 K.l K.o no E3) P3=FL (rowP q K.o (sortE E3) m) P4:=by
       unfold U3;rw[hq'.o,cB,VA.o,←hP4];rfl
      rw[hPh]at aUV;obtain⟨sM,aN2,aQB,a9N,OB,jV,a8V,a7Y,a4X,bW0,bW1⟩:=aS kT IV LG E8 sI kE CZ GY hPp hP4 hPh;clear kT IV LG E8 sI kE CZ GY hPp hP4 hPh;go_wp2_with fail
      refine kR (S:=fun W=>∃s,W=ff s) aF 7 rfl ?_;rw[xB];refine jZ [0,1,2,3,4,5] 1 aF aI aF aF aF HS.o ?_;simp only[jW,aW,aX,aU,aV];iterate 6 (go_big_quiet_step (fail))
      refine wpQuiet_nil ?_;clear q0 xB;refine jX 6 0 aF aF ?_;simp only[jW,aW,aX,aU,aV];go_wp2_with fail
      refine a4X.o.mono ?_;rintro e w4 ⟨rfl,aJP,TJ⟩;have XJ:=a9N.o.turn aJP TJ hg1 aEX (aY _) aG aG;have HS:=aA (jV.o _ XJ.bl);have v0:=XJ.bl.cell (i:=0) rfl;obtain⟨bL3,a8D,a4W⟩:=aK aJP TJ XJ;clear aJP TJ XJ;go_wp2_with fail
      first|refine Mid.mk ⟨HS.o,?_⟩|refine Mid.mk ?_
      refine kH aF ?_;go_wp2_with fail
      clear v0;go_loopw [128] (fun iv wr=>∃(i2:Nat),i2≤m∧iv= .int .i64 i2∧Hid (WIn K w wr n2 (FL (rowP q K.o (sortE E3) i2) P4) w.heap.size (w.heap.size+1) (w.heap.size+2) (dvA ta k tc sa j sc ba bn bc) (svA la ln lc sat kC oM) (.slice av m cv) (sortE E3))) (fun iv _=>m - (intOf iv).toNat)
      case atStart=>exact⟨0,by omega,rfl,a4W⟩
      case round=>
       obtain⟨i2,hi2,rfl,hW⟩:=hrel;by_cases kY:i2<m
       ·have hil:(i2:Int)<(m:Int):=by omega
        have xR:IntKind.i64.wrap ((i2:Int)+1)=i2+1:=by rw[bJ];omega
        have hw2:IntKind.i64.wrap (12*(i2:Int))=12*i2:=by rw[bJ];omega
        have xE:IntKind.i64.wrap ((q:Int)+2)=q+2:=by rw[bJ];omega
        have hw4:IntKind.i64.wrap ((q:Int)+2+12*i2)=((q+2+12*i2:Nat):Int):=by rw[bJ];omega
        have aJQ:=(Sl.kZ hW.o.ow).1;obtain⟨b6,o6,rfl,bL4,fe⟩:=aJQ.elem nT aH TM kY;have hrs:=rowP_step q K.o (sortE E3) i2;have hxo:JZ ((sortE E3).getD i2 TM) K.o=true:=by
         have h1:i2<(sortE E3).length:=by rw[yO,VA.o];exact kY
         rw[kF h1];exact bDN.o _ ((iM _ _).subset (bP h1))
        obtain⟨⟨x0,x1,x2,x3⟩,hx⟩:∃x,(sortE E3).getD i2 TM=x:=⟨_,rfl⟩;rw[hx]at fe hrs hxo;have f0:=fe 0 _ rfl;have f1:=fe 1 _ rfl;have f2:=fe 2 _ rfl;have f3:=fe 3 _ rfl;simp only[dB]at f0 f1 f2 f3;clear fe;have kU:=aD wr (.cells #[.int .i64 x0,.int .i64 x1,.int .i64 x2,.int .i64 x3] 55);have b8:=kG.new wr 55 #[.int .i64 x0,.int .i64 x1,.int .i64 x2,.int .i64 x3];have O6:=hW.o.later kU;have hwr:=hW.o.mv.size;obtain⟨g8,hg8⟩:=aC wr.heap.size;obtain⟨W6,hW6⟩:=aC (wr.alloc (.cells #[.int .i64 x0,.int .i64 x1,.int .i64 x2,.int .i64 x3] 55));rw[hW6]at b8 O6 kU;rw[hg8]at b8;obtain⟨bL5,bDQ,bDR,TV,qR,b8',XH,aUW⟩:=aP aJQ hrs hxo hx kU b8 O6 hW6;clear aJQ hrs hxo hx kU b8 O6 hW6;go_wp2_with fail
        rw[aUW.o];clear f0 f1 f2 f3;have hCw:kG W6 g8 55 #[.int .i64 x0,.int .i64 x1,.int .i64 x2,.int .i64 x3]∧kG W6 K.gw 91 #[.slice (some ⟨K.gb,0,none⟩) K.n K.n,.int .i64 K.o,.slice K.spa K.spn K.spc,.slice K.qa K.qn K.qc,.int .i64 n2]:=⟨b8'.o,XH.o.ws.blk⟩;have aBP:=(bF W6.heap.size W6).drew;obtain⟨Ty,ff,pQ,sI,kE⟩:=oW (fun W=>kG W g8 55 #[.int .i64 x0,.int .i64 x1,.int .i64 x2,.int .i64 x3]∧kG W K.gw 91 #[.slice (some ⟨K.gb,0,none⟩) K.n K.n,.int .i64 K.o,.slice K.spa K.spn K.spc,.slice K.qa K.qn K.qc,.int .i64 n2]) W6 hCw;have EY:=XH.o.later aBP;have b88:=b8'.o.late aBP;have HS:=aA (kE W6.drew ⟨b88,EY.ws.blk⟩);have q0:∀s,(ff s).cell? ⟨g8,0,none⟩=some (.int .i64 x0):=fun s=>(sI s).1.cell rfl;have q1:∀s,(ff s).cell? ⟨g8,1,none⟩=some (.int .i64 x1):=fun s=>(sI s).1.cell rfl;have q2:∀s,(ff s).cell? ⟨g8,2,none⟩=some (.int .i64 x2):=fun s=>(sI s).1.cell rfl;have q3:∀s,(ff s).cell? ⟨g8,3,none⟩=some (.int .i64 x3):=fun s=>(sI s).1.cell rfl;have q4:∀s,(ff s).cell? ⟨K.gw,1,none⟩=some (.int .i64 K.o):=fun s=>(sI s).2.cell rfl;obtain⟨wE,hwE⟩:=aC W6.drew;rw[hwE]at EY b88 HS;have hEw:=a4O x0 x1 x2 x3 K.o wE bDR.o;obtain⟨bW2,bL6,OB,jV,PE,b41,bDS⟩:=aO hCw aBP sI kE EY b88 hEw;clear hCw aBP sI kE EY b88 hEw;refine kR (S:=fun W=>∃s,W=ff s) aF 12 rfl ?_;rw[hwE];refine jZ [0,1,2,3,4,5] 6 aF aI aF aF aF HS.o ?_;simp only[jW,aW,aX,aU,aV];iterate 6 (go_big_quiet_step (fail))
        refine wpQuiet_nil ?_;refine jX 6 5 aF aF ?_;simp only[jW,aW,aX,aU,aV];go_wp2_with fail
        refine bDS.o.mono ?_;rintro e w7 ⟨a7,c7,rfl,ho7,xC⟩;have TN:=PE.o.later xC;have b89:=b41.o.late xC;obtain⟨HS,bDT,wV,LH,aBQ⟩:=aM (jV.o _ ⟨b89,TN.ws.blk⟩) ho7 xC TN b89;clear ho7 xC TN b89;go_wp2_with fail
        first|refine Mid.mk ⟨HS.o,?_⟩|refine Mid.mk ?_
        refine jZ [7,8,9,10,11] 0 aF aI aF aF aF HS.o ?_;simp only[jW,aW,aX,aU,aV];iterate 5 (go_big_quiet_step (fail))
        refine wpQuiet_nil ?_;refine kH aF ?_;clear q0 q1 q2 q3 q4 hwE;have c0:=LH.o.ws.blk.cell (i:=0) rfl;have b24:=fun W=>a4K (P:=Tryz.prog) (T:=24) (E:=5) Tryz.underlying24 aEN K.gb K.n (q+2+12*i2) aG W;obtain⟨w9,hr9,VB,hm9,a4Y⟩:=LA LH.o.ws a7 12 c7 _ (Sl.kZ bDT.o).1 (q+2+12*i2) aH aG 3;have F8:=LH.o.turn VB hm9 hg1 aEX (aY _) aG aG;have DJ:WIn K w w9 n2 (FL (rowP q K.o (sortE E3) (i2+1)) P4) w.heap.size (w.heap.size+1) (w.heap.size+2) (dvA ta k tc sa j sc ba bn bc) (svA la ln lc sat kC oM) (.slice (some ⟨b6,o6,none⟩) m cv) (sortE E3):=by
         rw[bDQ.o,qG];exact F8
        obtain⟨aUX,b40,aEZ,a19,a4V⟩:=aM VB hm9 a4Y F8 DJ;clear VB hm9 a4Y F8 DJ;go_wp2_with (at_builtin;refine wpList_copy_run _ rfl _ _ _ _ rfl _ _ rfl rfl hr9 ?_)
        go_roundw
        case rel=>exact⟨i2+1,by omega,by go_num,a4V⟩
        case measure=>simp[intOf];omega
       ·obtain rfl:i2=m:=by omega
        go_wp2_with fail
        go_ret;refine⟨by rw[hq'.o];rfl,?_,hW.o.mv⟩;rw[aUV.o,←bKY.o];exact hW.o.ws
     ·have hdc:decide ((0:Int)<bn)=false:=by simp;omega
      obtain⟨E3,hE3⟩:=aC E2;have hbE:DF K.l (oN,sat,kC,oM) d.2.2 no= []:=by unfold DF;rw[if_neg (by rw[aBC.o];exact aEF)]
      have hbP:DI K.l d.2.2 no= []:=by unfold DI;rw[if_neg (by rw[aBC.o];exact aEF)]
      have hEt:o9 f K.l K.o no (oN,sat,kC,oM) d=E3:=by rw[bDH.o,hbE,dU,hE3]
      obtain⟨P3,hP3⟩:=aC P2;have hPt:FL (O1 (kK zs) K.l K.o (f+1) d no i) P=FL (U3 K.l K.o no E3) P3:=by rw[bKZ.o,hbP,hEt,←hP3];rfl
      rw[hE3,hP3]at hW;have CY:=hW.o;clear hbE hbP;obtain⟨aUU,aUV,aDB,bL2,bDM⟩:=aM hEt hPt CY hE3 hP3;clear hEt hPt CY hE3 hP3;have hEl:E3.length=m:=by rw[←aUU.o];exact hm'.o
      have hEn:=k8'.o;have hEo:=k9'.o;rw[aUU.o]at hEn hEo;obtain⟨av,cv,rfl⟩:∃a c,v= .slice a m c:=by
       rcases aDB.o.ow.2 with ⟨rfl,h0⟩|⟨g,cap,cur,rfl,_⟩
       ·exact⟨none,0,by rw[←hEl,h0]⟩
       ·exact⟨_,_,by rw[hEl]⟩
      have v0:=aDB.o.bl.cell (i:=0) rfl;have hSr:=a9I w.heap.size E3 (.slice av m cv) wr aDB.o.ow aG aG hEn;obtain⟨VA,XK,bDN,bDO⟩:=aL hEl hEn hEo hSr;clear hEl hEn hEo hSr;go_wp2_with fail
      refine bDO.o.mono ?_;rintro e w2 ⟨rfl,C9,MB⟩;have z8:=aDB.o.sort C9 MB hg1 aEX hsb aG;have hSp:=RY K w2 n2 P3 z8.ws 2 no 0 aU8.o;rw[hq'.o]at hSp;clear v0;obtain⟨KH,aQC,a4A,bDP⟩:=aL C9 MB z8 hSp;clear C9 MB z8 hSp;go_wp2_with fail
      refine bDP.o.mono ?_;rintro e w3 ⟨rfl,kT⟩;have IV:=a4A.o.later kT;have LG:=(bF w3.heap.size w3).drew;have E8:=IV.later LG;obtain⟨Ty,ff,pQ,sI,kE⟩:=oW (fun W=>kG W (w.heap.size+2) 154 #[.slice av m cv]) w3 IV.bl;have HS:=aA (kE w3.drew E8.bl);have q0:=fun s=>(sI s).cell (i:=0) rfl;have CZ:mH (m:Int) 2 K.o=true:=by
       unfold mH;rcases k7'.o with h|h <;> rw[h] <;> simp[wS] <;> omega
      have GY:=rQ CZ;obtain⟨wD,xB⟩:=aC w3.drew;rw[xB]at E8 HS;have hPp:=HY K wD n2 P3 E8.ws q m 2 CZ (by rw[GY];decide) (by rw[GY,show(2:Int).toNat=2 from rfl];omega);obtain⟨P4,hP4⟩:=aC (splice P3 q (lQ m 2 K.o));rw[hP4]at hPp;have hPh:FL (U3 K.l K.o no E3) P3=FL (rowP q K.o (sortE E3) m) P4:=by
       unfold U3;rw[hq'.o,cB,VA.o,←hP4];rfl
      rw[hPh]at aUV;obtain⟨sM,aN2,aQB,a9N,OB,jV,a8V,a7Y,a4X,bW0,bW1⟩:=aS kT IV LG E8 sI kE CZ GY hPp hP4 hPh;clear kT IV LG E8 sI kE CZ GY hPp hP4 hPh;go_wp2_with fail
      refine kR (S:=fun W=>∃s,W=ff s) aF 7 rfl ?_;rw[xB];refine jZ [0,1,2,3,4,5] 1 aF aI aF aF aF HS.o ?_;simp only[jW,aW,aX,aU,aV];iterate 6 (go_big_quiet_step (fail))
      refine wpQuiet_nil ?_;clear q0 xB;refine jX 6 0 aF aF ?_;simp only[jW,aW,aX,aU,aV];go_wp2_with fail
      refine a4X.o.mono ?_;rintro e w4 ⟨rfl,aJP,TJ⟩;have XJ:=a9N.o.turn aJP TJ hg1 aEX (aY _) aG aG;have HS:=aA (jV.o _ XJ.bl);have v0:=XJ.bl.cell (i:=0) rfl;obtain⟨bL3,a8D,a4W⟩:=aK aJP TJ XJ;clear aJP TJ XJ;go_wp2_with fail
      first|refine Mid.mk ⟨HS.o,?_⟩|refine Mid.mk ?_
      refine kH aF ?_;go_wp2_with fail
      clear v0;go_loopw [128] (fun iv wr=>∃(i2:Nat),i2≤m∧iv= .int .i64 i2∧Hid (WIn K w wr n2 (FL (rowP q K.o (sortE E3) i2) P4) w.heap.size (w.heap.size+1) (w.heap.size+2) (dvA ta k tc sa j sc ba bn bc) (svA la ln lc sat kC oM) (.slice av m cv) (sortE E3))) (fun iv _=>m - (intOf iv).toNat)
      case atStart=>exact⟨0,by omega,rfl,a4W⟩
      case round=>
       obtain⟨i2,hi2,rfl,hW⟩:=hrel;by_cases kY:i2<m
       ·have hil:(i2:Int)<(m:Int):=by omega
        have xR:IntKind.i64.wrap ((i2:Int)+1)=i2+1:=by rw[bJ];omega
        have hw2:IntKind.i64.wrap (12*(i2:Int))=12*i2:=by rw[bJ];omega
        have xE:IntKind.i64.wrap ((q:Int)+2)=q+2:=by rw[bJ];omega
        have hw4:IntKind.i64.wrap ((q:Int)+2+12*i2)=((q+2+12*i2:Nat):Int):=by rw[bJ];omega
        have aJQ:=(Sl.kZ hW.o.ow).1;obtain⟨b6,o6,rfl,bL4,fe⟩:=aJQ.elem nT aH TM kY;have hrs:=rowP_step q K.o (sortE E3) i2;have hxo:JZ ((sortE E3).getD i2 TM) K.o=true:=by
         have h1:i2<(sortE E3).length:=by rw[yO,VA.o];exact kY
         rw[kF h1];exact bDN.o _ ((iM _ _).subset (bP h1))
        obtain⟨⟨x0,x1,x2,x3⟩,hx⟩:∃x,(sortE E3).getD i2 TM=x:=⟨_,rfl⟩;rw[hx]at fe hrs hxo;have f0:=fe 0 _ rfl;have f1:=fe 1 _ rfl;have f2:=fe 2 _ rfl;have f3:=fe 3 _ rfl;simp only[dB]at f0 f1 f2 f3;clear fe;have kU:=aD wr (.cells #[.int .i64 x0,.int .i64 x1,.int .i64 x2,.int .i64 x3] 55);have b8:=kG.new wr 55 #[.int .i64 x0,.int .i64 x1,.int .i64 x2,.int .i64 x3];have O6:=hW.o.later kU;have hwr:=hW.o.mv.size;obtain⟨g8,hg8⟩:=aC wr.heap.size;obtain⟨W6,hW6⟩:=aC (wr.alloc (.cells #[.int .i64 x0,.int .i64 x1,.int .i64 x2,.int .i64 x3] 55));rw[hW6]at b8 O6 kU;rw[hg8]at b8;obtain⟨bL5,bDQ,bDR,TV,qR,b8',XH,aUW⟩:=aP aJQ hrs hxo hx kU b8 O6 hW6;clear aJQ hrs hxo hx kU b8 O6 hW6;go_wp2_with fail
        rw[aUW.o];clear f0 f1 f2 f3;have hCw:kG W6 g8 55 #[.int .i64 x0,.int .i64 x1,.int .i64 x2,.int .i64 x3]∧kG W6 K.gw 91 #[.slice (some ⟨K.gb,0,none⟩) K.n K.n,.int .i64 K.o,.slice K.spa K.spn K.spc,.slice K.qa K.qn K.qc,.int .i64 n2]:=⟨b8'.o,XH.o.ws.blk⟩;have aBP:=(bF W6.heap.size W6).drew;obtain⟨Ty,ff,pQ,sI,kE⟩:=oW (fun W=>kG W g8 55 #[.int .i64 x0,.int .i64 x1,.int .i64 x2,.int .i64 x3]∧kG W K.gw 91 #[.slice (some ⟨K.gb,0,none⟩) K.n K.n,.int .i64 K.o,.slice K.spa K.spn K.spc,.slice K.qa K.qn K.qc,.int .i64 n2]) W6 hCw;have EY:=XH.o.later aBP;have b88:=b8'.o.late aBP;have HS:=aA (kE W6.drew ⟨b88,EY.ws.blk⟩);have q0:∀s,(ff s).cell? ⟨g8,0,none⟩=some (.int .i64 x0):=fun s=>(sI s).1.cell rfl;have q1:∀s,(ff s).cell? ⟨g8,1,none⟩=some (.int .i64 x1):=fun s=>(sI s).1.cell rfl;have q2:∀s,(ff s).cell? ⟨g8,2,none⟩=some (.int .i64 x2):=fun s=>(sI s).1.cell rfl;have q3:∀s,(ff s).cell? ⟨g8,3,none⟩=some (.int .i64 x3):=fun s=>(sI s).1.cell rfl;have q4:∀s,(ff s).cell? ⟨K.gw,1,none⟩=some (.int .i64 K.o):=fun s=>(sI s).2.cell rfl;obtain⟨wE,hwE⟩:=aC W6.drew;rw[hwE]at EY b88 HS;have hEw:=a4O x0 x1 x2 x3 K.o wE bDR.o;obtain⟨bW2,bL6,OB,jV,PE,b41,bDS⟩:=aO hCw aBP sI kE EY b88 hEw;clear hCw aBP sI kE EY b88 hEw;refine kR (S:=fun W=>∃s,W=ff s) aF 12 rfl ?_;rw[hwE];refine jZ [0,1,2,3,4,5] 6 aF aI aF aF aF HS.o ?_;simp only[jW,aW,aX,aU,aV];iterate 6 (go_big_quiet_step (fail))
        refine wpQuiet_nil ?_;refine jX 6 5 aF aF ?_;simp only[jW,aW,aX,aU,aV];go_wp2_with fail
        refine bDS.o.mono ?_;rintro e w7 ⟨a7,c7,rfl,ho7,xC⟩;have TN:=PE.o.later xC;have b89:=b41.o.late xC;obtain⟨HS,bDT,wV,LH,aBQ⟩:=aM (jV.o _ ⟨b89,TN.ws.blk⟩) ho7 xC TN b89;clear ho7 xC TN b89;go_wp2_with fail
        first|refine Mid.mk ⟨HS.o,?_⟩|refine Mid.mk ?_
        refine jZ [7,8,9,10,11] 0 aF aI aF aF aF HS.o ?_;simp only[jW,aW,aX,aU,aV];iterate 5 (go_big_quiet_step (fail))
        refine wpQuiet_nil ?_;refine kH aF ?_;clear q0 q1 q2 q3 q4 hwE;have c0:=LH.o.ws.blk.cell (i:=0) rfl;have b24:=fun W=>a4K (P:=Tryz.prog) (T:=24) (E:=5) Tryz.underlying24 aEN K.gb K.n (q+2+12*i2) aG W;obtain⟨w9,hr9,VB,hm9,a4Y⟩:=LA LH.o.ws a7 12 c7 _ (Sl.kZ bDT.o).1 (q+2+12*i2) aH aG 3;have F8:=LH.o.turn VB hm9 hg1 aEX (aY _) aG aG;have DJ:WIn K w w9 n2 (FL (rowP q K.o (sortE E3) (i2+1)) P4) w.heap.size (w.heap.size+1) (w.heap.size+2) (dvA ta k tc sa j sc ba bn bc) (svA la ln lc sat kC oM) (.slice (some ⟨b6,o6,none⟩) m cv) (sortE E3):=by
         rw[bDQ.o,qG];exact F8
        obtain⟨aUX,b40,aEZ,a19,a4V⟩:=aM VB hm9 a4Y F8 DJ;clear VB hm9 a4Y F8 DJ;go_wp2_with (at_builtin;refine wpList_copy_run _ rfl _ _ _ _ rfl _ _ rfl rfl hr9 ?_)
        go_roundw
        case rel=>exact⟨i2+1,by omega,by go_num,a4V⟩
        case measure=>simp[intOf];omega
       ·obtain rfl:i2=m:=by omega
        go_wp2_with fail
        go_ret;refine⟨by rw[hq'.o];rfl,?_,hW.o.mv⟩;rw[aUV.o,←bKY.o];exact hW.o.ws
theorem aUY (zs:List Shz) (K:Wc):∀f,PW zs K f:=by
 intro f;induction f with
 |zero=>intro w0 w no P d dv i _ _ _ _ _ hd;exact hd.elim
 |succ f ih=>exact b3T zs K f ih
