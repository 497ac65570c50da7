import Derived.Test.YtceclmpmpldmlaaGreatCx20
set_option linter.unusedSimpArgs false
set_option linter.unusedVariables false
namespace Go.Proofs.YtceclmpmpldmlaaGreat
open Go.RowKit Tt
abbrev dvA (ta:Option Addr) (tn tc:Nat) (sa:Option Addr) (sn sc:Nat) (ba:Option Addr) (bn bc:Nat):Array Value:=#[.slice ta tn tc,.slice sa sn sc,.slice ba bn bc]
abbrev svA (la:Option Addr) (ln lc:Nat) (sat jG lV:Int):Array Value:=#[.slice la ln lc,.int .i64 sat,.int .i64 jG,.int .i64 lV]
def PW (zs:List QN) (K:Wc) (f:Nat):Prop:=∀(w0 w:World) (no:Int) (P:List Int) (d:jR f) (dv:Dz) (i:Nat),P7 K w no P→ShR w0 K.qa K.qn K.qc zs→Below w0.heap.size w0 w→w0.heap.size≤K.gw→w0.heap.size≤K.gb→wH w0 f d dv→lN f d→BJ f d→nO (jP zs)=true→
 okW (jP zs) K.l K.n K.o f d no i→i<K.qn→0≤no→no+(kQ f d).length<1000000→K.n≤1000000000000→
 Calls Tryz.prog 43 #[.pointer (some ⟨K.gw,0,none⟩),.agg #[dv.1,dv.2.1,dv.2.2],.int .i64 i] w fun e w'=>e= .returned (.int .i64 (oV K.l 2 no 0))∧P7 K w' (no+(kQ f d).length) (tO (ML (jP zs) K.l K.o f d no i) P)∧Mv K.gw K.gb tZ tZ w w'
set_option maxRecDepth 20000 in
set_option maxHeartbeats 8000000 in
theorem aZ4 (zs:List QN) (K:Wc) (f:Nat) (ih:PW zs K f):PW zs K (f+1):=by
 intro w0 w no P d dv i hw KN pW WO hgb hd hs rU D5 hW hi qW aQZ hKn;have qJ:=KN.len;obtain⟨ta,tn,tc,ts,sa,sn,sc,ds,ba,bn,bc,rfl,A8,G5,nL,oQ,nR,vF⟩:=hd;obtain⟨h1,h2,h3,h4⟩:=hs;obtain⟨hy1,hy2,hy3⟩:=rU;have TW:d.1.length=tn:=by rw[G5,bL];exact A8.len
 have AR:d.2.1.length=sn:=by rw[←oQ];exact nL.rP mJ aH
 have pF:d.2.2.length=bn:=vF.nU;have a7Q:tn≤500:=by omega
 have a6D:sn≤500:=by omega
 have aGO:bn≤1000000:=by omega
 have LX:=KN.row.max;have BX:=KN.row.le;have WQ:(jP zs).getD i mD=(zs.getD i sJ).2:=qL (by rw[qJ];exact hi);have F8:=fun t=>V6 (L:=jP zs) (i:=i) (t:=t) D5 (by unfold jP;rw[bL,qJ];exact hi);have a0J:(jP zs).length=K.qn:=by unfold jP;rw[bL];exact qJ
 have hD:=a7V (jP zs) K.l K.o f d no i;have hfl:(kQ (f+1) d).length=(lH f d.2.1).length+1:=by rw[vO];rfl
 obtain⟨k1,k2,k3,k4,k5,k6,k7,k8,k9⟩:=VD hW;have hel:=PG f K.l K.o no ((jP zs).getD (i:Int).toNat mD) d;rw[bM]at hD k2 k4 k5 k6 k8 k9 hel;rw[TW,AR,pF]at hel;have LC:=KN.at hi;obtain⟨b,o,hqa,lC,fe⟩:=KN.row.elem qD aH sJ hi;obtain⟨⟨⟨la,ln,lc⟩,⟨lS,sat,jG,lV⟩⟩,hz⟩:∃z,zs.getD i sJ=z:=⟨_,rfl⟩;rw[hz]at fe WQ LC;simp only at WQ LC;rw[WQ]at hD k2 k4 k5 k6 k8 k9 F8 hel;have f0:=late pW lC (fe 0 _ rfl);have f1:=late pW lC (fe 1 _ rfl);have f2:=late pW lC (fe 2 _ rfl);have f3:=late pW lC (fe 3 _ rfl);simp only[bU]at f0 f1 f2 f3;clear fe;have yJ:(i:Int)<(K.qn:Int):=by omega
 have xH:(0:Int)≤(i:Int):=by omega
 have a2U:b<w.heap.size:=cK lC pW.size;have kD:=hw.ne_of;have hwn:=aB (no+1) aG;obtain⟨hg1,aCZ⟩:=kD;have hsb:=hw.aCO;have c0:=hw.blk.cell (i:=0) rfl;have c3:=hw.blk.cell (i:=3) rfl;have c4:=hw.blk.cell (i:=4) rfl;rw[hqa]at c3;have bA:=jW.new w 26 #[.slice ta tn tc,.slice sa sn sc,.slice ba bn bc];obtain⟨W1,pR⟩:=aC (w.alloc (.cells #[.slice ta tn tc,.slice sa sn sc,.slice ba bn bc] 26));have jY:=aD w (.cells #[.slice ta tn tc,.slice sa sn sc,.slice ba bn bc] 26);have IY:(w.alloc (.cells #[.slice ta tn tc,.slice sa sn sc,.slice ba bn bc] 26)).heap.size=w.heap.size+1:=by simp
 rw[pR]at bA jY IY;have sS:=hw.later jY;obtain⟨Ty,ff,oJ,jN,jK⟩:=kE W1;obtain⟨HS,HD⟩:=aJ (jK _ ((aY _ _).drew)) ((aY W1.heap.size W1).drew);have YF:b<W1.heap.size:=by omega
 have q3:=fun s=>(sS.blk.late (jN s)).cell (i:=3) rfl;have q4:=fun s=>(sS.blk.late (jN s)).cell (i:=4) rfl;have r0:∀s,(ff s).cell? ⟨b,o+i*4,none⟩=some (.slice la ln lc):=fun s=>late (jN s) YF (late jY a2U f0);have r1:∀s,(ff s).cell? ⟨b,o+i*4+1,none⟩=some (.int .i64 sat):=fun s=>late (jN s) YF (late jY a2U f1);have r2:∀s,(ff s).cell? ⟨b,o+i*4+2,none⟩=some (.int .i64 jG):=fun s=>late (jN s) YF (late jY a2U f2);have r3:∀s,(ff s).cell? ⟨b,o+i*4+3,none⟩=some (.int .i64 lV):=fun s=>late (jN s) YF (late jY a2U f3);rw[hqa]at q3;clear c0 c3 c4 f0 f1 f2 f3;obtain⟨hw',a0K,lF,D8,CW,tX,sH,oW,tL,h4',ih',ED⟩:=aT hw KN pW A8 G5 nL oQ nR vF h4 ih D5;obtain⟨mX,V5,rR,DY,bC9,NY,YZ,hD',a9N,k1',k2',k3'⟩:=aT qJ TW AR pF WQ F8 a0J hD hfl k1 k2 k3;obtain⟨k4',k5',k6',k7',k8',k9',yR,AQ,bOM,aZ5,aZ6,bFR⟩:=aT k4 k5 k6 k7 k8 k9 LC hz hqa hy1 hy2 hy3;obtain⟨a97,bA',I5,kR,b5M,jH,jF,y8⟩:=aP hel bA hW jY sS jN jK pR;clear hw KN pW A8 G5 nL oQ nR vF h4 ih D5 qJ TW AR pF WQ F8 a0J hD hfl k1 k2 k3 k4 k5 k6 k7 k8 k9 LC hz hqa hy1 hy2 hy3 hel bA hW jY sS jN jK pR;go_enter Tryz.func43,Tryz.ntmps43;go_wp2_with fail
 rw[y8.o];refine kM (S:=fun W=>∃s,W=ff s) aF 14 rfl ?_;refine jS [0,1,2,3,4,5,6,7,8,9,10] 3 aF aI aF aF aF HS.o ?_;simp only[jI,aW,aX,aU,aV];iterate 11 (go_big_quiet_step (fail))
 refine wpQuiet_nil ?_;obtain⟨wD,qF⟩:=aC W1.drew;rw[qF]at HS HD ⊢;have hsD:wD.heap.size=w.heap.size+1:=by rw[←qF];exact IY
 have hA:=HD.o;clear qF q3 q4 r0 r1 r2 r3;refine jJ 11 2 aF aF ?_;simp only[jI,aW,aX,aU,aV];go_wp2_with fail
 have bS:=jW.new wD 35 #[.slice none 0 0,.int .i64 0,.int .i64 0,.int .i64 0];have l9:=hA.trans ((aD wD (.cells #[.slice none 0 0,.int .i64 0,.int .i64 0,.int .i64 0] 35)).mono hA.size);rw[hsD]at bS;obtain⟨W2,hW2⟩:=aC (wD.alloc (.cells #[.slice none 0 0,.int .i64 0,.int .i64 0,.int .i64 0] 35));have BO:W2.heap.size=w.heap.size+2:=by rw[←hW2];simp;omega
 rw[hW2]at bS l9 ⊢;have HS:=aA (jF.o _ l9);first|refine Mid.mk ⟨HS.o,?_⟩|refine Mid.mk ?_
 refine jS [12] 1 aF aI aF aF aF HS.o ?_;simp only[jI,aW,aX,aU,aV];iterate 1 (go_big_quiet_step (fail))
 refine wpQuiet_nil ?_;have p0:=bS.cell (i:=0) rfl;have p1:=bS.cell (i:=1) rfl;have p2:=bS.cell (i:=2) rfl;have p3:=bS.cell (i:=3) rfl;have y0:=bS.frozen 0;have y1:=bS.frozen 1;have y2:=bS.frozen 2;have y3:=bS.frozen 3;obtain⟨bS',oL,bCT,hA'⟩:=aL bS l9 hW2 hA;clear bS l9 hW2 hA;refine jJ 13 0 aF aF ?_;simp only[jI,aW,aX,aU,aV];go_wp2_with fail
 have bS:=(((bS'.o.set 0 (.slice la ln lc)).set 1 (.int .i64 sat)).set 2 (.int .i64 jG)).set 3 (.int .i64 lV);have ZK:W1.heap.size≤w.heap.size+1:=by omega
 have a06:=(((oL.o.setCell (p:=⟨w.heap.size+1,0,none⟩) ZK (.slice la ln lc)).setCell (p:=⟨w.heap.size+1,1,none⟩) ZK (.int .i64 sat)).setCell (p:=⟨w.heap.size+1,2,none⟩) ZK (.int .i64 jG)).setCell (p:=⟨w.heap.size+1,3,none⟩) ZK (.int .i64 lV);obtain⟨W3,hW3⟩:∃W3,(((W2.setCell ⟨w.heap.size+1,0,none⟩ (.slice la ln lc)).setCell ⟨w.heap.size+1,1,none⟩ (.int .i64 sat)).setCell ⟨w.heap.size+1,2,none⟩ (.int .i64 jG)).setCell ⟨w.heap.size+1,3,none⟩ (.int .i64 lV)=W3:=⟨_,rfl⟩;have hs3:W3.heap.size=w.heap.size+2:=by rw[←hW3];simpa using BO
 rw[hW3]at bS a06 ⊢;have HS:=aA (jF.o _ a06);first|refine Mid.mk ⟨HS.o,?_⟩|refine Mid.mk ?_
 refine jV aF ?_;clear p0 p1 p2 p3 y0 y1 y2 y3 BO HD;have HY:=b5M.o.later a06;have bA3:=bA'.o.late a06;have c4:=HY.blk.cell (i:=4) rfl;have y4:=HY.blk.frozen 4;have qW:=P7.no HY (no+1);have hwl:=bA3.lt;have aZ7:=qW.1;have J3:=(Mv.of_below (g:=K.gw) (gt:=K.gb) (sv:=tZ) (kR.o.tm a06)).trans qW.2;have bA4:=Mv.blk qW.2 bA3 aG aG;have bS4:=Mv.blk qW.2 bS aG aG;obtain⟨W4,hW4⟩:=aC (W3.setCell ⟨K.gw,4,none⟩ (.int .i64 (no+1)));have hs4:W4.heap.size=w.heap.size+2:=by rw[←hW4];simpa using hs3
 have b6W:(W3.setCell ⟨K.gw,4,none⟩ (.int .i64 (no+1))).heap.size=w.heap.size+2:=by simpa using hs3
 rw[hW4]at aZ7 J3 bA4 bS4;have nZ:=aD W4 (.cells #[.slice none 0 0] 154);have bl:=jW.new W4 154 #[.slice none 0 0];have a6P:WIn K w (W4.alloc (.cells #[.slice none 0 0] 154)) (no+1) P w.heap.size (w.heap.size+1) (w.heap.size+2) (dvA ta tn tc sa sn sc ba bn bc) (svA la ln lc sat jG lV) tZ []:=
  ⟨aZ7.later nZ,bA4.late nZ,bS4.late nZ,by rw[←hs4];exact bl,kF _ _ _ _,J3.later nZ⟩
 obtain⟨W5,hW5⟩:=aC (W4.alloc (.cells #[.slice none 0 0] 154));rw[hW5]at a6P;have d0:=a6P.bA.cell (i:=0) rfl;rw[←hW5,←hW4]at d0;obtain⟨b1Q,bON,bS',a9O,aCV,bFS,a9P,sW,bFT,a01,a04,bOO⟩:=aT a06 hW3 bS HY bA3 hW4 hW5 qW aZ7 J3 bA4 bS4;obtain⟨xJ,bl',a81⟩:=aK nZ bl a6P;clear a06 hW3 bS HY bA3 hW4 hW5 qW aZ7 J3 bA4 bS4 nZ bl a6P;go_wp2_with fail
 rw[bFS.o,a9P.o];clear d0 b6W hs4 hs3 bS' a9O aCV bON b1Q sW bFT a01 a04 bOO xJ bl' bFS a9P bCT oL hA' y8 b5M kR bA' y4 c4;go_loopw [44] (fun iv wr=>∃(k:Nat) (v:Value),k≤tn∧iv= .int .i64 k∧Hid (WIn K w wr (no+1) (tO ((d.1.take k).flatMap (AA K.l K.o no)) P) w.heap.size (w.heap.size+1) (w.heap.size+2) (dvA ta tn tc sa sn sc ba bn bc) (svA la ln lc sat jG lV) v ((d.1.take k).map (JS K.l K.o no)))) (fun iv _=>tn - (intOf iv).toNat)
 case atStart=>exact⟨0,tZ,by omega,rfl,a81⟩
 case round=>
  obtain⟨k,v,hk,rfl,hW⟩:=hrel;by_cases kD:k<tn
  ·
   have I4:(k:Int)<(tn:Int):=by omega
   have sS:IntKind.i64.wrap ((k:Int)+1)=k+1:=by rw[bF];omega
   have lI:=lF.o.trans (hW.o.mv.below (B:=w0.heap.size) WO hgb (fun k e=>by cases e) lF.o.size);obtain⟨b2,o2,rfl,wM,f0,f1,f2,f3,rV⟩:=D8.o.at kD;have f0:=late lI wM f0;have f1:=late lI wM f1;have f2:=late lI wM f2;have f3:=late lI wM f3;have hkd:k<d.1.length:=by rw[V5.o];exact kD
   have hgx:d.1[k]=l8 (ts.getD k yL):=by
    have h1:k<ts.length:=by rw[D8.o.len];exact kD
    simp only[CW.o,dZ];rw[jO h1]
   have hpt:=a7Y K.l K.o no d.1 hkd;have het:=a7Z K.l K.o no d.1 hkd;have hk1:=k1'.o _ (bJ hkd);have a9Q:=aZ5.o _ (bJ hkd);obtain⟨⟨⟨y,t,cn,xa,xn,xc⟩,dd⟩,wO⟩:∃z,ts.getD k yL=z:=⟨_,rfl⟩;rw[wO]at f0 f1 f2 f3 rV hgx;simp only[l8]at f0 f1 f2 f3 rV hgx;rw[hgx]at hpt het hk1 a9Q;have hxn:xn≤1000000000:=by have:=rV.nU;have:=hk1.2;simp only at this;omega
   have l9:=aD wr (.cells #[.int .i64 y,.int .i64 t,.int .i64 cn,.slice xa xn xc] 74);have bk:=jW.new wr 74 #[.int .i64 y,.int .i64 t,.int .i64 cn,.slice xa xn xc];have a7A:=hW.o.later l9;have aHB:=lI.tm l9;have hV:=aH4 K _ (no+1) no _ a7A.ws y t cn xa xn xc dd w0 rV aHB WO hgb a9Q hxn hk1.1;have hwr:=hW.o.mv.size;obtain⟨KY,JF,bOP,a6J,aNQ,bOQ,bFU,NC,oL,U2,a2X,aSA⟩:=aT lI rV hgx hpt het hk1 a9Q wO l9 bk a7A aHB;have hV':=aA hV;clear lI rV hgx hpt het hk1 a9Q wO l9 bk a7A aHB hV;go_wp2_with fail
   refine hV'.o.mono ?_;rintro e w2 ⟨x0,x1,x2,x3,rfl,bMH,b6X,MV⟩;have rD:=a2X.o.turn b6X MV aG aG aG aG aG;have ha2:=aD w2 (.cells #[.int .i64 x0,.int .i64 x1,.int .i64 x2,.int .i64 x3] 55);have zB:=rD.later ha2;clear f0 f1 f2 f3;have WS:=Sl.new w2 55 4 1 #[.int .i64 x0,.int .i64 x1,.int .i64 x2,.int .i64 x3] (0,0) aG rfl;have bCA:=rD.mv.size;have hC:=a9L w.heap.size (w.heap.size+2) _ [(x0,x1,x2,x3)] v _ 1 1 _ zB.bl zB.ow (mH zB.ow zB.bl aH) (by have:=zB.mv.size;omega) (by simpa [fl,sP] using WS) aG (by simp;omega);obtain⟨bFV,bTJ,a1V,H7,aD0,bVD,aD1,MC⟩:=aP bMH b6X MV rD zB ha2 WS hC;clear bMH b6X MV rD zB ha2 WS hC;go_wp2_with fail
   refine MC.o.mono ?_;rintro e w4 ⟨v4,rfl,hl4,ET,bFW,J3⟩;have yS:=aD0.o.add hl4 ET J3 aG aG aG aG aG aG;rw[bFV.o,←aNQ.o,←l6,←a6J.o]at yS;obtain⟨QZ,aNH,ZR,bTK,a01⟩:=aM yS hl4 ET bFW J3;clear yS hl4 ET bFW J3;go_wp2_with fail
   go_roundw
   case rel=>exact⟨k+1,v4,by omega,by go_num,QZ⟩
   case measure=>simp[intOf];omega
  ·obtain rfl:k=tn:=by omega
   have rY:d.1.take k=d.1:=bK (by rw[V5.o];omega);rw[rY]at hW;obtain⟨P1,hP1⟩:=aC (tO (d.1.flatMap (AA K.l K.o no)) P);obtain⟨E1,hE1⟩:=aC (d.1.map (JS K.l K.o no));rw[hP1,hE1]at hW;have aZ8:E1.length=k:=by rw[←hE1,bL];exact V5.o
   have d1:=hW.o.bA.cell (i:=1) rfl;clear rY a81;obtain⟨aNR,b6Y⟩:=aJ hP1 hE1;clear hP1 hE1;go_wp2_with fail
   clear d1;go_loopw [59] (fun iv wr=>∃(j:Nat) (v:Value),j≤sn∧iv= .int .i64 j∧Hid (WIn K w wr (qH f d.2.1 no j) (tO (GI (ML (jP zs) K.l K.o f) (lS,sat,jG,lV) d.2.1 no j) P1) w.heap.size (w.heap.size+1) (w.heap.size+2) (dvA ta k tc sa sn sc ba bn bc) (svA la ln lc sat jG lV) v (E1++II f K.l d.2.1 no j))) (fun iv _=>sn - (intOf iv).toNat)
   case atStart=>
    refine⟨0,v,by omega,rfl,?_⟩;have e1:qH f d.2.1 no 0=no+1:=by simp[qH,lH]
    have e2:GI (ML (jP zs) K.l K.o f) (lS,sat,jG,lV) d.2.1 no 0= []:=rfl;have e3:E1++II f K.l d.2.1 no 0=E1:=by simp[II]
    rw[e1,e2,e3];exact hW
   case round=>
    clear hW;obtain⟨j,v,hj,rfl,hW⟩:=hrel;by_cases kD:j<sn
    ·
     have I4:(j:Int)<(sn:Int):=by omega
     have sS:IntKind.i64.wrap ((j:Int)+1)=j+1:=by rw[bF];omega
     have lI:=lF.o.trans (hW.o.mv.below (B:=w0.heap.size) WO hgb (fun k e=>by cases e) lF.o.size);have hid:j<d.2.1.length:=by rw[rR.o];exact kD
     have nV:j<ds.length:=by rw[sH.o];exact hid
     obtain⟨xb,xo,rfl,wM,fe⟩:=tX.o.elem mJ aH (0,(.slice none 0 0,.slice none 0 0,.slice none 0 0)) kD;rw[jO nV]at fe;obtain⟨OV,nD⟩:=oW.o j nV hid;obtain⟨ua,un,uc,ra,rn,rc,xa,xn,xc,hv⟩:=nD.v;have g0:=late lI wM (fe 0 _ rfl);have g1:=late lI wM (fe 1 _ rfl);have g2:=late lI wM (fe 2 _ rfl);have g3:=late lI wM (fe 3 _ rfl);simp only[bU]at g0 g1 g2 g3;clear fe;rw[hv]at nD g1 g2 g3;rw[OV]at g0;simp only at g0 g1 g2 g3;have U7:d.2.1.getD j (0,lY f)=d.2.1[j]:=jO hid _;have LY:=XK f d.2.1 no hid;have hNl:=PE f d.2.1 no j;have a2Y:=PE f d.2.1 no (j+1);have hPs:=a7X (ML (jP zs) K.l K.o f) (lS,sat,jG,lV) d.2.1 no j;have J7:=a7W f K.l d.2.1 no j;obtain⟨EC,hkW⟩:=k2'.o j hid;have DF:=NY.o (d.2.1.getD j (0,lY f)).1 EC;rw[YZ.o]at DF;have tH:lN f d.2.1[j].2:=h4'.o _ (bJ hid);have IE:BJ f d.2.1[j].2:=aZ6.o _ (bJ hid);have hEx:aZ3 f K.l d.2.1 no j=((d.2.1.getD j (0,lY f)).1,4,1,oV K.l 2 (qH f d.2.1 no j) 0):=rfl;rw[U7]at LY hPs EC hkW DF hEx;obtain⟨y,hy⟩:=aC (d.2.1[j].1);obtain⟨dd,OX⟩:=aC (d.2.1[j].2);rw[hy]at g0 hPs EC hkW DF hEx;rw[OX]at nD LY hPs hkW tH IE;obtain⟨ns,hns⟩:=aC (qH f d.2.1 no j);rw[hns]at LY hPs hkW hEx hNl hW;obtain⟨si,ZN⟩:∃si:Nat,zA (lS,sat,jG,lV) y=si:=⟨(zA (lS,sat,jG,lV) y).toNat,by omega⟩;have hsI:zA (lS,sat,jG,lV) y=(lS.getD (fst (fun z=>z.1==y) lS).toNat (0,0)).2:=rfl;rw[ZN]at hkW DF hPs hsI;have hlP:=BU (p:=fun(z:Lk)=>z.1==y) (l:=lS);have aJP:wU (lS,sat,jG,lV) y=lS.any fun z=>z.1==y:=rfl;rw[←aJP,EC,decide_eq_true_eq]at hlP;have U1:=BG (p:=fun(z:Lk)=>z.1==y) (l:=lS);obtain⟨kx,hkx⟩:∃kx:Nat,fst (fun(z:Lk)=>z.1==y) lS=kx:=⟨(fst (fun(z:Lk)=>z.1==y) lS).toNat,by omega⟩;have QD:=yR.o.rP pJ aH;rw[hkx]at hsI U1;rw[bM]at hsI;rw[QD]at U1;have l9:=aD wr (.cells #[.int .i64 y,.slice ua un uc,.slice ra rn rc,.slice xa xn xc] 28);have b5:=jW.new wr 28 #[.int .i64 y,.slice ua un uc,.slice ra rn rc,.slice xa xn xc];have a7A:=hW.o.later l9;have aHB:=lI.tm l9;have hIX:=aNP (.pointer (some ⟨wr.heap.size,0,none⟩)) la ln lc lS (fun z=>z.1==y) _ (yR.o.mono aHB) (fun W' x hb=>aYW _ y x.1 x.2 W' (late hb b5.lt (b5.cell rfl)) (cK b5.lt hb.size));rw[hkx]at hIX;have hwr:=hW.o.mv.size;have k0:=hW.o.bS.cell (i:=0) rfl;have hSl:w.heap.size+1<wr.heap.size:=hW.o.bS.lt;have hGl:w.heap.size+2<wr.heap.size:=hW.o.bl.lt;have hln:ln≤9223372036854775807:=bQ yR.o.le yR.o.max;have b6Z:kx<ln:=by omega
     have bOR:(kx:Int)<(ln:Int):=by omega
     have bOS:(0:Int)≤(kx:Int):=by omega
     obtain⟨KY,aNN,zH,xE,QK,a2Z,b70,aSB,b71,aNS,a6B,b72⟩:=aT lI OV nD hv U7 LY hNl a2Y hPs J7 EC hkW;obtain⟨F9,yG,NZ,bOT,hy',aCW,aD2,aHC,a2V,bFX,QX,oL⟩:=aT DF tH IE hEx hy OX hns ZN hsI aJP QD l9;obtain⟨b5',a2X,aSA,aS6,bOU⟩:=aM b5 a7A aHB hIX hkx;clear lI OV nD hv U7 LY hNl a2Y hPs J7 EC hkW DF tH IE hEx hy OX hns ZN hsI aJP QD l9 b5 a7A aHB hIX hkx;go_wp2_with fail
     refine aS6.o.mono ?_;rintro e w5 ⟨rfl,nZ⟩;have rD:=a2X.o.later nZ;have b52:=b5'.o.late nZ;clear g0 g1 g2 g3 k0;obtain⟨g5,nW⟩:=aC wr.heap.size;rw[nW]at b52 ⊢;have BK:=aSA.o.tm nZ;obtain⟨b3,o3,hla,vB,fe⟩:=yR.o.elem pJ aH (0,0) b6Z;subst hla;have l1:=fe 1 _ rfl;rw[←a2V.o]at l1;clear fe;have hC5:jW w5 (w.heap.size+1) 35 (svA (some ⟨b3,o3,none⟩) ln lc sat jG lV)∧jW w5 g5 28 #[.int .i64 y,.slice ua un uc,.slice ra rn rc,.slice xa xn xc]∧w5.cell? ⟨b3,o3+kx*2+1,none⟩=some (.int .i64 si):=⟨rD.bS,b52,late BK vB l1⟩;obtain⟨Ty,ff,oJ,nK,jK⟩:=lM (fun W=>jW W (w.heap.size+1) 35 (svA (some ⟨b3,o3,none⟩) ln lc sat jG lV)∧jW W g5 28 #[.int .i64 y,.slice ua un uc,.slice ra rn rc,.slice xa xn xc]∧W.cell? ⟨b3,o3+kx*2+1,none⟩=some (.int .i64 si)) w5 hC5;have vW:=(aY w5.heap.size w5).drew;have E5:=rD.later vW;have hC6:=jK w5.drew ⟨hC5.1.late vW,hC5.2.1.late vW,by exact hC5.2.2⟩;have HS:=aA hC6;have a9R:=BK.tm vW;have b56:=b52.late vW;have l16:w5.drew.cell? ⟨b3,o3+kx*2+1,none⟩=some (.int .i64 si):=hC5.2.2;have q0:∀s,(ff s).cell? ⟨w.heap.size+1,0,none⟩=some (.slice (some ⟨b3,o3,none⟩) ln lc):=fun s=>(nK s).1.cell rfl;have q1:∀s,(ff s).cell? ⟨g5,0,none⟩=some (.int .i64 y):=fun s=>(nK s).2.1.cell rfl;have q2:∀s,(ff s).cell? ⟨g5,1,none⟩=some (.slice ua un uc):=fun s=>(nK s).2.1.cell rfl;have q3:∀s,(ff s).cell? ⟨g5,2,none⟩=some (.slice ra rn rc):=fun s=>(nK s).2.1.cell rfl;have q4:∀s,(ff s).cell? ⟨g5,3,none⟩=some (.slice xa xn xc):=fun s=>(nK s).2.1.cell rfl;have q5:∀s,(ff s).cell? ⟨b3,o3+kx*2+1,none⟩=some (.int .i64 si):=fun s=>(nK s).2.2;obtain⟨wD,qF⟩:=aC w5.drew;rw[qF]at E5 HS a9R b56 l16;have hI:=ih'.o w0 wD ns _ dd (.slice ua un uc,.slice ra rn rc,.slice xa xn xc) si E5.ws a0K.o a9R WO hgb zH.o yG.o NZ.o ED.o b72.o (by have:=F9.o;omega) (by have:=b70.o;omega) (by have:=a2Z.o;have:=aSB.o;have:=a9N.o;omega) hKn;simp only at hI;obtain⟨aSC,a07,aZ9,AB,jF,H7,bVE,FB,xJ,l1',O1,bOV⟩:=aT hC5 vW hC6 nK jK rD b52 BK nZ l1 E5 b56;obtain⟨bOW,MR,M7⟩:=aK l16 hI a9R;clear hC5 vW hC6 nK jK rD b52 BK nZ l1 E5 b56 l16 hI a9R;go_wp2_with fail
     refine kM (S:=fun W=>∃s,W=ff s) aF 16 rfl ?_;rw[qF];refine jS [0,1,2,3,4,5,6,7,8,9,10,11] 4 aF aI aF aF aF HS.o ?_;simp only[jI,aW,aX,aU,aV];iterate 12 (go_big_quiet_step (fail))
     refine wpQuiet_nil ?_;clear q0 q1 q2 q3 q4 q5 qF;refine jJ 12 3 aF aF ?_;simp only[jI,aW,aX,aU,aV];go_wp2_with fail
     refine MR.o.mono ?_;rintro e w6 ⟨rfl,b74,hm6⟩;have zJ:=O1.o.turn b74 hm6 aG aG aG aG aG;have b57:=Mv.blk hm6 bOV.o aG aG;have l17:=Mv.cell hm6 (p:=⟨b3,o3+kx*2+1,none⟩) (by show b3<_;have:=M7.o.size;omega) (by show b3≠_;omega) (by show b3≠_;omega) bOW.o;have HS:=aA (jF.o _ ⟨zJ.bS,b57,l17⟩);have HL:=fun W=>RY y (oV K.l 2 ns 0) W;obtain⟨bTL,bOG,FD,bOX,bOY,HL'⟩:=aN b74 hm6 zJ b57 l17 HL;clear b74 hm6 zJ b57 l17 HL;go_wp2_with fail
     first|refine Mid.mk ⟨HS.o,?_⟩|refine Mid.mk ?_
     refine jJ 13 2 aF aF ?_;simp only[jI,aW,aX,aU,aV];go_wp2_with fail
     refine(HL'.o _).mono ?_;rintro e w7 ⟨rfl,rE⟩;have IJ:=FD.o.later rE;have b58:=bOX.o.late rE;have l18:=late rE (p:=⟨b3,o3+kx*2+1,none⟩) (by show b3<_;have:=M7.o.size;have:=FD.o.mv.size;omega) bOY.o;obtain⟨HS,a2E,FH,bFY,bOZ⟩:=aM (jF.o _ ⟨IJ.bS,b58,l18⟩) rE IJ b58 l18;clear rE IJ b58 l18;go_wp2_with fail
     first|refine Mid.mk ⟨HS.o,?_⟩|refine Mid.mk ?_
     refine jJ 14 1 aF aF ?_;simp only[jI,aW,aX,aU,aV];go_wp2_with fail
     have bVF:=FH.o.mv.size;have WS:=Sl.new w7 55 4 1 #[.int .i64 y,.int .i64 4,.int .i64 1,.int .i64 (oV K.l 2 ns 0)] (0,0) aG rfl;have ha7:=aD w7 (.cells #[.int .i64 y,.int .i64 4,.int .i64 1,.int .i64 (oV K.l 2 ns 0)] 55);have vC:=FH.o.later ha7;have b59:=bFY.o.late ha7;have l19:=late ha7 (p:=⟨b3,o3+kx*2+1,none⟩) (by show b3<_;have:=M7.o.size;have:=FD.o.mv.size;omega) bOZ.o;have HS:=aA (jF.o _ ⟨vC.bS,b59,l19⟩);have hg7:g5<w7.heap.size:=bFY.o.lt;have hC:=a9L w.heap.size (w.heap.size+2) _ [(y,4,1,oV K.l 2 ns 0)] v _ 1 1 _ vC.bl vC.ow (mH vC.ow vC.bl aH) (by have:=vC.mv.size;omega) (by simpa [fl,sP] using WS) aG (by rw[cO,aZ8,O0];omega);obtain⟨aD1,bVG,R8,bFZ,bP0,MC⟩:=aN WS ha7 vC b59 l19 hC;clear WS ha7 vC b59 l19 hC;first|refine Mid.mk ⟨HS.o,?_⟩|refine Mid.mk ?_
     refine jJ 15 0 aF aF ?_;simp only[jI,aW,aX,aU,aV];go_wp2_with fail
     refine MC.o.mono ?_;rintro e w8 ⟨v8,rfl,hl8,ho8,bG0,U3⟩;have AP:=R8.o.add hl8 ho8 U3 aG aG aG aG aG aG;have aSD:=U3.below (B:=w.heap.size) aG aG (fun k e=>(R8.o.ow.lt k e).1) R8.o.mv.size;have b60:=bFZ.o.mv U3 aG aG (mH R8.o.ow bFZ.o aH);have l20:=aHA aSD (p:=⟨b3,o3+kx*2+1,none⟩) (by show b3<_;omega) bP0.o;have HS:=aA (jF.o _ ⟨AP.bS,b60,l20⟩);have b1R:WIn K w w8 (qH f d.2.1 no (j+1)) (tO (GI (ML (jP zs) K.l K.o f) (lS,sat,jG,lV) d.2.1 no (j+1)) P1) w.heap.size (w.heap.size+1) (w.heap.size+2) (dvA ta k tc (some ⟨xb,xo,none⟩) sn sc ba bn bc) (svA (some ⟨b3,o3,none⟩) ln lc sat jG lV) v8 (E1++II f K.l d.2.1 no (j+1)):=by
      rw[a2Z.o,b71.o,l6,aNS.o,bOT.o,←dH];exact AP
     obtain⟨a3A,bP1,bVH,bVI,b75,bVJ,aN0,bTM,a6F⟩:=aQ AP aSD b60 l20 b1R hl8 ho8 bG0 U3;clear AP aSD b60 l20 b1R hl8 ho8 bG0 U3;go_wp2_with fail
     first|refine Mid.mk ⟨HS.o,?_⟩|refine Mid.mk ?_
     refine jV aF ?_;go_wp2_with fail
     go_roundw
     case rel=>exact⟨j+1,v8,by omega,by go_num,b75⟩
     case measure=>simp[intOf];omega
    ·obtain rfl:j=sn:=by omega
     obtain⟨n2,PX⟩:=aC (qH f d.2.1 no j);obtain⟨P2,hP2⟩:=aC (tO (GI (ML (jP zs) K.l K.o f) (lS,sat,jG,lV) d.2.1 no j) P1);obtain⟨E2,hE2⟩:=aC (E1++II f K.l d.2.1 no j);have hnN:n2=no+(kQ (f+1) d).length:=by
      have h:=aCY f d.2.1 no;rw[rR.o,PX]at h;rw[h,a9N.o];omega
     rw[PX,hP2,hE2]at hW;have hDw:tO (ML (jP zs) K.l K.o (f+1) d no i) P=tO (QY K.l K.o no (pE f K.l K.o no (lS,sat,jG,lV) d)) (tO (zV K.l d.2.2 no) P2):=by
      rw[hD'.o,rR.o,l6,l6,l6,aNR.o,hP2]
     have hEd:pE f K.l K.o no (lS,sat,jG,lV) d=E2++DR K.l (lS,sat,jG,lV) d.2.2 no:=by
      unfold pE;rw[rR.o,b6Y.o,hE2]
     obtain⟨m,hm⟩:∃m,(pE f K.l K.o no (lS,sat,jG,lV) d).length=m:=⟨_,rfl⟩;have U8:=k5'.o;have MV:=k6'.o;have hF:=k4'.o;rw[hm]at U8 MV hF;obtain⟨YI,hf0,hfn⟩:=hF;obtain⟨q,hq⟩:∃q:Nat,oV K.l 2 no 0=q:=⟨(oV K.l 2 no 0).toNat,by omega⟩;rw[hq,bM]at hfn;have d2:=hW.o.bA.cell (i:=2) rfl;obtain⟨aD3,aSE,bP2,bG1,aZA,b76,EN,aND,hq'⟩:=aQ PX hP2 hE2 hnN hDw hEd hm YI hq;clear PX hP2 hE2 hnN hDw hEd hm YI hq;by_cases RU:0<bn
     ·have hdc:decide ((0:Int)<bn)=true:=by simp;omega
      have hFb:=k3'.o (by rw[DY.o];exact RU);rw[DY.o]at hFb;obtain⟨hba,UD,bP3⟩:=hFb;obtain⟨q2,nD⟩:∃q2:Nat,oV K.l 4 no 0=q2:=⟨(oV K.l 4 no 0).toNat,by omega⟩;rw[nD,bM]at bP3;have b78:=PD K wr n2 P2 hW.o.ws 4 no 0 hba;rw[nD]at b78;obtain⟨bVK,zH,bG3⟩:=aK hba nD b78;clear hba nD b78;go_wp2_with fail
      refine bG3.o.mono ?_;rintro e w3 ⟨rfl,jQ⟩;have zB:=hW.o.later jQ;have vW:=(aY w3.heap.size w3).drew;have yS:=zB.later vW;have hC3:jW w3 w.heap.size 26 (dvA ta k tc sa j sc ba bn bc)∧jW w3 K.gw 91 #[.slice (some ⟨K.gb,0,none⟩) K.n K.n,.int .i64 K.o,.slice K.GH K.H6 K.J6,.slice K.qa K.qn K.qc,.int .i64 n2]:=⟨zB.bA,zB.ws.blk⟩;obtain⟨Ty,ff,oJ,nK,jK⟩:=lM (fun W=>jW W w.heap.size 26 (dvA ta k tc sa j sc ba bn bc)∧jW W K.gw 91 #[.slice (some ⟨K.gb,0,none⟩) K.n K.n,.int .i64 K.o,.slice K.GH K.H6 K.J6,.slice K.qa K.qn K.qc,.int .i64 n2]) w3 hC3;have HS:=aA (jK w3.drew ⟨yS.bA,yS.ws.blk⟩);have q0:∀s,(ff s).cell? ⟨w.heap.size,2,none⟩=some (.slice ba bn bc):=fun s=>(nK s).1.cell rfl;have q1:∀s,(ff s).cell? ⟨K.gw,0,none⟩=some (.slice (some ⟨K.gb,0,none⟩) K.n K.n):=fun s=>(nK s).2.cell rfl;have aXJ:=fun W=>a2L (P:=Tryz.prog) (T:=24) (E:=5) Tryz.underlying24 a2M K.gb K.n q2 aG W;obtain⟨wD,qF⟩:=aC w3.drew;rw[qF]at yS HS;have b79:=lF.o.trans (yS.mv.below (B:=w0.heap.size) WO hgb (fun k e=>by cases e) lF.o.size);obtain⟨w5,hr5,b7A,hm5,bG5⟩:=JU yS.ws ba bn bc _ (tL.o.mono b79) q2 aG aG 3;have VE:=yS.turn b7A hm5 hg1 aCZ (aZ _) aG aG;have HS5:=aA (jK _ ⟨VE.bA,VE.ws.blk⟩);clear d2;obtain⟨qN,aD0,a07,QZ,a6O,AB,jF,bTN,bTO,bEX,bTP,a3B⟩:=aT jQ zB vW yS hC3 nK jK b79 b7A hm5 bG5 VE;clear jQ zB vW yS hC3 nK jK b79 b7A hm5 bG5 VE;go_wp2_with fail
      refine kM (S:=fun W=>∃s,W=ff s) aF 10 rfl ?_;rw[qF];refine jS [0,1,2,3,4,5,6,7,8] 1 aF aI aF aF aF HS.o ?_;simp only[jI,aW,aX,aU,aV];iterate 9 (go_big_quiet_step (fail))
      refine wpQuiet_nil ?_;clear q0 q1 qF;refine jJ 9 0 aF aF ?_;simp only[jI,aW,aX,aU,aV];go_wp2_with (at_builtin;refine wpList_copy_run _ rfl _ _ _ _ rfl _ _ rfl rfl hr5 ?_)
      first|refine Mid.mk ⟨HS5.o,?_⟩|refine Mid.mk ?_
      refine jV aF ?_;clear hr5 aXJ HS HS5 AB jF;have b7B:=(aY w5.heap.size w5).drew;have E5:=a3B.o.later b7B;have hC5:jW w5 w.heap.size 26 (dvA ta k tc sa j sc ba bn bc)∧jW w5 (w.heap.size+1) 35 (svA la ln lc sat jG lV):=⟨a3B.o.bA,a3B.o.bS⟩;obtain⟨Ty,ff,oJ,nK,jK⟩:=lM (fun W=>jW W w.heap.size 26 (dvA ta k tc sa j sc ba bn bc)∧jW W (w.heap.size+1) 35 (svA la ln lc sat jG lV)) w5 hC5;have HS:=aA (jK w5.drew ⟨E5.bA,E5.bS⟩);have q0:∀s,(ff s).cell? ⟨w.heap.size,2,none⟩=some (.slice ba bn bc):=fun s=>(nK s).1.cell rfl;have q1:∀s,(ff s).cell? ⟨w.heap.size+1,1,none⟩=some (.int .i64 sat):=fun s=>(nK s).2.cell rfl;have q2_:∀s,(ff s).cell? ⟨w.heap.size+1,2,none⟩=some (.int .i64 jG):=fun s=>(nK s).2.cell rfl;obtain⟨wE,hwE⟩:=aC w5.drew;rw[hwE]at E5 HS;obtain⟨bTQ,O1,aSC,AB,jF⟩:=aM b7B E5 hC5 nK jK;clear b7B E5 hC5 nK jK;go_wp2_with fail
      refine kM (S:=fun W=>∃s,W=ff s) aF 13 rfl ?_;rw[hwE];refine jS [0,1,2,3,5,6,7,8,9] 4 aF aI aF aF aF HS.o ?_;simp only[jI,aW,aX,aU,aV];iterate 9 (go_big_quiet_step (fail))
      refine wpQuiet_nil ?_;clear q0 q1 q2_ hwE;refine jJ 4 3 aF aF ?_;simp only[jI,aW,aX,aU,aV];go_wp2_with fail
      refine(RY sat q2 _).mono ?_;rintro e w7 ⟨rfl,rE⟩;have zJ:=O1.o.later rE;obtain⟨HS,a2E,FD⟩:=aK (jF.o _ ⟨zJ.bA,zJ.bS⟩) rE zJ;clear rE zJ;go_wp2_with fail
      first|refine Mid.mk ⟨HS.o,?_⟩|refine Mid.mk ?_
      refine jJ 10 2 aF aF ?_;simp only[jI,aW,aX,aU,aV];go_wp2_with fail
      refine(RY jG bn _).mono ?_;rintro e w8 ⟨rfl,J4⟩;have IJ:=FD.o.later J4;obtain⟨HS,a96,FH⟩:=aK (jF.o _ ⟨IJ.bA,IJ.bS⟩) J4 IJ;clear J4 IJ;go_wp2_with fail
      first|refine Mid.mk ⟨HS.o,?_⟩|refine Mid.mk ?_
      refine jJ 11 1 aF aF ?_;simp only[jI,aW,aX,aU,aV];go_wp2_with fail
      have bVL:=FH.o.mv.size;have WS:=Sl.new w8 55 4 2 #[.int .i64 sat,.int .i64 4,.int .i64 1,.int .i64 q2,.int .i64 jG,.int .i64 4,.int .i64 1,.int .i64 bn] (0,0) aG rfl;have ha8:=aD w8 (.cells #[.int .i64 sat,.int .i64 4,.int .i64 1,.int .i64 q2,.int .i64 jG,.int .i64 4,.int .i64 1,.int .i64 bn] 55);have vC:=FH.o.later ha8;have HS:=aA (jF.o _ ⟨vC.bA,vC.bS⟩);have b7C:E2.length≤100000:=by
       have h1:=b76.o;have h2:=EN.o;rw[h1,cO]at h2;omega
      have hC:=a9L w.heap.size (w.heap.size+2) E2 [(sat,4,1,q2),(jG,4,1,bn)] v _ 2 2 _ vC.bl vC.ow (mH vC.ow vC.bl aH) (by have:=vC.mv.size;omega) (by simpa [fl,sP] using WS) aG aG;obtain⟨aD1,bVM,R8,MC⟩:=aL WS ha8 vC hC;clear WS ha8 vC hC;first|refine Mid.mk ⟨HS.o,?_⟩|refine Mid.mk ?_
      refine jJ 12 0 aF aF ?_;simp only[jI,aW,aX,aU,aV];go_wp2_with fail
      refine MC.o.mono ?_;rintro e w9 ⟨v9,rfl,hl9,DK,bG6,YU⟩;have AP:=R8.o.add hl9 DK YU hg1 aCZ hsb aG aG aG;have HS:=aA (jF.o _ ⟨AP.bA,AP.bS⟩);obtain⟨E3,hE3⟩:=aC (E2++ [(sat,4,1,(q2:Int)),(jG,4,1,(bn:Int))]);obtain⟨P3,MU⟩:=aC (splice P2 q2 d.2.2);rw[hE3,MU]at AP;have nT:DR K.l (lS,sat,jG,lV) d.2.2 no= [(sat,4,1,(q2:Int)),(jG,4,1,(bn:Int))]:=by unfold DR;rw[if_pos (by rw[DY.o];exact RU),zH.o,DY.o]
      have hbP:zV K.l d.2.2 no= [(q2,d.2.2)]:=by unfold zV;rw[if_pos (by rw[DY.o];exact RU),zH.o,bM]
      have hEt:pE f K.l K.o no (lS,sat,jG,lV) d=E3:=by rw[b76.o,nT,hE3]
      have hPt:tO (ML (jP zs) K.l K.o (f+1) d no i) P=tO (QY K.l K.o no E3) P3:=by rw[aZA.o,hbP,hEt,aYO,MU]
      have yJ:=AP;obtain⟨v,hv9⟩:=aC v9;rw[hv9]at yJ AP hl9 DK YU;clear nT hbP;obtain⟨bVN,aGH,bTR,aGU,a3A,aSF,a9S,LZ,a3C,a9T⟩:=aR hl9 DK bG6 YU AP hEt hPt yJ hE3 MU;clear hl9 DK bG6 YU AP hEt hPt yJ hE3 MU;go_wp2_with fail
      first|refine Mid.mk ⟨HS.o,?_⟩|refine Mid.mk ?_
      refine jV aF ?_;clear HS AB jF;have hEl:E3.length=m:=by rw[←aSF.o];exact EN.o
      have hEn:=k8'.o;have hEo:=k9'.o;rw[aSF.o]at hEn hEo;obtain⟨av,cv,rfl⟩:∃a c,v= .slice a m c:=by
       rcases LZ.o.ow.2 with ⟨rfl,h0⟩|⟨g,cap,cur,rfl,_⟩
       ·exact⟨none,0,by rw[←hEl,h0]⟩
       ·exact⟨_,_,by rw[hEl]⟩
      have v0:=LZ.o.bl.cell (i:=0) rfl;have hSr:=a7U w.heap.size E3 (.slice av m cv) w9 LZ.o.ow aG aG hEn;obtain⟨aSG,MN,b7D,b7E⟩:=aL hEl hEn hEo hSr;clear hEl hEn hEo hSr;go_wp2_with fail
      refine b7E.o.mono ?_;rintro e w2 ⟨rfl,vS,HZ⟩;have rD:=LZ.o.sort vS HZ hg1 aCZ hsb aG;have hSp:=PD K w2 n2 P3 rD.ws 2 no 0 aND.o;rw[hq'.o]at hSp;clear v0;obtain⟨Q6,aZB,H7,b7F⟩:=aL vS HZ rD hSp;clear vS HZ rD hSp;go_wp2_with fail
      refine b7F.o.mono ?_;rintro e w3 ⟨rfl,jQ⟩;have zB:=H7.o.later jQ;have vW:=(aY w3.heap.size w3).drew;have yS:=zB.later vW;obtain⟨Ty,ff,oJ,nK,jK⟩:=lM (fun W=>jW W (w.heap.size+2) 154 #[.slice av m cv]) w3 zB.bl;have HS:=aA (jK w3.drew yS.bl);have q0:=fun s=>(nK s).cell (i:=0) rfl;have AU:lZ (m:Int) 2 K.o=true:=by
       unfold lZ;rcases k7'.o with h|h <;> rw[h] <;> simp[rF] <;> omega
      have BP:=nQ AU;obtain⟨wD,qF⟩:=aC w3.drew;rw[qF]at yS HS;have hPp:=EH K wD n2 P3 yS.ws q m 2 AU (by rw[BP];decide) (by rw[BP,show(2:Int).toNat=2 from rfl];omega);obtain⟨P4,hP4⟩:=aC (splice P3 q (kZ m 2 K.o));rw[hP4]at hPp;have hPh:tO (QY K.l K.o no E3) P3=tO (rowP q K.o (sortE E3) m) P4:=by
       unfold QY;rw[hq'.o,bM,aSG.o,←hP4];rfl
      rw[hPh]at a9S;obtain⟨qN,aD0,a07,QZ,AB,jF,a6Z,YG,a3D,b7G,aHD⟩:=aS jQ zB vW yS nK jK AU BP hPp hP4 hPh;clear jQ zB vW yS nK jK AU BP hPp hP4 hPh;go_wp2_with fail
      refine kM (S:=fun W=>∃s,W=ff s) aF 7 rfl ?_;rw[qF];refine jS [0,1,2,3,4,5] 1 aF aI aF aF aF HS.o ?_;simp only[jI,aW,aX,aU,aV];iterate 6 (go_big_quiet_step (fail))
      refine wpQuiet_nil ?_;clear q0 qF;refine jJ 6 0 aF aF ?_;simp only[jI,aW,aX,aU,aV];go_wp2_with fail
      refine a3D.o.mono ?_;rintro e w4 ⟨rfl,aHE,J3⟩;have VE:=QZ.o.turn aHE J3 hg1 aCZ (aZ _) aG aG;have HS:=aA (jF.o _ VE.bl);have v0:=VE.bl.cell (i:=0) rfl;obtain⟨bG8,a01,a3B⟩:=aK aHE J3 VE;clear aHE J3 VE;go_wp2_with fail
      first|refine Mid.mk ⟨HS.o,?_⟩|refine Mid.mk ?_
      refine jV aF ?_;go_wp2_with fail
      clear v0;go_loopw [128] (fun iv wr=>∃(i2:Nat),i2≤m∧iv= .int .i64 i2∧Hid (WIn K w wr n2 (tO (rowP q K.o (sortE E3) i2) P4) w.heap.size (w.heap.size+1) (w.heap.size+2) (dvA ta k tc sa j sc ba bn bc) (svA la ln lc sat jG lV) (.slice av m cv) (sortE E3))) (fun iv _=>m - (intOf iv).toNat)
      case atStart=>exact⟨0,by omega,rfl,a3B⟩
      case round=>
       obtain⟨i2,hi2,rfl,hW⟩:=hrel;by_cases kD:i2<m
       ·have I4:(i2:Int)<(m:Int):=by omega
        have sS:IntKind.i64.wrap ((i2:Int)+1)=i2+1:=by rw[bF];omega
        have MQ:IntKind.i64.wrap (12*(i2:Int))=12*i2:=by rw[bF];omega
        have HY:IntKind.i64.wrap ((q:Int)+2)=q+2:=by rw[bF];omega
        have ZL:IntKind.i64.wrap ((q:Int)+2+12*i2)=((q+2+12*i2:Nat):Int):=by rw[bF];omega
        have SB:=(Sl.jU hW.o.ow).1;obtain⟨b6,o6,rfl,JW,fe⟩:=SB.elem rG aH yH kD;have hrs:=rowP_step q K.o (sortE E3) i2;have hxo:DL ((sortE E3).getD i2 yH) K.o=true:=by
         have h1:i2<(sortE E3).length:=by rw[BI,aSG.o];exact kD
         rw[jO h1];exact b7D.o _ ((gQ _ _).subset (bJ h1))
        obtain⟨⟨x0,x1,x2,x3⟩,hx⟩:∃x,(sortE E3).getD i2 yH=x:=⟨_,rfl⟩;rw[hx]at fe hrs hxo;have f0:=fe 0 _ rfl;have f1:=fe 1 _ rfl;have f2:=fe 2 _ rfl;have f3:=fe 3 _ rfl;simp only[bU]at f0 f1 f2 f3;clear fe;have l9:=aD wr (.cells #[.int .i64 x0,.int .i64 x1,.int .i64 x2,.int .i64 x3] 55);have b8:=jW.new wr 55 #[.int .i64 x0,.int .i64 x1,.int .i64 x2,.int .i64 x3];have E5:=hW.o.later l9;have hwr:=hW.o.mv.size;obtain⟨g8,hg8⟩:=aC wr.heap.size;obtain⟨W6,hW6⟩:=aC (wr.alloc (.cells #[.int .i64 x0,.int .i64 x1,.int .i64 x2,.int .i64 x3] 55));rw[hW6]at b8 E5 l9;rw[hg8]at b8;obtain⟨aD4,a9U,aHF,TR,oL,b8',O1,aSH⟩:=aP SB hrs hxo hx l9 b8 E5 hW6;clear SB hrs hxo hx l9 b8 E5 hW6;go_wp2_with fail
        rw[aSH.o];clear f0 f1 f2 f3;have hCw:jW W6 g8 55 #[.int .i64 x0,.int .i64 x1,.int .i64 x2,.int .i64 x3]∧jW W6 K.gw 91 #[.slice (some ⟨K.gb,0,none⟩) K.n K.n,.int .i64 K.o,.slice K.GH K.H6 K.J6,.slice K.qa K.qn K.qc,.int .i64 n2]:=⟨b8'.o,O1.o.ws.blk⟩;have a9V:=(aY W6.heap.size W6).drew;obtain⟨Ty,ff,oJ,nK,jK⟩:=lM (fun W=>jW W g8 55 #[.int .i64 x0,.int .i64 x1,.int .i64 x2,.int .i64 x3]∧jW W K.gw 91 #[.slice (some ⟨K.gb,0,none⟩) K.n K.n,.int .i64 K.o,.slice K.GH K.H6 K.J6,.slice K.qa K.qn K.qc,.int .i64 n2]) W6 hCw;have zJ:=O1.o.later a9V;have b88:=b8'.o.late a9V;have HS:=aA (jK W6.drew ⟨b88,zJ.ws.blk⟩);have q0:∀s,(ff s).cell? ⟨g8,0,none⟩=some (.int .i64 x0):=fun s=>(nK s).1.cell rfl;have q1:∀s,(ff s).cell? ⟨g8,1,none⟩=some (.int .i64 x1):=fun s=>(nK s).1.cell rfl;have q2:∀s,(ff s).cell? ⟨g8,2,none⟩=some (.int .i64 x2):=fun s=>(nK s).1.cell rfl;have q3:∀s,(ff s).cell? ⟨g8,3,none⟩=some (.int .i64 x3):=fun s=>(nK s).1.cell rfl;have q4:∀s,(ff s).cell? ⟨K.gw,1,none⟩=some (.int .i64 K.o):=fun s=>(nK s).2.cell rfl;obtain⟨wE,hwE⟩:=aC W6.drew;rw[hwE]at zJ b88 HS;have hEw:=a2P x0 x1 x2 x3 K.o wE aHF.o;obtain⟨bP4,bGA,AB,jF,FD,b7H,aHG⟩:=aO hCw a9V nK jK zJ b88 hEw;clear hCw a9V nK jK zJ b88 hEw;refine kM (S:=fun W=>∃s,W=ff s) aF 12 rfl ?_;rw[hwE];refine jS [0,1,2,3,4,5] 6 aF aI aF aF aF HS.o ?_;simp only[jI,aW,aX,aU,aV];iterate 6 (go_big_quiet_step (fail))
        refine wpQuiet_nil ?_;refine jJ 6 5 aF aF ?_;simp only[jI,aW,aX,aU,aV];go_wp2_with fail
        refine aHG.o.mono ?_;rintro e w7 ⟨a7,c7,rfl,ho7,rE⟩;have IJ:=FD.o.later rE;have b89:=b7H.o.late rE;obtain⟨HS,aD5,a2E,FH,bP5⟩:=aM (jF.o _ ⟨b89,IJ.ws.blk⟩) ho7 rE IJ b89;clear ho7 rE IJ b89;go_wp2_with fail
        first|refine Mid.mk ⟨HS.o,?_⟩|refine Mid.mk ?_
        refine jS [7,8,9,10,11] 0 aF aI aF aF aF HS.o ?_;simp only[jI,aW,aX,aU,aV];iterate 5 (go_big_quiet_step (fail))
        refine wpQuiet_nil ?_;refine jV aF ?_;clear q0 q1 q2 q3 q4 hwE;have c0:=FH.o.ws.blk.cell (i:=0) rfl;have aXJ:=fun W=>a2L (P:=Tryz.prog) (T:=24) (E:=5) Tryz.underlying24 a2M K.gb K.n (q+2+12*i2) aG W;obtain⟨w9,hr9,SC,YU,aSI⟩:=JU FH.o.ws a7 12 c7 _ (Sl.jU aD5.o).1 (q+2+12*i2) aH aG 3;have vC:=FH.o.turn SC YU hg1 aCZ (aZ _) aG aG;have AP:WIn K w w9 n2 (tO (rowP q K.o (sortE E3) (i2+1)) P4) w.heap.size (w.heap.size+1) (w.heap.size+2) (dvA ta k tc sa j sc ba bn bc) (svA la ln lc sat jG lV) (.slice (some ⟨b6,o6,none⟩) m cv) (sortE E3):=by
         rw[a9U.o,l6];exact vC
        obtain⟨aSJ,aGU,bGB,R8,a3A⟩:=aM SC YU aSI vC AP;clear SC YU aSI vC AP;go_wp2_with (at_builtin;refine wpList_copy_run _ rfl _ _ _ _ rfl _ _ rfl rfl hr9 ?_)
        go_roundw
        case rel=>exact⟨i2+1,by omega,by go_num,a3A⟩
        case measure=>simp[intOf];omega
       ·obtain rfl:i2=m:=by omega
        go_wp2_with fail
        go_ret;refine⟨by rw[hq'.o];rfl,?_,hW.o.mv⟩;rw[a9S.o,←bG1.o];exact hW.o.ws
     ·have hdc:decide ((0:Int)<bn)=false:=by simp;omega
      obtain⟨E3,hE3⟩:=aC E2;have nT:DR K.l (lS,sat,jG,lV) d.2.2 no= []:=by unfold DR;rw[if_neg (by rw[DY.o];exact RU)]
      have hbP:zV K.l d.2.2 no= []:=by unfold zV;rw[if_neg (by rw[DY.o];exact RU)]
      have hEt:pE f K.l K.o no (lS,sat,jG,lV) d=E3:=by rw[b76.o,nT,dR,hE3]
      obtain⟨P3,MU⟩:=aC P2;have hPt:tO (ML (jP zs) K.l K.o (f+1) d no i) P=tO (QY K.l K.o no E3) P3:=by rw[aZA.o,hbP,hEt,←MU];rfl
      rw[hE3,MU]at hW;have yJ:=hW.o;clear nT hbP;obtain⟨aSF,a9S,LZ,a3C,a9T⟩:=aM hEt hPt yJ hE3 MU;clear hEt hPt yJ hE3 MU;have hEl:E3.length=m:=by rw[←aSF.o];exact EN.o
      have hEn:=k8'.o;have hEo:=k9'.o;rw[aSF.o]at hEn hEo;obtain⟨av,cv,rfl⟩:∃a c,v= .slice a m c:=by
       rcases LZ.o.ow.2 with ⟨rfl,h0⟩|⟨g,cap,cur,rfl,_⟩
       ·exact⟨none,0,by rw[←hEl,h0]⟩
       ·exact⟨_,_,by rw[hEl]⟩
      have v0:=LZ.o.bl.cell (i:=0) rfl;have hSr:=a7U w.heap.size E3 (.slice av m cv) wr LZ.o.ow aG aG hEn;obtain⟨aSG,MN,b7D,b7E⟩:=aL hEl hEn hEo hSr;clear hEl hEn hEo hSr;go_wp2_with fail
      refine b7E.o.mono ?_;rintro e w2 ⟨rfl,vS,HZ⟩;have rD:=LZ.o.sort vS HZ hg1 aCZ hsb aG;have hSp:=PD K w2 n2 P3 rD.ws 2 no 0 aND.o;rw[hq'.o]at hSp;clear v0;obtain⟨Q6,aZB,H7,b7F⟩:=aL vS HZ rD hSp;clear vS HZ rD hSp;go_wp2_with fail
      refine b7F.o.mono ?_;rintro e w3 ⟨rfl,jQ⟩;have zB:=H7.o.later jQ;have vW:=(aY w3.heap.size w3).drew;have yS:=zB.later vW;obtain⟨Ty,ff,oJ,nK,jK⟩:=lM (fun W=>jW W (w.heap.size+2) 154 #[.slice av m cv]) w3 zB.bl;have HS:=aA (jK w3.drew yS.bl);have q0:=fun s=>(nK s).cell (i:=0) rfl;have AU:lZ (m:Int) 2 K.o=true:=by
       unfold lZ;rcases k7'.o with h|h <;> rw[h] <;> simp[rF] <;> omega
      have BP:=nQ AU;obtain⟨wD,qF⟩:=aC w3.drew;rw[qF]at yS HS;have hPp:=EH K wD n2 P3 yS.ws q m 2 AU (by rw[BP];decide) (by rw[BP,show(2:Int).toNat=2 from rfl];omega);obtain⟨P4,hP4⟩:=aC (splice P3 q (kZ m 2 K.o));rw[hP4]at hPp;have hPh:tO (QY K.l K.o no E3) P3=tO (rowP q K.o (sortE E3) m) P4:=by
       unfold QY;rw[hq'.o,bM,aSG.o,←hP4];rfl
      rw[hPh]at a9S;obtain⟨qN,aD0,a07,QZ,AB,jF,a6Z,YG,a3D,b7G,aHD⟩:=aS jQ zB vW yS nK jK AU BP hPp hP4 hPh;clear jQ zB vW yS nK jK AU BP hPp hP4 hPh;go_wp2_with fail
      refine kM (S:=fun W=>∃s,W=ff s) aF 7 rfl ?_;rw[qF];refine jS [0,1,2,3,4,5] 1 aF aI aF aF aF HS.o ?_;simp only[jI,aW,aX,aU,aV];iterate 6 (go_big_quiet_step (fail))
      refine wpQuiet_nil ?_;clear q0 qF;refine jJ 6 0 aF aF ?_;simp only[jI,aW,aX,aU,aV];go_wp2_with fail
      refine a3D.o.mono ?_;rintro e w4 ⟨rfl,aHE,J3⟩;have VE:=QZ.o.turn aHE J3 hg1 aCZ (aZ _) aG aG;have HS:=aA (jF.o _ VE.bl);have v0:=VE.bl.cell (i:=0) rfl;obtain⟨bG8,a01,a3B⟩:=aK aHE J3 VE;clear aHE J3 VE;go_wp2_with fail
      first|refine Mid.mk ⟨HS.o,?_⟩|refine Mid.mk ?_
      refine jV aF ?_;go_wp2_with fail
      clear v0;go_loopw [128] (fun iv wr=>∃(i2:Nat),i2≤m∧iv= .int .i64 i2∧Hid (WIn K w wr n2 (tO (rowP q K.o (sortE E3) i2) P4) w.heap.size (w.heap.size+1) (w.heap.size+2) (dvA ta k tc sa j sc ba bn bc) (svA la ln lc sat jG lV) (.slice av m cv) (sortE E3))) (fun iv _=>m - (intOf iv).toNat)
      case atStart=>exact⟨0,by omega,rfl,a3B⟩
      case round=>
       obtain⟨i2,hi2,rfl,hW⟩:=hrel;by_cases kD:i2<m
       ·have I4:(i2:Int)<(m:Int):=by omega
        have sS:IntKind.i64.wrap ((i2:Int)+1)=i2+1:=by rw[bF];omega
        have MQ:IntKind.i64.wrap (12*(i2:Int))=12*i2:=by rw[bF];omega
        have HY:IntKind.i64.wrap ((q:Int)+2)=q+2:=by rw[bF];omega
        have ZL:IntKind.i64.wrap ((q:Int)+2+12*i2)=((q+2+12*i2:Nat):Int):=by rw[bF];omega
        have SB:=(Sl.jU hW.o.ow).1;obtain⟨b6,o6,rfl,JW,fe⟩:=SB.elem rG aH yH kD;have hrs:=rowP_step q K.o (sortE E3) i2;have hxo:DL ((sortE E3).getD i2 yH) K.o=true:=by
         have h1:i2<(sortE E3).length:=by rw[BI,aSG.o];exact kD
         rw[jO h1];exact b7D.o _ ((gQ _ _).subset (bJ h1))
        obtain⟨⟨x0,x1,x2,x3⟩,hx⟩:∃x,(sortE E3).getD i2 yH=x:=⟨_,rfl⟩;rw[hx]at fe hrs hxo;have f0:=fe 0 _ rfl;have f1:=fe 1 _ rfl;have f2:=fe 2 _ rfl;have f3:=fe 3 _ rfl;simp only[bU]at f0 f1 f2 f3;clear fe;have l9:=aD wr (.cells #[.int .i64 x0,.int .i64 x1,.int .i64 x2,.int .i64 x3] 55);have b8:=jW.new wr 55 #[.int .i64 x0,.int .i64 x1,.int .i64 x2,.int .i64 x3];have E5:=hW.o.later l9;have hwr:=hW.o.mv.size;obtain⟨g8,hg8⟩:=aC wr.heap.size;obtain⟨W6,hW6⟩:=aC (wr.alloc (.cells #[.int .i64 x0,.int .i64 x1,.int .i64 x2,.int .i64 x3] 55));rw[hW6]at b8 E5 l9;rw[hg8]at b8;obtain⟨aD4,a9U,aHF,TR,oL,b8',O1,aSH⟩:=aP SB hrs hxo hx l9 b8 E5 hW6;clear SB hrs hxo hx l9 b8 E5 hW6;go_wp2_with fail
        rw[aSH.o];clear f0 f1 f2 f3;have hCw:jW W6 g8 55 #[.int .i64 x0,.int .i64 x1,.int .i64 x2,.int .i64 x3]∧jW W6 K.gw 91 #[.slice (some ⟨K.gb,0,none⟩) K.n K.n,.int .i64 K.o,.slice K.GH K.H6 K.J6,.slice K.qa K.qn K.qc,.int .i64 n2]:=⟨b8'.o,O1.o.ws.blk⟩;have a9V:=(aY W6.heap.size W6).drew;obtain⟨Ty,ff,oJ,nK,jK⟩:=lM (fun W=>jW W g8 55 #[.int .i64 x0,.int .i64 x1,.int .i64 x2,.int .i64 x3]∧jW W K.gw 91 #[.slice (some ⟨K.gb,0,none⟩) K.n K.n,.int .i64 K.o,.slice K.GH K.H6 K.J6,.slice K.qa K.qn K.qc,.int .i64 n2]) W6 hCw;have zJ:=O1.o.later a9V;have b88:=b8'.o.late a9V;have HS:=aA (jK W6.drew ⟨b88,zJ.ws.blk⟩);have q0:∀s,(ff s).cell? ⟨g8,0,none⟩=some (.int .i64 x0):=fun s=>(nK s).1.cell rfl;have q1:∀s,(ff s).cell? ⟨g8,1,none⟩=some (.int .i64 x1):=fun s=>(nK s).1.cell rfl;have q2:∀s,(ff s).cell? ⟨g8,2,none⟩=some (.int .i64 x2):=fun s=>(nK s).1.cell rfl;have q3:∀s,(ff s).cell? ⟨g8,3,none⟩=some (.int .i64 x3):=fun s=>(nK s).1.cell rfl;have q4:∀s,(ff s).cell? ⟨K.gw,1,none⟩=some (.int .i64 K.o):=fun s=>(nK s).2.cell rfl;obtain⟨wE,hwE⟩:=aC W6.drew;rw[hwE]at zJ b88 HS;have hEw:=a2P x0 x1 x2 x3 K.o wE aHF.o;obtain⟨bP4,bGA,AB,jF,FD,b7H,aHG⟩:=aO hCw a9V nK jK zJ b88 hEw;clear hCw a9V nK jK zJ b88 hEw;refine kM (S:=fun W=>∃s,W=ff s) aF 12 rfl ?_;rw[hwE];refine jS [0,1,2,3,4,5] 6 aF aI aF aF aF HS.o ?_;simp only[jI,aW,aX,aU,aV];iterate 6 (go_big_quiet_step (fail))
        refine wpQuiet_nil ?_;refine jJ 6 5 aF aF ?_;simp only[jI,aW,aX,aU,aV];go_wp2_with fail
        refine aHG.o.mono ?_;rintro e w7 ⟨a7,c7,rfl,ho7,rE⟩;have IJ:=FD.o.later rE;have b89:=b7H.o.late rE;obtain⟨HS,aD5,a2E,FH,bP5⟩:=aM (jF.o _ ⟨b89,IJ.ws.blk⟩) ho7 rE IJ b89;clear ho7 rE IJ b89;go_wp2_with fail
        first|refine Mid.mk ⟨HS.o,?_⟩|refine Mid.mk ?_
        refine jS [7,8,9,10,11] 0 aF aI aF aF aF HS.o ?_;simp only[jI,aW,aX,aU,aV];iterate 5 (go_big_quiet_step (fail))
        refine wpQuiet_nil ?_;refine jV aF ?_;clear q0 q1 q2 q3 q4 hwE;have c0:=FH.o.ws.blk.cell (i:=0) rfl;have aXJ:=fun W=>a2L (P:=Tryz.prog) (T:=24) (E:=5) Tryz.underlying24 a2M K.gb K.n (q+2+12*i2) aG W;obtain⟨w9,hr9,SC,YU,aSI⟩:=JU FH.o.ws a7 12 c7 _ (Sl.jU aD5.o).1 (q+2+12*i2) aH aG 3;have vC:=FH.o.turn SC YU hg1 aCZ (aZ _) aG aG;have AP:WIn K w w9 n2 (tO (rowP q K.o (sortE E3) (i2+1)) P4) w.heap.size (w.heap.size+1) (w.heap.size+2) (dvA ta k tc sa j sc ba bn bc) (svA la ln lc sat jG lV) (.slice (some ⟨b6,o6,none⟩) m cv) (sortE E3):=by
         rw[a9U.o,l6];exact vC
        obtain⟨aSJ,aGU,bGB,R8,a3A⟩:=aM SC YU aSI vC AP;clear SC YU aSI vC AP;go_wp2_with (at_builtin;refine wpList_copy_run _ rfl _ _ _ _ rfl _ _ rfl rfl hr9 ?_)
        go_roundw
        case rel=>exact⟨i2+1,by omega,by go_num,a3A⟩
        case measure=>simp[intOf];omega
       ·obtain rfl:i2=m:=by omega
        go_wp2_with fail
        go_ret;refine⟨by rw[hq'.o];rfl,?_,hW.o.mv⟩;rw[a9S.o,←bG1.o];exact hW.o.ws
theorem aSK (zs:List QN) (K:Wc):∀f,PW zs K f:=by
 intro f;induction f with
 |zero=>intro w0 w no P d dv i _ _ _ _ _ hd;exact hd.elim
 |succ f ih=>exact aZ4 zs K f ih
