import Derived.Test.YtceclmpmpldmlaaGreatCz13
set_option linter.unusedSimpArgs false
set_option linter.unusedVariables false
namespace Go.Proofs.YtceclmpmpldmlaaGreat
open Go.RowKit Tt
abbrev dvA (ta:Option Addr) (tn tc:Nat) (sa:Option Addr) (sn sc:Nat) (ba:Option Addr) (bn bc:Nat):Array Value:=#[.slice ta tn tc,.slice sa sn sc,.slice ba bn bc]
abbrev svA (la:Option Addr) (ln lc:Nat) (sat jE nD:Int):Array Value:=#[.slice la ln lc,.int .i64 sat,.int .i64 jE,.int .i64 nD]
def PW (zs:List VQ) (K:Wc) (f:Nat):Prop:=∀(w0 w:World) (no:Int) (P:List Int) (d:jD f) (dv:Dz) (i:Nat),LP K w no P→ShR w0 K.qa K.qn K.qc zs→Below w0.heap.size w0 w→w0.heap.size≤K.gw→w0.heap.size≤K.gb→zS w0 f d dv→lC f d→pU f d→l9 (jN zs)=true→
 okW (jN zs) K.l K.n K.o f d no i→i<K.qn→0≤no→no+(jT f d).length<1000000→K.n≤1000000000000→
 Calls Tryz.prog 43 #[.pointer (some ⟨K.gw,0,none⟩),.agg #[dv.1,dv.2.1,dv.2.2],.int .i64 i] w fun e w'=>e= .returned (.int .i64 (oG K.l 2 no 0))∧LP K w' (no+(jT f d).length) (zQ (IQ (jN zs) K.l K.o f d no i) P)∧Mv K.gw K.gb sD sD w w'
set_option maxRecDepth 20000 in
set_option maxHeartbeats 8000000 in
theorem aWX (zs:List VQ) (K:Wc) (f:Nat) (ih:PW zs K f):PW zs K (f+1):=by
 intro w0 w no P d dv i hw hsh hb0 hgw hgb hd hs hby hok hW hi hno bBK hKn;have hzl:=hsh.len;obtain⟨ta,tn,tc,ts,sa,sn,sc,ds,ba,bn,bc,rfl,WV,hdt,hsl,hdl,hsub,hbl⟩:=hd;obtain⟨h1,h2,h3,h4⟩:=hs;obtain⟨hy1,hy2,hy3⟩:=hby;have htn:d.1.length=tn:=by rw[hdt,bX];exact WV.len
 have hsn:d.2.1.length=sn:=by rw[←hdl];exact hsl.uY oO (by decide)
 have hbn:d.2.2.length=bn:=hbl.nV;have bBL:tn≤500:=by omega
 have bBM:sn≤500:=by omega
 have b4K:bn≤1000000:=by omega
 have hmx:=hsh.row.max;have hle:=hsh.row.le;have hgs:(jN zs).getD i jM=(zs.getD i wR).2:=tZ (by rw[hzl];exact hi);have YH:=fun t=>PO (L:=jN zs) (i:=i) (t:=t) hok (by unfold jN;rw[bX,hzl];exact hi);have hsl2:(jN zs).length=K.qn:=by unfold jN;rw[bX];exact hzl
 have hD:=a2P (jN zs) K.l K.o f d no i;have hfl:(jT (f+1) d).length=(kD f d.2.1).length+1:=by rw[lN];rfl
 obtain⟨k1,k2,k3,k4,k5,k6,k7,k8,k9⟩:=Q6 hW;have hel:=LV f K.l K.o no ((jN zs).getD (i:Int).toNat jM) d;rw[bU]at hD k2 k4 k5 k6 k8 k9 hel;rw[htn,hsn,hbn]at hel;have PY:=hsh.at hi;obtain⟨b,o,hqa,hblt,fe⟩:=hsh.row.elem vN (by decide) wR hi;obtain⟨⟨⟨la,ln,lc⟩,⟨nH,sat,jE,nD⟩⟩,hz⟩:∃z,zs.getD i wR=z:=⟨_,rfl⟩;rw[hz]at fe hgs PY;simp only at hgs PY;rw[hgs]at hD k2 k4 k5 k6 k8 k9 YH hel;have f0:=late hb0 hblt (fe 0 _ rfl);have f1:=late hb0 hblt (fe 1 _ rfl);have f2:=late hb0 hblt (fe 2 _ rfl);have f3:=late hb0 hblt (fe 3 _ rfl);simp only[cK]at f0 f1 f2 f3;clear fe;have hin:(i:Int)<(K.qn:Int):=by omega
 have hi0:(0:Int)≤(i:Int):=by omega
 have a2N:b<w.heap.size:=cO hblt hb0.size;have hlt:=hw.ne_of;have hwn:=aB (no+1) (by omega);obtain⟨hg1,a9H⟩:=hlt;have hsb:=hw.a96;have c0:w.cell? ⟨K.gw,0,none⟩=some (.slice (some ⟨K.gb,0,none⟩) K.n K.n):=hw.blk.cell rfl;have c3:w.cell? ⟨K.gw,3,none⟩=some (.slice K.qa K.qn K.qc):=hw.blk.cell rfl;have c4:w.cell? ⟨K.gw,4,none⟩=some (.int .i64 no):=hw.blk.cell rfl;rw[hqa]at c3;have bA:=jJ.new w 26 #[.slice ta tn tc,.slice sa sn sc,.slice ba bn bc];obtain⟨W1,hW1⟩:=aC (w.alloc (.cells #[.slice ta tn tc,.slice sa sn sc,.slice ba bn bc] 26));have hb1:=aD w (.cells #[.slice ta tn tc,.slice sa sn sc,.slice ba bn bc] 26);have hs1:(w.alloc (.cells #[.slice ta tn tc,.slice sa sn sc,.slice ba bn bc] 26)).heap.size=w.heap.size+1:=by simp
 rw[hW1]at bA hb1 hs1;have hw1:=hw.later hb1;obtain⟨Ty,ff,hne,hbel,jH⟩:=jR W1;obtain⟨HS,HD⟩:=aF (jH _ ((aW _ _).drew)) ((aW W1.heap.size W1).drew);have hlt1:b<W1.heap.size:=by omega
 have q3:∀s,(ff s).cell? ⟨K.gw,3,none⟩=some (.slice K.qa K.qn K.qc):=fun s=>(hw1.blk.late (hbel s)).cell rfl;have q4:∀s,(ff s).cell? ⟨K.gw,4,none⟩=some (.int .i64 no):=fun s=>(hw1.blk.late (hbel s)).cell rfl;have r0:∀s,(ff s).cell? ⟨b,o+i*4,none⟩=some (.slice la ln lc):=fun s=>late (hbel s) hlt1 (late hb1 a2N f0);have r1:∀s,(ff s).cell? ⟨b,o+i*4+1,none⟩=some (.int .i64 sat):=fun s=>late (hbel s) hlt1 (late hb1 a2N f1);have r2:∀s,(ff s).cell? ⟨b,o+i*4+2,none⟩=some (.int .i64 jE):=fun s=>late (hbel s) hlt1 (late hb1 a2N f2);have r3:∀s,(ff s).cell? ⟨b,o+i*4+3,none⟩=some (.int .i64 nD):=fun s=>late (hbel s) hlt1 (late hb1 a2N f3);rw[hqa]at q3;clear c0 c3 c4 f0 f1 f2 f3;obtain⟨hw',hsh',oU,a4R,hdt',uE,AQ,wV,qY,h4',ih',hok'⟩:=aP hw hsh hb0 WV hdt hsl hdl hsub hbl h4 ih hok;obtain⟨mV,aNF,IJ,a4S,hgs',a5B,aHG,hD',b5A,k1',k2',k3'⟩:=aP hzl htn hsn hbn hgs YH hsl2 hD hfl k1 k2 k3;obtain⟨k4',k5',k6',k7',k8',k9',BR,hz',bTX,bLJ,bLK,bTY⟩:=aP k4 k5 k6 k7 k8 k9 PY hz hqa hy1 hy2 hy3;obtain⟨aOG,bA',hW',hb1',aWY,jG,jA,hW1'⟩:=aL hel bA hW hb1 hw1 hbel jH hW1;clear hw hsh hb0 WV hdt hsl hdl hsub hbl h4 ih hok hzl htn hsn hbn hgs YH hsl2 hD hfl k1 k2 k3 k4 k5 k6 k7 k8 k9 PY hz hqa hy1 hy2 hy3 hel bA hW hb1 hw1 hbel jH hW1;go_enter Tryz.func43,Tryz.ntmps43;go_wp2_with fail
 rw[hW1'.o];refine jU (S:=fun W=>∃s,W=ff s) (by kernel_rfl) 14 rfl ?_;refine jF [0,1,2,3,4,5,6,7,8,9,10] 3 (by kernel_rfl) (fun d _ _ _ _ h=>by cases d <;> exact h) (by kernel_rfl) (by kernel_rfl) (by kernel_rfl) HS.o ?_;simp only[jB,aS,aT,aQ,aR];iterate 11 (go_big_quiet_step (fail))
 refine wpQuiet_nil ?_;obtain⟨wD,tQ⟩:=aC W1.drew;rw[tQ]at HS HD ⊢;have hsD:wD.heap.size=w.heap.size+1:=by rw[←tQ];exact hs1
 have hA:=HD.o;clear tQ q3 q4 r0 r1 r2 r3;refine jC 11 2 (by kernel_rfl) (by kernel_rfl) ?_;simp only[jB,aS,aT,aQ,aR];go_wp2_with fail
 have bS:=jJ.new wD 35 #[.slice none 0 0,.int .i64 0,.int .i64 0,.int .i64 0];have hal:=hA.trans ((aD wD (.cells #[.slice none 0 0,.int .i64 0,.int .i64 0,.int .i64 0] 35)).mono hA.size);rw[hsD]at bS;obtain⟨W2,hW2⟩:=aC (wD.alloc (.cells #[.slice none 0 0,.int .i64 0,.int .i64 0,.int .i64 0] 35));have hs2:W2.heap.size=w.heap.size+2:=by rw[←hW2];simp;omega
 rw[hW2]at bS hal ⊢;have HS:=aA (jA.o _ hal);first|refine Mid.mk ⟨HS.o,?_⟩|refine Mid.mk ?_
 refine jF [12] 1 (by kernel_rfl) (fun d _ _ _ _ h=>by cases d <;> exact h) (by kernel_rfl) (by kernel_rfl) (by kernel_rfl) HS.o ?_;simp only[jB,aS,aT,aQ,aR];iterate 1 (go_big_quiet_step (fail))
 refine wpQuiet_nil ?_;have p0:W2.cell? ⟨w.heap.size+1,0,none⟩=some (.slice none 0 0):=bS.cell rfl;have p1:W2.cell? ⟨w.heap.size+1,1,none⟩=some (.int .i64 0):=bS.cell rfl;have p2:W2.cell? ⟨w.heap.size+1,2,none⟩=some (.int .i64 0):=bS.cell rfl;have p3:W2.cell? ⟨w.heap.size+1,3,none⟩=some (.int .i64 0):=bS.cell rfl;have y0:=bS.frozen 0;have y1:=bS.frozen 1;have y2:=bS.frozen 2;have y3:=bS.frozen 3;obtain⟨bS',oM,bC9,hA'⟩:=aH bS hal hW2 hA;clear bS hal hW2 hA;refine jC 13 0 (by kernel_rfl) (by kernel_rfl) ?_;simp only[jB,aS,aT,aQ,aR];go_wp2_with fail
 have bS:=(((bS'.o.set 0 (.slice la ln lc)).set 1 (.int .i64 sat)).set 2 (.int .i64 jE)).set 3 (.int .i64 nD);have hge:W1.heap.size≤w.heap.size+1:=by omega
 have WA:=(((oM.o.setCell (p:=⟨w.heap.size+1,0,none⟩) hge (.slice la ln lc)).setCell (p:=⟨w.heap.size+1,1,none⟩) hge (.int .i64 sat)).setCell (p:=⟨w.heap.size+1,2,none⟩) hge (.int .i64 jE)).setCell (p:=⟨w.heap.size+1,3,none⟩) hge (.int .i64 nD);obtain⟨W3,hW3⟩:∃W3,(((W2.setCell ⟨w.heap.size+1,0,none⟩ (.slice la ln lc)).setCell ⟨w.heap.size+1,1,none⟩ (.int .i64 sat)).setCell ⟨w.heap.size+1,2,none⟩ (.int .i64 jE)).setCell ⟨w.heap.size+1,3,none⟩ (.int .i64 nD)=W3:=⟨_,rfl⟩;have hs3:W3.heap.size=w.heap.size+2:=by rw[←hW3];simpa using hs2
 rw[hW3]at bS WA ⊢;have HS:=aA (jA.o _ WA);first|refine Mid.mk ⟨HS.o,?_⟩|refine Mid.mk ?_
 refine jK (by kernel_rfl) ?_;clear p0 p1 p2 p3 y0 y1 y2 y3 hs2 HD;have hw3:=aWY.o.later WA;have bA3:=bA'.o.late WA;have c4:W3.cell? ⟨K.gw,4,none⟩=some (.int .i64 no):=hw3.blk.cell rfl;have y4:=hw3.blk.frozen 4;have hno:=LP.no hw3 (no+1);have hwl:=bA3.lt;have a5E:=hno.1;have MJ:=(Mv.of_below (g:=K.gw) (gt:=K.gb) (sv:=sD) (hb1'.o.tm WA)).trans hno.2;have bA4:=Mv.blk hno.2 bA3 (by omega) (by omega);have bS4:=Mv.blk hno.2 bS (by omega) (by omega);obtain⟨W4,hW4⟩:=aC (W3.setCell ⟨K.gw,4,none⟩ (.int .i64 (no+1)));have hs4:W4.heap.size=w.heap.size+2:=by rw[←hW4];simpa using hs3
 have aWZ:(W3.setCell ⟨K.gw,4,none⟩ (.int .i64 (no+1))).heap.size=w.heap.size+2:=by simpa using hs3
 rw[hW4]at a5E MJ bA4 bS4;have hb5:=aD W4 (.cells #[.slice none 0 0] 154);have bl:=jJ.new W4 154 #[.slice none 0 0];have aX0:WIn K w (W4.alloc (.cells #[.slice none 0 0] 154)) (no+1) P w.heap.size (w.heap.size+1) (w.heap.size+2) (dvA ta tn tc sa sn sc ba bn bc) (svA la ln lc sat jE nD) sD []:=
  ⟨a5E.later hb5,bA4.late hb5,bS4.late hb5,by rw[←hs4];exact bl,kC _ _ _ _,MJ.later hb5⟩
 obtain⟨W5,hW5⟩:=aC (W4.alloc (.cells #[.slice none 0 0] 154));rw[hW5]at aX0;have d0:W5.cell? ⟨w.heap.size,0,none⟩=some (.slice ta tn tc):=aX0.bA.cell rfl;rw[←hW5,←hW4]at d0;obtain⟨b0D,bLL,bS',WE,aKB,bCA,bCB,hno',bCC,a1E,a1L,bLM⟩:=aP WA hW3 bS hw3 bA3 hW4 hW5 hno a5E MJ bA4 bS4;obtain⟨EW,bl',b0E⟩:=aG hb5 bl aX0;clear WA hW3 bS hw3 bA3 hW4 hW5 hno a5E MJ bA4 bS4 hb5 bl aX0;go_wp2_with fail
 rw[bCA.o,bCB.o];clear d0 aWZ hs4 hs3 bS' WE aKB bLL b0D hno' bCC a1E a1L bLM EW bl' bCA bCB bC9 oM hA' hW1' aWY hb1' bA' y4 c4;go_loopw [44] (fun iv wr=>∃(k:Nat) (v:Value),k≤tn∧iv= .int .i64 k∧Hid (WIn K w wr (no+1) (zQ ((d.1.take k).flatMap (zV K.l K.o no)) P) w.heap.size (w.heap.size+1) (w.heap.size+2) (dvA ta tn tc sa sn sc ba bn bc) (svA la ln lc sat jE nD) v ((d.1.take k).map (JH K.l K.o no)))) (fun iv _=>tn - (intOf iv).toNat)
 case atStart=>exact⟨0,sD,by omega,rfl,b0E⟩
 case round=>
  obtain⟨k,v,hk,rfl,hW⟩:=hrel;by_cases hlt:k<tn
  ·
   have hil:(k:Int)<(tn:Int):=by omega
   have hw1:IntKind.i64.wrap ((k:Int)+1)=k+1:=by rw[aY];omega
   have hbr:=oU.o.trans (hW.o.mv.below (B:=w0.heap.size) hgw hgb (fun k e=>by cases e) oU.o.size);obtain⟨b2,o2,rfl,NA,f0,f1,f2,f3,hrd⟩:=a4R.o.at hlt;have f0:=late hbr NA f0;have f1:=late hbr NA f1;have f2:=late hbr NA f2;have f3:=late hbr NA f3;have hkd:k<d.1.length:=by rw[aNF.o];exact hlt
   have hgx:d.1[k]=mE (ts.getD k D5):=by
    have h1:k<ts.length:=by rw[a4R.o.len];exact hlt
    simp only[hdt'.o,fD];rw[jI h1]
   have hpt:=aKE K.l K.o no d.1 hkd;have het:=aKF K.l K.o no d.1 hkd;have hk1:=k1'.o _ (bL hkd);have aX1:=bLJ.o _ (bL hkd);obtain⟨⟨⟨y,t,cn,xa,xn,xc⟩,dd⟩,hzi⟩:∃z,ts.getD k D5=z:=⟨_,rfl⟩;rw[hzi]at f0 f1 f2 f3 hrd hgx;simp only[mE]at f0 f1 f2 f3 hrd hgx;rw[hgx]at hpt het hk1 aX1;have hxn:xn≤1000000000:=by have:=hrd.nV;have:=hk1.2;simp only at this;omega
   have hal:=aD wr (.cells #[.int .i64 y,.int .i64 t,.int .i64 cn,.slice xa xn xc] 74);have bk:=jJ.new wr 74 #[.int .i64 y,.int .i64 t,.int .i64 cn,.slice xa xn xc];have hin1:=hW.o.later hal;have aE8:=hbr.tm hal;have hV:=aDX K _ (no+1) no _ hin1.ws y t cn xa xn xc dd w0 hrd aE8 hgw hgb aX1 hxn hk1.1;have hwr:=hW.o.mv.size;obtain⟨a4P,a4J,bTZ,b4Q,bLN,bU0,bRJ,aWB,oM,bk',aOH,aOI⟩:=aP hbr hrd hgx hpt het hk1 aX1 hzi hal bk hin1 aE8;have hV':=aA hV;clear hbr hrd hgx hpt het hk1 aX1 hzi hal bk hin1 aE8 hV;go_wp2_with fail
   refine hV'.o.mono ?_;rintro e w2 ⟨x0,x1,x2,x3,rfl,hent,b5E,hm2⟩;have hin2:=aOH.o.turn b5E hm2 (by omega) (by omega) (by omega) (by omega) (by omega);have ha2:=aD w2 (.cells #[.int .i64 x0,.int .i64 x1,.int .i64 x2,.int .i64 x3] 55);have BU:=hin2.later ha2;clear f0 f1 f2 f3;have hsl1:=Sl.new w2 55 4 1 #[.int .i64 x0,.int .i64 x1,.int .i64 x2,.int .i64 x3] (0,0) (by omega) rfl;have hwr2:=hin2.mv.size;have hC:=a4Y w.heap.size (w.heap.size+2) _ [(x0,x1,x2,x3)] v _ 1 1 _ BU.bl BU.ow (nL BU.ow BU.bl (by decide)) (by have:=BU.mv.size;omega) (by simpa [fl,mY] using hsl1) (by omega) (by simp;omega);obtain⟨a9I,bRK,VN,XP,aHI,bU1,b0F,hC'⟩:=aL hent b5E hm2 hin2 BU ha2 hsl1 hC;clear hent b5E hm2 hin2 BU ha2 hsl1 hC;go_wp2_with fail
   refine hC'.o.mono ?_;rintro e w4 ⟨v4,rfl,hl4,SF,aX2,MJ⟩;have yC:=aHI.o.add hl4 SF MJ (by omega) (by omega) (by omega) (by omega) (by omega) (by omega);rw[a9I.o,←bLN.o,←o8,←b4Q.o]at yC;obtain⟨a2R,b4Y,a4G,bRL,a1E⟩:=aI yC hl4 SF aX2 MJ;clear yC hl4 SF aX2 MJ;go_wp2_with fail
   go_roundw
   case rel=>exact⟨k+1,v4,by omega,by go_num,a2R⟩
   case measure=>simp[intOf];omega
  ·obtain rfl:k=tn:=by omega
   have hfull:d.1.take k=d.1:=bP (by rw[aNF.o];omega);rw[hfull]at hW;obtain⟨P1,hP1⟩:=aC (zQ (d.1.flatMap (zV K.l K.o no)) P);obtain⟨E1,hE1⟩:=aC (d.1.map (JH K.l K.o no));rw[hP1,hE1]at hW;have bLO:E1.length=k:=by rw[←hE1,bX];exact aNF.o
   have d1:wr.cell? ⟨w.heap.size,1,none⟩=some (.slice sa sn sc):=hW.o.bA.cell rfl;clear hfull b0E;obtain⟨bLP,bLQ⟩:=aF hP1 hE1;clear hP1 hE1;go_wp2_with fail
   clear d1;go_loopw [59] (fun iv wr=>∃(j:Nat) (v:Value),j≤sn∧iv= .int .i64 j∧Hid (WIn K w wr (pQ f d.2.1 no j) (zQ (GI (IQ (jN zs) K.l K.o f) (nH,sat,jE,nD) d.2.1 no j) P1) w.heap.size (w.heap.size+1) (w.heap.size+2) (dvA ta k tc sa sn sc ba bn bc) (svA la ln lc sat jE nD) v (E1++EG f K.l d.2.1 no j))) (fun iv _=>sn - (intOf iv).toNat)
   case atStart=>
    refine⟨0,v,by omega,rfl,?_⟩;have e1:pQ f d.2.1 no 0=no+1:=by simp[pQ,kD]
    have e2:GI (IQ (jN zs) K.l K.o f) (nH,sat,jE,nD) d.2.1 no 0= []:=rfl;have e3:E1++EG f K.l d.2.1 no 0=E1:=by simp[EG]
    rw[e1,e2,e3];exact hW
   case round=>
    clear hW;obtain⟨j,v,hj,rfl,hW⟩:=hrel;by_cases hlt:j<sn
    ·
     have hil:(j:Int)<(sn:Int):=by omega
     have hw1:IntKind.i64.wrap ((j:Int)+1)=j+1:=by rw[aY];omega
     have hbr:=oU.o.trans (hW.o.mv.below (B:=w0.heap.size) hgw hgb (fun k e=>by cases e) oU.o.size);have hid:j<d.2.1.length:=by rw[IJ.o];exact hlt
     have p9:j<ds.length:=by rw[AQ.o];exact hid
     obtain⟨xb,xo,rfl,NA,fe⟩:=uE.o.elem oO (by decide) (0,(.slice none 0 0,.slice none 0 0,.slice none 0 0)) hlt;rw[jI p9]at fe;obtain⟨hq1,hq2⟩:=wV.o j p9 hid;obtain⟨ua,un,uc,ra,rn,rc,xa,xn,xc,hv⟩:=hq2.v;have g0:=late hbr NA (fe 0 _ rfl);have g1:=late hbr NA (fe 1 _ rfl);have g2:=late hbr NA (fe 2 _ rfl);have g3:=late hbr NA (fe 3 _ rfl);simp only[cK]at g0 g1 g2 g3;clear fe;rw[hv]at hq2 g1 g2 g3;rw[hq1]at g0;simp only at g0 g1 g2 g3;have hgd:d.2.1.getD j (0,jS f)=d.2.1[j]:=jI hid _;have hNs:=LU f d.2.1 no hid;have hNl:=DR f d.2.1 no j;have aX3:=DR f d.2.1 no (j+1);have hPs:=aKD (IQ (jN zs) K.l K.o f) (nH,sat,jE,nD) d.2.1 no j;have BV:=a2Q f K.l d.2.1 no j;obtain⟨hlk,hkW⟩:=k2'.o j hid;have PZ:=a5B.o (d.2.1.getD j (0,jS f)).1 hlk;rw[aHG.o]at PZ;have hsm:lC f d.2.1[j].2:=h4'.o _ (bL hid);have JL:pU f d.2.1[j].2:=bLK.o _ (bL hid);have hEx:aKC f K.l d.2.1 no j=((d.2.1.getD j (0,jS f)).1,4,1,oG K.l 2 (pQ f d.2.1 no j) 0):=rfl;rw[hgd]at hNs hPs hlk hkW PZ hEx;obtain⟨y,hy⟩:=aC (d.2.1[j].1);obtain⟨dd,hdd⟩:=aC (d.2.1[j].2);rw[hy]at g0 hPs hlk hkW PZ hEx;rw[hdd]at hq2 hNs hPs hkW hsm JL;obtain⟨ns,hns⟩:=aC (pQ f d.2.1 no j);rw[hns]at hNs hPs hkW hEx hNl hW;obtain⟨si,hsi⟩:∃si:Nat,qH (nH,sat,jE,nD) y=si:=⟨(qH (nH,sat,jE,nD) y).toNat,by omega⟩;have hsI:qH (nH,sat,jE,nD) y=(nH.getD (fst (fun z=>z.1==y) nH).toNat (0,0)).2:=rfl;rw[hsi]at hkW PZ hPs hsI;have hlP:=yI (p:=fun(z:Lk)=>z.1==y) (l:=nH);have hlk2:kT (nH,sat,jE,nD) y=nH.any fun z=>z.1==y:=rfl;rw[←hlk2,hlk,decide_eq_true_eq]at hlP;have hfb:=G9 (p:=fun(z:Lk)=>z.1==y) (l:=nH);obtain⟨kx,hkx⟩:∃kx:Nat,fst (fun(z:Lk)=>z.1==y) nH=kx:=⟨(fst (fun(z:Lk)=>z.1==y) nH).toNat,by omega⟩;have a5D:=BR.o.uY qD (by decide);rw[hkx]at hsI hfb;rw[bU]at hsI;rw[a5D]at hfb;have hal:=aD wr (.cells #[.int .i64 y,.slice ua un uc,.slice ra rn rc,.slice xa xn xc] 28);have b5:=jJ.new wr 28 #[.int .i64 y,.slice ua un uc,.slice ra rn rc,.slice xa xn xc];have hin1:=hW.o.later hal;have aE8:=hbr.tm hal;have hIX:=aKG (.pointer (some ⟨wr.heap.size,0,none⟩)) la ln lc nH (fun z=>z.1==y) _ (BR.o.mono aE8) (fun W' x hb=>aWR _ y x.1 x.2 W' (late hb b5.lt (b5.cell rfl)) (cO b5.lt hb.size));rw[hkx]at hIX;have hwr:=hW.o.mv.size;have k0:wr.cell? ⟨w.heap.size+1,0,none⟩=some (.slice la ln lc):=hW.o.bS.cell rfl;have hSl:w.heap.size+1<wr.heap.size:=hW.o.bS.lt;have hGl:w.heap.size+2<wr.heap.size:=hW.o.bl.lt;have hln:ln≤9223372036854775807:=bK BR.o.le BR.o.max;have bLR:kx<ln:=by omega
     have bU2:(kx:Int)<(ln:Int):=by omega
     have bU3:(0:Int)≤(kx:Int):=by omega
     obtain⟨a4P,bC7,EQ,hv',hgd',aKH,bLS,bCD,bLT,TH,aJK,bLU⟩:=aP hbr hq1 hq2 hv hgd hNs hNl aX3 hPs BV hlk hkW;obtain⟨Q5,NS,Q0,bLV,hy',aWW,bCE,aKI,aE5,bRM,a2O,oM⟩:=aP PZ hsm JL hEx hy hdd hns hsi hsI hlk2 a5D hal;obtain⟨b5',aOH,aOI,aOB,bU4⟩:=aI b5 hin1 aE8 hIX hkx;clear hbr hq1 hq2 hv hgd hNs hNl aX3 hPs BV hlk hkW PZ hsm JL hEx hy hdd hns hsi hsI hlk2 a5D hal b5 hin1 aE8 hIX hkx;go_wp2_with fail
     refine aOB.o.mono ?_;rintro e w5 ⟨rfl,hb5⟩;have hin2:=aOH.o.later hb5;have b52:=b5'.o.late hb5;clear g0 g1 g2 g3 k0;obtain⟨g5,hg5⟩:=aC wr.heap.size;rw[hg5]at b52 ⊢;have AR:=aOI.o.tm hb5;obtain⟨b3,o3,hla,JK,fe⟩:=BR.o.elem qD (by decide) (0,0) bLR;subst hla;have l1:=fe 1 _ rfl;rw[←aE5.o]at l1;clear fe;have hC5:jJ w5 (w.heap.size+1) 35 (svA (some ⟨b3,o3,none⟩) ln lc sat jE nD)∧jJ w5 g5 28 #[.int .i64 y,.slice ua un uc,.slice ra rn rc,.slice xa xn xc]∧w5.cell? ⟨b3,o3+kx*2+1,none⟩=some (.int .i64 si):=⟨hin2.bS,b52,late AR JK l1⟩;obtain⟨Ty,ff,hne,hcl,jH⟩:=nM (fun W=>jJ W (w.heap.size+1) 35 (svA (some ⟨b3,o3,none⟩) ln lc sat jE nD)∧jJ W g5 28 #[.int .i64 y,.slice ua un uc,.slice ra rn rc,.slice xa xn xc]∧W.cell? ⟨b3,o3+kx*2+1,none⟩=some (.int .i64 si)) w5 hC5;have EX:=(aW w5.heap.size w5).drew;have IU:=hin2.later EX;have hC6:=jH w5.drew ⟨hC5.1.late EX,hC5.2.1.late EX,by exact hC5.2.2⟩;have HS:=aA hC6;have O1:=AR.tm EX;have b56:=b52.late EX;have l16:w5.drew.cell? ⟨b3,o3+kx*2+1,none⟩=some (.int .i64 si):=hC5.2.2;have q0:∀s,(ff s).cell? ⟨w.heap.size+1,0,none⟩=some (.slice (some ⟨b3,o3,none⟩) ln lc):=fun s=>(hcl s).1.cell rfl;have q1:∀s,(ff s).cell? ⟨g5,0,none⟩=some (.int .i64 y):=fun s=>(hcl s).2.1.cell rfl;have q2:∀s,(ff s).cell? ⟨g5,1,none⟩=some (.slice ua un uc):=fun s=>(hcl s).2.1.cell rfl;have q3:∀s,(ff s).cell? ⟨g5,2,none⟩=some (.slice ra rn rc):=fun s=>(hcl s).2.1.cell rfl;have q4:∀s,(ff s).cell? ⟨g5,3,none⟩=some (.slice xa xn xc):=fun s=>(hcl s).2.1.cell rfl;have q5:∀s,(ff s).cell? ⟨b3,o3+kx*2+1,none⟩=some (.int .i64 si):=fun s=>(hcl s).2.2;obtain⟨wD,tQ⟩:=aC w5.drew;rw[tQ]at IU HS O1 b56 l16;have hI:=ih'.o w0 wD ns _ dd (.slice ua un uc,.slice ra rn rc,.slice xa xn xc) si IU.ws hsh'.o O1 hgw hgb EQ.o NS.o Q0.o hok'.o bLU.o (by have:=Q5.o;omega) (by have:=bLS.o;omega) (by have:=aKH.o;have:=bCD.o;have:=b5A.o;omega) hKn;simp only at hI;obtain⟨bLW,aKJ,bU5,hcl',jA,XP,bU6,BS,EW,l1',Q7,bLX⟩:=aP hC5 EX hC6 hcl jH hin2 b52 AR hb5 l1 IU b56;obtain⟨bLY,hI',xU⟩:=aG l16 hI O1;clear hC5 EX hC6 hcl jH hin2 b52 AR hb5 l1 IU b56 l16 hI O1;go_wp2_with fail
     refine jU (S:=fun W=>∃s,W=ff s) (by kernel_rfl) 16 rfl ?_;rw[tQ];refine jF [0,1,2,3,4,5,6,7,8,9,10,11] 4 (by kernel_rfl) (fun d _ _ _ _ h=>by cases d <;> exact h) (by kernel_rfl) (by kernel_rfl) (by kernel_rfl) HS.o ?_;simp only[jB,aS,aT,aQ,aR];iterate 12 (go_big_quiet_step (fail))
     refine wpQuiet_nil ?_;clear q0 q1 q2 q3 q4 q5 tQ;refine jC 12 3 (by kernel_rfl) (by kernel_rfl) ?_;simp only[jB,aS,aT,aQ,aR];go_wp2_with fail
     refine hI'.o.mono ?_;rintro e w6 ⟨rfl,b5F,hm6⟩;have yO:=Q7.o.turn b5F hm6 (by omega) (by omega) (by omega) (by omega) (by omega);have b57:=Mv.blk hm6 bLX.o (by omega) (by omega);have l17:=Mv.cell hm6 (p:=⟨b3,o3+kx*2+1,none⟩) (by show b3<_;have:=xU.o.size;omega) (by show b3≠_;omega) (by show b3≠_;omega) bLY.o;have HS:=aA (jA.o _ ⟨yO.bS,b57,l17⟩);have HL:=fun W=>NW y (oG K.l 2 ns 0) W;obtain⟨bRN,bL6,JA,bLZ,bM0,HL'⟩:=aJ b5F hm6 yO b57 l17 HL;clear b5F hm6 yO b57 l17 HL;go_wp2_with fail
     first|refine Mid.mk ⟨HS.o,?_⟩|refine Mid.mk ?_
     refine jC 13 2 (by kernel_rfl) (by kernel_rfl) ?_;simp only[jB,aS,aT,aQ,aR];go_wp2_with fail
     refine(HL'.o _).mono ?_;rintro e w7 ⟨rfl,rP⟩;have MP:=JA.o.later rP;have b58:=bLZ.o.late rP;have l18:=late rP (p:=⟨b3,o3+kx*2+1,none⟩) (by show b3<_;have:=xU.o.size;have:=JA.o.mv.size;omega) bM0.o;obtain⟨HS,sS,EY,bCF,bM1⟩:=aI (jA.o _ ⟨MP.bS,b58,l18⟩) rP MP b58 l18;clear rP MP b58 l18;go_wp2_with fail
     first|refine Mid.mk ⟨HS.o,?_⟩|refine Mid.mk ?_
     refine jC 14 1 (by kernel_rfl) (by kernel_rfl) ?_;simp only[jB,aS,aT,aQ,aR];go_wp2_with fail
     have bU7:=EY.o.mv.size;have hsl1:=Sl.new w7 55 4 1 #[.int .i64 y,.int .i64 4,.int .i64 1,.int .i64 (oG K.l 2 ns 0)] (0,0) (by omega) rfl;have ha7:=aD w7 (.cells #[.int .i64 y,.int .i64 4,.int .i64 1,.int .i64 (oG K.l 2 ns 0)] 55);have yS:=EY.o.later ha7;have b59:=bCF.o.late ha7;have l19:=late ha7 (p:=⟨b3,o3+kx*2+1,none⟩) (by show b3<_;have:=xU.o.size;have:=JA.o.mv.size;omega) bM1.o;have HS:=aA (jA.o _ ⟨yS.bS,b59,l19⟩);have hg7:g5<w7.heap.size:=bCF.o.lt;have hC:=a4Y w.heap.size (w.heap.size+2) _ [(y,4,1,oG K.l 2 ns 0)] v _ 1 1 _ yS.bl yS.ow (nL yS.ow yS.bl (by decide)) (by have:=yS.mv.size;omega) (by simpa [fl,mY] using hsl1) (by omega) (by rw[bO,bLO,a9G];omega);obtain⟨b0F,bU8,V3,bCG,bM2,hC'⟩:=aJ hsl1 ha7 yS b59 l19 hC;clear hsl1 ha7 yS b59 l19 hC;first|refine Mid.mk ⟨HS.o,?_⟩|refine Mid.mk ?_
     refine jC 15 0 (by kernel_rfl) (by kernel_rfl) ?_;simp only[jB,aS,aT,aQ,aR];go_wp2_with fail
     refine hC'.o.mono ?_;rintro e w8 ⟨v8,rfl,hl8,ho8,bCH,hm8⟩;have xV:=V3.o.add hl8 ho8 hm8 (by omega) (by omega) (by omega) (by omega) (by omega) (by omega);have aOJ:=hm8.below (B:=w.heap.size) (by omega) (by omega) (fun k e=>(V3.o.ow.lt k e).1) V3.o.mv.size;have b60:=bCG.o.mv hm8 (by omega) (by omega) (nL V3.o.ow bCG.o (by decide));have l20:=aE7 aOJ (p:=⟨b3,o3+kx*2+1,none⟩) (by show b3<_;omega) bM2.o;have HS:=aA (jA.o _ ⟨xV.bS,b60,l20⟩);have b0G:WIn K w w8 (pQ f d.2.1 no (j+1)) (zQ (GI (IQ (jN zs) K.l K.o f) (nH,sat,jE,nD) d.2.1 no (j+1)) P1) w.heap.size (w.heap.size+1) (w.heap.size+2) (dvA ta k tc (some ⟨xb,xo,none⟩) sn sc ba bn bc) (svA (some ⟨b3,o3,none⟩) ln lc sat jE nD) v8 (E1++EG f K.l d.2.1 no (j+1)):=by
      rw[aKH.o,bLT.o,o8,TH.o,bLV.o,←dB];exact xV
     obtain⟨YJ,bM3,bU9,bUA,b5G,bUB,bUC,bRO,bBO⟩:=aM xV aOJ b60 l20 b0G hl8 ho8 bCH hm8;clear xV aOJ b60 l20 b0G hl8 ho8 bCH hm8;go_wp2_with fail
     first|refine Mid.mk ⟨HS.o,?_⟩|refine Mid.mk ?_
     refine jK (by kernel_rfl) ?_;go_wp2_with fail
     go_roundw
     case rel=>exact⟨j+1,v8,by omega,by go_num,b5G⟩
     case measure=>simp[intOf];omega
    ·obtain rfl:j=sn:=by omega
     obtain⟨n2,hn2⟩:=aC (pQ f d.2.1 no j);obtain⟨P2,hP2⟩:=aC (zQ (GI (IQ (jN zs) K.l K.o f) (nH,sat,jE,nD) d.2.1 no j) P1);obtain⟨E2,hE2⟩:=aC (E1++EG f K.l d.2.1 no j);have hnN:n2=no+(jT (f+1) d).length:=by
      have h:=a9F f d.2.1 no;rw[IJ.o,hn2]at h;rw[h,b5A.o];omega
     rw[hn2,hP2,hE2]at hW;have hDw:zQ (IQ (jN zs) K.l K.o (f+1) d no i) P=zQ (N9 K.l K.o no (mR f K.l K.o no (nH,sat,jE,nD) d)) (zQ (xS K.l d.2.2 no) P2):=by
      rw[hD'.o,IJ.o,o8,o8,o8,bLP.o,hP2]
     have hEd:mR f K.l K.o no (nH,sat,jE,nD) d=E2++xR K.l (nH,sat,jE,nD) d.2.2 no:=by
      unfold mR;rw[IJ.o,bLQ.o,hE2]
     obtain⟨m,hm⟩:∃m,(mR f K.l K.o no (nH,sat,jE,nD) d).length=m:=⟨_,rfl⟩;have hm1:=k5'.o;have hm2:=k6'.o;have hF:=k4'.o;rw[hm]at hm1 hm2 hF;obtain⟨hfa,hf0,hfn⟩:=hF;obtain⟨q,hq⟩:∃q:Nat,oG K.l 2 no 0=q:=⟨(oG K.l 2 no 0).toNat,by omega⟩;rw[hq,bU]at hfn;have d2:wr.cell? ⟨w.heap.size,2,none⟩=some (.slice ba bn bc):=hW.o.bA.cell rfl;obtain⟨bUD,bCI,bUE,bCJ,bCK,b5H,hm',aNY,hq'⟩:=aM hn2 hP2 hE2 hnN hDw hEd hm hfa hq;clear hn2 hP2 hE2 hnN hDw hEd hm hfa hq;by_cases a8U:0<bn
     ·have hdc:decide ((0:Int)<bn)=true:=by simp;omega
      have hFb:=k3'.o (by rw[a4S.o];exact a8U);rw[a4S.o]at hFb;obtain⟨hba,hbf,bM4⟩:=hFb;obtain⟨q2,hq2⟩:∃q2:Nat,oG K.l 4 no 0=q2:=⟨(oG K.l 4 no 0).toNat,by omega⟩;rw[hq2,bU]at bM4;have b5I:=LQ K wr n2 P2 hW.o.ws 4 no 0 hba;rw[hq2]at b5I;obtain⟨bUF,EQ,bCL⟩:=aG hba hq2 b5I;clear hba hq2 b5I;go_wp2_with fail
      refine bCL.o.mono ?_;rintro e w3 ⟨rfl,hb3⟩;have BU:=hW.o.later hb3;have EX:=(aW w3.heap.size w3).drew;have yC:=BU.later EX;have hC3:jJ w3 w.heap.size 26 (dvA ta k tc sa j sc ba bn bc)∧jJ w3 K.gw 91 #[.slice (some ⟨K.gb,0,none⟩) K.n K.n,.int .i64 K.o,.slice K.spa K.spn K.spc,.slice K.qa K.qn K.qc,.int .i64 n2]:=⟨BU.bA,BU.ws.blk⟩;obtain⟨Ty,ff,hne,hcl,jH⟩:=nM (fun W=>jJ W w.heap.size 26 (dvA ta k tc sa j sc ba bn bc)∧jJ W K.gw 91 #[.slice (some ⟨K.gb,0,none⟩) K.n K.n,.int .i64 K.o,.slice K.spa K.spn K.spc,.slice K.qa K.qn K.qc,.int .i64 n2]) w3 hC3;have HS:=aA (jH w3.drew ⟨yC.bA,yC.ws.blk⟩);have q0:∀s,(ff s).cell? ⟨w.heap.size,2,none⟩=some (.slice ba bn bc):=fun s=>(hcl s).1.cell rfl;have q1:∀s,(ff s).cell? ⟨K.gw,0,none⟩=some (.slice (some ⟨K.gb,0,none⟩) K.n K.n):=fun s=>(hcl s).2.cell rfl;have hlow:=fun W=>Y8 (P:=Tryz.prog) (T:=24) (E:=5) Tryz.underlying24 a97 K.gb K.n q2 (by omega) W;obtain⟨wD,tQ⟩:=aC w3.drew;rw[tQ]at yC HS;have b5J:=oU.o.trans (yC.mv.below (B:=w0.heap.size) hgw hgb (fun k e=>by cases e) oU.o.size);obtain⟨w5,hr5,b5K,hm5,Q8⟩:=ES yC.ws ba bn bc _ (qY.o.mono b5J) q2 (by omega) (by omega) 3;have Q9:=yC.turn b5K hm5 hg1 a9H (aU _) (by omega) (by omega);have HS5:=aA (jH _ ⟨Q9.bA,Q9.ws.blk⟩);clear d2;obtain⟨sO,aHI,aKJ,a2R,aE2,hcl',jA,bRP,bRQ,bBN,bRR,YK⟩:=aP hb3 BU EX yC hC3 hcl jH b5J b5K hm5 Q8 Q9;clear hb3 BU EX yC hC3 hcl jH b5J b5K hm5 Q8 Q9;go_wp2_with fail
      refine jU (S:=fun W=>∃s,W=ff s) (by kernel_rfl) 10 rfl ?_;rw[tQ];refine jF [0,1,2,3,4,5,6,7,8] 1 (by kernel_rfl) (fun d _ _ _ _ h=>by cases d <;> exact h) (by kernel_rfl) (by kernel_rfl) (by kernel_rfl) HS.o ?_;simp only[jB,aS,aT,aQ,aR];iterate 9 (go_big_quiet_step (fail))
      refine wpQuiet_nil ?_;clear q0 q1 tQ;refine jC 9 0 (by kernel_rfl) (by kernel_rfl) ?_;simp only[jB,aS,aT,aQ,aR];go_wp2_with (at_builtin;refine wpList_copy_run _ rfl _ _ _ _ rfl _ _ rfl rfl hr5 ?_)
      first|refine Mid.mk ⟨HS5.o,?_⟩|refine Mid.mk ?_
      refine jK (by kernel_rfl) ?_;clear hr5 hlow HS HS5 hcl' jA;have b5L:=(aW w5.heap.size w5).drew;have IU:=YK.o.later b5L;have hC5:jJ w5 w.heap.size 26 (dvA ta k tc sa j sc ba bn bc)∧jJ w5 (w.heap.size+1) 35 (svA la ln lc sat jE nD):=⟨YK.o.bA,YK.o.bS⟩;obtain⟨Ty,ff,hne,hcl,jH⟩:=nM (fun W=>jJ W w.heap.size 26 (dvA ta k tc sa j sc ba bn bc)∧jJ W (w.heap.size+1) 35 (svA la ln lc sat jE nD)) w5 hC5;have HS:=aA (jH w5.drew ⟨IU.bA,IU.bS⟩);have q0:∀s,(ff s).cell? ⟨w.heap.size,2,none⟩=some (.slice ba bn bc):=fun s=>(hcl s).1.cell rfl;have q1:∀s,(ff s).cell? ⟨w.heap.size+1,1,none⟩=some (.int .i64 sat):=fun s=>(hcl s).2.cell rfl;have q2_:∀s,(ff s).cell? ⟨w.heap.size+1,2,none⟩=some (.int .i64 jE):=fun s=>(hcl s).2.cell rfl;obtain⟨wE,hwE⟩:=aC w5.drew;rw[hwE]at IU HS;obtain⟨bRS,Q7,bLW,hcl',jA⟩:=aI b5L IU hC5 hcl jH;clear b5L IU hC5 hcl jH;go_wp2_with fail
      refine jU (S:=fun W=>∃s,W=ff s) (by kernel_rfl) 13 rfl ?_;rw[hwE];refine jF [0,1,2,3,5,6,7,8,9] 4 (by kernel_rfl) (fun d _ _ _ _ h=>by cases d <;> exact h) (by kernel_rfl) (by kernel_rfl) (by kernel_rfl) HS.o ?_;simp only[jB,aS,aT,aQ,aR];iterate 9 (go_big_quiet_step (fail))
      refine wpQuiet_nil ?_;clear q0 q1 q2_ hwE;refine jC 4 3 (by kernel_rfl) (by kernel_rfl) ?_;simp only[jB,aS,aT,aQ,aR];go_wp2_with fail
      refine(NW sat q2 _).mono ?_;rintro e w7 ⟨rfl,rP⟩;have yO:=Q7.o.later rP;obtain⟨HS,sS,JA⟩:=aG (jA.o _ ⟨yO.bA,yO.bS⟩) rP yO;clear rP yO;go_wp2_with fail
      first|refine Mid.mk ⟨HS.o,?_⟩|refine Mid.mk ?_
      refine jC 10 2 (by kernel_rfl) (by kernel_rfl) ?_;simp only[jB,aS,aT,aQ,aR];go_wp2_with fail
      refine(NW jE bn _).mono ?_;rintro e w8 ⟨rfl,oV⟩;have MP:=JA.o.later oV;obtain⟨HS,T9,EY⟩:=aG (jA.o _ ⟨MP.bA,MP.bS⟩) oV MP;clear oV MP;go_wp2_with fail
      first|refine Mid.mk ⟨HS.o,?_⟩|refine Mid.mk ?_
      refine jC 11 1 (by kernel_rfl) (by kernel_rfl) ?_;simp only[jB,aS,aT,aQ,aR];go_wp2_with fail
      have bUG:=EY.o.mv.size;have hsl1:=Sl.new w8 55 4 2 #[.int .i64 sat,.int .i64 4,.int .i64 1,.int .i64 q2,.int .i64 jE,.int .i64 4,.int .i64 1,.int .i64 bn] (0,0) (by omega) rfl;have ha8:=aD w8 (.cells #[.int .i64 sat,.int .i64 4,.int .i64 1,.int .i64 q2,.int .i64 jE,.int .i64 4,.int .i64 1,.int .i64 bn] 55);have yS:=EY.o.later ha8;have HS:=aA (jA.o _ ⟨yS.bA,yS.bS⟩);have bUH:E2.length≤100000:=by
       have h1:=b5H.o;have h2:=hm'.o;rw[h1,bO]at h2;omega
      have hC:=a4Y w.heap.size (w.heap.size+2) E2 [(sat,4,1,q2),(jE,4,1,bn)] v _ 2 2 _ yS.bl yS.ow (nL yS.ow yS.bl (by decide)) (by have:=yS.mv.size;omega) (by simpa [fl,mY] using hsl1) (by omega) (by omega);obtain⟨b0F,bUI,V3,hC'⟩:=aH hsl1 ha8 yS hC;clear hsl1 ha8 yS hC;first|refine Mid.mk ⟨HS.o,?_⟩|refine Mid.mk ?_
      refine jC 12 0 (by kernel_rfl) (by kernel_rfl) ?_;simp only[jB,aS,aT,aQ,aR];go_wp2_with fail
      refine hC'.o.mono ?_;rintro e w9 ⟨v9,rfl,hl9,MK,bCM,hm9⟩;have xV:=V3.o.add hl9 MK hm9 hg1 a9H hsb (by omega) (by omega) (by omega);have HS:=aA (jA.o _ ⟨xV.bA,xV.bS⟩);obtain⟨E3,hE3⟩:=aC (E2++ [(sat,4,1,(q2:Int)),(jE,4,1,(bn:Int))]);obtain⟨P3,hP3⟩:=aC (splice P2 q2 d.2.2);rw[hE3,hP3]at xV;have hbE:xR K.l (nH,sat,jE,nD) d.2.2 no= [(sat,4,1,(q2:Int)),(jE,4,1,(bn:Int))]:=by unfold xR;rw[if_pos (by rw[a4S.o];exact a8U),EQ.o,a4S.o]
      have hbP:xS K.l d.2.2 no= [(q2,d.2.2)]:=by unfold xS;rw[if_pos (by rw[a4S.o];exact a8U),EQ.o,bU]
      have hEt:mR f K.l K.o no (nH,sat,jE,nD) d=E3:=by rw[b5H.o,hbE,hE3]
      have hPt:zQ (IQ (jN zs) K.l K.o (f+1) d no i) P=zQ (N9 K.l K.o no E3) P3:=by rw[bCK.o,hbP,hEt,aWL,hP3]
      have hin:=xV;obtain⟨v,hv9⟩:=aC v9;rw[hv9]at hin xV hl9 MK hm9;clear hbE hbP;obtain⟨bUJ,bBJ,bRT,aX4,YJ,aOK,aOL,hin',bCN,b5M⟩:=aN hl9 MK bCM hm9 xV hEt hPt hin hE3 hP3;clear hl9 MK bCM hm9 xV hEt hPt hin hE3 hP3;go_wp2_with fail
      first|refine Mid.mk ⟨HS.o,?_⟩|refine Mid.mk ?_
      refine jK (by kernel_rfl) ?_;clear HS hcl' jA;have hEl:E3.length=m:=by rw[←aOK.o];exact hm'.o
      have hEn:=k8'.o;have hEo:=k9'.o;rw[aOK.o]at hEn hEo;obtain⟨av,cv,rfl⟩:∃a c,v= .slice a m c:=by
       rcases hin'.o.ow.2 with ⟨rfl,h0⟩|⟨g,cap,cur,rfl,_⟩
       ·exact⟨none,0,by rw[←hEl,h0]⟩
       ·exact⟨_,_,by rw[hEl]⟩
      have v0:w9.cell? ⟨w.heap.size+2,0,none⟩=some (.slice av m cv):=hin'.o.bl.cell rfl;have hSr:=a2M w.heap.size E3 (.slice av m cv) w9 hin'.o.ow (by omega) (by omega) hEn;obtain⟨O6,QA,b5N,b5O⟩:=aH hEl hEn hEo hSr;clear hEl hEn hEo hSr;go_wp2_with fail
      refine b5O.o.mono ?_;rintro e w2 ⟨rfl,ho2,hg2⟩;have hin2:=hin'.o.sort ho2 hg2 hg1 a9H hsb (by omega);have hSp:=LQ K w2 n2 P3 hin2.ws 2 no 0 aNY.o;rw[hq'.o]at hSp;clear v0;obtain⟨ED,aKK,XP,b5P⟩:=aH ho2 hg2 hin2 hSp;clear ho2 hg2 hin2 hSp;go_wp2_with fail
      refine b5P.o.mono ?_;rintro e w3 ⟨rfl,hb3⟩;have BU:=XP.o.later hb3;have EX:=(aW w3.heap.size w3).drew;have yC:=BU.later EX;obtain⟨Ty,ff,hne,hcl,jH⟩:=nM (fun W=>jJ W (w.heap.size+2) 154 #[.slice av m cv]) w3 BU.bl;have HS:=aA (jH w3.drew yC.bl);have q0:∀s,(ff s).cell? ⟨w.heap.size+2,0,none⟩=some (.slice av m cv):=fun s=>(hcl s).cell rfl;have hpk:kX (m:Int) 2 K.o=true:=by
       unfold kX;rcases k7'.o with h|h <;> rw[h] <;> simp[rJ] <;> omega
      have hpl:=pJ hpk;obtain⟨wD,tQ⟩:=aC w3.drew;rw[tQ]at yC HS;have hPp:=BA K wD n2 P3 yC.ws q m 2 hpk (by rw[hpl];decide) (by rw[hpl,show(2:Int).toNat=2 from rfl];omega);obtain⟨P4,hP4⟩:=aC (splice P3 q (kL m 2 K.o));rw[hP4]at hPp;have hPh:zQ (N9 K.l K.o no E3) P3=zQ (rowP q K.o (sortE E3) m) P4:=by
       unfold N9;rw[hq'.o,bU,O6.o,←hP4];rfl
      rw[hPh]at aOL;obtain⟨sO,aHI,aKJ,a2R,hcl',jA,hpk',hpl',YL,bM5,bM6⟩:=aO hb3 BU EX yC hcl jH hpk hpl hPp hP4 hPh;clear hb3 BU EX yC hcl jH hpk hpl hPp hP4 hPh;go_wp2_with fail
      refine jU (S:=fun W=>∃s,W=ff s) (by kernel_rfl) 7 rfl ?_;rw[tQ];refine jF [0,1,2,3,4,5] 1 (by kernel_rfl) (fun d _ _ _ _ h=>by cases d <;> exact h) (by kernel_rfl) (by kernel_rfl) (by kernel_rfl) HS.o ?_;simp only[jB,aS,aT,aQ,aR];iterate 6 (go_big_quiet_step (fail))
      refine wpQuiet_nil ?_;clear q0 tQ;refine jC 6 0 (by kernel_rfl) (by kernel_rfl) ?_;simp only[jB,aS,aT,aQ,aR];go_wp2_with fail
      refine YL.o.mono ?_;rintro e w4 ⟨rfl,aE9,MJ⟩;have Q9:=a2R.o.turn aE9 MJ hg1 a9H (aU _) (by omega) (by omega);have HS:=aA (jA.o _ Q9.bl);have v0:w4.cell? ⟨w.heap.size+2,0,none⟩=some (.slice av m cv):=Q9.bl.cell rfl;obtain⟨bCO,a1E,YK⟩:=aG aE9 MJ Q9;clear aE9 MJ Q9;go_wp2_with fail
      first|refine Mid.mk ⟨HS.o,?_⟩|refine Mid.mk ?_
      refine jK (by kernel_rfl) ?_;go_wp2_with fail
      clear v0;go_loopw [128] (fun iv wr=>∃(i2:Nat),i2≤m∧iv= .int .i64 i2∧Hid (WIn K w wr n2 (zQ (rowP q K.o (sortE E3) i2) P4) w.heap.size (w.heap.size+1) (w.heap.size+2) (dvA ta k tc sa j sc ba bn bc) (svA la ln lc sat jE nD) (.slice av m cv) (sortE E3))) (fun iv _=>m - (intOf iv).toNat)
      case atStart=>exact⟨0,by omega,rfl,YK⟩
      case round=>
       obtain⟨i2,hi2,rfl,hW⟩:=hrel;by_cases hlt:i2<m
       ·have hil:(i2:Int)<(m:Int):=by omega
        have hw1:IntKind.i64.wrap ((i2:Int)+1)=i2+1:=by rw[aY];omega
        have hw2:IntKind.i64.wrap (12*(i2:Int))=12*i2:=by rw[aY];omega
        have hw3:IntKind.i64.wrap ((q:Int)+2)=q+2:=by rw[aY];omega
        have hw4:IntKind.i64.wrap ((q:Int)+2+12*i2)=((q+2+12*i2:Nat):Int):=by rw[aY];omega
        have aEA:=(Sl.jX hW.o.ow).1;obtain⟨b6,o6,rfl,bCP,fe⟩:=aEA.elem mG (by decide) MO hlt;have hrs:=rowP_step q K.o (sortE E3) i2;have hxo:DL ((sortE E3).getD i2 MO) K.o=true:=by
         have h1:i2<(sortE E3).length:=by rw[uQ,O6.o];exact hlt
         rw[jI h1];exact b5N.o _ ((gY _ _).subset (bL h1))
        obtain⟨⟨x0,x1,x2,x3⟩,hx⟩:∃x,(sortE E3).getD i2 MO=x:=⟨_,rfl⟩;rw[hx]at fe hrs hxo;have f0:=fe 0 _ rfl;have f1:=fe 1 _ rfl;have f2:=fe 2 _ rfl;have f3:=fe 3 _ rfl;simp only[cK]at f0 f1 f2 f3;clear fe;have hal:=aD wr (.cells #[.int .i64 x0,.int .i64 x1,.int .i64 x2,.int .i64 x3] 55);have b8:=jJ.new wr 55 #[.int .i64 x0,.int .i64 x1,.int .i64 x2,.int .i64 x3];have IU:=hW.o.later hal;have hwr:=hW.o.mv.size;obtain⟨g8,hg8⟩:=aC wr.heap.size;obtain⟨W6,hW6⟩:=aC (wr.alloc (.cells #[.int .i64 x0,.int .i64 x1,.int .i64 x2,.int .i64 x3] 55));rw[hW6]at b8 IU hal;rw[hg8]at b8;obtain⟨bCQ,b5Q,b5R,hx',oM,b8',Q7,aOM⟩:=aL aEA hrs hxo hx hal b8 IU hW6;clear aEA hrs hxo hx hal b8 IU hW6;go_wp2_with fail
        rw[aOM.o];clear f0 f1 f2 f3;have hCw:jJ W6 g8 55 #[.int .i64 x0,.int .i64 x1,.int .i64 x2,.int .i64 x3]∧jJ W6 K.gw 91 #[.slice (some ⟨K.gb,0,none⟩) K.n K.n,.int .i64 K.o,.slice K.spa K.spn K.spc,.slice K.qa K.qn K.qc,.int .i64 n2]:=⟨b8'.o,Q7.o.ws.blk⟩;have a5F:=(aW W6.heap.size W6).drew;obtain⟨Ty,ff,hne,hcl,jH⟩:=nM (fun W=>jJ W g8 55 #[.int .i64 x0,.int .i64 x1,.int .i64 x2,.int .i64 x3]∧jJ W K.gw 91 #[.slice (some ⟨K.gb,0,none⟩) K.n K.n,.int .i64 K.o,.slice K.spa K.spn K.spc,.slice K.qa K.qn K.qc,.int .i64 n2]) W6 hCw;have yO:=Q7.o.later a5F;have b88:=b8'.o.late a5F;have HS:=aA (jH W6.drew ⟨b88,yO.ws.blk⟩);have q0:∀s,(ff s).cell? ⟨g8,0,none⟩=some (.int .i64 x0):=fun s=>(hcl s).1.cell rfl;have q1:∀s,(ff s).cell? ⟨g8,1,none⟩=some (.int .i64 x1):=fun s=>(hcl s).1.cell rfl;have q2:∀s,(ff s).cell? ⟨g8,2,none⟩=some (.int .i64 x2):=fun s=>(hcl s).1.cell rfl;have q3:∀s,(ff s).cell? ⟨g8,3,none⟩=some (.int .i64 x3):=fun s=>(hcl s).1.cell rfl;have q4:∀s,(ff s).cell? ⟨K.gw,1,none⟩=some (.int .i64 K.o):=fun s=>(hcl s).2.cell rfl;obtain⟨wE,hwE⟩:=aC W6.drew;rw[hwE]at yO b88 HS;have hEw:=YC x0 x1 x2 x3 K.o wE b5R.o;obtain⟨bM7,bCR,hcl',jA,JA,aX5,b5S⟩:=aK hCw a5F hcl jH yO b88 hEw;clear hCw a5F hcl jH yO b88 hEw;refine jU (S:=fun W=>∃s,W=ff s) (by kernel_rfl) 12 rfl ?_;rw[hwE];refine jF [0,1,2,3,4,5] 6 (by kernel_rfl) (fun d _ _ _ _ h=>by cases d <;> exact h) (by kernel_rfl) (by kernel_rfl) (by kernel_rfl) HS.o ?_;simp only[jB,aS,aT,aQ,aR];iterate 6 (go_big_quiet_step (fail))
        refine wpQuiet_nil ?_;refine jC 6 5 (by kernel_rfl) (by kernel_rfl) ?_;simp only[jB,aS,aT,aQ,aR];go_wp2_with fail
        refine b5S.o.mono ?_;rintro e w7 ⟨a7,c7,rfl,ho7,rP⟩;have MP:=JA.o.later rP;have b89:=aX5.o.late rP;obtain⟨HS,b5T,sS,EY,a5G⟩:=aI (jA.o _ ⟨b89,MP.ws.blk⟩) ho7 rP MP b89;clear ho7 rP MP b89;go_wp2_with fail
        first|refine Mid.mk ⟨HS.o,?_⟩|refine Mid.mk ?_
        refine jF [7,8,9,10,11] 0 (by kernel_rfl) (fun d _ _ _ _ h=>by cases d <;> exact h) (by kernel_rfl) (by kernel_rfl) (by kernel_rfl) HS.o ?_;simp only[jB,aS,aT,aQ,aR];iterate 5 (go_big_quiet_step (fail))
        refine wpQuiet_nil ?_;refine jK (by kernel_rfl) ?_;clear q0 q1 q2 q3 q4 hwE;have c0:w7.cell? ⟨K.gw,0,none⟩=some (.slice (some ⟨K.gb,0,none⟩) K.n K.n):=EY.o.ws.blk.cell rfl;have hlow:=fun W=>Y8 (P:=Tryz.prog) (T:=24) (E:=5) Tryz.underlying24 a97 K.gb K.n (q+2+12*i2) (by omega) W;obtain⟨w9,hr9,O7,hm9,YM⟩:=ES EY.o.ws a7 12 c7 _ (Sl.jX b5T.o).1 (q+2+12*i2) (by decide) (by omega) 3;have yS:=EY.o.turn O7 hm9 hg1 a9H (aU _) (by omega) (by omega);have xV:WIn K w w9 n2 (zQ (rowP q K.o (sortE E3) (i2+1)) P4) w.heap.size (w.heap.size+1) (w.heap.size+2) (dvA ta k tc sa j sc ba bn bc) (svA la ln lc sat jE nD) (.slice (some ⟨b6,o6,none⟩) m cv) (sortE E3):=by
         rw[b5Q.o,o8];exact yS
        obtain⟨aON,aX4,a9J,V3,YJ⟩:=aI O7 hm9 YM yS xV;clear O7 hm9 YM yS xV;go_wp2_with (at_builtin;refine wpList_copy_run _ rfl _ _ _ _ rfl _ _ rfl rfl hr9 ?_)
        go_roundw
        case rel=>exact⟨i2+1,by omega,by go_num,YJ⟩
        case measure=>simp[intOf];omega
       ·obtain rfl:i2=m:=by omega
        go_wp2_with fail
        go_ret;refine⟨by rw[hq'.o];rfl,?_,hW.o.mv⟩;rw[aOL.o,←bCJ.o];exact hW.o.ws
     ·have hdc:decide ((0:Int)<bn)=false:=by simp;omega
      obtain⟨E3,hE3⟩:=aC E2;have hbE:xR K.l (nH,sat,jE,nD) d.2.2 no= []:=by unfold xR;rw[if_neg (by rw[a4S.o];exact a8U)]
      have hbP:xS K.l d.2.2 no= []:=by unfold xS;rw[if_neg (by rw[a4S.o];exact a8U)]
      have hEt:mR f K.l K.o no (nH,sat,jE,nD) d=E3:=by rw[b5H.o,hbE,dM,hE3]
      obtain⟨P3,hP3⟩:=aC P2;have hPt:zQ (IQ (jN zs) K.l K.o (f+1) d no i) P=zQ (N9 K.l K.o no E3) P3:=by rw[bCK.o,hbP,hEt,←hP3];rfl
      rw[hE3,hP3]at hW;have hin:=hW.o;clear hbE hbP;obtain⟨aOK,aOL,hin',bCN,b5M⟩:=aI hEt hPt hin hE3 hP3;clear hEt hPt hin hE3 hP3;have hEl:E3.length=m:=by rw[←aOK.o];exact hm'.o
      have hEn:=k8'.o;have hEo:=k9'.o;rw[aOK.o]at hEn hEo;obtain⟨av,cv,rfl⟩:∃a c,v= .slice a m c:=by
       rcases hin'.o.ow.2 with ⟨rfl,h0⟩|⟨g,cap,cur,rfl,_⟩
       ·exact⟨none,0,by rw[←hEl,h0]⟩
       ·exact⟨_,_,by rw[hEl]⟩
      have v0:wr.cell? ⟨w.heap.size+2,0,none⟩=some (.slice av m cv):=hin'.o.bl.cell rfl;have hSr:=a2M w.heap.size E3 (.slice av m cv) wr hin'.o.ow (by omega) (by omega) hEn;obtain⟨O6,QA,b5N,b5O⟩:=aH hEl hEn hEo hSr;clear hEl hEn hEo hSr;go_wp2_with fail
      refine b5O.o.mono ?_;rintro e w2 ⟨rfl,ho2,hg2⟩;have hin2:=hin'.o.sort ho2 hg2 hg1 a9H hsb (by omega);have hSp:=LQ K w2 n2 P3 hin2.ws 2 no 0 aNY.o;rw[hq'.o]at hSp;clear v0;obtain⟨ED,aKK,XP,b5P⟩:=aH ho2 hg2 hin2 hSp;clear ho2 hg2 hin2 hSp;go_wp2_with fail
      refine b5P.o.mono ?_;rintro e w3 ⟨rfl,hb3⟩;have BU:=XP.o.later hb3;have EX:=(aW w3.heap.size w3).drew;have yC:=BU.later EX;obtain⟨Ty,ff,hne,hcl,jH⟩:=nM (fun W=>jJ W (w.heap.size+2) 154 #[.slice av m cv]) w3 BU.bl;have HS:=aA (jH w3.drew yC.bl);have q0:∀s,(ff s).cell? ⟨w.heap.size+2,0,none⟩=some (.slice av m cv):=fun s=>(hcl s).cell rfl;have hpk:kX (m:Int) 2 K.o=true:=by
       unfold kX;rcases k7'.o with h|h <;> rw[h] <;> simp[rJ] <;> omega
      have hpl:=pJ hpk;obtain⟨wD,tQ⟩:=aC w3.drew;rw[tQ]at yC HS;have hPp:=BA K wD n2 P3 yC.ws q m 2 hpk (by rw[hpl];decide) (by rw[hpl,show(2:Int).toNat=2 from rfl];omega);obtain⟨P4,hP4⟩:=aC (splice P3 q (kL m 2 K.o));rw[hP4]at hPp;have hPh:zQ (N9 K.l K.o no E3) P3=zQ (rowP q K.o (sortE E3) m) P4:=by
       unfold N9;rw[hq'.o,bU,O6.o,←hP4];rfl
      rw[hPh]at aOL;obtain⟨sO,aHI,aKJ,a2R,hcl',jA,hpk',hpl',YL,bM5,bM6⟩:=aO hb3 BU EX yC hcl jH hpk hpl hPp hP4 hPh;clear hb3 BU EX yC hcl jH hpk hpl hPp hP4 hPh;go_wp2_with fail
      refine jU (S:=fun W=>∃s,W=ff s) (by kernel_rfl) 7 rfl ?_;rw[tQ];refine jF [0,1,2,3,4,5] 1 (by kernel_rfl) (fun d _ _ _ _ h=>by cases d <;> exact h) (by kernel_rfl) (by kernel_rfl) (by kernel_rfl) HS.o ?_;simp only[jB,aS,aT,aQ,aR];iterate 6 (go_big_quiet_step (fail))
      refine wpQuiet_nil ?_;clear q0 tQ;refine jC 6 0 (by kernel_rfl) (by kernel_rfl) ?_;simp only[jB,aS,aT,aQ,aR];go_wp2_with fail
      refine YL.o.mono ?_;rintro e w4 ⟨rfl,aE9,MJ⟩;have Q9:=a2R.o.turn aE9 MJ hg1 a9H (aU _) (by omega) (by omega);have HS:=aA (jA.o _ Q9.bl);have v0:w4.cell? ⟨w.heap.size+2,0,none⟩=some (.slice av m cv):=Q9.bl.cell rfl;obtain⟨bCO,a1E,YK⟩:=aG aE9 MJ Q9;clear aE9 MJ Q9;go_wp2_with fail
      first|refine Mid.mk ⟨HS.o,?_⟩|refine Mid.mk ?_
      refine jK (by kernel_rfl) ?_;go_wp2_with fail
      clear v0;go_loopw [128] (fun iv wr=>∃(i2:Nat),i2≤m∧iv= .int .i64 i2∧Hid (WIn K w wr n2 (zQ (rowP q K.o (sortE E3) i2) P4) w.heap.size (w.heap.size+1) (w.heap.size+2) (dvA ta k tc sa j sc ba bn bc) (svA la ln lc sat jE nD) (.slice av m cv) (sortE E3))) (fun iv _=>m - (intOf iv).toNat)
      case atStart=>exact⟨0,by omega,rfl,YK⟩
      case round=>
       obtain⟨i2,hi2,rfl,hW⟩:=hrel;by_cases hlt:i2<m
       ·have hil:(i2:Int)<(m:Int):=by omega
        have hw1:IntKind.i64.wrap ((i2:Int)+1)=i2+1:=by rw[aY];omega
        have hw2:IntKind.i64.wrap (12*(i2:Int))=12*i2:=by rw[aY];omega
        have hw3:IntKind.i64.wrap ((q:Int)+2)=q+2:=by rw[aY];omega
        have hw4:IntKind.i64.wrap ((q:Int)+2+12*i2)=((q+2+12*i2:Nat):Int):=by rw[aY];omega
        have aEA:=(Sl.jX hW.o.ow).1;obtain⟨b6,o6,rfl,bCP,fe⟩:=aEA.elem mG (by decide) MO hlt;have hrs:=rowP_step q K.o (sortE E3) i2;have hxo:DL ((sortE E3).getD i2 MO) K.o=true:=by
         have h1:i2<(sortE E3).length:=by rw[uQ,O6.o];exact hlt
         rw[jI h1];exact b5N.o _ ((gY _ _).subset (bL h1))
        obtain⟨⟨x0,x1,x2,x3⟩,hx⟩:∃x,(sortE E3).getD i2 MO=x:=⟨_,rfl⟩;rw[hx]at fe hrs hxo;have f0:=fe 0 _ rfl;have f1:=fe 1 _ rfl;have f2:=fe 2 _ rfl;have f3:=fe 3 _ rfl;simp only[cK]at f0 f1 f2 f3;clear fe;have hal:=aD wr (.cells #[.int .i64 x0,.int .i64 x1,.int .i64 x2,.int .i64 x3] 55);have b8:=jJ.new wr 55 #[.int .i64 x0,.int .i64 x1,.int .i64 x2,.int .i64 x3];have IU:=hW.o.later hal;have hwr:=hW.o.mv.size;obtain⟨g8,hg8⟩:=aC wr.heap.size;obtain⟨W6,hW6⟩:=aC (wr.alloc (.cells #[.int .i64 x0,.int .i64 x1,.int .i64 x2,.int .i64 x3] 55));rw[hW6]at b8 IU hal;rw[hg8]at b8;obtain⟨bCQ,b5Q,b5R,hx',oM,b8',Q7,aOM⟩:=aL aEA hrs hxo hx hal b8 IU hW6;clear aEA hrs hxo hx hal b8 IU hW6;go_wp2_with fail
        rw[aOM.o];clear f0 f1 f2 f3;have hCw:jJ W6 g8 55 #[.int .i64 x0,.int .i64 x1,.int .i64 x2,.int .i64 x3]∧jJ W6 K.gw 91 #[.slice (some ⟨K.gb,0,none⟩) K.n K.n,.int .i64 K.o,.slice K.spa K.spn K.spc,.slice K.qa K.qn K.qc,.int .i64 n2]:=⟨b8'.o,Q7.o.ws.blk⟩;have a5F:=(aW W6.heap.size W6).drew;obtain⟨Ty,ff,hne,hcl,jH⟩:=nM (fun W=>jJ W g8 55 #[.int .i64 x0,.int .i64 x1,.int .i64 x2,.int .i64 x3]∧jJ W K.gw 91 #[.slice (some ⟨K.gb,0,none⟩) K.n K.n,.int .i64 K.o,.slice K.spa K.spn K.spc,.slice K.qa K.qn K.qc,.int .i64 n2]) W6 hCw;have yO:=Q7.o.later a5F;have b88:=b8'.o.late a5F;have HS:=aA (jH W6.drew ⟨b88,yO.ws.blk⟩);have q0:∀s,(ff s).cell? ⟨g8,0,none⟩=some (.int .i64 x0):=fun s=>(hcl s).1.cell rfl;have q1:∀s,(ff s).cell? ⟨g8,1,none⟩=some (.int .i64 x1):=fun s=>(hcl s).1.cell rfl;have q2:∀s,(ff s).cell? ⟨g8,2,none⟩=some (.int .i64 x2):=fun s=>(hcl s).1.cell rfl;have q3:∀s,(ff s).cell? ⟨g8,3,none⟩=some (.int .i64 x3):=fun s=>(hcl s).1.cell rfl;have q4:∀s,(ff s).cell? ⟨K.gw,1,none⟩=some (.int .i64 K.o):=fun s=>(hcl s).2.cell rfl;obtain⟨wE,hwE⟩:=aC W6.drew;rw[hwE]at yO b88 HS;have hEw:=YC x0 x1 x2 x3 K.o wE b5R.o;obtain⟨bM7,bCR,hcl',jA,JA,aX5,b5S⟩:=aK hCw a5F hcl jH yO b88 hEw;clear hCw a5F hcl jH yO b88 hEw;refine jU (S:=fun W=>∃s,W=ff s) (by kernel_rfl) 12 rfl ?_;rw[hwE];refine jF [0,1,2,3,4,5] 6 (by kernel_rfl) (fun d _ _ _ _ h=>by cases d <;> exact h) (by kernel_rfl) (by kernel_rfl) (by kernel_rfl) HS.o ?_;simp only[jB,aS,aT,aQ,aR];iterate 6 (go_big_quiet_step (fail))
        refine wpQuiet_nil ?_;refine jC 6 5 (by kernel_rfl) (by kernel_rfl) ?_;simp only[jB,aS,aT,aQ,aR];go_wp2_with fail
        refine b5S.o.mono ?_;rintro e w7 ⟨a7,c7,rfl,ho7,rP⟩;have MP:=JA.o.later rP;have b89:=aX5.o.late rP;obtain⟨HS,b5T,sS,EY,a5G⟩:=aI (jA.o _ ⟨b89,MP.ws.blk⟩) ho7 rP MP b89;clear ho7 rP MP b89;go_wp2_with fail
        first|refine Mid.mk ⟨HS.o,?_⟩|refine Mid.mk ?_
        refine jF [7,8,9,10,11] 0 (by kernel_rfl) (fun d _ _ _ _ h=>by cases d <;> exact h) (by kernel_rfl) (by kernel_rfl) (by kernel_rfl) HS.o ?_;simp only[jB,aS,aT,aQ,aR];iterate 5 (go_big_quiet_step (fail))
        refine wpQuiet_nil ?_;refine jK (by kernel_rfl) ?_;clear q0 q1 q2 q3 q4 hwE;have c0:w7.cell? ⟨K.gw,0,none⟩=some (.slice (some ⟨K.gb,0,none⟩) K.n K.n):=EY.o.ws.blk.cell rfl;have hlow:=fun W=>Y8 (P:=Tryz.prog) (T:=24) (E:=5) Tryz.underlying24 a97 K.gb K.n (q+2+12*i2) (by omega) W;obtain⟨w9,hr9,O7,hm9,YM⟩:=ES EY.o.ws a7 12 c7 _ (Sl.jX b5T.o).1 (q+2+12*i2) (by decide) (by omega) 3;have yS:=EY.o.turn O7 hm9 hg1 a9H (aU _) (by omega) (by omega);have xV:WIn K w w9 n2 (zQ (rowP q K.o (sortE E3) (i2+1)) P4) w.heap.size (w.heap.size+1) (w.heap.size+2) (dvA ta k tc sa j sc ba bn bc) (svA la ln lc sat jE nD) (.slice (some ⟨b6,o6,none⟩) m cv) (sortE E3):=by
         rw[b5Q.o,o8];exact yS
        obtain⟨aON,aX4,a9J,V3,YJ⟩:=aI O7 hm9 YM yS xV;clear O7 hm9 YM yS xV;go_wp2_with (at_builtin;refine wpList_copy_run _ rfl _ _ _ _ rfl _ _ rfl rfl hr9 ?_)
        go_roundw
        case rel=>exact⟨i2+1,by omega,by go_num,YJ⟩
        case measure=>simp[intOf];omega
       ·obtain rfl:i2=m:=by omega
        go_wp2_with fail
        go_ret;refine⟨by rw[hq'.o];rfl,?_,hW.o.mv⟩;rw[aOL.o,←bCJ.o];exact hW.o.ws
theorem aOO (zs:List VQ) (K:Wc):∀f,PW zs K f:=by
 intro f;induction f with
 |zero=>intro w0 w no P d dv i _ _ _ _ _ hd;exact hd.elim
 |succ f ih=>exact aWX zs K f ih
