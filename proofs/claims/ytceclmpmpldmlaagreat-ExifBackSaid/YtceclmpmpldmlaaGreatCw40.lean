import Derived.Test.YtceclmpmpldmlaaGreatCw39
set_option linter.unusedSimpArgs false
set_option linter.unusedVariables false
namespace Go.Proofs.YtceclmpmpldmlaaGreat
open Go.RowKit Tt
theorem a7Q {x:pX} (h:YR x=false):bG6 x:=by
 obtain⟨_,_,hm,_⟩:=a7K h;unfold YR at h;simp only[jM,decide_eq_false_iff_not]at h;obtain⟨⟨⟨⟨⟨⟨h1,h2⟩,h3⟩,h4⟩,h5⟩,h6⟩,h7⟩:=h;have up:∀{ts:List oZ},(∀t∈ts,t.2.2.2.length≤600)→∀t∈ts,t.2.2.2.length≤2000:=fun h t ht=>bU (h t ht) aH;exact⟨up (zM h1).1,up (zM h2).1,up (zM h3).1,up (zM h4).1,up (zM h5).1,hm⟩
set_option maxRecDepth 30000 in
set_option maxHeartbeats 16000000 in
theorem aLX (hD:aA8) (x:pX) (A:ExA) (y:pX) (B:ExA) (w:World) (h1:ExR w x A) (k1:WfE x) (b1:a09 x) (h2:ExR w y B) (k2:WfE y) (b2:a09 y):
  Calls Tryz.prog 7 #[exV x.o A,exV y.o B] w fun e w'=>e= .returned (.bool true)∧Below w.heap.size w w':=by
 have V1:=fun W (hb:Below w.heap.size w W)=>a7L x A W (h1.mono hb);have V2:=fun W (hb:Below w.heap.size w W)=>a7L y B W (h2.mono hb);have hv1:=fun h=>a7K (x:=x) h;have bHI:=fun h=>a7Q (x:=x) h;have bHJ:=fun h=>a7Q (x:=y) h;have hv2:=fun h=>a7K (x:=y) h;obtain⟨v1,bQF⟩:∃b,YR x=b:=⟨_,rfl⟩;obtain⟨v2,bQG⟩:∃b,YR y=b:=⟨_,rfl⟩;rw[bQF]at V1 hv1 bHI;rw[bQG]at V2 hv2 bHJ;clear bQF bQG;have XW:=fun W (hb:Below w.heap.size w W) hs hd=>NH x A W (h1.mono hb) hs hd k1 b1;have XT:=fun W (hb:Below w.heap.size w W) hs hd=>a0K x A W (h1.mono hb) hs hd k1;have XC:=fun W (hb:Below w.heap.size w W)=>yH x A W (h1.mono hb) k1;have YW:=fun W (hb:Below w.heap.size w W) hs hd=>NH y B W (h2.mono hb) hs hd k2 b2;have XS:=fun W (hb:Below w.heap.size w W) A9 (h9:ExR W x A9)=>a1M x x A9 A W h9 (h1.mono hb) b1 b1;rw[show J6 x x=true from aAB.2 rfl]at XS;have YS:=fun W (hb:Below w.heap.size w W)=>a1M x y A B W (h1.mono hb) (h2.mono hb) b1 b2;obtain⟨W,hW,bX,bY,hb,tC⟩:=sN w 61 (VT x.o A) 61 (VT y.o B);obtain⟨za,zn,zc,pa,pn,pc,ga,gn,gc,ia,iN,ic,fa,fn,fc,ma,mn,mc,ta,tn,tc⟩:=A;obtain⟨CB,CF,CG,CJ,CK,pc2,CO,CP,CQ,CR,CS,CV,fa2,CW,CX,ma2,mn2,mc2,ta2,tn2,tc2⟩:=B;simp only[exV,VT]at*;have q0:=bX.cell (i:=0) rfl;have q1:=bX.cell (i:=1) rfl;have q2:=bX.cell (i:=2) rfl;have q3:=bX.cell (i:=3) rfl;have q4:=bX.cell (i:=4) rfl;have q5:=bX.cell (i:=5) rfl;have q6:=bX.cell (i:=6) rfl;have q7:=bX.cell (i:=7) rfl;have r0:=bY.cell (i:=0) rfl;have r1:=bY.cell (i:=1) rfl;have r2:=bY.cell (i:=2) rfl;have r3:=bY.cell (i:=3) rfl;have r4:=bY.cell (i:=4) rfl;have r5:=bY.cell (i:=5) rfl;have r6:=bY.cell (i:=6) rfl;have r7:=bY.cell (i:=7) rfl;obtain⟨h1',k1',b1',h2',k2',b2',V1',V2',c09,bQH,c0A,bQI⟩:=aT h1 k1 b1 h2 k2 b2 V1 V2 hv1 bHI hv2 bHJ;obtain⟨XW',XT',XC',YW',XS',YS',WH,bX',bY',pW,a8X⟩:=aS XW XT XC YW XS YS hW bX bY hb tC;clear h1 k1 b1 h2 k2 b2 V1 V2 hv1 bHI hv2 bHJ XW XT XC YW XS YS hW bX bY hb tC;go_enter Tryz.func7,Tryz.ntmps7;go_upto_region 1 with fail
 rw[WH.o];go_wp2_with fail
 refine(V1'.o _ pW.o).mono ?_;rintro e w1 ⟨rfl,kV⟩;have xS:=pW.o.tm kV;have bX1:=bX'.o.late kV;have bY1:=bY'.o.late kV;clear q0 q1 q2 q3 q4 q5 q6 q7 r0 r1 r2 r3 r4 r5 r6 r7;cases v1 with
 |true=>
  have aHU:=xS;obtain⟨lZ,qP,bQJ,bQK⟩:=aL kV xS bX1 bY1;clear kV xS bX1 bY1;have a1N:=aA aHU;clear aHU;go_wp2_with fail
  refine(KC _).mono ?_;rintro e w9 ⟨rfl,vP⟩;have aHV:=a1N.o.tm vP;obtain⟨qB,aHW⟩:=aJ vP aHV;clear vP aHV;go_wp2_with fail
  go_ret;exact⟨rfl,aHW.o⟩
 |false=>
 obtain⟨EJ,hdt,T9,ht2⟩:=c09.o rfl;have bQL:=bQH.o rfl;have q0:=bX1.cell (i:=0) rfl;have q1:=bX1.cell (i:=1) rfl;have q2:=bX1.cell (i:=2) rfl;have q3:=bX1.cell (i:=3) rfl;have q4:=bX1.cell (i:=4) rfl;have q5:=bX1.cell (i:=5) rfl;have q6:=bX1.cell (i:=6) rfl;have q7:=bX1.cell (i:=7) rfl;have r0:=bY1.cell (i:=0) rfl;have r1:=bY1.cell (i:=1) rfl;have r2:=bY1.cell (i:=2) rfl;have r3:=bY1.cell (i:=3) rfl;have r4:=bY1.cell (i:=4) rfl;have r5:=bY1.cell (i:=5) rfl;have r6:=bY1.cell (i:=6) rfl;have r7:=bY1.cell (i:=7) rfl;obtain⟨lZ,qP,bQJ,bQK,JN,a7Z,ZQ,b2N,bQM⟩:=aQ kV xS bX1 bY1 EJ hdt T9 ht2 bQL;clear kV xS bX1 bY1 EJ hdt T9 ht2 bQL;go_wp2_with fail
 refine(V2'.o _ qP.o).mono ?_;rintro e w2 ⟨rfl,kP⟩;have P8:=qP.o.tm kP;have bX2:=bQJ.o.late kP;have bY2:=bQK.o.late kP;clear q0 q1 q2 q3 q4 q5 q6 q7 r0 r1 r2 r3 r4 r5 r6 r7;cases v2 with
 |true=>
  have aHU:=P8;obtain⟨pG,vY,bQN,bQO⟩:=aL kP P8 bX2 bY2;clear kP P8 bX2 bY2;have a1N:=aA aHU;clear aHU;go_wp2_with fail
  refine(KC _).mono ?_;rintro e w9 ⟨rfl,vP⟩;have aHV:=a1N.o.tm vP;obtain⟨qB,aHW⟩:=aJ vP aHV;clear vP aHV;go_wp2_with fail
  go_ret;exact⟨rfl,aHW.o⟩
 |false=>
 obtain⟨bQP,aRT,_,_⟩:=c0A.o rfl;have bQQ:=bQI.o rfl;have q0:=bX2.cell (i:=0) rfl;have q1:=bX2.cell (i:=1) rfl;have q2:=bX2.cell (i:=2) rfl;have q3:=bX2.cell (i:=3) rfl;have q4:=bX2.cell (i:=4) rfl;have q5:=bX2.cell (i:=5) rfl;have q6:=bX2.cell (i:=6) rfl;have q7:=bX2.cell (i:=7) rfl;obtain⟨pG,vY,bQN,bQO,b0L,bQR,c3S⟩:=aO kP P8 bX2 bY2 bQP aRT bQQ;clear kP P8 bX2 bY2 bQP aRT bQQ;go_wp2_with fail
 refine(XW'.o _ vY.o JN.o a7Z.o).mono ?_;rintro e w3 ⟨a5,m5,c5,rfl,a8R,kT⟩;have hs5:=(Sl.kZ a8R).1;have hm5:=hs5.p9;have KL:=vY.o.tm kT;have bX3:=bQN.o.late kT;have bY3:=bQO.o.late kT;clear a8R kT q0 q1 q2 q3 q4 q5 q6 q7;have q0:=bX3.cell (i:=0) rfl;have q1:=bX3.cell (i:=1) rfl;have q2:=bX3.cell (i:=2) rfl;have q3:=bX3.cell (i:=3) rfl;have q4:=bX3.cell (i:=4) rfl;have q5:=bX3.cell (i:=5) rfl;have q6:=bX3.cell (i:=6) rfl;have q7:=bX3.cell (i:=7) rfl;obtain⟨bCM,aTP,zF,c0B,c0C⟩:=aM hs5 hm5 KL bX3 bY3;clear hs5 hm5 KL bX3 bY3;go_wp2_with fail
 refine(XT'.o _ zF.o JN.o a7Z.o).mono ?_;rintro e w4 ⟨o7,da,dn,dc,rfl,mX,hT⟩;obtain⟨rfl,hDO⟩:=b0J hT;clear hT;have bQS:=hDO.rd;have b7:=kG.new w4 39 #[.int .i64 (aLU x),.slice da dn dc];have kU:=aD w4 (.cells #[.int .i64 (aLU x),.slice da dn dc] 39);obtain⟨w5,hw5⟩:∃X,w4.alloc (.cells #[.int .i64 (aLU x),.slice da dn dc] 39)=X:=⟨_,rfl⟩;rw[hw5]at b7 kU;obtain⟨g7,hg7⟩:∃g,w4.heap.size=g:=⟨_,rfl⟩;rw[hg7]at b7;have YM:=mX.tm kU;have b4L:=bQS.mono kU;have bQT:=bCM.o.mono YM;have GU:=zF.o.tm YM;have bX5:=c0B.o.late YM;have bY5:=c0C.o.late YM;clear hDO bQS kU YM mX q0 q1 q2 q3 q4 q5 q6 q7;have q0:=bX5.cell (i:=0) rfl;have q1:=bX5.cell (i:=1) rfl;have q2:=bX5.cell (i:=2) rfl;have q3:=bX5.cell (i:=3) rfl;have q4:=bX5.cell (i:=4) rfl;have q5:=bX5.cell (i:=5) rfl;have q6:=bX5.cell (i:=6) rfl;have q7:=bX5.cell (i:=7) rfl;obtain⟨c0D,c0E,yR,bAD,bAE,F7,bQU,bQV⟩:=aP hw5 hg7 b7 b4L bQT GU bX5 bY5;clear hw5 hg7 b7 b4L bQT GU bX5 bY5;go_upto_region 5 with fail
 try rw[c0E.o]
 try rw[c0D.o]
 go_wp2_with fail
 refine(XC'.o _ F7.o).mono ?_;rintro e w6 ⟨rfl,vU⟩;have hwc:=aNJ JN.o;obtain⟨ck,Z6⟩:∃c,lU x=c:=⟨_,rfl⟩;rw[hwc,Z6];have aRU:=bAD.o.mono vU;have hs6:=bAE.o.mono vU;have PY:=F7.o.tm vU;have bX6:=bQU.o.late vU;have bY6:=bQV.o.late vU;have b76:=yR.o.late vU;have n1:(ck != ck)=false:=by simp
 clear vU q0 q1 q2 q3 q4 q5 q6 q7 hwc yR bAD bAE F7 bQU bQV bCM;by_cases UD:ck=0
 case neg=>
  have n2:(ck != 0)=true:=by simpa using UD
  have bHK:lU x≠0:=by rw[Z6];exact UD
  have hwe:FB x= []:=by unfold FB;rw[if_neg bHK]
  have hte:outT x= []:=by unfold outT;rw[if_neg bHK]
  have hm0:m5=0:=by rw[←aTP.o,hwe];rfl
  have hd0:dn=0:=by
   obtain⟨wU,e1,e2,_⟩:=aRU;have:=e2.xZ qW aH;rw[hte]at e1;rw[←this,e1];rfl
  subst hm0 hd0;have u1:=b76.cell (i:=1) rfl;have aHU:=PY;clear UD bHK hwe hte aRU hs6 Z6 PY;obtain⟨bHL,bHM,bHN⟩:=aK bX6 bY6 b76;clear bX6 bY6 b76;have a1N:=aA aHU;clear aHU;go_wp2_with fail
  refine(KC _).mono ?_;rintro e w9 ⟨rfl,vP⟩;have aHV:=a1N.o.tm vP;obtain⟨qB,aHW⟩:=aJ vP aHV;clear vP aHV;go_wp2_with fail
  go_ret;exact⟨rfl,aHW.o⟩
 case pos=>
  subst UD;have n2:((0:Int) != 0)=false:=rfl;have hB:=bOZ Z6 JN.o b1'.o bQM.o;have hto:outT x=lS x:=by unfold outT;rw[if_pos Z6]
  have hoo:aLU x=x.o:=by unfold aLU;rw[if_pos Z6]
  rw[hto]at aRU;rw[hoo]at b76;rw[hoo];obtain⟨ts1,ts2⟩:=FD Z6 JN.o;have ts3:=I5 b1'.o;have tdl:dn≤500:=by
   obtain⟨wU,e1,e2,_⟩:=aRU;have:=e2.xZ qW aH;have h2:(lS x).length≤2:=by unfold lS;split <;> simp
   omega
  have hm6:m5≤60000000:=by have:=hB.len;have:=aTP.o;omega
  have hRd:=aH1 hD a5 m5 c5 (FB x) w6 hs6 hB.byt aG (fun ds s e=>by
   rw[hB.rdS]at e;injection e with e;injection e with e1 e2;subst e1;have hl2:(lS x).length≤2:=by unfold lS;split <;> simp
   exact⟨ts3,ts1,by omega,by omega⟩)
  obtain⟨rc,hrc⟩:∃c,YI (FB x)=c:=⟨_,rfl⟩;have nr:(rc != 0)=false:=by rw[←hrc,hB.rd];rfl
  obtain⟨oc,hoc⟩:∃c,ofC 16 x.o (lS x)=c:=⟨_,rfl⟩;have no:(oc != 0)=false:=by rw[←hoc,hB.ofc];rfl
  obtain⟨c3,hc3⟩:∃c,oD 16 x.o (lS x) vB=c:=⟨_,rfl⟩;have n3:(c3 != 0)=false:=by rw[←hc3,hB.has];rfl
  rw[hrc,hB.rdE]at hRd;clear hrc;obtain⟨c0F,c0G⟩:=aJ hoc hc3;clear hoc hc3;clear hto hoo;obtain⟨a2I,hB',bAF,bQW,BQ,bHL,bHM,bHN,bQX,bQY,bQZ,bR0⟩:=aT Z6 hB aRU hs6 PY bX6 bY6 b76 ts1 ts2 ts3 tdl;obtain⟨bCR,bR5⟩:=aJ hm6 hRd;clear Z6 hB aRU hs6 PY bX6 bY6 b76 ts1 ts2 ts3 tdl hm6 hRd;go_wp2_with fail
  refine bR5.o.mono ?_;rintro e w7 ⟨⟨z1,z2,z3,p1,p2,p3,g1,g2,g3,i1,i2,i3,f1,f2,f3,m1,m2,m3,t1,t2,t3⟩,rfl,hO9,xC⟩;simp only[exV,VT];have b9:=kG.new w7 61 #[.int .i64 x.o,.slice z1 z2 z3,.slice p1 p2 p3,.slice g1 g2 g3,.slice i1 i2 i3,.slice f1 f2 f3,.slice m1 m2 m3,.slice t1 t2 t3];have kU:=aD w7 (.cells #[.int .i64 x.o,.slice z1 z2 z3,.slice p1 p2 p3,.slice g1 g2 g3,.slice i1 i2 i3,.slice f1 f2 f3,.slice m1 m2 m3,.slice t1 t2 t3] 61);obtain⟨w8,hw8⟩:∃X,w7.alloc (.cells #[.int .i64 x.o,.slice z1 z2 z3,.slice p1 p2 p3,.slice g1 g2 g3,.slice i1 i2 i3,.slice f1 f2 f3,.slice m1 m2 m3,.slice t1 t2 t3] 61)=X:=⟨_,rfl⟩;rw[hw8]at b9 kU;obtain⟨g9,hg9⟩:∃g,w7.heap.size=g:=⟨_,rfl⟩;rw[hg9]at b9;have h68:=xC.tm kU;have hR9:=hO9.rd.mono kU;have bHO:=bAF.o.mono h68;have hs8:=bQW.o.mono h68;have a6Y:=BQ.o.tm h68;have bX8:=bHL.o.late h68;have bY8:=bHM.o.late h68;have b78:=bHN.o.late h68;have k0:=b78.cell (i:=0) rfl;have k1:=b78.cell (i:=1) rfl;have hOf:=aA5 x.o da dn dc (lS x) w8 bHO bQZ.o bQX.o (by have:=bQY.o;omega) bR0.o;rw[c0F.o,hB'.o.ofe]at hOf;clear hO9 kU h68 xC bAF bQW BQ bHL bHM bHN bR5;obtain⟨b9',b4Z,c0H,bR7,bAG,bRA,NU,bRB,bRC,bRD,aRK⟩:=aS b9 hw8 hg9 hR9 bHO hs8 a6Y bX8 bY8 b78 hOf;clear b9 hw8 hg9 hR9 bHO hs8 a6Y bX8 bY8 b78 hOf;go_upto_region 10 with fail
  try rw[c0H.o]
  try rw[b4Z.o]
  go_wp2_with fail
  refine aRK.o.mono ?_;rintro e w9 ⟨⟨Z1,Z2,Z3,P1,P2,P3,G1,G2,G3,I1,I2,I3,F1,F2,F3,M1,M2,M3,T1,T2,T3⟩,rfl,bRE,vP⟩;simp only[exV,VT];have b11:=kG.new w9 61 #[.int .i64 x.o,.slice Z1 Z2 Z3,.slice P1 P2 P3,.slice G1 G2 G3,.slice I1 I2 I3,.slice F1 F2 F3,.slice M1 M2 M3,.slice T1 T2 T3];have kU:=aD w9 (.cells #[.int .i64 x.o,.slice Z1 Z2 Z3,.slice P1 P2 P3,.slice G1 G2 G3,.slice I1 I2 I3,.slice F1 F2 F3,.slice M1 M2 M3,.slice T1 T2 T3] 61);obtain⟨wa,hwa⟩:∃X,w9.alloc (.cells #[.int .i64 x.o,.slice Z1 Z2 Z3,.slice P1 P2 P3,.slice G1 G2 G3,.slice I1 I2 I3,.slice F1 F2 F3,.slice M1 M2 M3,.slice T1 T2 T3] 61)=X:=⟨_,rfl⟩;rw[hwa]at b11 kU;obtain⟨g11,bHP⟩:∃g,w9.heap.size=g:=⟨_,rfl⟩;rw[bHP]at b11;have h8a:=vP.tm kU;have bRF:=bRE.rd.mono kU;have bRG:=bR7.o.mono h8a;have bRH:=bAG.o.mono h8a;have hsa:=bRA.o.mono h8a;have aHX:=NU.o.tm h8a;have bXa:=bRB.o.late h8a;have bYa:=bRC.o.late h8a;have b7a:=bRD.o.late h8a;have b9a:=b9'.o.late h8a;clear bRE kU h8a vP k0 k1 bR7 bAG bRA NU bRB bRC bRD b9' aRK;obtain⟨Ty,ff,pQ,kI,kE⟩:=kM wa;have hbf:=fun s=>aHX.trans ((kI s).mono aHX.size);have q0:=fun s=>((fun s=>bXa.late (kI s)) s).cell (i:=0) rfl;have q1:=fun s=>((fun s=>bXa.late (kI s)) s).cell (i:=1) rfl;have q2:=fun s=>((fun s=>bXa.late (kI s)) s).cell (i:=2) rfl;have q3:=fun s=>((fun s=>bXa.late (kI s)) s).cell (i:=3) rfl;have q4:=fun s=>((fun s=>bXa.late (kI s)) s).cell (i:=4) rfl;have q5:=fun s=>((fun s=>bXa.late (kI s)) s).cell (i:=5) rfl;have q6:=fun s=>((fun s=>bXa.late (kI s)) s).cell (i:=6) rfl;have q7:=fun s=>((fun s=>bXa.late (kI s)) s).cell (i:=7) rfl;have r0:=fun s=>((fun s=>b9a.late (kI s)) s).cell (i:=0) rfl;have r1:=fun s=>((fun s=>b9a.late (kI s)) s).cell (i:=1) rfl;have r2:=fun s=>((fun s=>b9a.late (kI s)) s).cell (i:=2) rfl;have r3:=fun s=>((fun s=>b9a.late (kI s)) s).cell (i:=3) rfl;have r4:=fun s=>((fun s=>b9a.late (kI s)) s).cell (i:=4) rfl;have r5:=fun s=>((fun s=>b9a.late (kI s)) s).cell (i:=5) rfl;have r6:=fun s=>((fun s=>b9a.late (kI s)) s).cell (i:=6) rfl;have r7:=fun s=>((fun s=>b9a.late (kI s)) s).cell (i:=7) rfl;have s0:=fun s=>((fun s=>b11.late (kI s)) s).cell (i:=0) rfl;have s1:=fun s=>((fun s=>b11.late (kI s)) s).cell (i:=1) rfl;have s2:=fun s=>((fun s=>b11.late (kI s)) s).cell (i:=2) rfl;have s3:=fun s=>((fun s=>b11.late (kI s)) s).cell (i:=3) rfl;have s4:=fun s=>((fun s=>b11.late (kI s)) s).cell (i:=4) rfl;have s5:=fun s=>((fun s=>b11.late (kI s)) s).cell (i:=5) rfl;have s6:=fun s=>((fun s=>b11.late (kI s)) s).cell (i:=6) rfl;have s7:=fun s=>((fun s=>b11.late (kI s)) s).cell (i:=7) rfl;have u0:=fun s=>(b7a.late (kI s)).cell (i:=0) rfl;have u1:=fun s=>(b7a.late (kI s)).cell (i:=1) rfl;have HD:=aA ((bF wa.heap.size wa).drew);have HS:=aA (kE _ HD.o);have S1:=fun W (hb:Below wa.heap.size wa W)=>XS'.o W (aHX.tm hb) ⟨z1,z2,z3,p1,p2,p3,g1,g2,g3,i1,i2,i3,f1,f2,f3,m1,m2,m3,t1,t2,t3⟩ (bRG.mono hb);have S2:=fun W (hb:Below wa.heap.size wa W)=>XS'.o W (aHX.tm hb) ⟨Z1,Z2,Z3,P1,P2,P3,G1,G2,G3,I1,I2,I3,F1,F2,F3,M1,M2,M3,T1,T2,T3⟩ (bRF.mono hb);simp only[exV,VT]at S1 S2;clear bRG bRF pQ;obtain⟨c6J,c0I,bRI,bRJ,bG0,bAH,c0J,c0K,c6K,c6L,c6M,kD⟩:=aT b11 hwa bHP bRH hsa aHX bXa bYa b7a b9a hbf kI;obtain⟨jV,S1',S2'⟩:=aK kE S1 S2;clear b11 hwa bHP bRH hsa aHX bXa bYa b7a b9a hbf kI kE S1 S2;go_upto_region 11 with fail
  try rw[bRI.o]
  try rw[c0I.o]
  refine kR (S:=fun W=>∃s,W=ff s) aF 30 rfl ?_;obtain⟨wD,xB⟩:∃X,wa.drew=X:=⟨_,rfl⟩;rw[xB]at HS HD ⊢;clear xB;refine jZ [0] 29 aF aI aF aF aF HS.o ?_;simp only[jW,aW,aX,aU,aV];iterate 1 (go_big_quiet_step (first|rfl|exact rfl))
  refine wpQuiet_nil ?_;refine jX 1 28 aF aF ?_;simp only[jW,aW,aX,aU,aV];go_wp2_with fail
  refine Mid.mk ⟨HS.o,?_⟩;refine jZ [2,3] 26 aF aI aF aF aF HS.o ?_;simp only[jW,aW,aX,aU,aV];iterate 2 (go_big_quiet_step (first|rfl|exact rfl))
  refine wpQuiet_nil ?_;refine jX 4 25 aF aF ?_;simp only[jW,aW,aX,aU,aV];go_wp2_with fail
  refine Mid.mk ⟨HS.o,?_⟩;refine jX 5 24 aF aF ?_;simp only[jW,aW,aX,aU,aV];go_wp2_with fail
  refine Mid.mk ⟨HS.o,?_⟩;refine jZ [6,7,8] 21 aF aI aF aF aF HS.o ?_;simp only[jW,aW,aX,aU,aV];iterate 3 (go_big_quiet_step (first|rfl|exact rfl))
  refine wpQuiet_nil ?_;refine jX 9 20 aF aF ?_;simp only[jW,aW,aX,aU,aV];go_wp2_with fail
  refine(S1'.o _ HD.o).mono ?_;rintro e y1 ⟨rfl,bRK⟩;have e1:=HD.o.tm bRK;have HS:=aA (jV.o _ e1);clear bRK;have e1':=aA e1;clear e1;go_wp2_with fail
  refine Mid.mk ⟨HS.o,?_⟩;refine jX 10 19 aF aF ?_;simp only[jW,aW,aX,aU,aV];go_wp2_with fail
  refine Mid.mk ⟨HS.o,?_⟩;refine jX 11 18 aF aF ?_;simp only[jW,aW,aX,aU,aV];go_wp2_with fail
  refine Mid.mk ⟨HS.o,?_⟩;refine jZ [12,13,14] 15 aF aI aF aF aF HS.o ?_;simp only[jW,aW,aX,aU,aV];iterate 3 (go_big_quiet_step (first|rfl|exact rfl))
  refine wpQuiet_nil ?_;refine jX 15 14 aF aF ?_;simp only[jW,aW,aX,aU,aV];go_wp2_with fail
  refine(S2'.o _ e1'.o).mono ?_;rintro e y2 ⟨rfl,bRL⟩;have e2:=e1'.o.tm bRL;have HS:=aA (jV.o _ e2);clear bRL;have e2':=aA e2;clear e2;go_wp2_with fail
  refine Mid.mk ⟨HS.o,?_⟩;refine jX 16 13 aF aF ?_;simp only[jW,aW,aX,aU,aV];go_wp2_with fail
  refine Mid.mk ⟨HS.o,?_⟩;refine jX 17 12 aF aF ?_;simp only[jW,aW,aX,aU,aV];go_wp2_with fail
  refine Mid.mk ⟨HS.o,?_⟩;refine jZ [18,19] 10 aF aI aF aF aF HS.o ?_;simp only[jW,aW,aX,aU,aV];iterate 2 (go_big_quiet_step (first|rfl|exact rfl))
  refine wpQuiet_nil ?_;refine jX 20 9 aF aF ?_;simp only[jW,aW,aX,aU,aV];go_wp2_with fail
  refine(AO _).mono ?_;rintro e y3 ⟨a3,zs3,rfl,hsh,UB,bRM⟩;have e3:=e2'.o.tm bRM;have HS:=aA (jV.o _ e3);have HC:=VD 16 x.o da dn dc (lS x) a3 5 5 zs3 y3 (bRJ.o.mono e3) hsh bQX.o bQZ.o (by have:=bQY.o;omega) bR0.o;rw[UB,c0G.o]at HC;clear bRM hsh UB;obtain⟨e3',WO⟩:=aJ e3 HC;clear e3 HC;go_wp2_with fail
  refine Mid.mk ⟨HS.o,?_⟩;refine jX 21 8 aF aF ?_;simp only[jW,aW,aX,aU,aV];go_wp2_with fail
  refine WO.o.mono ?_;rintro e y4 ⟨rfl,bRN⟩;have e4:=e3'.o.tm bRN;have HS:=aA (jV.o _ e4);clear bRN;have e4':=aA e4;clear e4;go_wp2_with fail
  refine Mid.mk ⟨HS.o,?_⟩;refine jX 22 7 aF aF ?_;simp only[jW,aW,aX,aU,aV];go_wp2_with fail
  refine Mid.mk ⟨HS.o,?_⟩;refine jX 23 6 aF aF ?_;simp only[jW,aW,aX,aU,aV];go_wp2_with fail
  refine Mid.mk ⟨HS.o,?_⟩;refine jZ [24,25] 4 aF aI aF aF aF HS.o ?_;simp only[jW,aW,aX,aU,aV];iterate 2 (go_big_quiet_step (first|rfl|exact rfl))
  refine wpQuiet_nil ?_;refine jX 26 3 aF aF ?_;simp only[jW,aW,aX,aU,aV];go_wp2_with fail
  refine(AO _).mono ?_;rintro e y5 ⟨a4,zs4,rfl,hsh,UB,bRO⟩;have e5:=e4'.o.tm bRO;have HS:=aA (jV.o _ e5);have HL:=aHT hD a5 m5 c5 (FB x) a4 5 5 zs4 y5 (bG0.o.mono e5) hsh hB'.o.byt (by have:=bCR.o;omega);rw[UB,hB'.o.clean]at HL;clear bRO hsh UB;obtain⟨e5',HL'⟩:=aJ e5 HL;clear e5 HL;go_wp2_with fail
  refine Mid.mk ⟨HS.o,?_⟩;refine jX 27 2 aF aF ?_;simp only[jW,aW,aX,aU,aV];go_wp2_with fail
  refine HL'.o.mono ?_;rintro e y6 ⟨rfl,bRP⟩;have e6:=e5'.o.tm bRP;have HS:=aA (jV.o _ e6);clear bRP;have e6':=aA e6;clear e6;go_wp2_with fail
  refine Mid.mk ⟨HS.o,?_⟩;refine jX 28 1 aF aF ?_;simp only[jW,aW,aX,aU,aV];go_wp2_with fail
  refine Mid.mk ⟨HS.o,?_⟩;refine jX 29 0 aF aF ?_;simp only[jW,aW,aX,aU,aV];go_wp2_with fail
  refine Mid.mk ⟨HS.o,?_⟩;refine kH aF ?_;clear q0 q1 q2 q3 q4 q5 q6 q7 r0 r1 r2 r3 r4 r5 r6 r7 s0 s1 s2 s3 s4 s5 s6 s7 u0 u1 HS HD;have bRQ:=bAH.o.tm e6'.o;have bXz:=c0J.o.late e6'.o;have bYz:=c0K.o.late e6'.o;have a8W:=bG0.o.mono e6'.o;have r0:=bYz.cell (i:=0) rfl;have r1:=bYz.cell (i:=1) rfl;have r2:=bYz.cell (i:=2) rfl;have r3:=bYz.cell (i:=3) rfl;have r4:=bYz.cell (i:=4) rfl;have r5:=bYz.cell (i:=5) rfl;have r6:=bYz.cell (i:=6) rfl;have r7:=bYz.cell (i:=7) rfl;obtain⟨b0M,c0L,c0M,bRR⟩:=aL bRQ bXz bYz a8W;clear bRQ bXz bYz a8W;go_wp2_with fail
  refine(YW'.o _ b0M.o b0L.o bQR.o).mono ?_;rintro e v1 ⟨a13,m13,c13,rfl,bAI,hbv⟩;have bHQ:=(Sl.kZ bAI).1;have b6G:=b0M.o.tm hbv;have bXv:=c0L.o.late hbv;have bYv:=c0M.o.late hbv;have hsv:=bRR.o.mono hbv;clear bAI hbv r0 r1 r2 r3 r4 r5 r6 r7;have hwy:=aNJ b0L.o;have heq:lU y=0→(FB x==FB y)=J6 x y:=fun h0=>by
   rw[dY,beq_iff_eq,aAB];exact aWS a2I.o JN.o b1'.o h0 b0L.o b2'.o
  obtain⟨cy,hcy⟩:∃c,lU y=c:=⟨_,rfl⟩;rw[hcy]at hwy heq;rw[hwy];obtain⟨Ty2,fq,EH,AQ,hsq⟩:=kM v1;have bHR:=fun s=>b6G.trans ((AQ s).mono b6G.size);have q0:=fun s=>((fun s=>bXv.late (AQ s)) s).cell (i:=0) rfl;have q1:=fun s=>((fun s=>bXv.late (AQ s)) s).cell (i:=1) rfl;have q2:=fun s=>((fun s=>bXv.late (AQ s)) s).cell (i:=2) rfl;have q3:=fun s=>((fun s=>bXv.late (AQ s)) s).cell (i:=3) rfl;have q4:=fun s=>((fun s=>bXv.late (AQ s)) s).cell (i:=4) rfl;have q5:=fun s=>((fun s=>bXv.late (AQ s)) s).cell (i:=5) rfl;have q6:=fun s=>((fun s=>bXv.late (AQ s)) s).cell (i:=6) rfl;have q7:=fun s=>((fun s=>bXv.late (AQ s)) s).cell (i:=7) rfl;have r0:=fun s=>((fun s=>bYv.late (AQ s)) s).cell (i:=0) rfl;have r1:=fun s=>((fun s=>bYv.late (AQ s)) s).cell (i:=1) rfl;have r2:=fun s=>((fun s=>bYv.late (AQ s)) s).cell (i:=2) rfl;have r3:=fun s=>((fun s=>bYv.late (AQ s)) s).cell (i:=3) rfl;have r4:=fun s=>((fun s=>bYv.late (AQ s)) s).cell (i:=4) rfl;have r5:=fun s=>((fun s=>bYv.late (AQ s)) s).cell (i:=5) rfl;have r6:=fun s=>((fun s=>bYv.late (AQ s)) s).cell (i:=6) rfl;have r7:=fun s=>((fun s=>bYv.late (AQ s)) s).cell (i:=7) rfl;have HQ:=aA (hsq _ ((bF _ _).drew));have BS:=fun s=>aH3 a5 a13 m5 m13 c5 c13 (FB x) (FB y) (fq s) (hsv.mono (AQ s)) (bHQ.mono (AQ s));have YS2:=fun s=>YS'.o (fq s) (bHR s);have AW:=fun s=>KC (fq s);clear hwy hcy;obtain⟨c3T,c6N,c6O,c6P,c3U,sZ,TS,bAJ,BS',b6H,AW'⟩:=aS b6G bXv bYv hsv bHQ AQ hsq bHR BS YS2 AW;clear b6G bXv bYv hsv bHQ AQ hsq bHR BS YS2 AW;by_cases hy0:cy=0
  ·have ny:(cy != 0)=false:=by rw[hy0];rfl
   have hq:=heq hy0;obtain⟨sb,hsb⟩:∃b,J6 x y=b:=⟨_,rfl⟩;obtain⟨BS',b6H⟩:=aJ (fun s=>by have:=BS'.o s;rw[hq,hsb]at this;exact this) (fun s=>by have:=b6H.o s;rw[hsb]at this;exact this);have nb:(sb==sb)=true:=by simp
   clear heq hq hsb hy0;go_upto_region 14 with fail
   refine kL fq aF aF HQ.o ?_;iterate 15 (go_big_quiet_step (first
    |(go_at_call 26;refine(BS'.o _).mono ?_;rintro e w3 ⟨rfl,kT⟩;exact⟨rfl,TS.o _ ((sZ.o _).tm kT)⟩)
    |(go_at_call 29;refine(b6H.o _).mono ?_;rintro e w3 ⟨rfl,kT⟩;exact⟨rfl,TS.o _ ((sZ.o _).tm kT)⟩)
    |(go_at_call 19;refine(AW'.o _).mono ?_;rintro e w3 ⟨rfl,kT⟩;exact⟨rfl,TS.o _ ((sZ.o _).tm kT)⟩)
    |rfl))
   refine wpQuiet_nil ?_;intro s;have yV:=aA (bAJ.o s);clear q0 q1 q2 q3 q4 q5 q6 q7 r0 r1 r2 r3 r4 r5 r6 r7;go_wp2_with fail
   go_ret;exact⟨rfl,yV.o⟩
  ·have ny:(cy != 0)=true:=by simpa using hy0
   clear heq hy0;go_upto_region 14 with fail
   refine kL fq aF aF HQ.o ?_;iterate 15 (go_big_quiet_step (first
    |(go_at_call 26;refine(BS'.o _).mono ?_;rintro e w3 ⟨rfl,kT⟩;exact⟨rfl,TS.o _ ((sZ.o _).tm kT)⟩)
    |(go_at_call 29;refine(b6H.o _).mono ?_;rintro e w3 ⟨rfl,kT⟩;exact⟨rfl,TS.o _ ((sZ.o _).tm kT)⟩)
    |(go_at_call 19;refine(AW'.o _).mono ?_;rintro e w3 ⟨rfl,kT⟩;exact⟨rfl,TS.o _ ((sZ.o _).tm kT)⟩)
    |rfl))
   refine wpQuiet_nil ?_;intro s;have yV:=aA (bAJ.o s);clear q0 q1 q2 q3 q4 q5 q6 q7 r0 r1 r2 r3 r4 r5 r6 r7;go_wp2_with fail
   go_ret;exact⟨rfl,yV.o⟩
