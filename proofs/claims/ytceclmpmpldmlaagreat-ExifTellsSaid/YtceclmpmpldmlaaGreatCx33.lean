import Derived.Test.YtceclmpmpldmlaaGreatCx32
set_option linter.unusedSimpArgs false
set_option linter.unusedVariables false
set_option maxRecDepth 100000
set_option maxHeartbeats 8000000
namespace Go.Proofs.YtceclmpmpldmlaaGreat
open Go.RowKit Tt
theorem aIK (y t k y2 t2 k2:Int) (a a':Option Addr) (n c n' c':Nat) (d d2:List Int) (w:World) (hs:Sl w a n c 1 (ints .u8 d)) (BO:Sl w a' n' c' 1 (ints .u8 d2)) (hd:tV d) (hd2:tV d2):
  Calls Tryz.prog 71 #[.agg #[.int .i64 y,.int .i64 t,.int .i64 k,.slice a n c],.agg #[.int .i64 y2,.int .i64 t2,.int .i64 k2,.slice a' n' c']] w fun e w'=>e= .returned (.bool (y==y2&&(t==t2&&k==k2&&d==d2)))∧Below w.heap.size w w':=by
 have pW:=(aD w (.cells #[.int .i64 y,.int .i64 t,.int .i64 k,.slice a n c] 74)).alloc (by simp) (.cells #[.int .i64 y2,.int .i64 t2,.int .i64 k2,.slice a' n' c'] 74);have HC:=aOM t k t2 k2 a a' n c n' c' d d2 _ (hs.mono pW) (BO.mono pW) hd hd2;obtain⟨b3,h3⟩:∃b,(t==t2&&k==k2&&d==d2)=b:=⟨_,rfl⟩;rw[h3]at HC;rw[h3];obtain⟨pX,RP,HC',h3',lF,UB,b8X⟩:=aO hs BO HC h3 pW hd hd2;clear hs BO HC h3 pW hd hd2;go_enter Tryz.func71,Tryz.ntmps71;cases h1:(y==y2)with
 |false=>
  go_wp2_with fail
  go_ret;exact⟨rfl,lF.o⟩
 |true=>
  go_wp2_with fail
  refine HC'.o.mono ?_;rintro e w2 ⟨rfl,jT⟩;have hb:=lF.o.tm jT;obtain⟨mO,mE⟩:=aJ hb jT;clear hb jT;go_wp2_with fail
  go_ret;exact⟨rfl,mO.o⟩
theorem aE9 (a a':Option Addr) (n c n' c':Nat) (xs ys:List Tz) (w:World) (hx:Tgr w a n c xs) (hy:Tgr w a' n' c' ys) (xI:∀z∈xs,tV z.2) (rU:∀z∈ys,tV z.2):
  Calls Tryz.prog 72 #[.slice a n c,.slice a' n' c',.func (.func 71) #[] #[]] w fun e w'=>e= .returned (.bool (xs.map l8==ys.map l8))∧Below w.heap.size w w':=by
 have hxl:(xs.map l8).length=n:=by rw[bL];exact hx.len
 have hyl:(ys.map l8).length=n':=by rw[bL];exact hy.len
 have LX:=hx.row.max;have BX:=hx.row.le;have hmy:=hy.row.max;have bNX:=hy.row.le;have bIR:=hx.len;have bIS:=hy.len;obtain⟨r,hr⟩:=aC (xs.map l8==ys.map l8);rw[hr];have qX:=aA hr;clear hr;obtain⟨TR,hy',aGJ,aGK,a2I,wJ⟩:=aN hx hy hxl hyl xI rU;obtain⟨bIT,bIU⟩:=aJ bIR bIS;clear hx hy hxl hyl xI rU bIR bIS;by_cases hnn:n=n'
 ·subst hnn;have oJ:((n:Int) != (n:Int))=false:=by simp
  go_enter Tryz.func72,Tryz.ntmps72;go_wp2_with fail
  go_loopw [17] (fun iv wr=>∃(i:Nat),i≤n∧iv= .int .i64 i∧Hid ((xs.map l8).take i=(ys.map l8).take i)∧Hid (Below w.heap.size w wr)) (fun iv _=>n - (intOf iv).toNat)
  case atStart=>exact⟨0,by omega,rfl,aA rfl,aA (aY _ _)⟩
  case round=>
   obtain⟨i,yJ,rfl,DI,hb⟩:=hrel;by_cases hi:i<n
   ·have I4:(i:Int)<(n:Int):=by omega
    have sS:IntKind.i64.wrap ((i:Int)+1)=i+1:=by rw[bF];omega
    obtain⟨b,o,rfl,lC,f0,f1,f2,f3,rV⟩:=(TR.o.mono hb.o).at hi;obtain⟨b2,o2,rfl,wM,g0,g1,g2,g3,a1R⟩:=(hy'.o.mono hb.o).at hi;have LX:=NR l8 xs yL i;have hmy:=NR l8 ys yL i;have hd1:tV (xs.getD i yL).2:=by rw[jO (by rw[bIT.o];exact hi)];exact a2I.o _ (bJ _)
    have hd2:tV (ys.getD i yL).2:=by rw[jO (by rw[bIU.o];exact hi)];exact wJ.o _ (bJ _)
    obtain⟨⟨⟨y,t,k,xa,xn,xc⟩,d⟩,wO⟩:∃z,xs.getD i yL=z:=⟨_,rfl⟩;obtain⟨⟨⟨y2,t2,k2,xa2,xn2,xc2⟩,d2⟩,a1S⟩:∃z,ys.getD i yL=z:=⟨_,rfl⟩;rw[wO]at f0 f1 f2 f3 rV LX hd1;rw[a1S]at g0 g1 g2 g3 a1R hmy hd2;simp only[l8]at f0 f1 f2 f3 g0 g1 g2 g3 rV a1R LX hmy hd1 hd2;have l9:=(aD wr (.cells #[.int .i64 y,.int .i64 t,.int .i64 k,.slice xa xn xc] 74)).alloc (by simp) (.cells #[.int .i64 y2,.int .i64 t2,.int .i64 k2,.slice xa2 xn2 xc2] 74);have HC:=aIK y t k y2 t2 k2 xa xa2 xn xc xn2 xc2 d d2 _ (rV.mono l9) (a1R.mono l9) hd1 hd2;have hq:(y==y2&&(t==t2&&k==k2&&d==d2))=true↔(xs.map l8).getD i (0,0,0, [])=(ys.map l8).getD i (0,0,0, []):=by
     have e1:(xs.map l8).getD i (0,0,0, [])=(y,t,k,d):=LX;have e2:(ys.map l8).getD i (0,0,0, [])=(y2,t2,k2,d2):=hmy;rw[e1,e2];simp only[bV,beq_iff_eq,fQ];constructor
     ·rintro⟨h1,⟨h2,h3⟩,h4⟩;exact⟨h1,h2,h3,h4⟩
     ·rintro⟨h1,h2,h3,h4⟩;exact⟨h1,⟨h2,h3⟩,h4⟩
    obtain⟨q,hqq⟩:=aC (y==y2&&(t==t2&&k==k2&&d==d2));rw[hqq]at HC hq;clear LX hmy;obtain⟨JF,bEQ,NC,bER,oL,HC',hq',bVW,b8W,b8X⟩:=aR rV a1R wO a1S l9 HC hq hqq hd1 hd2;clear rV a1R wO a1S l9 HC hq hqq hd1 hd2;go_wp2_with fail
    refine HC'.o.mono ?_;rintro e w3 ⟨rfl,jQ⟩;have jZ:=hb.o.trans ((oL.o.tm jQ).mono hb.o.size);clear f0 f1 f2 f3 g0 g1 g2 g3;obtain⟨jM,qN⟩:=aJ jZ jQ;clear jZ jQ;cases q with
    |true=>
     have mQ:Hid ((xs.map l8).take (i+1)=(ys.map l8).take (i+1)):=aA (a1Q aGJ.o aGK.o hi DI.o (hq'.o.1 rfl));go_wp2_with fail
     go_roundw
     case rel=>exact⟨i+1,by omega,by go_num,mQ,jM⟩
     case measure=>simp[intOf];omega
    |false=>
     obtain rfl:r=false:=by
      rw[←qX.o];exact XD (k:=i) (d:=(0,0,0, [])) (fun e=>by have:=hq'.o.2 e;cases this)
     go_wp2_with fail
     go_ret;exact⟨rfl,jM.o⟩
   ·obtain rfl:i=n:=by omega
    obtain rfl:r=true:=by rw[←qX.o];exact YS aGJ.o aGK.o aG DI.o
    go_wp2;go_ret;exact⟨rfl,hb.o⟩
 ·have oJ:((n:Int) != (n':Int))=true:=by simp;omega
  obtain rfl:r=false:=by
   rw[←qX.o,beq_eq_false_iff_ne];intro e;exact hnn (aGJ.o.symm.trans (e▸aGK.o))
  go_enter Tryz.func72,Tryz.ntmps72;go_wp2;go_ret;exact⟨rfl,aY _ _⟩
theorem wP.eq_iff {x y:wP}:x=y↔x.o=y.o∧x.z=y.z∧x.p=y.p∧x.g=y.g∧x.i=y.i∧x.f=y.f∧x.mr=y.mr∧x.th=y.th:=by
 constructor
 ·rintro rfl;exact⟨rfl,rfl,rfl,rfl,rfl,rfl,rfl,rfl⟩
 ·obtain⟨o,z,p,g,i,f,m,t⟩:=x;obtain⟨o2,z2,p2,g2,i2,f2,m2,t2⟩:=y;rintro⟨h1,h2,h3,h4,h5,h6,h7,h8⟩;simp only at h1 h2 h3 h4 h5 h6 h7 h8;subst h1 h2 h3 h4 h5 h6 h7 h8;rfl
def CS (x y:wP):Bool:=x.o==y.o&&x.z==y.z&&x.p==y.p&&x.g==y.g&&x.i==y.i&&x.f==y.f&&x.mr==y.mr&&x.th==y.th
theorem aON {x y:wP}:CS x y=true↔x=y:=by
 unfold CS;rw[wP.eq_iff];simp only[bV,beq_iff_eq,and_assoc]
theorem KC (a a':Option Addr) (n c n' c':Nat) (xs ys:List rM) (w:World) (hx:rA w a n c xs) (hy:rA w a' n' c' ys):
  Calls Tryz.prog 74 #[.slice a n c,.slice a' n' c'] w fun e w'=>e= .returned (.bool (xs==ys))∧Below w.heap.size w w':=by
 obtain⟨zx,h1,rfl⟩:=hx;obtain⟨zy,h2,rfl⟩:=hy;exact a7N a a' n c n' c' zx zy w h1 h2
theorem FP (a a':Option Addr) (n c n' c':Nat) (xs ys:List rM) (w:World) (hx:rA w a n c xs) (hy:rA w a' n' c' ys) (xI:∀t∈xs,tV t.2.2.2) (rU:∀t∈ys,tV t.2.2.2):
  Calls Tryz.prog 72 #[.slice a n c,.slice a' n' c',.func (.func 71) #[] #[]] w fun e w'=>e= .returned (.bool (xs==ys))∧Below w.heap.size w w':=by
 obtain⟨zx,h1,rfl⟩:=hx;obtain⟨zy,h2,rfl⟩:=hy;exact aE9 a a' n c n' c' zx zy w h1 h2 (fun z hz=>xI _ (fP hz)) (fun z hz=>rU _ (fP hz))
theorem VU (a a':Option Addr) (n n' c c':Nat) (x y:List Int) (w:World) (hx:Sl w a n c 1 (ints .u8 x)) (hy:Sl w a' n' c' 1 (ints .u8 y)):
  Calls Tryz.prog 26 #[.slice a n c,.slice a' n' c'] w fun e w'=>e= .returned (.bool (x==y))∧Below w.heap.size w w':=
 (aGI a a' n n' c c' x y w hx hy).mono fun e w' ⟨h1,h2⟩=>⟨h1,h2.below _⟩
theorem ZG (x y:wP) (A B:ExA) (w:World) (h:ExR w x A) (h2:ExR w y B):
  Calls Tryz.prog 30 #[exV x.o A,exV y.o B] w fun e w'=>e= .returned (.bool (CS x y))∧Below w.heap.size w w':=by
 obtain⟨za,zn,zc,pa,pn,pc,ga,gn,gc,ia,iN,ic,fa,fn,fc,ma,mn,mc,ta,tn,tc⟩:=A;obtain⟨xL,xM,xO,xP,xQ,pc2,xR,xS,xU,xV,xW,xX,fa2,xY,xZ,ma2,mn2,mc2,ta2,tn2,tc2⟩:=B;obtain⟨o,z,p,g,i,f,mk,th⟩:=x;obtain⟨o2,z2,p2,g2,i2,f2,mk2,th2⟩:=y;simp only[exV,R9]at*;obtain⟨hz,hp,hg,hi,hf,hm,ht⟩:=h;obtain⟨qK,hp2,HZ,hi2,hf2,MV,ht2⟩:=h2;obtain⟨W,hW,bE,bR,hb,rX⟩:=nM w 61 #[.int .i64 o,.slice za zn zc,.slice pa pn pc,.slice ga gn gc,.slice ia iN ic,.slice fa fn fc,.slice ma mn mc,.slice ta tn tc] 61 #[.int .i64 o2,.slice xL xM xO,.slice xP xQ pc2,.slice xR xS xU,.slice xV xW xX,.slice fa2 xY xZ,.slice ma2 mn2 mc2,.slice ta2 tn2 tc2];have hC0:=fun W (hb:Below w.heap.size w W)=>KC za xL zn zc xM xO z z2 W (hz.mono hb) (qK.mono hb);have hC1:=fun W (hb:Below w.heap.size w W)=>KC pa xP pn pc xQ pc2 p p2 W (hp.mono hb) (hp2.mono hb);have hC2:=fun W (hb:Below w.heap.size w W)=>KC ga xR gn gc xS xU g g2 W (hg.mono hb) (HZ.mono hb);have hC3:=fun W (hb:Below w.heap.size w W)=>KC ia xV iN ic xW xX i i2 W (hi.mono hb) (hi2.mono hb);have hC4:=fun W (hb:Below w.heap.size w W)=>KC fa fa2 fn fc xY xZ f f2 W (hf.mono hb) (hf2.mono hb);have hC5:=fun W (hb:Below w.heap.size w W)=>VU ma ma2 mn mn2 mc mc2 mk mk2 W (hm.mono hb) (MV.mono hb);have hC6:=fun W (hb:Below w.heap.size w W)=>VU ta ta2 tn tn2 tc tc2 th th2 W (ht.mono hb) (ht2.mono hb);obtain⟨b,yZ⟩:=aC (CS ⟨o,z,p,g,i,f,mk,th⟩ ⟨o2,z2,p2,g2,i2,f2,mk2,th2⟩);rw[yZ];unfold CS at yZ;simp only at yZ;obtain⟨b0,pW⟩:∃b,(o==o2)=b:=⟨_,rfl⟩;obtain⟨b1,jY⟩:∃b,(z==z2)=b:=⟨_,rfl⟩;obtain⟨b2,jT⟩:∃b,(p==p2)=b:=⟨_,rfl⟩;obtain⟨b3,jQ⟩:∃b,(g==g2)=b:=⟨_,rfl⟩;obtain⟨b4,mF⟩:∃b,(i==i2)=b:=⟨_,rfl⟩;obtain⟨b5,nZ⟩:∃b,(f==f2)=b:=⟨_,rfl⟩;obtain⟨b6,wQ⟩:∃b,(mk==mk2)=b:=⟨_,rfl⟩;obtain⟨b7,rE⟩:∃b,(th==th2)=b:=⟨_,rfl⟩;rw[pW,jY,jT,jQ,mF,nZ,wQ,rE]at yZ;rw[jY]at hC0;rw[jT]at hC1;rw[jQ]at hC2;rw[mF]at hC3;rw[nZ]at hC4;rw[wQ]at hC5;rw[rE]at hC6;clear jY jT jQ mF nZ wQ rE;have q0:=bE.cell (i:=0) rfl;have r0:=bR.cell (i:=0) rfl;have q1:=bE.cell (i:=1) rfl;have r1:=bR.cell (i:=1) rfl;have q2:=bE.cell (i:=2) rfl;have r2:=bR.cell (i:=2) rfl;have q3:=bE.cell (i:=3) rfl;have r3:=bR.cell (i:=3) rfl;have q4:=bE.cell (i:=4) rfl;have r4:=bR.cell (i:=4) rfl;have q5:=bE.cell (i:=5) rfl;have r5:=bR.cell (i:=5) rfl;have q6:=bE.cell (i:=6) rfl;have r6:=bR.cell (i:=6) rfl;have q7:=bE.cell (i:=7) rfl;have r7:=bR.cell (i:=7) rfl;obtain⟨nT,qY,jM,AQ,hp',TQ,xG,QJ,EN,TV,bC8,aYG⟩:=aT bE bR hb hz hp hg hi hf hm ht qK hp2;obtain⟨aZB,bIV,bIW,a1V,aPX,I5,zL,aU4,aNM,aU5,a6O,aU6⟩:=aT HZ hi2 hf2 MV ht2 hW rX hC0 hC1 hC2 hC3 hC4;obtain⟨aSC,aZ9,AZ⟩:=aK hC5 hC6 yZ;clear hz hp hg hi hf hm ht qK hp2 HZ hi2 hf2 MV ht2 hW rX hC0 hC1 hC2 hC3 hC4 hC5 hC6 yZ;clear bE bR hb;go_enter Tryz.func30,Tryz.ntmps30;go_upto_region 1 with fail
 rw[I5.o];cases b0 with
 |false=>
  obtain rfl:b=false:=by rw[←AZ.o];simp
  go_wp2_with fail
  go_ret;exact⟨rfl,jM.o⟩
 |true=>
 go_wp2_with fail
 refine(aU4.o _ jM.o).mono ?_;rintro e v0 ⟨rfl,pF⟩;clear q0 q1 q2 q3 q4 q5 q6 q7 r0 r1 r2 r3 r4 r5 r6 r7;obtain⟨yT,KD,lJ⟩:=aK (nT.o.late pF) (qY.o.late pF) (jM.o.tm pF);clear nT qY jM pF;have nT:=yT;have qY:=KD;have jM:=lJ;clear yT KD lJ;have q0:=nT.o.cell (i:=0) rfl;have r0:=qY.o.cell (i:=0) rfl;have q1:=nT.o.cell (i:=1) rfl;have r1:=qY.o.cell (i:=1) rfl;have q2:=nT.o.cell (i:=2) rfl;have r2:=qY.o.cell (i:=2) rfl;have q3:=nT.o.cell (i:=3) rfl;have r3:=qY.o.cell (i:=3) rfl;have q4:=nT.o.cell (i:=4) rfl;have r4:=qY.o.cell (i:=4) rfl;have q5:=nT.o.cell (i:=5) rfl;have r5:=qY.o.cell (i:=5) rfl;have q6:=nT.o.cell (i:=6) rfl;have r6:=qY.o.cell (i:=6) rfl;have q7:=nT.o.cell (i:=7) rfl;have r7:=qY.o.cell (i:=7) rfl;cases b1 with
 |false=>
  obtain rfl:b=false:=by rw[←AZ.o];simp
  go_wp2_with fail
  go_ret;exact⟨rfl,jM.o⟩
 |true=>
 go_wp2_with fail
 refine(aNM.o _ jM.o).mono ?_;rintro e v1 ⟨rfl,pF⟩;clear q0 q1 q2 q3 q4 q5 q6 q7 r0 r1 r2 r3 r4 r5 r6 r7;obtain⟨yT,KD,lJ⟩:=aK (nT.o.late pF) (qY.o.late pF) (jM.o.tm pF);clear nT qY jM pF;have nT:=yT;have qY:=KD;have jM:=lJ;clear yT KD lJ;have q0:=nT.o.cell (i:=0) rfl;have r0:=qY.o.cell (i:=0) rfl;have q1:=nT.o.cell (i:=1) rfl;have r1:=qY.o.cell (i:=1) rfl;have q2:=nT.o.cell (i:=2) rfl;have r2:=qY.o.cell (i:=2) rfl;have q3:=nT.o.cell (i:=3) rfl;have r3:=qY.o.cell (i:=3) rfl;have q4:=nT.o.cell (i:=4) rfl;have r4:=qY.o.cell (i:=4) rfl;have q5:=nT.o.cell (i:=5) rfl;have r5:=qY.o.cell (i:=5) rfl;have q6:=nT.o.cell (i:=6) rfl;have r6:=qY.o.cell (i:=6) rfl;have q7:=nT.o.cell (i:=7) rfl;have r7:=qY.o.cell (i:=7) rfl;cases b2 with
 |false=>
  obtain rfl:b=false:=by rw[←AZ.o];simp
  go_wp2_with fail
  go_ret;exact⟨rfl,jM.o⟩
 |true=>
 go_wp2_with fail
 refine(aU5.o _ jM.o).mono ?_;rintro e v2 ⟨rfl,pF⟩;clear q0 q1 q2 q3 q4 q5 q6 q7 r0 r1 r2 r3 r4 r5 r6 r7;obtain⟨yT,KD,lJ⟩:=aK (nT.o.late pF) (qY.o.late pF) (jM.o.tm pF);clear nT qY jM pF;have nT:=yT;have qY:=KD;have jM:=lJ;clear yT KD lJ;have q0:=nT.o.cell (i:=0) rfl;have r0:=qY.o.cell (i:=0) rfl;have q1:=nT.o.cell (i:=1) rfl;have r1:=qY.o.cell (i:=1) rfl;have q2:=nT.o.cell (i:=2) rfl;have r2:=qY.o.cell (i:=2) rfl;have q3:=nT.o.cell (i:=3) rfl;have r3:=qY.o.cell (i:=3) rfl;have q4:=nT.o.cell (i:=4) rfl;have r4:=qY.o.cell (i:=4) rfl;have q5:=nT.o.cell (i:=5) rfl;have r5:=qY.o.cell (i:=5) rfl;have q6:=nT.o.cell (i:=6) rfl;have r6:=qY.o.cell (i:=6) rfl;have q7:=nT.o.cell (i:=7) rfl;have r7:=qY.o.cell (i:=7) rfl;cases b3 with
 |false=>
  obtain rfl:b=false:=by rw[←AZ.o];simp
  go_wp2_with fail
  go_ret;exact⟨rfl,jM.o⟩
 |true=>
 go_wp2_with fail
 refine(a6O.o _ jM.o).mono ?_;rintro e v3 ⟨rfl,pF⟩;clear q0 q1 q2 q3 q4 q5 q6 q7 r0 r1 r2 r3 r4 r5 r6 r7;obtain⟨yT,KD,lJ⟩:=aK (nT.o.late pF) (qY.o.late pF) (jM.o.tm pF);clear nT qY jM pF;have nT:=yT;have qY:=KD;have jM:=lJ;clear yT KD lJ;have q0:=nT.o.cell (i:=0) rfl;have r0:=qY.o.cell (i:=0) rfl;have q1:=nT.o.cell (i:=1) rfl;have r1:=qY.o.cell (i:=1) rfl;have q2:=nT.o.cell (i:=2) rfl;have r2:=qY.o.cell (i:=2) rfl;have q3:=nT.o.cell (i:=3) rfl;have r3:=qY.o.cell (i:=3) rfl;have q4:=nT.o.cell (i:=4) rfl;have r4:=qY.o.cell (i:=4) rfl;have q5:=nT.o.cell (i:=5) rfl;have r5:=qY.o.cell (i:=5) rfl;have q6:=nT.o.cell (i:=6) rfl;have r6:=qY.o.cell (i:=6) rfl;have q7:=nT.o.cell (i:=7) rfl;have r7:=qY.o.cell (i:=7) rfl;cases b4 with
 |false=>
  obtain rfl:b=false:=by rw[←AZ.o];simp
  go_wp2_with fail
  go_ret;exact⟨rfl,jM.o⟩
 |true=>
 go_wp2_with fail
 refine(aU6.o _ jM.o).mono ?_;rintro e v4 ⟨rfl,pF⟩;clear q0 q1 q2 q3 q4 q5 q6 q7 r0 r1 r2 r3 r4 r5 r6 r7;obtain⟨yT,KD,lJ⟩:=aK (nT.o.late pF) (qY.o.late pF) (jM.o.tm pF);clear nT qY jM pF;have nT:=yT;have qY:=KD;have jM:=lJ;clear yT KD lJ;have q0:=nT.o.cell (i:=0) rfl;have r0:=qY.o.cell (i:=0) rfl;have q1:=nT.o.cell (i:=1) rfl;have r1:=qY.o.cell (i:=1) rfl;have q2:=nT.o.cell (i:=2) rfl;have r2:=qY.o.cell (i:=2) rfl;have q3:=nT.o.cell (i:=3) rfl;have r3:=qY.o.cell (i:=3) rfl;have q4:=nT.o.cell (i:=4) rfl;have r4:=qY.o.cell (i:=4) rfl;have q5:=nT.o.cell (i:=5) rfl;have r5:=qY.o.cell (i:=5) rfl;have q6:=nT.o.cell (i:=6) rfl;have r6:=qY.o.cell (i:=6) rfl;have q7:=nT.o.cell (i:=7) rfl;have r7:=qY.o.cell (i:=7) rfl;cases b5 with
 |false=>
  obtain rfl:b=false:=by rw[←AZ.o];simp
  go_wp2_with fail
  go_ret;exact⟨rfl,jM.o⟩
 |true=>
 go_wp2_with fail
 refine(aSC.o _ jM.o).mono ?_;rintro e v5 ⟨rfl,pF⟩;clear q0 q1 q2 q3 q4 q5 q6 q7 r0 r1 r2 r3 r4 r5 r6 r7;obtain⟨yT,KD,lJ⟩:=aK (nT.o.late pF) (qY.o.late pF) (jM.o.tm pF);clear nT qY jM pF;have nT:=yT;have qY:=KD;have jM:=lJ;clear yT KD lJ;have q0:=nT.o.cell (i:=0) rfl;have r0:=qY.o.cell (i:=0) rfl;have q1:=nT.o.cell (i:=1) rfl;have r1:=qY.o.cell (i:=1) rfl;have q2:=nT.o.cell (i:=2) rfl;have r2:=qY.o.cell (i:=2) rfl;have q3:=nT.o.cell (i:=3) rfl;have r3:=qY.o.cell (i:=3) rfl;have q4:=nT.o.cell (i:=4) rfl;have r4:=qY.o.cell (i:=4) rfl;have q5:=nT.o.cell (i:=5) rfl;have r5:=qY.o.cell (i:=5) rfl;have q6:=nT.o.cell (i:=6) rfl;have r6:=qY.o.cell (i:=6) rfl;have q7:=nT.o.cell (i:=7) rfl;have r7:=qY.o.cell (i:=7) rfl;cases b6 with
 |false=>
  obtain rfl:b=false:=by rw[←AZ.o];simp
  go_wp2_with fail
  go_ret;exact⟨rfl,jM.o⟩
 |true=>
 go_wp2_with fail
 refine(aZ9.o _ jM.o).mono ?_;rintro e v6 ⟨rfl,pF⟩;clear q0 q1 q2 q3 q4 q5 q6 q7 r0 r1 r2 r3 r4 r5 r6 r7;obtain⟨yT,KD,lJ⟩:=aK (nT.o.late pF) (qY.o.late pF) (jM.o.tm pF);clear nT qY jM pF;have nT:=yT;have qY:=KD;have jM:=lJ;clear yT KD lJ;have q0:=nT.o.cell (i:=0) rfl;have r0:=qY.o.cell (i:=0) rfl;have q1:=nT.o.cell (i:=1) rfl;have r1:=qY.o.cell (i:=1) rfl;have q2:=nT.o.cell (i:=2) rfl;have r2:=qY.o.cell (i:=2) rfl;have q3:=nT.o.cell (i:=3) rfl;have r3:=qY.o.cell (i:=3) rfl;have q4:=nT.o.cell (i:=4) rfl;have r4:=qY.o.cell (i:=4) rfl;have q5:=nT.o.cell (i:=5) rfl;have r5:=qY.o.cell (i:=5) rfl;have q6:=nT.o.cell (i:=6) rfl;have r6:=qY.o.cell (i:=6) rfl;have q7:=nT.o.cell (i:=7) rfl;have r7:=qY.o.cell (i:=7) rfl;cases b7 with
 |false=>
  obtain rfl:b=false:=by rw[←AZ.o];simp
  go_wp2_with fail
  go_ret;exact⟨rfl,jM.o⟩
 |true=>
 obtain rfl:b=true:=by rw[←AZ.o];rfl
 go_wp2_with fail
 go_ret;exact⟨rfl,jM.o⟩
