import Derived.Test.YtceclmpmpldmlaaGreatCx40
import Derived.Test.YtceclmpmpldmlaaGreatCx33
set_option linter.unusedSimpArgs false
set_option linter.unusedVariables false
set_option maxRecDepth 100000
set_option maxHeartbeats 8000000
namespace Go.Proofs.YtceclmpmpldmlaaGreat
open Go.RowKit Tt
theorem WI (x:wP) (A:ExA) (w:World) (h:ExR w x A) (hs:IQ x) (hd:aDV x) (hk:WfE x) (oU:aDU x):
  Calls Tryz.prog 23 #[exV x.o A] w fun e w'=>∃a m c,e= .returned (.tuple #[.slice a m c,.int .i64 (aNY x)])∧w'.ownsRow w.heap.size 5 1 (.slice a m c) m (ints .u8 (aA2 x))∧Below w.heap.size w w':=by
 have hTr:=fun W (hb:Below w.heap.size w W)=>Y1 x A W (h.mono hb) hs hd hk;obtain⟨za,zn,zc,pa,pn,pc,ga,gn,gc,ia,iN,ic,fa,fn,fc,ma,mn,mc,ta,tn,tc⟩:=A;obtain⟨W,hW⟩:=aC (w.alloc (.cells (R9 x.o ⟨za,zn,zc,pa,pn,pc,ga,gn,gc,ia,iN,ic,fa,fn,fc,ma,mn,mc,ta,tn,tc⟩) 61));have bE:=jW.new w 61 (R9 x.o ⟨za,zn,zc,pa,pn,pc,ga,gn,gc,ia,iN,ic,fa,fn,fc,ma,mn,mc,ta,tn,tc⟩);have hb:=aD w (.cells (R9 x.o ⟨za,zn,zc,pa,pn,pc,ga,gn,gc,ia,iN,ic,fa,fn,fc,ma,mn,mc,ta,tn,tc⟩) 61);rw[hW]at bE hb;have vI:=a8I oU;have hwC:aNY x=if nH x=0 then tY 16 x.o (mI x) exL else nH x:=rfl;have hwE:aA2 x=if nH x=0 then a3H 16 x.o (mI x) exL else []:=rfl;have tH:=fun h=>OD (x:=x) h hs;obtain⟨ck,G7⟩:∃c,nH x=c:=⟨_,rfl⟩;simp only[G7]at*;simp only[exV,R9]at*;have q0:=bE.cell (i:=0) rfl;have q1:=bE.cell (i:=1) rfl;have q2:=bE.cell (i:=2) rfl;have q3:=bE.cell (i:=3) rfl;have q4:=bE.cell (i:=4) rfl;have q5:=bE.cell (i:=5) rfl;have q6:=bE.cell (i:=6) rfl;have q7:=bE.cell (i:=7) rfl;obtain⟨LM,mO,I5,a4H,zN,aWW,aWX,yG,a3X⟩:=aQ bE hb hW hTr vI hwC hwE tH G7;clear bE hb hW hTr vI hwC hwE tH G7
 go_enter Tryz.func23,Tryz.ntmps23;go_upto_region 1 with fail
 rw[I5.o];go_wp2_with fail
 refine(a4H.o _ mO.o).mono ?_;rintro e w1 ⟨oo,a1,n1,c1,rfl,jY,OQ⟩;have qC:=mO.o.tm jY;clear q0 q1 q2 q3 q4 q5 q6 q7;by_cases hc0:ck=0
 ·subst hc0;rw[if_pos rfl]at OQ;obtain⟨rfl,rfl,hDO⟩:=OQ;have e1:((0:Int) != 0)=false:=rfl;have aWY:=yG.o rfl;have KI:(mI x).length≤500:=by unfold mI;split <;> simp
  have bT:=jW.new w1 39 #[.int .i64 x.o,.slice a1 (mI x).length c1];have l9:=aD w1 (.cells #[.int .i64 x.o,.slice a1 (mI x).length c1] 39);have aAM:=hDO.later l9;obtain⟨w2,MQ⟩:∃W,w1.alloc (.cells #[.int .i64 x.o,.slice a1 (mI x).length c1] 39)=W:=⟨_,rfl⟩;rw[MQ]at bT l9 aAM;have JE:=qC.tm l9;have hDr:=aAM.rd;obtain⟨n1,aAN⟩:∃n,(mI x).length=n:=⟨_,rfl⟩;rw[aAN]at bT hDr KI;simp only[aAN]at*;obtain⟨gt,QI⟩:∃g,w1.heap.size=g:=⟨_,rfl⟩;rw[QI]at bT;obtain⟨Ty,ff,oJ,jN,jK⟩:=kE w2;have HD:=aA ((aY w2.heap.size w2).drew);have HS:=aA (jK w2.drew HD.o);have k0:=fun s=>(bT.late (jN s)).cell (i:=0) rfl;have k1:=fun s=>(bT.late (jN s)).cell (i:=1) rfl;obtain⟨kR,aI7,oL,bL0,oD,rW,bBP,aTC,EU,aFA,jH,jF⟩:=aT jY hDO l9 aAM qC JE hDr MQ QI aWY jN jK;obtain⟨bT',a6Y,bL1⟩:=aK bT KI aAN;clear jY hDO l9 aAM qC JE hDr MQ QI aWY jN jK bT KI aAN;go_upto_region 4 with fail
  try rw[EU.o]
  try rw[aTC.o]
  refine kM (S:=fun W=>∃s,W=ff s) aF 7 rfl ?_;obtain⟨wD,qF⟩:∃W,w2.drew=W:=⟨_,rfl⟩;rw[qF]at HS HD ⊢;clear qF;refine jS [0] 6 aF aI aF aF aF HS.o ?_;simp only[jI,aW,aX,aU,aV];iterate 1 (go_big_quiet_step (fail))
  refine wpQuiet_nil ?_;refine jJ 1 5 aF aF ?_;simp only[jI,aW,aX,aU,aV];go_wp2_with fail
  refine(Z5 wD).mono ?_;rintro e w3 ⟨a3,zs3,rfl,KN,WU,jQ⟩;have NW:=HD.o.tm jQ;have HS:=aA (jF.o _ NW);have hWr:=aIR 16 x.o a1 n1 c1 (mI x) a3 5 5 zs3 w3 (bBP.o.mono NW) KN aFA.o.1 zN.o (by have:=aFA.o.2;omega) a6Y.o (fun e=>a3M e zN.o);rw[WU]at hWr;obtain⟨a0K,aXL,qN,CJ,bBQ⟩:=aM KN WU jQ NW hWr;clear KN WU jQ NW hWr;go_wp2_with fail
  refine Mid.mk ⟨HS.o,?_⟩;refine jJ 2 4 aF aF ?_;simp only[jI,aW,aX,aU,aV];go_wp2_with fail
  refine bBQ.o.mono ?_;rintro e w4 ⟨a4,m4,c4,rfl,ET,mF⟩;have BH:=CJ.o.tm mF;have HS:=aA (jF.o _ BH);have ho5:=kI ET (bQ rW.o.size CJ.o.size);have CK:=rW.o.tm BH;clear ET;obtain⟨rT,aKD,a6K,qB⟩:=aL mF BH ho5 CK;clear mF BH ho5 CK;go_wp2_with fail
  refine Mid.mk ⟨HS.o,?_⟩;refine jS [3,4] 2 aF aI aF aF aF HS.o ?_;simp only[jI,aW,aX,aU,aV];iterate 2 (go_big_quiet_step (fail))
  refine wpQuiet_nil ?_;refine jJ 5 1 aF aF ?_;simp only[jI,aW,aX,aU,aV];go_wp2_with fail
  refine Mid.mk ⟨HS.o,?_⟩;refine jJ 6 0 aF aF ?_;simp only[jI,aW,aX,aU,aV];go_wp2_with fail
  refine Mid.mk ⟨HS.o,?_⟩;refine jV aF ?_;clear k0 k1;go_wp2_with fail
  go_ret2;refine⟨a4,m4,c4,by rw[aWW.o];rfl,by rw[aWX.o];exact a6K.o,qB.o⟩
 ·have e1:(ck != 0)=true:=by simpa using hc0
  have aJQ:=aA hc0;clear OQ;have jT:=qC.alloc qC.size (.cells #[.int .i64 oo,.slice a1 n1 c1] 39);clear hc0;obtain⟨kR,oD,mE⟩:=aK jY qC jT;clear jY qC jT;go_wp2_with fail
  go_ret2;refine⟨none,0,0,by rw[aWW.o,if_neg aJQ.o];rfl,by rw[aWX.o,if_neg aJQ.o];exact kF _ _ _ _,mE.o⟩
theorem aAO (x:wP) (A:ExA) (w:World) (h:ExR w x A) (hs:IQ x) (hd:aDV x) (oU:aDU x):
  Calls Tryz.prog 24 #[exV x.o A] w fun e w'=>∃a m c,e= .returned (.tuple #[.slice a m c,.int .i64 (aNY x)])∧w'.ownsRow w.heap.size 5 1 (.slice a m c) m (ints .u8 (aA2 x))∧Below w.heap.size w w':=by
 have hTr:=fun W (hb:Below w.heap.size w W)=>ZC x A W (h.mono hb) hs hd;obtain⟨za,zn,zc,pa,pn,pc,ga,gn,gc,ia,iN,ic,fa,fn,fc,ma,mn,mc,ta,tn,tc⟩:=A;obtain⟨W,hW⟩:=aC (w.alloc (.cells (R9 x.o ⟨za,zn,zc,pa,pn,pc,ga,gn,gc,ia,iN,ic,fa,fn,fc,ma,mn,mc,ta,tn,tc⟩) 61));have bE:=jW.new w 61 (R9 x.o ⟨za,zn,zc,pa,pn,pc,ga,gn,gc,ia,iN,ic,fa,fn,fc,ma,mn,mc,ta,tn,tc⟩);have hb:=aD w (.cells (R9 x.o ⟨za,zn,zc,pa,pn,pc,ga,gn,gc,ia,iN,ic,fa,fn,fc,ma,mn,mc,ta,tn,tc⟩) 61);rw[hW]at bE hb;have vI:=a8I oU;have hwC:aNY x=if nH x=0 then tY 16 x.o (mI x) exL else nH x:=rfl;have hwE:aA2 x=if nH x=0 then a3H 16 x.o (mI x) exL else []:=rfl;have tH:=fun h=>OD (x:=x) h hs;obtain⟨ck,G7⟩:∃c,nH x=c:=⟨_,rfl⟩;simp only[G7]at*;simp only[exV,R9]at*;have q0:=bE.cell (i:=0) rfl;have q1:=bE.cell (i:=1) rfl;have q2:=bE.cell (i:=2) rfl;have q3:=bE.cell (i:=3) rfl;have q4:=bE.cell (i:=4) rfl;have q5:=bE.cell (i:=5) rfl;have q6:=bE.cell (i:=6) rfl;have q7:=bE.cell (i:=7) rfl;obtain⟨LM,mO,I5,a4H,zN,aWW,aWX,yG,a3X⟩:=aQ bE hb hW hTr vI hwC hwE tH G7;clear bE hb hW hTr vI hwC hwE tH G7
 go_enter Tryz.func24,Tryz.ntmps24;go_upto_region 1 with fail
 rw[I5.o];go_wp2_with fail
 refine(a4H.o _ mO.o).mono ?_;rintro e w1 ⟨oo,a1,n1,c1,rfl,jY,OQ⟩;have qC:=mO.o.tm jY;clear q0 q1 q2 q3 q4 q5 q6 q7;by_cases hc0:ck=0
 ·subst hc0;rw[if_pos rfl]at OQ;obtain⟨rfl,rfl,hDO⟩:=OQ;have e1:((0:Int) != 0)=false:=rfl;have aWY:=yG.o rfl;have KI:(mI x).length≤500:=by unfold mI;split <;> simp
  have bT:=jW.new w1 39 #[.int .i64 x.o,.slice a1 (mI x).length c1];have l9:=aD w1 (.cells #[.int .i64 x.o,.slice a1 (mI x).length c1] 39);have aAM:=hDO.later l9;obtain⟨w2,MQ⟩:∃W,w1.alloc (.cells #[.int .i64 x.o,.slice a1 (mI x).length c1] 39)=W:=⟨_,rfl⟩;rw[MQ]at bT l9 aAM;have JE:=qC.tm l9;have hDr:=aAM.rd;obtain⟨n1,aAN⟩:∃n,(mI x).length=n:=⟨_,rfl⟩;rw[aAN]at bT hDr KI;simp only[aAN]at*;obtain⟨gt,QI⟩:∃g,w1.heap.size=g:=⟨_,rfl⟩;rw[QI]at bT;obtain⟨Ty,ff,oJ,jN,jK⟩:=kE w2;have HD:=aA ((aY w2.heap.size w2).drew);have HS:=aA (jK w2.drew HD.o);have k0:=fun s=>(bT.late (jN s)).cell (i:=0) rfl;have k1:=fun s=>(bT.late (jN s)).cell (i:=1) rfl;obtain⟨kR,aI7,oL,bL0,oD,rW,bBP,aTC,EU,aFA,jH,jF⟩:=aT jY hDO l9 aAM qC JE hDr MQ QI aWY jN jK;obtain⟨bT',a6Y,bL1⟩:=aK bT KI aAN;clear jY hDO l9 aAM qC JE hDr MQ QI aWY jN jK bT KI aAN;go_upto_region 4 with fail
  try rw[EU.o]
  try rw[aTC.o]
  refine kM (S:=fun W=>∃s,W=ff s) aF 7 rfl ?_;obtain⟨wD,qF⟩:∃W,w2.drew=W:=⟨_,rfl⟩;rw[qF]at HS HD ⊢;clear qF;refine jS [0] 6 aF aI aF aF aF HS.o ?_;simp only[jI,aW,aX,aU,aV];iterate 1 (go_big_quiet_step (fail))
  refine wpQuiet_nil ?_;refine jJ 1 5 aF aF ?_;simp only[jI,aW,aX,aU,aV];go_wp2_with fail
  refine(a6Q wD).mono ?_;rintro e w3 ⟨a3,zs3,rfl,KN,WU,jQ⟩;have NW:=HD.o.tm jQ;have HS:=aA (jF.o _ NW);have hWr:=aF4 16 x.o a1 n1 c1 (mI x) a3 5 5 zs3 w3 (bBP.o.mono NW) KN aFA.o.1 zN.o (by have:=aFA.o.2;omega) a6Y.o;rw[WU]at hWr;obtain⟨a0K,aXL,qN,CJ,bBQ⟩:=aM KN WU jQ NW hWr;clear KN WU jQ NW hWr;go_wp2_with fail
  refine Mid.mk ⟨HS.o,?_⟩;refine jJ 2 4 aF aF ?_;simp only[jI,aW,aX,aU,aV];go_wp2_with fail
  refine bBQ.o.mono ?_;rintro e w4 ⟨a4,m4,c4,rfl,ET,mF⟩;have BH:=CJ.o.tm mF;have HS:=aA (jF.o _ BH);have ho5:=kI ET (bQ rW.o.size CJ.o.size);have CK:=rW.o.tm BH;clear ET;obtain⟨rT,aKD,a6K,qB⟩:=aL mF BH ho5 CK;clear mF BH ho5 CK;go_wp2_with fail
  refine Mid.mk ⟨HS.o,?_⟩;refine jS [3,4] 2 aF aI aF aF aF HS.o ?_;simp only[jI,aW,aX,aU,aV];iterate 2 (go_big_quiet_step (fail))
  refine wpQuiet_nil ?_;refine jJ 5 1 aF aF ?_;simp only[jI,aW,aX,aU,aV];go_wp2_with fail
  refine Mid.mk ⟨HS.o,?_⟩;refine jJ 6 0 aF aF ?_;simp only[jI,aW,aX,aU,aV];go_wp2_with fail
  refine Mid.mk ⟨HS.o,?_⟩;refine jV aF ?_;clear k0 k1;go_wp2_with fail
  go_ret2;refine⟨a4,m4,c4,by rw[aWW.o];rfl,by rw[aWX.o];exact a6K.o,qB.o⟩
 ·have e1:(ck != 0)=true:=by simpa using hc0
  have aJQ:=aA hc0;clear OQ;have jT:=qC.alloc qC.size (.cells #[.int .i64 oo,.slice a1 n1 c1] 39);clear hc0;obtain⟨kR,oD,mE⟩:=aK jY qC jT;clear jY qC jT;go_wp2_with fail
  go_ret2;refine⟨none,0,0,by rw[aWW.o,if_neg aJQ.o];rfl,by rw[aWX.o,if_neg aJQ.o];exact kF _ _ _ _,mE.o⟩
theorem FX (a:Option Addr) (n c:Nat) (ts:List Tg) (w:World) (h:Ts w a n c ts):
  Calls Tryz.prog 55 #[.slice a n c] w fun e w'=>e= .returned (.bool (wS ts))∧w=w':=by
 have hm:=h.max;have hl:=h.len;obtain⟨H,Hl⟩:=aJ h hl;clear h hl;obtain⟨r,hr⟩:=aC (wS ts);rw[hr];have Hr:=aA hr;clear hr;go_enter Tryz.func55,Tryz.ntmps55;go_wp2;go_loopw [3] (fun i wr=>∃k:Nat,k≤n∧i= .int .i64 k∧Hid (∀j,j<k→¬600<(ts.getD j (0,0,0, [])).2.2.2.length)∧Hid (wr=w)) (fun i _=>n - (intOf i).toNat)
 case atStart=>exact⟨0,by omega,rfl,aA (fun j hj=>by omega),aA rfl⟩
 case round=>
  obtain⟨k,hk,rfl,kS,hw⟩:=hrel;obtain rfl:=hw.o.symm;clear hw;by_cases kD:k<n
  ·obtain⟨b,o,a1,n1,c1,rfl,hb,e0,e1,e2,e3,hs⟩:=H.o.at kD;have hl1:=hs.nU;clear e0 e1 e2 hs;by_cases t1:600<n1
   ·have f1:decide ((600:Int)<n1)=true:=by simp;omega
    obtain rfl:r=true:=by
     rw[←Hr.o];unfold wS;rw[eY];left
     rw[List.any_eq_true];refine⟨ts.getD k (0,0,0, []),?_,by rw[hl1];exact decide_eq_true t1⟩;rw[bH,bI (by rw[Hl.o];exact kD)];exact bJ _
    clear hl1;go_wp2;go_ret;exact⟨rfl,rfl⟩
   ·have f1:decide ((600:Int)<n1)=false:=by simp;omega
    have mQ:Hid (∀j,j<k+1→¬600<(ts.getD j (0,0,0, [])).2.2.2.length):=aA (fun j hj=>by
     rcases dM j k with h|h
     ·exact kS.o j h
     ·obtain rfl:j=k:=by omega
      rw[hl1];exact t1)
    clear hl1 kS;go_wp2;go_roundw
    case rel=>exact⟨k+1,by omega,by go_num,mQ,aA trivial⟩
    case measure=>simp[intOf];omega
  ·have hv:wS ts=decide (60<n):=by
    unfold wS;rw[Hl.o];have:ts.any (fun x=>decide (600<x.2.2.2.length))=false:=by
     rw[List.any_eq_false];intro x hx;obtain⟨i,hi,rfl⟩:=fM.1 hx;have:=kS.o i (by rw[Hl.o]at hi;omega);rw[bH,bI hi]at this;simpa using this
    rw[this,jA]
   rw[Hr.o]at hv;have Hv:=aA hv;clear hv kS;go_wp2;go_ret;refine⟨zO ?_,rfl⟩;rw[Hv.o];rw[eD,decide_eq_true_iff,decide_eq_true_iff];omega
def a5S (x:wP):Bool:=wS x.z||wS x.p||wS x.g||wS x.i||wS x.f||decide (2000<x.mr.length)||decide (2000<x.th.length)
theorem OM {ts:List rM} (h:wS ts=false):(∀t∈ts,t.2.2.2.length≤600)∧ts.length≤60:=aY4 h
theorem aWZ {x:wP} (h:a5S x=false):IQ x∧aDV x∧(x.mr.length≤2000∧x.th.length≤2000):=by
 unfold a5S at h;simp only[Bool.or_eq_false_iff,decide_eq_false_iff_not]at h;obtain⟨⟨⟨⟨⟨⟨h1,h2⟩,h3⟩,h4⟩,h5⟩,h6⟩,h7⟩:=h;have a1:=OM h1;have a2:=OM h2;have a3:=OM h3;have a4:=OM h4;have a5:=OM h5;have up:∀{ts:List rM},(∀t∈ts,t.2.2.2.length≤600)→∀t∈ts,t.2.2.2.length≤1000000:=fun h t ht=>bQ (h t ht) aH;exact⟨⟨by omega,by omega,by omega,by omega,by omega,by omega,by omega⟩,⟨up a1.1,up a2.1,up a3.1,up a4.1,up a5.1⟩,by omega,by omega⟩
theorem a5T (x:wP) (A:ExA) (w:World) (h:ExR w x A):
  Calls Tryz.prog 18 #[exV x.o A] w fun e w'=>e= .returned (.bool (a5S x))∧Below w.heap.size w w':=by
 obtain⟨za,zn,zc,pa,pn,pc,ga,gn,gc,ia,iN,ic,fa,fn,fc,ma,mn,mc,ta,tn,tc⟩:=A;obtain⟨o,z,p,g,i,f,mk,th⟩:=x;simp only[exV,R9]at*;obtain⟨hz,hp,hg,hi,hf,hm,ht⟩:=h;have lm:mk.length=mn:=hm.nU;have lt:th.length=tn:=ht.nU;have bE:=jW.new w 61 #[.int .i64 o,.slice za zn zc,.slice pa pn pc,.slice ga gn gc,.slice ia iN ic,.slice fa fn fc,.slice ma mn mc,.slice ta tn tc];have hb:=aD w (.cells #[.int .i64 o,.slice za zn zc,.slice pa pn pc,.slice ga gn gc,.slice ia iN ic,.slice fa fn fc,.slice ma mn mc,.slice ta tn tc] 61);obtain⟨W,hW⟩:=aC (w.alloc (.cells #[.int .i64 o,.slice za zn zc,.slice pa pn pc,.slice ga gn gc,.slice ia iN ic,.slice fa fn fc,.slice ma mn mc,.slice ta tn tc] 61));rw[hW]at bE hb;have q0:=bE.cell (i:=0) rfl;have q1:=bE.cell (i:=1) rfl;have q2:=bE.cell (i:=2) rfl;have q3:=bE.cell (i:=3) rfl;have q4:=bE.cell (i:=4) rfl;have q5:=bE.cell (i:=5) rfl;have q6:=bE.cell (i:=6) rfl;have q7:=bE.cell (i:=7) rfl;have hC0:=FX za zn zc z W (hz.mono hb).ts;have hC1:=FX pa pn pc p W (hp.mono hb).ts;have hC2:=FX ga gn gc g W (hg.mono hb).ts;have hC3:=FX ia iN ic i W (hi.mono hb).ts;have hC4:=FX fa fn fc f W (hf.mono hb).ts;have hv:a5S ⟨o,z,p,g,i,f,mk,th⟩=(wS z||wS p||wS g||wS i||wS f||decide (2000<mk.length)||decide (2000<th.length)):=rfl;rw[lm,lt]at hv;obtain⟨vv,hvv⟩:∃b,a5S ⟨o,z,p,g,i,f,mk,th⟩=b:=⟨_,rfl⟩;rw[hvv]at hv;rw[hvv];clear hvv;generalize wS z=b0 at*;generalize wS p=b1 at*;generalize wS g=b2 at*;generalize wS i=b3 at*;generalize wS f=b4 at*;obtain⟨b5,nZ⟩:∃b,decide (2000<mn)=b:=⟨_,rfl⟩;obtain⟨b6,wQ⟩:∃b,decide (2000<tn)=b:=⟨_,rfl⟩;have h5:decide ((2000:Int)<mn)=b5:=by rw[←nZ,decide_eq_decide];omega
 have h6:decide ((2000:Int)<tn)=b6:=by rw[←wQ,decide_eq_decide];omega
 rw[nZ,wQ]at hv;clear nZ wQ lm lt;obtain⟨AQ,hp',TQ,xG,QJ,EN,TV,LM,mO,I5,aU4,aNM⟩:=aT hz hp hg hi hf hm ht bE hb hW hC0 hC1;obtain⟨aU5,a6O,aU6,xE⟩:=aL hC2 hC3 hC4 hv;clear hz hp hg hi hf hm ht bE hb hW hC0 hC1 hC2 hC3 hC4 hv;go_enter Tryz.func18,Tryz.ntmps18;go_upto_region 1 with fail
 rw[I5.o];go_wp2_with fail
 refine aU4.o.mono ?_;rintro e w2 ⟨rfl,rfl⟩;cases b0 with
 |true=>
  obtain rfl:vv=true:=by rw[xE.o];simp
  go_wp2_with fail
  go_ret;exact⟨rfl,mO.o⟩
 |false=>
 go_wp2_with fail
 refine aNM.o.mono ?_;rintro e w2 ⟨rfl,rfl⟩;cases b1 with
 |true=>
  obtain rfl:vv=true:=by rw[xE.o];simp
  go_wp2_with fail
  go_ret;exact⟨rfl,mO.o⟩
 |false=>
 go_wp2_with fail
 refine aU5.o.mono ?_;rintro e w2 ⟨rfl,rfl⟩;cases b2 with
 |true=>
  obtain rfl:vv=true:=by rw[xE.o];simp
  go_wp2_with fail
  go_ret;exact⟨rfl,mO.o⟩
 |false=>
 go_wp2_with fail
 refine a6O.o.mono ?_;rintro e w2 ⟨rfl,rfl⟩;cases b3 with
 |true=>
  obtain rfl:vv=true:=by rw[xE.o];simp
  go_wp2_with fail
  go_ret;exact⟨rfl,mO.o⟩
 |false=>
 go_wp2_with fail
 refine aU6.o.mono ?_;rintro e w2 ⟨rfl,rfl⟩;cases b4 with
 |true=>
  obtain rfl:vv=true:=by rw[xE.o];simp
  go_wp2_with fail
  go_ret;exact⟨rfl,mO.o⟩
 |false=>
 cases b5 with
 |true=>
  obtain rfl:vv=true:=by rw[xE.o];simp
  go_wp2_with fail
  go_ret;exact⟨rfl,mO.o⟩
 |false=>
 obtain rfl:vv=b6:=by rw[xE.o];simp
 go_wp2_with fail
 go_ret;exact⟨rfl,mO.o⟩
theorem ZI (tag n:Int) (hn:lZ n 2 2=true) (hmt:vH 3 1 (kZ n 2 2)=true) (w:World):
  Calls Tryz.prog 56 #[.int .i64 tag,.int .i64 n] w fun e w'=>∃a c,e= .returned (.slice a 1 c)∧rA w' a 1 c [(tag,3,1,kZ n 2 2)]∧Below w.heap.size w w':=by
 have nL:Sl (w.alloc (.cells #[.int .i64 n] 3)) (some ⟨w.heap.size,0,none⟩) 1 1 1 (ints .i64 [n]):=Sl.new w 3 1 1 #[.int .i64 n] (0,0) aG rfl;have jY:=aD w (.cells #[.int .i64 n] 3);have hS:=aJ5 n hn hmt _ 1 _ nL;obtain⟨tX,hS',kR⟩:=aK nL hS jY;clear nL hS jY;go_enter Tryz.func56,Tryz.ntmps56;go_wp2_with fail
 refine hS'.o.mono ?_;rintro e w2 ⟨a,c,rfl,ho,hb⟩;have jT:=kR.o.tm hb;have jZ:=(jT.alloc jT.size (.cells #[.int .i64 3,.int .i64 1,.slice a 2 c] 72)).alloc (by simp;exact bQ jT.size (Nat.le_succ _)) (.cells #[.int .i64 tag,.int .i64 3,.int .i64 1,.slice a 2 c] 74);have l9:=(aD w2 (.cells #[.int .i64 3,.int .i64 1,.slice a 2 c] 72)).alloc (by simp) (.cells #[.int .i64 tag,.int .i64 3,.int .i64 1,.slice a 2 c] 74);have hso:=(Sl.jU ho).1.mono l9;have oM:rA ((w2.alloc (.cells #[.int .i64 3,.int .i64 1,.slice a 2 c] 72)).alloc (.cells #[.int .i64 tag,.int .i64 3,.int .i64 1,.slice a 2 c] 74)) (some ⟨(w2.alloc (.cells #[.int .i64 3,.int .i64 1,.slice a 2 c] 72)).heap.size,0,none⟩) 1 1 [(tag,3,1,kZ n 2 2)]:=
  ⟨[((tag,3,1,a,2,c),kZ n 2 2)],⟨Sl.new _ 74 4 1 #[.int .i64 tag,.int .i64 3,.int .i64 1,.slice a 2 c] (0,0) aG rfl,fun z hz=>by rw[dL.1 hz];exact hso⟩,rfl⟩
 rw[show(w2.alloc (.cells #[.int .i64 3,.int .i64 1,.slice a 2 c] 72)).heap.size=w2.heap.size+1 by simp]at oM;obtain⟨J8,mO,mE,jM,oL,bHF,CX⟩:=aO ho hb jT jZ l9 hso oM;clear ho hb jT jZ l9 hso oM;go_wp2_with fail
 go_ret;refine⟨_,_,rfl,CX.o,jM.o⟩
def aw1:wP:=⟨2, [(274,3,1, [0,1])], [], [], [], [], [], []⟩
def aw2:wP:=⟨1, [], [], [], [], [], [1,2,3], []⟩
def aw3:wP:=⟨1, [], [], [], [], [], [], [1]⟩
def aw4:wP:=⟨3, [(274,3,1, [0,1])], [], [], [], [], [], []⟩
def aw5:wP:=⟨1, [(34665,3,1, [0,1])], [], [], [], [], [], []⟩
abbrev awB:List Int:= [77,77,0,42,0,0,0,8,0,1,1,18,0,3,0,0,0,1,0,1,0,0,0,0,0,0]
theorem bL2:aNY aw1=0:=by decide+kernel
theorem bL3:aA2 aw1=awB:=by decide+kernel
theorem bL4:nH aw2=0:=by decide+kernel
theorem bL5:nH aw3=6:=by decide+kernel
theorem bL6:nH aw4=1:=by decide+kernel
theorem bL7:nH aw5=6:=by decide+kernel
theorem aAP {P:rM→Prop} {t:rM} (h:P t):∀u∈ [t],P u:=fun u hu=>by rw[dL.1 hu];exact h
theorem pO {P:rM→Prop}:∀u∈([]:List rM),P u:=fun u hu=>by cases hu
theorem aLU:tV []:=fun x hx=>by cases hx
theorem aLV:tV [0,1]:=fun x hx=>by simp at hx;omega
theorem bBR (o:Int) (t:rM):IQ ⟨o, [t], [], [], [], [], [], []⟩:=⟨by show 1≤400;decide,by show 0≤400;decide,by show 0≤400;decide,by show 0≤400;decide,by show 0≤400;decide,by show 0≤100000;decide,by show 0≤100000;decide⟩
theorem aJH (o:Int) (t:rM) (h:a6A t):WfE ⟨o, [t], [], [], [], [], [], []⟩:=⟨aAP h,pO,pO,pO,pO⟩
theorem a5U {w:World} {o:Int} {a:Option Addr} {c:Nat} {t:rM} (h:rA w a 1 c [t]):ExR w ⟨o, [t], [], [], [], [], [], []⟩ ⟨a,1,c,none,0,0,none,0,0,none,0,0,none,0,0,none,0,0,none,0,0⟩:=
 ⟨h,rA.nil w,rA.nil w,rA.nil w,rA.nil w,Sl.nil _ _,Sl.nil _ _⟩
theorem b0T {B:Nat} {w:World} {da:Option Addr} {dn dc:Nat} (h:vD B w 16 (.slice da dn dc) (mI aw2)):
  ∃(b off b2 o2 sc:Nat) (b3 o3 tc:Nat) (u2 u3:Value),dn=1∧da=some ⟨b,off,none⟩∧b<w.heap.size∧w.cell? ⟨b,off+1,none⟩=some (.slice (some ⟨b2,o2,none⟩) 1 sc)∧
   b2<w.heap.size∧w.cell? ⟨b2,o2,none⟩=some (.int .i64 34665)∧w.cell? ⟨b2,o2+1,none⟩=some (.slice (some ⟨b3,o3,none⟩) 1 tc)∧w.cell? ⟨b2,o2+2,none⟩=some u2∧w.cell? ⟨b2,o2+3,none⟩=some u3∧
   b3<w.heap.size∧w.cell? ⟨b3,o3,none⟩=some (.int .i64 37500)∧(∃sa2 sn2 sc2,u2= .slice sa2 sn2 sc2)∧∃sa3 sn3 sc3,u3= .slice sa3 sn3 sc3:=by
 have e1:mI aw2= [yD aw2]:=by unfold mI;rw[if_neg aH]
 have e2:(yD aw2).2.1= [(34665,sF aw2)]:=by rfl
 have e3:(sF aw2).1= [(37500,7,3, [1,2,3])]:=by decide+kernel
 rw[e1]at h;obtain⟨V3,hl,hs,hd⟩:=h.rd;have hl:V3.length=1:=hl;have sM:dn=1:=by have:=hs.rP mP aH;omega
 subst sM;obtain⟨b,off,rfl,hb,fe⟩:=hs.elem mP aH dzz (show 0<1 by decide);rw[jO aG]at fe;have hD:wH w 16 (yD aw2) V3[0]:=hd 0 aG (by show 0<1;decide);generalize V3[0]=v at*;obtain⟨ta,tn,tc,zs,sa,sn,sc,ds,ba,bn,bc,rfl,A8,G5,nL,oQ,nR,vF⟩:=hD;have f1:=fe 1 _ rfl;simp only[gF,bU]at f1;have oQ:ds.length=1:=by rw[oQ,e2];rfl
 have AR:sn=1:=by have:=nL.rP mJ aH;omega
 subst AR;obtain⟨b2,o2,rfl,jT,ge⟩:=nL.elem mJ aH (0,dzz) (show 0<1 by decide);rw[jO aG]at ge;have wC:=nR 0 aG (by rw[e2];show 0<1;decide);have e4:(yD aw2).2.1[0]'(by rw[e2];show 0<1;decide)=(34665,sF aw2):=by simp[e2]
 rw[e4]at wC;obtain⟨IY,BO⟩:=wC;generalize ds[0]=dd at*;obtain⟨t,dv⟩:=dd;simp only at IY BO;subst IY;obtain⟨ta2,tn2,tc2,zs2,sa2,sn2,sc2,ds2,ba2,bn2,bc2,rfl,aDW,aIA,a0J,_,_,JH⟩:=BO;rw[e3]at aIA;have qJ:zs2.length=1:=by have:=congrArg List.length aIA;simpa using this.symm
 have TW:tn2=1:=by have:=aDW.len;omega
 subst TW;obtain⟨b3,o3,rfl,jQ,c0,c1,c2,c3,_⟩:=aDW.at (k:=0) aH;have hk:(zs2.getD 0 yL).1.1=37500:=by
  rw[jO aG];have h9:(zs2.map l8)[0]'(by rw[bL];omega)=(37500,7,3, [1,2,3]):=by simp only[←aIA];rfl
  rw[dZ]at h9;have:=congrArg Prod.fst h9;exact this
 rw[hk,gF,bU]at c0;have g0:=ge 0 _ rfl;have g1:=ge 1 _ rfl;have g2:=ge 2 _ rfl;have g3:=ge 3 _ rfl;simp only[gF,bU]at g0 g1 g2 g3;exact⟨b,off,b2,o2,sc,b3,o3,tc2,_,_,rfl,rfl,hb,f1,jT,g0,g1,g2,g3,jQ,c0,⟨_,_,_,rfl⟩,_,_,_,rfl⟩
theorem OO (w:World):Calls Tryz.prog 19 #[] w fun e w'=>e= .returned (.bool true)∧Below w.heap.size w w':=by
 have hS1:=fun W=>ZI 274 1 aH (by decide+kernel) W;have hS2:=fun W=>ZI 34665 1 aH (by decide+kernel) W;rw[show kZ 1 2 2= [0,1] by decide+kernel]at hS1 hS2;obtain⟨bL8,bSB⟩:=aJ hS1 hS2;clear hS1 hS2;go_enter Tryz.func19,Tryz.ntmps19;go_wp2_with fail
 refine(bL8.o _).mono ?_;rintro e w1 ⟨a1,c1,rfl,hr1,jY⟩;have pR:=WI aw1 ⟨a1,1,c1,none,0,0,none,0,0,none,0,0,none,0,0,none,0,0,none,0,0⟩ w1 (a5U hr1) (bBR _ _) ⟨aAP (by show 2≤1000000;decide),pO,pO,pO,pO⟩ (aJH _ _ ⟨by decide,aLV⟩) ⟨aAP aLV,pO,pO,pO,pO,aLU,aLU⟩;rw[bL2,bL3]at pR;simp only[exV,R9,aw1]at pR;obtain⟨bC0,kR,y8⟩:=aK hr1 jY pR;clear hr1 jY pR;go_wp2_with fail
 refine y8.o.mono ?_;rintro e w2 ⟨a2,m2,c2,rfl,vS,jT⟩;have JE:=kR.o.tm jT;obtain⟨Q6,mE,rW⟩:=aK vS jT JE;clear vS jT JE;have l9:=aD w2 (.cells #[.int .u8 1,.int .u8 2,.int .u8 3] 5);have nL:Sl (w2.alloc (.cells #[.int .u8 1,.int .u8 2,.int .u8 3] 5)) (some ⟨w2.heap.size,0,none⟩) 3 3 1 (ints .u8 [1,2,3]):=Sl.new w2 5 1 3 #[.int .u8 1,.int .u8 2,.int .u8 3] (0,0) aG rfl;have hT:=Y1 aw2 ⟨none,0,0,none,0,0,none,0,0,none,0,0,none,0,0,some ⟨w2.heap.size,0,none⟩,3,3,none,0,0⟩ _ ⟨rA.nil _,rA.nil _,rA.nil _,rA.nil _,rA.nil _,nL,Sl.nil _ _⟩ ⟨by decide,by decide,by decide,by decide,by decide,by decide,by decide⟩ ⟨pO,pO,pO,pO,pO⟩ ⟨pO,pO,pO,pO,pO⟩;simp only[bL4,if_true]at hT;simp only[exV,R9]at hT;rw[show aw2.o=1 from rfl]at hT;have LF:=rW.o.tm l9;obtain⟨oL,tX,hT',sZ⟩:=aL l9 nL hT LF;clear l9 nL hT LF;go_wp2_with fail
 refine hT'.o.mono ?_;rintro e w4 ⟨oo,da,dn,dc,rfl,mF,rfl,sM,hDO⟩;obtain⟨b,off,b2,o2,sc,b3,o3,tc,u2,u3,rfl,rfl,YF,f1,QH,g0,g1,g2,g3,bML,c0,⟨sa2,sn2,sc2,rfl⟩,sa3,sn3,sc3,rfl⟩:=b0T hDO;have CK:=sZ.o.tm mF;have ET:=(Sl.jU Q6.o).1.mono (oL.o.tm mF);have MV:awB.length=m2:=ET.nU;have hX1:=aD w4 (.cells #[.int .i64 1,.slice (some ⟨b,off,none⟩) 1 dc] 39);have hX2:=hX1.alloc hX1.size (.cells #[.int .i64 34665,.slice (some ⟨b3,o3,none⟩) 1 tc,.slice sa2 sn2 sc2,.slice sa3 sn3 sc3] 28);have hX3:=hX2.alloc hX2.size (.cells (ints .u8 awB).toArray 5);obtain⟨X2,TU⟩:∃X,(w4.alloc (.cells #[.int .i64 1,.slice (some ⟨b,off,none⟩) 1 dc] 39)).alloc (.cells #[.int .i64 34665,.slice (some ⟨b3,o3,none⟩) 1 tc,.slice sa2 sn2 sc2,.slice sa3 sn3 sc3] 28)=X:=⟨_,rfl⟩;have bSb:jW X2 (w4.heap.size+1) 28 #[.int .i64 34665,.slice (some ⟨b3,o3,none⟩) 1 tc,.slice sa2 sn2 sc2,.slice sa3 sn3 sc3]:=by rw[←TU];exact wB _ _ (by simp)
 rw[TU]at hX2 hX3;have hnb:=Sl.new X2 5 1 26 (ints .u8 awB).toArray (0,0) aG rfl;have hSm:=VU a2 (some ⟨X2.heap.size,0,none⟩) m2 26 c2 26 awB awB _ (ET.mono hX3) hnb;rw[show(awB==awB)=true by decide]at hSm;have c3:(X2.alloc (.cells (ints .u8 awB).toArray 5)).cell? ⟨b3,o3,none⟩=some (.int .i64 37500):=late hX3 bML c0;have hSz:X2.heap.size=w4.heap.size+2:=by rw[←TU];simp
 obtain⟨X3,WR⟩:∃X,X2.alloc (.cells (ints .u8 awB).toArray 5)=X:=⟨_,rfl⟩;have bBS:=bSb.late (aD X2 (.cells (ints .u8 awB).toArray 5));rw[WR]at hSm c3 hX3 bBS;obtain⟨rT,wI,aI7,qB,ZR,a1V,bWJ,bWK,bL9,QB,bWS,aI1⟩:=aT mF sM hDO CK ET MV hX1 hX2 hX3 TU hnb hSm;obtain⟨bWL,bWM,a6N,aLW,c3'⟩:=aM bSb hSz WR bBS c3;clear mF sM hDO CK ET MV hX1 hX2 hX3 TU hnb hSm bSb hSz WR bBS c3;have bLA:X2.alloc (.cells #[.int .u8 77,.int .u8 77,.int .u8 0,.int .u8 42,.int .u8 0,.int .u8 0,.int .u8 0,.int .u8 8,.int .u8 0,.int .u8 1,.int .u8 1,.int .u8 18,.int .u8 0,.int .u8 3,.int .u8 0,.int .u8 0,.int .u8 0,.int .u8 1,.int .u8 0,.int .u8 1,.int .u8 0,.int .u8 0,.int .u8 0,.int .u8 0,.int .u8 0,.int .u8 0] 5)=X3:=a6N.o;have bLB:=aA bLA;clear bLA;go_upto_region 6 with fail
 rw[QB.o];clear f1 g0 g1 g2 g3 c0;have c3:=c3'.o;have s0:=aLW.o.cell (i:=0) rfl;have s1:=aLW.o.cell (i:=1) rfl;have BK:=qB.o.tm bL9.o;have FB:=aA BK;clear BK;go_wp2_with fail
 rw[bLB.o];refine aI1.o.mono ?_;rintro e w5 ⟨rfl,nZ⟩;have c5:=late nZ (cK bML bL9.o.size) c3;have t0:=late nZ aLW.o.lt s0;have t1:=late nZ aLW.o.lt s1;have BK:=FB.o.tm nZ;clear c3 s0 s1;obtain⟨xJ,FB⟩:=aJ nZ BK;clear nZ BK;go_wp2_with fail
 refine(Z5 _).mono ?_;rintro e w6 ⟨a6,zs6,rfl,_,_,wQ⟩;have a9R:=FB.o.tm wQ;have BM:=a9R.alloc a9R.size (.cells #[.int .u8 1] 5);have hK3:=FM aw3 ⟨none,0,0,none,0,0,none,0,0,none,0,0,none,0,0,none,0,0,some ⟨w6.heap.size,0,none⟩,1,1⟩ (w6.alloc (.cells #[.int .u8 1] 5)) ⟨rA.nil _,rA.nil _,rA.nil _,rA.nil _,rA.nil _,Sl.nil _ _,Sl.new w6 5 1 1 #[.int .u8 1] (0,0) aG rfl⟩ ⟨pO,pO,pO,pO,pO⟩;rw[bL5]at hK3;simp only[exV,R9]at hK3;rw[show aw3.o=1 from rfl]at hK3;clear c5 t0 t1;obtain⟨CB,M7,RA,b6R⟩:=aL wQ a9R BM hK3;clear wQ a9R BM hK3;go_wp2_with fail
 refine b6R.o.mono ?_;rintro e w7 ⟨rfl,rE⟩;have Q9:=RA.o.tm rE;obtain⟨a2E,aK6⟩:=aJ rE Q9;clear rE Q9;go_wp2_with fail
 refine(bL8.o _).mono ?_;rintro e w8 ⟨a8,c8,rfl,hr8,J4⟩;have a0C:=aK6.o.tm J4;have hK4:=FM aw4 ⟨a8,1,c8,none,0,0,none,0,0,none,0,0,none,0,0,none,0,0,none,0,0⟩ w8 (a5U hr8) (aJH _ _ ⟨by decide,aLV⟩);rw[bL6]at hK4;simp only[exV,R9]at hK4;rw[show aw4.o=3 from rfl]at hK4;obtain⟨bWN,a96,K6,bSC⟩:=aL hr8 J4 a0C hK4;clear hr8 J4 a0C hK4;go_wp2_with fail
 refine bSC.o.mono ?_;rintro e w9 ⟨rfl,yB⟩;have aTW:=K6.o.tm yB;obtain⟨tN,K7⟩:=aJ yB aTW;clear yB aTW;go_wp2_with fail
 refine(bSB.o _).mono ?_;rintro e w10 ⟨a10,c10,rfl,aOO,CQ⟩;have b3W:=K7.o.tm CQ;have hK5:=FM aw5 ⟨a10,1,c10,none,0,0,none,0,0,none,0,0,none,0,0,none,0,0,none,0,0⟩ w10 (a5U aOO) (aJH _ _ ⟨by decide,aLV⟩);rw[bL7]at hK5;simp only[exV,R9]at hK5;rw[show aw5.o=1 from rfl]at hK5;obtain⟨bUO,a8K,aX0,bSD⟩:=aL aOO CQ b3W hK5;clear aOO CQ b3W hK5;go_wp2_with fail
 refine bSD.o.mono ?_;rintro e PS ⟨rfl,K8⟩;have b3X:=aX0.o.tm K8;obtain⟨aTX,bBT⟩:=aJ K8 b3X;clear K8 b3X;go_wp2_with fail
 go_ret;exact⟨rfl,bBT.o⟩
