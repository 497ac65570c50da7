import Derived.Test.YtceclmpmpldmlaaGreatCx17
set_option linter.unusedSimpArgs false
set_option linter.unusedVariables false
set_option maxRecDepth 100000
set_option maxHeartbeats 8000000
namespace Go.Proofs.YtceclmpmpldmlaaGreat
open Go.RowKit Tt
def bAO (zs:List QN) (qa:Option Addr) (qn qc:Nat) (f:Nat):Prop:=∀(w0 w:World) (d:jR f) (dv:Dz) (i:Nat),ShR w0 qa qn qc zs→Below w0.heap.size w0 w→wH w0 f d dv→lN f d→nO (jP zs)=true→i<qn→
 Calls Tryz.prog 140 #[.agg #[dv.1,dv.2.1,dv.2.2],.slice qa qn qc,.int .i64 i] w fun e w'=>e= .returned (.bool (nJ (jP zs) f d i))∧Below w.heap.size w w'
theorem aOP (zs:List QN) (qa:Option Addr) (qn qc:Nat) (f:Nat) (ih:bAO zs qa qn qc f):bAO zs qa qn qc (f+1):=by
 intro w0 w d dv i KN pW hd hs D5 hi;have qJ:=KN.len;obtain⟨ta,tn,tc,ts,sa,sn,sc,ds,ba,bn,bc,rfl,A8,G5,nL,oQ,nR,vF⟩:=hd;obtain⟨h1,h2,h3,h4⟩:=hs;have TW:d.1.length=tn:=by rw[G5,bL];exact A8.len
 have AR:d.2.1.length=sn:=by rw[←oQ];exact nL.rP mJ aH
 have pF:d.2.2.length=bn:=vF.nU;have LX:=KN.row.max;have BX:=KN.row.le;have aC5:=yY (b:=d.2.2.length) h1 h3;have a6D:sn≤500:=by omega
 have a7Q:tn≤500:=by omega
 have hE:=fun W=>NN ta sa ba tn tc sn sc bn bc W aG aG;have WQ:(jP zs).getD i mD=(zs.getD i sJ).2:=qL (by rw[qJ];exact hi);have YH:=CG D5 (i:=i) (by unfold jP;rw[bL,qJ];exact hi);have F8:=fun t=>V6 (L:=jP zs) (i:=i) (t:=t) D5 (by unfold jP;rw[bL,qJ];exact hi);have a0J:(jP zs).length=qn:=by unfold jP;rw[bL];exact qJ
 have hR0:=XH (jP zs) f d i;rw[bM,TW,AR,pF]at hR0;rw[pF,TW,AR]at aC5;have LC:=KN.at hi;obtain⟨b,o,hqa,lC,fe⟩:=KN.row.elem qD aH sJ hi;obtain⟨⟨⟨la,ln,lc⟩,⟨lS,sat,jG,lV⟩⟩,hz⟩:∃z,zs.getD i sJ=z:=⟨_,rfl⟩;rw[hz]at fe WQ LC;simp only at WQ LC;rw[WQ]at hR0 YH F8;have bRJ:b<w.heap.size:=cK lC pW.size;have f0:=late pW lC (fe 0 _ rfl);have f1:=late pW lC (fe 1 _ rfl);have f2:=late pW lC (fe 2 _ rfl);have f3:=late pW lC (fe 3 _ rfl);simp only[bU]at f0 f1 f2 f3;clear fe;subst hqa;have kY:=fun t=>aYL YH t;simp only at kY;have yJ:(i:Int)<(qn:Int):=by omega
 obtain⟨R,hR⟩:=aC (nJ (jP zs) (f+1) d i);rw[hR]at hR0 ⊢;obtain⟨WC,hWC,bB,bC,hbC,sC⟩:=nM w 26 #[.slice ta tn tc,.slice sa sn sc,.slice ba bn bc] 35 #[.slice la ln lc,.int .i64 sat,.int .i64 jG,.int .i64 lV];have d1:(0:Int)≤(i:Int):=by omega
 obtain⟨a0K,lF,D8,CW,tX,sH,oW,tL,h4',ih',ED,mX⟩:=aT KN pW A8 G5 nL oQ nR vF h4 ih D5 qJ;obtain⟨V5,rR,DY,JA,bC9,oN,NY,YZ,LD,yR,AQ,tF⟩:=aT TW AR pF hE WQ YH F8 a0J hR0 LC hz kY;obtain⟨vG,bB',bC',MK,sC',a03⟩:=aN hR bB bC hbC sC hWC;clear KN pW A8 G5 nL oQ nR vF h4 ih D5 qJ TW AR pF hE WQ YH F8 a0J hR0 LC hz kY hR bB bC hbC sC hWC;go_enter Tryz.func140,Tryz.ntmps140;go_wp2_with fail
 rw[a03.o];refine(JA.o _).mono ?_;rintro e w3 ⟨rfl,jQ⟩;clear a03 f0 f1 f2 f3 lC bRJ;generalize qM tn sn bn=m at*;have bB3:=bB'.o.late jQ;have bC3:=bC'.o.late jQ;have sD:=MK.o.tm jQ;have LF:=lF.o.tm sD;have b2:=bB3.cell (i:=2) rfl;have c1:=bC3.cell (i:=1) rfl;have e65:decide ((65535:Int)<(m:Int))=false:=by simp;omega
 have hHm:aCK (lS,sat,jG,lV) m bn=(decide (1≤m)&&(decide (bn=0)|| !decide (sat=0))):=by unfold aCK;rw[decide_eq_true (show m≤65535 by omega),jB]
 rw[hHm]at LD;clear hHm;obtain⟨aZ1,aZ2,nX,sZ,qN⟩:=aM bB3 bC3 sD LF jQ;clear bB3 bC3 sD LF jQ;go_upto_region 3 with fail
 go_cut [35]from 19 to 35 (fun v wx=>v= .bool (!(decide (1≤m)&&(decide (bn=0)|| !decide (sat=0))))∧w3=wx)
 case first=>
  by_cases U8:m<1
  ·have e1:decide ((m:Int)<1)=true:=by simp;omega
   go_wp2_with fail
   go_meet
   exact⟨by rw[decide_eq_false (show ¬1≤m by omega)];rfl,rfl⟩
  ·have e1:decide ((m:Int)<1)=false:=by simp;omega
   by_cases hbp:0<bn
   ·have e3:decide ((0:Int)<(bn:Int))=true:=by simp;omega
    by_cases wC:sat=0
    ·have e4:(sat==0)=true:=by simp[wC]
     go_wp2_with fail
     go_meet
     exact⟨by rw[decide_eq_true (show 1≤m by omega),decide_eq_false (show ¬bn=0 by omega),decide_eq_true wC];rfl,rfl⟩
    ·have e4:(sat==0)=false:=by simp[wC]
     go_wp2_with fail
     go_meet
     exact⟨by rw[decide_eq_true (show 1≤m by omega),decide_eq_false (show ¬bn=0 by omega),decide_eq_false wC];rfl,rfl⟩
   ·have e3:decide ((0:Int)<(bn:Int))=false:=by simp;omega
    go_wp2_with fail
    go_meet
    exact⟨by rw[decide_eq_true (show 1≤m by omega),decide_eq_true (show bn=0 by omega)];rfl,rfl⟩
 case rest=>
 obtain⟨rfl,rfl⟩:=hcut;clear b2 c1;obtain⟨hh,hhh⟩:∃h,(decide (1≤m)&&(decide (bn=0)|| !decide (sat=0)))=h:=⟨_,rfl⟩;rw[hhh]at LD ⊢;clear hhh;cases hh with
 |false=>
  obtain rfl:R=false:=by rw[LD.o];rfl
  go_wp2_with fail
  go_ret;exact⟨rfl,nX.o⟩
 |true=>
 rw[dD]at LD;go_wp2_with fail
 obtain⟨tss,aVW⟩:=aC d.1;have QI:∀k,tss.getD k tg0=l8 (ts.getD k yL):=fun k=>by rw[←aVW,CW.o];exact QW
 rw[aVW]at LD;have yV:tss.length=tn:=by rw[←aVW];exact V5.o
 obtain⟨EU,FZ,bUH⟩:=aK QI yV aVW;clear QI yV aVW;go_loopw [9] (fun iv wr=>∃i:Nat,i≤tn∧iv= .int .i64 i∧Hid (∀j,j<i→U4 (lS,sat,jG,lV) tss j=true)∧Hid (Below w3.heap.size w3 wr)) (fun iv _=>tn - (intOf iv).toNat)
 case atStart=>exact⟨0,by omega,rfl,aA (fun j hj=>by omega),aA (aY _ _)⟩
 case round=>
  obtain⟨i,hi,rfl,kS,hb⟩:=hrel;have TA:=aZ1.o.late hb.o;have bCr:=aZ2.o.late hb.o;have jZ:=nX.o.tm hb.o;have qR:=lF.o.tm jZ;have m0:=TA.cell (i:=0) rfl;by_cases kD:i<tn
  ·have htw:=D8.o.mono qR;obtain⟨b,o,rfl,lC,f0,f1,f2,f3,rV⟩:=htw.at kD;have KJ:=EU.o i;have hgp:=EU.o (i - 1);obtain⟨⟨⟨y,t,k,xa,xn,xc⟩,dd⟩,wO⟩:∃z,ts.getD i yL=z:=⟨_,rfl⟩;rw[wO]at f0 f1 f2 f3 rV KJ;simp only[l8]at f0 f1 f2 f3 rV KJ;have CF:U4 (lS,sat,jG,lV) tss i=false→R=false:=fun hh=>by
    have:ownB (lS,sat,jG,lV) tss=false:=NU (k:=i) (by rw[FZ.o];exact kD) hh;rw[LD.o,this];rfl
   have nP:U4 (lS,sat,jG,lV) tss i=true→∀j,j<i+1→U4 (lS,sat,jG,lV) tss j=true:=fun hv j hj=>by
    by_cases TT:j=i
    ·subst TT;exact hv
    ·exact kS.o j aG
   have htB:U4 (lS,sat,jG,lV) tss i=(vV y&&(decide (i=0)||decide ((tss.getD (i - 1) tg0).1<y))&& !RO (lS,sat,jG,lV) y&&vH t k dd):=by
    unfold U4;rw[KJ];rfl
   have hTG:=fun W=>aC0 y W;generalize vV y=tb at*;have yJ:(i:Int)<(tn:Int):=by omega
   have xH:(0:Int)≤(i:Int):=by omega
   have sS:IntKind.i64.wrap ((i:Int)+1)=i+1:=by rw[bF];omega
   have b4:=jW.new wr 74 #[.int .i64 y,.int .i64 t,.int .i64 k,.slice xa xn xc];have mF:=aD wr (.cells #[.int .i64 y,.int .i64 t,.int .i64 k,.slice xa xn xc] 74);have DC:=hb.o.tm mF;have qZ:=nX.o.tm DC;have CK:=lF.o.tm qZ;have bB4:=aZ1.o.late DC;have bC4:=aZ2.o.late DC;have aRX:=D8.o.mono CK;have aRY:=rV.mono mF;have hl4:=yR.o.mono CK;obtain⟨jM,bOI,aFM,b6L,NC,nE,lW,F7,I8,b4',rT,JV⟩:=aT jZ htw KJ hgp wO CF nP htB hTG b4 mF DC;obtain⟨kW,qB,XJ,IC,aCS,JF,aCT,aNH,VR,aJ1,a1Y⟩:=aS qZ CK bB4 bC4 aRX rV aRY hl4 TA bCr qR;clear jZ htw KJ hgp wO CF nP htB hTG b4 mF DC qZ CK bB4 bC4 aRX rV aRY hl4 TA bCr qR;go_wp2_with fail
   clear f0 f1 f2 f3 m0;obtain⟨w4,ZL⟩:=aC (wr.alloc (.cells #[.int .i64 y,.int .i64 t,.int .i64 k,.slice xa xn xc] 74));rw[ZL]at b4' rT JV kW XJ IC aCS aCT aNH ⊢;generalize wr.heap.size=g4 at*;clear ZL;have WX:=fun(hz:i≠0)=>aCS.o.at (k:=i - 1) aG;obtain⟨Ty,ff,oJ,jN,jK⟩:=kE w4;have HS:=aA (jK _ ((aY _ _).drew));have q0:=fun s=>(b4'.o.late (jN s)).cell (i:=0) rfl;have q1:=fun s=>(b4'.o.late (jN s)).cell (i:=1) rfl;have q2:=fun s=>(b4'.o.late (jN s)).cell (i:=2) rfl;have q3:=fun s=>(b4'.o.late (jN s)).cell (i:=3) rfl;have q4:=fun s=>(XJ.o.late (jN s)).cell (i:=0) rfl;have q5:=fun s=>(IC.o.late (jN s)).cell (i:=0) rfl;have q6:=fun s=>(IC.o.late (jN s)).cell (i:=1) rfl;have q7:=fun s=>(IC.o.late (jN s)).cell (i:=2) rfl;have q8:=fun s=>(IC.o.late (jN s)).cell (i:=3) rfl;have hMY:=fun s=>JD t k xa xn xc dd (ff s) (aCT.o.mono (jN s));have hTK:=fun s=>aYK la ln lc lS sat jG lV y (ff s) (aNH.o.mono (jN s));rw[tF.o]at hTK;generalize RO (lS,sat,jG,lV) y=kb at*;generalize vH t k dd=mb at*;obtain⟨jH,jF,RZ,S9⟩:=aL jN jK hMY hTK;clear jN jK hMY hTK;cases tb
   case false=>
    have hv:U4 (lS,sat,jG,lV) tss i=false:=by rw[F7.o];simp
    clear WX;refine jL ff aF aF HS.o ?_;iterate 32 (go_big_quiet_step (first
     |(go_at_call 203;refine(I8.o _).mono ?_;rintro e w3 ⟨rfl,rfl⟩;exact⟨rfl,jF.o _ (jH.o _)⟩)
     |(go_at_call 204;refine(S9.o _).mono ?_;rintro e w3 ⟨rfl,jQ⟩;exact⟨rfl,jF.o _ ((jH.o _).tm jQ)⟩)
     |(go_at_call 183;refine(RZ.o _).mono ?_;rintro e w3 ⟨rfl,jQ⟩;exact⟨rfl,jF.o _ ((jH.o _).tm jQ)⟩)))
    refine wpQuiet_nil ?_;intro s;have kJ:=jH.o s;have jZ:=kW.o.tm kJ;obtain rfl:=nE.o hv;clear hv;obtain⟨jM,mR⟩:=aJ jZ kJ;clear jZ kJ;go_wp2_with fail
    go_ret;exact⟨rfl,jM.o⟩
   case true=>
   cases kb
   case true=>
    have hv:U4 (lS,sat,jG,lV) tss i=false:=by rw[F7.o];simp
    clear WX;refine jL ff aF aF HS.o ?_;iterate 32 (go_big_quiet_step (first
     |(go_at_call 203;refine(I8.o _).mono ?_;rintro e w3 ⟨rfl,rfl⟩;exact⟨rfl,jF.o _ (jH.o _)⟩)
     |(go_at_call 204;refine(S9.o _).mono ?_;rintro e w3 ⟨rfl,jQ⟩;exact⟨rfl,jF.o _ ((jH.o _).tm jQ)⟩)
     |(go_at_call 183;refine(RZ.o _).mono ?_;rintro e w3 ⟨rfl,jQ⟩;exact⟨rfl,jF.o _ ((jH.o _).tm jQ)⟩)))
    refine wpQuiet_nil ?_;intro s;have kJ:=jH.o s;have jZ:=kW.o.tm kJ;obtain rfl:=nE.o hv;clear hv;obtain⟨jM,mR⟩:=aJ jZ kJ;clear jZ kJ;go_wp2_with fail
    go_ret;exact⟨rfl,jM.o⟩
   case false=>
   cases mb
   case false=>
    have hv:U4 (lS,sat,jG,lV) tss i=false:=by rw[F7.o];simp
    clear WX;refine jL ff aF aF HS.o ?_;iterate 32 (go_big_quiet_step (first
     |(go_at_call 203;refine(I8.o _).mono ?_;rintro e w3 ⟨rfl,rfl⟩;exact⟨rfl,jF.o _ (jH.o _)⟩)
     |(go_at_call 204;refine(S9.o _).mono ?_;rintro e w3 ⟨rfl,jQ⟩;exact⟨rfl,jF.o _ ((jH.o _).tm jQ)⟩)
     |(go_at_call 183;refine(RZ.o _).mono ?_;rintro e w3 ⟨rfl,jQ⟩;exact⟨rfl,jF.o _ ((jH.o _).tm jQ)⟩)))
    refine wpQuiet_nil ?_;intro s;have kJ:=jH.o s;have jZ:=kW.o.tm kJ;obtain rfl:=nE.o hv;clear hv;obtain⟨jM,mR⟩:=aJ jZ kJ;clear jZ kJ;go_wp2_with fail
    go_ret;exact⟨rfl,jM.o⟩
   case true=>
    by_cases EM:i=0
    ·have p1:decide ((0:Int)<(i:Int))=false:=by simp;omega
     have p2:decide (0<i)=false:=by simp;omega
     have hv:U4 (lS,sat,jG,lV) tss i=true:=by rw[F7.o,decide_eq_true EM];rfl
     clear EM WX;refine jL ff aF aF HS.o ?_;iterate 32 (go_big_quiet_step (first
      |(go_at_call 203;refine(I8.o _).mono ?_;rintro e w3 ⟨rfl,rfl⟩;exact⟨rfl,jF.o _ (jH.o _)⟩)
      |(go_at_call 204;refine(S9.o _).mono ?_;rintro e w3 ⟨rfl,jQ⟩;exact⟨rfl,jF.o _ ((jH.o _).tm jQ)⟩)
      |(go_at_call 183;refine(RZ.o _).mono ?_;rintro e w3 ⟨rfl,jQ⟩;exact⟨rfl,jF.o _ ((jH.o _).tm jQ)⟩)))
     refine wpQuiet_nil ?_;intro s;have kJ:=jH.o s;have jZ:=JV.o.tm kJ;obtain⟨mR,jM,xE⟩:=aK kJ jZ hv;clear kJ jZ hv;go_wp2_with fail
     go_roundw
     case rel=>exact⟨i+1,by omega,by go_num,aA (lW.o xE.o),jM⟩
     case measure=>simp[intOf];omega
    ·obtain⟨b3,o3,XB,vB,g0,_⟩:=WX EM;obtain⟨rfl,rfl⟩:b=b3∧o=o3:=by simpa using XB
     clear XB WX;obtain⟨k',WM⟩:∃k',k'+1=i:=⟨i - 1,by omega⟩;have p1:decide ((0:Int)<(i:Int))=true:=by simp;omega
     have p2:decide (0<i)=true:=by simp;omega
     have wk:IntKind.i64.wrap ((i:Int) - 1)=(k':Int):=by rw[bF];omega
     have aH5:=b6L.o;rw[show i - 1=k' by omega]at g0 aH5;have PY:(tss.getD (i - 1) tg0).1=(ts.getD k' yL).1.1:=by rw[show i - 1=k' by omega,aH5];rfl
     replace F7:=aA (F7.o.trans (by rw[PY]:_=(true&&(decide (i=0)||decide ((ts.getD k' yL).1.1<y))&& !false&&true)))
     clear PY aH5;generalize (ts.getD k' yL).1.1=pv at*;have q9:∀s,(ff s).cell? ⟨b,o+k'*4,none⟩=some (.int .i64 pv):=fun s=>late (jH.o s) vB g0;have aJM:(k':Int)<tn:=by omega
     have aGD:k'<tn:=by omega
     have aMU:(0:Int)≤(k':Int):=by omega
     clear g0;by_cases hpt:y≤pv
     ·have p3:decide (y≤pv)=true:=by simp;omega
      have hv:U4 (lS,sat,jG,lV) tss i=false:=by rw[F7.o,decide_eq_false EM,decide_eq_false (show ¬pv<y by omega)];rfl
      clear EM WM;refine jL ff aF aF HS.o ?_;iterate 32 (go_big_quiet_step (first
       |(go_at_call 203;refine(I8.o _).mono ?_;rintro e w3 ⟨rfl,rfl⟩;exact⟨rfl,jF.o _ (jH.o _)⟩)
       |(go_at_call 204;refine(S9.o _).mono ?_;rintro e w3 ⟨rfl,jQ⟩;exact⟨rfl,jF.o _ ((jH.o _).tm jQ)⟩)
       |(go_at_call 183;refine(RZ.o _).mono ?_;rintro e w3 ⟨rfl,jQ⟩;exact⟨rfl,jF.o _ ((jH.o _).tm jQ)⟩)))
      refine wpQuiet_nil ?_;intro s;have kJ:=jH.o s;have jZ:=kW.o.tm kJ;obtain rfl:=nE.o hv;clear hv;obtain⟨jM,mR⟩:=aJ jZ kJ;clear jZ kJ;go_wp2_with fail
      go_ret;exact⟨rfl,jM.o⟩
     ·have p3:decide (y≤pv)=false:=by simp;omega
      have hv:U4 (lS,sat,jG,lV) tss i=true:=by rw[F7.o,decide_eq_true (show pv<y by omega),Bool.or_true];rfl
      clear EM WM;refine jL ff aF aF HS.o ?_;iterate 32 (go_big_quiet_step (first
       |(go_at_call 203;refine(I8.o _).mono ?_;rintro e w3 ⟨rfl,rfl⟩;exact⟨rfl,jF.o _ (jH.o _)⟩)
       |(go_at_call 204;refine(S9.o _).mono ?_;rintro e w3 ⟨rfl,jQ⟩;exact⟨rfl,jF.o _ ((jH.o _).tm jQ)⟩)
       |(go_at_call 183;refine(RZ.o _).mono ?_;rintro e w3 ⟨rfl,jQ⟩;exact⟨rfl,jF.o _ ((jH.o _).tm jQ)⟩)))
      refine wpQuiet_nil ?_;intro s;have kJ:=jH.o s;have jZ:=JV.o.tm kJ;obtain⟨mR,jM,xE⟩:=aK kJ jZ hv;clear kJ jZ hv;go_wp2_with fail
      go_roundw
      case rel=>exact⟨i+1,by omega,by go_num,aA (lW.o xE.o),jM⟩
      case measure=>simp[intOf];omega
  ·obtain rfl:i=tn:=by omega
   have hoB:ownB (lS,sat,jG,lV) tss=true:=DZ (fun j hj=>kS.o j (by rw[FZ.o]at hj;exact hj));have hR1:=LD.o;rw[hoB,dD]at hR1;have qZ:=jZ;have bB4:=TA;have bC4:=bCr;clear jZ TA bCr kS hoB kD;obtain⟨kW,XJ,IC,SA,a1Y⟩:=aM qZ bB4 bC4 hR1 qR;clear qZ bB4 bC4 hR1 qR;go_wp2_with fail
   obtain⟨w4,ZL⟩:=aC wr;rw[ZL]at kW XJ IC a1Y hb m0 ⊢;clear m0 ZL;go_loopw [11] (fun iv wr=>∃j:Nat,j≤sn∧iv= .int .i64 j∧Hid (∀k,k<j→J5 (nJ (jP zs) f) (lS,sat,jG,lV) d.2.1 k=true)∧Hid (Below w4.heap.size w4 wr)) (fun iv _=>sn - (intOf iv).toNat)
   case atStart=>exact⟨0,by omega,rfl,aA (fun k hk=>by omega),aA (aY _ _)⟩
   case round=>
    obtain⟨j,hj,rfl,kS,hbj⟩:=hrel;have TA:=XJ.o.late hbj.o;have bCr:=IC.o.late hbj.o;have m1:=TA.cell (i:=1) rfl;by_cases kD:j<sn
    ·have sS:IntKind.i64.wrap ((j:Int)+1)=j+1:=by rw[bF];omega
     have lI:=lF.o.trans ((kW.o.tm hbj.o).mono lF.o.size);have hid:j<d.2.1.length:=by rw[rR.o];exact kD
     have nV:j<ds.length:=by rw[sH.o];exact hid
     have YH:J5 (nJ (jP zs) f) (lS,sat,jG,lV) d.2.1 j=(wU (lS,sat,jG,lV) d.2.1[j].1&&(decide (j=0)||decide ((d.2.1.getD (j - 1) (0,lY f)).1<d.2.1[j].1))&&nJ (jP zs) f d.2.1[j].2 (zA (lS,sat,jG,lV) d.2.1[j].1)):=by unfold J5;rw[jO hid]
     have CF:J5 (nJ (jP zs) f) (lS,sat,jG,lV) d.2.1 j=false→R=false:=fun hh=>SA.o.trans (NU kD hh);have nP:J5 (nJ (jP zs) f) (lS,sat,jG,lV) d.2.1 j=true→∀k,k<j+1→J5 (nJ (jP zs) f) (lS,sat,jG,lV) d.2.1 k=true:=fun hv k hk=>by
      by_cases TT:k=j
      ·subst TT;exact hv
      ·exact kS.o k aG
     have DF:=NY.o d.2.1[j].1;have tH:lN f d.2.1[j].2:=h4'.o _ (bJ hid);obtain⟨OV,nD⟩:=oW.o j nV hid;obtain⟨ua,un,uc,ra,rn,rc,xa,xn,xc,hv⟩:=nD.v;have a05:=tX.o.mono lI;obtain⟨xb,xo,rfl,lC,fe⟩:=a05.elem mJ aH (0,(.slice none 0 0,.slice none 0 0,.slice none 0 0)) kD;rw[jO nV]at fe;have g0:=fe 0 _ rfl;have g1:=fe 1 _ rfl;have g2:=fe 2 _ rfl;have g3:=fe 3 _ rfl;simp only[bU]at g0 g1 g2 g3;clear fe;rw[hv]at nD g1 g2 g3;rw[OV]at g0;simp only at g0 g1 g2 g3;have IG:=yR.o.mono lI;have WX:=fun(hz:j≠0)=>a05.elem mJ aH (0,(.slice none 0 0,.slice none 0 0,.slice none 0 0)) (i:=j - 1) aG;have hp0:=fun(hz:j≠0) (h1:j - 1<ds.length) (h2:j - 1<d.2.1.length)=>(oW.o (j - 1) h1 h2).1;obtain⟨y,hy⟩:=aC (d.2.1[j].1);obtain⟨dd,OX⟩:=aC (d.2.1[j].2);rw[hy]at g0 YH DF;rw[OX]at nD YH tH;have hjn:(j:Int)<(sn:Int):=by omega
     have hj0:(0:Int)≤(j:Int):=by omega
     have hlm:=IG.max;have hll:=IG.le;have QD:=IG.rP pJ aH;obtain⟨KY,aNN,zH,xE,hy',aCW,oN,nE,lW,yG,F9,aS5⟩:=aT lI OV nD hv hy OX YH CF nP tH DF a05;obtain⟨Z0,QX,VR,aJ1⟩:=aL IG QD TA bCr;clear lI OV nD hv hy OX YH CF nP tH DF a05 IG QD TA bCr;go_wp2_with fail
     clear m1;obtain⟨Ty,ff,oJ,jN,jK⟩:=kE wr;have HS:=aA (jK _ ((aY _ _).drew));have q0:∀s,(ff s).cell? ⟨xb,xo+j*4,none⟩=some (.int .i64 y):=fun s=>late (jN s) lC g0;have q5:=fun s=>(VR.o.late (jN s)).cell (i:=1) rfl;have q6:=fun s=>(aJ1.o.late (jN s)).cell (i:=0) rfl;have q7:=fun s=>(aJ1.o.late (jN s)).cell (i:=1) rfl;have q8:=fun s=>(aJ1.o.late (jN s)).cell (i:=2) rfl;have q9:=fun s=>(aJ1.o.late (jN s)).cell (i:=3) rfl;have hLK:=fun s=>a2J la ln lc lS sat jG lV y (ff s) (Z0.o.mono (jN s));have U1:=BG (p:=fun(z:Lk)=>z.1==y) (l:=lS);have YI:=BU (p:=fun(z:Lk)=>z.1==y) (l:=lS);have hsI:zA (lS,sat,jG,lV) y=(lS.getD (fst (fun z=>z.1==y) lS).toNat (0,0)).2:=rfl;have hlP:wU (lS,sat,jG,lV) y=decide (0≤fst (fun(z:Lk)=>z.1==y) lS):=YI.symm;rw[hlP]at oN F9;obtain⟨ix,hix⟩:=aC (fst (fun(z:Lk)=>z.1==y) lS);simp only[hix]at oN hsI F9 U1 hLK;obtain⟨jH,jF,b0N,aND,bC6,b6V,a2V⟩:=aO jN jK hLK YI hix hlP hsI;clear jN jK hLK YI hix hlP hsI;refine jL ff aF aF HS.o ?_;iterate 9 (go_big_quiet_step ((go_at_call 189;refine(b0N.o _).mono ?_;rintro e w3 ⟨rfl,jQ⟩;exact⟨rfl,jF.o _ ((jH.o _).tm jQ)⟩)))
     refine wpQuiet_nil ?_;intro s;have kJ:=jH.o s;clear q0 q5 q6 q7 q8 q9;have pV:=hbj.o.tm kJ;have wN:=kW.o.tm pV;have BK:=lF.o.tm wN;have bB5:=VR.o.late kJ;have bC5:=aJ1.o.late kJ;have aVX:xb<(ff s).heap.size:=cK lC kJ.size;have g0:=late kJ lC g0;have g1:=late kJ lC g1;have g2:=late kJ lC g2;have g3:=late kJ lC g3;have WX:=fun(hz:j≠0)=>(tX.o.mono BK).elem mJ aH (0,(.slice none 0 0,.slice none 0 0,.slice none 0 0)) (i:=j - 1) aG;have IG:=yR.o.mono BK;obtain⟨w5,hw5⟩:=aC (ff s);rw[hw5]at pV wN BK bB5 bC5 aVX g0 g1 g2 g3 WX IG ⊢;clear kJ hw5 HS jH jF b0N aS5 Z0 lC;go_wp2_with fail
     obtain⟨Ty,ff,oJ,jN,jK⟩:=kE w5;have HS:=aA (jK _ ((aY _ _).drew));have q0:∀s,(ff s).cell? ⟨xb,xo+j*4,none⟩=some (.int .i64 y):=fun s=>late (jN s) aVX g0;have q1:∀s,(ff s).cell? ⟨xb,xo+j*4+1,none⟩=some (.slice ua un uc):=fun s=>late (jN s) aVX g1;have q2:∀s,(ff s).cell? ⟨xb,xo+j*4+2,none⟩=some (.slice ra rn rc):=fun s=>late (jN s) aVX g2;have q3:∀s,(ff s).cell? ⟨xb,xo+j*4+3,none⟩=some (.slice xa xn xc):=fun s=>late (jN s) aVX g3;have q5:=fun s=>(bB5.late (jN s)).cell (i:=1) rfl;have q6:=fun s=>(bC5.late (jN s)).cell (i:=0) rfl;clear g0 g1 g2 g3;obtain⟨jH,jF,Z0,bFO,aNO,FB,nN,vM⟩:=aP jN jK IG bB5 bC5 BK wN pV;clear jN jK IG bB5 bC5 BK wN pV;by_cases hx0:ix<0
     ·have e5:decide (ix<0)=true:=by simp;omega
      have hv:J5 (nJ (jP zs) f) (lS,sat,jG,lV) d.2.1 j=false:=by rw[oN.o,decide_eq_false (show ¬0≤ix by omega)];rfl
      clear WX hp0;refine jL ff aF aF HS.o ?_;iterate 39 (go_big_quiet_step ((go_at_call 140;refine(CO.o _).mono ?_;rintro e w3 ⟨rfl,jQ⟩;exact⟨rfl,jF.o _ ((jH.o _).tm jQ)⟩)))
      refine wpQuiet_nil ?_;intro s;have kJ:=jH.o s;have jZ:=nN.o.tm kJ;obtain rfl:=nE.o hv;clear hv;obtain⟨jM,mR⟩:=aJ jZ kJ;clear jZ kJ;go_wp2_with fail
      go_ret;exact⟨rfl,jM.o⟩
     ·have e5:decide (ix<0)=false:=by simp;omega
      obtain⟨kx,rfl⟩:∃kx:Nat,ix=kx:=⟨ix.toNat,by omega⟩;obtain⟨b3,o3,hla,vB,fe⟩:=Z0.o.elem pJ aH (0,0) (i:=kx) (by rw[QX.o]at U1;omega);subst hla;have l1:=fe 1 _ rfl;clear fe;rw[bM]at a2V;rw[←a2V.o]at l1;have hsb:=F9.o (by simp);rw[YZ.o]at hsb;obtain⟨si,ZN⟩:∃si:Nat,zA (lS,sat,jG,lV) y=si:=⟨(zA (lS,sat,jG,lV) y).toNat,by omega⟩;rw[ZN]at hsb l1 oN;have q7:∀s,(ff s).cell? ⟨b3,o3+kx*2+1,none⟩=some (.int .i64 si):=fun s=>late (jH.o s) vB l1;have D6:kx<ln:=by rw[QX.o]at U1;omega
      have bFP:(kx:Int)<(ln:Int):=by omega
      have bFQ:(0:Int)≤(kx:Int):=by omega
      have hHS:=fun s=>ih'.o w0 (ff s) dd (.slice ua un uc,.slice ra rn rc,.slice xa xn xc) si a0K.o (FB.o.trans ((jH.o s).mono FB.o.size)) zH.o yG.o ED.o aG;simp only at hHS;generalize nJ (jP zs) f dd si=hb at*;clear l1;have CO:=aA hHS;clear hHS;rw[decide_eq_true (show(0:Int)≤(kx:Int) by omega),dD]at oN;by_cases EM:j=0
      ·have p1:decide ((0:Int)<(j:Int))=false:=by simp;omega
       have p2:decide (0<j)=false:=by simp;omega
       rw[decide_eq_true EM,Bool.true_or,dD]at oN;clear EM WX hp0;cases hb
       case false=>
        have hv:J5 (nJ (jP zs) f) (lS,sat,jG,lV) d.2.1 j=false:=oN.o;refine jL ff aF aF HS.o ?_;iterate 39 (go_big_quiet_step ((go_at_call 140;refine(CO.o _).mono ?_;rintro e w3 ⟨rfl,jQ⟩;exact⟨rfl,jF.o _ ((jH.o _).tm jQ)⟩)))
        refine wpQuiet_nil ?_;intro s;have kJ:=jH.o s;have jZ:=nN.o.tm kJ;obtain rfl:=nE.o hv;clear hv;obtain⟨jM,mR⟩:=aJ jZ kJ;clear jZ kJ;go_wp2_with fail
        go_ret;exact⟨rfl,jM.o⟩
       case true=>
        have hv:J5 (nJ (jP zs) f) (lS,sat,jG,lV) d.2.1 j=true:=oN.o;refine jL ff aF aF HS.o ?_;iterate 39 (go_big_quiet_step ((go_at_call 140;refine(CO.o _).mono ?_;rintro e w3 ⟨rfl,jQ⟩;exact⟨rfl,jF.o _ ((jH.o _).tm jQ)⟩)))
        refine wpQuiet_nil ?_;intro s;have kJ:=jH.o s;have jZ:=vM.o.tm kJ;obtain⟨mR,jM,xE⟩:=aK kJ jZ hv;clear kJ jZ hv;go_wp2_with fail
        go_roundw
        case rel=>exact⟨j+1,by omega,by go_num,aA (lW.o xE.o),jM⟩
        case measure=>simp[intOf];omega
      ·obtain⟨b4,o4,XB,aCX,fe⟩:=WX EM;obtain⟨rfl,rfl⟩:xb=b4∧xo=o4:=by simpa using XB
       clear XB WX;have hp1:=hp0 EM;clear hp0;obtain⟨k',WM⟩:∃k',k'+1=j:=⟨j - 1,by omega⟩;have a2W:k'<d.2.1.length:=by rw[rR.o];omega
       have Z4:k'<ds.length:=by rw[sH.o];exact a2W
       have p1:decide ((0:Int)<(j:Int))=true:=by simp;omega
       have p2:decide (0<j)=true:=by simp;omega
       have wk:IntKind.i64.wrap ((j:Int) - 1)=(k':Int):=by rw[bF];omega
       have g0:=fe 0 _ rfl;rw[show j - 1=k' by omega,jO Z4,(oW.o k' Z4 a2W).1,bU]at g0;have PY:(d.2.1.getD (j - 1) (0,lY f)).1=d.2.1[k'].1:=by rw[show j - 1=k' by omega,jO a2W]
       rw[PY,decide_eq_false EM,jA]at oN;clear PY fe hp1;obtain⟨pv,hpv⟩:=aC (d.2.1[k'].1);rw[hpv]at g0 oN;have q9:∀s,(ff s).cell? ⟨xb,xo+k'*4,none⟩=some (.int .i64 pv):=fun s=>late (jH.o s) aCX g0;have aJM:(k':Int)<sn:=by omega
       have aGD:k'<sn:=by omega
       have aMU:(0:Int)≤(k':Int):=by omega
       clear g0 hpv EM WM;by_cases hpt:y≤pv
       ·have p3:decide (y≤pv)=true:=by simp;omega
        have hv:J5 (nJ (jP zs) f) (lS,sat,jG,lV) d.2.1 j=false:=by rw[oN.o,decide_eq_false (show ¬pv<y by omega)];rfl
        refine jL ff aF aF HS.o ?_;iterate 39 (go_big_quiet_step ((go_at_call 140;refine(CO.o _).mono ?_;rintro e w3 ⟨rfl,jQ⟩;exact⟨rfl,jF.o _ ((jH.o _).tm jQ)⟩)))
        refine wpQuiet_nil ?_;intro s;have kJ:=jH.o s;have jZ:=nN.o.tm kJ;obtain rfl:=nE.o hv;clear hv;obtain⟨jM,mR⟩:=aJ jZ kJ;clear jZ kJ;go_wp2_with fail
        go_ret;exact⟨rfl,jM.o⟩
       ·have p3:decide (y≤pv)=false:=by simp;omega
        rw[decide_eq_true (show pv<y by omega),dD]at oN;cases hb
        case false=>
         have hv:J5 (nJ (jP zs) f) (lS,sat,jG,lV) d.2.1 j=false:=oN.o;refine jL ff aF aF HS.o ?_;iterate 39 (go_big_quiet_step ((go_at_call 140;refine(CO.o _).mono ?_;rintro e w3 ⟨rfl,jQ⟩;exact⟨rfl,jF.o _ ((jH.o _).tm jQ)⟩)))
         refine wpQuiet_nil ?_;intro s;have kJ:=jH.o s;have jZ:=nN.o.tm kJ;obtain rfl:=nE.o hv;clear hv;obtain⟨jM,mR⟩:=aJ jZ kJ;clear jZ kJ;go_wp2_with fail
         go_ret;exact⟨rfl,jM.o⟩
        case true=>
         have hv:J5 (nJ (jP zs) f) (lS,sat,jG,lV) d.2.1 j=true:=oN.o;refine jL ff aF aF HS.o ?_;iterate 39 (go_big_quiet_step ((go_at_call 140;refine(CO.o _).mono ?_;rintro e w3 ⟨rfl,jQ⟩;exact⟨rfl,jF.o _ ((jH.o _).tm jQ)⟩)))
         refine wpQuiet_nil ?_;intro s;have kJ:=jH.o s;have jZ:=vM.o.tm kJ;obtain⟨mR,jM,xE⟩:=aK kJ jZ hv;clear kJ jZ hv;go_wp2_with fail
         go_roundw
         case rel=>exact⟨j+1,by omega,by go_num,aA (lW.o xE.o),jM⟩
         case measure=>simp[intOf];omega
    ·obtain rfl:j=sn:=by omega
     obtain rfl:R=true:=by rw[SA.o];exact DZ kS.o
     have jZ:=kW.o.tm hbj.o;obtain⟨jM,VR,aJ1⟩:=aK jZ TA bCr;clear jZ TA bCr;go_wp2_with fail
     go_ret;exact⟨rfl,jM.o⟩
theorem aVY (zs:List QN) (qa:Option Addr) (qn qc:Nat):∀f,bAO zs qa qn qc f:=by
 intro f;induction f with
 |zero=>intro w0 w d dv i _ _ hd;exact hd.elim
 |succ f ih=>exact aOP zs qa qn qc f ih
def aJ2 (L:List rQ) (f:Nat) (ds:List (jR f)) (n:Nat):Bool:=(List.range n).all fun k=>nJ L f (ds.getD k (lY f)) (nA L k)
theorem aOQ (L:List rQ) (f:Nat) (ds:List (jR f)) (n:Nat):aJ2 L f ds (n+1)=(aJ2 L f ds n&&nJ L f (ds.getD n (lY f)) (nA L n)):=by
 unfold aJ2;rw[eO,iU];simp
theorem aJ3 (f:Nat) (o:Int) (sa:Option Addr) (sn sc:Nat) (ds:List (jR f)) (a:Option Addr) (n c:Nat) (zs:List QN) (w:World) (h:yP f w sa sn sc ds) (hz:ShR w a n c zs) (hs:∀d∈ds,lN f d) (hN:(lK f ds).length<1000) (AR:sn≤500):
  Calls Tryz.prog 78 #[.agg #[.int .i64 o,.slice sa sn sc],.slice a n c] w fun e w'=>e= .returned (.int .i64 (tY f o ds (jP zs)))∧Below w.heap.size w w':=by
 have jY:=aD w (.cells #[.int .i64 o,.slice sa sn sc] 39);have bk:=jW.new w 39 #[.int .i64 o,.slice sa sn sc];obtain⟨W1,pR⟩:=aC (w.alloc (.cells #[.int .i64 o,.slice sa sn sc] 39));rw[pR]at jY bk;have hSh:=aC2 a n c zs W1 (hz.mono jY);have qJ:=hz.len;have bP8:=hz.row.le;have bP9:=hz.row.max;obtain⟨R,hR⟩:=aC (tY f o ds (jP zs));rw[hR];unfold tY at hR;have sM:ds.length=sn:=by
  obtain⟨xC,oQ,nL,_⟩:=h;rw[←oQ];exact nL.rP mP aH
 obtain⟨shb,aHI⟩:∃b,nO (jP zs)=b:=⟨_,rfl⟩;rw[aHI]at hSh hR;rw[sM]at hR;obtain⟨h',AQ,pX,YD,U2,kR,y8,b7J,mX,vG,wI,VF⟩:=aT h hz hs hN bk jY pR hSh qJ hR sM aHI;clear h hz hs hN bk jY pR hSh qJ hR sM aHI;go_enter Tryz.func78,Tryz.ntmps78;go_wp2_with fail
 refine((by rw[y8.o];exact b7J.o):Calls Tryz.prog 139 _ _ _).mono ?_;rintro e w2 ⟨rfl,jT⟩;have bk2:=U2.o.late jT;have lJ:=kR.o.tm jT;cases shb with
 |false=>
  obtain rfl:R=1:=by rw[←vG.o];rfl
  obtain⟨mE,JO,lG⟩:=aK jT bk2 lJ;clear jT bk2 lJ;go_wp2_with fail
  go_ret;exact⟨rfl,lG.o⟩
 |true=>
 have c0:=bk2.cell (i:=0) rfl;have c1:=bk2.cell (i:=1) rfl;rw[dD]at vG;by_cases OT:o<1
 ·have h1:decide (o<1)=true:=by simp;omega
  obtain rfl:R=1:=by rw[←vG.o,decide_eq_false (show ¬o=1 by omega),decide_eq_false (show ¬o=2 by omega)];rfl
  clear OT;obtain⟨mE,JO,lG⟩:=aK jT bk2 lJ;clear jT bk2 lJ;go_wp2_with fail
  go_ret;exact⟨rfl,lG.o⟩
 have h1:decide (o<1)=false:=by simp;omega
 by_cases vS:2<o
 ·have h2:decide (2<o)=true:=by simp;omega
  obtain rfl:R=1:=by rw[←vG.o,decide_eq_false (show ¬o=1 by omega),decide_eq_false (show ¬o=2 by omega)];rfl
  clear OT vS;obtain⟨mE,JO,lG⟩:=aK jT bk2 lJ;clear jT bk2 lJ;go_wp2_with fail
  go_ret;exact⟨rfl,lG.o⟩
 have h2:decide (2<o)=false:=by simp;omega
 have hoB:(decide (o=1)||decide (o=2))=true:=by
  have ho:o=1∨o=2:=by omega
  simpa using ho
 rw[hoB,dD]at vG;clear hoB OT vS;by_cases wC:sn=0
 ·have h3:((sn:Int)==0)=true:=by simp[wC]
  have h4:(sn==0)=true:=by simp[wC]
  obtain rfl:R=1:=by rw[←vG.o,decide_eq_true wC];rfl
  clear wC;obtain⟨mE,JO,lG⟩:=aK jT bk2 lJ;clear jT bk2 lJ;go_wp2_with fail
  go_ret;exact⟨rfl,lG.o⟩
 ·have h3:((sn:Int)==0)=false:=by simp;omega
  have h4:(sn==0)=false:=by simp;omega
  rw[decide_eq_false wC,if_pos (by rfl)]at vG;obtain⟨mE,JO,lG⟩:=aK jT bk2 lJ;clear jT bk2 lJ;go_wp2_with fail
  clear h1 h2 h3 c0 c1;go_loopw [5,6,7] (fun av ev iv wr=>∃(i:Nat) (e0:Int),i≤sn∧av= .int .i64 (nA (jP zs) i)∧ev= .int .i64 e0∧iv= .int .i64 i∧Hid (e0=if aJ2 (jP zs) f ds i=true then 0 else 6)∧Hid (chainB (jP zs) i=true)∧Hid (Below w2.heap.size w2 wr)) (fun _ _ iv _=>sn - (intOf iv).toNat)
  case atStart=>exact⟨0,0,by omega,rfl,rfl,rfl,aA rfl,aA rfl,aA (aY _ _)⟩
  case round=>
   obtain⟨i,e0,hi,rfl,rfl,rfl,hhs,hch,yZ⟩:=hrel;have CY:=JO.o.late yZ.o;have c1:=CY.cell (i:=1) rfl;have zM:=I9 VF.o i;have aHJ:(jP zs).length=n:=by unfold jP;rw[bL];exact mX.o
   rw[aHJ]at zM;have vI:=NV (L:=jP zs) (n:=i);rw[hch.o,dD]at vI;have qW:=fun(kD:i<sn) hh=>XI (L:=jP zs) (n:=sn) (k:=i) kD hh;have hnS:nA (jP zs) (i+1)=((jP zs).getD (nA (jP zs) i).toNat mD).2.2.2:=rfl;have hhN:=aOQ (jP zs) f ds i;have yQ:=lG.o.tm yZ.o;obtain⟨at_,EL⟩:∃x,nA (jP zs) i=x:=⟨_,rfl⟩;rw[EL]at zM vI qW hnS hhN ⊢;by_cases kD:i<sn
   ·have I4:(i:Int)<(sn:Int):=by omega
    have xH:(0:Int)≤(i:Int):=by omega
    have sS:IntKind.i64.wrap ((i:Int)+1)=i+1:=by rw[bF];omega
    by_cases ha:at_<0
    ·have hcn:=qW kD ha;obtain rfl:R=1:=by rw[←vG.o,hcn];rfl
     have ha1:decide (at_<0)=true:=by simp;omega
     obtain⟨JR,zN,sW,aHK,YE,oZ,bAP⟩:=aO CY vI qW hnS EL yQ hhN;clear CY vI qW hnS EL yQ hhN;go_wp2_with fail
     go_ret;exact⟨rfl,oZ.o⟩
    ·have ha1:decide (at_<0)=false:=by simp;omega
     obtain⟨ai,rfl⟩:∃ai:Nat,at_=ai:=⟨at_.toNat,by omega⟩;have yJ:(ai:Int)<n:=by omega
     have rD:ai<n:=by omega
     have bW5:(0:Int)≤(ai:Int):=by omega
     obtain⟨xC,oQ,nL,nR⟩:=h'.o;have hid:i<ds.length:=by rw[wI.o];exact kD
     have nV:i<xC.length:=by rw[oQ];exact hid
     obtain⟨b,o2,rfl,lC,fe⟩:=(nL.mono yQ).elem mP aH dzz kD;rw[jO nV]at fe;have nD:=nR i nV hid;obtain⟨ua,un,uc,ra,rn,rc,ya,yn,yc,hv⟩:=nD.v;have g0:=fe 0 _ rfl;have g1:=fe 1 _ rfl;have g2:=fe 2 _ rfl;clear fe nL nR;rw[hv]at nD g0 g1 g2;simp only[bU]at g0 g1 g2;have KJ:ds.getD i (lY f)=ds[i]:=by rw[jO hid]
     rw[KJ]at hhN;have tH:=pX.o _ (bJ hid);have HC:=aVY zs a n c f w wr ds[i] (.slice ua un uc,.slice ra rn rc,.slice ya yn yc) ai AQ.o yQ nD tH VF.o rD;simp only at HC;obtain⟨hx,hhx⟩:=aC (nJ (jP zs) f ds[i] ai);rw[hhx]at HC hhN;obtain⟨b3,o3,ha3,vB,fe⟩:=(AQ.o.mono yQ).row.elem qD aH sJ rD;subst ha3;rw[bM,qL (by rw[mX.o];exact rD)]at hnS;have l3:=fe 3 _ rfl;rw[←hnS]at l3;clear fe;have aD8:chainB (jP zs) (i+1)=true:=vI.trans (decide_eq_true aG);obtain⟨JR,zN,sW,aHK,YE,oZ,bAP,aFM,yG,HC',bW6,zH⟩:=aT CY vI qW hnS EL yQ hhN KJ tH HC hhx nD;obtain⟨xE,a8A,sH⟩:=aK hv aD8 oQ;clear CY vI qW hnS EL yQ hhN KJ tH HC hhx nD hv aD8 oQ;go_wp2_with fail
     refine HC'.o.mono ?_;rintro e w3 ⟨rfl,jQ⟩;have l3:=late jQ vB l3;have aBZ:=yZ.o.tm jQ;clear c1 g0 g1 g2;cases hx
     ·have bCN:Hid ((6:Int)=if aJ2 (jP zs) f ds (i+1)=true then 0 else 6):=aA (by rw[bAP.o,Bool.and_false];rfl);obtain⟨qN,aVZ⟩:=aJ jQ aBZ;clear jQ aBZ;go_wp2_with fail
      go_roundw
      case rel=>exact⟨i+1,6,by omega,rfl,rfl,by go_num,bCN,a8A,aVZ⟩
      case measure=>simp[intOf];omega
     ·have bCN:Hid (e0=if aJ2 (jP zs) f ds (i+1)=true then 0 else 6):=aA (by rw[bAP.o,jB];exact hhs.o);obtain⟨qN,aVZ⟩:=aJ jQ aBZ;clear jQ aBZ;go_wp2_with fail
      go_roundw
      case rel=>exact⟨i+1,e0,by omega,rfl,rfl,by go_num,bCN,a8A,aVZ⟩
      case measure=>simp[intOf];omega
   ·obtain rfl:i=sn:=by omega
    obtain⟨hb,hA⟩:=aC (aJ2 (jP zs) f ds i);have hA2:hasAll (jP zs) f ds=hb:=by unfold hasAll;rw[wI.o];exact hA
    rw[hch.o,hA2,if_pos (by rfl)]at vG;rw[hA]at hhs;clear hA hA2;have c0:=CY.cell (i:=0) rfl;clear zM vI qW hnS hhN;obtain⟨JR,oZ,YE⟩:=aK CY yQ EL;clear CY yQ EL;cases hb
    ·obtain rfl:R=6:=vG.o.symm;obtain rfl:e0=6:=hhs.o;go_wp2_with fail
     go_ret;exact⟨rfl,oZ.o⟩
    ·obtain rfl:e0=0:=hhs.o;have hL:=aCH f o sa i sc ds wr (h'.o.mono oZ.o) pX.o YD.o;rw[if_pos (by rfl)]at vG;obtain⟨lg,hlg⟩:∃x,nS f ds=x:=⟨_,rfl⟩;rw[hlg]at hL vG;obtain⟨hL',bGD⟩:=aJ hL hlg;clear hL hlg;go_wp2_with fail
     refine hL'.o.mono ?_;rintro e w5 ⟨rfl,nZ⟩;have wN:=oZ.o.tm nZ;by_cases hl0:lg=0
     ·have oG:(lg==0)=true:=by simp[hl0]
      obtain rfl:R=7:=by rw[←vG.o,if_pos hl0]
      obtain⟨nN,xJ⟩:=aJ wN nZ;clear wN nZ;go_wp2_with fail
      go_ret;exact⟨rfl,nN.o⟩
     ·have oG:(lg==0)=false:=by simp[hl0]
      obtain rfl:R=0:=by rw[←vG.o,if_neg hl0]
      obtain⟨nN,xJ⟩:=aJ wN nZ;clear wN nZ;go_wp2_with fail
      go_ret;exact⟨rfl,nN.o⟩
