import Derived.Test.YtceclmpmpldmlaaGreatCx17
import Derived.Test.YtceclmpmpldmlaaGreatCx18
set_option linter.unusedSimpArgs false
set_option linter.unusedVariables false
namespace Go.Proofs.YtceclmpmpldmlaaGreat
open Go.RowKit Tt
def b6T (zs:List QN) (qa:Option Addr) (qn qc:Nat) (f:Nat):Prop:=∀(w0 w:World) (d:jR f) (dv:Dz) (i:Nat),ShR w0 qa qn qc zs→Below w0.heap.size w0 w→wH w0 f d dv→lN f d→BJ f d→nO (jP zs)=true→i<qn→
 Calls Tryz.prog 48 #[.agg #[.slice qa qn qc],.agg #[dv.1,dv.2.1,dv.2.2],.int .i64 i] w fun e w'=>e= .returned (.bool (nJ (jP zs) f d i))∧Below w.heap.size w w'
theorem aZ0 (s:rQ) (e b:Nat):aCK s e b=(decide (1≤e)&&decide (e≤65535)&&(decide (b=0)|| !decide (s.2.1=0))):=rfl
set_option maxRecDepth 20000 in
set_option maxHeartbeats 8000000 in
theorem aS4 (zs:List QN) (qa:Option Addr) (qn qc:Nat) (f:Nat) (ih:b6T zs qa qn qc f):b6T zs qa qn qc (f+1):=by
 intro w0 w d dv i KN pW hd hs rU D5 hi;have qJ:=KN.len;obtain⟨ta,tn,tc,ts,sa,sn,sc,ds,ba,bn,bc,rfl,A8,G5,nL,oQ,nR,vF⟩:=hd;obtain⟨h1,h2,h3,h4⟩:=hs;have TW:d.1.length=tn:=by rw[G5,bL];exact A8.len
 have AR:d.2.1.length=sn:=by rw[←oQ];exact nL.rP mJ aH
 have pF:d.2.2.length=bn:=vF.nU;have LX:=KN.row.max;have BX:=KN.row.le;have aC5:=yY (b:=d.2.2.length) h1 h3;have a6D:sn≤500:=by omega
 have hE:=fun W=>UU ta sa ba tn tc sn sc bn bc W aG aG;have WQ:(jP zs).getD i mD=(zs.getD i sJ).2:=qL (by rw[qJ];exact hi);have YH:=CG D5 (i:=i) (by unfold jP;rw[bL,qJ];exact hi);have F8:=fun t=>V6 (L:=jP zs) (i:=i) (t:=t) D5 (by unfold jP;rw[bL,qJ];exact hi);have a0J:(jP zs).length=qn:=by unfold jP;rw[bL];exact qJ
 have hR0:=XH (jP zs) f d i;rw[bM,TW,AR,pF]at hR0;rw[pF,TW,AR]at aC5;have LC:=KN.at hi;obtain⟨b,o,hqa,lC,fe⟩:=KN.row.elem qD aH sJ hi;obtain⟨⟨⟨la,ln,lc⟩,⟨lS,sat,jG,lV⟩⟩,hz⟩:∃z,zs.getD i sJ=z:=⟨_,rfl⟩;rw[hz]at fe WQ LC;simp only at WQ LC;rw[WQ]at hR0 YH F8;have f0:=late pW lC (fe 0 _ rfl);have f1:=late pW lC (fe 1 _ rfl);have f2:=late pW lC (fe 2 _ rfl);have f3:=late pW lC (fe 3 _ rfl);simp only[bU]at f0 f1 f2 f3;clear fe;subst hqa;have kY:=fun t=>aN7 YH t;simp only at kY;have yJ:(i:Int)<(qn:Int):=by omega
 obtain⟨R,hR⟩:=aC (nJ (jP zs) (f+1) d i);rw[hR]at hR0 ⊢;have a2U:b<w.heap.size:=cK lC pW.size;obtain⟨WC,hWC,bA,bB,bC,hbC,sC⟩:=wV w 104 #[.slice (some ⟨b,o,none⟩) qn qc] 26 #[.slice ta tn tc,.slice sa sn sc,.slice ba bn bc] 35 #[.slice la ln lc,.int .i64 sat,.int .i64 jG,.int .i64 lV];have d1:(0:Int)≤(i:Int):=by omega
 obtain⟨a0K,lF,D8,CW,tX,sH,oW,tL,h4',ih',wJ⟩:=aS KN pW A8 G5 nL oQ nR vF h4 ih rU;obtain⟨ED,mX,V5,rR,DY,JA,bC9,oN,NY,YZ,LD,yR⟩:=aT D5 qJ TW AR pF hE WQ YH F8 a0J hR0 LC;obtain⟨AQ,tF,vG,bA',bB',bC',MK,sC',a03⟩:=aQ hz kY hR bA bB bC hbC sC hWC;clear KN pW A8 G5 nL oQ nR vF h4 ih rU D5 qJ TW AR pF hE WQ YH F8 a0J hR0 LC hz kY hR bA bB bC hbC sC hWC;go_enter Tryz.func48,Tryz.ntmps48;go_wp2_with fail
 rw[a03.o];refine(JA.o _).mono ?_;rintro e w3 ⟨rfl,jQ⟩;clear a03 f0 f1 f2 f3 lC a2U;generalize qM tn sn bn=m at*;have bA3:=bA'.o.late jQ;have bB3:=bB'.o.late jQ;have bC3:=bC'.o.late jQ;have sD:=MK.o.tm jQ;have LF:=lF.o.tm sD;have a0:=bA3.cell (i:=0) rfl;have b0:=bB3.cell (i:=0) rfl;have b1:=bB3.cell (i:=1) rfl;have b2:=bB3.cell (i:=2) rfl;have c0:=bC3.cell (i:=0) rfl;have c1:=bC3.cell (i:=1) rfl;have c2:=bC3.cell (i:=2) rfl;have c3:=bC3.cell (i:=3) rfl;have e65:decide ((65535:Int)<(m:Int))=false:=by simp;omega
 have hHm:aCK (lS,sat,jG,lV) m bn=(decide (1≤m)&&(decide (bn=0)|| !decide (sat=0))):=by rw[aZ0,decide_eq_true (show m≤65535 by omega),jB]
 rw[hHm]at LD;clear hHm;obtain⟨aCV,aZ1,aZ2,nX,sZ,qN⟩:=aN bA3 bB3 bC3 sD LF jQ;clear bA3 bB3 bC3 sD LF jQ;by_cases U8:m<1
 ·have e1:decide ((m:Int)<1)=true:=by simp;omega
  obtain rfl:R=false:=by rw[LD.o,decide_eq_false (show ¬1≤m by omega)];rfl
  go_wp2_with fail
  go_ret;exact⟨rfl,nX.o⟩
 have e1:decide ((m:Int)<1)=false:=by simp;omega
 rw[decide_eq_true (show 1≤m by omega),dD]at LD;have hT:=aNG (some ⟨b,o,none⟩) qn qc ta tn tc sa sn sc ba bn bc ts la ln lc lS sat jG lV w3 (D8.o.mono sZ.o) (fun z hz=>by
  have:=wJ.o.1 (l8 z) (by rw[CW.o];exact fP hz);exact this) (yR.o.mono sZ.o) tF.o
 rw[←CW.o]at hT;obtain⟨tr,htr⟩:=aC (ownB (lS,sat,jG,lV) d.1);rw[htr]at hT LD;obtain⟨hT',b6U⟩:=aJ hT htr;clear hT htr;go_wp2_with fail
 refine hT'.o.mono ?_;rintro e w4 ⟨rfl,mF⟩;have bA4:=aCV.o.late mF;have bB4:=aZ1.o.late mF;have bC4:=aZ2.o.late mF;have qZ:=nX.o.tm mF;clear a0 b0 b1 b2 c0 c1 c2 c3;have b1:=bB4.cell (i:=1) rfl;have b2:=bB4.cell (i:=2) rfl;have c1:=bC4.cell (i:=1) rfl;cases tr with
 |false=>
  obtain rfl:R=false:=by rw[LD.o];simp
  obtain⟨a04,XJ,IC,kW,rT⟩:=aM bA4 bB4 bC4 qZ mF;clear bA4 bB4 bC4 qZ mF;go_wp2_with fail
  go_ret;exact⟨rfl,kW.o⟩
 |true=>
 rw[jB]at LD;by_cases wR:0<bn∧sat=0
 ·have e3:decide ((0:Int)<(bn:Int))=true:=by simp;omega
  have e4:(sat==0)=true:=by simp[wR.2]
  obtain rfl:R=false:=by rw[LD.o,decide_eq_false (show ¬bn=0 by omega),decide_eq_true wR.2];rfl
  have hbp:=wR.1;clear wR;obtain⟨a04,XJ,IC,kW,rT⟩:=aM bA4 bB4 bC4 qZ mF;clear bA4 bB4 bC4 qZ mF;go_wp2_with fail
  go_ret;exact⟨rfl,kW.o⟩
 have hR1:R=(List.range d.2.1.length).all (J5 (nJ (jP zs) f) (lS,sat,jG,lV) d.2.1):=by
  rw[LD.o,rR.o];have:(decide (bn=0)|| !decide (sat=0))=true:=by
   by_cases h:bn=0
   ·rw[decide_eq_true h];rfl
   ·rw[decide_eq_false (show ¬sat=0 by omega)];simp
  rw[this,dD]
 rw[rR.o]at hR1;clear LD;obtain⟨a04,XJ,IC,kW,rT,SA⟩:=aN bA4 bB4 bC4 qZ mF hR1;clear bA4 bB4 bC4 qZ mF hR1;by_cases hbp:0<bn
 ·have e3:decide ((0:Int)<(bn:Int))=true:=by simp;omega
  have e4:(sat==0)=false:=by simp;omega
  clear wR;go_wp2_with fail
  clear b1 b2 c1;go_loopw [46] (fun iv wr=>∃j:Nat,j≤sn∧iv= .int .i64 j∧Hid (∀k,k<j→J5 (nJ (jP zs) f) (lS,sat,jG,lV) d.2.1 k=true)∧Hid (Below w4.heap.size w4 wr)) (fun iv _=>sn - (intOf iv).toNat)
  case atStart=>exact⟨0,by omega,rfl,aA (fun k hk=>by omega),aA (aY _ _)⟩
  case round=>
   obtain⟨j,hj,rfl,kS,hbj⟩:=hrel;by_cases kD:j<sn
   ·skip
    have sS:IntKind.i64.wrap ((j:Int)+1)=j+1:=by rw[bF];omega
    have lI:=lF.o.trans ((kW.o.tm hbj.o).mono lF.o.size);have hid:j<d.2.1.length:=by rw[rR.o];exact kD
    have nV:j<ds.length:=by rw[sH.o];exact hid
    have a05:=tX.o.mono lI;obtain⟨xb,xo,rfl,lC,fe⟩:=a05.elem mJ aH (0,(.slice none 0 0,.slice none 0 0,.slice none 0 0)) kD;rw[jO nV]at fe;obtain⟨OV,nD⟩:=oW.o j nV hid;obtain⟨ua,un,uc,ra,rn,rc,xa,xn,xc,hv⟩:=nD.v;have g0:=fe 0 _ rfl;have g1:=fe 1 _ rfl;have g2:=fe 2 _ rfl;have g3:=fe 3 _ rfl;simp only[bU]at g0 g1 g2 g3;clear fe;rw[hv]at nD g1 g2 g3;rw[OV]at g0;simp only at g0 g1 g2 g3;have YH:J5 (nJ (jP zs) f) (lS,sat,jG,lV) d.2.1 j=(wU (lS,sat,jG,lV) d.2.1[j].1&&(decide (j=0)||decide ((d.2.1.getD (j - 1) (0,lY f)).1<d.2.1[j].1))&&nJ (jP zs) f d.2.1[j].2 (zA (lS,sat,jG,lV) d.2.1[j].1)):=by unfold J5;rw[jO hid]
    have CF:J5 (nJ (jP zs) f) (lS,sat,jG,lV) d.2.1 j=false→R=false:=fun hh=>SA.o.trans (NU kD hh);have nP:J5 (nJ (jP zs) f) (lS,sat,jG,lV) d.2.1 j=true→∀k,k<j+1→J5 (nJ (jP zs) f) (lS,sat,jG,lV) d.2.1 k=true:=fun hv k hk=>by
     by_cases TT:k=j
     ·subst TT;exact hv
     ·exact kS.o k aG
    have DF:=NY.o d.2.1[j].1;have tH:lN f d.2.1[j].2:=h4'.o _ (bJ hid);have IE:BJ f d.2.1[j].2:=wJ.o.2.1 _ (bJ hid);obtain⟨y,hy⟩:=aC (d.2.1[j].1);obtain⟨dd,OX⟩:=aC (d.2.1[j].2);rw[hy]at g0 YH DF;rw[OX]at nD YH tH IE;have hjn:(j:Int)<(sn:Int):=by omega
    have b5:=jW.new wr 28 #[.int .i64 y,.slice ua un uc,.slice ra rn rc,.slice xa xn xc];have nZ:=aD wr (.cells #[.int .i64 y,.slice ua un uc,.slice ra rn rc,.slice xa xn xc] 28);have pV:=hbj.o.tm nZ;have bC5:=IC.o.late hbj.o;have k0:=bC5.cell (i:=0) rfl;have yA:=kW.o.tm pV;have aH9:=lF.o.tm yA;have hIX:=XG 108 (.inr rfl) (.pointer (some ⟨wr.heap.size,0,none⟩)) la ln lc lS (fun z=>z.1==y) _ ((yR.o.mono aH9)) (fun W' x hb=>aCU _ y x.1 x.2 W' (late hb b5.lt (b5.cell rfl)) (cK b5.lt hb.size));have bOL:=bC5.lt;obtain⟨KY,aS5,aNN,zH,xE,hy',aCW,oN,nE,lW,yG,NZ⟩:=aT lI a05 OV nD hv hy OX YH CF nP tH IE;obtain⟨b5',xJ,vM,aNO,NT,bFN,aS6,F9⟩:=aP b5 nZ pV bC5 yA aH9 hIX DF;clear lI a05 OV nD hv hy OX YH CF nP tH IE b5 nZ pV bC5 yA aH9 hIX DF;go_wp2_with fail
    refine aS6.o.mono ?_;rintro e w5 ⟨rfl,wQ⟩;have pV:=vM.o.tm wQ;have wN:=kW.o.tm pV;have BK:=lF.o.tm wN;have b5:=b5'.o.late wQ;have bA5:=a04.o.late pV;have bB5:=XJ.o.late pV;have bC5:=IC.o.late pV;clear k0 g0 g1 g2 g3 vM b5' aNO;obtain⟨g5,nW⟩:=aC wr.heap.size;rw[nW]at b5 ⊢;have U1:=BG (p:=fun(z:Lk)=>z.1==y) (l:=lS);have YI:=BU (p:=fun(z:Lk)=>z.1==y) (l:=lS);have hsI:zA (lS,sat,jG,lV) y=(lS.getD (fst (fun z=>z.1==y) lS).toNat (0,0)).2:=rfl;have hlP:wU (lS,sat,jG,lV) y=decide (0≤fst (fun(z:Lk)=>z.1==y) lS):=YI.symm;rw[hlP]at oN F9;obtain⟨ix,hix⟩:=aC (fst (fun(z:Lk)=>z.1==y) lS);simp only[hix]at oN hsI F9 U1 ⊢;have WX:=fun(hz:j≠0)=>(tX.o.mono BK).elem mJ aH (0,(.slice none 0 0,.slice none 0 0,.slice none 0 0)) (i:=j - 1) aG;have IG:=yR.o.mono BK;have hlm:=IG.max;have hll:=IG.le;have QD:=IG.rP pJ aH;obtain⟨Ty,ff,oJ,jN,jK⟩:=kE w5;have HS:=aA (jK _ ((aY _ _).drew));have q0:=fun s=>(b5.late (jN s)).cell (i:=0) rfl;have q1:=fun s=>(b5.late (jN s)).cell (i:=1) rfl;have q2:=fun s=>(b5.late (jN s)).cell (i:=2) rfl;have q3:=fun s=>(b5.late (jN s)).cell (i:=3) rfl;have q4:=fun s=>(bA5.late (jN s)).cell (i:=0) rfl;have q5:=fun s=>(bB5.late (jN s)).cell (i:=1) rfl;have q6:=fun s=>(bC5.late (jN s)).cell (i:=0) rfl;obtain⟨bC6,aND,a2V,b6V,jH,jF,Z0,QX,b5',aS7,bFO,aNO⟩:=aT hix YI hsI hlP jN jK IG QD b5 bA5 bB5 bC5;obtain⟨FB,nN,CB,vM,aS8⟩:=aM BK wN wQ pV nW;clear hix YI hsI hlP jN jK IG QD b5 bA5 bB5 bC5 BK wN wQ pV nW;by_cases hx0:ix<0
    ·have e5:decide (ix<0)=true:=by simp;omega
     have hv:J5 (nJ (jP zs) f) (lS,sat,jG,lV) d.2.1 j=false:=by rw[oN.o,decide_eq_false (show ¬0≤ix by omega)];rfl
     clear WX;go_wp2_with fail
     refine jL ff aF aF HS.o ?_;iterate 31 (go_big_quiet_step ((go_at_call 48;refine(CO.o _).mono ?_;rintro e w3 ⟨rfl,jQ⟩;exact⟨rfl,jF.o _ ((jH.o _).tm jQ)⟩)))
     refine wpQuiet_nil ?_;intro s;have kJ:=jH.o s;have jZ:=nN.o.tm kJ;obtain rfl:=nE.o hv;clear hv;obtain⟨jM,mR⟩:=aJ jZ kJ;clear jZ kJ;go_wp2_with fail
     go_ret;exact⟨rfl,jM.o⟩
    ·have e5:decide (ix<0)=false:=by simp;omega
     obtain⟨kx,rfl⟩:∃kx:Nat,ix=kx:=⟨ix.toNat,by omega⟩;obtain⟨b3,o3,hla,vB,fe⟩:=Z0.o.elem pJ aH (0,0) (i:=kx) (by rw[QX.o]at U1;omega);subst hla;have l1:=fe 1 _ rfl;clear fe;rw[bM]at a2V;rw[←a2V.o]at l1;have hsb:=F9.o (by simp);rw[YZ.o]at hsb;obtain⟨si,ZN⟩:∃si:Nat,zA (lS,sat,jG,lV) y=si:=⟨(zA (lS,sat,jG,lV) y).toNat,by omega⟩;rw[ZN]at hsb l1 oN;have q7:∀s,(ff s).cell? ⟨b3,o3+kx*2+1,none⟩=some (.int .i64 si):=fun s=>late (jH.o s) vB l1;have D6:kx<ln:=by rw[QX.o]at U1;omega
     have bFP:(kx:Int)<(ln:Int):=by omega
     have bFQ:(0:Int)≤(kx:Int):=by omega
     have hHS:=fun s=>ih'.o w0 (ff s) dd (.slice ua un uc,.slice ra rn rc,.slice xa xn xc) si a0K.o (FB.o.trans ((jH.o s).mono FB.o.size)) zH.o yG.o NZ.o ED.o aG;simp only at hHS;generalize nJ (jP zs) f dd si=hb at*;have CO:=aA hHS;clear hHS;rw[decide_eq_true (show(0:Int)≤(kx:Int) by omega),dD]at oN;by_cases EM:j=0
     ·have p1:decide ((0:Int)<(j:Int))=false:=by simp;omega
      have p2:decide (0<j)=false:=by simp;omega
      rw[decide_eq_true EM,Bool.true_or,dD]at oN;clear EM WX;cases hb
      case false=>
       have hv:J5 (nJ (jP zs) f) (lS,sat,jG,lV) d.2.1 j=false:=oN.o;go_wp2_with fail
       refine jL ff aF aF HS.o ?_;iterate 31 (go_big_quiet_step ((go_at_call 48;refine(CO.o _).mono ?_;rintro e w3 ⟨rfl,jQ⟩;exact⟨rfl,jF.o _ ((jH.o _).tm jQ)⟩)))
       refine wpQuiet_nil ?_;intro s;have kJ:=jH.o s;have jZ:=nN.o.tm kJ;obtain rfl:=nE.o hv;clear hv;obtain⟨jM,mR⟩:=aJ jZ kJ;clear jZ kJ;go_wp2_with fail
       go_ret;exact⟨rfl,jM.o⟩
      case true=>
       have hv:J5 (nJ (jP zs) f) (lS,sat,jG,lV) d.2.1 j=true:=oN.o;go_wp2_with fail
       refine jL ff aF aF HS.o ?_;iterate 31 (go_big_quiet_step ((go_at_call 48;refine(CO.o _).mono ?_;rintro e w3 ⟨rfl,jQ⟩;exact⟨rfl,jF.o _ ((jH.o _).tm jQ)⟩)))
       refine wpQuiet_nil ?_;intro s;have kJ:=jH.o s;have jZ:=vM.o.tm kJ;obtain⟨mR,jM,xE⟩:=aK kJ jZ hv;clear kJ jZ hv;go_wp2_with fail
       go_roundw
       case rel=>exact⟨j+1,by omega,by go_num,aA (lW.o xE.o),jM⟩
       case measure=>simp[intOf];omega
     ·obtain⟨b4,o4,XB,aCX,fe⟩:=WX EM;obtain⟨rfl,rfl⟩:xb=b4∧xo=o4:=by simpa using XB
      clear XB WX;obtain⟨k',WM⟩:∃k',k'+1=j:=⟨j - 1,by omega⟩;have a2W:k'<d.2.1.length:=by rw[rR.o];omega
      have Z4:k'<ds.length:=by rw[sH.o];exact a2W
      have p1:decide ((0:Int)<(j:Int))=true:=by simp;omega
      have p2:decide (0<j)=true:=by simp;omega
      have wk:IntKind.i64.wrap ((j:Int) - 1)=(k':Int):=by rw[bF];omega
      have g0:=fe 0 _ rfl;rw[show j - 1=k' by omega,jO Z4,(oW.o k' Z4 a2W).1,bU]at g0;have PY:(d.2.1.getD (j - 1) (0,lY f)).1=d.2.1[k'].1:=by rw[show j - 1=k' by omega,jO a2W]
      rw[PY,decide_eq_false EM,jA]at oN;clear PY fe;obtain⟨pv,hpv⟩:=aC (d.2.1[k'].1);rw[hpv]at g0 oN;have q9:∀s,(ff s).cell? ⟨xb,xo+k'*4,none⟩=some (.int .i64 pv):=fun s=>late (jH.o s) aCX g0;have aJM:(k':Int)<sn:=by omega
      have aGD:k'<sn:=by omega
      have aMU:(0:Int)≤(k':Int):=by omega
      clear g0 hpv EM WM;by_cases hpt:y≤pv
      ·have p3:decide (y≤pv)=true:=by simp;omega
       have hv:J5 (nJ (jP zs) f) (lS,sat,jG,lV) d.2.1 j=false:=by rw[oN.o,decide_eq_false (show ¬pv<y by omega)];rfl
       go_wp2_with fail
       refine jL ff aF aF HS.o ?_;iterate 31 (go_big_quiet_step ((go_at_call 48;refine(CO.o _).mono ?_;rintro e w3 ⟨rfl,jQ⟩;exact⟨rfl,jF.o _ ((jH.o _).tm jQ)⟩)))
       refine wpQuiet_nil ?_;intro s;have kJ:=jH.o s;have jZ:=nN.o.tm kJ;obtain rfl:=nE.o hv;clear hv;obtain⟨jM,mR⟩:=aJ jZ kJ;clear jZ kJ;go_wp2_with fail
       go_ret;exact⟨rfl,jM.o⟩
      ·have p3:decide (y≤pv)=false:=by simp;omega
       rw[decide_eq_true (show pv<y by omega),dD]at oN;cases hb
       case false=>
        have hv:J5 (nJ (jP zs) f) (lS,sat,jG,lV) d.2.1 j=false:=oN.o;go_wp2_with fail
        refine jL ff aF aF HS.o ?_;iterate 31 (go_big_quiet_step ((go_at_call 48;refine(CO.o _).mono ?_;rintro e w3 ⟨rfl,jQ⟩;exact⟨rfl,jF.o _ ((jH.o _).tm jQ)⟩)))
        refine wpQuiet_nil ?_;intro s;have kJ:=jH.o s;have jZ:=nN.o.tm kJ;obtain rfl:=nE.o hv;clear hv;obtain⟨jM,mR⟩:=aJ jZ kJ;clear jZ kJ;go_wp2_with fail
        go_ret;exact⟨rfl,jM.o⟩
       case true=>
        have hv:J5 (nJ (jP zs) f) (lS,sat,jG,lV) d.2.1 j=true:=oN.o;go_wp2_with fail
        refine jL ff aF aF HS.o ?_;iterate 31 (go_big_quiet_step ((go_at_call 48;refine(CO.o _).mono ?_;rintro e w3 ⟨rfl,jQ⟩;exact⟨rfl,jF.o _ ((jH.o _).tm jQ)⟩)))
        refine wpQuiet_nil ?_;intro s;have kJ:=jH.o s;have jZ:=vM.o.tm kJ;obtain⟨mR,jM,xE⟩:=aK kJ jZ hv;clear kJ jZ hv;go_wp2_with fail
        go_roundw
        case rel=>exact⟨j+1,by omega,by go_num,aA (lW.o xE.o),jM⟩
        case measure=>simp[intOf];omega
   ·obtain rfl:j=sn:=by omega
    obtain rfl:R=true:=by rw[SA.o];exact DZ kS.o
    have jZ:=kW.o.tm hbj.o;have jM:=aA jZ;clear jZ;go_wp2_with fail
    go_ret;exact⟨rfl,jM.o⟩
 ·have e3:decide ((0:Int)<(bn:Int))=false:=by simp;omega
  clear wR;go_wp2_with fail
  clear b1 b2 c1;go_loopw [46] (fun iv wr=>∃j:Nat,j≤sn∧iv= .int .i64 j∧Hid (∀k,k<j→J5 (nJ (jP zs) f) (lS,sat,jG,lV) d.2.1 k=true)∧Hid (Below w4.heap.size w4 wr)) (fun iv _=>sn - (intOf iv).toNat)
  case atStart=>exact⟨0,by omega,rfl,aA (fun k hk=>by omega),aA (aY _ _)⟩
  case round=>
   obtain⟨j,hj,rfl,kS,hbj⟩:=hrel;by_cases kD:j<sn
   ·skip
    have sS:IntKind.i64.wrap ((j:Int)+1)=j+1:=by rw[bF];omega
    have lI:=lF.o.trans ((kW.o.tm hbj.o).mono lF.o.size);have hid:j<d.2.1.length:=by rw[rR.o];exact kD
    have nV:j<ds.length:=by rw[sH.o];exact hid
    have a05:=tX.o.mono lI;obtain⟨xb,xo,rfl,lC,fe⟩:=a05.elem mJ aH (0,(.slice none 0 0,.slice none 0 0,.slice none 0 0)) kD;rw[jO nV]at fe;obtain⟨OV,nD⟩:=oW.o j nV hid;obtain⟨ua,un,uc,ra,rn,rc,xa,xn,xc,hv⟩:=nD.v;have g0:=fe 0 _ rfl;have g1:=fe 1 _ rfl;have g2:=fe 2 _ rfl;have g3:=fe 3 _ rfl;simp only[bU]at g0 g1 g2 g3;clear fe;rw[hv]at nD g1 g2 g3;rw[OV]at g0;simp only at g0 g1 g2 g3;have YH:J5 (nJ (jP zs) f) (lS,sat,jG,lV) d.2.1 j=(wU (lS,sat,jG,lV) d.2.1[j].1&&(decide (j=0)||decide ((d.2.1.getD (j - 1) (0,lY f)).1<d.2.1[j].1))&&nJ (jP zs) f d.2.1[j].2 (zA (lS,sat,jG,lV) d.2.1[j].1)):=by unfold J5;rw[jO hid]
    have CF:J5 (nJ (jP zs) f) (lS,sat,jG,lV) d.2.1 j=false→R=false:=fun hh=>SA.o.trans (NU kD hh);have nP:J5 (nJ (jP zs) f) (lS,sat,jG,lV) d.2.1 j=true→∀k,k<j+1→J5 (nJ (jP zs) f) (lS,sat,jG,lV) d.2.1 k=true:=fun hv k hk=>by
     by_cases TT:k=j
     ·subst TT;exact hv
     ·exact kS.o k aG
    have DF:=NY.o d.2.1[j].1;have tH:lN f d.2.1[j].2:=h4'.o _ (bJ hid);have IE:BJ f d.2.1[j].2:=wJ.o.2.1 _ (bJ hid);obtain⟨y,hy⟩:=aC (d.2.1[j].1);obtain⟨dd,OX⟩:=aC (d.2.1[j].2);rw[hy]at g0 YH DF;rw[OX]at nD YH tH IE;have hjn:(j:Int)<(sn:Int):=by omega
    have b5:=jW.new wr 28 #[.int .i64 y,.slice ua un uc,.slice ra rn rc,.slice xa xn xc];have nZ:=aD wr (.cells #[.int .i64 y,.slice ua un uc,.slice ra rn rc,.slice xa xn xc] 28);have pV:=hbj.o.tm nZ;have bC5:=IC.o.late hbj.o;have k0:=bC5.cell (i:=0) rfl;have yA:=kW.o.tm pV;have aH9:=lF.o.tm yA;have hIX:=XG 108 (.inr rfl) (.pointer (some ⟨wr.heap.size,0,none⟩)) la ln lc lS (fun z=>z.1==y) _ ((yR.o.mono aH9)) (fun W' x hb=>aCU _ y x.1 x.2 W' (late hb b5.lt (b5.cell rfl)) (cK b5.lt hb.size));have bOL:=bC5.lt;obtain⟨KY,aS5,aNN,zH,xE,hy',aCW,oN,nE,lW,yG,NZ⟩:=aT lI a05 OV nD hv hy OX YH CF nP tH IE;obtain⟨b5',xJ,vM,aNO,NT,bFN,aS6,F9⟩:=aP b5 nZ pV bC5 yA aH9 hIX DF;clear lI a05 OV nD hv hy OX YH CF nP tH IE b5 nZ pV bC5 yA aH9 hIX DF;go_wp2_with fail
    refine aS6.o.mono ?_;rintro e w5 ⟨rfl,wQ⟩;have pV:=vM.o.tm wQ;have wN:=kW.o.tm pV;have BK:=lF.o.tm wN;have b5:=b5'.o.late wQ;have bA5:=a04.o.late pV;have bB5:=XJ.o.late pV;have bC5:=IC.o.late pV;clear k0 g0 g1 g2 g3 vM b5' aNO;obtain⟨g5,nW⟩:=aC wr.heap.size;rw[nW]at b5 ⊢;have U1:=BG (p:=fun(z:Lk)=>z.1==y) (l:=lS);have YI:=BU (p:=fun(z:Lk)=>z.1==y) (l:=lS);have hsI:zA (lS,sat,jG,lV) y=(lS.getD (fst (fun z=>z.1==y) lS).toNat (0,0)).2:=rfl;have hlP:wU (lS,sat,jG,lV) y=decide (0≤fst (fun(z:Lk)=>z.1==y) lS):=YI.symm;rw[hlP]at oN F9;obtain⟨ix,hix⟩:=aC (fst (fun(z:Lk)=>z.1==y) lS);simp only[hix]at oN hsI F9 U1 ⊢;have WX:=fun(hz:j≠0)=>(tX.o.mono BK).elem mJ aH (0,(.slice none 0 0,.slice none 0 0,.slice none 0 0)) (i:=j - 1) aG;have IG:=yR.o.mono BK;have hlm:=IG.max;have hll:=IG.le;have QD:=IG.rP pJ aH;obtain⟨Ty,ff,oJ,jN,jK⟩:=kE w5;have HS:=aA (jK _ ((aY _ _).drew));have q0:=fun s=>(b5.late (jN s)).cell (i:=0) rfl;have q1:=fun s=>(b5.late (jN s)).cell (i:=1) rfl;have q2:=fun s=>(b5.late (jN s)).cell (i:=2) rfl;have q3:=fun s=>(b5.late (jN s)).cell (i:=3) rfl;have q4:=fun s=>(bA5.late (jN s)).cell (i:=0) rfl;have q5:=fun s=>(bB5.late (jN s)).cell (i:=1) rfl;have q6:=fun s=>(bC5.late (jN s)).cell (i:=0) rfl;obtain⟨bC6,aND,a2V,b6V,jH,jF,Z0,QX,b5',aS7,bFO,aNO⟩:=aT hix YI hsI hlP jN jK IG QD b5 bA5 bB5 bC5;obtain⟨FB,nN,CB,vM,aS8⟩:=aM BK wN wQ pV nW;clear hix YI hsI hlP jN jK IG QD b5 bA5 bB5 bC5 BK wN wQ pV nW;by_cases hx0:ix<0
    ·have e5:decide (ix<0)=true:=by simp;omega
     have hv:J5 (nJ (jP zs) f) (lS,sat,jG,lV) d.2.1 j=false:=by rw[oN.o,decide_eq_false (show ¬0≤ix by omega)];rfl
     clear WX;go_wp2_with fail
     refine jL ff aF aF HS.o ?_;iterate 31 (go_big_quiet_step ((go_at_call 48;refine(CO.o _).mono ?_;rintro e w3 ⟨rfl,jQ⟩;exact⟨rfl,jF.o _ ((jH.o _).tm jQ)⟩)))
     refine wpQuiet_nil ?_;intro s;have kJ:=jH.o s;have jZ:=nN.o.tm kJ;obtain rfl:=nE.o hv;clear hv;obtain⟨jM,mR⟩:=aJ jZ kJ;clear jZ kJ;go_wp2_with fail
     go_ret;exact⟨rfl,jM.o⟩
    ·have e5:decide (ix<0)=false:=by simp;omega
     obtain⟨kx,rfl⟩:∃kx:Nat,ix=kx:=⟨ix.toNat,by omega⟩;obtain⟨b3,o3,hla,vB,fe⟩:=Z0.o.elem pJ aH (0,0) (i:=kx) (by rw[QX.o]at U1;omega);subst hla;have l1:=fe 1 _ rfl;clear fe;rw[bM]at a2V;rw[←a2V.o]at l1;have hsb:=F9.o (by simp);rw[YZ.o]at hsb;obtain⟨si,ZN⟩:∃si:Nat,zA (lS,sat,jG,lV) y=si:=⟨(zA (lS,sat,jG,lV) y).toNat,by omega⟩;rw[ZN]at hsb l1 oN;have q7:∀s,(ff s).cell? ⟨b3,o3+kx*2+1,none⟩=some (.int .i64 si):=fun s=>late (jH.o s) vB l1;have D6:kx<ln:=by rw[QX.o]at U1;omega
     have bFP:(kx:Int)<(ln:Int):=by omega
     have bFQ:(0:Int)≤(kx:Int):=by omega
     have hHS:=fun s=>ih'.o w0 (ff s) dd (.slice ua un uc,.slice ra rn rc,.slice xa xn xc) si a0K.o (FB.o.trans ((jH.o s).mono FB.o.size)) zH.o yG.o NZ.o ED.o aG;simp only at hHS;generalize nJ (jP zs) f dd si=hb at*;have CO:=aA hHS;clear hHS;rw[decide_eq_true (show(0:Int)≤(kx:Int) by omega),dD]at oN;by_cases EM:j=0
     ·have p1:decide ((0:Int)<(j:Int))=false:=by simp;omega
      have p2:decide (0<j)=false:=by simp;omega
      rw[decide_eq_true EM,Bool.true_or,dD]at oN;clear EM WX;cases hb
      case false=>
       have hv:J5 (nJ (jP zs) f) (lS,sat,jG,lV) d.2.1 j=false:=oN.o;go_wp2_with fail
       refine jL ff aF aF HS.o ?_;iterate 31 (go_big_quiet_step ((go_at_call 48;refine(CO.o _).mono ?_;rintro e w3 ⟨rfl,jQ⟩;exact⟨rfl,jF.o _ ((jH.o _).tm jQ)⟩)))
       refine wpQuiet_nil ?_;intro s;have kJ:=jH.o s;have jZ:=nN.o.tm kJ;obtain rfl:=nE.o hv;clear hv;obtain⟨jM,mR⟩:=aJ jZ kJ;clear jZ kJ;go_wp2_with fail
       go_ret;exact⟨rfl,jM.o⟩
      case true=>
       have hv:J5 (nJ (jP zs) f) (lS,sat,jG,lV) d.2.1 j=true:=oN.o;go_wp2_with fail
       refine jL ff aF aF HS.o ?_;iterate 31 (go_big_quiet_step ((go_at_call 48;refine(CO.o _).mono ?_;rintro e w3 ⟨rfl,jQ⟩;exact⟨rfl,jF.o _ ((jH.o _).tm jQ)⟩)))
       refine wpQuiet_nil ?_;intro s;have kJ:=jH.o s;have jZ:=vM.o.tm kJ;obtain⟨mR,jM,xE⟩:=aK kJ jZ hv;clear kJ jZ hv;go_wp2_with fail
       go_roundw
       case rel=>exact⟨j+1,by omega,by go_num,aA (lW.o xE.o),jM⟩
       case measure=>simp[intOf];omega
     ·obtain⟨b4,o4,XB,aCX,fe⟩:=WX EM;obtain⟨rfl,rfl⟩:xb=b4∧xo=o4:=by simpa using XB
      clear XB WX;obtain⟨k',WM⟩:∃k',k'+1=j:=⟨j - 1,by omega⟩;have a2W:k'<d.2.1.length:=by rw[rR.o];omega
      have Z4:k'<ds.length:=by rw[sH.o];exact a2W
      have p1:decide ((0:Int)<(j:Int))=true:=by simp;omega
      have p2:decide (0<j)=true:=by simp;omega
      have wk:IntKind.i64.wrap ((j:Int) - 1)=(k':Int):=by rw[bF];omega
      have g0:=fe 0 _ rfl;rw[show j - 1=k' by omega,jO Z4,(oW.o k' Z4 a2W).1,bU]at g0;have PY:(d.2.1.getD (j - 1) (0,lY f)).1=d.2.1[k'].1:=by rw[show j - 1=k' by omega,jO a2W]
      rw[PY,decide_eq_false EM,jA]at oN;clear PY fe;obtain⟨pv,hpv⟩:=aC (d.2.1[k'].1);rw[hpv]at g0 oN;have q9:∀s,(ff s).cell? ⟨xb,xo+k'*4,none⟩=some (.int .i64 pv):=fun s=>late (jH.o s) aCX g0;have aJM:(k':Int)<sn:=by omega
      have aGD:k'<sn:=by omega
      have aMU:(0:Int)≤(k':Int):=by omega
      clear g0 hpv EM WM;by_cases hpt:y≤pv
      ·have p3:decide (y≤pv)=true:=by simp;omega
       have hv:J5 (nJ (jP zs) f) (lS,sat,jG,lV) d.2.1 j=false:=by rw[oN.o,decide_eq_false (show ¬pv<y by omega)];rfl
       go_wp2_with fail
       refine jL ff aF aF HS.o ?_;iterate 31 (go_big_quiet_step ((go_at_call 48;refine(CO.o _).mono ?_;rintro e w3 ⟨rfl,jQ⟩;exact⟨rfl,jF.o _ ((jH.o _).tm jQ)⟩)))
       refine wpQuiet_nil ?_;intro s;have kJ:=jH.o s;have jZ:=nN.o.tm kJ;obtain rfl:=nE.o hv;clear hv;obtain⟨jM,mR⟩:=aJ jZ kJ;clear jZ kJ;go_wp2_with fail
       go_ret;exact⟨rfl,jM.o⟩
      ·have p3:decide (y≤pv)=false:=by simp;omega
       rw[decide_eq_true (show pv<y by omega),dD]at oN;cases hb
       case false=>
        have hv:J5 (nJ (jP zs) f) (lS,sat,jG,lV) d.2.1 j=false:=oN.o;go_wp2_with fail
        refine jL ff aF aF HS.o ?_;iterate 31 (go_big_quiet_step ((go_at_call 48;refine(CO.o _).mono ?_;rintro e w3 ⟨rfl,jQ⟩;exact⟨rfl,jF.o _ ((jH.o _).tm jQ)⟩)))
        refine wpQuiet_nil ?_;intro s;have kJ:=jH.o s;have jZ:=nN.o.tm kJ;obtain rfl:=nE.o hv;clear hv;obtain⟨jM,mR⟩:=aJ jZ kJ;clear jZ kJ;go_wp2_with fail
        go_ret;exact⟨rfl,jM.o⟩
       case true=>
        have hv:J5 (nJ (jP zs) f) (lS,sat,jG,lV) d.2.1 j=true:=oN.o;go_wp2_with fail
        refine jL ff aF aF HS.o ?_;iterate 31 (go_big_quiet_step ((go_at_call 48;refine(CO.o _).mono ?_;rintro e w3 ⟨rfl,jQ⟩;exact⟨rfl,jF.o _ ((jH.o _).tm jQ)⟩)))
        refine wpQuiet_nil ?_;intro s;have kJ:=jH.o s;have jZ:=vM.o.tm kJ;obtain⟨mR,jM,xE⟩:=aK kJ jZ hv;clear kJ jZ hv;go_wp2_with fail
        go_roundw
        case rel=>exact⟨j+1,by omega,by go_num,aA (lW.o xE.o),jM⟩
        case measure=>simp[intOf];omega
   ·obtain rfl:j=sn:=by omega
    obtain rfl:R=true:=by rw[SA.o];exact DZ kS.o
    have jZ:=kW.o.tm hbj.o;have jM:=aA jZ;clear jZ;go_wp2_with fail
    go_ret;exact⟨rfl,jM.o⟩
theorem aKG (zs:List QN) (qa:Option Addr) (qn qc:Nat):∀f,b6T zs qa qn qc f:=by
 intro f;induction f with
 |zero=>intro w0 w d dv i _ _ hd;exact hd.elim
 |succ f ih=>exact aS4 zs qa qn qc f ih
