import Derived.Test.YtceclmpmpldmlaaGreatCw15
import Derived.Test.YtceclmpmpldmlaaGreatCw16
set_option linter.unusedSimpArgs false
set_option linter.unusedVariables false
set_option maxRecDepth 100000
set_option maxHeartbeats 8000000
namespace Go.Proofs.YtceclmpmpldmlaaGreat
open Go.RowKit Tt
def bDA (zs:List Shz) (qa:Option Addr) (qn qc:Nat) (f:Nat):Prop:=∀(w0 w:World) (d:jY f) (dv:Dz) (i:Nat),ShR w0 qa qn qc zs→Below w0.heap.size w0 w→FN w0 f d dv→mY f d→tJ f d→mW (kK zs)=true→i<qn→
 Calls Tryz.prog 48 #[.agg #[.slice qa qn qc],.agg #[dv.1,dv.2.1,dv.2.2],.int .i64 i] w fun e w'=>e= .returned (.bool (nN (kK zs) f d i))∧Below w.heap.size w w'
theorem b3R (s:nP) (e b:Nat):aPP s e b=(decide (1≤e)&&decide (e≤65535)&&(decide (b=0)|| !decide (s.2.1=0))):=rfl
theorem aUJ (zs:List Shz) (qa:Option Addr) (qn qc:Nat) (f:Nat) (ih:bDA zs qa qn qc f):bDA zs qa qn qc (f+1):=by
 intro w0 w d dv i hsh AX hd hs qL wP hi;have vO:=hsh.len;obtain⟨ta,tn,tc,ts,sa,sn,sc,ds,ba,bn,bc,rfl,htg,hdt,qU,wG,vV,D9⟩:=hd;obtain⟨h1,h2,h3,h4⟩:=hs;have htn:d.1.length=tn:=by rw[hdt,dF];exact htg.len
 have UG:d.2.1.length=sn:=by rw[←wG];exact qU.xZ qV aH
 have hbn:d.2.2.length=bn:=D9.p9;have UC:=hsh.row.max;have FI:=hsh.row.le;have b36:=JY (b:=d.2.2.length) h1 h3;have bK5:sn≤500:=by omega
 have hE:=fun W=>X0 ta sa ba tn tc sn sc bn bc W aG aG;have GZ:(kK zs).getD i kQ=(zs.getD i BL).2:=y9 (by rw[vO];exact hi);have hsB:=AA wP (i:=i) (by unfold kK;rw[dF,vO];exact hi);have a4T:=fun t=>a2T (L:=kK zs) (i:=i) (t:=t) wP (by unfold kK;rw[dF,vO];exact hi);have aMA:(kK zs).length=qn:=by unfold kK;rw[dF];exact vO
 have hR0:=a9F (kK zs) f d i;rw[cB,htn,UG,hbn]at hR0;rw[hbn,htn,UG]at b36;have XB:=hsh.at hi;obtain⟨b,o,hqa,xL,fe⟩:=hsh.row.elem zQ aH BL hi;obtain⟨⟨⟨la,ln,lc⟩,⟨oN,sat,kC,oM⟩⟩,hz⟩:∃z,zs.getD i BL=z:=⟨_,rfl⟩;rw[hz]at fe GZ XB;simp only at GZ XB;rw[GZ]at hR0 hsB a4T;have f0:=late AX xL (fe 0 _ rfl);have f1:=late AX xL (fe 1 _ rfl);have f2:=late AX xL (fe 2 _ rfl);have f3:=late AX xL (fe 3 _ rfl);simp only[dB]at f0 f1 f2 f3;clear fe;subst hqa;have mK:=fun t=>aPQ hsB t;simp only at mK;have CY:(i:Int)<(qn:Int):=by omega
 obtain⟨R,hR⟩:=aC (nN (kK zs) (f+1) d i);rw[hR]at hR0 ⊢;have a9J:b<w.heap.size:=dD xL AX.size;obtain⟨WC,hWC,bA,bB,bC,hbC,sC⟩:=F6 w 104 #[.slice (some ⟨b,o,none⟩) qn qc] 26 #[.slice ta tn tc,.slice sa sn sc,.slice ba bn bc] 35 #[.slice la ln lc,.int .i64 sat,.int .i64 kC,.int .i64 oM];have d1:(0:Int)≤(i:Int):=by omega
 obtain⟨Z5,r9,aBB,a7Z,yB,GK,BO,vE,h4',ih',vR⟩:=aS hsh AX htg hdt qU wG vV D9 h4 ih qL;obtain⟨nJ,oC,aTO,NZ,aBC,hE',a2M,tF,aBM,aN0,aBN,IU⟩:=aT wP vO htn UG hbn hE GZ hsB a4T aMA hR0 XB;obtain⟨GX,xQ,qM,bA',bB',bC',aBJ,sC',aUB⟩:=aQ hz mK hR bA bB bC hbC sC hWC;clear hsh AX htg hdt qU wG vV D9 h4 ih qL wP vO htn UG hbn hE GZ hsB a4T aMA hR0 XB hz mK hR bA bB bC hbC sC hWC;go_enter Tryz.func48,Tryz.ntmps48;go_wp2_with fail
 rw[aUB.o];refine(hE'.o _).mono ?_;rintro e w3 ⟨rfl,kT⟩;clear aUB f0 f1 f2 f3 xL a9J;generalize pU tn sn bn=m at*;have bA3:=bA'.o.late kT;have bB3:=bB'.o.late kT;have bC3:=bC'.o.late kT;have D6:=aBJ.o.tm kT;have KL:=r9.o.tm D6;have a0:=bA3.cell (i:=0) rfl;have b0:=bB3.cell (i:=0) rfl;have b1:=bB3.cell (i:=1) rfl;have b2:=bB3.cell (i:=2) rfl;have c0:=bC3.cell (i:=0) rfl;have c1:=bC3.cell (i:=1) rfl;have c2:=bC3.cell (i:=2) rfl;have c3:=bC3.cell (i:=3) rfl;have e65:decide ((65535:Int)<(m:Int))=false:=by simp;omega
 have hHm:aPP (oN,sat,kC,oM) m bn=(decide (1≤m)&&(decide (bn=0)|| !decide (sat=0))):=by rw[b3R,decide_eq_true (show m≤65535 by omega),Bool.and_true]
 rw[hHm]at aBN;clear hHm;obtain⟨aQ2,bV6,bV7,wT,zF,sM⟩:=aN bA3 bB3 bC3 D6 KL kT;clear bA3 bB3 bC3 D6 KL kT;by_cases OL:m<1
 ·have e1:decide ((m:Int)<1)=true:=by simp;omega
  obtain rfl:R=false:=by rw[aBN.o,decide_eq_false (show ¬1≤m by omega)];rfl
  go_wp2_with fail
  go_ret;exact⟨rfl,wT.o⟩
 have e1:decide ((m:Int)<1)=false:=by simp;omega
 rw[decide_eq_true (show 1≤m by omega),dL]at aBN;have hT:=aPX (some ⟨b,o,none⟩) qn qc ta tn tc sa sn sc ba bn bc ts la ln lc oN sat kC oM w3 (aBB.o.mono zF.o) (fun z hz=>by
  have:=vR.o.1 (nO z) (by rw[a7Z.o];exact iO hz);exact this) (IU.o.mono zF.o) xQ.o
 rw[←a7Z.o]at hT;obtain⟨tr,htr⟩:=aC (ownB (oN,sat,kC,oM) d.1);rw[htr]at hT aBN;obtain⟨hT',c4S⟩:=aJ hT htr;clear hT htr;go_wp2_with fail
 refine hT'.o.mono ?_;rintro e w4 ⟨rfl,mX⟩;have bA4:=aQ2.o.late mX;have bB4:=bV6.o.late mX;have bC4:=bV7.o.late mX;have y8:=wT.o.tm mX;clear a0 b0 b1 b2 c0 c1 c2 c3;have b1:=bB4.cell (i:=1) rfl;have b2:=bB4.cell (i:=2) rfl;have c1:=bC4.cell (i:=1) rfl;cases tr with
 |false=>
  obtain rfl:R=false:=by rw[aBN.o];simp
  obtain⟨a8K,aJG,a2B,mP,xG⟩:=aM bA4 bB4 bC4 y8 mX;clear bA4 bB4 bC4 y8 mX;go_wp2_with fail
  go_ret;exact⟨rfl,mP.o⟩
 |true=>
 rw[Bool.and_true]at aBN;by_cases yV:0<bn∧sat=0
 ·have e3:decide ((0:Int)<(bn:Int))=true:=by simp;omega
  have e4:(sat==0)=true:=by simp[yV.2]
  obtain rfl:R=false:=by rw[aBN.o,decide_eq_false (show ¬bn=0 by omega),decide_eq_true yV.2];rfl
  have hbp:=yV.1;clear yV;obtain⟨a8K,aJG,a2B,mP,xG⟩:=aM bA4 bB4 bC4 y8 mX;clear bA4 bB4 bC4 y8 mX;go_wp2_with fail
  go_ret;exact⟨rfl,mP.o⟩
 have hR1:R=(List.range d.2.1.length).all (WE (nN (kK zs) f) (oN,sat,kC,oM) d.2.1):=by
  rw[aBN.o,NZ.o];have:(decide (bn=0)|| !decide (sat=0))=true:=by
   by_cases h:bn=0
   ·rw[decide_eq_true h];rfl
   ·rw[decide_eq_false (show ¬sat=0 by omega)];simp
  rw[this,dL]
 rw[NZ.o]at hR1;clear aBN;obtain⟨a8K,aJG,a2B,mP,xG,V9⟩:=aN bA4 bB4 bC4 y8 mX hR1;clear bA4 bB4 bC4 y8 mX hR1;by_cases hbp:0<bn
 ·have e3:decide ((0:Int)<(bn:Int))=true:=by simp;omega
  have e4:(sat==0)=false:=by simp;omega
  clear yV;go_wp2_with fail
  clear b1 b2 c1;go_loopw [46] (fun iv wr=>∃j:Nat,j≤sn∧iv= .int .i64 j∧Hid (∀k,k<j→WE (nN (kK zs) f) (oN,sat,kC,oM) d.2.1 k=true)∧Hid (Below w4.heap.size w4 wr)) (fun iv _=>sn - (intOf iv).toNat)
  case atStart=>exact⟨0,by omega,rfl,aA (fun k hk=>by omega),aA (bF _ _)⟩
  case round=>
   obtain⟨j,hj,rfl,lY,hbj⟩:=hrel;by_cases kY:j<sn
   ·skip
    have xR:IntKind.i64.wrap ((j:Int)+1)=j+1:=by rw[bJ];omega
    have nR:=r9.o.trans ((mP.o.tm hbj.o).mono r9.o.size);have hid:j<d.2.1.length:=by rw[NZ.o];exact kY
    have rC:j<ds.length:=by rw[GK.o];exact hid
    have aJJ:=yB.o.mono nR;obtain⟨xb,xo,rfl,xL,fe⟩:=aJJ.elem qV aH (0,(.slice none 0 0,.slice none 0 0,.slice none 0 0)) kY;rw[kF rC]at fe;obtain⟨hq1,rH⟩:=BO.o j rC hid;obtain⟨ua,un,uc,ra,rn,rc,xa,xn,xc,hv⟩:=rH.v;have g0:=fe 0 _ rfl;have g1:=fe 1 _ rfl;have g2:=fe 2 _ rfl;have g3:=fe 3 _ rfl;simp only[dB]at g0 g1 g2 g3;clear fe;rw[hv]at rH g1 g2 g3;rw[hq1]at g0;simp only at g0 g1 g2 g3;have hsB:WE (nN (kK zs) f) (oN,sat,kC,oM) d.2.1 j=(nQ (oN,sat,kC,oM) d.2.1[j].1&&(decide (j=0)||decide ((d.2.1.getD (j - 1) (0,kS f)).1<d.2.1[j].1))&&nN (kK zs) f d.2.1[j].2 (vG (oN,sat,kC,oM) d.2.1[j].1)):=by unfold WE;rw[kF hid]
    have PL:WE (nN (kK zs) f) (oN,sat,kC,oM) d.2.1 j=false→R=false:=fun hh=>V9.o.trans (ZX kY hh);have oQ:WE (nN (kK zs) f) (oN,sat,kC,oM) d.2.1 j=true→∀k,k<j+1→WE (nN (kK zs) f) (oN,sat,kC,oM) d.2.1 k=true:=fun hv k hk=>by
     by_cases hjk:k=j
     ·subst hjk;exact hv
     ·exact lY.o k aG
    have XD:=aBM.o d.2.1[j].1;have EJ:mY f d.2.1[j].2:=h4'.o _ (bP hid);have PX:tJ f d.2.1[j].2:=vR.o.2.1 _ (bP hid);obtain⟨y,hy⟩:=aC (d.2.1[j].1);obtain⟨dd,hdd⟩:=aC (d.2.1[j].2);rw[hy]at g0 hsB XD;rw[hdd]at rH hsB EJ PX;have hjn:(j:Int)<(sn:Int):=by omega
    have b5:=kG.new wr 28 #[.int .i64 y,.slice ua un uc,.slice ra rn rc,.slice xa xn xc];have nV:=aD wr (.cells #[.int .i64 y,.slice ua un uc,.slice ra rn rc,.slice xa xn xc] 28);have xU:=hbj.o.tm nV;have bC5:=a2B.o.late hbj.o;have k0:=bC5.cell (i:=0) rfl;have FZ:=mP.o.tm xU;have aJK:=r9.o.tm FZ;have hIX:=ZW 108 (.inr rfl) (.pointer (some ⟨wr.heap.size,0,none⟩)) la ln lc oN (fun z=>z.1==y) _ ((IU.o.mono aJK)) (fun W' x hb=>aET _ y x.1 x.2 W' (late hb b5.lt (b5.cell rfl)) (dD b5.lt hb.size));have bV8:=bC5.lt;obtain⟨aB9,bKM,bKN,L9,GA,hy',b3S,tF,rZ,nG,JN,XE⟩:=aT nR aJJ hq1 rH hv hy hdd hsB PL oQ EJ PX;obtain⟨b5',LF,BP,aUK,a4J,bKO,aUL,XF⟩:=aP b5 nV xU bC5 FZ aJK hIX XD;clear nR aJJ hq1 rH hv hy hdd hsB PL oQ EJ PX b5 nV xU bC5 FZ aJK hIX XD;go_wp2_with fail
    refine aUL.o.mono ?_;rintro e w5 ⟨rfl,vU⟩;have xU:=BP.o.tm vU;have zA:=mP.o.tm xU;have GU:=r9.o.tm zA;have b5:=b5'.o.late vU;have bA5:=a8K.o.late xU;have bB5:=aJG.o.late xU;have bC5:=a2B.o.late xU;clear k0 g0 g1 g2 g3 BP b5' aUK;obtain⟨g5,qA⟩:=aC wr.heap.size;rw[qA]at b5 ⊢;have hfb:=MQ (p:=fun(z:Lk)=>z.1==y) (l:=oN);have hfa:=EL (p:=fun(z:Lk)=>z.1==y) (l:=oN);have hsI:vG (oN,sat,kC,oM) y=(oN.getD (fst (fun z=>z.1==y) oN).toNat (0,0)).2:=rfl;have hlP:nQ (oN,sat,kC,oM) y=decide (0≤fst (fun(z:Lk)=>z.1==y) oN):=hfa.symm;rw[hlP]at tF XF;obtain⟨ix,hix⟩:=aC (fst (fun(z:Lk)=>z.1==y) oN);simp only[hix]at tF hsI XF hfb ⊢;have hnz:=fun(hz:j≠0)=>(yB.o.mono GU).elem qV aH (0,(.slice none 0 0,.slice none 0 0,.slice none 0 0)) (i:=j - 1) aG;have a4U:=IU.o.mono GU;have hlm:=a4U.max;have hll:=a4U.le;have aBO:=a4U.xZ sO aH;obtain⟨Ty,ff,pQ,kI,kE⟩:=kM w5;have HS:=aA (kE _ ((bF _ _).drew));have q0:=fun s=>(b5.late (kI s)).cell (i:=0) rfl;have q1:=fun s=>(b5.late (kI s)).cell (i:=1) rfl;have q2:=fun s=>(b5.late (kI s)).cell (i:=2) rfl;have q3:=fun s=>(b5.late (kI s)).cell (i:=3) rfl;have q4:=fun s=>(bA5.late (kI s)).cell (i:=0) rfl;have q5:=fun s=>(bB5.late (kI s)).cell (i:=1) rfl;have q6:=fun s=>(bC5.late (kI s)).cell (i:=0) rfl;obtain⟨c1G,aU8,aJL,bV9,kD,jV,aUM,a9K,b5',aUN,bVA,aUK⟩:=aT hix hfa hsI hlP kI kE a4U aBO b5 bA5 bB5 bC5;obtain⟨F7,pJ,MO,BP,bVB⟩:=aM GU zA vU xU qA;clear hix hfa hsI hlP kI kE a4U aBO b5 bA5 bB5 bC5 GU zA vU xU qA;by_cases hx0:ix<0
    ·have e5:decide (ix<0)=true:=by simp;omega
     have hv:WE (nN (kK zs) f) (oN,sat,kC,oM) d.2.1 j=false:=by rw[tF.o,decide_eq_false (show ¬0≤ix by omega)];rfl
     clear hnz;go_wp2_with fail
     refine kL ff aF aF HS.o ?_;iterate 31 (go_big_quiet_step ((go_at_call 48;refine(MS.o _).mono ?_;rintro e w3 ⟨rfl,kT⟩;exact⟨rfl,jV.o _ ((kD.o _).tm kT)⟩)))
     refine wpQuiet_nil ?_;intro s;have nE:=kD.o s;have lK:=pJ.o.tm nE;obtain rfl:=rZ.o hv;clear hv;obtain⟨kX,sS⟩:=aJ lK nE;clear lK nE;go_wp2_with fail
     go_ret;exact⟨rfl,kX.o⟩
    ·have e5:decide (ix<0)=false:=by simp;omega
     obtain⟨kx,rfl⟩:∃kx:Nat,ix=kx:=⟨ix.toNat,by omega⟩;obtain⟨b3,o3,hla,PV,fe⟩:=aUM.o.elem sO aH (0,0) (i:=kx) (by rw[a9K.o]at hfb;omega);subst hla;have l1:=fe 1 _ rfl;clear fe;rw[cB]at aJL;rw[←aJL.o]at l1;have hsb:=XF.o (by simp);rw[aN0.o]at hsb;obtain⟨si,hsi⟩:∃si:Nat,vG (oN,sat,kC,oM) y=si:=⟨(vG (oN,sat,kC,oM) y).toNat,by omega⟩;rw[hsi]at hsb l1 tF;have q7:∀s,(ff s).cell? ⟨b3,o3+kx*2+1,none⟩=some (.int .i64 si):=fun s=>late (kD.o s) PV l1;have xK:kx<ln:=by rw[a9K.o]at hfb;omega
     have bVC:(kx:Int)<(ln:Int):=by omega
     have bVD:(0:Int)≤(kx:Int):=by omega
     have hHS:=fun s=>ih'.o w0 (ff s) dd (.slice ua un uc,.slice ra rn rc,.slice xa xn xc) si Z5.o (F7.o.trans ((kD.o s).mono F7.o.size)) L9.o JN.o XE.o nJ.o aG;simp only at hHS;generalize nN (kK zs) f dd si=hb at*;have MS:=aA hHS;clear hHS;rw[decide_eq_true (show(0:Int)≤(kx:Int) by omega),dL]at tF;by_cases SY:j=0
     ·have p1:decide ((0:Int)<(j:Int))=false:=by simp;omega
      have p2:decide (0<j)=false:=by simp;omega
      rw[decide_eq_true SY,Bool.true_or,dL]at tF;clear SY hnz;cases hb
      case false=>
       have hv:WE (nN (kK zs) f) (oN,sat,kC,oM) d.2.1 j=false:=tF.o;go_wp2_with fail
       refine kL ff aF aF HS.o ?_;iterate 31 (go_big_quiet_step ((go_at_call 48;refine(MS.o _).mono ?_;rintro e w3 ⟨rfl,kT⟩;exact⟨rfl,jV.o _ ((kD.o _).tm kT)⟩)))
       refine wpQuiet_nil ?_;intro s;have nE:=kD.o s;have lK:=pJ.o.tm nE;obtain rfl:=rZ.o hv;clear hv;obtain⟨kX,sS⟩:=aJ lK nE;clear lK nE;go_wp2_with fail
       go_ret;exact⟨rfl,kX.o⟩
      case true=>
       have hv:WE (nN (kK zs) f) (oN,sat,kC,oM) d.2.1 j=true:=tF.o;go_wp2_with fail
       refine kL ff aF aF HS.o ?_;iterate 31 (go_big_quiet_step ((go_at_call 48;refine(MS.o _).mono ?_;rintro e w3 ⟨rfl,kT⟩;exact⟨rfl,jV.o _ ((kD.o _).tm kT)⟩)))
       refine wpQuiet_nil ?_;intro s;have nE:=kD.o s;have lK:=BP.o.tm nE;obtain⟨sS,kX,GA⟩:=aK nE lK hv;clear nE lK hv;go_wp2_with fail
       go_roundw
       case rel=>exact⟨j+1,by omega,by go_num,aA (nG.o GA.o),kX⟩
       case measure=>simp[intOf];omega
     ·obtain⟨b4,o4,he3,aUO,fe⟩:=hnz SY;obtain⟨rfl,rfl⟩:xb=b4∧xo=o4:=by simpa using he3
      clear he3 hnz;obtain⟨k',WG⟩:∃k',k'+1=j:=⟨j - 1,by omega⟩;have aJM:k'<d.2.1.length:=by rw[NZ.o];omega
      have aEU:k'<ds.length:=by rw[GK.o];exact aJM
      have p1:decide ((0:Int)<(j:Int))=true:=by simp;omega
      have p2:decide (0<j)=true:=by simp;omega
      have wk:IntKind.i64.wrap ((j:Int) - 1)=(k':Int):=by rw[bJ];omega
      have g0:=fe 0 _ rfl;rw[show j - 1=k' by omega,kF aEU,(BO.o k' aEU aJM).1,dB]at g0;have ZB:(d.2.1.getD (j - 1) (0,kS f)).1=d.2.1[k'].1:=by rw[show j - 1=k' by omega,kF aJM]
      rw[ZB,decide_eq_false SY,Bool.false_or]at tF;clear ZB fe;obtain⟨pv,hpv⟩:=aC (d.2.1[k'].1);rw[hpv]at g0 tF;have q9:∀s,(ff s).cell? ⟨xb,xo+k'*4,none⟩=some (.int .i64 pv):=fun s=>late (kD.o s) aUO g0;have aS4:(k':Int)<sn:=by omega
      have aPC:k'<sn:=by omega
      have aTK:(0:Int)≤(k':Int):=by omega
      clear g0 hpv SY WG;by_cases hpt:y≤pv
      ·have p3:decide (y≤pv)=true:=by simp;omega
       have hv:WE (nN (kK zs) f) (oN,sat,kC,oM) d.2.1 j=false:=by rw[tF.o,decide_eq_false (show ¬pv<y by omega)];rfl
       go_wp2_with fail
       refine kL ff aF aF HS.o ?_;iterate 31 (go_big_quiet_step ((go_at_call 48;refine(MS.o _).mono ?_;rintro e w3 ⟨rfl,kT⟩;exact⟨rfl,jV.o _ ((kD.o _).tm kT)⟩)))
       refine wpQuiet_nil ?_;intro s;have nE:=kD.o s;have lK:=pJ.o.tm nE;obtain rfl:=rZ.o hv;clear hv;obtain⟨kX,sS⟩:=aJ lK nE;clear lK nE;go_wp2_with fail
       go_ret;exact⟨rfl,kX.o⟩
      ·have p3:decide (y≤pv)=false:=by simp;omega
       rw[decide_eq_true (show pv<y by omega),dL]at tF;cases hb
       case false=>
        have hv:WE (nN (kK zs) f) (oN,sat,kC,oM) d.2.1 j=false:=tF.o;go_wp2_with fail
        refine kL ff aF aF HS.o ?_;iterate 31 (go_big_quiet_step ((go_at_call 48;refine(MS.o _).mono ?_;rintro e w3 ⟨rfl,kT⟩;exact⟨rfl,jV.o _ ((kD.o _).tm kT)⟩)))
        refine wpQuiet_nil ?_;intro s;have nE:=kD.o s;have lK:=pJ.o.tm nE;obtain rfl:=rZ.o hv;clear hv;obtain⟨kX,sS⟩:=aJ lK nE;clear lK nE;go_wp2_with fail
        go_ret;exact⟨rfl,kX.o⟩
       case true=>
        have hv:WE (nN (kK zs) f) (oN,sat,kC,oM) d.2.1 j=true:=tF.o;go_wp2_with fail
        refine kL ff aF aF HS.o ?_;iterate 31 (go_big_quiet_step ((go_at_call 48;refine(MS.o _).mono ?_;rintro e w3 ⟨rfl,kT⟩;exact⟨rfl,jV.o _ ((kD.o _).tm kT)⟩)))
        refine wpQuiet_nil ?_;intro s;have nE:=kD.o s;have lK:=BP.o.tm nE;obtain⟨sS,kX,GA⟩:=aK nE lK hv;clear nE lK hv;go_wp2_with fail
        go_roundw
        case rel=>exact⟨j+1,by omega,by go_num,aA (nG.o GA.o),kX⟩
        case measure=>simp[intOf];omega
   ·obtain rfl:j=sn:=by omega
    obtain rfl:R=true:=by rw[V9.o];exact GR lY.o
    have lK:=mP.o.tm hbj.o;have kX:=aA lK;clear lK;go_wp2_with fail
    go_ret;exact⟨rfl,kX.o⟩
 ·have e3:decide ((0:Int)<(bn:Int))=false:=by simp;omega
  clear yV;go_wp2_with fail
  clear b1 b2 c1;go_loopw [46] (fun iv wr=>∃j:Nat,j≤sn∧iv= .int .i64 j∧Hid (∀k,k<j→WE (nN (kK zs) f) (oN,sat,kC,oM) d.2.1 k=true)∧Hid (Below w4.heap.size w4 wr)) (fun iv _=>sn - (intOf iv).toNat)
  case atStart=>exact⟨0,by omega,rfl,aA (fun k hk=>by omega),aA (bF _ _)⟩
  case round=>
   obtain⟨j,hj,rfl,lY,hbj⟩:=hrel;by_cases kY:j<sn
   ·skip
    have xR:IntKind.i64.wrap ((j:Int)+1)=j+1:=by rw[bJ];omega
    have nR:=r9.o.trans ((mP.o.tm hbj.o).mono r9.o.size);have hid:j<d.2.1.length:=by rw[NZ.o];exact kY
    have rC:j<ds.length:=by rw[GK.o];exact hid
    have aJJ:=yB.o.mono nR;obtain⟨xb,xo,rfl,xL,fe⟩:=aJJ.elem qV aH (0,(.slice none 0 0,.slice none 0 0,.slice none 0 0)) kY;rw[kF rC]at fe;obtain⟨hq1,rH⟩:=BO.o j rC hid;obtain⟨ua,un,uc,ra,rn,rc,xa,xn,xc,hv⟩:=rH.v;have g0:=fe 0 _ rfl;have g1:=fe 1 _ rfl;have g2:=fe 2 _ rfl;have g3:=fe 3 _ rfl;simp only[dB]at g0 g1 g2 g3;clear fe;rw[hv]at rH g1 g2 g3;rw[hq1]at g0;simp only at g0 g1 g2 g3;have hsB:WE (nN (kK zs) f) (oN,sat,kC,oM) d.2.1 j=(nQ (oN,sat,kC,oM) d.2.1[j].1&&(decide (j=0)||decide ((d.2.1.getD (j - 1) (0,kS f)).1<d.2.1[j].1))&&nN (kK zs) f d.2.1[j].2 (vG (oN,sat,kC,oM) d.2.1[j].1)):=by unfold WE;rw[kF hid]
    have PL:WE (nN (kK zs) f) (oN,sat,kC,oM) d.2.1 j=false→R=false:=fun hh=>V9.o.trans (ZX kY hh);have oQ:WE (nN (kK zs) f) (oN,sat,kC,oM) d.2.1 j=true→∀k,k<j+1→WE (nN (kK zs) f) (oN,sat,kC,oM) d.2.1 k=true:=fun hv k hk=>by
     by_cases hjk:k=j
     ·subst hjk;exact hv
     ·exact lY.o k aG
    have XD:=aBM.o d.2.1[j].1;have EJ:mY f d.2.1[j].2:=h4'.o _ (bP hid);have PX:tJ f d.2.1[j].2:=vR.o.2.1 _ (bP hid);obtain⟨y,hy⟩:=aC (d.2.1[j].1);obtain⟨dd,hdd⟩:=aC (d.2.1[j].2);rw[hy]at g0 hsB XD;rw[hdd]at rH hsB EJ PX;have hjn:(j:Int)<(sn:Int):=by omega
    have b5:=kG.new wr 28 #[.int .i64 y,.slice ua un uc,.slice ra rn rc,.slice xa xn xc];have nV:=aD wr (.cells #[.int .i64 y,.slice ua un uc,.slice ra rn rc,.slice xa xn xc] 28);have xU:=hbj.o.tm nV;have bC5:=a2B.o.late hbj.o;have k0:=bC5.cell (i:=0) rfl;have FZ:=mP.o.tm xU;have aJK:=r9.o.tm FZ;have hIX:=ZW 108 (.inr rfl) (.pointer (some ⟨wr.heap.size,0,none⟩)) la ln lc oN (fun z=>z.1==y) _ ((IU.o.mono aJK)) (fun W' x hb=>aET _ y x.1 x.2 W' (late hb b5.lt (b5.cell rfl)) (dD b5.lt hb.size));have bV8:=bC5.lt;obtain⟨aB9,bKM,bKN,L9,GA,hy',b3S,tF,rZ,nG,JN,XE⟩:=aT nR aJJ hq1 rH hv hy hdd hsB PL oQ EJ PX;obtain⟨b5',LF,BP,aUK,a4J,bKO,aUL,XF⟩:=aP b5 nV xU bC5 FZ aJK hIX XD;clear nR aJJ hq1 rH hv hy hdd hsB PL oQ EJ PX b5 nV xU bC5 FZ aJK hIX XD;go_wp2_with fail
    refine aUL.o.mono ?_;rintro e w5 ⟨rfl,vU⟩;have xU:=BP.o.tm vU;have zA:=mP.o.tm xU;have GU:=r9.o.tm zA;have b5:=b5'.o.late vU;have bA5:=a8K.o.late xU;have bB5:=aJG.o.late xU;have bC5:=a2B.o.late xU;clear k0 g0 g1 g2 g3 BP b5' aUK;obtain⟨g5,qA⟩:=aC wr.heap.size;rw[qA]at b5 ⊢;have hfb:=MQ (p:=fun(z:Lk)=>z.1==y) (l:=oN);have hfa:=EL (p:=fun(z:Lk)=>z.1==y) (l:=oN);have hsI:vG (oN,sat,kC,oM) y=(oN.getD (fst (fun z=>z.1==y) oN).toNat (0,0)).2:=rfl;have hlP:nQ (oN,sat,kC,oM) y=decide (0≤fst (fun(z:Lk)=>z.1==y) oN):=hfa.symm;rw[hlP]at tF XF;obtain⟨ix,hix⟩:=aC (fst (fun(z:Lk)=>z.1==y) oN);simp only[hix]at tF hsI XF hfb ⊢;have hnz:=fun(hz:j≠0)=>(yB.o.mono GU).elem qV aH (0,(.slice none 0 0,.slice none 0 0,.slice none 0 0)) (i:=j - 1) aG;have a4U:=IU.o.mono GU;have hlm:=a4U.max;have hll:=a4U.le;have aBO:=a4U.xZ sO aH;obtain⟨Ty,ff,pQ,kI,kE⟩:=kM w5;have HS:=aA (kE _ ((bF _ _).drew));have q0:=fun s=>(b5.late (kI s)).cell (i:=0) rfl;have q1:=fun s=>(b5.late (kI s)).cell (i:=1) rfl;have q2:=fun s=>(b5.late (kI s)).cell (i:=2) rfl;have q3:=fun s=>(b5.late (kI s)).cell (i:=3) rfl;have q4:=fun s=>(bA5.late (kI s)).cell (i:=0) rfl;have q5:=fun s=>(bB5.late (kI s)).cell (i:=1) rfl;have q6:=fun s=>(bC5.late (kI s)).cell (i:=0) rfl;obtain⟨c1G,aU8,aJL,bV9,kD,jV,aUM,a9K,b5',aUN,bVA,aUK⟩:=aT hix hfa hsI hlP kI kE a4U aBO b5 bA5 bB5 bC5;obtain⟨F7,pJ,MO,BP,bVB⟩:=aM GU zA vU xU qA;clear hix hfa hsI hlP kI kE a4U aBO b5 bA5 bB5 bC5 GU zA vU xU qA;by_cases hx0:ix<0
    ·have e5:decide (ix<0)=true:=by simp;omega
     have hv:WE (nN (kK zs) f) (oN,sat,kC,oM) d.2.1 j=false:=by rw[tF.o,decide_eq_false (show ¬0≤ix by omega)];rfl
     clear hnz;go_wp2_with fail
     refine kL ff aF aF HS.o ?_;iterate 31 (go_big_quiet_step ((go_at_call 48;refine(MS.o _).mono ?_;rintro e w3 ⟨rfl,kT⟩;exact⟨rfl,jV.o _ ((kD.o _).tm kT)⟩)))
     refine wpQuiet_nil ?_;intro s;have nE:=kD.o s;have lK:=pJ.o.tm nE;obtain rfl:=rZ.o hv;clear hv;obtain⟨kX,sS⟩:=aJ lK nE;clear lK nE;go_wp2_with fail
     go_ret;exact⟨rfl,kX.o⟩
    ·have e5:decide (ix<0)=false:=by simp;omega
     obtain⟨kx,rfl⟩:∃kx:Nat,ix=kx:=⟨ix.toNat,by omega⟩;obtain⟨b3,o3,hla,PV,fe⟩:=aUM.o.elem sO aH (0,0) (i:=kx) (by rw[a9K.o]at hfb;omega);subst hla;have l1:=fe 1 _ rfl;clear fe;rw[cB]at aJL;rw[←aJL.o]at l1;have hsb:=XF.o (by simp);rw[aN0.o]at hsb;obtain⟨si,hsi⟩:∃si:Nat,vG (oN,sat,kC,oM) y=si:=⟨(vG (oN,sat,kC,oM) y).toNat,by omega⟩;rw[hsi]at hsb l1 tF;have q7:∀s,(ff s).cell? ⟨b3,o3+kx*2+1,none⟩=some (.int .i64 si):=fun s=>late (kD.o s) PV l1;have xK:kx<ln:=by rw[a9K.o]at hfb;omega
     have bVC:(kx:Int)<(ln:Int):=by omega
     have bVD:(0:Int)≤(kx:Int):=by omega
     have hHS:=fun s=>ih'.o w0 (ff s) dd (.slice ua un uc,.slice ra rn rc,.slice xa xn xc) si Z5.o (F7.o.trans ((kD.o s).mono F7.o.size)) L9.o JN.o XE.o nJ.o aG;simp only at hHS;generalize nN (kK zs) f dd si=hb at*;have MS:=aA hHS;clear hHS;rw[decide_eq_true (show(0:Int)≤(kx:Int) by omega),dL]at tF;by_cases SY:j=0
     ·have p1:decide ((0:Int)<(j:Int))=false:=by simp;omega
      have p2:decide (0<j)=false:=by simp;omega
      rw[decide_eq_true SY,Bool.true_or,dL]at tF;clear SY hnz;cases hb
      case false=>
       have hv:WE (nN (kK zs) f) (oN,sat,kC,oM) d.2.1 j=false:=tF.o;go_wp2_with fail
       refine kL ff aF aF HS.o ?_;iterate 31 (go_big_quiet_step ((go_at_call 48;refine(MS.o _).mono ?_;rintro e w3 ⟨rfl,kT⟩;exact⟨rfl,jV.o _ ((kD.o _).tm kT)⟩)))
       refine wpQuiet_nil ?_;intro s;have nE:=kD.o s;have lK:=pJ.o.tm nE;obtain rfl:=rZ.o hv;clear hv;obtain⟨kX,sS⟩:=aJ lK nE;clear lK nE;go_wp2_with fail
       go_ret;exact⟨rfl,kX.o⟩
      case true=>
       have hv:WE (nN (kK zs) f) (oN,sat,kC,oM) d.2.1 j=true:=tF.o;go_wp2_with fail
       refine kL ff aF aF HS.o ?_;iterate 31 (go_big_quiet_step ((go_at_call 48;refine(MS.o _).mono ?_;rintro e w3 ⟨rfl,kT⟩;exact⟨rfl,jV.o _ ((kD.o _).tm kT)⟩)))
       refine wpQuiet_nil ?_;intro s;have nE:=kD.o s;have lK:=BP.o.tm nE;obtain⟨sS,kX,GA⟩:=aK nE lK hv;clear nE lK hv;go_wp2_with fail
       go_roundw
       case rel=>exact⟨j+1,by omega,by go_num,aA (nG.o GA.o),kX⟩
       case measure=>simp[intOf];omega
     ·obtain⟨b4,o4,he3,aUO,fe⟩:=hnz SY;obtain⟨rfl,rfl⟩:xb=b4∧xo=o4:=by simpa using he3
      clear he3 hnz;obtain⟨k',WG⟩:∃k',k'+1=j:=⟨j - 1,by omega⟩;have aJM:k'<d.2.1.length:=by rw[NZ.o];omega
      have aEU:k'<ds.length:=by rw[GK.o];exact aJM
      have p1:decide ((0:Int)<(j:Int))=true:=by simp;omega
      have p2:decide (0<j)=true:=by simp;omega
      have wk:IntKind.i64.wrap ((j:Int) - 1)=(k':Int):=by rw[bJ];omega
      have g0:=fe 0 _ rfl;rw[show j - 1=k' by omega,kF aEU,(BO.o k' aEU aJM).1,dB]at g0;have ZB:(d.2.1.getD (j - 1) (0,kS f)).1=d.2.1[k'].1:=by rw[show j - 1=k' by omega,kF aJM]
      rw[ZB,decide_eq_false SY,Bool.false_or]at tF;clear ZB fe;obtain⟨pv,hpv⟩:=aC (d.2.1[k'].1);rw[hpv]at g0 tF;have q9:∀s,(ff s).cell? ⟨xb,xo+k'*4,none⟩=some (.int .i64 pv):=fun s=>late (kD.o s) aUO g0;have aS4:(k':Int)<sn:=by omega
      have aPC:k'<sn:=by omega
      have aTK:(0:Int)≤(k':Int):=by omega
      clear g0 hpv SY WG;by_cases hpt:y≤pv
      ·have p3:decide (y≤pv)=true:=by simp;omega
       have hv:WE (nN (kK zs) f) (oN,sat,kC,oM) d.2.1 j=false:=by rw[tF.o,decide_eq_false (show ¬pv<y by omega)];rfl
       go_wp2_with fail
       refine kL ff aF aF HS.o ?_;iterate 31 (go_big_quiet_step ((go_at_call 48;refine(MS.o _).mono ?_;rintro e w3 ⟨rfl,kT⟩;exact⟨rfl,jV.o _ ((kD.o _).tm kT)⟩)))
       refine wpQuiet_nil ?_;intro s;have nE:=kD.o s;have lK:=pJ.o.tm nE;obtain rfl:=rZ.o hv;clear hv;obtain⟨kX,sS⟩:=aJ lK nE;clear lK nE;go_wp2_with fail
       go_ret;exact⟨rfl,kX.o⟩
      ·have p3:decide (y≤pv)=false:=by simp;omega
       rw[decide_eq_true (show pv<y by omega),dL]at tF;cases hb
       case false=>
        have hv:WE (nN (kK zs) f) (oN,sat,kC,oM) d.2.1 j=false:=tF.o;go_wp2_with fail
        refine kL ff aF aF HS.o ?_;iterate 31 (go_big_quiet_step ((go_at_call 48;refine(MS.o _).mono ?_;rintro e w3 ⟨rfl,kT⟩;exact⟨rfl,jV.o _ ((kD.o _).tm kT)⟩)))
        refine wpQuiet_nil ?_;intro s;have nE:=kD.o s;have lK:=pJ.o.tm nE;obtain rfl:=rZ.o hv;clear hv;obtain⟨kX,sS⟩:=aJ lK nE;clear lK nE;go_wp2_with fail
        go_ret;exact⟨rfl,kX.o⟩
       case true=>
        have hv:WE (nN (kK zs) f) (oN,sat,kC,oM) d.2.1 j=true:=tF.o;go_wp2_with fail
        refine kL ff aF aF HS.o ?_;iterate 31 (go_big_quiet_step ((go_at_call 48;refine(MS.o _).mono ?_;rintro e w3 ⟨rfl,kT⟩;exact⟨rfl,jV.o _ ((kD.o _).tm kT)⟩)))
        refine wpQuiet_nil ?_;intro s;have nE:=kD.o s;have lK:=BP.o.tm nE;obtain⟨sS,kX,GA⟩:=aK nE lK hv;clear nE lK hv;go_wp2_with fail
        go_roundw
        case rel=>exact⟨j+1,by omega,by go_num,aA (nG.o GA.o),kX⟩
        case measure=>simp[intOf];omega
   ·obtain rfl:j=sn:=by omega
    obtain rfl:R=true:=by rw[V9.o];exact GR lY.o
    have lK:=mP.o.tm hbj.o;have kX:=aA lK;clear lK;go_wp2_with fail
    go_ret;exact⟨rfl,kX.o⟩
theorem aN1 (zs:List Shz) (qa:Option Addr) (qn qc:Nat):∀f,bDA zs qa qn qc f:=by
 intro f;induction f with
 |zero=>intro w0 w d dv i _ _ hd;exact hd.elim
 |succ f ih=>exact aUJ zs qa qn qc f ih
def TM:oJ:=(0,0,0,0)
def rX (f:Nat) (ss:List (Int×jY f)) (no:Int) (j:Nat):Int:=no+1+(mD f (ss.take j)).length
def aQ3 (f:Nat) (l:List mZ) (ss:List (Int×jY f)) (no:Int) (j:Nat):oJ:=((ss.getD j (0,kS f)).1,4,1,qK l 2 (rX f ss no j) 0)
def KM (f:Nat) (l:List mZ) (ss:List (Int×jY f)) (no:Int) (n:Nat):List oJ:=(List.range n).map (aQ3 f l ss no)
def DF (l:List mZ) (s:nP) (b:List Int) (no:Int):List oJ:=if 0<b.length then [(s.2.1,4,1,qK l 4 no 0),(s.2.2.1,4,1,(b.length:Int))]else []
def o9 (f:Nat) (l:List mZ) (o no:Int) (s:nP) (d:jY (f+1)):List oJ:=d.1.map (PO l o no)++KM f l d.2.1 no d.2.1.length++DF l s d.2.2 no
def DI (l:List mZ) (b:List Int) (no:Int):List Pt:=if 0<b.length then [((qK l 4 no 0).toNat,b)]else []
def rowP (q:Nat) (o:Int) (es:List oJ) (n:Nat):List Pt:=(List.range n).map fun i=>(q+2+12*i,JO (es.getD i TM) o)
def U3 (l:List mZ) (o no:Int) (es:List oJ):List Pt:=((qK l 2 no 0).toNat,lQ (es.length:Nat) 2 o)::rowP (qK l 2 no 0).toNat o (sortE es) es.length
def MU {f:Nat} (rec:jY f→Int→Int→List Pt) (s:nP) (ss:List (Int×jY f)) (no:Int) (n:Nat):List Pt:=(List.range n).flatMap fun j=>rec (ss.getD j (0,kS f)).2 (rX f ss no j) (vG s (ss.getD j (0,kS f)).1)
def O1 (L:List nP) (l:List mZ) (o:Int):(f:Nat)→jY f→Int→Int→List Pt
 |0,_,_,_=> []
 |f+1,d,no,i=>d.1.flatMap (FT l o no)++MU (O1 L l o f) (L.getD i.toNat kQ) d.2.1 no d.2.1.length++DI l d.2.2 no++U3 l o no (o9 f l o no (L.getD i.toNat kQ) d)
theorem a9L (L:List nP) (l:List mZ) (o:Int) (f:Nat) (d:jY (f+1)) (no i:Int):O1 L l o (f+1) d no i=
  d.1.flatMap (FT l o no)++MU (O1 L l o f) (L.getD i.toNat kQ) d.2.1 no d.2.1.length++DI l d.2.2 no++U3 l o no (o9 f l o no (L.getD i.toNat kQ) d):=rfl
def okW (L:List nP) (l:List mZ) (n:Nat) (o:Int):(f:Nat)→jY f→Int→Int→Prop
 |0,_,_,_=>True
 |f+1,d,no,i=>(∀x∈d.1,okV l n o no x∧x.2.2.2.length≤1000000000)∧
   (∀j,j<d.2.1.length→nQ (L.getD i.toNat kQ) (d.2.1.getD j (0,kS f)).1=true∧okW L l n o f (d.2.1.getD j (0,kS f)).2 (rX f d.2.1 no j) (vG (L.getD i.toNat kQ) (d.2.1.getD j (0,kS f)).1))∧
   (0<d.2.2.length→Fits l n 4 no 0 d.2.2.length)∧Fits l n 2 no 0 (2+12*(o9 f l o no (L.getD i.toNat kQ) d).length)∧
   1≤(o9 f l o no (L.getD i.toNat kQ) d).length∧(o9 f l o no (L.getD i.toNat kQ) d).length≤65535∧(o=1∨o=2)∧
   ((o9 f l o no (L.getD i.toNat kQ) d).Pairwise fun x y=>x.1≠y.1)∧(∀x∈o9 f l o no (L.getD i.toNat kQ) d,JZ x o=true)
theorem XG {L:List nP} {l:List mZ} {n:Nat} {o:Int} {f:Nat} {d:jY (f+1)} {no i:Int} (h:okW L l n o (f+1) d no i):(∀x∈d.1,okV l n o no x∧x.2.2.2.length≤1000000000)∧
   (∀j,j<d.2.1.length→nQ (L.getD i.toNat kQ) (d.2.1.getD j (0,kS f)).1=true∧okW L l n o f (d.2.1.getD j (0,kS f)).2 (rX f d.2.1 no j) (vG (L.getD i.toNat kQ) (d.2.1.getD j (0,kS f)).1))∧
   (0<d.2.2.length→Fits l n 4 no 0 d.2.2.length)∧Fits l n 2 no 0 (2+12*(o9 f l o no (L.getD i.toNat kQ) d).length)∧
   1≤(o9 f l o no (L.getD i.toNat kQ) d).length∧(o9 f l o no (L.getD i.toNat kQ) d).length≤65535∧(o=1∨o=2)∧
   ((o9 f l o no (L.getD i.toNat kQ) d).Pairwise fun x y=>x.1≠y.1)∧(∀x∈o9 f l o no (L.getD i.toNat kQ) d,JZ x o=true):=h
theorem a9M (f:Nat) (l:List mZ) (ss:List (Int×jY f)) (no:Int) (n:Nat):KM f l ss no (n+1)=KM f l ss no n++ [aQ3 f l ss no n]:=by
 unfold KM;rw[fZ,eO];rfl
theorem aQ4 {f:Nat} (rec:jY f→Int→Int→List Pt) (s:nP) (ss:List (Int×jY f)) (no:Int) (n:Nat):MU rec s ss no (n+1)=MU rec s ss no n++rec (ss.getD n (0,kS f)).2 (rX f ss no n) (vG s (ss.getD n (0,kS f)).1):=by
 unfold MU;rw[fZ,dQ];simp
theorem rowP_step (q:Nat) (o:Int) (es:List oJ) (n:Nat):rowP q o es (n+1)=rowP q o es n++ [(q+2+12*n,JO (es.getD n TM) o)]:=by
 unfold rowP;rw[fZ,eO];rfl
theorem aQ5 (l:List mZ) (o no:Int) (ts:List oZ) {i:Nat} (h:i<ts.length):(ts.take (i+1)).flatMap (FT l o no)=(ts.take i).flatMap (FT l o no)++FT l o no ts[i]:=by
 rw[dR,bH h,fK,dQ];simp
theorem aQ6 (l:List mZ) (o no:Int) (ts:List oZ) {i:Nat} (h:i<ts.length):(ts.take (i+1)).map (PO l o no)=(ts.take i).map (PO l o no)++ [PO l o no ts[i]]:=by
 rw[dR,bH h,fK,eO];rfl
theorem RZ (f:Nat) (ss:List (Int×jY f)) (no:Int) {j:Nat} (h:j<ss.length):rX f ss no (j+1)=rX f ss no j+(lD f (ss.getD j (0,kS f)).2).length:=by
 unfold rX;rw[MP f ss h,kF h];omega
theorem K5 (f:Nat) (ss:List (Int×jY f)) (no:Int) (j:Nat):no+1≤rX f ss no j∧rX f ss no j≤no+1+(mD f ss).length:=by
 have:=xA f ss j;unfold rX;omega
theorem aEV (f:Nat) (ss:List (Int×jY f)) (no:Int):rX f ss no ss.length=no+1+(mD f ss).length:=by
 unfold rX;rw[bW (aY _)]
theorem aEW (f:Nat) (l:List mZ) (ss:List (Int×jY f)) (no:Int) (n:Nat):(KM f l ss no n).length=n:=by unfold KM;simp
theorem S9 (f:Nat) (l:List mZ) (o no:Int) (s:nP) (d:jY (f+1)):(o9 f l o no s d).length=pU d.1.length d.2.1.length d.2.2.length:=by
 unfold o9 DF pU;simp only[cO,dF,aEW];split <;> simp <;> omega
theorem RX.low {K:Wc} {w w':World} {no:Int} {P:List Int} {B:Nat} (h:RX K w no P) (hb:Below B w w') (h1:K.gw<B) (h2:K.gb<B) (h3:K.sb≤B):RX K w' no P:=
 ⟨(hb.block _ h1).trans h.blk,(hb.block _ h2).trans h.row,h.len,ZY h.sp hb.size (fun x e hx=>hb.block _ (by have:=h.aEL x e;omega)),h.aBF,h.ne,h.aEL,bU h.aEM hb.size⟩
theorem Mv.low {g gt B:Nat} {w w1 w2:World} (h:Mv g gt wI wI w w1) (hb:Below B w1 w2) (hB:w.heap.size≤B):Mv g gt wI wI w w2:=
 ⟨hb.os.trans h.os,hb.tape.trans h.tape,hb.output.trans h.output,bU h.size hb.size,fun k hk h2 h3 h4=>(hb.block k (dD hk hB)).trans (h.block k hk h2 h3 h4),fun _ e=>by cases e⟩
structure WIn (K:Wc) (w wr:World) (no:Int) (P:List Int) (A S gl:Nat) (dv sv:Array Value) (v:Value) (es:List oJ):Prop where
 ws:RX K wr no P
 bA:kG wr A 26 dv
 bS:kG wr S 35 sv
 bl:kG wr gl 154 #[v]
 ow:wr.ownsRow w.heap.size 55 4 v es.length (fl oF es)
 mv:Mv K.gw K.gb wI wI w wr
theorem aUP {K:Wc} {w wr:World} {no:Int} {P:List Int} {A S gl:Nat} {dv sv:Array Value} {v:Value} {es:List oJ} (h:WIn K w wr no P A S gl dv sv v es) (b:Nat) (hb:b<w.heap.size):v.ownBlock≠some b:=fun e=>by
 have:=(h.ow.lt b e).1;omega
theorem WIn.later {K:Wc} {w wr w2:World} {no:Int} {P:List Int} {A S gl:Nat} {dv sv:Array Value} {v:Value} {es:List oJ} (h:WIn K w wr no P A S gl dv sv v es) (hb:Below wr.heap.size wr w2):WIn K w w2 no P A S gl dv sv v es:=
 ⟨h.ws.later hb,h.bA.late hb,h.bS.late hb,h.bl.late hb,l6 h.ow hb,h.mv.later hb⟩
theorem WIn.turn {K:Wc} {w wr w2:World} {no no2:Int} {P P2:List Int} {A S gl:Nat} {dv sv:Array Value} {v:Value} {es:List oJ} (h:WIn K w wr no P A S gl dv sv v es) (OH:RX K w2 no2 P2) (hm:Mv K.gw K.gb wI wI wr w2)
  (h1:K.gw<w.heap.size) (h2:K.gb<w.heap.size) (h3:w.heap.size≤A) (h4:w.heap.size≤S) (h5:w.heap.size≤gl):WIn K w w2 no2 P2 A S gl dv sv v es:=
 ⟨OH,Mv.blk hm h.bA aG aG,Mv.blk hm h.bS aG aG,Mv.blk hm h.bl aG aG,Mv.own hm h.ow (aUP h _ h1) (aUP h _ h2),h.mv.trans hm⟩
theorem WIn.add {K:Wc} {w wr w2:World} {no:Int} {P:List Int} {A S gl:Nat} {dv sv:Array Value} {v v2:Value} {es es2:List oJ} (h:WIn K w wr no P A S gl dv sv v es)
  (hl:kG w2 gl 154 #[v2]) (ho:w2.ownsRow w.heap.size 55 4 v2 es2.length (fl oF es2)) (hm:Mv gl gl v v2 wr w2)
  (h1:K.gw<w.heap.size) (h2:K.gb<w.heap.size) (h3:K.sb≤w.heap.size) (h5:w.heap.size≤gl) (h6:A≠gl) (h7:S≠gl):WIn K w w2 no P A S gl dv sv v2 es2:=by
 have hb:=hm.below (B:=w.heap.size) h5 h5 (fun k e=>(h.ow.lt k e).1) h.mv.size;exact⟨h.ws.low hb h1 h2 h3,h.bA.mv hm h6 h6 (oV h.ow h.bA aH),h.bS.mv hm h7 h7 (oV h.ow h.bS aH),hl,ho,Mv.low h.mv hb (aY _)⟩
theorem WIn.sort {K:Wc} {w wr w2:World} {no:Int} {P:List Int} {A S gl:Nat} {dv sv:Array Value} {v:Value} {es es2:List oJ} (h:WIn K w wr no P A S gl dv sv v es)
  (ho:w2.ownsRow w.heap.size 55 4 v es2.length (fl oF es2)) (hg:wr.grownBy w2 v.ownBlock)
  (h1:K.gw<w.heap.size) (h2:K.gb<w.heap.size) (h3:K.sb≤w.heap.size) (h5:w.heap.size≤gl):WIn K w w2 no P A S gl dv sv v es2:=by
 have hm:=Mv.WY (g:=gl) (gt:=gl) hg (fun k e=> .inl e);have hb:=hm.below (B:=w.heap.size) h5 h5 (fun k e=>(h.ow.lt k e).1) h.mv.size;exact⟨h.ws.low hb h1 h2 h3,h.bA.grown hg (oV h.ow h.bA aH),h.bS.grown hg (oV h.ow h.bS aH),h.bl.grown hg (oV h.ow h.bl aH),ho,Mv.low h.mv hb (aY _)⟩
theorem aQ7 (cap:Value) (a:Option Addr) (n c:Nat) (ls:List Lk) (p:Lk→Bool) (w:World) (hs:Sl w a n c 2 (fl lkc ls))
  (hc:∀W (x:Lk),Below w.heap.size w W→Calls Tryz.prog 92 #[.agg #[.int .i64 x.1,.int .i64 x.2],cap] W fun e W'=>e= .returned (.bool (p x))∧Below W.heap.size W W'):
  Calls Tryz.prog 91 #[.slice a n c,.func (.func 92) #[] #[cap]] w fun e w'=>e= .returned (.int .i64 (fst p ls))∧Below w.heap.size w w':=by
 have hl:=hs.xZ sO aH;have hm:=hs.max;have FI:=hs.le;obtain⟨sK,KU,FX⟩:=aK hs hc hl;clear hs hc hl;go_enter Tryz.func91,Tryz.ntmps91;go_wp2;go_loopw [8] (fun iv wr=>∃k:Nat,k≤n∧iv= .int .i64 k∧Hid (∀i (hi:i<ls.length),i<k→p ls[i]=false)∧Hid (Below w.heap.size w wr)) (fun iv _=>n - (intOf iv).toNat)
 case atStart=>exact⟨0,by omega,rfl,aA (fun j _ hj=>by omega),aA (bF _ _)⟩
 case round=>
  obtain⟨k,hk,rfl,lY,hb⟩:=hrel;by_cases kY:k<n
  ·have hww:IntKind.i64.wrap ((k:Int)+1)=k+1:=by rw[bJ];omega
   have xK:k<ls.length:=by rw[FX.o];exact kY
   obtain⟨b,o,rfl,EI,f⟩:=(sK.o.mono hb.o).elem sO aH (0,0) kY;rw[kF xK]at f;have f0:=f 0 _ rfl;have f1:=f 1 _ rfl;clear f;rw[dB]at f0;obtain⟨r,hr⟩:=aC (p (ls[k]'xK));have HC:=KU.o wr (ls[k]'xK) hb.o;rw[hr]at HC;generalize (ls[k]'xK).1=x1 at*;generalize (ls[k]'xK).2=x2 at*;obtain⟨WO,sH⟩:=aJ HC hr;clear HC hr;go_wp2_with fail
   refine WO.o.mono ?_;rintro e w2 ⟨rfl,kP⟩;have lK:=hb.o.tm kP;clear kP;cases r with
   |true=>
    have kX:=aA lK;clear lK;go_wp2;go_ret;exact⟨by rw[P9 xK sH.o (fun i hi=>lY.o i aG hi)];rfl,kX.o⟩
   |false=>
    have oQ:∀i (hi:i<ls.length),i<k+1→p ls[i]=false:=fun i hi h=>by
     rcases eB i k with h1|h1
     ·exact lY.o i hi h1
     ·obtain rfl:i=k:=by omega
      exact sH.o
    obtain⟨kX,nG⟩:=aJ lK oQ;clear lK oQ;go_wp2;go_roundw
    case rel=>exact⟨k+1,by omega,by go_num,nG,kX⟩
    case measure=>simp[intOf];omega
  ·obtain rfl:k=n:=by omega
   go_wp2;go_ret;exact⟨by rw[UO (fun i hi=>lY.o i hi (by rw[FX.o]at hi;exact hi))];rfl,hb.o⟩
theorem oW (C:World→Prop) (w:World) (h:C w):∃(S:Type) (f:S→World),Nonempty S∧(∀s,C (f s))∧∀W,C W→∃s,W=f s:=
 ⟨{W:World // C W},Subtype.val,⟨⟨w,h⟩⟩,fun s=>s.2,fun W h=>⟨⟨W,h⟩,rfl⟩⟩
theorem Mv.cell {g gt:Nat} {w w':World} (h:Mv g gt wI wI w w') {p:Addr} {v:Value} (h0:p.block<w.heap.size) (h1:p.block≠g) (h2:p.block≠gt) (hc:w.cell? p=some v):w'.cell? p=some v:=by
 unfold World.cell? at hc ⊢;rw[h.block _ h0 h1 h2 (by intro e;cases e)];exact hc
theorem aJN {B:Nat} {w w':World} (h:Below B w w') {p:Addr} {v:Value} (h0:p.block<B) (hc:w.cell? p=some v):w'.cell? p=some v:=by
 unfold World.cell? at hc ⊢;rw[h.block _ h0];exact hc
