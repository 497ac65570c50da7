import Derived.Test.YtceclmpmpldmlaaGreatCz11
set_option linter.unusedSimpArgs false
set_option linter.unusedVariables false
namespace Go.Proofs.YtceclmpmpldmlaaGreat
open Go.RowKit Tt
def b5D (zs:List VQ) (qa:Option Addr) (qn qc:Nat) (f:Nat):Prop:=∀(w0 w:World) (d:jD f) (dv:Dz) (i:Nat),ShR w0 qa qn qc zs→Below w0.heap.size w0 w→zS w0 f d dv→lC f d→pU f d→l9 (jN zs)=true→i<qn→
 Calls Tryz.prog 48 #[.agg #[.slice qa qn qc],.agg #[dv.1,dv.2.1,dv.2.2],.int .i64 i] w fun e w'=>e= .returned (.bool (lQ (jN zs) f d i))∧Below w.heap.size w w'
theorem aWV (s:lV) (e b:Nat):aJY s e b=(decide (1≤e)&&decide (e≤65535)&&(decide (b=0)|| !decide (s.2.1=0))):=rfl
set_option maxRecDepth 20000 in
set_option maxHeartbeats 8000000 in
theorem aO9 (zs:List VQ) (qa:Option Addr) (qn qc:Nat) (f:Nat) (ih:b5D zs qa qn qc f):b5D zs qa qn qc (f+1):=by
 intro w0 w d dv i hsh hb0 hd hs hby hok hi;have hzl:=hsh.len;obtain⟨ta,tn,tc,ts,sa,sn,sc,ds,ba,bn,bc,rfl,WV,hdt,hsl,hdl,hsub,hbl⟩:=hd;obtain⟨h1,h2,h3,h4⟩:=hs;have htn:d.1.length=tn:=by rw[hdt,bX];exact WV.len
 have hsn:d.2.1.length=sn:=by rw[←hdl];exact hsl.uY oO (by decide)
 have hbn:d.2.2.length=bn:=hbl.nV;have hmx:=hsh.row.max;have hle:=hsh.row.le;have aWC:=DK (b:=d.2.2.length) h1 h3;have bBM:sn≤500:=by omega
 have hE:=fun W=>PK ta sa ba tn tc sn sc bn bc W (by omega) (by omega);have hgs:(jN zs).getD i jM=(zs.getD i wR).2:=tZ (by rw[hzl];exact hi);have hsB:=vY hok (i:=i) (by unfold jN;rw[bX,hzl];exact hi);have YH:=fun t=>PO (L:=jN zs) (i:=i) (t:=t) hok (by unfold jN;rw[bX,hzl];exact hi);have hsl2:(jN zs).length=qn:=by unfold jN;rw[bX];exact hzl
 have hR0:=a2H (jN zs) f d i;rw[bU,htn,hsn,hbn]at hR0;rw[hbn,htn,hsn]at aWC;have PY:=hsh.at hi;obtain⟨b,o,hqa,hblt,fe⟩:=hsh.row.elem vN (by decide) wR hi;obtain⟨⟨⟨la,ln,lc⟩,⟨nH,sat,jE,nD⟩⟩,hz⟩:∃z,zs.getD i wR=z:=⟨_,rfl⟩;rw[hz]at fe hgs PY;simp only at hgs PY;rw[hgs]at hR0 hsB YH;have f0:=late hb0 hblt (fe 0 _ rfl);have f1:=late hb0 hblt (fe 1 _ rfl);have f2:=late hb0 hblt (fe 2 _ rfl);have f3:=late hb0 hblt (fe 3 _ rfl);simp only[cK]at f0 f1 f2 f3;clear fe;subst hqa;have hown:=fun t=>aJZ hsB t;simp only at hown;have hin:(i:Int)<(qn:Int):=by omega
 obtain⟨R,hR⟩:=aC (lQ (jN zs) (f+1) d i);rw[hR]at hR0 ⊢;have a2N:b<w.heap.size:=cO hblt hb0.size;obtain⟨WC,hWC,bA,bB,bC,hbC,sC⟩:=yR w 104 #[.slice (some ⟨b,o,none⟩) qn qc] 26 #[.slice ta tn tc,.slice sa sn sc,.slice ba bn bc] 35 #[.slice la ln lc,.int .i64 sat,.int .i64 jE,.int .i64 nD];have d1:(0:Int)≤(i:Int):=by omega
 obtain⟨hsh',oU,a4R,hdt',uE,AQ,wV,qY,h4',ih',rZ⟩:=aO hsh hb0 WV hdt hsl hdl hsub hbl h4 ih hby;obtain⟨hok',mV,aNF,IJ,a4S,hE',hgs',hsB',a5B,aHG,a5C,BR⟩:=aP hok hzl htn hsn hbn hE hgs hsB YH hsl2 hR0 PY;obtain⟨hz',hown',hR',bA',bB',bC',a4Z,sC',aO1⟩:=aM hz hown hR bA bB bC hbC sC hWC;clear hsh hb0 WV hdt hsl hdl hsub hbl h4 ih hby hok hzl htn hsn hbn hE hgs hsB YH hsl2 hR0 PY hz hown hR bA bB bC hbC sC hWC;go_enter Tryz.func48,Tryz.ntmps48;go_wp2_with fail
 rw[aO1.o];refine(hE'.o _).mono ?_;rintro e w3 ⟨rfl,hb3⟩;clear aO1 f0 f1 f2 f3 hblt a2N;generalize mQ tn sn bn=m at*;have bA3:=bA'.o.late hb3;have bB3:=bB'.o.late hb3;have bC3:=bC'.o.late hb3;have xL:=a4Z.o.tm hb3;have EF:=oU.o.tm xL;have a0:w3.cell? ⟨w.heap.size,0,none⟩=some (.slice (some ⟨b,o,none⟩) qn qc):=bA3.cell rfl;have b0:w3.cell? ⟨w.heap.size+1,0,none⟩=some (.slice ta tn tc):=bB3.cell rfl;have b1:w3.cell? ⟨w.heap.size+1,1,none⟩=some (.slice sa sn sc):=bB3.cell rfl;have b2:w3.cell? ⟨w.heap.size+1,2,none⟩=some (.slice ba bn bc):=bB3.cell rfl;have c0:w3.cell? ⟨w.heap.size+2,0,none⟩=some (.slice la ln lc):=bC3.cell rfl;have c1:w3.cell? ⟨w.heap.size+2,1,none⟩=some (.int .i64 sat):=bC3.cell rfl;have c2:w3.cell? ⟨w.heap.size+2,2,none⟩=some (.int .i64 jE):=bC3.cell rfl;have c3:w3.cell? ⟨w.heap.size+2,3,none⟩=some (.int .i64 nD):=bC3.cell rfl;have e65:decide ((65535:Int)<(m:Int))=false:=by simp;omega
 have hHm:aJY (nH,sat,jE,nD) m bn=(decide (1≤m)&&(decide (bn=0)|| !decide (sat=0))):=by rw[aWV,decide_eq_true (show m≤65535 by omega),Bool.and_true]
 rw[hHm]at a5C;clear hHm;obtain⟨aKB,bLB,bLC,sP,vZ,sO⟩:=aJ bA3 bB3 bC3 xL EF hb3;clear bA3 bB3 bC3 xL EF hb3;by_cases hm1:m<1
 ·have e1:decide ((m:Int)<1)=true:=by simp;omega
  obtain rfl:R=false:=by rw[a5C.o,decide_eq_false (show ¬1≤m by omega)];rfl
  go_wp2_with fail
  go_ret;exact⟨rfl,sP.o⟩
 have e1:decide ((m:Int)<1)=false:=by simp;omega
 rw[decide_eq_true (show 1≤m by omega),dH]at a5C;have hT:=aK6 (some ⟨b,o,none⟩) qn qc ta tn tc sa sn sc ba bn bc ts la ln lc nH sat jE nD w3 (a4R.o.mono vZ.o) (fun z hz=>by
  have:=rZ.o.1 (mE z) (by rw[hdt'.o];exact gL hz);exact this) (BR.o.mono vZ.o) hown'.o
 rw[←hdt'.o]at hT;obtain⟨tr,htr⟩:=aC (ownB (nH,sat,jE,nD) d.1);rw[htr]at hT a5C;obtain⟨hT',bTW⟩:=aF hT htr;clear hT htr;go_wp2_with fail
 refine hT'.o.mono ?_;rintro e w4 ⟨rfl,hb4⟩;have bA4:=aKB.o.late hb4;have bB4:=bLB.o.late hb4;have bC4:=bLC.o.late hb4;have tY:=sP.o.tm hb4;clear a0 b0 b1 b2 c0 c1 c2 c3;have b1:w4.cell? ⟨w.heap.size+1,1,none⟩=some (.slice sa sn sc):=bB4.cell rfl;have b2:w4.cell? ⟨w.heap.size+1,2,none⟩=some (.slice ba bn bc):=bB4.cell rfl;have c1:w4.cell? ⟨w.heap.size+2,1,none⟩=some (.int .i64 sat):=bC4.cell rfl;cases tr with
 |false=>
  obtain rfl:R=false:=by rw[a5C.o];simp
  obtain⟨a1L,aDY,W9,lG,tC⟩:=aI bA4 bB4 bC4 tY hb4;clear bA4 bB4 bC4 tY hb4;go_wp2_with fail
  go_ret;exact⟨rfl,lG.o⟩
 |true=>
 rw[Bool.and_true]at a5C;by_cases hbz:0<bn∧sat=0
 ·have e3:decide ((0:Int)<(bn:Int))=true:=by simp;omega
  have e4:(sat==0)=true:=by simp[hbz.2]
  obtain rfl:R=false:=by rw[a5C.o,decide_eq_false (show ¬bn=0 by omega),decide_eq_true hbz.2];rfl
  have hbp:=hbz.1;clear hbz;obtain⟨a1L,aDY,W9,lG,tC⟩:=aI bA4 bB4 bC4 tY hb4;clear bA4 bB4 bC4 tY hb4;go_wp2_with fail
  go_ret;exact⟨rfl,lG.o⟩
 have hR1:R=(List.range d.2.1.length).all (OX (lQ (jN zs) f) (nH,sat,jE,nD) d.2.1):=by
  rw[a5C.o,IJ.o];have:(decide (bn=0)|| !decide (sat=0))=true:=by
   by_cases h:bn=0
   ·rw[decide_eq_true h];rfl
   ·rw[decide_eq_false (show ¬sat=0 by omega)];simp
  rw[this,dH]
 rw[IJ.o]at hR1;clear a5C;obtain⟨a1L,aDY,W9,lG,tC,O0⟩:=aJ bA4 bB4 bC4 tY hb4 hR1;clear bA4 bB4 bC4 tY hb4 hR1;by_cases hbp:0<bn
 ·have e3:decide ((0:Int)<(bn:Int))=true:=by simp;omega
  have e4:(sat==0)=false:=by simp;omega
  clear hbz;go_wp2_with fail
  clear b1 b2 c1;go_loopw [46] (fun iv wr=>∃j:Nat,j≤sn∧iv= .int .i64 j∧Hid (∀k,k<j→OX (lQ (jN zs) f) (nH,sat,jE,nD) d.2.1 k=true)∧Hid (Below w4.heap.size w4 wr)) (fun iv _=>sn - (intOf iv).toNat)
  case atStart=>exact⟨0,by omega,rfl,aA (fun k hk=>by omega),aA (aW _ _)⟩
  case round=>
   obtain⟨j,hj,rfl,hall,hbj⟩:=hrel;by_cases hlt:j<sn
   ·skip
    have hw1:IntKind.i64.wrap ((j:Int)+1)=j+1:=by rw[aY];omega
    have hbr:=oU.o.trans ((lG.o.tm hbj.o).mono oU.o.size);have hid:j<d.2.1.length:=by rw[IJ.o];exact hlt
    have p9:j<ds.length:=by rw[AQ.o];exact hid
    have aE3:=uE.o.mono hbr;obtain⟨xb,xo,rfl,hblt,fe⟩:=aE3.elem oO (by decide) (0,(.slice none 0 0,.slice none 0 0,.slice none 0 0)) hlt;rw[jI p9]at fe;obtain⟨hq1,hq2⟩:=wV.o j p9 hid;obtain⟨ua,un,uc,ra,rn,rc,xa,xn,xc,hv⟩:=hq2.v;have g0:=fe 0 _ rfl;have g1:=fe 1 _ rfl;have g2:=fe 2 _ rfl;have g3:=fe 3 _ rfl;simp only[cK]at g0 g1 g2 g3;clear fe;rw[hv]at hq2 g1 g2 g3;rw[hq1]at g0;simp only at g0 g1 g2 g3;have hsB:OX (lQ (jN zs) f) (nH,sat,jE,nD) d.2.1 j=(kT (nH,sat,jE,nD) d.2.1[j].1&&(decide (j=0)||decide ((d.2.1.getD (j - 1) (0,jS f)).1<d.2.1[j].1))&&lQ (jN zs) f d.2.1[j].2 (qH (nH,sat,jE,nD) d.2.1[j].1)):=by unfold OX;rw[jI hid]
    have JF:OX (lQ (jN zs) f) (nH,sat,jE,nD) d.2.1 j=false→R=false:=fun hh=>O0.o.trans (TD hlt hh);have nK:OX (lQ (jN zs) f) (nH,sat,jE,nD) d.2.1 j=true→∀k,k<j+1→OX (lQ (jN zs) f) (nH,sat,jE,nD) d.2.1 k=true:=fun hv k hk=>by
     by_cases hjk:k=j
     ·subst hjk;exact hv
     ·exact hall.o k (by omega)
    have PZ:=a5B.o d.2.1[j].1;have hsm:lC f d.2.1[j].2:=h4'.o _ (bL hid);have JL:pU f d.2.1[j].2:=rZ.o.2.1 _ (bL hid);obtain⟨y,hy⟩:=aC (d.2.1[j].1);obtain⟨dd,hdd⟩:=aC (d.2.1[j].2);rw[hy]at g0 hsB PZ;rw[hdd]at hq2 hsB hsm JL;have hjn:(j:Int)<(sn:Int):=by omega
    have b5:=jJ.new wr 28 #[.int .i64 y,.slice ua un uc,.slice ra rn rc,.slice xa xn xc];have hb5:=aD wr (.cells #[.int .i64 y,.slice ua un uc,.slice ra rn rc,.slice xa xn xc] 28);have tT:=hbj.o.tm hb5;have bC5:=W9.o.late hbj.o;have k0:wr.cell? ⟨w.heap.size+2,0,none⟩=some (.slice la ln lc):=bC5.cell rfl;have hbw0:=lG.o.tm tT;have aE4:=oU.o.tm hbw0;have hIX:=TB 108 (.inr rfl) (.pointer (some ⟨wr.heap.size,0,none⟩)) la ln lc nH (fun z=>z.1==y) _ ((BR.o.mono aE4)) (fun W' x hb=>a9D _ y x.1 x.2 W' (late hb b5.lt (b5.cell rfl)) (cO b5.lt hb.size));have bLD:=bC5.lt;obtain⟨a4P,bC6,bC7,EQ,hv',hy',aWW,hsB',pR,lW,NS,Q0⟩:=aP hbr aE3 hq1 hq2 hv hy hdd hsB JF nK hsm JL;obtain⟨b5',EW,wX,aOA,Y7,bC8,aOB,Q5⟩:=aL b5 hb5 tT bC5 hbw0 aE4 hIX PZ;clear hbr aE3 hq1 hq2 hv hy hdd hsB JF nK hsm JL b5 hb5 tT bC5 hbw0 aE4 hIX PZ;go_wp2_with fail
    refine aOB.o.mono ?_;rintro e w5 ⟨rfl,hb6⟩;have tT:=wX.o.tm hb6;have vD:=lG.o.tm tT;have AR:=oU.o.tm vD;have b5:=b5'.o.late hb6;have bA5:=a1L.o.late tT;have bB5:=aDY.o.late tT;have bC5:=W9.o.late tT;clear k0 g0 g1 g2 g3 wX b5' aOA;obtain⟨g5,hg5⟩:=aC wr.heap.size;rw[hg5]at b5 ⊢;have hfb:=G9 (p:=fun(z:Lk)=>z.1==y) (l:=nH);have hfa:=yI (p:=fun(z:Lk)=>z.1==y) (l:=nH);have hsI:qH (nH,sat,jE,nD) y=(nH.getD (fst (fun z=>z.1==y) nH).toNat (0,0)).2:=rfl;have hlP:kT (nH,sat,jE,nD) y=decide (0≤fst (fun(z:Lk)=>z.1==y) nH):=hfa.symm;rw[hlP]at hsB' Q5;obtain⟨ix,hix⟩:=aC (fst (fun(z:Lk)=>z.1==y) nH);simp only[hix]at hsB' hsI Q5 hfb ⊢;have hnz:=fun(hz:j≠0)=>(uE.o.mono AR).elem oO (by decide) (0,(.slice none 0 0,.slice none 0 0,.slice none 0 0)) (i:=j - 1) (by omega);have YI:=BR.o.mono AR;have hlm:=YI.max;have hll:=YI.le;have a5D:=YI.uY qD (by decide);obtain⟨Ty,ff,hne,hbel,jH⟩:=jR w5;have HS:=aA (jH _ ((aW _ _).drew));have q0:∀s,(ff s).cell? ⟨g5,0,none⟩=some (.int .i64 y):=fun s=>(b5.late (hbel s)).cell rfl;have q1:∀s,(ff s).cell? ⟨g5,1,none⟩=some (.slice ua un uc):=fun s=>(b5.late (hbel s)).cell rfl;have q2:∀s,(ff s).cell? ⟨g5,2,none⟩=some (.slice ra rn rc):=fun s=>(b5.late (hbel s)).cell rfl;have q3:∀s,(ff s).cell? ⟨g5,3,none⟩=some (.slice xa xn xc):=fun s=>(b5.late (hbel s)).cell rfl;have q4:∀s,(ff s).cell? ⟨w.heap.size,0,none⟩=some (.slice (some ⟨b,o,none⟩) qn qc):=fun s=>(bA5.late (hbel s)).cell rfl;have q5:∀s,(ff s).cell? ⟨w.heap.size+1,1,none⟩=some (.slice (some ⟨xb,xo,none⟩) sn sc):=fun s=>(bB5.late (hbel s)).cell rfl;have q6:∀s,(ff s).cell? ⟨w.heap.size+2,0,none⟩=some (.slice la ln lc):=fun s=>(bC5.late (hbel s)).cell rfl;obtain⟨hix',aNY,aE5,bLE,jG,jA,aOC,a2O,b5',aOD,bLF,aOA⟩:=aP hix hfa hsI hlP hbel jH YI a5D b5 bA5 bB5 bC5;obtain⟨BS,nQ,G7,wX,bLG⟩:=aI AR vD hb6 tT hg5;clear hix hfa hsI hlP hbel jH YI a5D b5 bA5 bB5 bC5 AR vD hb6 tT hg5;by_cases hx0:ix<0
    ·have e5:decide (ix<0)=true:=by simp;omega
     have hv:OX (lQ (jN zs) f) (nH,sat,jE,nD) d.2.1 j=false:=by rw[hsB'.o,decide_eq_false (show ¬0≤ix by omega)];rfl
     clear hnz;go_wp2_with fail
     refine jO ff (by kernel_rfl) (by kernel_rfl) HS.o ?_;iterate 31 (go_big_quiet_step ((go_at_call 48;refine(GH.o _).mono ?_;rintro e w3 ⟨rfl,hb3⟩;exact⟨rfl,jA.o _ ((jG.o _).trans (hb3.mono (jG.o _).size))⟩)))
     refine wpQuiet_nil ?_;intro s;have hbs:=jG.o s;have hbw:=nQ.o.tm hbs;obtain rfl:=pR.o hv;clear hv;obtain⟨jW,qG⟩:=aF hbw hbs;clear hbw hbs;go_wp2_with fail
     go_ret;exact⟨rfl,jW.o⟩
    ·have e5:decide (ix<0)=false:=by simp;omega
     obtain⟨kx,rfl⟩:∃kx:Nat,ix=kx:=⟨ix.toNat,by omega⟩;obtain⟨b3,o3,hla,JK,fe⟩:=aOC.o.elem qD (by decide) (0,0) (i:=kx) (by rw[a2O.o]at hfb;omega);subst hla;have l1:=fe 1 _ rfl;clear fe;rw[bU]at aE5;rw[←aE5.o]at l1;have hsb:=Q5.o (by simp);rw[aHG.o]at hsb;obtain⟨si,hsi⟩:∃si:Nat,qH (nH,sat,jE,nD) y=si:=⟨(qH (nH,sat,jE,nD) y).toNat,by omega⟩;rw[hsi]at hsb l1 hsB';have q7:∀s,(ff s).cell? ⟨b3,o3+kx*2+1,none⟩=some (.int .i64 si):=fun s=>late (jG.o s) JK l1;have hkl:kx<ln:=by rw[a2O.o]at hfb;omega
     have bLH:(kx:Int)<(ln:Int):=by omega
     have bLI:(0:Int)≤(kx:Int):=by omega
     have hHS:=fun s=>ih'.o w0 (ff s) dd (.slice ua un uc,.slice ra rn rc,.slice xa xn xc) si hsh'.o (BS.o.trans ((jG.o s).mono BS.o.size)) EQ.o NS.o Q0.o hok'.o (by omega);simp only at hHS;generalize lQ (jN zs) f dd si=hb at*;have GH:=aA hHS;clear hHS;rw[decide_eq_true (show(0:Int)≤(kx:Int) by omega),dH]at hsB';by_cases hk0:j=0
     ·have p1:decide ((0:Int)<(j:Int))=false:=by simp;omega
      have p2:decide (0<j)=false:=by simp;omega
      rw[decide_eq_true hk0,Bool.true_or,dH]at hsB';clear hk0 hnz;cases hb
      case false=>
       have hv:OX (lQ (jN zs) f) (nH,sat,jE,nD) d.2.1 j=false:=hsB'.o;go_wp2_with fail
       refine jO ff (by kernel_rfl) (by kernel_rfl) HS.o ?_;iterate 31 (go_big_quiet_step ((go_at_call 48;refine(GH.o _).mono ?_;rintro e w3 ⟨rfl,hb3⟩;exact⟨rfl,jA.o _ ((jG.o _).trans (hb3.mono (jG.o _).size))⟩)))
       refine wpQuiet_nil ?_;intro s;have hbs:=jG.o s;have hbw:=nQ.o.tm hbs;obtain rfl:=pR.o hv;clear hv;obtain⟨jW,qG⟩:=aF hbw hbs;clear hbw hbs;go_wp2_with fail
       go_ret;exact⟨rfl,jW.o⟩
      case true=>
       have hv:OX (lQ (jN zs) f) (nH,sat,jE,nD) d.2.1 j=true:=hsB'.o;go_wp2_with fail
       refine jO ff (by kernel_rfl) (by kernel_rfl) HS.o ?_;iterate 31 (go_big_quiet_step ((go_at_call 48;refine(GH.o _).mono ?_;rintro e w3 ⟨rfl,hb3⟩;exact⟨rfl,jA.o _ ((jG.o _).trans (hb3.mono (jG.o _).size))⟩)))
       refine wpQuiet_nil ?_;intro s;have hbs:=jG.o s;have hbw:=wX.o.tm hbs;obtain⟨qG,jW,hv'⟩:=aG hbs hbw hv;clear hbs hbw hv;go_wp2_with fail
       go_roundw
       case rel=>exact⟨j+1,by omega,by go_num,aA (lW.o hv'.o),jW⟩
       case measure=>simp[intOf];omega
     ·obtain⟨b4,o4,he3,aOE,fe⟩:=hnz hk0;obtain⟨rfl,rfl⟩:xb=b4∧xo=o4:=by simpa using he3
      clear he3 hnz;obtain⟨k',hk'⟩:∃k',k'+1=j:=⟨j - 1,by omega⟩;have aE6:k'<d.2.1.length:=by rw[IJ.o];omega
      have a9E:k'<ds.length:=by rw[AQ.o];exact aE6
      have p1:decide ((0:Int)<(j:Int))=true:=by simp;omega
      have p2:decide (0<j)=true:=by simp;omega
      have wk:IntKind.i64.wrap ((j:Int) - 1)=(k':Int):=by rw[aY];omega
      have g0:=fe 0 _ rfl;rw[show j - 1=k' by omega,jI a9E,(wV.o k' a9E aE6).1,cK]at g0;have hpe:(d.2.1.getD (j - 1) (0,jS f)).1=d.2.1[k'].1:=by rw[show j - 1=k' by omega,jI aE6]
      rw[hpe,decide_eq_false hk0,Bool.false_or]at hsB';clear hpe fe;obtain⟨pv,hpv⟩:=aC (d.2.1[k'].1);rw[hpv]at g0 hsB';have q9:∀s,(ff s).cell? ⟨xb,xo+k'*4,none⟩=some (.int .i64 pv):=fun s=>late (jG.o s) aOE g0;have hkn2:(k':Int)<sn:=by omega
      have aJL:k'<sn:=by omega
      have aNB:(0:Int)≤(k':Int):=by omega
      clear g0 hpv hk0 hk';by_cases hpt:y≤pv
      ·have p3:decide (y≤pv)=true:=by simp;omega
       have hv:OX (lQ (jN zs) f) (nH,sat,jE,nD) d.2.1 j=false:=by rw[hsB'.o,decide_eq_false (show ¬pv<y by omega)];rfl
       go_wp2_with fail
       refine jO ff (by kernel_rfl) (by kernel_rfl) HS.o ?_;iterate 31 (go_big_quiet_step ((go_at_call 48;refine(GH.o _).mono ?_;rintro e w3 ⟨rfl,hb3⟩;exact⟨rfl,jA.o _ ((jG.o _).trans (hb3.mono (jG.o _).size))⟩)))
       refine wpQuiet_nil ?_;intro s;have hbs:=jG.o s;have hbw:=nQ.o.tm hbs;obtain rfl:=pR.o hv;clear hv;obtain⟨jW,qG⟩:=aF hbw hbs;clear hbw hbs;go_wp2_with fail
       go_ret;exact⟨rfl,jW.o⟩
      ·have p3:decide (y≤pv)=false:=by simp;omega
       rw[decide_eq_true (show pv<y by omega),dH]at hsB';cases hb
       case false=>
        have hv:OX (lQ (jN zs) f) (nH,sat,jE,nD) d.2.1 j=false:=hsB'.o;go_wp2_with fail
        refine jO ff (by kernel_rfl) (by kernel_rfl) HS.o ?_;iterate 31 (go_big_quiet_step ((go_at_call 48;refine(GH.o _).mono ?_;rintro e w3 ⟨rfl,hb3⟩;exact⟨rfl,jA.o _ ((jG.o _).trans (hb3.mono (jG.o _).size))⟩)))
        refine wpQuiet_nil ?_;intro s;have hbs:=jG.o s;have hbw:=nQ.o.tm hbs;obtain rfl:=pR.o hv;clear hv;obtain⟨jW,qG⟩:=aF hbw hbs;clear hbw hbs;go_wp2_with fail
        go_ret;exact⟨rfl,jW.o⟩
       case true=>
        have hv:OX (lQ (jN zs) f) (nH,sat,jE,nD) d.2.1 j=true:=hsB'.o;go_wp2_with fail
        refine jO ff (by kernel_rfl) (by kernel_rfl) HS.o ?_;iterate 31 (go_big_quiet_step ((go_at_call 48;refine(GH.o _).mono ?_;rintro e w3 ⟨rfl,hb3⟩;exact⟨rfl,jA.o _ ((jG.o _).trans (hb3.mono (jG.o _).size))⟩)))
        refine wpQuiet_nil ?_;intro s;have hbs:=jG.o s;have hbw:=wX.o.tm hbs;obtain⟨qG,jW,hv'⟩:=aG hbs hbw hv;clear hbs hbw hv;go_wp2_with fail
        go_roundw
        case rel=>exact⟨j+1,by omega,by go_num,aA (lW.o hv'.o),jW⟩
        case measure=>simp[intOf];omega
   ·obtain rfl:j=sn:=by omega
    obtain rfl:R=true:=by rw[O0.o];exact wW hall.o
    have hbw:=lG.o.tm hbj.o;have jW:=aA hbw;clear hbw;go_wp2_with fail
    go_ret;exact⟨rfl,jW.o⟩
 ·have e3:decide ((0:Int)<(bn:Int))=false:=by simp;omega
  clear hbz;go_wp2_with fail
  clear b1 b2 c1;go_loopw [46] (fun iv wr=>∃j:Nat,j≤sn∧iv= .int .i64 j∧Hid (∀k,k<j→OX (lQ (jN zs) f) (nH,sat,jE,nD) d.2.1 k=true)∧Hid (Below w4.heap.size w4 wr)) (fun iv _=>sn - (intOf iv).toNat)
  case atStart=>exact⟨0,by omega,rfl,aA (fun k hk=>by omega),aA (aW _ _)⟩
  case round=>
   obtain⟨j,hj,rfl,hall,hbj⟩:=hrel;by_cases hlt:j<sn
   ·skip
    have hw1:IntKind.i64.wrap ((j:Int)+1)=j+1:=by rw[aY];omega
    have hbr:=oU.o.trans ((lG.o.tm hbj.o).mono oU.o.size);have hid:j<d.2.1.length:=by rw[IJ.o];exact hlt
    have p9:j<ds.length:=by rw[AQ.o];exact hid
    have aE3:=uE.o.mono hbr;obtain⟨xb,xo,rfl,hblt,fe⟩:=aE3.elem oO (by decide) (0,(.slice none 0 0,.slice none 0 0,.slice none 0 0)) hlt;rw[jI p9]at fe;obtain⟨hq1,hq2⟩:=wV.o j p9 hid;obtain⟨ua,un,uc,ra,rn,rc,xa,xn,xc,hv⟩:=hq2.v;have g0:=fe 0 _ rfl;have g1:=fe 1 _ rfl;have g2:=fe 2 _ rfl;have g3:=fe 3 _ rfl;simp only[cK]at g0 g1 g2 g3;clear fe;rw[hv]at hq2 g1 g2 g3;rw[hq1]at g0;simp only at g0 g1 g2 g3;have hsB:OX (lQ (jN zs) f) (nH,sat,jE,nD) d.2.1 j=(kT (nH,sat,jE,nD) d.2.1[j].1&&(decide (j=0)||decide ((d.2.1.getD (j - 1) (0,jS f)).1<d.2.1[j].1))&&lQ (jN zs) f d.2.1[j].2 (qH (nH,sat,jE,nD) d.2.1[j].1)):=by unfold OX;rw[jI hid]
    have JF:OX (lQ (jN zs) f) (nH,sat,jE,nD) d.2.1 j=false→R=false:=fun hh=>O0.o.trans (TD hlt hh);have nK:OX (lQ (jN zs) f) (nH,sat,jE,nD) d.2.1 j=true→∀k,k<j+1→OX (lQ (jN zs) f) (nH,sat,jE,nD) d.2.1 k=true:=fun hv k hk=>by
     by_cases hjk:k=j
     ·subst hjk;exact hv
     ·exact hall.o k (by omega)
    have PZ:=a5B.o d.2.1[j].1;have hsm:lC f d.2.1[j].2:=h4'.o _ (bL hid);have JL:pU f d.2.1[j].2:=rZ.o.2.1 _ (bL hid);obtain⟨y,hy⟩:=aC (d.2.1[j].1);obtain⟨dd,hdd⟩:=aC (d.2.1[j].2);rw[hy]at g0 hsB PZ;rw[hdd]at hq2 hsB hsm JL;have hjn:(j:Int)<(sn:Int):=by omega
    have b5:=jJ.new wr 28 #[.int .i64 y,.slice ua un uc,.slice ra rn rc,.slice xa xn xc];have hb5:=aD wr (.cells #[.int .i64 y,.slice ua un uc,.slice ra rn rc,.slice xa xn xc] 28);have tT:=hbj.o.tm hb5;have bC5:=W9.o.late hbj.o;have k0:wr.cell? ⟨w.heap.size+2,0,none⟩=some (.slice la ln lc):=bC5.cell rfl;have hbw0:=lG.o.tm tT;have aE4:=oU.o.tm hbw0;have hIX:=TB 108 (.inr rfl) (.pointer (some ⟨wr.heap.size,0,none⟩)) la ln lc nH (fun z=>z.1==y) _ ((BR.o.mono aE4)) (fun W' x hb=>a9D _ y x.1 x.2 W' (late hb b5.lt (b5.cell rfl)) (cO b5.lt hb.size));have bLD:=bC5.lt;obtain⟨a4P,bC6,bC7,EQ,hv',hy',aWW,hsB',pR,lW,NS,Q0⟩:=aP hbr aE3 hq1 hq2 hv hy hdd hsB JF nK hsm JL;obtain⟨b5',EW,wX,aOA,Y7,bC8,aOB,Q5⟩:=aL b5 hb5 tT bC5 hbw0 aE4 hIX PZ;clear hbr aE3 hq1 hq2 hv hy hdd hsB JF nK hsm JL b5 hb5 tT bC5 hbw0 aE4 hIX PZ;go_wp2_with fail
    refine aOB.o.mono ?_;rintro e w5 ⟨rfl,hb6⟩;have tT:=wX.o.tm hb6;have vD:=lG.o.tm tT;have AR:=oU.o.tm vD;have b5:=b5'.o.late hb6;have bA5:=a1L.o.late tT;have bB5:=aDY.o.late tT;have bC5:=W9.o.late tT;clear k0 g0 g1 g2 g3 wX b5' aOA;obtain⟨g5,hg5⟩:=aC wr.heap.size;rw[hg5]at b5 ⊢;have hfb:=G9 (p:=fun(z:Lk)=>z.1==y) (l:=nH);have hfa:=yI (p:=fun(z:Lk)=>z.1==y) (l:=nH);have hsI:qH (nH,sat,jE,nD) y=(nH.getD (fst (fun z=>z.1==y) nH).toNat (0,0)).2:=rfl;have hlP:kT (nH,sat,jE,nD) y=decide (0≤fst (fun(z:Lk)=>z.1==y) nH):=hfa.symm;rw[hlP]at hsB' Q5;obtain⟨ix,hix⟩:=aC (fst (fun(z:Lk)=>z.1==y) nH);simp only[hix]at hsB' hsI Q5 hfb ⊢;have hnz:=fun(hz:j≠0)=>(uE.o.mono AR).elem oO (by decide) (0,(.slice none 0 0,.slice none 0 0,.slice none 0 0)) (i:=j - 1) (by omega);have YI:=BR.o.mono AR;have hlm:=YI.max;have hll:=YI.le;have a5D:=YI.uY qD (by decide);obtain⟨Ty,ff,hne,hbel,jH⟩:=jR w5;have HS:=aA (jH _ ((aW _ _).drew));have q0:∀s,(ff s).cell? ⟨g5,0,none⟩=some (.int .i64 y):=fun s=>(b5.late (hbel s)).cell rfl;have q1:∀s,(ff s).cell? ⟨g5,1,none⟩=some (.slice ua un uc):=fun s=>(b5.late (hbel s)).cell rfl;have q2:∀s,(ff s).cell? ⟨g5,2,none⟩=some (.slice ra rn rc):=fun s=>(b5.late (hbel s)).cell rfl;have q3:∀s,(ff s).cell? ⟨g5,3,none⟩=some (.slice xa xn xc):=fun s=>(b5.late (hbel s)).cell rfl;have q4:∀s,(ff s).cell? ⟨w.heap.size,0,none⟩=some (.slice (some ⟨b,o,none⟩) qn qc):=fun s=>(bA5.late (hbel s)).cell rfl;have q5:∀s,(ff s).cell? ⟨w.heap.size+1,1,none⟩=some (.slice (some ⟨xb,xo,none⟩) sn sc):=fun s=>(bB5.late (hbel s)).cell rfl;have q6:∀s,(ff s).cell? ⟨w.heap.size+2,0,none⟩=some (.slice la ln lc):=fun s=>(bC5.late (hbel s)).cell rfl;obtain⟨hix',aNY,aE5,bLE,jG,jA,aOC,a2O,b5',aOD,bLF,aOA⟩:=aP hix hfa hsI hlP hbel jH YI a5D b5 bA5 bB5 bC5;obtain⟨BS,nQ,G7,wX,bLG⟩:=aI AR vD hb6 tT hg5;clear hix hfa hsI hlP hbel jH YI a5D b5 bA5 bB5 bC5 AR vD hb6 tT hg5;by_cases hx0:ix<0
    ·have e5:decide (ix<0)=true:=by simp;omega
     have hv:OX (lQ (jN zs) f) (nH,sat,jE,nD) d.2.1 j=false:=by rw[hsB'.o,decide_eq_false (show ¬0≤ix by omega)];rfl
     clear hnz;go_wp2_with fail
     refine jO ff (by kernel_rfl) (by kernel_rfl) HS.o ?_;iterate 31 (go_big_quiet_step ((go_at_call 48;refine(GH.o _).mono ?_;rintro e w3 ⟨rfl,hb3⟩;exact⟨rfl,jA.o _ ((jG.o _).trans (hb3.mono (jG.o _).size))⟩)))
     refine wpQuiet_nil ?_;intro s;have hbs:=jG.o s;have hbw:=nQ.o.tm hbs;obtain rfl:=pR.o hv;clear hv;obtain⟨jW,qG⟩:=aF hbw hbs;clear hbw hbs;go_wp2_with fail
     go_ret;exact⟨rfl,jW.o⟩
    ·have e5:decide (ix<0)=false:=by simp;omega
     obtain⟨kx,rfl⟩:∃kx:Nat,ix=kx:=⟨ix.toNat,by omega⟩;obtain⟨b3,o3,hla,JK,fe⟩:=aOC.o.elem qD (by decide) (0,0) (i:=kx) (by rw[a2O.o]at hfb;omega);subst hla;have l1:=fe 1 _ rfl;clear fe;rw[bU]at aE5;rw[←aE5.o]at l1;have hsb:=Q5.o (by simp);rw[aHG.o]at hsb;obtain⟨si,hsi⟩:∃si:Nat,qH (nH,sat,jE,nD) y=si:=⟨(qH (nH,sat,jE,nD) y).toNat,by omega⟩;rw[hsi]at hsb l1 hsB';have q7:∀s,(ff s).cell? ⟨b3,o3+kx*2+1,none⟩=some (.int .i64 si):=fun s=>late (jG.o s) JK l1;have hkl:kx<ln:=by rw[a2O.o]at hfb;omega
     have bLH:(kx:Int)<(ln:Int):=by omega
     have bLI:(0:Int)≤(kx:Int):=by omega
     have hHS:=fun s=>ih'.o w0 (ff s) dd (.slice ua un uc,.slice ra rn rc,.slice xa xn xc) si hsh'.o (BS.o.trans ((jG.o s).mono BS.o.size)) EQ.o NS.o Q0.o hok'.o (by omega);simp only at hHS;generalize lQ (jN zs) f dd si=hb at*;have GH:=aA hHS;clear hHS;rw[decide_eq_true (show(0:Int)≤(kx:Int) by omega),dH]at hsB';by_cases hk0:j=0
     ·have p1:decide ((0:Int)<(j:Int))=false:=by simp;omega
      have p2:decide (0<j)=false:=by simp;omega
      rw[decide_eq_true hk0,Bool.true_or,dH]at hsB';clear hk0 hnz;cases hb
      case false=>
       have hv:OX (lQ (jN zs) f) (nH,sat,jE,nD) d.2.1 j=false:=hsB'.o;go_wp2_with fail
       refine jO ff (by kernel_rfl) (by kernel_rfl) HS.o ?_;iterate 31 (go_big_quiet_step ((go_at_call 48;refine(GH.o _).mono ?_;rintro e w3 ⟨rfl,hb3⟩;exact⟨rfl,jA.o _ ((jG.o _).trans (hb3.mono (jG.o _).size))⟩)))
       refine wpQuiet_nil ?_;intro s;have hbs:=jG.o s;have hbw:=nQ.o.tm hbs;obtain rfl:=pR.o hv;clear hv;obtain⟨jW,qG⟩:=aF hbw hbs;clear hbw hbs;go_wp2_with fail
       go_ret;exact⟨rfl,jW.o⟩
      case true=>
       have hv:OX (lQ (jN zs) f) (nH,sat,jE,nD) d.2.1 j=true:=hsB'.o;go_wp2_with fail
       refine jO ff (by kernel_rfl) (by kernel_rfl) HS.o ?_;iterate 31 (go_big_quiet_step ((go_at_call 48;refine(GH.o _).mono ?_;rintro e w3 ⟨rfl,hb3⟩;exact⟨rfl,jA.o _ ((jG.o _).trans (hb3.mono (jG.o _).size))⟩)))
       refine wpQuiet_nil ?_;intro s;have hbs:=jG.o s;have hbw:=wX.o.tm hbs;obtain⟨qG,jW,hv'⟩:=aG hbs hbw hv;clear hbs hbw hv;go_wp2_with fail
       go_roundw
       case rel=>exact⟨j+1,by omega,by go_num,aA (lW.o hv'.o),jW⟩
       case measure=>simp[intOf];omega
     ·obtain⟨b4,o4,he3,aOE,fe⟩:=hnz hk0;obtain⟨rfl,rfl⟩:xb=b4∧xo=o4:=by simpa using he3
      clear he3 hnz;obtain⟨k',hk'⟩:∃k',k'+1=j:=⟨j - 1,by omega⟩;have aE6:k'<d.2.1.length:=by rw[IJ.o];omega
      have a9E:k'<ds.length:=by rw[AQ.o];exact aE6
      have p1:decide ((0:Int)<(j:Int))=true:=by simp;omega
      have p2:decide (0<j)=true:=by simp;omega
      have wk:IntKind.i64.wrap ((j:Int) - 1)=(k':Int):=by rw[aY];omega
      have g0:=fe 0 _ rfl;rw[show j - 1=k' by omega,jI a9E,(wV.o k' a9E aE6).1,cK]at g0;have hpe:(d.2.1.getD (j - 1) (0,jS f)).1=d.2.1[k'].1:=by rw[show j - 1=k' by omega,jI aE6]
      rw[hpe,decide_eq_false hk0,Bool.false_or]at hsB';clear hpe fe;obtain⟨pv,hpv⟩:=aC (d.2.1[k'].1);rw[hpv]at g0 hsB';have q9:∀s,(ff s).cell? ⟨xb,xo+k'*4,none⟩=some (.int .i64 pv):=fun s=>late (jG.o s) aOE g0;have hkn2:(k':Int)<sn:=by omega
      have aJL:k'<sn:=by omega
      have aNB:(0:Int)≤(k':Int):=by omega
      clear g0 hpv hk0 hk';by_cases hpt:y≤pv
      ·have p3:decide (y≤pv)=true:=by simp;omega
       have hv:OX (lQ (jN zs) f) (nH,sat,jE,nD) d.2.1 j=false:=by rw[hsB'.o,decide_eq_false (show ¬pv<y by omega)];rfl
       go_wp2_with fail
       refine jO ff (by kernel_rfl) (by kernel_rfl) HS.o ?_;iterate 31 (go_big_quiet_step ((go_at_call 48;refine(GH.o _).mono ?_;rintro e w3 ⟨rfl,hb3⟩;exact⟨rfl,jA.o _ ((jG.o _).trans (hb3.mono (jG.o _).size))⟩)))
       refine wpQuiet_nil ?_;intro s;have hbs:=jG.o s;have hbw:=nQ.o.tm hbs;obtain rfl:=pR.o hv;clear hv;obtain⟨jW,qG⟩:=aF hbw hbs;clear hbw hbs;go_wp2_with fail
       go_ret;exact⟨rfl,jW.o⟩
      ·have p3:decide (y≤pv)=false:=by simp;omega
       rw[decide_eq_true (show pv<y by omega),dH]at hsB';cases hb
       case false=>
        have hv:OX (lQ (jN zs) f) (nH,sat,jE,nD) d.2.1 j=false:=hsB'.o;go_wp2_with fail
        refine jO ff (by kernel_rfl) (by kernel_rfl) HS.o ?_;iterate 31 (go_big_quiet_step ((go_at_call 48;refine(GH.o _).mono ?_;rintro e w3 ⟨rfl,hb3⟩;exact⟨rfl,jA.o _ ((jG.o _).trans (hb3.mono (jG.o _).size))⟩)))
        refine wpQuiet_nil ?_;intro s;have hbs:=jG.o s;have hbw:=nQ.o.tm hbs;obtain rfl:=pR.o hv;clear hv;obtain⟨jW,qG⟩:=aF hbw hbs;clear hbw hbs;go_wp2_with fail
        go_ret;exact⟨rfl,jW.o⟩
       case true=>
        have hv:OX (lQ (jN zs) f) (nH,sat,jE,nD) d.2.1 j=true:=hsB'.o;go_wp2_with fail
        refine jO ff (by kernel_rfl) (by kernel_rfl) HS.o ?_;iterate 31 (go_big_quiet_step ((go_at_call 48;refine(GH.o _).mono ?_;rintro e w3 ⟨rfl,hb3⟩;exact⟨rfl,jA.o _ ((jG.o _).trans (hb3.mono (jG.o _).size))⟩)))
        refine wpQuiet_nil ?_;intro s;have hbs:=jG.o s;have hbw:=wX.o.tm hbs;obtain⟨qG,jW,hv'⟩:=aG hbs hbw hv;clear hbs hbw hv;go_wp2_with fail
        go_roundw
        case rel=>exact⟨j+1,by omega,by go_num,aA (lW.o hv'.o),jW⟩
        case measure=>simp[intOf];omega
   ·obtain rfl:j=sn:=by omega
    obtain rfl:R=true:=by rw[O0.o];exact wW hall.o
    have hbw:=lG.o.tm hbj.o;have jW:=aA hbw;clear hbw;go_wp2_with fail
    go_ret;exact⟨rfl,jW.o⟩
theorem aHH (zs:List VQ) (qa:Option Addr) (qn qc:Nat):∀f,b5D zs qa qn qc f:=by
 intro f;induction f with
 |zero=>intro w0 w d dv i _ _ hd;exact hd.elim
 |succ f ih=>exact aO9 zs qa qn qc f ih
