import Derived.Test.YtceclmpmpldmlaaGreatCx31
set_option linter.unusedSimpArgs false
set_option linter.unusedVariables false
set_option maxRecDepth 100000
set_option maxHeartbeats 8000000
namespace Go.Proofs.YtceclmpmpldmlaaGreat
open Go.RowKit Tt
theorem ZC (x:wP) (A:ExA) (w:World) (h:ExR w x A) (hs:IQ x) (hd:aDV x):
  Calls Tryz.prog 22 #[exV x.o A] w fun e w'=>∃(oo:Int) (a:Option Addr) (n c:Nat),e= .returned (.tuple #[.agg #[.int .i64 oo,.slice a n c],.int .i64 (nH x)])∧Below w.heap.size w w'∧
   (if nH x=0 then oo=x.o∧n=(mI x).length∧vD w.heap.size w' 16 (.slice a n c) (mI x)else oo=0∧n=0∧a=none∧c=0):=by
 obtain⟨za,zn,zc,pa,pn,pc,ga,gn,gc,ia,iN,ic,fa,fn,fc,ma,mn,mc,ta,tn,tc⟩:=A;obtain⟨o,z,p,g,i,f,mk,th⟩:=x;have hCk:=fun W (hb:Below w.heap.size w W)=>VN ⟨o,z,p,g,i,f,mk,th⟩ ⟨za,zn,zc,pa,pn,pc,ga,gn,gc,ia,iN,ic,fa,fn,fc,ma,mn,mc,ta,tn,tc⟩ W (h.mono hb) hs;obtain⟨ck,G7⟩:∃c,nH ⟨o,z,p,g,i,f,mk,th⟩=c:=⟨_,rfl⟩;rw[G7]at hCk;rw[G7];have wC:=hs;have hMM:=bIC hd (by have:=hs.mr;omega);obtain⟨sz,sp,sg,si,sf,sm,st⟩:=hs;obtain⟨dz,dp,dg,di,df⟩:=hd;simp only[exV,R9]at*;obtain⟨hz,hp,hg,hi,hf,hm,ht⟩:=h;have lz:z.length=zn:=hz.len;have lp:p.length=pn:=hp.len;have lg:g.length=gn:=hg.len;have li:i.length=iN:=hi.len;have lf:f.length=fn:=hf.len;have lm:mk.length=mn:=hm.nU;have lt:th.length=tn:=ht.nU;obtain⟨W,hW,bE,bR,hb,rX⟩:=nM w 61 #[.int .i64 o,.slice za zn zc,.slice pa pn pc,.slice ga gn gc,.slice ia iN ic,.slice fa fn fc,.slice ma mn mc,.slice ta tn tc] 39 #[.int .i64 0,.slice none 0 0];have q0:=bE.cell (i:=0) rfl;have q1:=bE.cell (i:=1) rfl;have q2:=bE.cell (i:=2) rfl;have q3:=bE.cell (i:=3) rfl;have q4:=bE.cell (i:=4) rfl;have q5:=bE.cell (i:=5) rfl;have q6:=bE.cell (i:=6) rfl;have q7:=bE.cell (i:=7) rfl;obtain⟨AQ,hp',TQ,xG,QJ,EN,TV,lz',lp',lg',li',lf'⟩:=aT hz hp hg hi hf hm ht lz lp lg li lf;obtain⟨lm',lt',LM,bR',mO,I5,zL,aZQ,a3X,sz',sp',sg'⟩:=aT lm lt bE bR hb hW rX hCk G7 sz sp sg;obtain⟨si',sf',sm',st',dz',dp',dg',di',df',aHU,b6E⟩:=aS si sf sm st dz dp dg di df wC hMM;clear hz hp hg hi hf hm ht lz lp lg li lf lm lt bE bR hb hW rX hCk G7 sz sp sg si sf sm st dz dp dg di df wC hMM;go_enter Tryz.func22,Tryz.ntmps22;go_upto_region 1 with fail
 rw[I5.o];go_wp2_with fail
 refine(aZQ.o _ mO.o).mono ?_;rintro e w1 ⟨rfl,jY⟩;have qC:=mO.o.tm jY;have bE1:=LM.o.late jY;have bR1:=bR'.o.late jY;clear q0 q1 q2 q3 q4 q5 q6 q7;obtain⟨kR,oD,GL,GN⟩:=aL jY qC bE1 bR1;clear jY qC bE1 bR1;by_cases hc0:ck=0
 ·subst hc0;have e1:((0:Int) != 0)=false:=rfl;have hpw:=(XY (LP a3X.o).2.2.2.1).2;have hgl:w.heap.size+2≤w1.heap.size:=by have:=zL.o;have:=kR.o.size;omega
  have bD:=jW.new w1 26 #[.slice pa pn pc,.slice none 0 0,.slice none 0 0];have l9:=aD w1 (.cells #[.slice pa pn pc,.slice none 0 0,.slice none 0 0] 26);obtain⟨w3,HY⟩:∃W,w1.alloc (.cells #[.slice pa pn pc,.slice none 0 0,.slice none 0 0] 26)=W:=⟨_,rfl⟩;rw[HY]at bD l9;have bE3:=GL.o.late l9;have bR3:=GN.o.late l9;have LF:=oD.o.tm l9;obtain⟨gd,U7⟩:∃g,w1.heap.size=g:=⟨_,rfl⟩;rw[U7]at bD hgl;have q0:=GL.o.cell (i:=0) rfl;have q1:=GL.o.cell (i:=1) rfl;have q2:=GL.o.cell (i:=2) rfl;have q3:=GL.o.cell (i:=3) rfl;have q4:=GL.o.cell (i:=4) rfl;have q5:=GL.o.cell (i:=5) rfl;have q6:=GL.o.cell (i:=6) rfl;have q7:=GL.o.cell (i:=7) rfl;obtain⟨b7U,Z7,oL,a9O,vX,a0A,sZ,QF,QK⟩:=aQ hpw bD l9 HY bE3 bR3 LF hgl U7;clear hpw bD l9 HY bE3 bR3 LF hgl U7;go_upto_region 5 with fail
  rw[QK.o,a9O.o];clear q0 q1 q2 q3 q4 q5 q6 q7;have q0:=vX.o.cell (i:=0) rfl;have q1:=vX.o.cell (i:=1) rfl;have q2:=vX.o.cell (i:=2) rfl;have q3:=vX.o.cell (i:=3) rfl;have q4:=vX.o.cell (i:=4) rfl;have q5:=vX.o.cell (i:=5) rfl;have q6:=vX.o.cell (i:=6) rfl;have q7:=vX.o.cell (i:=7) rfl;go_upto_if 20 with fail
  go_cut []from 17 (fun wx=>∃(ua:Option Addr) (un uc:Nat),Hid (jW wx w.heap.size 61 #[.int .i64 o,.slice za zn zc,.slice pa pn pc,.slice ga gn gc,.slice ia iN ic,.slice fa fn fc,.slice ma mn mc,.slice ta tn tc])∧Hid (jW wx (w.heap.size+1) 39 #[.int .i64 0,.slice none 0 0])∧Hid (jW wx gd 26 #[.slice ua un uc,.slice none 0 0,.slice none 0 0])∧Hid (aE8 gd wx ua un uc (qV ⟨o,z,p,g,i,f,mk,th⟩))∧Hid (Below w.heap.size w wx))
  case first=>
   by_cases ZM:0<mn
   ·have e2:decide ((0:Int)<mn)=true:=by simpa using ZM
    obtain⟨zs,WU,hzp⟩:=hp'.o;have hS:=aPZ pa pn pc zs 37500 7 mn ma mn mc mk w3 (WU.tr.mono sZ.o) (by have:=lp'.o;have:=sp'.o;omega) (aHX WU.tr (by rw[FK,←hzp];exact dp'.o)) (EN.o.mono sZ.o) (by have:=lm'.o;have:=sm'.o;omega);rw[FK,←hzp]at hS;have ept:qV ⟨o,z,p,g,i,f,mk,th⟩=zG p (O7 mk):=if_pos (show 0<mk.length by have:=lm'.o;omega);have p0:=Z7.o.cell (i:=0) rfl;obtain⟨hS',bPZ,aZP⟩:=aK hS ept ZM;clear hS ept ZM;clear WU hzp;go_wp2_with fail
    refine hS'.o.mono ?_;rintro e w4 ⟨a4,n4,c4,zs4,rfl,a18,hz4,mF⟩;have hD4:=Z7.o.late mF;have hE4:=vX.o.late mF;have hR4:=a0A.o.late mF;have hB4:=sZ.o.tm mF;clear p0;have p0:=hD4.cell (i:=0) rfl;have v0:=hD4.frozen 0;have oU:=(But.refl gd w4).set 0 (.slice a4 n4 c4);have hT4:kX DT w3.heap.size w4 (.slice a4 n4 c4) (qV ⟨o,z,p,g,i,f,mk,th⟩):=a18.at_ (by rw[hz4,bPZ.o];unfold O7;rw[show(mk.length:Int)=mn by have:=lm'.o;omega]);have hTr:=(hT4.b8S hD4).step oU;have J2:w.heap.size≠gd:=by have:=QF.o;omega
    have sU:w.heap.size+1≠gd:=by have:=QF.o;omega
    have hDn:=hD4.set 0 (.slice a4 n4 c4);have hEn:=hE4.mV (g':=gd) J2 0 (.slice a4 n4 c4);have hRn:=hR4.mV (g':=gd) sU 0 (.slice a4 n4 c4);have hBn:=hB4.setCell (p:=⟨gd,0,none⟩) (by show w.heap.size≤gd;have:=QF.o;omega) (.slice a4 n4 c4);clear a18 hz4 oU hT4 q0 q1 q2 q3 q4 q5 q6 q7;obtain⟨rT,b7W,bGJ,aT7,ZQ,a4H,aTF,a3W,QE,MN,wG,SS⟩:=aT mF hD4 hE4 hR4 hB4 hTr J2 sU hDn hEn hRn hBn;clear mF hD4 hE4 hR4 hB4 hTr J2 sU hDn hEn hRn hBn;go_wp2_with fail
    go_meet
    case rel=>exact⟨a4,n4,c4,MN,wG,QE,a4H,SS⟩
   ·have e2:decide ((0:Int)<mn)=false:=by simp;omega
    have ept:qV ⟨o,z,p,g,i,f,mk,th⟩=p:=if_neg (show ¬0<mk.length by have:=lm'.o;omega);have hTr:=hp'.o.b8S sZ.o (show w.heap.size≤gd by have:=QF.o;omega);rw[←ept]at hTr;clear ept;obtain⟨a4H,aZP⟩:=aJ hTr ZM;clear hTr ZM;go_wp2_with fail
    go_meet
    case rel=>exact⟨pa,pn,pc,vX,a0A,Z7,a4H,sZ⟩
  case rest=>
  clear q0 q1 q2 q3 q4 q5 q6 q7 Z7 oL a9O vX a0A sZ GL GN kR oD I5 mO LM bR';obtain⟨ua,un,uc,vX,a0A,Z7,a4H,sZ⟩:=hcut;rename World=>w4
  have q0:=vX.o.cell (i:=0) rfl;have q1:=vX.o.cell (i:=1) rfl;have q2:=vX.o.cell (i:=2) rfl;have q3:=vX.o.cell (i:=3) rfl;have q4:=vX.o.cell (i:=4) rfl;have q5:=vX.o.cell (i:=5) rfl;have q6:=vX.o.cell (i:=6) rfl;have q7:=vX.o.cell (i:=7) rfl;go_upto_if 35 with fail
  go_cut []from 32 (fun wx=>∃(sa:Option Addr) (sn sc:Nat),Hid (jW wx w.heap.size 61 #[.int .i64 o,.slice za zn zc,.slice pa pn pc,.slice ga gn gc,.slice ia iN ic,.slice fa fn fc,.slice ma mn mc,.slice ta tn tc])∧Hid (jW wx (w.heap.size+1) 39 #[.int .i64 0,.slice none 0 0])∧Hid (jW wx gd 26 #[.slice ua un uc,.slice sa sn sc,.slice none 0 0])∧Hid (wH wx 15 (sF ⟨o,z,p,g,i,f,mk,th⟩) (.slice ua un uc,.slice sa sn sc,.slice none 0 0))∧Hid (sn=(qI ⟨o,z,p,g,i,f,mk,th⟩).length)∧Hid (Below w.heap.size w wx))
  case first=>
   by_cases xH:0<iN
   ·have e2:decide ((0:Int)<iN)=true:=by simpa using xH
    have QO:qI ⟨o,z,p,g,i,f,mk,th⟩= [(40965,tC 13 i)]:=if_pos (show 0<i.length by have:=li'.o;omega);have bSu:=jW.new w4 28 #[.int .i64 40965,.slice ia iN ic,.slice none 0 0,.slice none 0 0];have FN:=aD w4 (.cells #[.int .i64 40965,.slice ia iN ic,.slice none 0 0,.slice none 0 0] 28);obtain⟨w6,KW⟩:∃W,w4.alloc (.cells #[.int .i64 40965,.slice ia iN ic,.slice none 0 0,.slice none 0 0] 28)=W:=⟨_,rfl⟩;rw[KW]at bSu FN;obtain⟨gS,hgS⟩:∃g,w4.heap.size=g:=⟨_,rfl⟩;rw[hgS]at bSu;have hD6:=Z7.o.late FN;have hE6:=vX.o.late FN;have hR6:=a0A.o.late FN;have hB6:=sZ.o.tm FN;have p1:=hD6.cell (i:=1) rfl;have v1:=hD6.frozen 1;rw[←KW]at p1 v1;have J2:w.heap.size≠gd:=by have:=QF.o;omega
    have sU:w.heap.size+1≠gd:=by have:=QF.o;omega
    have a5X:w.heap.size≤gd:=by have:=QF.o;omega
    have b8T:gS≠gd:=by have:=Z7.o.lt;omega
    have hDn:=hD6.set 1 (.slice (some ⟨gS,0,none⟩) 1 1);have hRn:=hR6.mV (g':=gd) sU 1 (.slice (some ⟨gS,0,none⟩) 1 1);have hEn:=hE6.mV (g':=gd) J2 1 (.slice (some ⟨gS,0,none⟩) 1 1);have bSn:=bSu.mV (g':=gd) b8T 1 (.slice (some ⟨gS,0,none⟩) 1 1);have hBn:=hB6.setCell (p:=⟨gd,1,none⟩) a5X (.slice (some ⟨gS,0,none⟩) 1 1);have QC:=(But.of_below (b:=gd) FN).set 1 (.slice (some ⟨gS,0,none⟩) 1 1);have bID:=a4H.o _ QC;have hPd:wH (w6.setCell ⟨gd,1,none⟩ (.slice (some ⟨gS,0,none⟩) 1 1)) 15 (sF ⟨o,z,p,g,i,f,mk,th⟩) (.slice ua un uc,.slice (some ⟨gS,0,none⟩) 1 1,.slice none 0 0):=by
     refine VT (ds:= [(40965,(.slice ia iN ic,.slice none 0 0,.slice none 0 0))]) (subs:=qI ⟨o,z,p,g,i,f,mk,th⟩) (b:= []) bID (slB (T:=28) (cs:=fl sbC [(40965,(.slice ia iN ic,.slice none 0 0,.slice none 0 0))]) bSn rfl aH) (by rw[QO];rfl) (fun j hj RF=>?_) (Sl.nil _ _);obtain rfl:j=0:=by simpa using hj
     have e3:(qI ⟨o,z,p,g,i,f,mk,th⟩)[0]'RF=(40965,tC 13 i):=by simp[QO]
     rw[e3];exact⟨rfl,b27 (xG.o.mono hBn)⟩
    have aU7:(1:Nat)=(qI ⟨o,z,p,g,i,f,mk,th⟩).length:=by rw[QO];rfl
    clear QC bID;obtain⟨bGL,a09,aTE,bGM,bGN,bGO,aY2,QE,wG,MN,bVU,SS⟩:=aT bSu KW hgS hD6 hE6 hR6 hB6 hDn hRn hEn bSn hBn;obtain⟨aTF,a3W,b1S,bU6,bIE,bQ0,aHZ,aOJ,a8M⟩:=aQ J2 sU a5X b8T FN QO xH hPd aU7;clear bSu KW hgS hD6 hE6 hR6 hB6 hDn hRn hEn bSn hBn J2 sU a5X b8T FN QO xH hPd aU7;go_wp2_with fail
    try rw[aTE.o]
    try rw[a09.o]
    go_meet
    case rel=>exact⟨some ⟨gS,0,none⟩,1,1,MN,wG,QE,aOJ,a8M,SS⟩
   ·have e2:decide ((0:Int)<iN)=false:=by simp;omega
    have QO:qI ⟨o,z,p,g,i,f,mk,th⟩= []:=if_neg (show ¬0<i.length by have:=li'.o;omega);have hPd:wH w4 15 (sF ⟨o,z,p,g,i,f,mk,th⟩) (.slice ua un uc,.slice none 0 0,.slice none 0 0):=
     VT (ds:= []) (subs:=qI ⟨o,z,p,g,i,f,mk,th⟩) (b:= []) a4H.o.rd (Sl.nil _ _) (by rw[QO];rfl) (fun j hj=>by cases hj) (Sl.nil _ _)
    have aU7:(0:Nat)=(qI ⟨o,z,p,g,i,f,mk,th⟩).length:=by rw[QO];rfl
    obtain⟨bQ0,aHZ,aOJ,a8M⟩:=aL QO xH hPd aU7;clear QO xH hPd aU7;go_wp2_with fail
    go_meet
    case rel=>exact⟨none,0,0,vX,a0A,Z7,aOJ,a8M,sZ⟩
  case rest=>
  clear q0 q1 q2 q3 q4 q5 q6 q7 Z7 vX a0A sZ a4H;obtain⟨sa,sn,sc,vX,a0A,Z7,aOJ,a8M,sZ⟩:=hcut;rename World=>w5
  have hun:un=(qV ⟨o,z,p,g,i,f,mk,th⟩).length:=by
   obtain⟨ta9,tn9,tc9,zs9,sa9,sn9,sc9,ds9,ba9,bn9,bc9,hv9,ht9,hd9,_⟩:=aOJ.o;simp only[fQ,Value.slice.injEq]at hv9;have h1:(sF ⟨o,z,p,g,i,f,mk,th⟩).1.length=zs9.length:=by rw[hd9,bL]
   have h2:(sF ⟨o,z,p,g,i,f,mk,th⟩).1.length=(qV ⟨o,z,p,g,i,f,mk,th⟩).length:=rfl;have:=ht9.len;omega
  obtain⟨_,_,hu1,hu2,hu3⟩:=aDT a3X.o;have WW:VJ ⟨o,z,p,g,i,f,mk,th⟩=decide (0<un+sn):=by
   have hl:=XZ ⟨o,z,p,g,i,f,mk,th⟩;rw[←a8M.o]at hl;rw[←hun]at hu1 hu2 hu3;simp only at hl hu1 hu2 hu3;unfold VJ;simp only;rw[eD];simp only[eY,decide_eq_true_eq];constructor
   ·rintro((h|h)|h)
    ·omega
    ·rw[if_pos h]at hl;omega
    ·have:=hu3 h;omega
   ·intro h;by_cases hi:0<i.length
    ·exact .inl (.inr hi)
    ·rw[if_neg hi]at hl;by_cases hp0:0<p.length
     ·exact .inl (.inl hp0)
     ·by_cases ZM:0<mk.length
      ·exact .inr ZM
      ·have hp0:p= []:=dN aG;have:qV ⟨o,z,p,g,i,f,mk,th⟩= []:=by unfold qV;rw[if_neg ZM];exact hp0
       rw[this]at hun;simp only[iG]at hun;omega
  have bIF:un≤401:=by have:=sp'.o;simp only at hu1;omega
  have bIG:sn≤1:=by rw[a8M.o,XZ];split <;> omega
  have bG:=jW.new w5 26 #[.slice za zn zc,.slice none 0 0,.slice none 0 0];have BM:=aD w5 (.cells #[.slice za zn zc,.slice none 0 0,.slice none 0 0] 26);obtain⟨w6,KW⟩:∃W,w5.alloc (.cells #[.slice za zn zc,.slice none 0 0,.slice none 0 0] 26)=W:=⟨_,rfl⟩;rw[KW]at bG BM;have bD6:=Z7.o.late BM;have bE6:=vX.o.late BM;have k0:=bD6.cell (i:=0) rfl;have k1:=bD6.cell (i:=1) rfl;have k2:=bD6.cell (i:=2) rfl;have hwr:IntKind.i64.wrap ((un:Int)+sn)=un+sn:=by rw[bF];omega
  obtain⟨b1,jY⟩:∃b,decide (0<un+sn)=b:=⟨_,rfl⟩;have hbi:decide ((0:Int)<(un:Int)+sn)=b1:=by rw[←jY,decide_eq_decide];omega
  rw[jY]at WW;clear jY hu1 hu2 hu3;obtain⟨ge,ZK⟩:∃g,w5.heap.size=g:=⟨_,rfl⟩;rw[ZK]at bG;have q0:=vX.o.cell (i:=0) rfl;have q1:=vX.o.cell (i:=1) rfl;have q2:=vX.o.cell (i:=2) rfl;have q3:=vX.o.cell (i:=3) rfl;have q4:=vX.o.cell (i:=4) rfl;have q5:=vX.o.cell (i:=5) rfl;have q6:=vX.o.cell (i:=6) rfl;have q7:=vX.o.cell (i:=7) rfl;have a0B:=aA bD6;clear bD6;obtain⟨bWR,NQ,bU7,bU8,vT,RA,a09,a4D,aOZ⟩:=aQ hun WW bIF bIG bG BM KW bE6 ZK;clear hun WW bIF bIG bG BM KW bE6 ZK;go_upto_region 10 with fail
  rw[aOZ.o,a09.o];clear q0 q1 q2 q3 q4 q5 q6 q7;go_upto_if 52 with fail
  go_cut []from 42 (fun wx=>∃(va:Option Addr) (vn vc:Nat),Hid (jW wx ge 26 #[.slice za zn zc,.slice va vn vc,.slice none 0 0])∧Hid (HV w5 wx 15 (.slice va vn vc) vn (rJ ⟨o,z,p,g,i,f,mk,th⟩))∧Hid (Below w5.heap.size w5 wx))
  case first=>
   cases b1 with
   |false=>
    have ez:rJ ⟨o,z,p,g,i,f,mk,th⟩= []:=if_neg (by rw[NQ.o];decide);go_wp2_with fail
    go_meet
    case rel=>exact⟨none,0,0,vT,aA (by rw[ez];exact⟨[],rfl,rfl,kF _ _ _ _,fun i hi=>by cases hi⟩),RA⟩
   |true=>
    have ez:rJ ⟨o,z,p,g,i,f,mk,th⟩= [(34665,sF ⟨o,z,p,g,i,f,mk,th⟩)]:=if_pos NQ.o;obtain⟨i0,z0,xH,hiz,a3Z,a4A,a4B⟩:=wL aDK aDL;have p1:=vT.o.cell (i:=1) rfl;have BN:=aD w6 (.cells #[.int .i64 34665,.slice ua un uc,.slice sa sn sc,.slice none 0 0] 28);have ZE:Sl (w6.alloc (.cells #[.int .i64 34665,.slice ua un uc,.slice sa sn sc,.slice none 0 0] 28)) (some ⟨w6.heap.size,0,none⟩) 1 1 4 (sbC (34665,(.slice ua un uc,.slice sa sn sc,.slice none 0 0))):=Sl.new w6 28 4 1 #[.int .i64 34665,.slice ua un uc,.slice sa sn sc,.slice none 0 0] (0,0) aG rfl;obtain⟨w7,hw7⟩:∃W,w6.alloc (.cells #[.int .i64 34665,.slice ua un uc,.slice sa sn sc,.slice none 0 0] 28)=W:=⟨_,rfl⟩;have bG7:=vT.o.late BN;have hx7:=RA.o.tm BN;rw[hw7]at bG7 hx7;have aOK:HV w5 w7 15 (.slice none 0 0) 0 ([]:List (Int×jR 15)):=⟨[],rfl,rfl,kF _ _ _ _,fun i hi=>by cases hi⟩;obtain⟨ez',a4I,b8U,KA,bIH,aL1⟩:=aN ez ZE bG7 hx7 aOK BN;clear ez ZE bG7 hx7 aOK BN;go_wp2_with (at_builtin;rw[hw7]at*;refine mU rfl _ _ 23 rfl w5.heap.size 28 i0 z0 4 80 Tryz.underlying23 xH hiz a3Z a4A a4B aH (.slice none 0 0) 0 [] rfl (kF _ _ _ _) ⟨w6.heap.size,0,none⟩ 1 1 (sbC (34665,(.slice ua un uc,.slice sa sn sc,.slice none 0 0))) rfl a4I.o (a3N _ _ _ _ _ _ _ _ _ _) aH aH KA.o.size ?_;intro a9 c9 w9 ob Z9 DK;have bG9:=b8U.o.grown Z9 (fun h=>by cases h);have hx9:=below_grown KA.o Z9 KA.o.size (kF w7 w5.heap.size 28 4);have hs9:=bIH.o.snoc (v':= .slice a9 1 c9) (t:=34665) (d:=sF ⟨o,z,p,g,i,f,mk,th⟩) (dz:=(.slice ua un uc,.slice sa sn sc,.slice none 0 0)) (fun ds2 h2=>by rw[H9 h2 (kF w7 w5.heap.size 28 4)];exact ob) aOJ.o;have p9:=bG9.cell (i:=1) rfl;have y9:=bG9.frozen 1;obtain⟨Y8,a6V,aIJ⟩:=aK bG9 hx9 hs9;clear ob Z9 DK bG9 hx9 hs9)
    go_meet
    case rel=>
     have oU:=(But.refl ge w9).set 1 (.slice a9 1 c9);refine⟨a9,1,c9,aA (Y8.o.set 1 (.slice a9 1 c9)),aA ?_,aA (a6V.o.setCell (p:=⟨ge,1,none⟩) (by show w5.heap.size≤ge;have:=aOZ.o;omega) _)⟩;rw[ez'.o];exact HV.but aIJ.o oU Y8.o aH
  case rest=>
  clear vT RA a4D a09 k0 k1 k2;obtain⟨va,vn,vc,vT,aOL,xJ⟩:=hcut;rename World=>w7
  have bE7:=vX.o.late xJ.o;have q0:=bE7.cell (i:=0) rfl;have q1:=bE7.cell (i:=1) rfl;have q2:=bE7.cell (i:=2) rfl;have q3:=bE7.cell (i:=3) rfl;have q4:=bE7.cell (i:=4) rfl;have q5:=bE7.cell (i:=5) rfl;have q6:=bE7.cell (i:=6) rfl;have q7:=bE7.cell (i:=7) rfl;have bII:=aA bE7;clear bE7;go_upto_if 63 with fail
  clear q0 q1 q2 q3 q4 q5 q6 q7;go_cut []from 53 (fun wx=>∃(xa:Option Addr) (xn xc:Nat),Hid (jW wx ge 26 #[.slice za zn zc,.slice xa xn xc,.slice none 0 0])∧Hid (HV w5 wx 15 (.slice xa xn xc) xn (rJ ⟨o,z,p,g,i,f,mk,th⟩++wX ⟨o,z,p,g,i,f,mk,th⟩))∧Hid (Below w5.heap.size w5 wx))
  case first=>
   by_cases hg0:0<gn
   ·have e2:decide ((0:Int)<gn)=true:=by simpa using hg0
    have ez:wX ⟨o,z,p,g,i,f,mk,th⟩= [(34853,tC 14 g)]:=if_pos (show 0<g.length by have:=lg'.o;omega);obtain⟨i0,z0,xH,hiz,a3Z,a4A,a4B⟩:=wL aDK aDL;have p1:=vT.o.cell (i:=1) rfl;have q3:=bII.o.cell (i:=3) rfl;have hvn:vn≤1:=by
     obtain⟨_,_,h2,_⟩:=aOL.o;rw[←h2];unfold rJ;split <;> simp
    have BN:=aD w7 (.cells #[.int .i64 34853,.slice ga gn gc,.slice none 0 0,.slice none 0 0] 28);have ZE:Sl (w7.alloc (.cells #[.int .i64 34853,.slice ga gn gc,.slice none 0 0,.slice none 0 0] 28)) (some ⟨w7.heap.size,0,none⟩) 1 1 4 (sbC (34853,(.slice ga gn gc,.slice none 0 0,.slice none 0 0))):=Sl.new w7 28 4 1 #[.int .i64 34853,.slice ga gn gc,.slice none 0 0,.slice none 0 0] (0,0) aG rfl;obtain⟨w8,hw8⟩:∃W,w7.alloc (.cells #[.int .i64 34853,.slice ga gn gc,.slice none 0 0,.slice none 0 0] 28)=W:=⟨_,rfl⟩;have bG7:=vT.o.late BN;have hx7:=xJ.o.tm BN;have aOK:=aOL.o.later BN;rw[hw8]at bG7 hx7 aOK;have bIJ:=aOK;obtain⟨ds7,_,_,ZF,_⟩:=aOK;have aU8:(Value.slice va vn vc).ownBlock≠some ge:=mY ZF bG7 aH;have bIK:wH w5 15 (tC 14 g) (.slice ga gn gc,.slice none 0 0,.slice none 0 0):=b27 (TQ.o.mono sZ.o);obtain⟨ez',a4I,b8U,KA,bIL,aL1,Y9,aU9,bIM,bCD,bQ1⟩:=aS ez ZE bG7 hx7 bIJ BN ZF aU8 bIK hg0 hvn;clear ez ZE bG7 hx7 bIJ BN ZF aU8 bIK hg0 hvn;go_wp2_with (at_builtin;rw[hw8]at*;refine mU rfl _ _ 23 rfl w5.heap.size 28 i0 z0 4 80 Tryz.underlying23 xH hiz a3Z a4A a4B aH (.slice va vn vc) vn _ rfl Y9.o ⟨w7.heap.size,0,none⟩ 1 1 (sbC (34853,(.slice ga gn gc,.slice none 0 0,.slice none 0 0))) rfl a4I.o (a3N _ _ _ _ _ _ _ _ _ _) (by have:=bQ1.o;omega) aH KA.o.size ?_;intro a9 c9 w9 ob Z9 DK;have bG9:=b8U.o.grown Z9 aU9.o;have hx9:=below_grown KA.o Z9 KA.o.size Y9.o;have hs9:=bIL.o.snoc (v':= .slice a9 (vn+1) c9) (t:=34853) (d:=tC 14 g) (dz:=(.slice ga gn gc,.slice none 0 0,.slice none 0 0)) (fun ds2 h2=>by rw[H9 h2 Y9.o];exact ob) bIM.o;have p9:=bG9.cell (i:=1) rfl;have y9:=bG9.frozen 1;obtain⟨Y8,a6V,aIJ⟩:=aK bG9 hx9 hs9;clear ob Z9 DK bG9 hx9 hs9)
    go_meet
    case rel=>
     have oU:=(But.refl ge w9).set 1 (.slice a9 (vn+1) c9);refine⟨a9,vn+1,c9,aA (Y8.o.set 1 (.slice a9 (vn+1) c9)),aA ?_,aA (a6V.o.setCell (p:=⟨ge,1,none⟩) (by show w5.heap.size≤ge;have:=aOZ.o;omega) _)⟩;rw[ez'.o];exact HV.but aIJ.o oU Y8.o aH
   ·have e2:decide ((0:Int)<gn)=false:=by simp;omega
    have ez:wX ⟨o,z,p,g,i,f,mk,th⟩= []:=if_neg (show ¬0<g.length by have:=lg'.o;omega);have hSn:=aOL.o;rw[←dR (rJ ⟨o,z,p,g,i,f,mk,th⟩),←ez]at hSn;obtain⟨bCD,ez',a3V⟩:=aK hg0 ez hSn;clear hg0 ez hSn;go_wp2_with fail
    go_meet
    case rel=>exact⟨va,vn,vc,vT,a3V,xJ⟩
  case rest=>
  clear vT aOL xJ bII;obtain⟨xa,xn,xc,vT,aOL,xJ⟩:=hcut;rename World=>w8
  have bE8:=vX.o.late xJ.o;have bR8:=a0A.o.late xJ.o;have a0C:=sZ.o.tm xJ.o;have hZd:wH w8 16 (yD ⟨o,z,p,g,i,f,mk,th⟩) (.slice za zn zc,.slice xa xn xc,.slice none 0 0):=by
   obtain⟨ds8,h1,h2,h3,h4⟩:=aOL.o;exact VT (ds:=ds8) (subs:=rJ ⟨o,z,p,g,i,f,mk,th⟩++wX ⟨o,z,p,g,i,f,mk,th⟩) (b:= []) (AQ.o.mono a0C) (Sl.jU h3).1 h1 (fun j hj RF=>⟨(h4 j hj RF).1,(h4 j hj RF).2.mono xJ.o⟩) (Sl.nil _ _)
  obtain⟨w9,hw9,bDb,bTb,a6T,bIN⟩:=nM w8 26 #[.slice za zn zc,.slice xa xn xc,.slice none 0 0] 39 #[.int .i64 o,.slice (some ⟨w8.heap.size,0,none⟩) 1 1];have hDW:b28 w8 w9 16 (.slice (some ⟨w8.heap.size,0,none⟩) 1 1) 1 [yD ⟨o,z,p,g,i,f,mk,th⟩]:=by
   refine⟨[(.slice za zn zc,.slice xa xn xc,.slice none 0 0)],rfl,rfl,aA6 (cs:=#[.slice za zn zc,.slice xa xn xc,.slice none 0 0]) bDb (aZ _) rfl (by unfold maxLen;decide),fun j hj RF=>?_⟩;obtain rfl:j=0:=by simpa using hj
   exact hZd
  have bE9:=bE8.late a6T;obtain⟨gt,QI⟩:∃g,w8.heap.size=g:=⟨_,rfl⟩;have aXM:w.heap.size+2≤gt:=by
   rw[←QI];have:=vT.o.lt;have:=aOZ.o;have:=Z7.o.lt;have:=QF.o;omega
  rw[QI]at hw9 bDb bTb hDW;have k0:=bE8.cell (i:=0) rfl;have k1:=vT.o.cell (i:=0) rfl;have k2:=vT.o.cell (i:=1) rfl;have k3:=vT.o.cell (i:=2) rfl;clear hZd;obtain⟨bIO,bH0,aI5,aL2,bU9,b8V,E9,aI6,K6,EU,aTV,IW⟩:=aT hw9 bDb bTb a6T bIN hDW bE9 bR8 a0C QI aXM bE8;clear hw9 bDb bTb a6T bIN hDW bE9 bR8 a0C QI aXM bE8;go_upto_region 15 with fail
  rw[EU.o,bIO.o];clear k0 k1 k2 k3;have q0:=E9.o.cell (i:=0) rfl;have q1:=E9.o.cell (i:=1) rfl;have q2:=E9.o.cell (i:=2) rfl;have q3:=E9.o.cell (i:=3) rfl;have q4:=E9.o.cell (i:=4) rfl;have q5:=E9.o.cell (i:=5) rfl;have q6:=E9.o.cell (i:=6) rfl;have q7:=E9.o.cell (i:=7) rfl;have bCA:IntKind.i64.wrap ((fn:Int)+tn)=fn+tn:=by have:=lf'.o;have:=lt'.o;have:=sf'.o;have:=st'.o;rw[bF];omega
  obtain⟨b3,jQ⟩:∃b,decide (0<fn+tn)=b:=⟨_,rfl⟩;have bVV:decide ((0:Int)<(fn:Int)+tn)=b3:=by rw[←jQ,decide_eq_decide];omega
  have aOB:decide (0<f.length+th.length)=b3:=by rw[lf'.o,lt'.o];exact jQ
  clear jQ;have aDX:=aA aOB;clear aOB;go_upto_if 85 with fail
  clear q0 q1 q2 q3 q4 q5 q6 q7;go_cut []from 73 (fun wx=>∃(da:Option Addr) (dn dc:Nat),Hid (jW wx (gt+1) 39 #[.int .i64 o,.slice da dn dc])∧Hid (b28 w8 wx 16 (.slice da dn dc) dn (mI ⟨o,z,p,g,i,f,mk,th⟩))∧Hid (Below w8.heap.size w8 wx))
  case first=>
   cases b3 with
   |false=>
    have ez:mI ⟨o,z,p,g,i,f,mk,th⟩= [yD ⟨o,z,p,g,i,f,mk,th⟩]:=by
     have:=aDX.o;unfold mI;rw[if_neg (by simpa using this)]
    go_wp2_with fail
    go_meet
    case rel=>exact⟨some ⟨gt,0,none⟩,1,1,aI5,aA (by rw[ez];exact b8V.o),aL2⟩
   |true=>
    have ez:mI ⟨o,z,p,g,i,f,mk,th⟩= [yD ⟨o,z,p,g,i,f,mk,th⟩]++ [LJ ⟨o,z,p,g,i,f,mk,th⟩]:=by
     have:=aDX.o;unfold mI;rw[if_pos (by simpa using this)];rfl
    obtain⟨i0,z0,xH,hiz,a3Z,a4A,a4B⟩:=wL aC7 aC8;have p1:=aI5.o.cell (i:=1) rfl;have q5:=E9.o.cell (i:=5) rfl;have q7:=E9.o.cell (i:=7) rfl;have BN:=aD w9 (.cells #[.slice fa fn fc,.slice none 0 0,.slice ta tn tc] 26);have ZE:Sl (w9.alloc (.cells #[.slice fa fn fc,.slice none 0 0,.slice ta tn tc] 26)) (some ⟨w9.heap.size,0,none⟩) 1 1 3 (YR (.slice fa fn fc,.slice none 0 0,.slice ta tn tc)):=Sl.new w9 26 3 1 #[.slice fa fn fc,.slice none 0 0,.slice ta tn tc] (0,0) aG rfl;obtain⟨w10,bIP⟩:∃W,w9.alloc (.cells #[.slice fa fn fc,.slice none 0 0,.slice ta tn tc] 26)=W:=⟨_,rfl⟩;have bT7:=aI5.o.late BN;have hx7:=aL2.o.tm BN;obtain⟨xC,hd1,hd2,b29,hd4⟩:=b8V.o;have ZF:=kC b29 BN;rw[bIP]at bT7 hx7 ZF;have aU8:(Value.slice (some ⟨gt,0,none⟩) 1 1).ownBlock≠some (gt+1):=mY ZF bT7 aH;have hfd:wH w8 16 (LJ ⟨o,z,p,g,i,f,mk,th⟩) (.slice fa fn fc,.slice none 0 0,.slice ta tn tc):=VT (ds:= []) (subs:= []) (QJ.o.mono K6.o) (Sl.nil _ _) rfl (fun j hj=>by cases hj) (TV.o.mono K6.o);obtain⟨ez',a4I,bQ2,KA,aL1,Y9,aU9,b8C,b8W,b8X,bQ3⟩:=aS ez ZE bT7 hx7 BN ZF aU8 hfd hd1 hd2 hd4;clear ez ZE bT7 hx7 BN ZF aU8 hfd hd1 hd2 hd4;clear b29;go_wp2_with (at_builtin;rw[bIP]at*;refine mU rfl _ _ 37 rfl w8.heap.size 26 i0 z0 3 72 Tryz.underlying37 xH hiz a3Z a4A a4B aH (.slice (some ⟨gt,0,none⟩) 1 1) 1 _ rfl Y9.o ⟨w9.heap.size,0,none⟩ 1 1 (YR (.slice fa fn fc,.slice none 0 0,.slice ta tn tc)) rfl a4I.o (aA3 _ _ _ _ _ _ _ _ _) aH aH KA.o.size ?_;intro a9 c9 PS ob Z9 DK;have bT9:=bQ2.o.grown Z9 aU9.o;have hx9:=below_grown KA.o Z9 KA.o.size Y9.o;have p9:=bT9.cell (i:=1) rfl;have y9:=bT9.frozen 1;obtain⟨a6U,a6V,ob'⟩:=aK bT9 hx9 ob;clear ob Z9 DK bT9 hx9)
    go_meet
    case rel=>
     have oU:=(But.refl (gt+1) PS).set 1 (.slice a9 2 c9);refine⟨a9,2,c9,aA (a6U.o.set 1 (.slice a9 2 c9)),aA ?_,aA (a6V.o.setCell (p:=⟨gt+1,1,none⟩) (by show w8.heap.size≤gt+1;have:=EU.o;omega) _)⟩;rw[ez'.o];refine⟨xC++ [(.slice fa fn fc,.slice none 0 0,.slice ta tn tc)],by simp[b8W.o],rfl,?_,fun j hj RF=>?_⟩
     ·rw[BV];exact KP ob'.o oU (mY ob'.o a6U.o aH)
     ·have hl1:xC.length=1:=b8W.o;by_cases hj2:j<xC.length
      ·rw[eU hj2,eU (by show j<1;omega)];exact bQ3.o j hj2 (by show j<1;omega)
      ·have hje:j=1:=by rw[cO,hl1,iV]at hj;omega
       subst hje;rw[fC (by omega:xC.length≤1)];simp only[hl1,iP,gU];exact b8C.o
  case rest=>
  clear aI5 b8V aL2 E9 bIO;obtain⟨da,dn,dc,aOD,b2A,aUA⟩:=hcut;rename World=>w12
  have hDr:yP 16 w12 da dn dc (mI ⟨o,z,p,g,i,f,mk,th⟩):=by
   obtain⟨xC,h1,h2,h3,h4⟩:=b2A.o;exact⟨xC,h1,(Sl.jU h3).1,fun j hj RF=>(h4 j hj RF).mono aUA.o⟩
  have sM:dn=(mI ⟨o,z,p,g,i,f,mk,th⟩).length:=by
   obtain⟨xC,h1,h2,h3,h4⟩:=b2A.o;exact h2.symm
  have bIQ:dn≤500:=by rw[sM];unfold mI;split <;> simp
  have hOw:=aOG 16 o da dn dc (mI ⟨o,z,p,g,i,f,mk,th⟩) w12 hDr (OD a3X.o aHU.o).1 b6E.o bIQ;have b2B:=K6.o.tm aUA.o;have aTZ:=aI6.o.late aUA.o;have t0:=aOD.o.cell (i:=0) rfl;have t1:=aOD.o.cell (i:=1) rfl;clear bIQ hDr;obtain⟨bQ4,aAC,aKT,wI⟩:=aL hOw b2B aTZ sM;clear hOw b2B aTZ sM;go_wp2_with fail
  refine bQ4.o.mono ?_;rintro e SX ⟨a13,c13,rfl,hDO,rZ⟩;have aA9:=aKT.o.late rZ;have r0:=aA9.cell (i:=0) rfl;have r1:=aA9.cell (i:=1) rfl;have y0:=aA9.frozen 0;have y1:=aA9.frozen 1;have b2C:=aAC.o.tm rZ;clear t0 t1;obtain⟨aI7,QT,aKU,b8Y⟩:=aL hDO rZ aA9 b2C;clear hDO rZ aA9 b2C;go_wp2_with fail
  have oU:=((But.refl (w.heap.size+1) SX).set 0 (.int .i64 o)).set 1 (.slice a13 dn c13);have b2:=(aKU.o.set 0 (.int .i64 o)).set 1 (.slice a13 dn c13);have b8G:=aI7.o.aDM oU aKU.o;refine bodyPost_ret (mK rfl _ _ (w.heap.size+1) 39 #[.int .i64 o,.slice a13 dn c13] _ rfl b2 Tryz.underlying39 rfl aF) rfl ?_;refine⟨o,a13,dn,c13,rfl,(b8Y.o.setCell (p:=⟨w.heap.size+1,0,none⟩) (dY _ 1) _).setCell (p:=⟨w.heap.size+1,1,none⟩) (dY _ 1) _,?_⟩;refine⟨rfl,wI.o,?_⟩;obtain⟨xC,h1,h2,h3⟩:=b8G;exact⟨xC,h1,kI h2 aAC.o.size,fun j hj RF=>(h3 j hj RF).mono aAC.o.size⟩
 ·have e1:(ck != 0)=true:=by simpa using hc0
  have r0:=GN.o.cell (i:=0) rfl;have r1:=GN.o.cell (i:=1) rfl;have y0:=GN.o.frozen 0;have y1:=GN.o.frozen 1;have aJQ:=aA hc0;clear hc0;go_wp2_with fail
  refine bodyPost_ret (mK rfl _ _ (w.heap.size+1) 39 #[.int .i64 0,.slice none 0 0] _ rfl ((GN.o.set 0 (.int .i64 0)).set 1 (.slice none 0 0)) Tryz.underlying39 rfl aF) rfl ?_;refine⟨0,none,0,0,rfl,(oD.o.setCell (p:=⟨w.heap.size+1,0,none⟩) (dY _ 1) _).setCell (p:=⟨w.heap.size+1,1,none⟩) (dY _ 1) _,?_⟩;exact⟨rfl,rfl,rfl,rfl⟩
theorem TB (a a':Option Addr) (n n' c c':Nat) (x y:List Int) (w:World) (hx:Sl w a n c 1 (ints .u8 x)) (hy:Sl w a' n' c' 1 (ints .u8 y)) (xI:tV x) (rU:tV y):
  Calls Tryz.prog 73 #[.slice a n c,.slice a' n' c'] w fun e w'=>e= .returned (.bool (x==y))∧w=w':=by
 have e1:=aAU (P:=Tryz.prog) hx 24 5 9 Tryz.underlying24 Tryz.underlying5 Tryz.underlying9;have e2:=aAU (P:=Tryz.prog) hy 24 5 9 Tryz.underlying24 Tryz.underlying5 Tryz.underlying9;have e3:=aXO xI rU;generalize (x==y)=r at*;obtain⟨TR,hy',a2I,wJ⟩:=aL hx hy xI rU;clear hx hy xI rU;go_enter Tryz.func73,Tryz.ntmps73;go_wp2;go_ret;exact⟨rfl,rfl⟩
theorem aOM (y k y2 k2:Int) (a a':Option Addr) (n c n' c':Nat) (d d2:List Int) (w:World) (hs:Sl w a n c 1 (ints .u8 d)) (BO:Sl w a' n' c' 1 (ints .u8 d2)) (hd:tV d) (hd2:tV d2):
  Calls Tryz.prog 52 #[.agg #[.int .i64 y,.int .i64 k,.slice a n c],.agg #[.int .i64 y2,.int .i64 k2,.slice a' n' c']] w fun e w'=>e= .returned (.bool (y==y2&&k==k2&&d==d2))∧Below w.heap.size w w':=by
 have pW:=(aD w (.cells #[.int .i64 y,.int .i64 k,.slice a n c] 72)).alloc (by simp) (.cells #[.int .i64 y2,.int .i64 k2,.slice a' n' c'] 72);have HC:=TB a a' n n' c c' d d2 _ (hs.mono pW) (BO.mono pW) hd hd2;obtain⟨b3,h3⟩:∃b,(d==d2)=b:=⟨_,rfl⟩;rw[h3]at HC;rw[h3];obtain⟨pX,RP,HC',h3',lF,UB,b8X⟩:=aO hs BO HC h3 pW hd hd2;clear hs BO HC h3 pW hd hd2;go_enter Tryz.func52,Tryz.ntmps52;cases h1:(y==y2)with
 |false=>
  go_wp2_with fail
  go_ret;exact⟨rfl,lF.o⟩
 |true=>
  cases h2:(k==k2)with
  |false=>
   go_wp2_with fail
   go_ret;exact⟨rfl,lF.o⟩
  |true=>
   go_wp2_with fail
   refine HC'.o.mono ?_;rintro e w2 ⟨rfl,rfl⟩;go_wp2_with fail
   go_ret;exact⟨by cases b3 <;> rfl,lF.o⟩
