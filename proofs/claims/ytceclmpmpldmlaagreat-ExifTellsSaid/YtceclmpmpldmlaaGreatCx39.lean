import Derived.Test.YtceclmpmpldmlaaGreatCx38
set_option linter.unusedSimpArgs false
set_option linter.unusedVariables false
namespace Go.Proofs.YtceclmpmpldmlaaGreat
open Go.RowKit Tt
def bBD (zs:List QN) (qa:Option Addr) (qn qc:Nat) (GH:Option Addr) (H6 J6:Nat) (l:List nY) (n:Nat) (o:Int) (f:Nat):Prop:=∀(w0 w:World) (pa:Option Addr) (pc:Nat) (P:List Int) (d:jR f) (dv:Dz) (no:Int) (i:Nat),
 Sl w pa n pc 1 (ints .u8 P)→Below w0.heap.size w0 w→Sl w0 GH H6 J6 5 (fl spC l)→ShR w0 qa qn qc zs→wH w0 f d dv→lN f d→BJ f d→nO (jP zs)=true→nJ (jP zs) f d i=true→okW (jP zs) l n o f d no i→i<qn→0≤no→no+(kQ f d).length<1000000→n≤1000000000000→
 Calls Tryz.prog 129 #[.slice pa n pc,.slice GH H6 J6,.agg #[dv.1,dv.2.1,dv.2.2],.int .i64 no,.slice qa qn qc,.int .i64 i,.int .i64 o] w fun e w'=>
  ∃a' c',e= .returned (.tuple #[.slice a' n c',.int .i64 (no+(kQ f d).length)])∧w'.ownsRow w.heap.size 5 1 (.slice a' n c') n (ints .u8 (tO (FL (jP zs) l o f d no i) P))∧Below w.heap.size w w'
structure a4S (n:Nat) (w wr:World) (dv:Array Value) (bv sv:Value) (P:List Int) (ks:List Int):Prop where
 CZ:Below w.heap.size w wr
 bA:jW wr w.heap.size 26 dv
 b:Bd w.heap.size wr bv n P
 l:wr.ownsRow w.heap.size 3 1 sv ks.length (ints .i64 ks)
section
variable {n:Nat} {w wr w2:World} {dv:Array Value} {bv sv:Value} {P:List Int} {ks:List Int}
theorem a4S.later (h:a4S n w wr dv bv sv P ks) (hb:Below wr.heap.size wr w2):a4S n w w2 dv bv sv P ks:=
 ⟨h.CZ.tm hb,h.bA.late hb,h.b.later hb,kC h.l hb⟩
theorem a4S.add {sv2:Value} {ks2:List Int} (h:a4S n w wr dv bv sv P ks) (ho:w2.ownsRow w.heap.size 3 1 sv2 ks2.length (ints .i64 ks2)) (hg:wr.grownBy w2 sv.ownBlock):a4S n w w2 dv bv sv2 P ks2:=
 ⟨below_grown h.CZ hg h.CZ.size h.l,h.bA.grown hg (mH h.l h.bA aH),h.b.grown hg h.l aH,ho⟩
theorem a4S.put {a:Option Addr} {c:Nat} {P2:List Int} (h:a4S n w wr dv bv sv P ks) (hb:Below wr.heap.size wr w2) (ho:w2.ownsRow wr.heap.size 5 1 (.slice a n c) n (ints .u8 P2)):a4S n w w2 dv (.slice a n c) sv P2 ks:=
 have h2:=h.later hb;⟨h2.CZ,h2.bA,Bd.jU ho,h2.l⟩
end
theorem aOS (f:Nat) (ss:List (Int×jR f)) (no:Int) (j:Nat):(List.range (j+1)).map (qH f ss no)=(List.range j).map (qH f ss no)++ [qH f ss no j]:=by
 rw[eO,dI];rfl
set_option maxRecDepth 20000 in
set_option maxHeartbeats 8000000 in
theorem aOT (zs:List QN) (qa:Option Addr) (qn qc:Nat) (GH:Option Addr) (H6 J6:Nat) (l:List nY) (n:Nat) (o:Int) (f:Nat) (ih:bBD zs qa qn qc GH H6 J6 l n o f):bBD zs qa qn qc GH H6 J6 l n o (f+1):=by
 intro w0 w pa pc P d dv no i hb pW WW KN hd hs rU D5 hh hW hi qW aQZ hn;have qJ:=KN.len;obtain⟨ta,tn,tc,ts,sa,sn,sc,ds,ba,bn,bc,rfl,A8,G5,nL,oQ,nR,vF⟩:=id hd;obtain⟨h1,h2,h3,h4⟩:=id hs;obtain⟨hy1,hy2,hy3⟩:=id rU;have AR:d.2.1.length=sn:=by rw[←oQ];exact nL.rP mJ aH
 have a6D:sn≤500:=by omega
 have LX:=KN.row.max;have BX:=KN.row.le;have WQ:(jP zs).getD i mD=(zs.getD i sJ).2:=qL (by rw[qJ];exact hi);have F8:=fun t=>V6 (L:=jP zs) (i:=i) (t:=t) D5 (by unfold jP;rw[bL,qJ];exact hi);have a0J:(jP zs).length=qn:=by unfold jP;rw[bL];exact qJ
 have hD:=XR (jP zs) l o f d no i;have hfl:(kQ (f+1) d).length=(lH f d.2.1).length+1:=by rw[vO];rfl
 have hf:=VI.1 hh;have aDW:∀x∈d.1,vV x.1=true∧ZW x=true:=fun x hx=>⟨(hf.tg x hx).1,(hf.tg x hx).2.2⟩;have hfs:=hf.sb;obtain⟨k1,k2,k3,k4,k5,k6,k7,k8,k9⟩:=VD hW;rw[bM]at hD k2 k4 k5 k6 k8 k9 hfs;have LC:=KN.at hi;obtain⟨b,ob,hqa,lC,fe⟩:=KN.row.elem qD aH sJ hi;obtain⟨⟨⟨la,ln,lc⟩,⟨lS,sat,jG,lV⟩⟩,hz⟩:∃z,zs.getD i sJ=z:=⟨_,rfl⟩;rw[hz]at fe WQ LC;simp only at WQ LC;rw[WQ]at hD k2 k4 k5 k6 k8 k9 F8 hfs;have f0:=late pW lC (fe 0 _ rfl);have f1:=late pW lC (fe 1 _ rfl);have f2:=late pW lC (fe 2 _ rfl);have f3:=late pW lC (fe 3 _ rfl);simp only[bU]at f0 f1 f2 f3;clear fe;have yJ:(i:Int)<(qn:Int):=by omega
 have xH:(0:Int)≤(i:Int):=by omega
 have a2U:b<w.heap.size:=cK lC pW.size;have hwn:=aB (no+1) aG;have bA:=jW.new w 26 #[.slice ta tn tc,.slice sa sn sc,.slice ba bn bc];have jY:=aD w (.cells #[.slice ta tn tc,.slice sa sn sc,.slice ba bn bc] 26);obtain⟨W1,pR⟩:=aC (w.alloc (.cells #[.slice ta tn tc,.slice sa sn sc,.slice ba bn bc] 26));rw[pR]at bA jY;have hPl:=hb.nU;have a6P:a4S n w W1 (dvA ta tn tc sa sn sc ba bn bc) (.slice pa n pc) tZ P []:=
  ⟨jY,bA,⟨pa,pc,rfl,hb.mono jY,fun x e=>by
   have PX:0<n:=by obtain⟨_,h1,h2⟩:=k4;omega
   obtain⟨g,off,h1,h2,_⟩:=hb.lies 0 PX;rw[e]at h1;injection h1 with h1;rw[h1];exact .inl h2⟩,kF _ _ _ _⟩
 obtain⟨i0,hii,sN,oG,qK⟩:=info_parts aKH;obtain⟨mO,a0K,lF,D8,CW,tX,sH,oW,tL,h4',ih',ED⟩:=aT hb KN pW A8 G5 nL oQ nR vF h4 ih D5;obtain⟨mX,rR,bC9,NY,YZ,hD',a9N,k1',k2',k3',k4',k5'⟩:=aT qJ AR WQ F8 a0J hD hfl k1 k2 k3 k4 k5;obtain⟨k6',k8',k9',yR,AQ,aZ5,aZ6,bFR,I5,kR,y8,bA'⟩:=aT k6 k8 k9 LC hz hy1 hy2 hy3 hW jY pR bA;obtain⟨a81,bRS,bKO,bS6,NQ,UB,pX,wJ⟩:=aP a6P hPl aDW hfs WW hd hs rU;obtain⟨hh',QJ,bOM⟩:=aK hh hf hqa;clear hb KN pW A8 G5 nL oQ nR vF h4 ih D5 qJ AR WQ F8 a0J hD hfl k1 k2 k3 k4 k5 k6 k8 k9 LC hz hy1 hy2 hy3 hW jY pR bA a6P hPl aDW hfs WW hd hs rU hh hf hqa;go_enter Tryz.func129,Tryz.ntmps129;go_wp2_with fail
 try rw[y8.o]
 clear f0 f1 f2 f3;go_loopw [0,16,17,18] (fun bv nv sv iv wr=>∃j:Nat,j≤sn∧iv= .int .i64 j∧nv= .int .i64 (qH f d.2.1 no j)∧Hid (a4S n w wr (dvA ta tn tc sa sn sc ba bn bc) bv sv (tO (GI (FL (jP zs) l o f) (lS,sat,jG,lV) d.2.1 no j) P) ((List.range j).map (qH f d.2.1 no)))) (fun _ _ _ iv _=>sn - (intOf iv).toNat)
 case atStart=>
  refine⟨0,by omega,rfl,?_,a81⟩;have:qH f d.2.1 no 0=no+1:=by unfold qH lH;simp
  rw[this]
 case round=>
  obtain⟨j,hj,rfl,rfl,hWr⟩:=hrel;have d1:=hWr.o.bA.cell (i:=1) rfl;by_cases kD:j<sn
  ·have I4:(j:Int)<(sn:Int):=by omega
   have sS:IntKind.i64.wrap ((j:Int)+1)=j+1:=by rw[bF];omega
   have hid:j<d.2.1.length:=by rw[rR.o];exact kD
   have nV:j<ds.length:=by rw[sH.o];exact hid
   have lI:=lF.o.tm hWr.o.CZ;obtain⟨xb,xo,rfl,wM,fe⟩:=tX.o.elem mJ aH (0,(.slice none 0 0,.slice none 0 0,.slice none 0 0)) kD;rw[jO nV]at fe;obtain⟨OV,nD⟩:=oW.o j nV hid;obtain⟨ua,un,uc,ra,rn,rc,xa,xn,xc,hv⟩:=nD.v;have g0:=fe 0 _ rfl;have g1:=fe 1 _ rfl;have g2:=fe 2 _ rfl;have g3:=fe 3 _ rfl;simp only[bU]at g0 g1 g2 g3;clear fe;rw[hv]at nD g1 g2 g3;rw[OV]at g0;simp only at g0 g1 g2 g3;have U7:d.2.1.getD j (0,lY f)=d.2.1[j]:=jO hid _;have LY:=XK f d.2.1 no hid;have hNl:=PE f d.2.1 no j;have a2Y:=PE f d.2.1 no (j+1);have hPs:=a7X (FL (jP zs) l o f) (lS,sat,jG,lV) d.2.1 no j;have hKs:=aOS f d.2.1 no j;obtain⟨EC,hkW⟩:=k2'.o j hid;obtain⟨_,hkh⟩:=bS6.o j hid;have DF:=NY.o (d.2.1.getD j (0,lY f)).1 EC;rw[YZ.o]at DF;have tH:lN f d.2.1[j].2:=h4'.o _ (bJ hid);have IE:BJ f d.2.1[j].2:=aZ6.o _ (bJ hid);rw[U7]at LY hPs EC hkW DF hkh;obtain⟨y,hy⟩:=aC (d.2.1[j].1);obtain⟨dd,OX⟩:=aC (d.2.1[j].2);rw[hy]at g0 hPs EC hkW DF hkh;rw[OX]at nD LY hPs hkW tH IE hkh;obtain⟨ns,hns⟩:=aC (qH f d.2.1 no j);rw[hns]at LY hPs hkW hNl hKs;obtain⟨si,ZN⟩:∃si:Nat,zA (lS,sat,jG,lV) y=si:=⟨(zA (lS,sat,jG,lV) y).toNat,by omega⟩;have hsI:zA (lS,sat,jG,lV) y=(lS.getD (fst (fun z=>z.1==y) lS).toNat (0,0)).2:=rfl;rw[ZN]at hkW DF hPs hsI hkh;have hlP:=BU (p:=fun(z:Lk)=>z.1==y) (l:=lS);have aJP:wU (lS,sat,jG,lV) y=lS.any fun z=>z.1==y:=rfl;rw[←aJP,EC,decide_eq_true_eq]at hlP;have U1:=BG (p:=fun(z:Lk)=>z.1==y) (l:=lS);obtain⟨kx,hkx⟩:∃kx:Nat,fst (fun(z:Lk)=>z.1==y) lS=kx:=⟨(fst (fun(z:Lk)=>z.1==y) lS).toNat,by omega⟩;have QD:=yR.o.rP pJ aH;rw[hkx]at hsI U1;rw[bM]at hsI;rw[QD]at U1;have hLK:=fun W (h:Below w0.heap.size w0 W)=>a2J la ln lc lS sat jG lV y W (yR.o.mono h);simp only[hkx]at hLK;have hln:ln≤9223372036854775807:=bQ yR.o.le yR.o.max;have b6Z:kx<ln:=by omega
   have bOR:(kx:Int)<(ln:Int):=by omega
   have bOS:(0:Int)≤(kx:Int):=by omega
   obtain⟨b3,o3,hla,vB,fe⟩:=yR.o.elem pJ aH (0,0) b6Z;subst hla;have l1:=fe 1 _ rfl;rw[←hsI]at l1;clear fe;have l9:=aD wr (.cells #[.int .i64 ns] 3);have a7A:=hWr.o.later l9;have WS:=Sl.new wr 3 1 1 #[.int .i64 ns] (0,0) aG rfl;have G6:=a7A.l;rw[bL,gM]at G6;obtain⟨KY,aNN,zH,xE,QK,a2Z,b70,aSB,b71,aH8,a6B,b72⟩:=aT lI OV nD hv U7 LY hNl a2Y hPs hKs EC hkW;obtain⟨F9,yG,NZ,hy',aCW,aD2,aHC,a2V,bFX,QX,oL,a2X⟩:=aT DF tH IE hy OX hns ZN hsI aJP QD l9 a7A;obtain⟨aD1,b0N,bOU,bS7,DN,b6V,bDJ⟩:=aO WS hLK hkx hkh G6 hlP U1;clear lI OV nD hv U7 LY hNl a2Y hPs hKs EC hkW DF tH IE hy OX hns ZN hsI aJP QD l9 a7A WS hLK hkx hkh G6 hlP U1;rw[aD2.o];go_upto_region 7 with (at_builtin;refine kK rfl _ _ 102 rfl w.heap.size 3 i0 _ 1 8 Tryz.underlying102 hii sN oG qK rfl aH _ j _ rfl DN.o _ 1 1 _ rfl aD1.o (by simp[Value.oneCell']) aG aH a2X.o.CZ.size ?_;intro a5 c5 w5 ob nZ nW;obtain⟨Ob,Hg5⟩:=aJ ob nW;clear ob nZ nW)
   have rD:=a2X.o.add (sv2:= .slice a5 (j+1) c5) (ks2:=(List.range (j+1)).map (qH f d.2.1 no)) (by rw[aH8.o,mG,cO,bL,gM];exact Ob.o) Hg5.o;clear d1 Ob Hg5 oL a2X aD1 DN;have vW:=(aY w5.heap.size w5).drew;obtain⟨Ty,ff,oJ,nK,jK⟩:=lM (fun W=>Below w.heap.size w W∧jW W w.heap.size 26 (dvA ta tn tc (some ⟨xb,xo,none⟩) sn sc ba bn bc)) w5 ⟨rD.CZ,rD.bA⟩;have EB:=rD.later vW;have HS:=aA (jK w5.drew ⟨EB.CZ,EB.bA⟩);have MO:∀s,Below w0.heap.size w0 (ff s):=fun s=>lF.o.trans ((nK s).1.mono lF.o.size);have q1:∀s,(ff s).cell? ⟨w.heap.size,1,none⟩=some (.slice (some ⟨xb,xo,none⟩) sn sc):=fun s=>(nK s).2.cell rfl;have p0:∀s,(ff s).cell? ⟨xb,xo+j*4,none⟩=some (.int .i64 y):=fun s=>late (MO s) wM g0;have p1:∀s,(ff s).cell? ⟨xb,xo+j*4+1,none⟩=some (.slice ua un uc):=fun s=>late (MO s) wM g1;have p2:∀s,(ff s).cell? ⟨xb,xo+j*4+2,none⟩=some (.slice ra rn rc):=fun s=>late (MO s) wM g2;have p3:∀s,(ff s).cell? ⟨xb,xo+j*4+3,none⟩=some (.slice xa xn xc):=fun s=>late (MO s) wM g3;obtain⟨rb,ro,rfl,aAH,fe⟩:=a0K.o.row.elem qD aH sJ hi;rw[AQ.o]at fe;have r0:∀s,(ff s).cell? ⟨rb,ro+i*4,none⟩=some (.slice (some ⟨b3,o3,none⟩) ln lc):=fun s=>late (MO s) aAH (fe 0 _ rfl);have r1:∀s,(ff s).cell? ⟨rb,ro+i*4+1,none⟩=some (.int .i64 sat):=fun s=>late (MO s) aAH (fe 1 _ rfl);have r2:∀s,(ff s).cell? ⟨rb,ro+i*4+2,none⟩=some (.int .i64 jG):=fun s=>late (MO s) aAH (fe 2 _ rfl);have r3:∀s,(ff s).cell? ⟨rb,ro+i*4+3,none⟩=some (.int .i64 lV):=fun s=>late (MO s) aAH (fe 3 _ rfl);have q5:∀s,(ff s).cell? ⟨b3,o3+kx*2+1,none⟩=some (.int .i64 si):=fun s=>late (MO s) vB l1;clear fe;obtain⟨wD,qF⟩:=aC w5.drew;rw[qF]at HS EB;have hbD:=lF.o.tm EB.CZ;obtain⟨a0,c0,rfl,kJ,_⟩:=EB.b;obtain⟨H7,a07,AB,jF,WG,bKP,aVV,mR⟩:=aP rD vW nK jK EB MO hbD kJ;clear rD vW nK jK EB MO hbD kJ;go_wp2_with fail
   refine kM (S:=fun W=>∃s,W=ff s) aF 36 rfl ?_;rw[qF];refine jS [0,1,2,3,4,5,6,7,8,9,10,11,12,13,14,15,16,17,18,19,20,21,22,23,24,29] 10 aF aI aF aF aF HS.o ?_;simp only[jI,aW,aX,aU,aV];iterate 26 (go_big_quiet_step (fail))
   refine wpQuiet_nil ?_;refine jJ 25 9 aF aF ?_;simp only[jI,aW,aX,aU,aV];go_wp2_with fail
   refine(b0N.o _ aVV.o).mono ?_;rintro e w6 ⟨rfl,wQ⟩;have E5:=WG.o.later wQ;have bBE:=lF.o.tm E5.CZ;have HS:=aA (jF.o _ ⟨E5.CZ,E5.bA⟩);have hI:=ih'.o w0 w6 _ _ _ dd (.slice ua un uc,.slice ra rn rc,.slice xa xn xc) ns si (mR.o.mono wQ) bBE NQ.o a0K.o zH.o yG.o NZ.o ED.o bS7.o b72.o (by have:=F9.o;omega) (by have:=b70.o;omega) (by have:=a2Z.o;have:=aSB.o;have:=a9N.o;omega) hn;simp only at hI;rw[←a2Z.o]at hI;obtain⟨CB,O1,bUM,MR⟩:=aL wQ E5 bBE hI;clear wQ E5 bBE hI;go_wp2_with fail
   first|refine Mid.mk ⟨HS.o,?_⟩|refine Mid.mk ?_
   refine jS [26,27,28] 6 aF aI aF aF aF HS.o ?_;simp only[jI,aW,aX,aU,aV];iterate 3 (go_big_quiet_step (fail))
   refine wpQuiet_nil ?_;clear q1 q5 p0 p1 p2 p3 r0 r1 r2 r3 qF;refine jJ 30 5 aF aF ?_;simp only[jI,aW,aX,aU,aV];go_wp2_with fail
   refine MR.o.mono ?_;rintro e w7 ⟨a7,c7,rfl,ho7,rE⟩;have zJ:=O1.o.put rE ho7;rw[←l6,←b71.o]at zJ;obtain⟨HS,a2E,aD5,FD⟩:=aL (jF.o _ ⟨zJ.CZ,zJ.bA⟩) rE ho7 zJ;clear rE ho7 zJ;go_wp2_with fail
   first|refine Mid.mk ⟨HS.o,?_⟩|refine Mid.mk ?_
   refine jS [31,32,33,34,35] 0 aF aI aF aF aF HS.o ?_;simp only[jI,aW,aX,aU,aV];iterate 5 (go_big_quiet_step (fail))
   refine wpQuiet_nil ?_;refine jV aF ?_;go_wp2_with fail
   go_roundw
   case rel=>exact⟨j+1,by omega,by go_num,rfl,FD⟩
   case measure=>simp[intOf];omega
  ·obtain rfl:j=sn:=by omega
   have hNa:=aCY f d.2.1 no;rw[rR.o]at hNa;have hDw:tO (FL (jP zs) l o (f+1) d no i) P=tO (a3P f l o no (lS,sat,jG,lV) d) (tO (GI (FL (jP zs) l o f) (lS,sat,jG,lV) d.2.1 no j) P):=by
    rw[hD'.o,rR.o,l6]
   obtain⟨P2,hP2⟩:=aC (tO (GI (FL (jP zs) l o f) (lS,sat,jG,lV) d.2.1 no j) P);have hN2:no+((kQ (f+1) d).length:Int)=qH f d.2.1 no j:=by rw[hNa,a9N.o];omega
   obtain⟨n2,PX⟩:=aC (qH f d.2.1 no j);have hWo:=hWr.o;rw[hP2]at hDw hWo;rw[PX]at hN2;have vW:=(aY wr.heap.size wr).drew;obtain⟨Ty,ff,oJ,nK,jK⟩:=lM (fun W=>Below w.heap.size w W∧jW W w.heap.size 26 (dvA ta tn tc sa j sc ba bn bc)) wr ⟨hWo.CZ,hWo.bA⟩;have EB:=hWo.later vW;have HS:=aA (jK wr.drew ⟨EB.CZ,EB.bA⟩);have MO:∀s,Below w0.heap.size w0 (ff s):=fun s=>lF.o.trans ((nK s).1.mono lF.o.size);have q0:∀s,(ff s).cell? ⟨w.heap.size,0,none⟩=some (.slice ta tn tc):=fun s=>(nK s).2.cell rfl;have q1:∀s,(ff s).cell? ⟨w.heap.size,1,none⟩=some (.slice sa j sc):=fun s=>(nK s).2.cell rfl;have q2:∀s,(ff s).cell? ⟨w.heap.size,2,none⟩=some (.slice ba bn bc):=fun s=>(nK s).2.cell rfl;obtain⟨rb,ro,rfl,aAH,fe⟩:=a0K.o.row.elem qD aH sJ hi;rw[AQ.o]at fe;have r0:∀s,(ff s).cell? ⟨rb,ro+i*4,none⟩=some (.slice la ln lc):=fun s=>late (MO s) aAH (fe 0 _ rfl);have r1:∀s,(ff s).cell? ⟨rb,ro+i*4+1,none⟩=some (.int .i64 sat):=fun s=>late (MO s) aAH (fe 1 _ rfl);have r2:∀s,(ff s).cell? ⟨rb,ro+i*4+2,none⟩=some (.int .i64 jG):=fun s=>late (MO s) aAH (fe 2 _ rfl);have r3:∀s,(ff s).cell? ⟨rb,ro+i*4+3,none⟩=some (.int .i64 lV):=fun s=>late (MO s) aAH (fe 3 _ rfl);clear fe;obtain⟨wD,qF⟩:=aC wr.drew;rw[qF]at HS EB;obtain⟨a0,c0,rfl,kJ,_⟩:=EB.b;obtain⟨ya,yc,rfl⟩:∃a c,u17= .slice a j c:=by
    have h:=EB.l.2;rw[bL,gM]at h;rcases h with ⟨rfl,h0⟩|⟨g,cap,cur,rfl,_⟩
    ·exact⟨none,0,by rw[h0]⟩
    ·exact⟨_,_,rfl⟩
   have hls:=EB.l;rw[bL,gM]at hls;have hPu:=aW6 f n a0 c0 P2 GH H6 J6 l d (.slice ta tn tc,.slice sa j sc,.slice ba bn bc) no la ln lc lS sat jG lV ya j yc o wD kJ (NQ.o.mono (lF.o.tm EB.CZ)) (UB.o.mono (lF.o.tm EB.CZ)) pX.o wJ.o (by rw[rR.o];exact(Sl.jU hls).1) bKO.o hn k1'.o k3'.o k4'.o k5'.o k6'.o k7 k8'.o k9'.o;simp only at hPu;obtain⟨aZA,aSE,aBR,aD3,bWD,a07,AB,jF,bKP,WG,mR,bWE⟩:=aT hDw hP2 hN2 PX hWo vW nK jK MO EB kJ hls;obtain⟨bS8,bWF⟩:=aJ hPu hNa;clear hDw hP2 hN2 PX hWo vW nK jK MO EB kJ hls hPu hNa;rw[aD3.o];go_wp2_with fail
   clear d1;refine kM (S:=fun W=>∃s,W=ff s) aF 14 rfl ?_;rw[qF];refine jS [0,1,2,3,4,5,6,7,8,9,11] 3 aF aI aF aF aF HS.o ?_;simp only[jI,aW,aX,aU,aV];iterate 11 (go_big_quiet_step (fail))
   refine wpQuiet_nil ?_;clear q0 q1 q2 r0 r1 r2 r3 qF;refine jJ 10 2 aF aF ?_;simp only[jI,aW,aX,aU,aV];go_wp2_with fail
   refine bS8.o.mono ?_;rintro e w7 ⟨a7,c7,rfl,ho7,rE⟩;have wR:=WG.o.CZ.tm rE;obtain⟨HS,a2E,aD5,zI⟩:=aL (jF.o _ ⟨wR,WG.o.bA.late rE⟩) rE ho7 wR;clear rE ho7 wR;go_wp2_with fail
   first|refine Mid.mk ⟨HS.o,?_⟩|refine Mid.mk ?_
   refine jS [12,13] 0 aF aI aF aF aF HS.o ?_;simp only[jI,aW,aX,aU,aV];iterate 2 (go_big_quiet_step (fail))
   refine wpQuiet_nil ?_;refine jV aF ?_;go_wp2_with fail
   refine bodyPost_ret (results_tmp2 rfl _ _ _) rfl ?_;rw[aBR.o,aZA.o];exact⟨a7,c7,rfl,kI aD5.o WG.o.CZ.size,zI.o⟩
theorem aF3 (zs:List QN) (qa:Option Addr) (qn qc:Nat) (GH:Option Addr) (H6 J6:Nat) (l:List nY) (n:Nat) (o:Int):∀f,bBD zs qa qn qc GH H6 J6 l n o f:=by
 intro f;induction f with
 |zero=>intro w0 w pa pc P d dv no i _ _ _ _ hd;exact hd.elim
 |succ f ih=>exact aOT zs qa qn qc GH H6 J6 l n o f ih
