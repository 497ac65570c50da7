import Derived.Test.YtceclmpmpldmlaaGreatCw34
set_option linter.unusedSimpArgs false
set_option linter.unusedVariables false
namespace Go.Proofs.YtceclmpmpldmlaaGreat
open Go.RowKit Tt
theorem wN (X:Nat→Prop) (B:Nat) (w:World):lX X B w (.slice none 0 0) []:=⟨[],rfl,⟨lC _ _ _ _,fun k e=>by cases e⟩,fun z hz=>by cases hz⟩
theorem NA.zero (B:Nat) (w:World):NA B w exZ aKT:=⟨wN _ _ _,wN _ _ _,wN _ _ _,wN _ _ _,wN _ _ _,lC _ _ _ _,lC _ _ _ _⟩
theorem FN.subs {w:World} {f:Nat} {d:jY (f+1)} {a1 a2 a3:Option Addr} {n1 n2 n3 c1 c2 c3:Nat} (h:FN w (f+1) d (.slice a1 n1 c1,.slice a2 n2 c2,.slice a3 n3 c3)):
  ∃ds:List (Int×Dz),Sl w a2 n2 c2 4 (fl sbC ds)∧ds.length=d.2.1.length∧∀i (h:i<ds.length) (h':i<d.2.1.length),ds[i].1=d.2.1[i].1∧FN w f d.2.1[i].2 ds[i].2:=by
 obtain⟨ta,tn,tc,zs,sa,sn,sc,ds,ba,bn,bc,e,hT,hd,hs,hl,hr,_⟩:=h;injection e with e1 e2;injection e2 with e2 e3;injection e2 with e2 e4 e5;subst e2 e4 e5;exact⟨ds,hs,hl,hr⟩
theorem FN.blob {w:World} {f:Nat} {d:jY (f+1)} {a1 a2 a3:Option Addr} {n1 n2 n3 c1 c2 c3:Nat} (h:FN w (f+1) d (.slice a1 n1 c1,.slice a2 n2 c2,.slice a3 n3 c3)):Sl w a3 n3 c3 1 (ints .u8 d.2.2):=by
 obtain⟨ta,tn,tc,zs,sa,sn,sc,ds,ba,bn,bc,e,hT,hd,hs,hl,hr,hb⟩:=h;injection e with e1 e2;injection e2 with e2 e3;injection e3 with e3 e4 e5;subst e3 e4 e5;exact hb
theorem b5D (x:pX) (s:Int×jY 15):(NT x s).o=x.o:=by unfold NT;split <;> rfl
theorem b86 (o:Int) (ds:List (jY 16)) (k:Nat):(xkO o ds k).o=o:=by
 unfold xkO;generalize (rR ds).take k=l;have:∀(l:List (Int×jY 15)) (x:pX),(l.foldl NT x).o=x.o:=by
  intro l;induction l with
  |nil=>intro x;rfl
  |cons s r ih=>intro x;rw[jH,ih,b5D]
 rw[this];rfl
theorem b5E (x:pX) (s:Int×jY 15):(NT x s).f=x.f∧(NT x s).th=x.th:=by unfold NT;split <;> exact⟨rfl,rfl⟩
theorem bNC (o:Int) (ds:List (jY 16)) (k:Nat):(xkO o ds k).f= []∧(xkO o ds k).th= []:=by
 unfold xkO;generalize (rR ds).take k=l;have:∀(l:List (Int×jY 15)) (x:pX),(l.foldl NT x).f=x.f∧(l.foldl NT x).th=x.th:=by
  intro l;induction l with
  |nil=>intro x;exact⟨rfl,rfl⟩
  |cons s r ih=>intro x;rw[jH,(ih _).1,(ih _).2];exact b5E x s
 exact this l _
theorem aRP {X:pX} {o:Int} {ds:List (jY 16)} (hl:ds.length=1) (hX:X.f= []∧X.th= []) (h:wX 16 o ds={X with f:=wW 16 (ds.getD 1 (kS 16)),th:=aN3 16 (ds.getD 1 (kS 16))}):wX 16 o ds=X:=by
 rw[h,aZ,fE aG];obtain⟨x1,x2,x3,x4,x5,x6,x7,x8⟩:=X;obtain⟨rfl,rfl⟩:=hX;rfl
def NoB (ds:List (jY 16)) (j:Nat):Prop:=((rR ds).getD j (0,kS 15)).1=34853∨yP (pI (wW 15 ((rR ds).getD j (0,kS 15)).2) 37500)=false
set_option maxRecDepth 20000 in
set_option maxHeartbeats 16000000 in
theorem aA5 (o:Int) (da:Option Addr) (dn dc:Nat) (ds:List (jY 16)) (w:World) (h:JX 16 w da dn dc ds) (qL:∀d∈ds,tJ 16 d) (EJ:∀d∈ds,mY 16 d) (hN:(oI 16 ds).length<1000) (UG:dn≤500):
  Calls Tryz.prog 34 #[.agg #[.int .i64 o,.slice da dn dc]] w fun e w'=>∃A,e= .returned (.tuple #[exV (ofE 16 o ds).o A,.int .i64 (ofC 16 o ds)])∧NA w.heap.size w' (ofE 16 o ds) A∧Below w.heap.size w w':=by
 have hCk:=fun W zs a (hb:Below w.heap.size w W) hsh=>VD 16 o da dn dc ds a 5 5 zs W (h.mono hb) hsh EJ qL hN UG;obtain⟨wU,vO,nC,aXB⟩:=h;have AP:wU.length=dn:=nC.xZ qW aH;obtain⟨W,hW,bT,bR,hb,tC⟩:=sN w 39 #[.int .i64 o,.slice da dn dc] 61 #[.int .i64 0,.slice none 0 0,.slice none 0 0,.slice none 0 0,.slice none 0 0,.slice none 0 0,.slice none 0 0,.slice none 0 0];obtain⟨Ty,ff,pQ,kI,kE⟩:=kM W;have HD:=aA ((bF W.heap.size W).drew);have HS:=aA (kE W.drew HD.o);have k0:=fun s=>(bT.late (kI s)).cell (i:=0) rfl;have k1:=fun s=>(bT.late (kI s)).cell (i:=1) rfl;obtain⟨b4W,oC,zO,b87,FQ,WH,bT',bR',pW,a8X,kD,jV⟩:=aT hCk vO nC aXB AP hW bT bR hb tC kI kE;have vR:=aA qL;clear hCk vO nC aXB AP hW bT bR hb tC kI kE qL;go_enter Tryz.func34,Tryz.ntmps34;go_upto_region 1 with fail
 rw[WH.o];refine kR (S:=fun W=>∃s,W=ff s) aF 4 rfl ?_;obtain⟨wD,xB⟩:∃X,W.drew=X:=⟨_,rfl⟩;rw[xB]at HS HD ⊢;clear xB;refine jZ [0] 3 aF aI aF aF aF HS.o ?_;simp only[jW,aW,aX,aU,aV];iterate 1 (go_big_quiet_step (fail))
 refine wpQuiet_nil ?_;refine jX 1 2 aF aF ?_;simp only[jW,aW,aX,aU,aV];go_wp2_with fail
 refine(AO wD).mono ?_;rintro e w3 ⟨a3,zs3,rfl,hsh,UB,kT⟩;have KL:=pW.o.trans ((HD.o.tm kT).mono pW.o.size);have GV:=HD.o.tm kT;have HS:=aA (jV.o _ GV);have hC3:=b4W.o w3 zs3 a3 KL hsh;rw[UB]at hC3;clear hsh UB kT;obtain⟨zF,YD,aBL⟩:=aK KL GV hC3;clear KL GV hC3;go_wp2_with fail
 refine Mid.mk ⟨HS.o,?_⟩;refine jX 2 1 aF aF ?_;simp only[jW,aW,aX,aU,aV];go_wp2_with fail
 refine aBL.o.mono ?_;rintro e w4 ⟨rfl,mX⟩;have a2A:=YD.o.tm mX;have PU:=pW.o.tm a2A;have HS:=aA (jV.o _ a2A);have bT4:=bT'.o.late a2A;have bR4:=bR'.o.late a2A;clear mX;obtain⟨a4S,qX,b5F,QT⟩:=aL a2A PU bT4 bR4;clear a2A PU bT4 bR4;go_wp2_with fail
 refine Mid.mk ⟨HS.o,?_⟩;refine jX 3 0 aF aF ?_;simp only[jW,aW,aX,aU,aV];go_wp2_with fail
 refine Mid.mk ⟨HS.o,?_⟩;refine kH aF ?_;clear k0 k1 HS HD pQ kD jV a4S YD zF aBL bT' bR' pW;by_cases Z6:oD 16 o ds vB=0
 case neg=>
  have e1:(oD 16 o ds vB != 0)=true:=by simpa using Z6
  have hc:=b5B Z6;have KU:=aA hc;clear hc;clear Z6;go_wp2_with (refine wpList_store_row rfl 61 (.tmp 2) (.tmp 13) rfl (w.heap.size+1) #[.int .i64 0,.slice none 0 0,.slice none 0 0,.slice none 0 0,.slice none 0 0,.slice none 0 0,.slice none 0 0,.slice none 0 0] rfl rfl 61 _ QT.o aF rfl aF ?_)
  refine bodyPost_ret (kJ rfl _ _ (w.heap.size+1) 61 #[.int .i64 0,.slice none 0 0,.slice none 0 0,.slice none 0 0,.slice none 0 0,.slice none 0 0,.slice none 0 0,.slice none 0 0] _ rfl (QT.o.row _) Tryz.underlying61 rfl aF) rfl ?_;refine⟨aKT,?_,?_,kN qX.o (dX _ 1) _⟩
  ·rw[KU.o.2,KU.o.1];rfl
  ·rw[KU.o.2];exact NA.zero _ _
 case pos=>
  have hk:=bEZ Z6;have e1:(oD 16 o ds vB != 0)=false:=by rw[Z6];rfl
  have hd1:1≤dn:=by have:=hk.len;have:=oC.o;have:=FQ.o;omega
  have aRQ:=b87.o 0 (by have:=FQ.o;omega) (by have:=hk.len;omega);obtain⟨za,zn,zc,sa,sn,sc,ba,bn,bc,hv⟩:=aRQ.v;have yZ:wU.getD 0 dzz=wU[0]'(by have:=FQ.o;omega):=kF _ _;have bTR:ds.getD 0 (kS 16)=ds[0]'(by have:=hk.len;omega):=kF _ _;rw[hv]at aRQ yZ;rw[←bTR]at aRQ;have hrz:=aRQ.row;have hlz:=YO hk.h0;have hdz:=QW hk.h0;have SY:=hk.h0;have hsO:(ds.getD 0 (kS 16)).2.1=rR ds:=rfl;have bND:wW 16 (ds.getD 0 (kS 16))=(ds.getD 0 (kS 16)).1:=rfl;obtain⟨b0,o0,rfl,AX,fe⟩:=(zO.o.mono qX.o).elem qW aH dzz (show 0<dn by omega);have fe1:=fe;rw[yZ]at fe;obtain⟨Ty,ff,pQ,kI,kE⟩:=kM w4;have HD:=aA ((bF w4.heap.size w4).drew);have HS:=aA (kE w4.drew HD.o);have x0:=fe 0 _ rfl;have x1:=fe 1 _ rfl;simp only[fM,dB]at x0 x1;have k0:=fun s=>(b5F.o.late (kI s)).cell (i:=0) rfl;have k1:=fun s=>(b5F.o.late (kI s)).cell (i:=1) rfl;have k2:∀s,(ff s).cell? ⟨b0,o0,none⟩=some (.slice za zn zc):=fun s=>late (kI s) AX x0;have c63:(0:Int)<dn:=by omega
  have c65:dn≤9223372036854775807:=bU zO.o.le zO.o.max;have hOz:=fun W (hb:Below w.heap.size w W)=>zK za zn zc (ds.getD 0 (kS 16)).1 W (hrz.mono hb) (by have:=hrz.len;omega) hdz;clear fe fe1 x0 hdz hlz SY hv bTR;obtain⟨a2I,WG,b8A,c67,c1D,c1N,c3C,r9,x1',kD,jV,b4X⟩:=aT Z6 hk aRQ hrz yZ hsO bND AX x1 kI kE hOz;clear Z6 hk aRQ hrz yZ hsO bND AX x1 kI kE hOz;go_upto_region 3 with fail
  refine kR (S:=fun W=>∃s,W=ff s) aF 12 rfl ?_;obtain⟨wD,xB⟩:∃X,w4.drew=X:=⟨_,rfl⟩;rw[xB]at HS HD ⊢;clear xB;refine jZ [0,1,2,3,4,5,6] 5 aF aI aF aF aF HS.o ?_;simp only[jW,aW,aX,aU,aV];iterate 7 (go_big_quiet_step (fail))
  refine wpQuiet_nil ?_;refine jX 7 4 aF aF ?_;simp only[jW,aW,aX,aU,aV];go_wp2_with fail
  refine(b4X.o wD (qX.o.tm HD.o)).mono ?_;rintro e w5 ⟨a5,c5,rfl,hT5,nV⟩;have BK:=HD.o.tm nV;have aYD:=hT5.mono (bU qX.o.size HD.o.size);have HS:=aA (jV.o _ BK);clear hT5 nV;have hT5:=aYD;clear aYD;obtain⟨IJ,aYD⟩:=aJ BK hT5;clear BK hT5;go_wp2_with fail
  refine Mid.mk ⟨HS.o,?_⟩;refine jZ [8,9] 2 aF aI aF aF aF HS.o ?_;simp only[jW,aW,aX,aU,aV];iterate 2 (go_big_quiet_step (fail))
  refine wpQuiet_nil ?_;refine jX 10 1 aF aF ?_;simp only[jW,aW,aX,aU,aV];go_wp2_with fail
  have bG:=kG.new w5 134 #[.int .i64 o,.slice a5 zn c5,.slice none 0 0,.slice none 0 0,.slice none 0 0,.slice none 0 0,.slice none 0 0,.slice none 0 0];have kU:=aD w5 (.cells #[.int .i64 o,.slice a5 zn c5,.slice none 0 0,.slice none 0 0,.slice none 0 0,.slice none 0 0,.slice none 0 0,.slice none 0 0] 134);obtain⟨w6,hw6⟩:∃X,w5.alloc (.cells #[.int .i64 o,.slice a5 zn c5,.slice none 0 0,.slice none 0 0,.slice none 0 0,.slice none 0 0,.slice none 0 0,.slice none 0 0] 134)=X:=⟨_,rfl⟩;rw[hw6]at bG kU;rw[hw6];have h46:=IJ.o.tm kU;have hT6:=aYD.o.keep (Kp.later kU);have bT6:=b5F.o.late h46;have bR6:=QT.o.late h46;have PY:=qX.o.tm h46;have hgr:w.heap.size+2≤w5.heap.size:=by have:=QT.o.lt;have:=IJ.o.size;omega
  obtain⟨gr,bFJ⟩:∃k,w5.heap.size=k:=⟨_,rfl⟩;rw[bFJ]at bG hgr;try rw[bFJ]
  have HS:=aA (jV.o _ h46);have hE6:NA w.heap.size w6 (xkO o ds 0) ⟨a5,zn,c5,none,0,0,none,0,0,none,0,0,none,0,0,none,0,0,none,0,0⟩:=
   ⟨hT6,wN _ _ _,wN _ _ _,wN _ _ _,wN _ _ _,lC _ _ _ _,lC _ _ _ _⟩
  have x6:=late h46 r9.o x1'.o;have m6:=bT6.cell (i:=1) rfl;clear hT6 kU h46 hw6 bFJ;obtain⟨bG',aRL,a0M,BQ,TG,b4U⟩:=aN bG bT6 bR6 PY hgr hE6;clear bG bT6 bR6 PY hgr hE6;refine Mid.mk ⟨HS.o,?_⟩;refine jX 11 0 aF aF ?_;simp only[jW,aW,aX,aU,aV];go_wp2_with fail
  refine Mid.mk ⟨HS.o,?_⟩;refine kH aF ?_;clear k0 k1 k2 HD pQ kD jV b5F QT qX aYD IJ x1' r9 e1;obtain⟨dsz,hS,qU,hDs⟩:=b8A.o.subs;have aCP:=hS.xZ qV aH;clear b8A;obtain⟨hS',yB,b54,aGK⟩:=aL hS qU hDs aCP;clear hS qU hDs aCP;go_wp2_with fail
  clear x6 m6;go_loopw [31] (fun iv wr=>∃(i:Nat) (Ai:ExA),i≤sn∧iv= .int .i64 i∧Hid (kG wr gr 134 (VT o Ai))∧Hid (NA w.heap.size wr (xkO o ds i) Ai)∧Hid (kG wr w.heap.size 39 #[.int .i64 o,.slice (some ⟨b0,o0,none⟩) dn dc])∧
   Hid (kG wr (w.heap.size+1) 61 #[.int .i64 0,.slice none 0 0,.slice none 0 0,.slice none 0 0,.slice none 0 0,.slice none 0 0,.slice none 0 0,.slice none 0 0])∧Hid (Below w.heap.size w wr)∧Hid (∀j,j<i→NoB ds j)) (fun iv _=>sn - (intOf iv).toNat)
  case atStart=>exact⟨0,_,by omega,rfl,bG',b4U,aRL,a0M,BQ,aA (fun j hj=>by omega)⟩
  case round=>
   clear bG' b4U aRL a0M BQ;obtain⟨i,Ai,hi,rfl,hBr,hEr,bTr,bRr,h0r,hnb⟩:=hrel;obtain⟨z1,z2,z3,p1,p2,p3,g1,g2,g3,i1,i2,i3,f1,f2,f3,m1,m2,m3,t1,t2,t3⟩:=Ai;have UC:sn≤9223372036854775807:=bU hS'.o.le hS'.o.max;by_cases kY:i<sn
   ·have CY:(i:Int)<sn:=by omega
    have hww:IntKind.i64.wrap ((i:Int)+1)=i+1:=by rw[bJ];omega
    have rC:i<dsz.length:=by rw[aGK.o];exact kY
    have hid:i<(ds.getD 0 (kS 16)).2.1.length:=by rw[←yB.o];exact rC
    obtain⟨xb,xo,rfl,xL,fe⟩:=(hS'.o.mono h0r.o).elem qV aH (0,dzz) kY;rw[kF rC]at fe;obtain⟨hq1,rH⟩:=b54.o i rC hid;obtain⟨ua,un,uc,ra,rn,rc,xa,xn,xc,hv⟩:=rH.v;have g0':=fe 0 _ rfl;have g1':=fe 1 _ rfl;have g2':=fe 2 _ rfl;have g3':=fe 3 _ rfl;simp only[dB]at g0' g1' g2' g3';clear fe;rw[hv]at rH g1' g2' g3';rw[hq1]at g0';simp only at g0' g1' g2' g3';obtain⟨su,hsu⟩:∃s,(rR ds).getD i (0,kS 15)=s:=⟨_,rfl⟩;have QV:(ds.getD 0 (kS 16)).2.1[i]=su:=by rw[←hsu];exact(kF hid _).symm
    rw[QV]at g0' rH;have aIF:su∈rR ds:=by rw[←QV];exact bP _
    have bTS:=SS WG.o.h0 su aIF;have bNE:i<(rR ds).length:=hid;have bBF:=rH.row;obtain⟨yt,hyt⟩:∃y,su.1=y:=⟨_,rfl⟩;rw[hyt]at g0';have bS:=kG.new wr 28 #[.int .i64 yt,.slice ua un uc,.slice ra rn rc,.slice xa xn xc];have kU:=aD wr (.cells #[.int .i64 yt,.slice ua un uc,.slice ra rn rc,.slice xa xn xc] 28);obtain⟨ws,OH⟩:∃X,wr.alloc (.cells #[.int .i64 yt,.slice ua un uc,.slice ra rn rc,.slice xa xn xc] 28)=X:=⟨_,rfl⟩;rw[OH]at bS kU;obtain⟨gs,GZ⟩:∃k,wr.heap.size=k:=⟨_,rfl⟩;rw[GZ]at bS;have s0:=bS.cell (i:=0) rfl;have s1:=bS.cell (i:=1) rfl;have s2:=bS.cell (i:=2) rfl;have s3:=bS.cell (i:=3) rfl;have h0s:=h0r.o.tm kU;have hBs:=hBr.o.late kU;have IW:=hEr.o.later kU;have bTs:=bTr.o.late kU;have bRs:=bRr.o.late kU;clear hq1 hv xL kU bS hBr hEr bTr bRr h0r QV;obtain⟨b5G,aLD,a2M,JQ,aGP,a01,bNF,b5H,b85,b5A,b2A,b8B⟩:=aT hsu OH GZ h0s hBs IW bTs bRs rC hid aIF bNE;obtain⟨aYE,bNG,L9⟩:=aK bBF hyt rH;clear hsu OH GZ h0s hBs IW bTs bRs rC hid aIF bNE bBF hyt rH;go_upto_region 7 with fail
    try rw[a2M.o]
    try rw[aLD.o]
    clear g0' g1' g2' g3';rcases bTS with ⟨hy,hK⟩|⟨hy,hK⟩
    ·have hy2:yt=34665:=bNG.o.symm.trans hy;subst hy2;have hP:=aLA w ws gr (xkO o ds i) ⟨z1,z2,z3,p1,p2,p3,g1,g2,g3,i1,i2,i3,f1,f2,f3,m1,m2,m3,t1,t2,t3⟩ su.2 (.slice ua un uc,.slice ra rn rc,.slice xa xn xc) JQ.o (show w.heap.size≤gr by have:=TG.o;omega) (by rw[b86];exact aGP.o) a01.o L9.o hK.rt (YO hK) (QW hK) (fun s hs=>⟨YO (NE hK s hs).2,QW (NE hK s hs).2⟩);rw[b86]at hP;obtain⟨hy',hK',hP'⟩:=aK hy hK hP;clear hy hK hP;go_wp2_with fail
     refine hP'.o.mono ?_;rintro e w8 ⟨h08,aCS,nW⟩;have bT8:=bNF.o.but aCS (show w.heap.size≠gr by have:=TG.o;omega);have bR8:=b5H.o.but aCS (show w.heap.size+1≠gr by have:=TG.o;omega);obtain⟨nb,aLG⟩:∃q,yP (pI su.2.1 37500)=q:=⟨_,rfl⟩;rw[aLG]at nW;clear aCS s0 s1 s2 s3;cases nb with
     |true=>
      rw[if_pos rfl]at nW;subst nW;have hc:=b5C a2I.o (by rw[aA3 WG.o b2A.o hy'.o];exact aLG);obtain⟨KU,a2J,aYF,bNH,bFE⟩:=aM hc bR8 h08 aLG bT8;clear hc bR8 h08 aLG bT8;go_wp2_with (refine wpList_store_row rfl 61 (.tmp 2) (.tmp 51) rfl (w.heap.size+1) #[.int .i64 0,.slice none 0 0,.slice none 0 0,.slice none 0 0,.slice none 0 0,.slice none 0 0,.slice none 0 0,.slice none 0 0] rfl rfl 61 _ a2J.o aF rfl aF ?_)
      refine bodyPost_ret (kJ rfl _ _ (w.heap.size+1) 61 #[.int .i64 0,.slice none 0 0,.slice none 0 0,.slice none 0 0,.slice none 0 0,.slice none 0 0,.slice none 0 0,.slice none 0 0] _ rfl (a2J.o.row _) Tryz.underlying61 rfl aF) rfl ?_;refine⟨aKT,?_,?_,kN aYF.o (dX _ 1) _⟩
      ·rw[KU.o.2,KU.o.1];rfl
      ·rw[KU.o.2];exact NA.zero _ _
     |false=>
      rw[if_neg aH]at nW;obtain⟨rfl,A8,hB8,hE8⟩:=nW;have a7A:NA w.heap.size w8 (xkO o ds (i+1)) A8:=by
       rw[aGH b8B.o,b5G.o];unfold NT;rw[if_neg (by rw[hy'.o];decide)];exact hE8
      have aYG:∀j,j<i+1→NoB ds j:=fun j hj=>by
       by_cases IB:j=i
       ·subst IB;right;rw[b5G.o];exact aLG
       ·exact hnb.o j aG
      clear hE8;obtain⟨bFK,a7B,a2J,aYF,bNH,bFE,aYH⟩:=aO hB8 a7A bR8 h08 aLG bT8 aYG;clear hB8 a7A bR8 h08 aLG bT8 aYG;go_wp2_with fail
      go_roundw
      case rel=>exact⟨i+1,A8,by omega,by go_num,bFK,a7B,bFE,a2J,aYF,aYH⟩
      case measure=>simp[intOf];omega
    ·have hy2:yt=34853:=bNG.o.symm.trans hy;subst hy2;have hOw:=zK ua un uc su.2.1 ws (aYE.o.mono JQ.o) (by have:=aYE.o.len;have:=YO hK;omega) (QW hK);obtain⟨hy',hK',aLE⟩:=aK hy hK hOw;clear hy hK hOw;go_wp2_with fail
     refine aLE.o.mono ?_;rintro e w8 ⟨a8,c8,rfl,hT8,rW⟩;have hB8:kG w8 gr 134 #[.int .i64 o,.slice z1 z2 z3,.slice p1 p2 p3,.slice g1 g2 g3,.slice i1 i2 i3,.slice f1 f2 f3,.slice m1 m2 m3,.slice t1 t2 t3]:=aGP.o.late rW;have hE8:=a01.o.later rW;have h08:=JQ.o.tm rW;have hT8:=hT8.mono JQ.o.size;have p3':=hB8.cell (i:=3) rfl;have u3':=hB8.frozen 3;have hB9:kG (w8.setCell ⟨gr,3,none⟩ (.slice a8 un c8)) gr 134 #[.int .i64 o,.slice z1 z2 z3,.slice p1 p2 p3,.slice a8 un c8,.slice i1 i2 i3,.slice f1 f2 f3,.slice m1 m2 m3,.slice t1 t2 t3]:=hB8.set 3 _;have VW:=(But.refl gr w8).set 3 (.slice a8 un c8);have hE9:=hE8.but VW hB8 aH aH;have hT9:=vL hT8 VW hB8 aH aH;have a7A:NA w.heap.size (w8.setCell ⟨gr,3,none⟩ (.slice a8 un c8)) (xkO o ds (i+1)) ⟨z1,z2,z3,p1,p2,p3,a8,un,c8,i1,i2,i3,f1,f2,f3,m1,m2,m3,t1,t2,t3⟩:=by
      rw[aGH b8B.o,b5G.o];unfold NT;rw[if_pos hy'.o];exact⟨hE9.z,hE9.p,hT9,hE9.i,hE9.f,hE9.mr,hE9.th⟩
     have h09:=h08.setCell (p:=⟨gr,3,none⟩) (show w.heap.size≤gr by have:=TG.o;omega) (.slice a8 un c8);have bT9:=(bNF.o.late rW).but VW (show w.heap.size≠gr by have:=TG.o;omega);have bR9:=(b5H.o.late rW).but VW (show w.heap.size+1≠gr by have:=TG.o;omega);have aYG:∀j,j<i+1→NoB ds j:=fun j hj=>by
      by_cases IB:j=i
      ·subst IB;left;rw[b5G.o];exact hy'.o
      ·exact hnb.o j aG
     clear hE8 hE9 hT9 hT8 rW hB8 h08 VW;obtain⟨aY8,a7B,aY9,aCQ,aCN,aYH⟩:=aN hB9 a7A h09 bT9 bR9 aYG;clear hB9 a7A h09 bT9 bR9 aYG;go_wp2_with fail
     go_roundw
     case rel=>exact⟨i+1,⟨z1,z2,z3,p1,p2,p3,a8,un,c8,i1,i2,i3,f1,f2,f3,m1,m2,m3,t1,t2,t3⟩,by omega,by go_num,aY8,a7B,aCQ,aCN,aY9,aYH⟩
     case measure=>simp[intOf];omega
   ·obtain rfl:i=sn:=by omega
    have hdi:decide ((i:Int)<(i:Int))=false:=by simp
    have hlO:(rR ds).length=i:=by rw[←aGK.o,yB.o,c1N.o]
    have bNI:=bNA WG.o (fun s hs=>by
     obtain⟨j,hj,e⟩:=zH hs (0,kS 15);rw[←e];exact hnb.o j aG)
    have hte:=aX7 WG.o;rw[hlO]at hte;obtain⟨X,hX⟩:=aC (xkO o ds i);have hXf:X.f= []∧X.th= []:=by rw[←hX];exact bNC o ds i
    rw[hX]at hte hEr;have m1':=bTr.o.cell (i:=1) rfl;have b51:(1:Int)≤dn:=by omega
    have c68:dn≤dc:=zO.o.le;have c69:(1:Int)≤dc:=by omega
    have c6A:(dn:Int)≤dc:=by omega
    have bNJ:ds.length=dn:=by rw[←oC.o];exact FQ.o
    clear hlO hnb hX;obtain⟨aYI,bNK,bXZ,aA6⟩:=aL bNI hte hXf bNJ;clear bNI hte hXf bNJ;go_upto_region 12 with fail
    rcases(by have:=WG.o.len;have:=aA6.o;omega:dn=1∨dn=2)with rfl|rfl
    ·have hA1:=aRP aA6.o bXZ.o bNK.o;rw[←hA1]at hEr;clear hA1;by_cases hdc:dc=1
     ·subst hdc;go_wp2_with fail
      go_loopw [57] (fun iv wx=>iv= .int .i64 0∧wx=wr) (fun _ _=>0)
      case atStart=>exact⟨rfl,rfl⟩
      case round=>
       obtain⟨rfl,rfl⟩:=hrel;have QY:=yH (wX 16 o ds) ⟨z1,z2,z3,p1,p2,p3,g1,g2,g3,i1,i2,i3,f1,f2,f3,m1,m2,m3,t1,t2,t3⟩ wr hEr.o.rd (aYC WG.o vR.o).wf;have hto:(wX 16 o ds).o=o:=rfl;rw[hto]at QY;simp only[exV,VT]at QY;obtain⟨ck,hce⟩:∃c,lU (wX 16 o ds)=c:=⟨_,rfl⟩;rw[hce]at QY;have UH:kG wr gr 134 #[.int .i64 o,.slice z1 z2 z3,.slice p1 p2 p3,.slice g1 g2 g3,.slice i1 i2 i3,.slice f1 f2 f3,.slice m1 m2 m3,.slice t1 t2 t3]:=hBr.o;have q0:=UH.cell (i:=0) rfl;have q1:=UH.cell (i:=1) rfl;have q2:=UH.cell (i:=2) rfl;have q3:=UH.cell (i:=3) rfl;have q4:=UH.cell (i:=4) rfl;have q5:=UH.cell (i:=5) rfl;have q6:=UH.cell (i:=6) rfl;have q7:=UH.cell (i:=7) rfl;obtain⟨aGR,aGS⟩:=aJ QY hce;clear QY hce;go_wp2_with fail
       refine aGR.o.mono ?_;rintro e wc ⟨rfl,hbc⟩;have hRc:=bRr.o.late hbc;have h0c:=h0r.o.tm hbc;have hEc:=hEr.o.later hbc;have QZ:=UH.late hbc;clear q0 q1 q2 q3 q4 q5 q6 q7 hbc UH hto;by_cases UD:ck=0
       ·subst UD;have e9:((0:Int) != 0)=false:=rfl;have hz:=a7C a2I.o aYI.o aGS.o;have q0:=QZ.cell (i:=0) rfl;have q1:=QZ.cell (i:=1) rfl;have q2:=QZ.cell (i:=2) rfl;have q3:=QZ.cell (i:=3) rfl;have q4:=QZ.cell (i:=4) rfl;have q5:=QZ.cell (i:=5) rfl;have q6:=QZ.cell (i:=6) rfl;have q7:=QZ.cell (i:=7) rfl;obtain⟨M6,a7F,aYJ,bNL,GX⟩:=aM hRc h0c hEc QZ hz;clear hRc h0c hEc QZ hz;go_wp2_with (refine wpList_store_row rfl 61 (.tmp 2) (.tmp 86) rfl (w.heap.size+1) #[.int .i64 o,.slice z1 z2 z3,.slice p1 p2 p3,.slice g1 g2 g3,.slice i1 i2 i3,.slice f1 f2 f3,.slice m1 m2 m3,.slice t1 t2 t3] rfl rfl 61 _ M6.o aF rfl aF ?_)
        refine bodyPost_ret (kJ rfl _ _ (w.heap.size+1) 61 #[.int .i64 o,.slice z1 z2 z3,.slice p1 p2 p3,.slice g1 g2 g3,.slice i1 i2 i3,.slice f1 f2 f3,.slice m1 m2 m3,.slice t1 t2 t3] _ rfl (M6.o.row _) Tryz.underlying61 rfl aF) rfl ?_;refine⟨⟨z1,z2,z3,p1,p2,p3,g1,g2,g3,i1,i2,i3,f1,f2,f3,m1,m2,m3,t1,t2,t3⟩,?_,?_,kN a7F.o (dX _ 1) _⟩
        ·rw[GX.o.2,GX.o.1];rfl
        ·rw[GX.o.2];exact NA.but aYJ.o (a3A wc _) M6.o aH aH
       ·have e9:(ck != 0)=true:=by simpa using UD
        have hc:=aCT a2I.o (by rw[aGS.o];exact UD);clear UD QZ hEc;obtain⟨M6,a7F,KU⟩:=aK hRc h0c hc;clear hRc h0c hc;go_wp2_with (refine wpList_store_row rfl 61 (.tmp 2) (.tmp 82) rfl (w.heap.size+1) #[.int .i64 0,.slice none 0 0,.slice none 0 0,.slice none 0 0,.slice none 0 0,.slice none 0 0,.slice none 0 0,.slice none 0 0] rfl rfl 61 _ M6.o aF rfl aF ?_)
        refine bodyPost_ret (kJ rfl _ _ (w.heap.size+1) 61 #[.int .i64 0,.slice none 0 0,.slice none 0 0,.slice none 0 0,.slice none 0 0,.slice none 0 0,.slice none 0 0,.slice none 0 0] _ rfl (M6.o.row _) Tryz.underlying61 rfl aF) rfl ?_;refine⟨aKT,?_,?_,kN a7F.o (dX _ 1) _⟩
        ·rw[KU.o.2,KU.o.1];rfl
        ·rw[KU.o.2];exact NA.zero _ _
     ·skip
      go_wp2_with fail
      go_loopw [57] (fun iv wx=>iv= .int .i64 0∧wx=wr) (fun _ _=>0)
      case atStart=>exact⟨rfl,rfl⟩
      case round=>
       obtain⟨rfl,rfl⟩:=hrel;have QY:=yH (wX 16 o ds) ⟨z1,z2,z3,p1,p2,p3,g1,g2,g3,i1,i2,i3,f1,f2,f3,m1,m2,m3,t1,t2,t3⟩ wr hEr.o.rd (aYC WG.o vR.o).wf;have hto:(wX 16 o ds).o=o:=rfl;rw[hto]at QY;simp only[exV,VT]at QY;obtain⟨ck,hce⟩:∃c,lU (wX 16 o ds)=c:=⟨_,rfl⟩;rw[hce]at QY;have UH:kG wr gr 134 #[.int .i64 o,.slice z1 z2 z3,.slice p1 p2 p3,.slice g1 g2 g3,.slice i1 i2 i3,.slice f1 f2 f3,.slice m1 m2 m3,.slice t1 t2 t3]:=hBr.o;have q0:=UH.cell (i:=0) rfl;have q1:=UH.cell (i:=1) rfl;have q2:=UH.cell (i:=2) rfl;have q3:=UH.cell (i:=3) rfl;have q4:=UH.cell (i:=4) rfl;have q5:=UH.cell (i:=5) rfl;have q6:=UH.cell (i:=6) rfl;have q7:=UH.cell (i:=7) rfl;obtain⟨aGR,aGS⟩:=aJ QY hce;clear QY hce;go_wp2_with fail
       refine aGR.o.mono ?_;rintro e wc ⟨rfl,hbc⟩;have hRc:=bRr.o.late hbc;have h0c:=h0r.o.tm hbc;have hEc:=hEr.o.later hbc;have QZ:=UH.late hbc;clear q0 q1 q2 q3 q4 q5 q6 q7 hbc UH hto;by_cases UD:ck=0
       ·subst UD;have e9:((0:Int) != 0)=false:=rfl;have hz:=a7C a2I.o aYI.o aGS.o;have q0:=QZ.cell (i:=0) rfl;have q1:=QZ.cell (i:=1) rfl;have q2:=QZ.cell (i:=2) rfl;have q3:=QZ.cell (i:=3) rfl;have q4:=QZ.cell (i:=4) rfl;have q5:=QZ.cell (i:=5) rfl;have q6:=QZ.cell (i:=6) rfl;have q7:=QZ.cell (i:=7) rfl;obtain⟨M6,a7F,aYJ,bNL,GX⟩:=aM hRc h0c hEc QZ hz;clear hRc h0c hEc QZ hz;go_wp2_with (refine wpList_store_row rfl 61 (.tmp 2) (.tmp 86) rfl (w.heap.size+1) #[.int .i64 o,.slice z1 z2 z3,.slice p1 p2 p3,.slice g1 g2 g3,.slice i1 i2 i3,.slice f1 f2 f3,.slice m1 m2 m3,.slice t1 t2 t3] rfl rfl 61 _ M6.o aF rfl aF ?_)
        refine bodyPost_ret (kJ rfl _ _ (w.heap.size+1) 61 #[.int .i64 o,.slice z1 z2 z3,.slice p1 p2 p3,.slice g1 g2 g3,.slice i1 i2 i3,.slice f1 f2 f3,.slice m1 m2 m3,.slice t1 t2 t3] _ rfl (M6.o.row _) Tryz.underlying61 rfl aF) rfl ?_;refine⟨⟨z1,z2,z3,p1,p2,p3,g1,g2,g3,i1,i2,i3,f1,f2,f3,m1,m2,m3,t1,t2,t3⟩,?_,?_,kN a7F.o (dX _ 1) _⟩
        ·rw[GX.o.2,GX.o.1];rfl
        ·rw[GX.o.2];exact NA.but aYJ.o (a3A wc _) M6.o aH aH
       ·have e9:(ck != 0)=true:=by simpa using UD
        have hc:=aCT a2I.o (by rw[aGS.o];exact UD);clear UD QZ hEc;obtain⟨M6,a7F,KU⟩:=aK hRc h0c hc;clear hRc h0c hc;go_wp2_with (refine wpList_store_row rfl 61 (.tmp 2) (.tmp 82) rfl (w.heap.size+1) #[.int .i64 0,.slice none 0 0,.slice none 0 0,.slice none 0 0,.slice none 0 0,.slice none 0 0,.slice none 0 0,.slice none 0 0] rfl rfl 61 _ M6.o aF rfl aF ?_)
        refine bodyPost_ret (kJ rfl _ _ (w.heap.size+1) 61 #[.int .i64 0,.slice none 0 0,.slice none 0 0,.slice none 0 0,.slice none 0 0,.slice none 0 0,.slice none 0 0,.slice none 0 0] _ rfl (M6.o.row _) Tryz.underlying61 rfl aF) rfl ?_;refine⟨aKT,?_,?_,kN a7F.o (dX _ 1) _⟩
        ·rw[KU.o.2,KU.o.1];rfl
        ·rw[KU.o.2];exact NA.zero _ _
    ·have hdc:¬dc=1:=by omega
     have hd2:=WG.o.h1 aA6.o;have hD1:=b87.o 1 (by have:=FQ.o;omega) (by have:=aA6.o;omega);obtain⟨va,vn,vc,qa,qn,qc,ea,en,ec,hv1⟩:=hD1.v;have qC:wU.getD 1 dzz=wU[1]'(by have:=FQ.o;omega):=kF _ _;have aGT:ds.getD 1 (kS 16)=ds[1]'(by have:=aA6.o;omega):=kF _ _;have aLH:=EJ (ds[1]'(by have:=aA6.o;omega)) (bP _);rw[hv1]at hD1 qC;rw[←aGT]at hD1 aLH;obtain⟨b0',o0',hbe,aG9,fe⟩:=(zO.o.mono h0r.o).elem qW aH dzz (show 1<2 by omega);injection hbe with hbe;injection hbe with e1' e2' e3';subst e1' e2';rw[qC]at fe;have y0:=fe 0 _ rfl;have y1:=fe 1 _ rfl;have y2:=fe 2 _ rfl;simp only[Nat.one_mul,dB,Nat.add_assoc,Nat.reduceAdd]at y0 y1 y2;have aYK:=hD1.row;have bFL:=hD1.blob;have hen:en≤1000000:=by have h1:=aLH.2.1;have:=bFL.p9;omega
     have hvn:vn≤1000000:=by have h1:=aLH.1;have:=aYK.len;omega
     have bNM:=QW hd2;clear fe hv1 qC aGT aLH hD1 hd2;obtain⟨bFM,bNN,b26,bY0,bNO,c3D⟩:=aN aYK bFL hen hvn bNM aG9;clear aYK bFL hen hvn bNM aG9;go_wp2_with fail
     go_loopw [57] (fun iv wx=>(iv= .int .i64 0∧wx=wr)∨(iv= .int .i64 1∧∃(x1:Option Addr) (x2 x3:Nat) (x4:Option Addr) (x5 x6:Nat),Hid (kG wx gr 134 #[.int .i64 o,.slice z1 z2 z3,.slice p1 p2 p3,.slice g1 g2 g3,.slice i1 i2 i3,.slice x1 x2 x3,.slice m1 m2 m3,.slice x4 x5 x6])∧
      Hid (NA w.heap.size wx (wX 16 o ds) ⟨z1,z2,z3,p1,p2,p3,g1,g2,g3,i1,i2,i3,x1,x2,x3,m1,m2,m3,x4,x5,x6⟩)∧Hid (kG wx (w.heap.size+1) 61 #[.int .i64 0,.slice none 0 0,.slice none 0 0,.slice none 0 0,.slice none 0 0,.slice none 0 0,.slice none 0 0,.slice none 0 0])∧Hid (Below w.heap.size w wx))) (fun iv _=>1 - (intOf iv).toNat)
     case atStart=>exact .inl ⟨rfl,rfl⟩
     case round=>
      rcases hrel with ⟨rfl,rfl⟩|⟨rfl,x1,x2,x3,x4,x5,x6,hBz,hEz,hRz,h0z⟩
      ·have bD:=kG.new wr 26 #[.slice va vn vc,.slice qa qn qc,.slice ea en ec];have kU:=aD wr (.cells #[.slice va vn vc,.slice qa qn qc,.slice ea en ec] 26);obtain⟨ws,OH⟩:∃Y,wr.alloc (.cells #[.slice va vn vc,.slice qa qn qc,.slice ea en ec] 26)=Y:=⟨_,rfl⟩;rw[OH]at bD kU;have JJ:gr<wr.heap.size:=hBr.o.lt;obtain⟨gd,UA⟩:∃k,wr.heap.size=k:=⟨_,rfl⟩;rw[UA]at bD JJ;have h0s:=h0r.o.tm kU;have hBs:kG ws gr 134 #[.int .i64 o,.slice z1 z2 z3,.slice p1 p2 p3,.slice g1 g2 g3,.slice i1 i2 i3,.slice f1 f2 f3,.slice m1 m2 m3,.slice t1 t2 t3]:=hBr.o.late kU;have IW:=hEr.o.later kU;have bRs:=bRr.o.late kU;have hOw:=fun W (hb:Below w.heap.size w W)=>zK va vn vc (ds.getD 1 (kS 16)).1 W (bFM.o.mono hb) bY0.o bNO.o;have hCl:=fun W (hb:Below w.heap.size w W)=>ET ea en ec (ds.getD 1 (kS 16)).2.2 W (bNN.o.mono hb) (by have:=b26.o;omega);obtain⟨Ty,ff,pQ,xY,kE⟩:=V5 gr ws;have HD:=aA ((bF ws.heap.size ws).drew);have HS:=aA (kE _ (But.of_below HD.o));have OG:gd≠gr:=by omega
       have k0:=fun s=>(bD.but (xY s) OG).cell (i:=0) rfl;have k2:=fun s=>(bD.but (xY s) OG).cell (i:=2) rfl;clear kU;obtain⟨bD',aLD,c6B,OI,JQ,aGP,a01,b5H,aLE,bY4,aMU,jV⟩:=aT bD OH JJ UA h0s hBs IW bRs hOw hCl xY kE;have b7R:=aA OG;clear bD OH JJ UA h0s hBs IW bRs hOw hCl xY kE OG;go_upto_region 15 with fail
       try rw[OI.o]
       try rw[aLD.o]
       clear y0 y1 y2;refine kR (S:=fun W=>∃s,W=ff s) aF 16 rfl ?_;obtain⟨wD,xB⟩:∃Y,ws.drew=Y:=⟨_,rfl⟩;rw[xB]at HS HD ⊢;clear xB;refine jZ [0,1,2,3,5,6] 10 aF aI aF aF aF HS.o ?_;simp only[jW,aW,aX,aU,aV];iterate 6 (go_big_quiet_step (fail))
       refine wpQuiet_nil ?_;refine jX 4 9 aF aF ?_;simp only[jW,aW,aX,aU,aV];go_wp2_with fail
       refine(aLE.o _ (JQ.o.tm HD.o)).mono ?_;rintro e v5 ⟨a5',c5',rfl,bNP,bNQ⟩;have h5s:=HD.o.tm bNQ;have bNR:=bNP.mono (bU JQ.o.size HD.o.size);have HS5:=aA (jV.o _ (But.of_below h5s));clear bNP bNQ;obtain⟨b5I,bNS⟩:=aJ h5s bNR;clear h5s bNR;go_wp2_with fail
       refine Mid.mk ⟨HS5.o,?_⟩;refine jX 7 8 aF aF ?_;simp only[jW,aW,aX,aU,aV];go_wp2_with fail
       refine(bY4.o _ (JQ.o.tm b5I.o)).mono ?_;rintro e v6 ⟨a6',c6',rfl,bNT,bFN⟩;have h6s:=b5I.o.tm bFN;have HS6:=aA (jV.o _ (But.of_below h6s));have hT6:=bNS.o.keep (Kp.later bFN);have aYL:=lN bNT (bU JQ.o.size b5I.o.size);have Z8:=aGP.o.late h6s;have hE6:=a01.o.later h6s;have bR6:=b5H.o.late h6s;have h06:=JQ.o.tm h6s;have hB7:=Z8.set 5 (.slice a5' vn c5');have hB8:kG ((v6.setCell ⟨gr,5,none⟩ (.slice a5' vn c5')).setCell ⟨gr,7,none⟩ (.slice a6' en c6')) gr 134 #[.int .i64 o,.slice z1 z2 z3,.slice p1 p2 p3,.slice g1 g2 g3,.slice i1 i2 i3,.slice a5' vn c5',.slice m1 m2 m3,.slice a6' en c6']:=hB7.set 7 _;have NG:=(But.refl gr v6).set 5 (.slice a5' vn c5');have aRR:=NG.set 7 (.slice a6' en c6');obtain⟨HS7,HS8⟩:=aJ (jV.o _ ((But.of_below h6s).trans NG)) (jV.o _ ((But.of_below h6s).trans aRR));have hE8:=hE6.but aRR Z8 aH aH;have hT8:=vL hT6 aRR Z8 aH aH;have bNU:=mV aYL aRR (lF aYL Z8 aH);have bR8:=bR6.but aRR (show w.heap.size+1≠gr by have:=TG.o;omega);have hwg:w.heap.size≤gr:=by have:=TG.o;omega
       have h08:=(h06.setCell (p:=⟨gr,5,none⟩) hwg (.slice a5' vn c5')).setCell (p:=⟨gr,7,none⟩) hwg (.slice a6' en c6');have hE9:NA w.heap.size ((v6.setCell ⟨gr,5,none⟩ (.slice a5' vn c5')).setCell ⟨gr,7,none⟩ (.slice a6' en c6')) (wX 16 o ds) ⟨z1,z2,z3,p1,p2,p3,g1,g2,g3,i1,i2,i3,a5',vn,c5',m1,m2,m3,a6',en,c6'⟩:=by
        rw[bNK.o];exact⟨hE8.z,hE8.p,hE8.g,hE8.i,hT8,hE8.mr,bNU⟩
       have l5:=Z8.cell (i:=5) rfl;have w5':=Z8.frozen 5;have l7:=hB7.cell (i:=7) rfl;have w7':=hB7.frozen 7;clear hT6 bNT aYL Z8 hE6 bR6 h06 hB7 NG aRR hE8 hT8 bNU hwg bFN h6s;obtain⟨bFK,bY7,a2J,aYF⟩:=aL hB8 hE9 bR8 h08;clear hB8 hE9 bR8 h08;go_wp2_with fail
       refine Mid.mk ⟨HS6.o,?_⟩;have HS:=HS6;refine jZ [8,9,10] 5 aF aI aF aF aF HS.o ?_;simp only[jW,aW,aX,aU,aV];iterate 3 (go_big_quiet_step (fail))
       refine wpQuiet_nil ?_;refine jX 11 4 aF aF ?_;simp only[jW,aW,aX,aU,aV];go_wp2_with fail
       refine Mid.mk ⟨HS7.o,?_⟩;have HS:=HS7;refine jZ [12,13,14] 1 aF aI aF aF aF HS.o ?_;simp only[jW,aW,aX,aU,aV];iterate 3 (go_big_quiet_step (fail))
       refine wpQuiet_nil ?_;refine jX 15 0 aF aF ?_;simp only[jW,aW,aX,aU,aV];go_wp2_with fail
       refine Mid.mk ⟨HS8.o,?_⟩;refine kH aF ?_;clear k0 k2 l5 w5' l7 w7' HD HS HS5 HS6 HS7 HS8;generalize (v6.setCell ⟨gr,5,none⟩ (.slice a5' vn c5')).setCell ⟨gr,7,none⟩ (.slice a6' en c6')=v8 at*;go_wp2_with fail
       go_roundw
       case rel=>exact .inr ⟨by go_num,a5',vn,c5',a6',en,c6',bFK,bY7,a2J,aYF⟩
       case measure=>simp[intOf]
      ·clear y0 y1 y2;rename World=>wz
       have QY:=yH (wX 16 o ds) ⟨z1,z2,z3,p1,p2,p3,g1,g2,g3,i1,i2,i3,x1,x2,x3,m1,m2,m3,x4,x5,x6⟩ wz hEz.o.rd (aYC WG.o vR.o).wf;have hto:(wX 16 o ds).o=o:=rfl;rw[hto]at QY;simp only[exV,VT]at QY;obtain⟨ck,hce⟩:∃c,lU (wX 16 o ds)=c:=⟨_,rfl⟩;rw[hce]at QY;have UH:kG wz gr 134 #[.int .i64 o,.slice z1 z2 z3,.slice p1 p2 p3,.slice g1 g2 g3,.slice i1 i2 i3,.slice x1 x2 x3,.slice m1 m2 m3,.slice x4 x5 x6]:=hBz.o;have q0:=UH.cell (i:=0) rfl;have q1:=UH.cell (i:=1) rfl;have q2:=UH.cell (i:=2) rfl;have q3:=UH.cell (i:=3) rfl;have q4:=UH.cell (i:=4) rfl;have q5:=UH.cell (i:=5) rfl;have q6:=UH.cell (i:=6) rfl;have q7:=UH.cell (i:=7) rfl;obtain⟨aGR,aGS⟩:=aJ QY hce;clear QY hce;go_wp2_with fail
       refine aGR.o.mono ?_;rintro e wc ⟨rfl,hbc⟩;have hRc:=hRz.o.late hbc;have h0c:=h0z.o.tm hbc;have hEc:=hEz.o.later hbc;have QZ:=UH.late hbc;clear q0 q1 q2 q3 q4 q5 q6 q7 hbc UH hto;by_cases UD:ck=0
       ·subst UD;have e9:((0:Int) != 0)=false:=rfl;have hz:=a7C a2I.o aYI.o aGS.o;have q0:=QZ.cell (i:=0) rfl;have q1:=QZ.cell (i:=1) rfl;have q2:=QZ.cell (i:=2) rfl;have q3:=QZ.cell (i:=3) rfl;have q4:=QZ.cell (i:=4) rfl;have q5:=QZ.cell (i:=5) rfl;have q6:=QZ.cell (i:=6) rfl;have q7:=QZ.cell (i:=7) rfl;obtain⟨M6,a7F,aYJ,bNL,GX⟩:=aM hRc h0c hEc QZ hz;clear hRc h0c hEc QZ hz;go_wp2_with (refine wpList_store_row rfl 61 (.tmp 2) (.tmp 86) rfl (w.heap.size+1) #[.int .i64 o,.slice z1 z2 z3,.slice p1 p2 p3,.slice g1 g2 g3,.slice i1 i2 i3,.slice x1 x2 x3,.slice m1 m2 m3,.slice x4 x5 x6] rfl rfl 61 _ M6.o aF rfl aF ?_)
        refine bodyPost_ret (kJ rfl _ _ (w.heap.size+1) 61 #[.int .i64 o,.slice z1 z2 z3,.slice p1 p2 p3,.slice g1 g2 g3,.slice i1 i2 i3,.slice x1 x2 x3,.slice m1 m2 m3,.slice x4 x5 x6] _ rfl (M6.o.row _) Tryz.underlying61 rfl aF) rfl ?_;refine⟨⟨z1,z2,z3,p1,p2,p3,g1,g2,g3,i1,i2,i3,x1,x2,x3,m1,m2,m3,x4,x5,x6⟩,?_,?_,kN a7F.o (dX _ 1) _⟩
        ·rw[GX.o.2,GX.o.1];rfl
        ·rw[GX.o.2];exact NA.but aYJ.o (a3A wc _) M6.o aH aH
       ·have e9:(ck != 0)=true:=by simpa using UD
        have hc:=aCT a2I.o (by rw[aGS.o];exact UD);clear UD QZ hEc;obtain⟨M6,a7F,KU⟩:=aK hRc h0c hc;clear hRc h0c hc;go_wp2_with (refine wpList_store_row rfl 61 (.tmp 2) (.tmp 82) rfl (w.heap.size+1) #[.int .i64 0,.slice none 0 0,.slice none 0 0,.slice none 0 0,.slice none 0 0,.slice none 0 0,.slice none 0 0,.slice none 0 0] rfl rfl 61 _ M6.o aF rfl aF ?_)
        refine bodyPost_ret (kJ rfl _ _ (w.heap.size+1) 61 #[.int .i64 0,.slice none 0 0,.slice none 0 0,.slice none 0 0,.slice none 0 0,.slice none 0 0,.slice none 0 0,.slice none 0 0] _ rfl (M6.o.row _) Tryz.underlying61 rfl aF) rfl ?_;refine⟨aKT,?_,?_,kN a7F.o (dX _ 1) _⟩
        ·rw[KU.o.2,KU.o.1];rfl
        ·rw[KU.o.2];exact NA.zero _ _
