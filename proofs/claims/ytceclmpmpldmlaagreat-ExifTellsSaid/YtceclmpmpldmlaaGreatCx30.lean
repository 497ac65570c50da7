import Derived.Test.YtceclmpmpldmlaaGreatCx25
set_option linter.unusedSimpArgs false
set_option linter.unusedVariables false
set_option maxRecDepth 100000
set_option maxHeartbeats 8000000
namespace Go.Proofs.YtceclmpmpldmlaaGreat
open Go.RowKit Tt
def VQ:(f:Nat)→jR f→Prop
 |0,_=>True
 |f+1,d=>(∀t∈d.1,t.2.2.2.length≤1000000)∧∀s∈d.2.1,VQ f s.2
def b8H (f:Nat):Prop:=∀(w0 w:World) (d:jR f) (dv:Dz),wH w0 f d dv→Below w0.heap.size w0 w→lN f d→VQ f d→
 Calls Tryz.prog 76 #[.agg #[dv.1,dv.2.1,dv.2.2]] w fun e w'=>∃dv':Dz,e= .returned (.agg #[dv'.1,dv'.2.1,dv'.2.2])∧qA DT w.heap.size w' f d dv'∧Below w.heap.size w w'
theorem aDY (f:Nat) (ih:b8H f):b8H (f+1):=by
 intro w0 w d dv hd pW hs aIA;obtain⟨i0,z0,xH,hz,oG,qK,QG⟩:=wL aDK aDL;obtain⟨ta,tn,tc,zs,sa,sn,sc,ds,ba,bn,bc,rfl,A8,G5,nL,oQ,nR,vF⟩:=hd;obtain⟨h1,h2,h3,h4⟩:=hs;have TW:d.1.length=tn:=by rw[G5,bL];exact A8.len
 have AR:d.2.1.length=sn:=by rw[←oQ];exact nL.rP mJ aH
 have pF:d.2.2.length=bn:=vF.nU;have a6D:sn≤500:=by omega
 have bHI:tn≤1000000:=by omega
 have a0D:bn≤140737488355328:=by omega
 have hdz:∀z∈zs,z.2.length≤1000000:=fun z hz=>by
  have:=aIA.1 (l8 z) (by rw[G5];exact fP hz);exact bQ this aH
 obtain⟨WC,hWC,bA,bB,hbC,sC⟩:=nM w 26 #[.slice ta tn tc,.slice sa sn sc,.slice ba bn bc] 26 #[.slice none 0 0,.slice none 0 0,.slice none 0 0];have bHJ:=pW.tm hbC;have bVS:=bA.lt;obtain⟨lF,D8,CW,tX,sH,oW,tL,h4',bHK,aZT,a03,bA'⟩:=aT pW A8 G5 nL oQ nR vF h4 aIA hdz hWC bA;obtain⟨bB',MK,DU,ih',V5,rR,DY⟩:=aO bB hbC bHJ ih TW AR pF;clear pW A8 G5 nL oQ nR vF h4 aIA hdz hWC bA bB hbC bHJ ih TW AR pF;go_enter Tryz.func76,Tryz.ntmps76;go_wp2_with fail
 rw[a03.o];go_cut [3]from 5 to 11 (fun v wx=>∃(g:Nat) (a1:Option Addr) (c1:Nat) (a3:Option Addr) (c3:Nat),v= .pointer (some ⟨g,0,none⟩)∧Hid (jW wx g 26 #[.slice a1 tn c1,.slice none 0 0,.slice a3 bn c3])∧Hid (kX DT (w.heap.size+2) wx (.slice a1 tn c1) d.1)∧Hid (Ck DT (w.heap.size+2) wx (.slice a3 bn c3) 5 1 bn (ints .u8 d.2.2))∧Hid (w.heap.size+2≤g)∧Hid (Below WC.heap.size WC wx))
 case first=>
  obtain⟨Ty,ff,oJ,jN,jK⟩:=kE WC;obtain⟨HS,HD⟩:=aJ (jK _ ((aY _ _).drew)) ((aY WC.heap.size WC).drew);have q0:=fun s=>(bA'.o.late (jN s)).cell (i:=0) rfl;have q2:=fun s=>(bA'.o.late (jN s)).cell (i:=2) rfl;obtain⟨jH,jF⟩:=aJ jN jK;clear jN jK;refine kM (S:=fun W=>∃s,W=ff s) aF 9 rfl ?_;refine jS [0,1,3,4] 5 aF aI aF aF aF HS.o ?_;simp only[jI,aW,aX,aU,aV];iterate 4 (go_big_quiet_step (fail))
  refine wpQuiet_nil ?_;obtain⟨wD,qF⟩:=aC WC.drew;rw[qF]at HS HD ⊢;clear qF;refine yM 2 7 4 aF aF ?_ ?_
  ·simp only[jI,aW,aX,aU,aV];go_wp2_with fail
   refine(LK ta tn tc zs wD (D8.o.mono (DU.o.tm HD.o)) bHI aZT.o).mono ?_;rintro e w2 ⟨a1,c1,rfl,hta,jT⟩;have SY:=HD.o.tm jT;have hta:=hta.mono (show w.heap.size+2≤_ from by rw[←sC];exact HD.o.size);rw[←CW.o]at hta;obtain⟨HS,aZU,CR,mE⟩:=aL (jF.o _ SY) hta SY jT;clear hta SY jT;go_wp2_with fail
   first|refine Mid.mk ⟨HS.o,?_⟩|refine Mid.mk ?_
   refine yM 5 7 3 aF aF ?_ ?_
   ·simp only[jI,aW,aX,aU,aV];go_wp2_with fail
    refine(EG ba bn bc d.2.2 w2 (tL.o.mono (DU.o.tm CR.o)) a0D).mono ?_;rintro e w3 ⟨a3,c3,rfl,G7,jQ⟩;have Y5:=CR.o.tm jQ;have G7:Ck DT (w.heap.size+2) w3 (.slice a3 bn c3) 5 1 bn (ints .u8 d.2.2):=⟨kI G7 (show w.heap.size+2≤_ from by rw[←sC];exact CR.o.size),fun _ _ h=>h⟩;have HS:=aA (jF.o _ Y5);have bHL:=aZU.o.keep (Kp.later jQ);obtain⟨bHM,a3X,aDZ,qN⟩:=aL bHL G7 Y5 jQ;clear bHL G7 Y5 jQ;go_wp2_with fail
    first|refine Mid.mk ⟨HS.o,?_⟩|refine Mid.mk ?_
    refine jS [6] 2 aF aI aF aF aF HS.o ?_;simp only[jI,aW,aX,aU,aV];iterate 1 (go_big_quiet_step (fail))
    refine wpQuiet_nil ?_;refine jJ 7 1 aF aF ?_;simp only[jI,aW,aX,aU,aV];go_wp2_with fail
    have bG:=jW.new w3 26 #[.slice none 0 0,.slice none 0 0,.slice none 0 0];have l9:=aD w3 (.cells #[.slice none 0 0,.slice none 0 0,.slice none 0 0] 26);have T9:=aDZ.o.tm l9;have hNg:w.heap.size+2≤w3.heap.size:=by rw[←sC];exact aDZ.o.size
    obtain⟨g,hg⟩:=aC w3.heap.size;obtain⟨wA,hwA⟩:=aC (w3.alloc (.cells #[.slice none 0 0,.slice none 0 0,.slice none 0 0] 26));rw[hwA]at bG l9 T9;rw[hwA];rw[hg]at bG hNg;try rw[hg]
    have HS:=aA (jF.o _ T9);have aE0:=bHM.o.keep (Kp.later l9);have aE1:=a3X.o.keep (Kp.later l9);have aE2:=T9;obtain⟨vT,aE3,aE4,ZA,oL,RB,aYQ,TQ⟩:=aP bG aE0 aE1 aE2 l9 T9 hwA hg;clear bG aE0 aE1 aE2 l9 T9 hwA hg;first|refine Mid.mk ⟨HS.o,?_⟩|refine Mid.mk ?_
    refine jJ 8 0 aF aF ?_;simp only[jI,aW,aX,aU,aV];have p0:=vT.o.cell (i:=0) rfl;have p1:=vT.o.cell (i:=1) rfl;have p2:=vT.o.cell (i:=2) rfl;have y0:=vT.o.frozen 0;have y1:=vT.o.frozen 1;have y2:=vT.o.frozen 2;go_wp2_with fail
    have oU:=(((But.refl g wA).set 0 (.slice a1 tn c1)).set 1 (.slice none 0 0)).set 2 (.slice a3 bn c3);have hWg:WC.heap.size≤g:=by rw[sC];exact hNg
    have HS:=aA (jF.o _ (nG ZA.o hWg (.slice a1 tn c1) (.slice none 0 0) (.slice a3 bn c3)));have bZ:=vT.o.ZO (.slice a1 tn c1) (.slice none 0 0) (.slice a3 bn c3);have htz:=aE3.o.zK oU vT.o;have hcz:=tT aE4.o oU vT.o aH;have wR:=nG ZA.o hWg (.slice a1 tn c1) (.slice none 0 0) (.slice a3 bn c3);obtain⟨bZ',aIB,aIC,zI,a2H⟩:=aM bZ htz hcz wR oU;clear bZ htz hcz wR oU;first|refine Mid.mk ⟨HS.o,?_⟩|refine Mid.mk ?_
    refine jV aF ?_;go_wp2_with fail
    go_meet
    exact⟨g,a1,c1,a3,c3,rfl,bZ',aIB,aIC,aA hNg,zI⟩
   ·simp only[jI,aW,aX,aU,aV];go_wp2_with fail
    have bG:=jW.new w2 26 #[.slice none 0 0,.slice none 0 0,.slice none 0 0];have l9:=aD w2 (.cells #[.slice none 0 0,.slice none 0 0,.slice none 0 0] 26);have T9:=CR.o.tm l9;have hNg:w.heap.size+2≤w2.heap.size:=by rw[←sC];exact CR.o.size
    obtain⟨g,hg⟩:=aC w2.heap.size;obtain⟨wA,hwA⟩:=aC (w2.alloc (.cells #[.slice none 0 0,.slice none 0 0,.slice none 0 0] 26));rw[hwA]at bG l9 T9;rw[hwA];rw[hg]at bG hNg;try rw[hg]
    have HS:=aA (jF.o _ T9);have bHN:=aZU.o.keep (Kp.later l9);obtain⟨vT,bHO,oL,RB,aYQ,TQ⟩:=aN bG bHN l9 T9 hwA hg;clear bG bHN l9 T9 hwA hg;first|refine Mid.mk ⟨HS.o,?_⟩|refine Mid.mk ?_
    refine jJ 5 2 aF aF ?_;simp only[jI,aW,aX,aU,aV];go_wp2_with fail
    refine(EG ba bn bc d.2.2 wA (tL.o.mono (DU.o.tm RB.o)) a0D).mono ?_;rintro e w3 ⟨a3,c3,rfl,G7,jQ⟩;have Y5:=RB.o.tm jQ;have G7:Ck DT (w.heap.size+2) w3 (.slice a3 bn c3) 5 1 bn (ints .u8 d.2.2):=⟨kI G7 (show w.heap.size+2≤_ from by rw[←sC];exact RB.o.size),fun _ _ h=>h⟩;have HS:=aA (jF.o _ Y5);have aE0:=bHO.o.keep (Kp.later jQ);have aE1:=G7;have aE2:=Y5;have bG:=vT.o.late jQ;clear vT;obtain⟨vT,aE3,aE4,ZA,a3X,aDZ,qN⟩:=aO bG aE0 aE1 aE2 G7 Y5 jQ;clear bG aE0 aE1 aE2 G7 Y5 jQ;go_wp2_with fail
    first|refine Mid.mk ⟨HS.o,?_⟩|refine Mid.mk ?_
    refine jS [6] 1 aF aI aF aF aF HS.o ?_;simp only[jI,aW,aX,aU,aV];iterate 1 (go_big_quiet_step (fail))
    refine wpQuiet_nil ?_;refine jJ 8 0 aF aF ?_;simp only[jI,aW,aX,aU,aV];have p0:=vT.o.cell (i:=0) rfl;have p1:=vT.o.cell (i:=1) rfl;have p2:=vT.o.cell (i:=2) rfl;have y0:=vT.o.frozen 0;have y1:=vT.o.frozen 1;have y2:=vT.o.frozen 2;go_wp2_with fail
    have oU:=(((But.refl g w3).set 0 (.slice a1 tn c1)).set 1 (.slice none 0 0)).set 2 (.slice a3 bn c3);have hWg:WC.heap.size≤g:=by rw[sC];exact hNg
    have HS:=aA (jF.o _ (nG ZA.o hWg (.slice a1 tn c1) (.slice none 0 0) (.slice a3 bn c3)));have bZ:=vT.o.ZO (.slice a1 tn c1) (.slice none 0 0) (.slice a3 bn c3);have htz:=aE3.o.zK oU vT.o;have hcz:=tT aE4.o oU vT.o aH;have wR:=nG ZA.o hWg (.slice a1 tn c1) (.slice none 0 0) (.slice a3 bn c3);obtain⟨bZ',aIB,aIC,zI,a2H⟩:=aM bZ htz hcz wR oU;clear bZ htz hcz wR oU;first|refine Mid.mk ⟨HS.o,?_⟩|refine Mid.mk ?_
    refine jV aF ?_;go_wp2_with fail
    go_meet
    exact⟨g,a1,c1,a3,c3,rfl,bZ',aIB,aIC,aA hNg,zI⟩
  ·simp only[jI,aW,aX,aU,aV];go_wp2_with fail
   have bG:=jW.new wD 26 #[.slice none 0 0,.slice none 0 0,.slice none 0 0];have l9:=aD wD (.cells #[.slice none 0 0,.slice none 0 0,.slice none 0 0] 26);have T9:=HD.o.tm l9;have hNg:w.heap.size+2≤wD.heap.size:=by rw[←sC];exact HD.o.size
   obtain⟨g,hg⟩:=aC wD.heap.size;obtain⟨wA,hwA⟩:=aC (wD.alloc (.cells #[.slice none 0 0,.slice none 0 0,.slice none 0 0] 26));rw[hwA]at bG l9 T9;rw[hwA];rw[hg]at bG hNg;try rw[hg]
   obtain⟨HS,vT,oL,RB,aYQ,TQ⟩:=aN (jF.o _ T9) bG l9 T9 hwA hg;clear bG l9 T9 hwA hg;first|refine Mid.mk ⟨HS.o,?_⟩|refine Mid.mk ?_
   refine jJ 2 3 aF aF ?_;simp only[jI,aW,aX,aU,aV];go_wp2_with fail
   refine(LK ta tn tc zs wA (D8.o.mono (DU.o.tm RB.o)) bHI aZT.o).mono ?_;rintro e w2 ⟨a1,c1,rfl,hta,jT⟩;have SY:=RB.o.tm jT;have hta:=hta.mono (show w.heap.size+2≤_ from by rw[←sC];exact RB.o.size);rw[←CW.o]at hta;have HS:=aA (jF.o _ SY);have bG:=vT.o.late jT;clear vT;obtain⟨vT,aZU,CR,mE⟩:=aL bG hta SY jT;clear bG hta SY jT;go_wp2_with fail
   first|refine Mid.mk ⟨HS.o,?_⟩|refine Mid.mk ?_
   refine jJ 5 2 aF aF ?_;simp only[jI,aW,aX,aU,aV];go_wp2_with fail
   refine(EG ba bn bc d.2.2 w2 (tL.o.mono (DU.o.tm CR.o)) a0D).mono ?_;rintro e w3 ⟨a3,c3,rfl,G7,jQ⟩;have Y5:=CR.o.tm jQ;have G7:Ck DT (w.heap.size+2) w3 (.slice a3 bn c3) 5 1 bn (ints .u8 d.2.2):=⟨kI G7 (show w.heap.size+2≤_ from by rw[←sC];exact CR.o.size),fun _ _ h=>h⟩;have HS:=aA (jF.o _ Y5);have aE0:=aZU.o.keep (Kp.later jQ);have aE1:=G7;have aE2:=Y5;have bG:=vT.o.late jQ;clear vT;obtain⟨vT,aE3,aE4,ZA,a3X,aDZ,qN⟩:=aO bG aE0 aE1 aE2 G7 Y5 jQ;clear bG aE0 aE1 aE2 G7 Y5 jQ;go_wp2_with fail
   first|refine Mid.mk ⟨HS.o,?_⟩|refine Mid.mk ?_
   refine jS [6] 1 aF aI aF aF aF HS.o ?_;simp only[jI,aW,aX,aU,aV];iterate 1 (go_big_quiet_step (fail))
   refine wpQuiet_nil ?_;refine jJ 8 0 aF aF ?_;simp only[jI,aW,aX,aU,aV];have p0:=vT.o.cell (i:=0) rfl;have p1:=vT.o.cell (i:=1) rfl;have p2:=vT.o.cell (i:=2) rfl;have y0:=vT.o.frozen 0;have y1:=vT.o.frozen 1;have y2:=vT.o.frozen 2;go_wp2_with fail
   have oU:=(((But.refl g w3).set 0 (.slice a1 tn c1)).set 1 (.slice none 0 0)).set 2 (.slice a3 bn c3);have hWg:WC.heap.size≤g:=by rw[sC];exact hNg
   have HS:=aA (jF.o _ (nG ZA.o hWg (.slice a1 tn c1) (.slice none 0 0) (.slice a3 bn c3)));have bZ:=vT.o.ZO (.slice a1 tn c1) (.slice none 0 0) (.slice a3 bn c3);have htz:=aE3.o.zK oU vT.o;have hcz:=tT aE4.o oU vT.o aH;have wR:=nG ZA.o hWg (.slice a1 tn c1) (.slice none 0 0) (.slice a3 bn c3);obtain⟨bZ',aIB,aIC,zI,a2H⟩:=aM bZ htz hcz wR oU;clear bZ htz hcz wR oU;first|refine Mid.mk ⟨HS.o,?_⟩|refine Mid.mk ?_
   refine jV aF ?_;go_wp2_with fail
   go_meet
   exact⟨g,a1,c1,a3,c3,rfl,bZ',aIB,aIC,aA hNg,zI⟩
 case rest=>
  obtain⟨g,a1,c1,a3,c3,rfl,bG,hta,G7,hNg,xI⟩:=hcut;rename World=>wq
  go_wp2_with fail
  go_loopw [4] (fun iv wr=>∃(i:Nat) (Y6:Option Addr) (cs:Nat),i≤sn∧iv= .int .i64 i∧Hid (jW wr g 26 #[.slice a1 tn c1,.slice Y6 i cs,.slice a3 bn c3])∧Hid (kX DT (w.heap.size+2) wr (.slice a1 tn c1) d.1)∧Hid (Ck DT (w.heap.size+2) wr (.slice a3 bn c3) 5 1 bn (ints .u8 d.2.2))∧Hid (oH DT (w.heap.size+2) wr f (.slice Y6 i cs) (d.2.1.take i))∧Hid (Below WC.heap.size WC wr)) (fun iv _=>sn - (intOf iv).toNat)
  case atStart=>exact⟨0,none,0,by omega,rfl,bG,hta,G7,aA ⟨[],rfl,⟨kF _ _ _ _,fun k e=>by cases e⟩,(fun _ h=>by cases h),(fun i h=>by cases h)⟩,xI⟩
  clear bG hta G7 xI
  case round=>
   obtain⟨i,Y6,cs,hi,rfl,bG,hta,G7,hsu,xI⟩:=hrel;have bVT:=hNg.o;have Y7:=bA'.o.late xI.o;have TA:=bB'.o.late xI.o;have m1:=Y7.cell (i:=1) rfl;by_cases kD:i<sn
   ·have I4:(i:Int)<(sn:Int):=by omega
    have bPV:(0:Int)≤(i:Int):=by omega
    have sS:IntKind.i64.wrap ((i:Int)+1)=i+1:=by rw[bF];omega
    have hid:i<d.2.1.length:=by rw[rR.o];exact kD
    have nV:i<ds.length:=by rw[sH.o];exact hid
    have qR:=DU.o.tm xI.o;obtain⟨xb,xo,rfl,lC,fe⟩:=tX.o.elem mJ aH dz0 kD;rw[jO nV]at fe;obtain⟨OV,nD⟩:=oW.o i nV hid;obtain⟨ua,un,uc,pa,pn,pc,ra,rn,rc,hv⟩:=nD.v;have f0:=fe 0 _ rfl;have f1:=fe 1 _ rfl;have f2:=fe 2 _ rfl;have f3:=fe 3 _ rfl;simp only[bU]at f0 f1 f2 f3;clear fe;rw[hv]at nD f1 f2 f3;rw[OV]at f0;simp only at f0 f1 f2 f3;have hI:=fun W (hW:Below w0.heap.size w0 W)=>ih'.o w0 W d.2.1[i].2 _ nD hW (h4'.o _ (bJ hid)) (bHK.o.2 _ (bJ hid));simp only at hI;have zM:d.2.1.take (i+1)=d.2.1.take i++ [(d.2.1[i].1,d.2.1[i].2)]:=eP hid;generalize d.2.1[i].2=dd at*;generalize d.2.1[i].1=y at*;have c1g:=bG.o.cell (i:=1) rfl;obtain⟨Ty,ff,oJ,jN,bPW,jK⟩:=a2K WC.heap.size WC ⟨g,1,none⟩ (.slice Y6 i cs) wr xI.o c1g;have HS:=aA (jK wr.drew xI.o.drew c1g);have a0E:=fun s=>DU.o.trans ((jN s).mono DU.o.size);have q0:∀s,(ff s).cell? ⟨xb,xo+i*4,none⟩=some (.int .i64 y):=fun s=>late (a0E s) lC f0;have q1:∀s,(ff s).cell? ⟨xb,xo+i*4+1,none⟩=some (.slice ua un uc):=fun s=>late (a0E s) lC f1;have q2:∀s,(ff s).cell? ⟨xb,xo+i*4+2,none⟩=some (.slice pa pn pc):=fun s=>late (a0E s) lC f2;have q3:∀s,(ff s).cell? ⟨xb,xo+i*4+3,none⟩=some (.slice ra rn rc):=fun s=>late (a0E s) lC f3;have q4:=fun s=>(bA'.o.late (jN s)).cell (i:=1) rfl;clear f0 f1 f2 f3 c1g;obtain⟨jH,jF,bHP,aNN,zH,xE,MR,I7,aID,VR,a1Y⟩:=aS jN jK a0E OV nD hv hI zM Y7 TA qR;clear jN jK a0E OV nD hv hI zM Y7 TA qR;go_wp2_with fail
    refine NE ?_;have HD:=aA ((aY wr.heap.size wr).drew);refine vN (t:=19) (C:=fun W=>∃s,W=ff s) aF 20 rfl ?_;obtain⟨wD,qF⟩:=aC wr.drew;rw[qF]at HS HD ⊢;clear qF;refine nC [0,1,2,3,4,5,6,7,8,9,10,11,12,13] 6 aF pU aF aF aF HS.o ?_;simp only[jI,aW,aX,aU,aV];iterate 14 (go_big_quiet_step (fail))
    refine wpQuiet_nil ?_;refine kV 14 5 aF aF ?_;simp only[jI,aW,aX,aU,aV];go_wp2_with fail
    have aZV:=xI.o.tm HD.o;refine(MR.o wD (DU.o.tm aZV)).mono ?_;rintro e w2 ⟨⟨v1,v2,v3⟩,rfl,a6R,jT⟩;have zF:=HD.o.tm jT;have SY:=xI.o.tm zF;have bG2:=bG.o.late zF;have HS:=aA (jF.o w2 SY (bG2.cell rfl));have bHQ:=hta.o.keep (Kp.later zF);have bHR:=G7.o.keep (Kp.later zF);have bHS:=hsu.o.keep (Kp.later zF);have aZW:w.heap.size+2≤wD.heap.size:=by rw[←sC];exact aZV.size
    obtain⟨a1',n1',c1',a2',n2',c2',a3',n3',c3',hvv⟩:=a6R.rd.v;injection hvv with e1 e2;injection e2 with e2 e3;subst e1 e2 e3;simp only
    have bCA:∀k,(Value.slice Y6 i cs).ownBlock=some k→k<wD.heap.size:=fun k e=>by
     obtain⟨_,_,h2,_⟩:=hsu.o;exact cK (h2.1.lt k e).2 HD.o.size
    obtain⟨mE,bHT,CR,b8I,bHU,bHV,b23,bHW,bU0⟩:=aQ jT zF SY bG2 bHQ bHR bHS a6R aZV;clear jT zF SY bG2 bHQ bHR bHS a6R aZV;go_wp2_with fail
    refine Mid.mk ⟨fun _=>HS.o,?_⟩;refine nC [15] 4 aF pU aF aF aF HS.o ?_;simp only[jI,aW,aX,aU,aV];iterate 1 (go_big_quiet_step (fail))
    refine wpQuiet_nil ?_;refine kV 16 3 aF aF ?_;simp only[jI,aW,aX,aU,aV];go_wp2_with fail
    have l9:=aD w2 (.cells #[.int .i64 y,.slice a1' n1' c1',.slice a2' n2' c2',.slice a3' n3' c3'] 28);have AJ:Sl (w2.alloc (.cells #[.int .i64 y,.slice a1' n1' c1',.slice a2' n2' c2',.slice a3' n3' c3'] 28)) (some ⟨w2.heap.size,0,none⟩) 1 1 4 (sbC (y,(.slice a1' n1' c1',.slice a2' n2' c2',.slice a3' n3' c3'))):=Sl.new w2 28 4 1 #[.int .i64 y,.slice a1' n1' c1',.slice a2' n2' c2',.slice a3' n3' c3'] (0,0) aG rfl;have aE5:=CR.o.tm l9;have bG4:=b8I.o.late l9;have HS:=aA (jF.o _ aE5 (bG4.cell rfl));have bHX:=bHU.o.keep (Kp.later l9);have bHY:=bHV.o.keep (Kp.later l9);have aZX:=b23.o.keep (Kp.later l9);have aE6:=bHW.o.keep (Kp.later l9);obtain⟨dsz,aU1,aOF,_,_⟩:=aZX;have sM:dsz.length=i:=by rw[aU1,dV];omega
    rw[sM]at aOF;have ZB:=aOF.1;have aZX:=b23.o.keep (Kp.later l9);have hB4:w.heap.size+2≤(w2.alloc (.cells #[.int .i64 y,.slice a1' n1' c1',.slice a2' n2' c2',.slice a3' n3' c3'] 28)).heap.size:=by rw[←sC];exact aE5.size
    have aB1:(Value.slice Y6 i cs).ownBlock≠some g:=mY ZB bG4 aH;clear aU1 aOF;obtain⟨oL,GZ,aKV,b8J,bHZ,b24,bI0,aIE,LW,ZQ,aU2,wI⟩:=aT l9 AJ aE5 bG4 bHX bHY aZX aE6 ZB hB4 aB1 sM;clear l9 AJ aE5 bG4 bHX bHY aZX aE6 ZB hB4 aB1 sM;refine Mid.mk ⟨fun _=>HS.o,?_⟩;refine kV 17 2 aF aF ?_;simp only[jI,aW,aX,aU,aV];go_wp2_with (at_builtin;refine mU rfl _ _ 23 rfl (w.heap.size+2) 28 i0 z0 4 80 Tryz.underlying23 xH hz oG qK QG aH (.slice Y6 i cs) i _ rfl LW.o ⟨w2.heap.size,0,none⟩ 1 1 (sbC (y,(.slice a1' n1' c1',.slice a2' n2' c2',.slice a3' n3' c3'))) rfl GZ.o (a3N _ _ _ _ _ _ _ _ _ _) aG aH ZQ.o ?_;intro a9 c9 w9 ob Z9 DK;obtain⟨Ob,VP,Ho9⟩:=aK ob Z9 DK;clear ob Z9 DK)
    have bG9:=b8J.o.grown VP.o aU2.o;have aIF:Below WC.heap.size WC w9:=below_grown aKV.o VP.o aKV.o.size (kI LW.o (by rw[sC];exact aZ _));have HS:=aA (jF.o _ aIF (bG9.cell rfl));have bI1:=O8 bHZ.o LW.o VP.o aH aH;have bI2:Ck DT (w.heap.size+2) w9 (.slice a3 bn c3) 5 1 bn (ints .u8 d.2.2):=⟨PN b24.o.1 VP.o (fun k hk hk2=>by
     rcases EF b24.o.1 LW.o aH with h5|h5
     ·rw[h5]at hk;cases hk
     ·exact h5 (hk.trans hk2.symm)),fun _ _ h=>h⟩
    have b8K:oH DT (w.heap.size+2) w9 f (.slice a9 (i+1) c9) (d.2.1.take i++ [(y,dd)]):=oH.snoc (t:=y) (v':= .slice a9 (i+1) c9) bI0.o (n:=i) (by rw[dV];omega) VP.o Ho9.o (fun ds2 h2=>by rw[H9 h2 LW.o];exact Ob.o) (fun _ _ h=>h) (XO _ _ _ _ _ _ _ _ _)
     ((aIE.o.keep (Kp.same (fun k hB hk _ hx=>hx.elim (fun h=>h) (fun e=>by have:=bCA k e;omega)))).mono aZW)
    have p1:=bG9.cell (i:=1) rfl;have y1:=bG9.frozen 1;rw[←I7.o]at b8K;obtain⟨Y8,aU3,bI3,bI4,bI5⟩:=aM bG9 aIF bI1 bI2 b8K;clear bG9 aIF bI1 bI2 b8K;refine Mid.mk ⟨fun _=>HS.o,?_⟩;refine nC [18] 1 aF pU aF aF aF HS.o ?_;simp only[jI,aW,aX,aU,aV];iterate 1 (go_big_quiet_step (fail))
    refine wpQuiet_nil ?_;refine kV 19 0 aF aF ?_;simp only[jI,aW,aX,aU,aV];go_wp2_with fail
    have oU:=(But.refl g w9).set 1 (.slice a9 (i+1) c9);have bZ:=Y8.o.set 1 (.slice a9 (i+1) c9);have htz:=bI3.o.zK oU Y8.o;have hcz:=tT bI4.o oU Y8.o aH;have rX:=bI5.o.zK oU Y8.o;have wR:Below WC.heap.size WC (w9.setCell ⟨g,1,none⟩ (.slice a9 (i+1) c9)):=aU3.o.setCell (by show WC.heap.size≤g;omega) _;clear p1 y1 oU;obtain⟨bZ',aIB,aIC,zL,zI⟩:=aM bZ htz hcz rX wR;clear bZ htz hcz rX wR;first|refine Mid.mk ⟨(fun h=>by cases h),?_⟩|refine Mid.mk ⟨(fun h=>absurd h aH),?_⟩
    refine zD aF ?_;refine wT ?_;go_wp2_with fail
    go_roundw
    case rel=>exact⟨i+1,a9,c9,by omega,by go_num,bZ',aIB,aIC,zL,zI⟩
    case measure=>simp[intOf];omega
   ·obtain rfl:i=sn:=by omega
    rw[bK (by rw[rR.o];exact aZ _)]at hsu;have k0:=bG.o.cell (i:=0) rfl;have k1:=bG.o.cell (i:=1) rfl;have k2:=bG.o.cell (i:=2) rfl;have r0:=TA.cell (i:=0) rfl;have r1:=TA.cell (i:=1) rfl;have r2:=TA.cell (i:=2) rfl;have y0:=TA.frozen 0;have y1:=TA.frozen 1;have y2:=TA.frozen 2;have yQ:=MK.o.tm xI.o;obtain⟨aID,VR,oZ⟩:=aK Y7 TA yQ;clear Y7 TA yQ;go_wp2_with fail
    have oU:=(((But.refl (w.heap.size+1) wr).set 0 (.slice a1 tn c1)).set 1 (.slice Y6 i cs)).set 2 (.slice a3 bn c3);refine bodyPost_ret (results_cell_row rfl _ _ (w.heap.size+1) 26 #[.slice a1 tn c1,.slice Y6 i cs,.slice a3 bn c3] (0,0) _ rfl (VR.o.ZO _ _ _) Tryz.underlying26 rfl aF) rfl ?_;have hcz:=tT G7.o oU VR.o aH;exact⟨(.slice a1 tn c1,.slice Y6 i cs,.slice a3 bn c3),rfl,SK (hta.o.zK oU VR.o) (hsu.o.zK oU VR.o) (by rw[DY.o];exact hcz) aG aG,nG oZ.o aG _ _ _⟩
theorem aIG:∀f,b8H f:=by
 intro f;induction f with
 |zero=>intro w0 w d dv hd;exact hd.elim
 |succ f ih=>exact aDY f ih
theorem aOG (f:Nat) (o:Int) (sa:Option Addr) (sn sc:Nat) (ds:List (jR f)) (w:World) (h:yP f w sa sn sc ds) (hs:∀d∈ds,lN f d) (G5:∀d∈ds,VQ f d) (a6D:sn≤500):
  Calls Tryz.prog 32 #[.agg #[.int .i64 o,.slice sa sn sc]] w fun e w'=>∃a' c',e= .returned (.agg #[.int .i64 o,.slice a' sn c'])∧vD w.heap.size w' f (.slice a' sn c') ds∧Below w.heap.size w w':=by
 obtain⟨i0,z0,xH,hz,oG,qK,QG⟩:=wL aC7 aC8;obtain⟨xC,oQ,nL,nR⟩:=h;have AR:ds.length=sn:=by rw[←oQ];exact nL.rP mP aH
 obtain⟨WC,hWC,bA,bB,bG,hbC,sC⟩:=wV w 39 #[.int .i64 o,.slice sa sn sc] 39 #[.int .i64 0,.slice none 0 0] 39 #[.int .i64 o,.slice none 0 0];obtain⟨tX,sH,oW,pX,CW,rR,a03,bA',bB',vT,MK⟩:=aS nL oQ nR hs G5 AR hWC bA bB bG hbC;clear nL oQ nR hs G5 AR hWC bA bB bG hbC;go_enter Tryz.func32,Tryz.ntmps32;go_wp2_with fail
 rw[a03.o];go_loopw [4] (fun iv wr=>∃(i:Nat) (Y6:Option Addr) (cs:Nat),i≤sn∧iv= .int .i64 i∧Hid (jW wr (w.heap.size+2) 39 #[.int .i64 o,.slice Y6 i cs])∧Hid (vD (w.heap.size+2) wr f (.slice Y6 i cs) (ds.take i))∧Hid (Below (w.heap.size+2) WC wr)) (fun iv _=>sn - (intOf iv).toNat)
 case atStart=>exact⟨0,none,0,by omega,rfl,vT,aA ⟨[],rfl,kF _ _ _ _,(fun i h=>by cases h)⟩,aA (aY _ _)⟩
 case round=>
  obtain⟨i,Y6,cs,hi,rfl,bG,hds,xI⟩:=hrel;have Y7:=bA'.o.mono xI.o aG;have TA:=bB'.o.mono xI.o aG;have hgl:=bG.o.lt;have m1:=Y7.cell (i:=1) rfl;have yQ:=MK.o.trans (xI.o.mono aG);by_cases kD:i<sn
  ·have I4:(i:Int)<(sn:Int):=by omega
   have bPV:(0:Int)≤(i:Int):=by omega
   have sS:IntKind.i64.wrap ((i:Int)+1)=i+1:=by rw[bF];omega
   have hid:i<ds.length:=by rw[rR.o];exact kD
   have nV:i<xC.length:=by rw[sH.o];exact hid
   obtain⟨xb,xo,rfl,lC,fe⟩:=tX.o.elem mP aH dzz kD;rw[jO nV]at fe;have nD:=oW.o i nV hid;obtain⟨ua,un,uc,pa,pn,pc,ra,rn,rc,hv⟩:=nD.v;have f1:=fe 0 _ rfl;have f2:=fe 1 _ rfl;have f3:=fe 2 _ rfl;simp only[bU]at f1 f2 f3;clear fe;rw[hv]at nD f1 f2 f3;simp only at f1 f2 f3;have hI:=fun W (hW:Below w.heap.size w W)=>aIG f w W ds[i] _ nD hW (pX.o _ (bJ hid)) (CW.o _ (bJ hid));simp only at hI;have zM:ds.take (i+1)=ds.take i++ [ds[i]]:=eP hid;generalize ds[i]=dd at*;have c1g:=bG.o.cell (i:=1) rfl;obtain⟨Ty,ff,oJ,jN,bPW,jK⟩:=a2K (w.heap.size+2) WC ⟨w.heap.size+2,1,none⟩ (.slice Y6 i cs) wr xI.o c1g;have HS:=aA (jK wr.drew xI.o.drew c1g);have a0E:=fun s=>MK.o.trans ((jN s).mono (show w.heap.size≤w.heap.size+2 by omega));have q1:∀s,(ff s).cell? ⟨xb,xo+i*3,none⟩=some (.slice ua un uc):=fun s=>late (a0E s) lC f1;have q2:∀s,(ff s).cell? ⟨xb,xo+i*3+1,none⟩=some (.slice pa pn pc):=fun s=>late (a0E s) lC f2;have q3:∀s,(ff s).cell? ⟨xb,xo+i*3+2,none⟩=some (.slice ra rn rc):=fun s=>late (a0E s) lC f3;have q4:=fun s=>(bA'.o.mono (jN s) aG).cell (i:=1) rfl;clear f1 f2 f3 c1g;obtain⟨jH,jF,bHP,zH,xE,MR,I7,aID,VR,oZ⟩:=aR jN jK a0E nD hv hI zM Y7 TA yQ;clear jN jK a0E nD hv hI zM Y7 TA yQ;go_wp2_with fail
   refine NE ?_;have HD:=aA ((aY wr.heap.size wr).drew);refine vN (t:=11) (C:=fun W=>∃s,W=ff s) aF 12 rfl ?_;obtain⟨wD,qF⟩:=aC wr.drew;rw[qF]at HS HD ⊢;clear qF;refine nC [0,1,2,3,4,5,6] 5 aF pU aF aF aF HS.o ?_;simp only[jI,aW,aX,aU,aV];iterate 7 (go_big_quiet_step (fail))
   refine wpQuiet_nil ?_;refine kV 7 4 aF aF ?_;simp only[jI,aW,aX,aU,aV];go_wp2_with fail
   refine(MR.o wD (oZ.o.tm HD.o)).mono ?_;rintro e w2 ⟨⟨v1,v2,v3⟩,rfl,a6R,jT⟩;have zF:=HD.o.tm jT;have SY:=xI.o.trans (zF.mono aG);have bG2:=bG.o.late zF;have HS:=aA (jF.o w2 SY (bG2.cell rfl));have aOF:=hds.o.later zF;have aZW:w.heap.size+2≤wD.heap.size:=bQ aG HD.o.size;obtain⟨a1',n1',c1',a2',n2',c2',a3',n3',c3',hvv⟩:=a6R.rd.v;injection hvv with e1 e2;injection e2 with e2 e3;subst e1 e2 e3;have Z8:=a6R.mono aZW;clear a6R;simp only;obtain⟨mE,bHT,CR,b8I,b25,Y3⟩:=aN jT zF SY bG2 aOF Z8;clear jT zF SY bG2 aOF Z8
   go_wp2_with fail
   refine Mid.mk ⟨fun _=>HS.o,?_⟩;refine kV 8 3 aF aF ?_;simp only[jI,aW,aX,aU,aV];go_wp2_with fail
   have l9:=aD w2 (.cells #[.slice a1' n1' c1',.slice a2' n2' c2',.slice a3' n3' c3'] 26);have AJ:Sl (w2.alloc (.cells #[.slice a1' n1' c1',.slice a2' n2' c2',.slice a3' n3' c3'] 26)) (some ⟨w2.heap.size,0,none⟩) 1 1 3 (YR (.slice a1' n1' c1',.slice a2' n2' c2',.slice a3' n3' c3')):=Sl.new w2 26 3 1 #[.slice a1' n1' c1',.slice a2' n2' c2',.slice a3' n3' c3'] (0,0) aG rfl;have aAS:w.heap.size+2≤w2.heap.size:=bQ aZW mE.o.size;have aE5:=CR.o.trans (l9.mono aAS);have bG4:=b8I.o.late l9;have HS:=aA (jF.o _ aE5 (bG4.cell rfl));have aZY:=b25.o.later l9;have aE6:=Y3.o.keep (Kp.later l9);obtain⟨dsz,aU1,ZB,_⟩:=aZY;have sM:dsz.length=i:=by rw[aU1,dV];omega
   rw[sM]at ZB;have aZY:=b25.o.later l9;have hB4:w.heap.size+2≤(w2.alloc (.cells #[.slice a1' n1' c1',.slice a2' n2' c2',.slice a3' n3' c3'] 26)).heap.size:=by simp;omega
   have aB1:(Value.slice Y6 i cs).ownBlock≠some (w.heap.size+2):=mY ZB bG4 aH;clear aU1;obtain⟨oL,GZ,aKV,b8J,bI6,aIE,LW,ZQ,aU2,wI⟩:=aR l9 AJ aE5 bG4 aZY aE6 ZB hB4 aB1 sM;clear l9 AJ aE5 bG4 aZY aE6 ZB hB4 aB1 sM;refine Mid.mk ⟨fun _=>HS.o,?_⟩;refine kV 9 2 aF aF ?_;simp only[jI,aW,aX,aU,aV];go_wp2_with (at_builtin;refine mU rfl _ _ 37 rfl (w.heap.size+2) 26 i0 z0 3 72 Tryz.underlying37 xH hz oG qK QG aH (.slice Y6 i cs) i _ rfl LW.o ⟨w2.heap.size,0,none⟩ 1 1 (YR (.slice a1' n1' c1',.slice a2' n2' c2',.slice a3' n3' c3')) rfl GZ.o (aA3 _ _ _ _ _ _ _ _ _) aG aH ZQ.o ?_;intro a9 c9 w9 ob Z9 DK;obtain⟨Ob,VP,Ho9⟩:=aK ob Z9 DK;clear ob Z9 DK)
   have bG9:=b8J.o.grown VP.o aU2.o;have aIF:Below (w.heap.size+2) WC w9:=below_grown aKV.o VP.o ZQ.o LW.o;have HS:=aA (jF.o _ aIF (bG9.cell rfl));have b8L:vD (w.heap.size+2) w9 f (.slice a9 (i+1) c9) (ds.take i++ [dd]):=vD.snoc (v':= .slice a9 (i+1) c9) bI6.o (n:=i) (by rw[dV];omega) VP.o (fun ds2 h2=>by rw[H9 h2 LW.o];exact Ob.o) aIE.o;have p1:=bG9.cell (i:=1) rfl;have y1:=bG9.frozen 1;rw[←I7.o]at b8L;obtain⟨Y8,aU3,bI7⟩:=aK bG9 aIF b8L;clear bG9 aIF b8L;refine Mid.mk ⟨fun _=>HS.o,?_⟩;refine nC [10] 1 aF pU aF aF aF HS.o ?_;simp only[jI,aW,aX,aU,aV];iterate 1 (go_big_quiet_step (fail))
   refine wpQuiet_nil ?_;refine kV 11 0 aF aF ?_;simp only[jI,aW,aX,aU,aV];go_wp2_with fail
   have oU:=(But.refl (w.heap.size+2) w9).set 1 (.slice a9 (i+1) c9);have bZ:=Y8.o.set 1 (.slice a9 (i+1) c9);have hdz:=bI7.o.aDM oU Y8.o;have wR:Below (w.heap.size+2) WC (w9.setCell ⟨w.heap.size+2,1,none⟩ (.slice a9 (i+1) c9)):=aU3.o.setCell (aZ _) _;clear p1 y1 oU;obtain⟨bZ',aZT,zI⟩:=aK bZ hdz wR;clear bZ hdz wR;first|refine Mid.mk ⟨(fun h=>by cases h),?_⟩|refine Mid.mk ⟨(fun h=>absurd h aH),?_⟩
   refine zD aF ?_;refine wT ?_;go_wp2_with fail
   go_roundw
   case rel=>exact⟨i+1,a9,c9,by omega,by go_num,bZ',aZT,zI⟩
   case measure=>simp[intOf];omega
  ·obtain rfl:i=sn:=by omega
   rw[bK (by rw[rR.o];exact aZ _)]at hds;have k0:=bG.o.cell (i:=0) rfl;have k1:=bG.o.cell (i:=1) rfl;have r0:=TA.cell (i:=0) rfl;have r1:=TA.cell (i:=1) rfl;have y0:=TA.frozen 0;have y1:=TA.frozen 1;obtain⟨aID,VR,oZ⟩:=aK Y7 TA yQ;clear Y7 TA yQ;go_wp2_with fail
   have oU:=((But.refl (w.heap.size+1) wr).set 0 (.int .i64 o)).set 1 (.slice Y6 i cs);have b2:=(VR.o.set 0 (.int .i64 o)).set 1 (.slice Y6 i cs);refine bodyPost_ret (results_cell_row rfl _ _ (w.heap.size+1) 39 #[.int .i64 o,.slice Y6 i cs] (0,0) _ rfl b2 Tryz.underlying39 rfl aF) rfl ?_;obtain⟨bPX,j1,j2,j3⟩:=hds.o.aDM oU VR.o;exact⟨Y6,cs,rfl,⟨bPX,j1,kI j2 aG,fun k hk WM=>(j3 k hk WM).mono aG⟩,(oZ.o.setCell (p:=⟨w.heap.size+1,0,none⟩) (by show w.heap.size≤w.heap.size+1;omega) _).setCell (p:=⟨w.heap.size+1,1,none⟩) (by show w.heap.size≤w.heap.size+1;omega) _⟩
