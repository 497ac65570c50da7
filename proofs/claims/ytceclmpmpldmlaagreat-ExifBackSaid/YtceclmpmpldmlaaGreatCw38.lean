import Derived.Test.YtceclmpmpldmlaaGreatCw37
set_option linter.unusedSimpArgs false
set_option linter.unusedVariables false
namespace Go.Proofs.YtceclmpmpldmlaaGreat
open Go.RowKit Tt
section
open Go
variable {P:Program} {Q:Exit→Act→World→Prop} {S:World→Prop}
theorem a7M {l:List Oper} {listed:Array Bool} {a:Act} {w:World} (i j k fuel:Nat) (hb:(decide (i<l.length)&&(decide (j<l.length)&&decide (k<l.length)))=true) (hr:Region.ready .any l.toArray listed= [i,j,k])
  (h:wpList P l.toArray (Mid (fun a' w'=>S w'∧wpAnyH P .any l.toArray Q S fuel (listed.setIfInBounds i true) a' w') Q) (jW l [i]) a w)
  (h2:wpList P l.toArray (Mid (fun a' w'=>S w'∧wpAnyH P .any l.toArray Q S fuel (listed.setIfInBounds j true) a' w') Q) (jW l [j]) a w)
  (h3:wpList P l.toArray (Mid (fun a' w'=>S w'∧wpAnyH P .any l.toArray Q S fuel (listed.setIfInBounds k true) a' w') Q) (jW l [k]) a w):wpAnyH P .any l.toArray Q S (fuel+1) listed a w:=by
 simp only[bK,decide_eq_true_eq]at hb;have key:∀k (o:Oper),l.toArray[k]? =some o→wpList P l.toArray (Mid (fun a' w'=>S w'∧wpAnyH P .any l.toArray Q S fuel (listed.setIfInBounds k true) a' w') Q) [o] a w→wpOp P l.toArray Q k (fun a' w'=>S w'∧wpAnyH P .any l.toArray Q S fuel (listed.setIfInBounds k true) a' w') a w:=fun k o ho h=>by
  unfold wpOp;simp only[ho];unfold wpList at h;split
  ·rename_i hw;rw[if_pos hw]at h;rcases h with h|⟨h1,a2,w2,h2⟩
   ·exact .inl (WI h)
   ·exact .inr ⟨h1,a2,w2,h2⟩
  ·rename_i hw;rw[if_neg hw]at h;exact h
 refine wpAnyH_all hr (by simp) fun m hm=>?_;simp only[cK,eG,or_false]at hm;rcases hm with rfl|rfl|rfl
 ·exact key _ (l.getD m aDC) (by rw[aZ,bH hb.1];simp[hb.1]) h
 ·exact key _ (l.getD m aDC) (by rw[aZ,bH hb.2.1];simp[hb.2.1]) h2
 ·exact key _ (l.getD m aDC) (by rw[aZ,bH hb.2.2];simp[hb.2.2]) h3
end
def rsB (x y:pX):Nat→Bool
 |0=>x.z==y.z
 |1=>x.p==y.p
 |2=>x.g==y.g
 |3=>x.i==y.i
 |_=>x.f==y.f
theorem a7N {x y:pX} {j:Nat} (hj:j<5) (h:rsB x y j=false):J6 x y=false:=by
 unfold J6;rcases(by omega:j=0∨j=1∨j=2∨j=3∨j=4)with rfl|rfl|rfl|rfl|rfl
 ·rw[show(x.z==y.z)=false from h];simp
 ·rw[show(x.p==y.p)=false from h];simp
 ·rw[show(x.g==y.g)=false from h];simp
 ·rw[show(x.i==y.i)=false from h];simp
 ·rw[show(x.f==y.f)=false from h];simp
theorem b5T {x y:pX} (h:∀j,j<5→rsB x y j=true):J6 x y=(x.o==y.o&&x.mr==y.mr&&x.th==y.th):=by
 unfold J6;rw[show(x.z==y.z)=true from h 0 aH,show(x.p==y.p)=true from h 1 aH,show(x.g==y.g)=true from h 2 aH,show(x.i==y.i)=true from h 3 aH,show(x.f==y.f)=true from h 4 aH];simp
set_option maxRecDepth 20000 in
set_option maxHeartbeats 16000000 in
theorem a1M (x y:pX) (A B:ExA) (w:World) (h:ExR w x A) (h2:ExR w y B) (OM:a09 x) (qL:a09 y):
  Calls Tryz.prog 29 #[exV x.o A,exV y.o B] w fun e w'=>e= .returned (.bool (J6 x y))∧Below w.heap.size w w':=by
 have hR1:=fun W=>a0J x.o A W;have OD:=fun W=>a0J y.o B W;obtain⟨za,zn,zc,pa,pn,pc,ga,gn,gc,ia,iN,ic,fa,fn,fc,ma,mn,mc,ta,tn,tc⟩:=A;obtain⟨CB,CF,CG,CJ,CK,pc2,CO,CP,CQ,CR,CS,CV,fa2,CW,CX,ma2,mn2,mc2,ta2,tn2,tc2⟩:=B;obtain⟨o,z,p,g,i,f,mk,th⟩:=x;obtain⟨o2,z2,p2,g2,i2,f2,mk2,th2⟩:=y;simp only[exV,VT]at*;obtain⟨hz,hp,hg,hi,hf,hm,ht⟩:=h;obtain⟨wY,TA,MB,hi2,hf2,T9,ht2⟩:=h2;obtain⟨W,hW,bE,bR,hb,tC⟩:=sN w 61 #[.int .i64 o,.slice za zn zc,.slice pa pn pc,.slice ga gn gc,.slice ia iN ic,.slice fa fn fc,.slice ma mn mc,.slice ta tn tc] 61 #[.int .i64 o2,.slice CB CF CG,.slice CJ CK pc2,.slice CO CP CQ,.slice CR CS CV,.slice fa2 CW CX,.slice ma2 mn2 mc2,.slice ta2 tn2 tc2];obtain⟨bz,bp,bg,bi,bf,bm,bt⟩:=OM;obtain⟨bz2,bp2,bg2,bi2,bf2,bm2,bt2⟩:=qL;obtain⟨Ty,ff,pQ,kI,kE⟩:=kM W;have HD:=aA ((bF W.heap.size W).drew);have HS:=aA (kE W.drew HD.o);have q0:=fun s=>(bE.late (kI s)).cell (i:=0) rfl;have r0:=fun s=>(bR.late (kI s)).cell (i:=0) rfl;have q1:=fun s=>(bE.late (kI s)).cell (i:=1) rfl;have r1:=fun s=>(bR.late (kI s)).cell (i:=1) rfl;have q2:=fun s=>(bE.late (kI s)).cell (i:=2) rfl;have r2:=fun s=>(bR.late (kI s)).cell (i:=2) rfl;have q3:=fun s=>(bE.late (kI s)).cell (i:=3) rfl;have r3:=fun s=>(bR.late (kI s)).cell (i:=3) rfl;have q4:=fun s=>(bE.late (kI s)).cell (i:=4) rfl;have r4:=fun s=>(bR.late (kI s)).cell (i:=4) rfl;have q5:=fun s=>(bE.late (kI s)).cell (i:=5) rfl;have r5:=fun s=>(bR.late (kI s)).cell (i:=5) rfl;have q6:=fun s=>(bE.late (kI s)).cell (i:=6) rfl;have r6:=fun s=>(bR.late (kI s)).cell (i:=6) rfl;have q7:=fun s=>(bE.late (kI s)).cell (i:=7) rfl;have r7:=fun s=>(bR.late (kI s)).cell (i:=7) rfl;obtain⟨GX,hp',hg',vN,hf',hm',KS,a0W,aTN,aQC,bZ3,bZ4⟩:=aT hz hp hg hi hf hm ht wY TA MB hi2 hf2;obtain⟨ZQ,b2N,WH,a8X,bE',bR',pW,V9,BJ,kD,jV,bz'⟩:=aT T9 ht2 hW tC bE bR hb hR1 OD kI kE bz;obtain⟨bp',bg',bi',bf',bm',bt',bZ5,aLM,bZ6,bZ7,bZ8,bZ9⟩:=aT bp bg bi bf bm bt bz2 bp2 bg2 bi2 bf2 bm2;have bZA:=aA bt2;clear hz hp hg hi hf hm ht wY TA MB hi2 hf2 T9 ht2 hW tC bE bR hb hR1 OD kI kE bz bp bg bi bf bm bt bz2 bp2 bg2 bi2 bf2 bm2 bt2;go_enter Tryz.func29,Tryz.ntmps29;go_upto_region 1 with fail
 rw[WH.o];go_cut [5,6]from 9 (fun v5 v6 wx=>∃g5 g6:Nat,v5= .pointer (some ⟨g5,0,none⟩)∧v6= .pointer (some ⟨g6,0,none⟩)∧Hid (kG wx g5 125 #[.int .i64 0,.slice za zn zc,.int .i64 2,.slice pa pn pc,.int .i64 3,.slice ga gn gc,.int .i64 4,.slice ia iN ic,.int .i64 1,.slice fa fn fc])∧Hid (kG wx g6 125 #[.int .i64 0,.slice CB CF CG,.int .i64 2,.slice CJ CK pc2,.int .i64 3,.slice CO CP CQ,.int .i64 4,.slice CR CS CV,.int .i64 1,.slice fa2 CW CX])∧Hid (Below W.heap.size W wx))
 case first=>
  refine kR (S:=fun W=>∃s,W=ff s) aF 8 rfl ?_;obtain⟨wD,xB⟩:∃X,W.drew=X:=⟨_,rfl⟩;rw[xB]at HS HD ⊢;clear xB;refine jZ [0,2] 6 aF aI aF aF aF HS.o ?_;simp only[jW,aW,aX,aU,aV];iterate 2 (go_big_quiet_step (fail))
  refine wpQuiet_nil ?_;refine a7M 1 4 5 5 aF aF ?_ ?_ ?_;all_goals simp only[jW,aW,aX,aU,aV]
  case refine_1=>
   go_wp2_with fail
   refine(V9.o _).mono ?_;rintro e x1 ⟨rfl,bG7⟩;have hx1:=HD.o.tm bG7;obtain⟨HS,a1W,c3K⟩:=aK (jV.o _ hx1) hx1 bG7;clear hx1 bG7;go_wp2_with fail
   first|refine Mid.mk ⟨HS.o,?_⟩|refine Mid.mk ?_
   refine a7M 3 4 5 4 aF aF ?_ ?_ ?_;all_goals simp only[jW,aW,aX,aU,aV]
   case refine_1=>
    go_wp2_with fail
    refine(BJ.o _).mono ?_;rintro e x2 ⟨rfl,bG8⟩;have ZC:=a1W.o.tm bG8;obtain⟨HS,a1X,c3L⟩:=aK (jV.o _ ZC) ZC bG8;clear ZC bG8;go_wp2_with fail
    first|refine Mid.mk ⟨HS.o,?_⟩|refine Mid.mk ?_
    refine vC 4 5 3 aF aF ?_ ?_;all_goals simp only[jW,aW,aX,aU,aV]
    case refine_1=>
     go_wp2_with fail
     have a2C:=aD x2 (.cells #[.int .i64 0,.slice none 0 0,.int .i64 0,.slice none 0 0,.int .i64 0,.slice none 0 0,.int .i64 0,.slice none 0 0,.int .i64 0,.slice none 0 0] 125);have bP0:=kG.new x2 125 #[.int .i64 0,.slice none 0 0,.int .i64 0,.slice none 0 0,.int .i64 0,.slice none 0 0,.int .i64 0,.slice none 0 0,.int .i64 0,.slice none 0 0];have TD:=a1X.o.tm a2C;have b5U:=bP0;have qA:=a1X.o.size;replace qA:=aA (fO qA trivial)
     clear bP0;obtain⟨x3,ex3⟩:∃W,x2.alloc (.cells #[.int .i64 0,.slice none 0 0,.int .i64 0,.slice none 0 0,.int .i64 0,.slice none 0 0,.int .i64 0,.slice none 0 0,.int .i64 0,.slice none 0 0] 125)=W:=⟨_,rfl⟩;rw[ex3]at TD a2C b5U ⊢;obtain⟨g5,bG9⟩:∃g,x2.heap.size=g:=⟨_,rfl⟩;try rw[bG9]at b5U qA
     try rw[bG9]
     clear bG9 ex3;obtain⟨HS,a8H,b7E,b8Q⟩:=aL (jV.o _ TD) TD a2C b5U;clear TD a2C b5U;first|refine Mid.mk ⟨HS.o,?_⟩|refine Mid.mk ?_
     refine jX 5 2 aF aF ?_;simp only[jW,aW,aX,aU,aV];go_wp2_with fail
     have aZ5:=aD x3 (.cells #[.int .i64 0,.slice none 0 0,.int .i64 0,.slice none 0 0,.int .i64 0,.slice none 0 0,.int .i64 0,.slice none 0 0,.int .i64 0,.slice none 0 0] 125);have bP1:=kG.new x3 125 #[.int .i64 0,.slice none 0 0,.int .i64 0,.slice none 0 0,.int .i64 0,.slice none 0 0,.int .i64 0,.slice none 0 0,.int .i64 0,.slice none 0 0];have hx4:=a8H.o.tm aZ5;have b5V:=bP1;have bGA:=b8Q.o.late aZ5;have vQ:=a8H.o.size;have bCC:g5<x3.heap.size:=b8Q.o.lt;replace vQ:=aA (fO vQ bCC)
     clear bP1;obtain⟨x4,ex4⟩:∃W,x3.alloc (.cells #[.int .i64 0,.slice none 0 0,.int .i64 0,.slice none 0 0,.int .i64 0,.slice none 0 0,.int .i64 0,.slice none 0 0,.int .i64 0,.slice none 0 0] 125)=W:=⟨_,rfl⟩;rw[ex4]at hx4 aZ5 b5V bGA ⊢;obtain⟨g6,bGB⟩:∃g,x3.heap.size=g:=⟨_,rfl⟩;try rw[bGB]at b5V vQ
     try rw[bGB]
     clear bGB ex4;obtain⟨HS,bZB,c3M,bP2,b8R⟩:=aM (jV.o _ hx4) hx4 aZ5 b5V bGA;clear hx4 aZ5 b5V bGA;first|refine Mid.mk ⟨HS.o,?_⟩|refine Mid.mk ?_
     refine jX 6 1 aF aF ?_;simp only[jW,aW,aX,aU,aV];go_wp2_with (refine wpList_store_row rfl 125 (.tmp 5) (.tmp 10) rfl g5 #[.int .i64 0,.slice za zn zc,.int .i64 2,.slice pa pn pc,.int .i64 3,.slice ga gn gc,.int .i64 4,.slice ia iN ic,.int .i64 1,.slice fa fn fc] rfl rfl 125 _ b8R.o aF rfl aF ?_)
     have R9:=b8R.o.row #[.int .i64 0,.slice za zn zc,.int .i64 2,.slice pa pn pc,.int .i64 3,.slice ga gn gc,.int .i64 4,.slice ia iN ic,.int .i64 1,.slice fa fn fc];have RA:kG (x4.setRow g5 #[.int .i64 0,.slice za zn zc,.int .i64 2,.slice pa pn pc,.int .i64 3,.slice ga gn gc,.int .i64 4,.slice ia iN ic,.int .i64 1,.slice fa fn fc]) g6 125 #[.int .i64 0,.slice none 0 0,.int .i64 0,.slice none 0 0,.int .i64 0,.slice none 0 0,.int .i64 0,.slice none 0 0,.int .i64 0,.slice none 0 0]:=(setRow_other x4 g5 g6 _ (by have:=qA.o;have:=vQ.o;omega)).trans bP2.o;have JH:=kN bZB.o (show W.heap.size≤g5 by have:=qA.o;omega) #[.int .i64 0,.slice za zn zc,.int .i64 2,.slice pa pn pc,.int .i64 3,.slice ga gn gc,.int .i64 4,.slice ia iN ic,.int .i64 1,.slice fa fn fc];obtain⟨HS,J9,yI,JA⟩:=aL (jV.o _ JH) R9 RA JH;clear R9 RA JH;first|refine Mid.mk ⟨HS.o,?_⟩|refine⟨HS.o,?_⟩
     refine jX 7 0 aF aF ?_;simp only[jW,aW,aX,aU,aV];go_wp2_with (refine wpList_store_row rfl 125 (.tmp 6) (.tmp 12) rfl g6 #[.int .i64 0,.slice CB CF CG,.int .i64 2,.slice CJ CK pc2,.int .i64 3,.slice CO CP CQ,.int .i64 4,.slice CR CS CV,.int .i64 1,.slice fa2 CW CX] rfl rfl 125 _ yI.o aF rfl aF ?_)
     have RB:=yI.o.row #[.int .i64 0,.slice CB CF CG,.int .i64 2,.slice CJ CK pc2,.int .i64 3,.slice CO CP CQ,.int .i64 4,.slice CR CS CV,.int .i64 1,.slice fa2 CW CX];have RF:kG ((x4.setRow g5 #[.int .i64 0,.slice za zn zc,.int .i64 2,.slice pa pn pc,.int .i64 3,.slice ga gn gc,.int .i64 4,.slice ia iN ic,.int .i64 1,.slice fa fn fc]).setRow g6 #[.int .i64 0,.slice CB CF CG,.int .i64 2,.slice CJ CK pc2,.int .i64 3,.slice CO CP CQ,.int .i64 4,.slice CR CS CV,.int .i64 1,.slice fa2 CW CX]) g5 125 #[.int .i64 0,.slice za zn zc,.int .i64 2,.slice pa pn pc,.int .i64 3,.slice ga gn gc,.int .i64 4,.slice ia iN ic,.int .i64 1,.slice fa fn fc]:=(setRow_other (x4.setRow g5 #[.int .i64 0,.slice za zn zc,.int .i64 2,.slice pa pn pc,.int .i64 3,.slice ga gn gc,.int .i64 4,.slice ia iN ic,.int .i64 1,.slice fa fn fc]) g6 g5 _ (by have:=qA.o;have:=vQ.o;omega)).trans J9.o;have JI:=kN JA.o (show W.heap.size≤g6 by have:=vQ.o;omega) #[.int .i64 0,.slice CB CF CG,.int .i64 2,.slice CJ CK pc2,.int .i64 3,.slice CO CP CQ,.int .i64 4,.slice CR CS CV,.int .i64 1,.slice fa2 CW CX];obtain⟨HS,JB,JC,JD⟩:=aL (jV.o _ JI) RB RF JI;clear RB RF JI;first|(refine Mid.mk ⟨HS.o,?_⟩;refine kH aF ?_)|(refine⟨HS.o,?_⟩;refine kH aF ?_)|refine⟨HS.o,by kernel_rfl,?_⟩
     clear q0 q1 q2 q3 q4 q5 q6 q7 r0 r1 r2 r3 r4 r5 r6 r7;go_wp2_with fail
     go_meet
     case rel=>exact⟨g5,g6,rfl,rfl,JC,JB,JD⟩
    case refine_2=>
     go_wp2_with fail
     have YL:=aD x2 (.cells #[.int .i64 0,.slice none 0 0,.int .i64 0,.slice none 0 0,.int .i64 0,.slice none 0 0,.int .i64 0,.slice none 0 0,.int .i64 0,.slice none 0 0] 125);have bP3:=kG.new x2 125 #[.int .i64 0,.slice none 0 0,.int .i64 0,.slice none 0 0,.int .i64 0,.slice none 0 0,.int .i64 0,.slice none 0 0,.int .i64 0,.slice none 0 0];have hx5:=a1X.o.tm YL;have b5W:=bP3;have vQ:=a1X.o.size;replace vQ:=aA (fO vQ trivial)
     clear bP3;obtain⟨x5,ex5⟩:∃W,x2.alloc (.cells #[.int .i64 0,.slice none 0 0,.int .i64 0,.slice none 0 0,.int .i64 0,.slice none 0 0,.int .i64 0,.slice none 0 0,.int .i64 0,.slice none 0 0] 125)=W:=⟨_,rfl⟩;rw[ex5]at hx5 YL b5W ⊢;obtain⟨g6,bGC⟩:∃g,x2.heap.size=g:=⟨_,rfl⟩;try rw[bGC]at b5W vQ
     try rw[bGC]
     clear bGC ex5;obtain⟨HS,bGD,c3N,b8S⟩:=aL (jV.o _ hx5) hx5 YL b5W;clear hx5 YL b5W;first|refine Mid.mk ⟨HS.o,?_⟩|refine Mid.mk ?_
     refine jX 4 2 aF aF ?_;simp only[jW,aW,aX,aU,aV];go_wp2_with fail
     have KQ:=aD x5 (.cells #[.int .i64 0,.slice none 0 0,.int .i64 0,.slice none 0 0,.int .i64 0,.slice none 0 0,.int .i64 0,.slice none 0 0,.int .i64 0,.slice none 0 0] 125);have bP4:=kG.new x5 125 #[.int .i64 0,.slice none 0 0,.int .i64 0,.slice none 0 0,.int .i64 0,.slice none 0 0,.int .i64 0,.slice none 0 0,.int .i64 0,.slice none 0 0];have hx6:=bGD.o.tm KQ;have b5X:=bP4;have bGE:=b8S.o.late KQ;have qA:=bGD.o.size;have bZC:g6<x5.heap.size:=b8S.o.lt;replace qA:=aA (fO qA bZC)
     clear bP4;obtain⟨x6,ex6⟩:∃W,x5.alloc (.cells #[.int .i64 0,.slice none 0 0,.int .i64 0,.slice none 0 0,.int .i64 0,.slice none 0 0,.int .i64 0,.slice none 0 0,.int .i64 0,.slice none 0 0] 125)=W:=⟨_,rfl⟩;rw[ex6]at hx6 KQ b5X bGE ⊢;obtain⟨g5,bGF⟩:∃g,x5.heap.size=g:=⟨_,rfl⟩;try rw[bGF]at b5X qA
     try rw[bGF]
     clear bGF ex6;obtain⟨HS,bZD,aGJ,b8T,bP5⟩:=aM (jV.o _ hx6) hx6 KQ b5X bGE;clear hx6 KQ b5X bGE;first|refine Mid.mk ⟨HS.o,?_⟩|refine Mid.mk ?_
     refine jX 6 1 aF aF ?_;simp only[jW,aW,aX,aU,aV];go_wp2_with (refine wpList_store_row rfl 125 (.tmp 5) (.tmp 10) rfl g5 #[.int .i64 0,.slice za zn zc,.int .i64 2,.slice pa pn pc,.int .i64 3,.slice ga gn gc,.int .i64 4,.slice ia iN ic,.int .i64 1,.slice fa fn fc] rfl rfl 125 _ b8T.o aF rfl aF ?_)
     have R9:=b8T.o.row #[.int .i64 0,.slice za zn zc,.int .i64 2,.slice pa pn pc,.int .i64 3,.slice ga gn gc,.int .i64 4,.slice ia iN ic,.int .i64 1,.slice fa fn fc];have RA:kG (x6.setRow g5 #[.int .i64 0,.slice za zn zc,.int .i64 2,.slice pa pn pc,.int .i64 3,.slice ga gn gc,.int .i64 4,.slice ia iN ic,.int .i64 1,.slice fa fn fc]) g6 125 #[.int .i64 0,.slice none 0 0,.int .i64 0,.slice none 0 0,.int .i64 0,.slice none 0 0,.int .i64 0,.slice none 0 0,.int .i64 0,.slice none 0 0]:=(setRow_other x6 g5 g6 _ (by have:=qA.o;have:=vQ.o;omega)).trans bP5.o;have JH:=kN bZD.o (show W.heap.size≤g5 by have:=qA.o;omega) #[.int .i64 0,.slice za zn zc,.int .i64 2,.slice pa pn pc,.int .i64 3,.slice ga gn gc,.int .i64 4,.slice ia iN ic,.int .i64 1,.slice fa fn fc];obtain⟨HS,J9,yI,JA⟩:=aL (jV.o _ JH) R9 RA JH;clear R9 RA JH;first|refine Mid.mk ⟨HS.o,?_⟩|refine⟨HS.o,?_⟩
     refine jX 7 0 aF aF ?_;simp only[jW,aW,aX,aU,aV];go_wp2_with (refine wpList_store_row rfl 125 (.tmp 6) (.tmp 12) rfl g6 #[.int .i64 0,.slice CB CF CG,.int .i64 2,.slice CJ CK pc2,.int .i64 3,.slice CO CP CQ,.int .i64 4,.slice CR CS CV,.int .i64 1,.slice fa2 CW CX] rfl rfl 125 _ yI.o aF rfl aF ?_)
     have RB:=yI.o.row #[.int .i64 0,.slice CB CF CG,.int .i64 2,.slice CJ CK pc2,.int .i64 3,.slice CO CP CQ,.int .i64 4,.slice CR CS CV,.int .i64 1,.slice fa2 CW CX];have RF:kG ((x6.setRow g5 #[.int .i64 0,.slice za zn zc,.int .i64 2,.slice pa pn pc,.int .i64 3,.slice ga gn gc,.int .i64 4,.slice ia iN ic,.int .i64 1,.slice fa fn fc]).setRow g6 #[.int .i64 0,.slice CB CF CG,.int .i64 2,.slice CJ CK pc2,.int .i64 3,.slice CO CP CQ,.int .i64 4,.slice CR CS CV,.int .i64 1,.slice fa2 CW CX]) g5 125 #[.int .i64 0,.slice za zn zc,.int .i64 2,.slice pa pn pc,.int .i64 3,.slice ga gn gc,.int .i64 4,.slice ia iN ic,.int .i64 1,.slice fa fn fc]:=(setRow_other (x6.setRow g5 #[.int .i64 0,.slice za zn zc,.int .i64 2,.slice pa pn pc,.int .i64 3,.slice ga gn gc,.int .i64 4,.slice ia iN ic,.int .i64 1,.slice fa fn fc]) g6 g5 _ (by have:=qA.o;have:=vQ.o;omega)).trans J9.o;have JI:=kN JA.o (show W.heap.size≤g6 by have:=vQ.o;omega) #[.int .i64 0,.slice CB CF CG,.int .i64 2,.slice CJ CK pc2,.int .i64 3,.slice CO CP CQ,.int .i64 4,.slice CR CS CV,.int .i64 1,.slice fa2 CW CX];obtain⟨HS,JB,JC,JD⟩:=aL (jV.o _ JI) RB RF JI;clear RB RF JI;first|(refine Mid.mk ⟨HS.o,?_⟩;refine kH aF ?_)|(refine⟨HS.o,?_⟩;refine kH aF ?_)|refine⟨HS.o,by kernel_rfl,?_⟩
     clear q0 q1 q2 q3 q4 q5 q6 q7 r0 r1 r2 r3 r4 r5 r6 r7;go_wp2_with fail
     go_meet
     case rel=>exact⟨g5,g6,rfl,rfl,JC,JB,JD⟩
   case refine_2=>
    go_wp2_with fail
    have b5Y:=aD x1 (.cells #[.int .i64 0,.slice none 0 0,.int .i64 0,.slice none 0 0,.int .i64 0,.slice none 0 0,.int .i64 0,.slice none 0 0,.int .i64 0,.slice none 0 0] 125);have bP6:=kG.new x1 125 #[.int .i64 0,.slice none 0 0,.int .i64 0,.slice none 0 0,.int .i64 0,.slice none 0 0,.int .i64 0,.slice none 0 0,.int .i64 0,.slice none 0 0];have hx7:=a1W.o.tm b5Y;have b5Z:=bP6;have qA:=a1W.o.size;replace qA:=aA (fO qA trivial)
    clear bP6;obtain⟨x7,ex7⟩:∃W,x1.alloc (.cells #[.int .i64 0,.slice none 0 0,.int .i64 0,.slice none 0 0,.int .i64 0,.slice none 0 0,.int .i64 0,.slice none 0 0,.int .i64 0,.slice none 0 0] 125)=W:=⟨_,rfl⟩;rw[ex7]at hx7 b5Y b5Z ⊢;obtain⟨g5,bGG⟩:∃g,x1.heap.size=g:=⟨_,rfl⟩;try rw[bGG]at b5Z qA
    try rw[bGG]
    clear bGG ex7;obtain⟨HS,aZ6,c3O,aZ7⟩:=aL (jV.o _ hx7) hx7 b5Y b5Z;clear hx7 b5Y b5Z;first|refine Mid.mk ⟨HS.o,?_⟩|refine Mid.mk ?_
    refine vC 3 5 3 aF aF ?_ ?_;all_goals simp only[jW,aW,aX,aU,aV]
    case refine_1=>
     go_wp2_with fail
     refine(BJ.o _).mono ?_;rintro e x8 ⟨rfl,b61⟩;have hx8:=aZ6.o.tm b61;have bP7:=aZ7.o.late b61;obtain⟨HS,bGH,c3P,b8U⟩:=aL (jV.o _ hx8) hx8 b61 bP7;clear hx8 b61 bP7;go_wp2_with fail
     first|refine Mid.mk ⟨HS.o,?_⟩|refine Mid.mk ?_
     refine jX 5 2 aF aF ?_;simp only[jW,aW,aX,aU,aV];go_wp2_with fail
     have aZ8:=aD x8 (.cells #[.int .i64 0,.slice none 0 0,.int .i64 0,.slice none 0 0,.int .i64 0,.slice none 0 0,.int .i64 0,.slice none 0 0,.int .i64 0,.slice none 0 0] 125);have bP8:=kG.new x8 125 #[.int .i64 0,.slice none 0 0,.int .i64 0,.slice none 0 0,.int .i64 0,.slice none 0 0,.int .i64 0,.slice none 0 0,.int .i64 0,.slice none 0 0];have hx9:=bGH.o.tm aZ8;have b62:=bP8;have bGI:=b8U.o.late aZ8;have vQ:=bGH.o.size;have bZE:g5<x8.heap.size:=b8U.o.lt;replace vQ:=aA (fO vQ bZE)
     clear bP8;obtain⟨x9,ex9⟩:∃W,x8.alloc (.cells #[.int .i64 0,.slice none 0 0,.int .i64 0,.slice none 0 0,.int .i64 0,.slice none 0 0,.int .i64 0,.slice none 0 0,.int .i64 0,.slice none 0 0] 125)=W:=⟨_,rfl⟩;rw[ex9]at hx9 aZ8 b62 bGI ⊢;obtain⟨g6,bGJ⟩:∃g,x8.heap.size=g:=⟨_,rfl⟩;try rw[bGJ]at b62 vQ
     try rw[bGJ]
     clear bGJ ex9;obtain⟨HS,bZF,c3Q,bP9,b8V⟩:=aM (jV.o _ hx9) hx9 aZ8 b62 bGI;clear hx9 aZ8 b62 bGI;first|refine Mid.mk ⟨HS.o,?_⟩|refine Mid.mk ?_
     refine jX 6 1 aF aF ?_;simp only[jW,aW,aX,aU,aV];go_wp2_with (refine wpList_store_row rfl 125 (.tmp 5) (.tmp 10) rfl g5 #[.int .i64 0,.slice za zn zc,.int .i64 2,.slice pa pn pc,.int .i64 3,.slice ga gn gc,.int .i64 4,.slice ia iN ic,.int .i64 1,.slice fa fn fc] rfl rfl 125 _ b8V.o aF rfl aF ?_)
     have R9:=b8V.o.row #[.int .i64 0,.slice za zn zc,.int .i64 2,.slice pa pn pc,.int .i64 3,.slice ga gn gc,.int .i64 4,.slice ia iN ic,.int .i64 1,.slice fa fn fc];have RA:kG (x9.setRow g5 #[.int .i64 0,.slice za zn zc,.int .i64 2,.slice pa pn pc,.int .i64 3,.slice ga gn gc,.int .i64 4,.slice ia iN ic,.int .i64 1,.slice fa fn fc]) g6 125 #[.int .i64 0,.slice none 0 0,.int .i64 0,.slice none 0 0,.int .i64 0,.slice none 0 0,.int .i64 0,.slice none 0 0,.int .i64 0,.slice none 0 0]:=(setRow_other x9 g5 g6 _ (by have:=qA.o;have:=vQ.o;omega)).trans bP9.o;have JH:=kN bZF.o (show W.heap.size≤g5 by have:=qA.o;omega) #[.int .i64 0,.slice za zn zc,.int .i64 2,.slice pa pn pc,.int .i64 3,.slice ga gn gc,.int .i64 4,.slice ia iN ic,.int .i64 1,.slice fa fn fc];obtain⟨HS,J9,yI,JA⟩:=aL (jV.o _ JH) R9 RA JH;clear R9 RA JH;first|refine Mid.mk ⟨HS.o,?_⟩|refine⟨HS.o,?_⟩
     refine jX 7 0 aF aF ?_;simp only[jW,aW,aX,aU,aV];go_wp2_with (refine wpList_store_row rfl 125 (.tmp 6) (.tmp 12) rfl g6 #[.int .i64 0,.slice CB CF CG,.int .i64 2,.slice CJ CK pc2,.int .i64 3,.slice CO CP CQ,.int .i64 4,.slice CR CS CV,.int .i64 1,.slice fa2 CW CX] rfl rfl 125 _ yI.o aF rfl aF ?_)
     have RB:=yI.o.row #[.int .i64 0,.slice CB CF CG,.int .i64 2,.slice CJ CK pc2,.int .i64 3,.slice CO CP CQ,.int .i64 4,.slice CR CS CV,.int .i64 1,.slice fa2 CW CX];have RF:kG ((x9.setRow g5 #[.int .i64 0,.slice za zn zc,.int .i64 2,.slice pa pn pc,.int .i64 3,.slice ga gn gc,.int .i64 4,.slice ia iN ic,.int .i64 1,.slice fa fn fc]).setRow g6 #[.int .i64 0,.slice CB CF CG,.int .i64 2,.slice CJ CK pc2,.int .i64 3,.slice CO CP CQ,.int .i64 4,.slice CR CS CV,.int .i64 1,.slice fa2 CW CX]) g5 125 #[.int .i64 0,.slice za zn zc,.int .i64 2,.slice pa pn pc,.int .i64 3,.slice ga gn gc,.int .i64 4,.slice ia iN ic,.int .i64 1,.slice fa fn fc]:=(setRow_other (x9.setRow g5 #[.int .i64 0,.slice za zn zc,.int .i64 2,.slice pa pn pc,.int .i64 3,.slice ga gn gc,.int .i64 4,.slice ia iN ic,.int .i64 1,.slice fa fn fc]) g6 g5 _ (by have:=qA.o;have:=vQ.o;omega)).trans J9.o;have JI:=kN JA.o (show W.heap.size≤g6 by have:=vQ.o;omega) #[.int .i64 0,.slice CB CF CG,.int .i64 2,.slice CJ CK pc2,.int .i64 3,.slice CO CP CQ,.int .i64 4,.slice CR CS CV,.int .i64 1,.slice fa2 CW CX];obtain⟨HS,JB,JC,JD⟩:=aL (jV.o _ JI) RB RF JI;clear RB RF JI;first|(refine Mid.mk ⟨HS.o,?_⟩;refine kH aF ?_)|(refine⟨HS.o,?_⟩;refine kH aF ?_)|refine⟨HS.o,by kernel_rfl,?_⟩
     clear q0 q1 q2 q3 q4 q5 q6 q7 r0 r1 r2 r3 r4 r5 r6 r7;go_wp2_with fail
     go_meet
     case rel=>exact⟨g5,g6,rfl,rfl,JC,JB,JD⟩
    case refine_2=>
     go_wp2_with fail
     have aH7:=aD x7 (.cells #[.int .i64 0,.slice none 0 0,.int .i64 0,.slice none 0 0,.int .i64 0,.slice none 0 0,.int .i64 0,.slice none 0 0,.int .i64 0,.slice none 0 0] 125);have b8W:=kG.new x7 125 #[.int .i64 0,.slice none 0 0,.int .i64 0,.slice none 0 0,.int .i64 0,.slice none 0 0,.int .i64 0,.slice none 0 0,.int .i64 0,.slice none 0 0];have b63:=aZ6.o.tm aH7;have aNU:=b8W;have aZ9:=aZ7.o.late aH7;have vQ:=aZ6.o.size;have bPA:g5<x7.heap.size:=aZ7.o.lt;replace vQ:=aA (fO vQ bPA)
     clear b8W;obtain⟨x10,bPB⟩:∃W,x7.alloc (.cells #[.int .i64 0,.slice none 0 0,.int .i64 0,.slice none 0 0,.int .i64 0,.slice none 0 0,.int .i64 0,.slice none 0 0,.int .i64 0,.slice none 0 0] 125)=W:=⟨_,rfl⟩;rw[bPB]at b63 aH7 aNU aZ9 ⊢;obtain⟨g6,aZA⟩:∃g,x7.heap.size=g:=⟨_,rfl⟩;try rw[aZA]at aNU vQ
     try rw[aZA]
     clear aZA bPB;obtain⟨HS,b8X,bZG,bGK,bGL⟩:=aM (jV.o _ b63) b63 aH7 aNU aZ9;clear b63 aH7 aNU aZ9;first|refine Mid.mk ⟨HS.o,?_⟩|refine Mid.mk ?_
     refine jX 3 2 aF aF ?_;simp only[jW,aW,aX,aU,aV];go_wp2_with fail
     refine(BJ.o _).mono ?_;rintro e x11 ⟨rfl,aH8⟩;have bGM:=b8X.o.tm aH8;have b8Y:=bGL.o.late aH8;have b8Z:=bGK.o.late aH8;obtain⟨HS,bPC,bZH,aZB,bGN⟩:=aM (jV.o _ bGM) bGM aH8 b8Y b8Z;clear bGM aH8 b8Y b8Z;go_wp2_with fail
     first|refine Mid.mk ⟨HS.o,?_⟩|refine Mid.mk ?_
     refine jX 6 1 aF aF ?_;simp only[jW,aW,aX,aU,aV];go_wp2_with (refine wpList_store_row rfl 125 (.tmp 5) (.tmp 10) rfl g5 #[.int .i64 0,.slice za zn zc,.int .i64 2,.slice pa pn pc,.int .i64 3,.slice ga gn gc,.int .i64 4,.slice ia iN ic,.int .i64 1,.slice fa fn fc] rfl rfl 125 _ aZB.o aF rfl aF ?_)
     have R9:=aZB.o.row #[.int .i64 0,.slice za zn zc,.int .i64 2,.slice pa pn pc,.int .i64 3,.slice ga gn gc,.int .i64 4,.slice ia iN ic,.int .i64 1,.slice fa fn fc];have RA:kG (x11.setRow g5 #[.int .i64 0,.slice za zn zc,.int .i64 2,.slice pa pn pc,.int .i64 3,.slice ga gn gc,.int .i64 4,.slice ia iN ic,.int .i64 1,.slice fa fn fc]) g6 125 #[.int .i64 0,.slice none 0 0,.int .i64 0,.slice none 0 0,.int .i64 0,.slice none 0 0,.int .i64 0,.slice none 0 0,.int .i64 0,.slice none 0 0]:=(setRow_other x11 g5 g6 _ (by have:=qA.o;have:=vQ.o;omega)).trans bGN.o;have JH:=kN bPC.o (show W.heap.size≤g5 by have:=qA.o;omega) #[.int .i64 0,.slice za zn zc,.int .i64 2,.slice pa pn pc,.int .i64 3,.slice ga gn gc,.int .i64 4,.slice ia iN ic,.int .i64 1,.slice fa fn fc];obtain⟨HS,J9,yI,JA⟩:=aL (jV.o _ JH) R9 RA JH;clear R9 RA JH;first|refine Mid.mk ⟨HS.o,?_⟩|refine⟨HS.o,?_⟩
     refine jX 7 0 aF aF ?_;simp only[jW,aW,aX,aU,aV];go_wp2_with (refine wpList_store_row rfl 125 (.tmp 6) (.tmp 12) rfl g6 #[.int .i64 0,.slice CB CF CG,.int .i64 2,.slice CJ CK pc2,.int .i64 3,.slice CO CP CQ,.int .i64 4,.slice CR CS CV,.int .i64 1,.slice fa2 CW CX] rfl rfl 125 _ yI.o aF rfl aF ?_)
     have RB:=yI.o.row #[.int .i64 0,.slice CB CF CG,.int .i64 2,.slice CJ CK pc2,.int .i64 3,.slice CO CP CQ,.int .i64 4,.slice CR CS CV,.int .i64 1,.slice fa2 CW CX];have RF:kG ((x11.setRow g5 #[.int .i64 0,.slice za zn zc,.int .i64 2,.slice pa pn pc,.int .i64 3,.slice ga gn gc,.int .i64 4,.slice ia iN ic,.int .i64 1,.slice fa fn fc]).setRow g6 #[.int .i64 0,.slice CB CF CG,.int .i64 2,.slice CJ CK pc2,.int .i64 3,.slice CO CP CQ,.int .i64 4,.slice CR CS CV,.int .i64 1,.slice fa2 CW CX]) g5 125 #[.int .i64 0,.slice za zn zc,.int .i64 2,.slice pa pn pc,.int .i64 3,.slice ga gn gc,.int .i64 4,.slice ia iN ic,.int .i64 1,.slice fa fn fc]:=(setRow_other (x11.setRow g5 #[.int .i64 0,.slice za zn zc,.int .i64 2,.slice pa pn pc,.int .i64 3,.slice ga gn gc,.int .i64 4,.slice ia iN ic,.int .i64 1,.slice fa fn fc]) g6 g5 _ (by have:=qA.o;have:=vQ.o;omega)).trans J9.o;have JI:=kN JA.o (show W.heap.size≤g6 by have:=vQ.o;omega) #[.int .i64 0,.slice CB CF CG,.int .i64 2,.slice CJ CK pc2,.int .i64 3,.slice CO CP CQ,.int .i64 4,.slice CR CS CV,.int .i64 1,.slice fa2 CW CX];obtain⟨HS,JB,JC,JD⟩:=aL (jV.o _ JI) RB RF JI;clear RB RF JI;first|(refine Mid.mk ⟨HS.o,?_⟩;refine kH aF ?_)|(refine⟨HS.o,?_⟩;refine kH aF ?_)|refine⟨HS.o,by kernel_rfl,?_⟩
     clear q0 q1 q2 q3 q4 q5 q6 q7 r0 r1 r2 r3 r4 r5 r6 r7;go_wp2_with fail
     go_meet
     case rel=>exact⟨g5,g6,rfl,rfl,JC,JB,JD⟩
   case refine_3=>
    go_wp2_with fail
    have QU:=aD x1 (.cells #[.int .i64 0,.slice none 0 0,.int .i64 0,.slice none 0 0,.int .i64 0,.slice none 0 0,.int .i64 0,.slice none 0 0,.int .i64 0,.slice none 0 0] 125);have b90:=kG.new x1 125 #[.int .i64 0,.slice none 0 0,.int .i64 0,.slice none 0 0,.int .i64 0,.slice none 0 0,.int .i64 0,.slice none 0 0,.int .i64 0,.slice none 0 0];have a0N:=a1W.o.tm QU;have aNV:=b90;have vQ:=a1W.o.size;replace vQ:=aA (fO vQ trivial)
    clear b90;obtain⟨x12,bPD⟩:∃W,x1.alloc (.cells #[.int .i64 0,.slice none 0 0,.int .i64 0,.slice none 0 0,.int .i64 0,.slice none 0 0,.int .i64 0,.slice none 0 0,.int .i64 0,.slice none 0 0] 125)=W:=⟨_,rfl⟩;rw[bPD]at a0N QU aNV ⊢;obtain⟨g6,aZC⟩:∃g,x1.heap.size=g:=⟨_,rfl⟩;try rw[aZC]at aNV vQ
    try rw[aZC]
    clear aZC bPD;obtain⟨HS,aA2,bF9,aLO⟩:=aL (jV.o _ a0N) a0N QU aNV;clear a0N QU aNV;first|refine Mid.mk ⟨HS.o,?_⟩|refine Mid.mk ?_
    refine vC 3 4 3 aF aF ?_ ?_;all_goals simp only[jW,aW,aX,aU,aV]
    case refine_1=>
     go_wp2_with fail
     refine(BJ.o _).mono ?_;rintro e x13 ⟨rfl,aNW⟩;have bGO:=aA2.o.tm aNW;have b91:=aLO.o.late aNW;obtain⟨HS,aZD,bZI,aZE⟩:=aL (jV.o _ bGO) bGO aNW b91;clear bGO aNW b91;go_wp2_with fail
     first|refine Mid.mk ⟨HS.o,?_⟩|refine Mid.mk ?_
     refine jX 4 2 aF aF ?_;simp only[jW,aW,aX,aU,aV];go_wp2_with fail
     have aH9:=aD x13 (.cells #[.int .i64 0,.slice none 0 0,.int .i64 0,.slice none 0 0,.int .i64 0,.slice none 0 0,.int .i64 0,.slice none 0 0,.int .i64 0,.slice none 0 0] 125);have b92:=kG.new x13 125 #[.int .i64 0,.slice none 0 0,.int .i64 0,.slice none 0 0,.int .i64 0,.slice none 0 0,.int .i64 0,.slice none 0 0,.int .i64 0,.slice none 0 0];have b65:=aZD.o.tm aH9;have aNX:=b92;have aZF:=aZE.o.late aH9;have qA:=aZD.o.size;have bPE:g6<x13.heap.size:=aZE.o.lt;replace qA:=aA (fO qA bPE)
     clear b92;obtain⟨x14,bPF⟩:∃W,x13.alloc (.cells #[.int .i64 0,.slice none 0 0,.int .i64 0,.slice none 0 0,.int .i64 0,.slice none 0 0,.int .i64 0,.slice none 0 0,.int .i64 0,.slice none 0 0] 125)=W:=⟨_,rfl⟩;rw[bPF]at b65 aH9 aNX aZF ⊢;obtain⟨g5,aZG⟩:∃g,x13.heap.size=g:=⟨_,rfl⟩;try rw[aZG]at aNX qA
     try rw[aZG]
     clear aZG bPF;obtain⟨HS,bPG,bZJ,aZH,bGP⟩:=aM (jV.o _ b65) b65 aH9 aNX aZF;clear b65 aH9 aNX aZF;first|refine Mid.mk ⟨HS.o,?_⟩|refine Mid.mk ?_
     refine jX 6 1 aF aF ?_;simp only[jW,aW,aX,aU,aV];go_wp2_with (refine wpList_store_row rfl 125 (.tmp 5) (.tmp 10) rfl g5 #[.int .i64 0,.slice za zn zc,.int .i64 2,.slice pa pn pc,.int .i64 3,.slice ga gn gc,.int .i64 4,.slice ia iN ic,.int .i64 1,.slice fa fn fc] rfl rfl 125 _ aZH.o aF rfl aF ?_)
     have R9:=aZH.o.row #[.int .i64 0,.slice za zn zc,.int .i64 2,.slice pa pn pc,.int .i64 3,.slice ga gn gc,.int .i64 4,.slice ia iN ic,.int .i64 1,.slice fa fn fc];have RA:kG (x14.setRow g5 #[.int .i64 0,.slice za zn zc,.int .i64 2,.slice pa pn pc,.int .i64 3,.slice ga gn gc,.int .i64 4,.slice ia iN ic,.int .i64 1,.slice fa fn fc]) g6 125 #[.int .i64 0,.slice none 0 0,.int .i64 0,.slice none 0 0,.int .i64 0,.slice none 0 0,.int .i64 0,.slice none 0 0,.int .i64 0,.slice none 0 0]:=(setRow_other x14 g5 g6 _ (by have:=qA.o;have:=vQ.o;omega)).trans bGP.o;have JH:=kN bPG.o (show W.heap.size≤g5 by have:=qA.o;omega) #[.int .i64 0,.slice za zn zc,.int .i64 2,.slice pa pn pc,.int .i64 3,.slice ga gn gc,.int .i64 4,.slice ia iN ic,.int .i64 1,.slice fa fn fc];obtain⟨HS,J9,yI,JA⟩:=aL (jV.o _ JH) R9 RA JH;clear R9 RA JH;first|refine Mid.mk ⟨HS.o,?_⟩|refine⟨HS.o,?_⟩
     refine jX 7 0 aF aF ?_;simp only[jW,aW,aX,aU,aV];go_wp2_with (refine wpList_store_row rfl 125 (.tmp 6) (.tmp 12) rfl g6 #[.int .i64 0,.slice CB CF CG,.int .i64 2,.slice CJ CK pc2,.int .i64 3,.slice CO CP CQ,.int .i64 4,.slice CR CS CV,.int .i64 1,.slice fa2 CW CX] rfl rfl 125 _ yI.o aF rfl aF ?_)
     have RB:=yI.o.row #[.int .i64 0,.slice CB CF CG,.int .i64 2,.slice CJ CK pc2,.int .i64 3,.slice CO CP CQ,.int .i64 4,.slice CR CS CV,.int .i64 1,.slice fa2 CW CX];have RF:kG ((x14.setRow g5 #[.int .i64 0,.slice za zn zc,.int .i64 2,.slice pa pn pc,.int .i64 3,.slice ga gn gc,.int .i64 4,.slice ia iN ic,.int .i64 1,.slice fa fn fc]).setRow g6 #[.int .i64 0,.slice CB CF CG,.int .i64 2,.slice CJ CK pc2,.int .i64 3,.slice CO CP CQ,.int .i64 4,.slice CR CS CV,.int .i64 1,.slice fa2 CW CX]) g5 125 #[.int .i64 0,.slice za zn zc,.int .i64 2,.slice pa pn pc,.int .i64 3,.slice ga gn gc,.int .i64 4,.slice ia iN ic,.int .i64 1,.slice fa fn fc]:=(setRow_other (x14.setRow g5 #[.int .i64 0,.slice za zn zc,.int .i64 2,.slice pa pn pc,.int .i64 3,.slice ga gn gc,.int .i64 4,.slice ia iN ic,.int .i64 1,.slice fa fn fc]) g6 g5 _ (by have:=qA.o;have:=vQ.o;omega)).trans J9.o;have JI:=kN JA.o (show W.heap.size≤g6 by have:=vQ.o;omega) #[.int .i64 0,.slice CB CF CG,.int .i64 2,.slice CJ CK pc2,.int .i64 3,.slice CO CP CQ,.int .i64 4,.slice CR CS CV,.int .i64 1,.slice fa2 CW CX];obtain⟨HS,JB,JC,JD⟩:=aL (jV.o _ JI) RB RF JI;clear RB RF JI;first|(refine Mid.mk ⟨HS.o,?_⟩;refine kH aF ?_)|(refine⟨HS.o,?_⟩;refine kH aF ?_)|refine⟨HS.o,by kernel_rfl,?_⟩
     clear q0 q1 q2 q3 q4 q5 q6 q7 r0 r1 r2 r3 r4 r5 r6 r7;go_wp2_with fail
     go_meet
     case rel=>exact⟨g5,g6,rfl,rfl,JC,JB,JD⟩
    case refine_2=>
     go_wp2_with fail
     have aHA:=aD x12 (.cells #[.int .i64 0,.slice none 0 0,.int .i64 0,.slice none 0 0,.int .i64 0,.slice none 0 0,.int .i64 0,.slice none 0 0,.int .i64 0,.slice none 0 0] 125);have b93:=kG.new x12 125 #[.int .i64 0,.slice none 0 0,.int .i64 0,.slice none 0 0,.int .i64 0,.slice none 0 0,.int .i64 0,.slice none 0 0,.int .i64 0,.slice none 0 0];have b66:=aA2.o.tm aHA;have aNY:=b93;have aZI:=aLO.o.late aHA;have qA:=aA2.o.size;have bPH:g6<x12.heap.size:=aLO.o.lt;replace qA:=aA (fO qA bPH)
     clear b93;obtain⟨x15,bPI⟩:∃W,x12.alloc (.cells #[.int .i64 0,.slice none 0 0,.int .i64 0,.slice none 0 0,.int .i64 0,.slice none 0 0,.int .i64 0,.slice none 0 0,.int .i64 0,.slice none 0 0] 125)=W:=⟨_,rfl⟩;rw[bPI]at b66 aHA aNY aZI ⊢;obtain⟨g5,aZJ⟩:∃g,x12.heap.size=g:=⟨_,rfl⟩;try rw[aZJ]at aNY qA
     try rw[aZJ]
     clear aZJ bPI;obtain⟨HS,b94,bZK,bGQ,bGR⟩:=aM (jV.o _ b66) b66 aHA aNY aZI;clear b66 aHA aNY aZI;first|refine Mid.mk ⟨HS.o,?_⟩|refine Mid.mk ?_
     refine jX 3 2 aF aF ?_;simp only[jW,aW,aX,aU,aV];go_wp2_with fail
     refine(BJ.o _).mono ?_;rintro e x16 ⟨rfl,aHB⟩;have bIN:=b94.o.tm aHB;have b95:=bGQ.o.late aHB;have b96:=bGR.o.late aHB;obtain⟨HS,bPJ,bZL,aZK,bGS⟩:=aM (jV.o _ bIN) bIN aHB b95 b96;clear bIN aHB b95 b96;go_wp2_with fail
     first|refine Mid.mk ⟨HS.o,?_⟩|refine Mid.mk ?_
     refine jX 6 1 aF aF ?_;simp only[jW,aW,aX,aU,aV];go_wp2_with (refine wpList_store_row rfl 125 (.tmp 5) (.tmp 10) rfl g5 #[.int .i64 0,.slice za zn zc,.int .i64 2,.slice pa pn pc,.int .i64 3,.slice ga gn gc,.int .i64 4,.slice ia iN ic,.int .i64 1,.slice fa fn fc] rfl rfl 125 _ aZK.o aF rfl aF ?_)
     have R9:=aZK.o.row #[.int .i64 0,.slice za zn zc,.int .i64 2,.slice pa pn pc,.int .i64 3,.slice ga gn gc,.int .i64 4,.slice ia iN ic,.int .i64 1,.slice fa fn fc];have RA:kG (x16.setRow g5 #[.int .i64 0,.slice za zn zc,.int .i64 2,.slice pa pn pc,.int .i64 3,.slice ga gn gc,.int .i64 4,.slice ia iN ic,.int .i64 1,.slice fa fn fc]) g6 125 #[.int .i64 0,.slice none 0 0,.int .i64 0,.slice none 0 0,.int .i64 0,.slice none 0 0,.int .i64 0,.slice none 0 0,.int .i64 0,.slice none 0 0]:=(setRow_other x16 g5 g6 _ (by have:=qA.o;have:=vQ.o;omega)).trans bGS.o;have JH:=kN bPJ.o (show W.heap.size≤g5 by have:=qA.o;omega) #[.int .i64 0,.slice za zn zc,.int .i64 2,.slice pa pn pc,.int .i64 3,.slice ga gn gc,.int .i64 4,.slice ia iN ic,.int .i64 1,.slice fa fn fc];obtain⟨HS,J9,yI,JA⟩:=aL (jV.o _ JH) R9 RA JH;clear R9 RA JH;first|refine Mid.mk ⟨HS.o,?_⟩|refine⟨HS.o,?_⟩
     refine jX 7 0 aF aF ?_;simp only[jW,aW,aX,aU,aV];go_wp2_with (refine wpList_store_row rfl 125 (.tmp 6) (.tmp 12) rfl g6 #[.int .i64 0,.slice CB CF CG,.int .i64 2,.slice CJ CK pc2,.int .i64 3,.slice CO CP CQ,.int .i64 4,.slice CR CS CV,.int .i64 1,.slice fa2 CW CX] rfl rfl 125 _ yI.o aF rfl aF ?_)
     have RB:=yI.o.row #[.int .i64 0,.slice CB CF CG,.int .i64 2,.slice CJ CK pc2,.int .i64 3,.slice CO CP CQ,.int .i64 4,.slice CR CS CV,.int .i64 1,.slice fa2 CW CX];have RF:kG ((x16.setRow g5 #[.int .i64 0,.slice za zn zc,.int .i64 2,.slice pa pn pc,.int .i64 3,.slice ga gn gc,.int .i64 4,.slice ia iN ic,.int .i64 1,.slice fa fn fc]).setRow g6 #[.int .i64 0,.slice CB CF CG,.int .i64 2,.slice CJ CK pc2,.int .i64 3,.slice CO CP CQ,.int .i64 4,.slice CR CS CV,.int .i64 1,.slice fa2 CW CX]) g5 125 #[.int .i64 0,.slice za zn zc,.int .i64 2,.slice pa pn pc,.int .i64 3,.slice ga gn gc,.int .i64 4,.slice ia iN ic,.int .i64 1,.slice fa fn fc]:=(setRow_other (x16.setRow g5 #[.int .i64 0,.slice za zn zc,.int .i64 2,.slice pa pn pc,.int .i64 3,.slice ga gn gc,.int .i64 4,.slice ia iN ic,.int .i64 1,.slice fa fn fc]) g6 g5 _ (by have:=qA.o;have:=vQ.o;omega)).trans J9.o;have JI:=kN JA.o (show W.heap.size≤g6 by have:=vQ.o;omega) #[.int .i64 0,.slice CB CF CG,.int .i64 2,.slice CJ CK pc2,.int .i64 3,.slice CO CP CQ,.int .i64 4,.slice CR CS CV,.int .i64 1,.slice fa2 CW CX];obtain⟨HS,JB,JC,JD⟩:=aL (jV.o _ JI) RB RF JI;clear RB RF JI;first|(refine Mid.mk ⟨HS.o,?_⟩;refine kH aF ?_)|(refine⟨HS.o,?_⟩;refine kH aF ?_)|refine⟨HS.o,by kernel_rfl,?_⟩
     clear q0 q1 q2 q3 q4 q5 q6 q7 r0 r1 r2 r3 r4 r5 r6 r7;go_wp2_with fail
     go_meet
     case rel=>exact⟨g5,g6,rfl,rfl,JC,JB,JD⟩
  case refine_2=>
   go_wp2_with fail
   have aNZ:=aD wD (.cells #[.int .i64 0,.slice none 0 0,.int .i64 0,.slice none 0 0,.int .i64 0,.slice none 0 0,.int .i64 0,.slice none 0 0,.int .i64 0,.slice none 0 0] 125);have b97:=kG.new wD 125 #[.int .i64 0,.slice none 0 0,.int .i64 0,.slice none 0 0,.int .i64 0,.slice none 0 0,.int .i64 0,.slice none 0 0,.int .i64 0,.slice none 0 0];have b67:=HD.o.tm aNZ;have aO0:=b97;have qA:=HD.o.size;replace qA:=aA (fO qA trivial)
   clear b97;obtain⟨x17,bPK⟩:∃W,wD.alloc (.cells #[.int .i64 0,.slice none 0 0,.int .i64 0,.slice none 0 0,.int .i64 0,.slice none 0 0,.int .i64 0,.slice none 0 0,.int .i64 0,.slice none 0 0] 125)=W:=⟨_,rfl⟩;rw[bPK]at b67 aNZ aO0 ⊢;obtain⟨g5,aZL⟩:∃g,wD.heap.size=g:=⟨_,rfl⟩;try rw[aZL]at aO0 qA
   try rw[aZL]
   clear aZL bPK;obtain⟨HS,aHC,bZM,aLP⟩:=aL (jV.o _ b67) b67 aNZ aO0;clear b67 aNZ aO0;first|refine Mid.mk ⟨HS.o,?_⟩|refine Mid.mk ?_
   refine vC 1 5 4 aF aF ?_ ?_;all_goals simp only[jW,aW,aX,aU,aV]
   case refine_1=>
    go_wp2_with fail
    refine(V9.o _).mono ?_;rintro e x18 ⟨rfl,aO1⟩;have bGT:=aHC.o.tm aO1;have b98:=aLP.o.late aO1;obtain⟨HS,aHD,bZN,aLQ⟩:=aL (jV.o _ bGT) bGT aO1 b98;clear bGT aO1 b98;go_wp2_with fail
    first|refine Mid.mk ⟨HS.o,?_⟩|refine Mid.mk ?_
    refine vC 3 5 3 aF aF ?_ ?_;all_goals simp only[jW,aW,aX,aU,aV]
    case refine_1=>
     go_wp2_with fail
     refine(BJ.o _).mono ?_;rintro e x19 ⟨rfl,aO2⟩;have bGU:=aHD.o.tm aO2;have b99:=aLQ.o.late aO2;obtain⟨HS,aZM,bZO,aZN⟩:=aL (jV.o _ bGU) bGU aO2 b99;clear bGU aO2 b99;go_wp2_with fail
     first|refine Mid.mk ⟨HS.o,?_⟩|refine Mid.mk ?_
     refine jX 5 2 aF aF ?_;simp only[jW,aW,aX,aU,aV];go_wp2_with fail
     have aHE:=aD x19 (.cells #[.int .i64 0,.slice none 0 0,.int .i64 0,.slice none 0 0,.int .i64 0,.slice none 0 0,.int .i64 0,.slice none 0 0,.int .i64 0,.slice none 0 0] 125);have b9A:=kG.new x19 125 #[.int .i64 0,.slice none 0 0,.int .i64 0,.slice none 0 0,.int .i64 0,.slice none 0 0,.int .i64 0,.slice none 0 0,.int .i64 0,.slice none 0 0];have b6A:=aZM.o.tm aHE;have aO3:=b9A;have aZO:=aZN.o.late aHE;have vQ:=aZM.o.size;have bPL:g5<x19.heap.size:=aZN.o.lt;replace vQ:=aA (fO vQ bPL)
     clear b9A;obtain⟨x20,bPM⟩:∃W,x19.alloc (.cells #[.int .i64 0,.slice none 0 0,.int .i64 0,.slice none 0 0,.int .i64 0,.slice none 0 0,.int .i64 0,.slice none 0 0,.int .i64 0,.slice none 0 0] 125)=W:=⟨_,rfl⟩;rw[bPM]at b6A aHE aO3 aZO ⊢;obtain⟨g6,aZP⟩:∃g,x19.heap.size=g:=⟨_,rfl⟩;try rw[aZP]at aO3 vQ
     try rw[aZP]
     clear aZP bPM;obtain⟨HS,bPN,bZP,bGV,aZQ⟩:=aM (jV.o _ b6A) b6A aHE aO3 aZO;clear b6A aHE aO3 aZO;first|refine Mid.mk ⟨HS.o,?_⟩|refine Mid.mk ?_
     refine jX 6 1 aF aF ?_;simp only[jW,aW,aX,aU,aV];go_wp2_with (refine wpList_store_row rfl 125 (.tmp 5) (.tmp 10) rfl g5 #[.int .i64 0,.slice za zn zc,.int .i64 2,.slice pa pn pc,.int .i64 3,.slice ga gn gc,.int .i64 4,.slice ia iN ic,.int .i64 1,.slice fa fn fc] rfl rfl 125 _ aZQ.o aF rfl aF ?_)
     have R9:=aZQ.o.row #[.int .i64 0,.slice za zn zc,.int .i64 2,.slice pa pn pc,.int .i64 3,.slice ga gn gc,.int .i64 4,.slice ia iN ic,.int .i64 1,.slice fa fn fc];have RA:kG (x20.setRow g5 #[.int .i64 0,.slice za zn zc,.int .i64 2,.slice pa pn pc,.int .i64 3,.slice ga gn gc,.int .i64 4,.slice ia iN ic,.int .i64 1,.slice fa fn fc]) g6 125 #[.int .i64 0,.slice none 0 0,.int .i64 0,.slice none 0 0,.int .i64 0,.slice none 0 0,.int .i64 0,.slice none 0 0,.int .i64 0,.slice none 0 0]:=(setRow_other x20 g5 g6 _ (by have:=qA.o;have:=vQ.o;omega)).trans bGV.o;have JH:=kN bPN.o (show W.heap.size≤g5 by have:=qA.o;omega) #[.int .i64 0,.slice za zn zc,.int .i64 2,.slice pa pn pc,.int .i64 3,.slice ga gn gc,.int .i64 4,.slice ia iN ic,.int .i64 1,.slice fa fn fc];obtain⟨HS,J9,yI,JA⟩:=aL (jV.o _ JH) R9 RA JH;clear R9 RA JH;first|refine Mid.mk ⟨HS.o,?_⟩|refine⟨HS.o,?_⟩
     refine jX 7 0 aF aF ?_;simp only[jW,aW,aX,aU,aV];go_wp2_with (refine wpList_store_row rfl 125 (.tmp 6) (.tmp 12) rfl g6 #[.int .i64 0,.slice CB CF CG,.int .i64 2,.slice CJ CK pc2,.int .i64 3,.slice CO CP CQ,.int .i64 4,.slice CR CS CV,.int .i64 1,.slice fa2 CW CX] rfl rfl 125 _ yI.o aF rfl aF ?_)
     have RB:=yI.o.row #[.int .i64 0,.slice CB CF CG,.int .i64 2,.slice CJ CK pc2,.int .i64 3,.slice CO CP CQ,.int .i64 4,.slice CR CS CV,.int .i64 1,.slice fa2 CW CX];have RF:kG ((x20.setRow g5 #[.int .i64 0,.slice za zn zc,.int .i64 2,.slice pa pn pc,.int .i64 3,.slice ga gn gc,.int .i64 4,.slice ia iN ic,.int .i64 1,.slice fa fn fc]).setRow g6 #[.int .i64 0,.slice CB CF CG,.int .i64 2,.slice CJ CK pc2,.int .i64 3,.slice CO CP CQ,.int .i64 4,.slice CR CS CV,.int .i64 1,.slice fa2 CW CX]) g5 125 #[.int .i64 0,.slice za zn zc,.int .i64 2,.slice pa pn pc,.int .i64 3,.slice ga gn gc,.int .i64 4,.slice ia iN ic,.int .i64 1,.slice fa fn fc]:=(setRow_other (x20.setRow g5 #[.int .i64 0,.slice za zn zc,.int .i64 2,.slice pa pn pc,.int .i64 3,.slice ga gn gc,.int .i64 4,.slice ia iN ic,.int .i64 1,.slice fa fn fc]) g6 g5 _ (by have:=qA.o;have:=vQ.o;omega)).trans J9.o;have JI:=kN JA.o (show W.heap.size≤g6 by have:=vQ.o;omega) #[.int .i64 0,.slice CB CF CG,.int .i64 2,.slice CJ CK pc2,.int .i64 3,.slice CO CP CQ,.int .i64 4,.slice CR CS CV,.int .i64 1,.slice fa2 CW CX];obtain⟨HS,JB,JC,JD⟩:=aL (jV.o _ JI) RB RF JI;clear RB RF JI;first|(refine Mid.mk ⟨HS.o,?_⟩;refine kH aF ?_)|(refine⟨HS.o,?_⟩;refine kH aF ?_)|refine⟨HS.o,by kernel_rfl,?_⟩
     clear q0 q1 q2 q3 q4 q5 q6 q7 r0 r1 r2 r3 r4 r5 r6 r7;go_wp2_with fail
     go_meet
     case rel=>exact⟨g5,g6,rfl,rfl,JC,JB,JD⟩
    case refine_2=>
     go_wp2_with fail
     have aHF:=aD x18 (.cells #[.int .i64 0,.slice none 0 0,.int .i64 0,.slice none 0 0,.int .i64 0,.slice none 0 0,.int .i64 0,.slice none 0 0,.int .i64 0,.slice none 0 0] 125);have b9B:=kG.new x18 125 #[.int .i64 0,.slice none 0 0,.int .i64 0,.slice none 0 0,.int .i64 0,.slice none 0 0,.int .i64 0,.slice none 0 0,.int .i64 0,.slice none 0 0];have b6B:=aHD.o.tm aHF;have aO4:=b9B;have aZR:=aLQ.o.late aHF;have vQ:=aHD.o.size;have bPO:g5<x18.heap.size:=aLQ.o.lt;replace vQ:=aA (fO vQ bPO)
     clear b9B;obtain⟨x21,bPP⟩:∃W,x18.alloc (.cells #[.int .i64 0,.slice none 0 0,.int .i64 0,.slice none 0 0,.int .i64 0,.slice none 0 0,.int .i64 0,.slice none 0 0,.int .i64 0,.slice none 0 0] 125)=W:=⟨_,rfl⟩;rw[bPP]at b6B aHF aO4 aZR ⊢;obtain⟨g6,aZS⟩:∃g,x18.heap.size=g:=⟨_,rfl⟩;try rw[aZS]at aO4 vQ
     try rw[aZS]
     clear aZS bPP;obtain⟨HS,b9C,bZQ,bGW,bGX⟩:=aM (jV.o _ b6B) b6B aHF aO4 aZR;clear b6B aHF aO4 aZR;first|refine Mid.mk ⟨HS.o,?_⟩|refine Mid.mk ?_
     refine jX 3 2 aF aF ?_;simp only[jW,aW,aX,aU,aV];go_wp2_with fail
     refine(BJ.o _).mono ?_;rintro e x22 ⟨rfl,aHG⟩;have bGY:=b9C.o.tm aHG;have b9D:=bGX.o.late aHG;have b9E:=bGW.o.late aHG;obtain⟨HS,bPQ,bZR,aZT,bGZ⟩:=aM (jV.o _ bGY) bGY aHG b9D b9E;clear bGY aHG b9D b9E;go_wp2_with fail
     first|refine Mid.mk ⟨HS.o,?_⟩|refine Mid.mk ?_
     refine jX 6 1 aF aF ?_;simp only[jW,aW,aX,aU,aV];go_wp2_with (refine wpList_store_row rfl 125 (.tmp 5) (.tmp 10) rfl g5 #[.int .i64 0,.slice za zn zc,.int .i64 2,.slice pa pn pc,.int .i64 3,.slice ga gn gc,.int .i64 4,.slice ia iN ic,.int .i64 1,.slice fa fn fc] rfl rfl 125 _ aZT.o aF rfl aF ?_)
     have R9:=aZT.o.row #[.int .i64 0,.slice za zn zc,.int .i64 2,.slice pa pn pc,.int .i64 3,.slice ga gn gc,.int .i64 4,.slice ia iN ic,.int .i64 1,.slice fa fn fc];have RA:kG (x22.setRow g5 #[.int .i64 0,.slice za zn zc,.int .i64 2,.slice pa pn pc,.int .i64 3,.slice ga gn gc,.int .i64 4,.slice ia iN ic,.int .i64 1,.slice fa fn fc]) g6 125 #[.int .i64 0,.slice none 0 0,.int .i64 0,.slice none 0 0,.int .i64 0,.slice none 0 0,.int .i64 0,.slice none 0 0,.int .i64 0,.slice none 0 0]:=(setRow_other x22 g5 g6 _ (by have:=qA.o;have:=vQ.o;omega)).trans bGZ.o;have JH:=kN bPQ.o (show W.heap.size≤g5 by have:=qA.o;omega) #[.int .i64 0,.slice za zn zc,.int .i64 2,.slice pa pn pc,.int .i64 3,.slice ga gn gc,.int .i64 4,.slice ia iN ic,.int .i64 1,.slice fa fn fc];obtain⟨HS,J9,yI,JA⟩:=aL (jV.o _ JH) R9 RA JH;clear R9 RA JH;first|refine Mid.mk ⟨HS.o,?_⟩|refine⟨HS.o,?_⟩
     refine jX 7 0 aF aF ?_;simp only[jW,aW,aX,aU,aV];go_wp2_with (refine wpList_store_row rfl 125 (.tmp 6) (.tmp 12) rfl g6 #[.int .i64 0,.slice CB CF CG,.int .i64 2,.slice CJ CK pc2,.int .i64 3,.slice CO CP CQ,.int .i64 4,.slice CR CS CV,.int .i64 1,.slice fa2 CW CX] rfl rfl 125 _ yI.o aF rfl aF ?_)
     have RB:=yI.o.row #[.int .i64 0,.slice CB CF CG,.int .i64 2,.slice CJ CK pc2,.int .i64 3,.slice CO CP CQ,.int .i64 4,.slice CR CS CV,.int .i64 1,.slice fa2 CW CX];have RF:kG ((x22.setRow g5 #[.int .i64 0,.slice za zn zc,.int .i64 2,.slice pa pn pc,.int .i64 3,.slice ga gn gc,.int .i64 4,.slice ia iN ic,.int .i64 1,.slice fa fn fc]).setRow g6 #[.int .i64 0,.slice CB CF CG,.int .i64 2,.slice CJ CK pc2,.int .i64 3,.slice CO CP CQ,.int .i64 4,.slice CR CS CV,.int .i64 1,.slice fa2 CW CX]) g5 125 #[.int .i64 0,.slice za zn zc,.int .i64 2,.slice pa pn pc,.int .i64 3,.slice ga gn gc,.int .i64 4,.slice ia iN ic,.int .i64 1,.slice fa fn fc]:=(setRow_other (x22.setRow g5 #[.int .i64 0,.slice za zn zc,.int .i64 2,.slice pa pn pc,.int .i64 3,.slice ga gn gc,.int .i64 4,.slice ia iN ic,.int .i64 1,.slice fa fn fc]) g6 g5 _ (by have:=qA.o;have:=vQ.o;omega)).trans J9.o;have JI:=kN JA.o (show W.heap.size≤g6 by have:=vQ.o;omega) #[.int .i64 0,.slice CB CF CG,.int .i64 2,.slice CJ CK pc2,.int .i64 3,.slice CO CP CQ,.int .i64 4,.slice CR CS CV,.int .i64 1,.slice fa2 CW CX];obtain⟨HS,JB,JC,JD⟩:=aL (jV.o _ JI) RB RF JI;clear RB RF JI;first|(refine Mid.mk ⟨HS.o,?_⟩;refine kH aF ?_)|(refine⟨HS.o,?_⟩;refine kH aF ?_)|refine⟨HS.o,by kernel_rfl,?_⟩
     clear q0 q1 q2 q3 q4 q5 q6 q7 r0 r1 r2 r3 r4 r5 r6 r7;go_wp2_with fail
     go_meet
     case rel=>exact⟨g5,g6,rfl,rfl,JC,JB,JD⟩
   case refine_2=>
    go_wp2_with fail
    have aHH:=aD x17 (.cells #[.int .i64 0,.slice none 0 0,.int .i64 0,.slice none 0 0,.int .i64 0,.slice none 0 0,.int .i64 0,.slice none 0 0,.int .i64 0,.slice none 0 0] 125);have b9F:=kG.new x17 125 #[.int .i64 0,.slice none 0 0,.int .i64 0,.slice none 0 0,.int .i64 0,.slice none 0 0,.int .i64 0,.slice none 0 0,.int .i64 0,.slice none 0 0];have b6C:=aHC.o.tm aHH;have aO5:=b9F;have aZU:=aLP.o.late aHH;have vQ:=aHC.o.size;have bPR:g5<x17.heap.size:=aLP.o.lt;replace vQ:=aA (fO vQ bPR)
    clear b9F;obtain⟨x23,bPS⟩:∃W,x17.alloc (.cells #[.int .i64 0,.slice none 0 0,.int .i64 0,.slice none 0 0,.int .i64 0,.slice none 0 0,.int .i64 0,.slice none 0 0,.int .i64 0,.slice none 0 0] 125)=W:=⟨_,rfl⟩;rw[bPS]at b6C aHH aO5 aZU ⊢;obtain⟨g6,aZV⟩:∃g,x17.heap.size=g:=⟨_,rfl⟩;try rw[aZV]at aO5 vQ
    try rw[aZV]
    clear aZV bPS;obtain⟨HS,b9G,bZS,bH0,bH1⟩:=aM (jV.o _ b6C) b6C aHH aO5 aZU;clear b6C aHH aO5 aZU;first|refine Mid.mk ⟨HS.o,?_⟩|refine Mid.mk ?_
    refine jX 1 3 aF aF ?_;simp only[jW,aW,aX,aU,aV];go_wp2_with fail
    refine(V9.o _).mono ?_;rintro e x24 ⟨rfl,aHI⟩;have bIO:=b9G.o.tm aHI;have b9H:=bH1.o.late aHI;have b9I:=bH0.o.late aHI;obtain⟨HS,b9J,bZT,bH2,bH3⟩:=aM (jV.o _ bIO) bIO aHI b9H b9I;clear bIO aHI b9H b9I;go_wp2_with fail
    first|refine Mid.mk ⟨HS.o,?_⟩|refine Mid.mk ?_
    refine jX 3 2 aF aF ?_;simp only[jW,aW,aX,aU,aV];go_wp2_with fail
    refine(BJ.o _).mono ?_;rintro e x25 ⟨rfl,aHJ⟩;have bIP:=b9J.o.tm aHJ;have b9K:=bH2.o.late aHJ;have b9L:=bH3.o.late aHJ;obtain⟨HS,bPT,bZU,aZW,bH4⟩:=aM (jV.o _ bIP) bIP aHJ b9K b9L;clear bIP aHJ b9K b9L;go_wp2_with fail
    first|refine Mid.mk ⟨HS.o,?_⟩|refine Mid.mk ?_
    refine jX 6 1 aF aF ?_;simp only[jW,aW,aX,aU,aV];go_wp2_with (refine wpList_store_row rfl 125 (.tmp 5) (.tmp 10) rfl g5 #[.int .i64 0,.slice za zn zc,.int .i64 2,.slice pa pn pc,.int .i64 3,.slice ga gn gc,.int .i64 4,.slice ia iN ic,.int .i64 1,.slice fa fn fc] rfl rfl 125 _ aZW.o aF rfl aF ?_)
    have R9:=aZW.o.row #[.int .i64 0,.slice za zn zc,.int .i64 2,.slice pa pn pc,.int .i64 3,.slice ga gn gc,.int .i64 4,.slice ia iN ic,.int .i64 1,.slice fa fn fc];have RA:kG (x25.setRow g5 #[.int .i64 0,.slice za zn zc,.int .i64 2,.slice pa pn pc,.int .i64 3,.slice ga gn gc,.int .i64 4,.slice ia iN ic,.int .i64 1,.slice fa fn fc]) g6 125 #[.int .i64 0,.slice none 0 0,.int .i64 0,.slice none 0 0,.int .i64 0,.slice none 0 0,.int .i64 0,.slice none 0 0,.int .i64 0,.slice none 0 0]:=(setRow_other x25 g5 g6 _ (by have:=qA.o;have:=vQ.o;omega)).trans bH4.o;have JH:=kN bPT.o (show W.heap.size≤g5 by have:=qA.o;omega) #[.int .i64 0,.slice za zn zc,.int .i64 2,.slice pa pn pc,.int .i64 3,.slice ga gn gc,.int .i64 4,.slice ia iN ic,.int .i64 1,.slice fa fn fc];obtain⟨HS,J9,yI,JA⟩:=aL (jV.o _ JH) R9 RA JH;clear R9 RA JH;first|refine Mid.mk ⟨HS.o,?_⟩|refine⟨HS.o,?_⟩
    refine jX 7 0 aF aF ?_;simp only[jW,aW,aX,aU,aV];go_wp2_with (refine wpList_store_row rfl 125 (.tmp 6) (.tmp 12) rfl g6 #[.int .i64 0,.slice CB CF CG,.int .i64 2,.slice CJ CK pc2,.int .i64 3,.slice CO CP CQ,.int .i64 4,.slice CR CS CV,.int .i64 1,.slice fa2 CW CX] rfl rfl 125 _ yI.o aF rfl aF ?_)
    have RB:=yI.o.row #[.int .i64 0,.slice CB CF CG,.int .i64 2,.slice CJ CK pc2,.int .i64 3,.slice CO CP CQ,.int .i64 4,.slice CR CS CV,.int .i64 1,.slice fa2 CW CX];have RF:kG ((x25.setRow g5 #[.int .i64 0,.slice za zn zc,.int .i64 2,.slice pa pn pc,.int .i64 3,.slice ga gn gc,.int .i64 4,.slice ia iN ic,.int .i64 1,.slice fa fn fc]).setRow g6 #[.int .i64 0,.slice CB CF CG,.int .i64 2,.slice CJ CK pc2,.int .i64 3,.slice CO CP CQ,.int .i64 4,.slice CR CS CV,.int .i64 1,.slice fa2 CW CX]) g5 125 #[.int .i64 0,.slice za zn zc,.int .i64 2,.slice pa pn pc,.int .i64 3,.slice ga gn gc,.int .i64 4,.slice ia iN ic,.int .i64 1,.slice fa fn fc]:=(setRow_other (x25.setRow g5 #[.int .i64 0,.slice za zn zc,.int .i64 2,.slice pa pn pc,.int .i64 3,.slice ga gn gc,.int .i64 4,.slice ia iN ic,.int .i64 1,.slice fa fn fc]) g6 g5 _ (by have:=qA.o;have:=vQ.o;omega)).trans J9.o;have JI:=kN JA.o (show W.heap.size≤g6 by have:=vQ.o;omega) #[.int .i64 0,.slice CB CF CG,.int .i64 2,.slice CJ CK pc2,.int .i64 3,.slice CO CP CQ,.int .i64 4,.slice CR CS CV,.int .i64 1,.slice fa2 CW CX];obtain⟨HS,JB,JC,JD⟩:=aL (jV.o _ JI) RB RF JI;clear RB RF JI;first|(refine Mid.mk ⟨HS.o,?_⟩;refine kH aF ?_)|(refine⟨HS.o,?_⟩;refine kH aF ?_)|refine⟨HS.o,by kernel_rfl,?_⟩
    clear q0 q1 q2 q3 q4 q5 q6 q7 r0 r1 r2 r3 r4 r5 r6 r7;go_wp2_with fail
    go_meet
    case rel=>exact⟨g5,g6,rfl,rfl,JC,JB,JD⟩
  case refine_3=>
   go_wp2_with fail
   have aO6:=aD wD (.cells #[.int .i64 0,.slice none 0 0,.int .i64 0,.slice none 0 0,.int .i64 0,.slice none 0 0,.int .i64 0,.slice none 0 0,.int .i64 0,.slice none 0 0] 125);have b9M:=kG.new wD 125 #[.int .i64 0,.slice none 0 0,.int .i64 0,.slice none 0 0,.int .i64 0,.slice none 0 0,.int .i64 0,.slice none 0 0,.int .i64 0,.slice none 0 0];have b6D:=HD.o.tm aO6;have aO7:=b9M;have vQ:=HD.o.size;replace vQ:=aA (fO vQ trivial)
   clear b9M;obtain⟨x26,bPU⟩:∃W,wD.alloc (.cells #[.int .i64 0,.slice none 0 0,.int .i64 0,.slice none 0 0,.int .i64 0,.slice none 0 0,.int .i64 0,.slice none 0 0,.int .i64 0,.slice none 0 0] 125)=W:=⟨_,rfl⟩;rw[bPU]at b6D aO6 aO7 ⊢;obtain⟨g6,aZX⟩:∃g,wD.heap.size=g:=⟨_,rfl⟩;try rw[aZX]at aO7 vQ
   try rw[aZX]
   clear aZX bPU;obtain⟨HS,aHK,bZV,aLR⟩:=aL (jV.o _ b6D) b6D aO6 aO7;clear b6D aO6 aO7;first|refine Mid.mk ⟨HS.o,?_⟩|refine Mid.mk ?_
   refine vC 1 4 4 aF aF ?_ ?_;all_goals simp only[jW,aW,aX,aU,aV]
   case refine_1=>
    go_wp2_with fail
    refine(V9.o _).mono ?_;rintro e x27 ⟨rfl,aO8⟩;have bIQ:=aHK.o.tm aO8;have b9N:=aLR.o.late aO8;obtain⟨HS,aHL,bZW,aLS⟩:=aL (jV.o _ bIQ) bIQ aO8 b9N;clear bIQ aO8 b9N;go_wp2_with fail
    first|refine Mid.mk ⟨HS.o,?_⟩|refine Mid.mk ?_
    refine vC 3 4 3 aF aF ?_ ?_;all_goals simp only[jW,aW,aX,aU,aV]
    case refine_1=>
     go_wp2_with fail
     refine(BJ.o _).mono ?_;rintro e x28 ⟨rfl,aO9⟩;have bIR:=aHL.o.tm aO9;have b9O:=aLS.o.late aO9;obtain⟨HS,aZY,bZX,aZZ⟩:=aL (jV.o _ bIR) bIR aO9 b9O;clear bIR aO9 b9O;go_wp2_with fail
     first|refine Mid.mk ⟨HS.o,?_⟩|refine Mid.mk ?_
     refine jX 4 2 aF aF ?_;simp only[jW,aW,aX,aU,aV];go_wp2_with fail
     have aHM:=aD x28 (.cells #[.int .i64 0,.slice none 0 0,.int .i64 0,.slice none 0 0,.int .i64 0,.slice none 0 0,.int .i64 0,.slice none 0 0,.int .i64 0,.slice none 0 0] 125);have b9P:=kG.new x28 125 #[.int .i64 0,.slice none 0 0,.int .i64 0,.slice none 0 0,.int .i64 0,.slice none 0 0,.int .i64 0,.slice none 0 0,.int .i64 0,.slice none 0 0];have b6U:=aZY.o.tm aHM;have aOA:=b9P;have b07:=aZZ.o.late aHM;have qA:=aZY.o.size;have bPV:g6<x28.heap.size:=aZZ.o.lt;replace qA:=aA (fO qA bPV)
     clear b9P;obtain⟨x29,bPW⟩:∃W,x28.alloc (.cells #[.int .i64 0,.slice none 0 0,.int .i64 0,.slice none 0 0,.int .i64 0,.slice none 0 0,.int .i64 0,.slice none 0 0,.int .i64 0,.slice none 0 0] 125)=W:=⟨_,rfl⟩;rw[bPW]at b6U aHM aOA b07 ⊢;obtain⟨g5,b0A⟩:∃g,x28.heap.size=g:=⟨_,rfl⟩;try rw[b0A]at aOA qA
     try rw[b0A]
     clear b0A bPW;obtain⟨HS,bPX,bZY,b0B,bH5⟩:=aM (jV.o _ b6U) b6U aHM aOA b07;clear b6U aHM aOA b07;first|refine Mid.mk ⟨HS.o,?_⟩|refine Mid.mk ?_
     refine jX 6 1 aF aF ?_;simp only[jW,aW,aX,aU,aV];go_wp2_with (refine wpList_store_row rfl 125 (.tmp 5) (.tmp 10) rfl g5 #[.int .i64 0,.slice za zn zc,.int .i64 2,.slice pa pn pc,.int .i64 3,.slice ga gn gc,.int .i64 4,.slice ia iN ic,.int .i64 1,.slice fa fn fc] rfl rfl 125 _ b0B.o aF rfl aF ?_)
     have R9:=b0B.o.row #[.int .i64 0,.slice za zn zc,.int .i64 2,.slice pa pn pc,.int .i64 3,.slice ga gn gc,.int .i64 4,.slice ia iN ic,.int .i64 1,.slice fa fn fc];have RA:kG (x29.setRow g5 #[.int .i64 0,.slice za zn zc,.int .i64 2,.slice pa pn pc,.int .i64 3,.slice ga gn gc,.int .i64 4,.slice ia iN ic,.int .i64 1,.slice fa fn fc]) g6 125 #[.int .i64 0,.slice none 0 0,.int .i64 0,.slice none 0 0,.int .i64 0,.slice none 0 0,.int .i64 0,.slice none 0 0,.int .i64 0,.slice none 0 0]:=(setRow_other x29 g5 g6 _ (by have:=qA.o;have:=vQ.o;omega)).trans bH5.o;have JH:=kN bPX.o (show W.heap.size≤g5 by have:=qA.o;omega) #[.int .i64 0,.slice za zn zc,.int .i64 2,.slice pa pn pc,.int .i64 3,.slice ga gn gc,.int .i64 4,.slice ia iN ic,.int .i64 1,.slice fa fn fc];obtain⟨HS,J9,yI,JA⟩:=aL (jV.o _ JH) R9 RA JH;clear R9 RA JH;first|refine Mid.mk ⟨HS.o,?_⟩|refine⟨HS.o,?_⟩
     refine jX 7 0 aF aF ?_;simp only[jW,aW,aX,aU,aV];go_wp2_with (refine wpList_store_row rfl 125 (.tmp 6) (.tmp 12) rfl g6 #[.int .i64 0,.slice CB CF CG,.int .i64 2,.slice CJ CK pc2,.int .i64 3,.slice CO CP CQ,.int .i64 4,.slice CR CS CV,.int .i64 1,.slice fa2 CW CX] rfl rfl 125 _ yI.o aF rfl aF ?_)
     have RB:=yI.o.row #[.int .i64 0,.slice CB CF CG,.int .i64 2,.slice CJ CK pc2,.int .i64 3,.slice CO CP CQ,.int .i64 4,.slice CR CS CV,.int .i64 1,.slice fa2 CW CX];have RF:kG ((x29.setRow g5 #[.int .i64 0,.slice za zn zc,.int .i64 2,.slice pa pn pc,.int .i64 3,.slice ga gn gc,.int .i64 4,.slice ia iN ic,.int .i64 1,.slice fa fn fc]).setRow g6 #[.int .i64 0,.slice CB CF CG,.int .i64 2,.slice CJ CK pc2,.int .i64 3,.slice CO CP CQ,.int .i64 4,.slice CR CS CV,.int .i64 1,.slice fa2 CW CX]) g5 125 #[.int .i64 0,.slice za zn zc,.int .i64 2,.slice pa pn pc,.int .i64 3,.slice ga gn gc,.int .i64 4,.slice ia iN ic,.int .i64 1,.slice fa fn fc]:=(setRow_other (x29.setRow g5 #[.int .i64 0,.slice za zn zc,.int .i64 2,.slice pa pn pc,.int .i64 3,.slice ga gn gc,.int .i64 4,.slice ia iN ic,.int .i64 1,.slice fa fn fc]) g6 g5 _ (by have:=qA.o;have:=vQ.o;omega)).trans J9.o;have JI:=kN JA.o (show W.heap.size≤g6 by have:=vQ.o;omega) #[.int .i64 0,.slice CB CF CG,.int .i64 2,.slice CJ CK pc2,.int .i64 3,.slice CO CP CQ,.int .i64 4,.slice CR CS CV,.int .i64 1,.slice fa2 CW CX];obtain⟨HS,JB,JC,JD⟩:=aL (jV.o _ JI) RB RF JI;clear RB RF JI;first|(refine Mid.mk ⟨HS.o,?_⟩;refine kH aF ?_)|(refine⟨HS.o,?_⟩;refine kH aF ?_)|refine⟨HS.o,by kernel_rfl,?_⟩
     clear q0 q1 q2 q3 q4 q5 q6 q7 r0 r1 r2 r3 r4 r5 r6 r7;go_wp2_with fail
     go_meet
     case rel=>exact⟨g5,g6,rfl,rfl,JC,JB,JD⟩
    case refine_2=>
     go_wp2_with fail
     have aHN:=aD x27 (.cells #[.int .i64 0,.slice none 0 0,.int .i64 0,.slice none 0 0,.int .i64 0,.slice none 0 0,.int .i64 0,.slice none 0 0,.int .i64 0,.slice none 0 0] 125);have b9Q:=kG.new x27 125 #[.int .i64 0,.slice none 0 0,.int .i64 0,.slice none 0 0,.int .i64 0,.slice none 0 0,.int .i64 0,.slice none 0 0,.int .i64 0,.slice none 0 0];have b6E:=aHL.o.tm aHN;have aOB:=b9Q;have b0C:=aLS.o.late aHN;have qA:=aHL.o.size;have bPY:g6<x27.heap.size:=aLS.o.lt;replace qA:=aA (fO qA bPY)
     clear b9Q;obtain⟨x30,bPZ⟩:∃W,x27.alloc (.cells #[.int .i64 0,.slice none 0 0,.int .i64 0,.slice none 0 0,.int .i64 0,.slice none 0 0,.int .i64 0,.slice none 0 0,.int .i64 0,.slice none 0 0] 125)=W:=⟨_,rfl⟩;rw[bPZ]at b6E aHN aOB b0C ⊢;obtain⟨g5,b0D⟩:∃g,x27.heap.size=g:=⟨_,rfl⟩;try rw[b0D]at aOB qA
     try rw[b0D]
     clear b0D bPZ;obtain⟨HS,b9R,bZZ,bH6,bH7⟩:=aM (jV.o _ b6E) b6E aHN aOB b0C;clear b6E aHN aOB b0C;first|refine Mid.mk ⟨HS.o,?_⟩|refine Mid.mk ?_
     refine jX 3 2 aF aF ?_;simp only[jW,aW,aX,aU,aV];go_wp2_with fail
     refine(BJ.o _).mono ?_;rintro e x31 ⟨rfl,aHO⟩;have bIS:=b9R.o.tm aHO;have b9S:=bH6.o.late aHO;have b9T:=bH7.o.late aHO;obtain⟨HS,bQ0,c01,b0E,bH8⟩:=aM (jV.o _ bIS) bIS aHO b9S b9T;clear bIS aHO b9S b9T;go_wp2_with fail
     first|refine Mid.mk ⟨HS.o,?_⟩|refine Mid.mk ?_
     refine jX 6 1 aF aF ?_;simp only[jW,aW,aX,aU,aV];go_wp2_with (refine wpList_store_row rfl 125 (.tmp 5) (.tmp 10) rfl g5 #[.int .i64 0,.slice za zn zc,.int .i64 2,.slice pa pn pc,.int .i64 3,.slice ga gn gc,.int .i64 4,.slice ia iN ic,.int .i64 1,.slice fa fn fc] rfl rfl 125 _ b0E.o aF rfl aF ?_)
     have R9:=b0E.o.row #[.int .i64 0,.slice za zn zc,.int .i64 2,.slice pa pn pc,.int .i64 3,.slice ga gn gc,.int .i64 4,.slice ia iN ic,.int .i64 1,.slice fa fn fc];have RA:kG (x31.setRow g5 #[.int .i64 0,.slice za zn zc,.int .i64 2,.slice pa pn pc,.int .i64 3,.slice ga gn gc,.int .i64 4,.slice ia iN ic,.int .i64 1,.slice fa fn fc]) g6 125 #[.int .i64 0,.slice none 0 0,.int .i64 0,.slice none 0 0,.int .i64 0,.slice none 0 0,.int .i64 0,.slice none 0 0,.int .i64 0,.slice none 0 0]:=(setRow_other x31 g5 g6 _ (by have:=qA.o;have:=vQ.o;omega)).trans bH8.o;have JH:=kN bQ0.o (show W.heap.size≤g5 by have:=qA.o;omega) #[.int .i64 0,.slice za zn zc,.int .i64 2,.slice pa pn pc,.int .i64 3,.slice ga gn gc,.int .i64 4,.slice ia iN ic,.int .i64 1,.slice fa fn fc];obtain⟨HS,J9,yI,JA⟩:=aL (jV.o _ JH) R9 RA JH;clear R9 RA JH;first|refine Mid.mk ⟨HS.o,?_⟩|refine⟨HS.o,?_⟩
     refine jX 7 0 aF aF ?_;simp only[jW,aW,aX,aU,aV];go_wp2_with (refine wpList_store_row rfl 125 (.tmp 6) (.tmp 12) rfl g6 #[.int .i64 0,.slice CB CF CG,.int .i64 2,.slice CJ CK pc2,.int .i64 3,.slice CO CP CQ,.int .i64 4,.slice CR CS CV,.int .i64 1,.slice fa2 CW CX] rfl rfl 125 _ yI.o aF rfl aF ?_)
     have RB:=yI.o.row #[.int .i64 0,.slice CB CF CG,.int .i64 2,.slice CJ CK pc2,.int .i64 3,.slice CO CP CQ,.int .i64 4,.slice CR CS CV,.int .i64 1,.slice fa2 CW CX];have RF:kG ((x31.setRow g5 #[.int .i64 0,.slice za zn zc,.int .i64 2,.slice pa pn pc,.int .i64 3,.slice ga gn gc,.int .i64 4,.slice ia iN ic,.int .i64 1,.slice fa fn fc]).setRow g6 #[.int .i64 0,.slice CB CF CG,.int .i64 2,.slice CJ CK pc2,.int .i64 3,.slice CO CP CQ,.int .i64 4,.slice CR CS CV,.int .i64 1,.slice fa2 CW CX]) g5 125 #[.int .i64 0,.slice za zn zc,.int .i64 2,.slice pa pn pc,.int .i64 3,.slice ga gn gc,.int .i64 4,.slice ia iN ic,.int .i64 1,.slice fa fn fc]:=(setRow_other (x31.setRow g5 #[.int .i64 0,.slice za zn zc,.int .i64 2,.slice pa pn pc,.int .i64 3,.slice ga gn gc,.int .i64 4,.slice ia iN ic,.int .i64 1,.slice fa fn fc]) g6 g5 _ (by have:=qA.o;have:=vQ.o;omega)).trans J9.o;have JI:=kN JA.o (show W.heap.size≤g6 by have:=vQ.o;omega) #[.int .i64 0,.slice CB CF CG,.int .i64 2,.slice CJ CK pc2,.int .i64 3,.slice CO CP CQ,.int .i64 4,.slice CR CS CV,.int .i64 1,.slice fa2 CW CX];obtain⟨HS,JB,JC,JD⟩:=aL (jV.o _ JI) RB RF JI;clear RB RF JI;first|(refine Mid.mk ⟨HS.o,?_⟩;refine kH aF ?_)|(refine⟨HS.o,?_⟩;refine kH aF ?_)|refine⟨HS.o,by kernel_rfl,?_⟩
     clear q0 q1 q2 q3 q4 q5 q6 q7 r0 r1 r2 r3 r4 r5 r6 r7;go_wp2_with fail
     go_meet
     case rel=>exact⟨g5,g6,rfl,rfl,JC,JB,JD⟩
   case refine_2=>
    go_wp2_with fail
    have aHP:=aD x26 (.cells #[.int .i64 0,.slice none 0 0,.int .i64 0,.slice none 0 0,.int .i64 0,.slice none 0 0,.int .i64 0,.slice none 0 0,.int .i64 0,.slice none 0 0] 125);have b9U:=kG.new x26 125 #[.int .i64 0,.slice none 0 0,.int .i64 0,.slice none 0 0,.int .i64 0,.slice none 0 0,.int .i64 0,.slice none 0 0,.int .i64 0,.slice none 0 0];have b6V:=aHK.o.tm aHP;have aOC:=b9U;have b0F:=aLR.o.late aHP;have qA:=aHK.o.size;have bTT:g6<x26.heap.size:=aLR.o.lt;replace qA:=aA (fO qA bTT)
    clear b9U;obtain⟨x32,bQ1⟩:∃W,x26.alloc (.cells #[.int .i64 0,.slice none 0 0,.int .i64 0,.slice none 0 0,.int .i64 0,.slice none 0 0,.int .i64 0,.slice none 0 0,.int .i64 0,.slice none 0 0] 125)=W:=⟨_,rfl⟩;rw[bQ1]at b6V aHP aOC b0F ⊢;obtain⟨g5,b0G⟩:∃g,x26.heap.size=g:=⟨_,rfl⟩;try rw[b0G]at aOC qA
    try rw[b0G]
    clear b0G bQ1;obtain⟨HS,b9V,c02,bH9,bHA⟩:=aM (jV.o _ b6V) b6V aHP aOC b0F;clear b6V aHP aOC b0F;first|refine Mid.mk ⟨HS.o,?_⟩|refine Mid.mk ?_
    refine jX 1 3 aF aF ?_;simp only[jW,aW,aX,aU,aV];go_wp2_with fail
    refine(V9.o _).mono ?_;rintro e x33 ⟨rfl,aHQ⟩;have bHB:=b9V.o.tm aHQ;have b9W:=bH9.o.late aHQ;have b9X:=bHA.o.late aHQ;obtain⟨HS,b9Y,c04,bHC,bHD⟩:=aM (jV.o _ bHB) bHB aHQ b9W b9X;clear bHB aHQ b9W b9X;go_wp2_with fail
    first|refine Mid.mk ⟨HS.o,?_⟩|refine Mid.mk ?_
    refine jX 3 2 aF aF ?_;simp only[jW,aW,aX,aU,aV];go_wp2_with fail
    refine(BJ.o _).mono ?_;rintro e x34 ⟨rfl,aHR⟩;have bIT:=b9Y.o.tm aHR;have b9Z:=bHC.o.late aHR;have bA0:=bHD.o.late aHR;obtain⟨HS,bQ2,c05,b0H,bHE⟩:=aM (jV.o _ bIT) bIT aHR b9Z bA0;clear bIT aHR b9Z bA0;go_wp2_with fail
    first|refine Mid.mk ⟨HS.o,?_⟩|refine Mid.mk ?_
    refine jX 6 1 aF aF ?_;simp only[jW,aW,aX,aU,aV];go_wp2_with (refine wpList_store_row rfl 125 (.tmp 5) (.tmp 10) rfl g5 #[.int .i64 0,.slice za zn zc,.int .i64 2,.slice pa pn pc,.int .i64 3,.slice ga gn gc,.int .i64 4,.slice ia iN ic,.int .i64 1,.slice fa fn fc] rfl rfl 125 _ b0H.o aF rfl aF ?_)
    have R9:=b0H.o.row #[.int .i64 0,.slice za zn zc,.int .i64 2,.slice pa pn pc,.int .i64 3,.slice ga gn gc,.int .i64 4,.slice ia iN ic,.int .i64 1,.slice fa fn fc];have RA:kG (x34.setRow g5 #[.int .i64 0,.slice za zn zc,.int .i64 2,.slice pa pn pc,.int .i64 3,.slice ga gn gc,.int .i64 4,.slice ia iN ic,.int .i64 1,.slice fa fn fc]) g6 125 #[.int .i64 0,.slice none 0 0,.int .i64 0,.slice none 0 0,.int .i64 0,.slice none 0 0,.int .i64 0,.slice none 0 0,.int .i64 0,.slice none 0 0]:=(setRow_other x34 g5 g6 _ (by have:=qA.o;have:=vQ.o;omega)).trans bHE.o;have JH:=kN bQ2.o (show W.heap.size≤g5 by have:=qA.o;omega) #[.int .i64 0,.slice za zn zc,.int .i64 2,.slice pa pn pc,.int .i64 3,.slice ga gn gc,.int .i64 4,.slice ia iN ic,.int .i64 1,.slice fa fn fc];obtain⟨HS,J9,yI,JA⟩:=aL (jV.o _ JH) R9 RA JH;clear R9 RA JH;first|refine Mid.mk ⟨HS.o,?_⟩|refine⟨HS.o,?_⟩
    refine jX 7 0 aF aF ?_;simp only[jW,aW,aX,aU,aV];go_wp2_with (refine wpList_store_row rfl 125 (.tmp 6) (.tmp 12) rfl g6 #[.int .i64 0,.slice CB CF CG,.int .i64 2,.slice CJ CK pc2,.int .i64 3,.slice CO CP CQ,.int .i64 4,.slice CR CS CV,.int .i64 1,.slice fa2 CW CX] rfl rfl 125 _ yI.o aF rfl aF ?_)
    have RB:=yI.o.row #[.int .i64 0,.slice CB CF CG,.int .i64 2,.slice CJ CK pc2,.int .i64 3,.slice CO CP CQ,.int .i64 4,.slice CR CS CV,.int .i64 1,.slice fa2 CW CX];have RF:kG ((x34.setRow g5 #[.int .i64 0,.slice za zn zc,.int .i64 2,.slice pa pn pc,.int .i64 3,.slice ga gn gc,.int .i64 4,.slice ia iN ic,.int .i64 1,.slice fa fn fc]).setRow g6 #[.int .i64 0,.slice CB CF CG,.int .i64 2,.slice CJ CK pc2,.int .i64 3,.slice CO CP CQ,.int .i64 4,.slice CR CS CV,.int .i64 1,.slice fa2 CW CX]) g5 125 #[.int .i64 0,.slice za zn zc,.int .i64 2,.slice pa pn pc,.int .i64 3,.slice ga gn gc,.int .i64 4,.slice ia iN ic,.int .i64 1,.slice fa fn fc]:=(setRow_other (x34.setRow g5 #[.int .i64 0,.slice za zn zc,.int .i64 2,.slice pa pn pc,.int .i64 3,.slice ga gn gc,.int .i64 4,.slice ia iN ic,.int .i64 1,.slice fa fn fc]) g6 g5 _ (by have:=qA.o;have:=vQ.o;omega)).trans J9.o;have JI:=kN JA.o (show W.heap.size≤g6 by have:=vQ.o;omega) #[.int .i64 0,.slice CB CF CG,.int .i64 2,.slice CJ CK pc2,.int .i64 3,.slice CO CP CQ,.int .i64 4,.slice CR CS CV,.int .i64 1,.slice fa2 CW CX];obtain⟨HS,JB,JC,JD⟩:=aL (jV.o _ JI) RB RF JI;clear RB RF JI;first|(refine Mid.mk ⟨HS.o,?_⟩;refine kH aF ?_)|(refine⟨HS.o,?_⟩;refine kH aF ?_)|refine⟨HS.o,by kernel_rfl,?_⟩
    clear q0 q1 q2 q3 q4 q5 q6 q7 r0 r1 r2 r3 r4 r5 r6 r7;go_wp2_with fail
    go_meet
    case rel=>exact⟨g5,g6,rfl,rfl,JC,JB,JD⟩
 case rest=>
  obtain⟨g5,g6,rfl,rfl,h5',h6',bIU⟩:=hcut;rename World=>w2
  obtain⟨kP,bE2,bR2⟩:=aK (pW.o.tm bIU.o) (bE'.o.late bIU.o) (bR'.o.late bIU.o);clear q0 q1 q2 q3 q4 q5 q6 q7 r0 r1 r2 r3 r4 r5 r6 r7 HS HD;go_wp2_with fail
  go_loopw [13] (fun iv wr=>∃(k:Nat) (ki:Int),k≤5∧ki=k∧iv= .int .i64 ki∧Hid (∀j,j<k→rsB ⟨o,z,p,g,i,f,mk,th⟩ ⟨o2,z2,p2,g2,i2,f2,mk2,th2⟩ j=true)∧Hid (Below w2.heap.size w2 wr)) (fun iv _=>5 - (intOf iv).toNat)
  case atStart=>exact⟨0,0,by omega,rfl,rfl,aA (fun j hj=>by omega),aA (bF _ _)⟩
  case round=>
  obtain⟨k,ki,hk,rF,rfl,AP,nR⟩:=hrel;have lK:=aA (kP.o.tm nR.o);by_cases kY:k<5
  ·rcases(by omega:k=0∨k=1∨k=2∨k=3∨k=4)with rfl|rfl|rfl|rfl|rfl
   ·obtain rfl:ki=0:=by omega
    clear hk kY rF;obtain⟨Tq,fq,hnq,AQ,hsq⟩:=kM wr;have c1:=fun s=>((h5'.o.late nR.o).late (AQ s)).cell (i:=1) rfl;have c2:=fun s=>((h6'.o.late nR.o).late (AQ s)).cell (i:=1) rfl;have HQ:=aA (hsq _ ((bF _ _).drew));have hC:=fun W (h:Below wr.heap.size wr W)=>J7 za CB zn zc CF CG z z2 W (GX.o.mono (lK.o.tm h)) (a0W.o.mono (lK.o.tm h)) bz'.o bZ5.o;obtain⟨r,hr⟩:=aC (z==z2);rw[hr]at hC;obtain⟨sZ,TS,OO,sH⟩:=aL AQ hsq hC hr;clear AQ hsq hC hr;go_wp2_with fail
    refine kL fq aF aF HQ.o ?_;iterate 11 (go_big_quiet_step ((go_at_call 72;refine(OO.o _ (sZ.o _)).mono ?_;rintro e w3 ⟨rfl,kT⟩;exact⟨rfl,TS.o _ ((sZ.o _).tm kT)⟩)))
    refine wpQuiet_nil ?_;intro s;obtain⟨yV,aCZ⟩:=aJ (nR.o.trans ((sZ.o s).mono nR.o.size)) (lK.o.trans ((sZ.o s).mono lK.o.size));clear c1 c2;cases r with
    |false=>
     have sJ:J6 ⟨o,z,p,g,i,f,mk,th⟩ ⟨o2,z2,p2,g2,i2,f2,mk2,th2⟩=false:=a7N (j:=0) aH sH.o;have vT:=aA sJ;clear sJ;go_wp2_with fail
     go_ret;exact⟨by rw[vT.o];rfl,aCZ.o⟩
    |true=>
     go_wp2_with fail
     go_roundw
     case rel=>exact⟨1,1,by omega,rfl,rfl,aA (fun j hj=>by
      rcases(by omega:j<0∨j=0)with h|h
      ·exact AP.o j h
      ·subst h;exact sH.o),yV⟩
     case measure=>simp[intOf]
   ·obtain rfl:ki=1:=by omega
    clear hk kY rF;obtain⟨Tq,fq,hnq,AQ,hsq⟩:=kM wr;have c1:=fun s=>((h5'.o.late nR.o).late (AQ s)).cell (i:=3) rfl;have c2:=fun s=>((h6'.o.late nR.o).late (AQ s)).cell (i:=3) rfl;have HQ:=aA (hsq _ ((bF _ _).drew));have hC:=fun W (h:Below wr.heap.size wr W)=>J7 pa CJ pn pc CK pc2 p p2 W (hp'.o.mono (lK.o.tm h)) (aTN.o.mono (lK.o.tm h)) bp'.o aLM.o;obtain⟨r,hr⟩:=aC (p==p2);rw[hr]at hC;obtain⟨sZ,TS,OO,sH⟩:=aL AQ hsq hC hr;clear AQ hsq hC hr;go_wp2_with fail
    refine kL fq aF aF HQ.o ?_;iterate 11 (go_big_quiet_step ((go_at_call 72;refine(OO.o _ (sZ.o _)).mono ?_;rintro e w3 ⟨rfl,kT⟩;exact⟨rfl,TS.o _ ((sZ.o _).tm kT)⟩)))
    refine wpQuiet_nil ?_;intro s;obtain⟨yV,aCZ⟩:=aJ (nR.o.trans ((sZ.o s).mono nR.o.size)) (lK.o.trans ((sZ.o s).mono lK.o.size));clear c1 c2;cases r with
    |false=>
     have sJ:J6 ⟨o,z,p,g,i,f,mk,th⟩ ⟨o2,z2,p2,g2,i2,f2,mk2,th2⟩=false:=a7N (j:=1) aH sH.o;have vT:=aA sJ;clear sJ;go_wp2_with fail
     go_ret;exact⟨by rw[vT.o];rfl,aCZ.o⟩
    |true=>
     go_wp2_with fail
     go_roundw
     case rel=>exact⟨2,2,by omega,rfl,rfl,aA (fun j hj=>by
      rcases(by omega:j<1∨j=1)with h|h
      ·exact AP.o j h
      ·subst h;exact sH.o),yV⟩
     case measure=>simp[intOf]
   ·obtain rfl:ki=2:=by omega
    clear hk kY rF;obtain⟨Tq,fq,hnq,AQ,hsq⟩:=kM wr;have c1:=fun s=>((h5'.o.late nR.o).late (AQ s)).cell (i:=5) rfl;have c2:=fun s=>((h6'.o.late nR.o).late (AQ s)).cell (i:=5) rfl;have HQ:=aA (hsq _ ((bF _ _).drew));have hC:=fun W (h:Below wr.heap.size wr W)=>J7 ga CO gn gc CP CQ g g2 W (hg'.o.mono (lK.o.tm h)) (aQC.o.mono (lK.o.tm h)) bg'.o bZ6.o;obtain⟨r,hr⟩:=aC (g==g2);rw[hr]at hC;obtain⟨sZ,TS,OO,sH⟩:=aL AQ hsq hC hr;clear AQ hsq hC hr;go_wp2_with fail
    refine kL fq aF aF HQ.o ?_;iterate 11 (go_big_quiet_step ((go_at_call 72;refine(OO.o _ (sZ.o _)).mono ?_;rintro e w3 ⟨rfl,kT⟩;exact⟨rfl,TS.o _ ((sZ.o _).tm kT)⟩)))
    refine wpQuiet_nil ?_;intro s;obtain⟨yV,aCZ⟩:=aJ (nR.o.trans ((sZ.o s).mono nR.o.size)) (lK.o.trans ((sZ.o s).mono lK.o.size));clear c1 c2;cases r with
    |false=>
     have sJ:J6 ⟨o,z,p,g,i,f,mk,th⟩ ⟨o2,z2,p2,g2,i2,f2,mk2,th2⟩=false:=a7N (j:=2) aH sH.o;have vT:=aA sJ;clear sJ;go_wp2_with fail
     go_ret;exact⟨by rw[vT.o];rfl,aCZ.o⟩
    |true=>
     go_wp2_with fail
     go_roundw
     case rel=>exact⟨3,3,by omega,rfl,rfl,aA (fun j hj=>by
      rcases(by omega:j<2∨j=2)with h|h
      ·exact AP.o j h
      ·subst h;exact sH.o),yV⟩
     case measure=>simp[intOf]
   ·obtain rfl:ki=3:=by omega
    clear hk kY rF;obtain⟨Tq,fq,hnq,AQ,hsq⟩:=kM wr;have c1:=fun s=>((h5'.o.late nR.o).late (AQ s)).cell (i:=7) rfl;have c2:=fun s=>((h6'.o.late nR.o).late (AQ s)).cell (i:=7) rfl;have HQ:=aA (hsq _ ((bF _ _).drew));have hC:=fun W (h:Below wr.heap.size wr W)=>J7 ia CR iN ic CS CV i i2 W (vN.o.mono (lK.o.tm h)) (bZ3.o.mono (lK.o.tm h)) bi'.o bZ7.o;obtain⟨r,hr⟩:=aC (i==i2);rw[hr]at hC;obtain⟨sZ,TS,OO,sH⟩:=aL AQ hsq hC hr;clear AQ hsq hC hr;go_wp2_with fail
    refine kL fq aF aF HQ.o ?_;iterate 11 (go_big_quiet_step ((go_at_call 72;refine(OO.o _ (sZ.o _)).mono ?_;rintro e w3 ⟨rfl,kT⟩;exact⟨rfl,TS.o _ ((sZ.o _).tm kT)⟩)))
    refine wpQuiet_nil ?_;intro s;obtain⟨yV,aCZ⟩:=aJ (nR.o.trans ((sZ.o s).mono nR.o.size)) (lK.o.trans ((sZ.o s).mono lK.o.size));clear c1 c2;cases r with
    |false=>
     have sJ:J6 ⟨o,z,p,g,i,f,mk,th⟩ ⟨o2,z2,p2,g2,i2,f2,mk2,th2⟩=false:=a7N (j:=3) aH sH.o;have vT:=aA sJ;clear sJ;go_wp2_with fail
     go_ret;exact⟨by rw[vT.o];rfl,aCZ.o⟩
    |true=>
     go_wp2_with fail
     go_roundw
     case rel=>exact⟨4,4,by omega,rfl,rfl,aA (fun j hj=>by
      rcases(by omega:j<3∨j=3)with h|h
      ·exact AP.o j h
      ·subst h;exact sH.o),yV⟩
     case measure=>simp[intOf]
   ·obtain rfl:ki=4:=by omega
    clear hk kY rF;obtain⟨Tq,fq,hnq,AQ,hsq⟩:=kM wr;have c1:=fun s=>((h5'.o.late nR.o).late (AQ s)).cell (i:=9) rfl;have c2:=fun s=>((h6'.o.late nR.o).late (AQ s)).cell (i:=9) rfl;have HQ:=aA (hsq _ ((bF _ _).drew));have hC:=fun W (h:Below wr.heap.size wr W)=>J7 fa fa2 fn fc CW CX f f2 W (hf'.o.mono (lK.o.tm h)) (bZ4.o.mono (lK.o.tm h)) bf'.o bZ8.o;obtain⟨r,hr⟩:=aC (f==f2);rw[hr]at hC;obtain⟨sZ,TS,OO,sH⟩:=aL AQ hsq hC hr;clear AQ hsq hC hr;go_wp2_with fail
    refine kL fq aF aF HQ.o ?_;iterate 11 (go_big_quiet_step ((go_at_call 72;refine(OO.o _ (sZ.o _)).mono ?_;rintro e w3 ⟨rfl,kT⟩;exact⟨rfl,TS.o _ ((sZ.o _).tm kT)⟩)))
    refine wpQuiet_nil ?_;intro s;obtain⟨yV,aCZ⟩:=aJ (nR.o.trans ((sZ.o s).mono nR.o.size)) (lK.o.trans ((sZ.o s).mono lK.o.size));clear c1 c2;cases r with
    |false=>
     have sJ:J6 ⟨o,z,p,g,i,f,mk,th⟩ ⟨o2,z2,p2,g2,i2,f2,mk2,th2⟩=false:=a7N (j:=4) aH sH.o;have vT:=aA sJ;clear sJ;go_wp2_with fail
     go_ret;exact⟨by rw[vT.o];rfl,aCZ.o⟩
    |true=>
     go_wp2_with fail
     go_roundw
     case rel=>exact⟨5,5,by omega,rfl,rfl,aA (fun j hj=>by
      rcases(by omega:j<4∨j=4)with h|h
      ·exact AP.o j h
      ·subst h;exact sH.o),yV⟩
     case measure=>simp[intOf]
  ·obtain rfl:k=5:=by omega
   obtain rfl:ki=5:=by omega
   clear hk kY rF;have lY:=b5T AP.o;simp only at lY;have hE3:=bE2.o.late nR.o;have hR3:=bR2.o.late nR.o;have q0:=hE3.cell (i:=0) rfl;have q6:=hE3.cell (i:=6) rfl;have q7:=hE3.cell (i:=7) rfl;have r0:=hR3.cell (i:=0) rfl;have r6:=hR3.cell (i:=6) rfl;have r7:=hR3.cell (i:=7) rfl;have hM:=VL ma ma2 mn mn2 mc mc2 mk mk2 wr (hm'.o.mono lK.o) (ZQ.o.mono lK.o) bm'.o bZ9.o;have hT:=VL ta ta2 tn tn2 tc tc2 th th2 wr (KS.o.mono lK.o) (b2N.o.mono lK.o) bt'.o bZA.o;obtain⟨b0,AX⟩:∃b,(o==o2)=b:=⟨_,rfl⟩;obtain⟨b6,vU⟩:∃b,(mk==mk2)=b:=⟨_,rfl⟩;obtain⟨b7,xC⟩:∃b,(th==th2)=b:=⟨_,rfl⟩;rw[vU]at hM;rw[xC]at hT;rw[AX,vU,xC]at lY;clear vU xC;obtain⟨bL2,a0G,hM',hT',a98⟩:=aM hE3 hR3 hM hT lY;clear hE3 hR3 hM hT lY;cases b0 with
   |false=>
    go_wp2_with fail
    go_ret;exact⟨by rw[a98.o];rfl,lK.o⟩
   |true=>
   go_wp2_with fail
   refine hM'.o.mono ?_;rintro e w3 ⟨rfl,rfl⟩;cases b6 with
   |false=>
    go_wp2_with fail
    go_ret;exact⟨by rw[a98.o];rfl,lK.o⟩
   |true=>
   go_wp2_with fail
   refine hT'.o.mono ?_;rintro e w3 ⟨rfl,rfl⟩;go_wp2_with fail
   go_ret;exact⟨by rw[a98.o];simp,lK.o⟩
