import Derived.Test.YtceclmpmpldmlaaGreatCx33
set_option linter.unusedSimpArgs false
set_option linter.unusedVariables false
namespace Go.Proofs.YtceclmpmpldmlaaGreat
open Go.RowKit Tt
section
open Go
variable {P:Program} {Q:Exit→Act→World→Prop} {S:World→Prop}
theorem a4J {l:List Oper} {listed:Array Bool} {a:Act} {w:World} (i j k fuel:Nat) (hb:(decide (i<l.length)&&(decide (j<l.length)&&decide (k<l.length)))=true) (hr:Region.ready .any l.toArray listed= [i,j,k])
  (h:wpList P l.toArray (Mid (fun a' w'=>S w'∧wpAnyH P .any l.toArray Q S fuel (listed.setIfInBounds i true) a' w') Q) (jI l [i]) a w)
  (h2:wpList P l.toArray (Mid (fun a' w'=>S w'∧wpAnyH P .any l.toArray Q S fuel (listed.setIfInBounds j true) a' w') Q) (jI l [j]) a w)
  (h3:wpList P l.toArray (Mid (fun a' w'=>S w'∧wpAnyH P .any l.toArray Q S fuel (listed.setIfInBounds k true) a' w') Q) (jI l [k]) a w):wpAnyH P .any l.toArray Q S (fuel+1) listed a w:=by
 simp only[bV,decide_eq_true_eq]at hb;have key:∀k (o:Oper),l.toArray[k]? =some o→wpList P l.toArray (Mid (fun a' w'=>S w'∧wpAnyH P .any l.toArray Q S fuel (listed.setIfInBounds k true) a' w') Q) [o] a w→wpOp P l.toArray Q k (fun a' w'=>S w'∧wpAnyH P .any l.toArray Q S fuel (listed.setIfInBounds k true) a' w') a w:=fun k o ho h=>by
  unfold wpOp;simp only[ho];unfold wpList at h;split
  ·rename_i hw;rw[if_pos hw]at h;rcases h with h|⟨h1,a2,w2,h2⟩
   ·exact .inl (UG h)
   ·exact .inr ⟨h1,a2,w2,h2⟩
  ·rename_i hw;rw[if_neg hw]at h;exact h
 refine wpAnyH_all hr (by simp) fun m hm=>?_;simp only[cB,dK,or_false]at hm;rcases hm with rfl|rfl|rfl
 ·exact key _ (l.getD m aAX) (by rw[bH,bI hb.1];simp[hb.1]) h
 ·exact key _ (l.getD m aAX) (by rw[bH,bI hb.2.1];simp[hb.2.1]) h2
 ·exact key _ (l.getD m aAX) (by rw[bH,bI hb.2.2];simp[hb.2.2]) h3
end
def rsB (x y:wP):Nat→Bool
 |0=>x.z==y.z
 |1=>x.p==y.p
 |2=>x.g==y.g
 |3=>x.i==y.i
 |_=>x.f==y.f
theorem a4K {x y:wP} {j:Nat} (hj:j<5) (h:rsB x y j=false):CS x y=false:=by
 unfold CS;rcases(by omega:j=0∨j=1∨j=2∨j=3∨j=4)with rfl|rfl|rfl|rfl|rfl
 ·rw[show(x.z==y.z)=false from h];simp
 ·rw[show(x.p==y.p)=false from h];simp
 ·rw[show(x.g==y.g)=false from h];simp
 ·rw[show(x.i==y.i)=false from h];simp
 ·rw[show(x.f==y.f)=false from h];simp
theorem b07 {x y:wP} (h:∀j,j<5→rsB x y j=true):CS x y=(x.o==y.o&&x.mr==y.mr&&x.th==y.th):=by
 unfold CS;rw[show(x.z==y.z)=true from h 0 aH,show(x.p==y.p)=true from h 1 aH,show(x.g==y.g)=true from h 2 aH,show(x.i==y.i)=true from h 3 aH,show(x.f==y.f)=true from h 4 aH];simp
set_option maxRecDepth 20000 in
set_option maxHeartbeats 16000000 in
theorem aEA (x y:wP) (A B:ExA) (w:World) (h:ExR w x A) (h2:ExR w y B) (xI:aDU x) (rU:aDU y):
  Calls Tryz.prog 29 #[exV x.o A,exV y.o B] w fun e w'=>e= .returned (.bool (CS x y))∧Below w.heap.size w w':=by
 have hR1:=fun W=>XP x.o A W;have hR2:=fun W=>XP y.o B W;obtain⟨za,zn,zc,pa,pn,pc,ga,gn,gc,ia,iN,ic,fa,fn,fc,ma,mn,mc,ta,tn,tc⟩:=A;obtain⟨xL,xM,xO,xP,xQ,pc2,xR,xS,xU,xV,xW,xX,fa2,xY,xZ,ma2,mn2,mc2,ta2,tn2,tc2⟩:=B;obtain⟨o,z,p,g,i,f,mk,th⟩:=x;obtain⟨o2,z2,p2,g2,i2,f2,mk2,th2⟩:=y;simp only[exV,R9]at*;obtain⟨hz,hp,hg,hi,hf,hm,ht⟩:=h;obtain⟨qK,hp2,HZ,hi2,hf2,MV,ht2⟩:=h2;obtain⟨W,hW,bE,bR,hb,rX⟩:=nM w 61 #[.int .i64 o,.slice za zn zc,.slice pa pn pc,.slice ga gn gc,.slice ia iN ic,.slice fa fn fc,.slice ma mn mc,.slice ta tn tc] 61 #[.int .i64 o2,.slice xL xM xO,.slice xP xQ pc2,.slice xR xS xU,.slice xV xW xX,.slice fa2 xY xZ,.slice ma2 mn2 mc2,.slice ta2 tn2 tc2];obtain⟨bz,bp,bg,bi,bf,bm,bt⟩:=xI;obtain⟨bz2,bp2,bg2,bi2,bf2,bm2,bt2⟩:=rU;obtain⟨Ty,ff,oJ,jN,jK⟩:=kE W;have HD:=aA ((aY W.heap.size W).drew);have HS:=aA (jK W.drew HD.o);have q0:=fun s=>(bE.late (jN s)).cell (i:=0) rfl;have r0:=fun s=>(bR.late (jN s)).cell (i:=0) rfl;have q1:=fun s=>(bE.late (jN s)).cell (i:=1) rfl;have r1:=fun s=>(bR.late (jN s)).cell (i:=1) rfl;have q2:=fun s=>(bE.late (jN s)).cell (i:=2) rfl;have r2:=fun s=>(bR.late (jN s)).cell (i:=2) rfl;have q3:=fun s=>(bE.late (jN s)).cell (i:=3) rfl;have r3:=fun s=>(bR.late (jN s)).cell (i:=3) rfl;have q4:=fun s=>(bE.late (jN s)).cell (i:=4) rfl;have r4:=fun s=>(bR.late (jN s)).cell (i:=4) rfl;have q5:=fun s=>(bE.late (jN s)).cell (i:=5) rfl;have r5:=fun s=>(bR.late (jN s)).cell (i:=5) rfl;have q6:=fun s=>(bE.late (jN s)).cell (i:=6) rfl;have r6:=fun s=>(bR.late (jN s)).cell (i:=6) rfl;have q7:=fun s=>(bE.late (jN s)).cell (i:=7) rfl;have r7:=fun s=>(bR.late (jN s)).cell (i:=7) rfl;obtain⟨AQ,hp',TQ,xG,QJ,EN,TV,bC8,aYG,aZB,bIV,bIW⟩:=aT hz hp hg hi hf hm ht qK hp2 HZ hi2 hf2;obtain⟨a1V,aPX,I5,zL,LM,bR',mO,SA,Y0,jH,jF,bz'⟩:=aT MV ht2 hW rX bE bR hb hR1 hR2 jN jK bz;obtain⟨bp',bg',bi',bf',bm',bt',bQ5,bQ6,bQ7,bQ8,bQ9,bQA⟩:=aT bp bg bi bf bm bt bz2 bp2 bg2 bi2 bf2 bm2;have bQB:=aA bt2;clear hz hp hg hi hf hm ht qK hp2 HZ hi2 hf2 MV ht2 hW rX bE bR hb hR1 hR2 jN jK bz bp bg bi bf bm bt bz2 bp2 bg2 bi2 bf2 bm2 bt2;go_enter Tryz.func29,Tryz.ntmps29;go_upto_region 1 with fail
 rw[I5.o];go_cut [5,6]from 9 (fun v5 v6 wx=>∃g5 g6:Nat,v5= .pointer (some ⟨g5,0,none⟩)∧v6= .pointer (some ⟨g6,0,none⟩)∧Hid (jW wx g5 125 #[.int .i64 0,.slice za zn zc,.int .i64 2,.slice pa pn pc,.int .i64 3,.slice ga gn gc,.int .i64 4,.slice ia iN ic,.int .i64 1,.slice fa fn fc])∧Hid (jW wx g6 125 #[.int .i64 0,.slice xL xM xO,.int .i64 2,.slice xP xQ pc2,.int .i64 3,.slice xR xS xU,.int .i64 4,.slice xV xW xX,.int .i64 1,.slice fa2 xY xZ])∧Hid (Below W.heap.size W wx))
 case first=>
  refine kM (S:=fun W=>∃s,W=ff s) aF 8 rfl ?_;obtain⟨wD,qF⟩:∃X,W.drew=X:=⟨_,rfl⟩;rw[qF]at HS HD ⊢;clear qF;refine jS [0,2] 6 aF aI aF aF aF HS.o ?_;simp only[jI,aW,aX,aU,aV];iterate 2 (go_big_quiet_step (fail))
  refine wpQuiet_nil ?_;refine a4J 1 4 5 5 aF aF ?_ ?_ ?_;all_goals simp only[jI,aW,aX,aU,aV]
  case refine_1=>
   go_wp2_with fail
   refine(SA.o _).mono ?_;rintro e x1 ⟨rfl,a0D⟩;have hx1:=HD.o.tm a0D;obtain⟨HS,QA,bI8⟩:=aK (jF.o _ hx1) hx1 a0D;clear hx1 a0D;go_wp2_with fail
   first|refine Mid.mk ⟨HS.o,?_⟩|refine Mid.mk ?_
   refine a4J 3 4 5 4 aF aF ?_ ?_ ?_;all_goals simp only[jI,aW,aX,aU,aV]
   case refine_1=>
    go_wp2_with fail
    refine(Y0.o _).mono ?_;rintro e x2 ⟨rfl,aAA⟩;have TU:=QA.o.tm aAA;obtain⟨HS,QB,bI9⟩:=aK (jF.o _ TU) TU aAA;clear TU aAA;go_wp2_with fail
    first|refine Mid.mk ⟨HS.o,?_⟩|refine Mid.mk ?_
    refine yM 4 5 3 aF aF ?_ ?_;all_goals simp only[jI,aW,aX,aU,aV]
    case refine_1=>
     go_wp2_with fail
     have a06:=aD x2 (.cells #[.int .i64 0,.slice none 0 0,.int .i64 0,.slice none 0 0,.int .i64 0,.slice none 0 0,.int .i64 0,.slice none 0 0,.int .i64 0,.slice none 0 0] 125);have bIX:=jW.new x2 125 #[.int .i64 0,.slice none 0 0,.int .i64 0,.slice none 0 0,.int .i64 0,.slice none 0 0,.int .i64 0,.slice none 0 0,.int .i64 0,.slice none 0 0];have WR:=QB.o.tm a06;have b08:=bIX;have nW:=QB.o.size;replace nW:=aA (gB nW trivial)
     clear bIX;obtain⟨x3,ex3⟩:∃W,x2.alloc (.cells #[.int .i64 0,.slice none 0 0,.int .i64 0,.slice none 0 0,.int .i64 0,.slice none 0 0,.int .i64 0,.slice none 0 0,.int .i64 0,.slice none 0 0] 125)=W:=⟨_,rfl⟩;rw[ex3]at WR a06 b08 ⊢;obtain⟨g5,b8Z⟩:∃g,x2.heap.size=g:=⟨_,rfl⟩;try rw[b8Z]at b08 nW
     try rw[b8Z]
     clear b8Z ex3;obtain⟨HS,a6N,b1Q,b2D⟩:=aL (jF.o _ WR) WR a06 b08;clear WR a06 b08;first|refine Mid.mk ⟨HS.o,?_⟩|refine Mid.mk ?_
     refine jJ 5 2 aF aF ?_;simp only[jI,aW,aX,aU,aV];go_wp2_with fail
     have aUB:=aD x3 (.cells #[.int .i64 0,.slice none 0 0,.int .i64 0,.slice none 0 0,.int .i64 0,.slice none 0 0,.int .i64 0,.slice none 0 0,.int .i64 0,.slice none 0 0] 125);have bIY:=jW.new x3 125 #[.int .i64 0,.slice none 0 0,.int .i64 0,.slice none 0 0,.int .i64 0,.slice none 0 0,.int .i64 0,.slice none 0 0,.int .i64 0,.slice none 0 0];have hx4:=a6N.o.tm aUB;have b09:=bIY;have b90:=b2D.o.late aUB;have qQ:=a6N.o.size;have bFH:g5<x3.heap.size:=b2D.o.lt;replace qQ:=aA (gB qQ bFH)
     clear bIY;obtain⟨x4,ex4⟩:∃W,x3.alloc (.cells #[.int .i64 0,.slice none 0 0,.int .i64 0,.slice none 0 0,.int .i64 0,.slice none 0 0,.int .i64 0,.slice none 0 0,.int .i64 0,.slice none 0 0] 125)=W:=⟨_,rfl⟩;rw[ex4]at hx4 aUB b09 b90 ⊢;obtain⟨g6,b91⟩:∃g,x3.heap.size=g:=⟨_,rfl⟩;try rw[b91]at b09 qQ
     try rw[b91]
     clear b91 ex4;obtain⟨HS,bQC,bUA,bIZ,b2E⟩:=aM (jF.o _ hx4) hx4 aUB b09 b90;clear hx4 aUB b09 b90;first|refine Mid.mk ⟨HS.o,?_⟩|refine Mid.mk ?_
     refine jJ 6 1 aF aF ?_;simp only[jI,aW,aX,aU,aV];go_wp2_with (refine wpList_store_row rfl 125 (.tmp 5) (.tmp 10) rfl g5 #[.int .i64 0,.slice za zn zc,.int .i64 2,.slice pa pn pc,.int .i64 3,.slice ga gn gc,.int .i64 4,.slice ia iN ic,.int .i64 1,.slice fa fn fc] rfl rfl 125 _ b2E.o aF rfl aF ?_)
     have OH:=b2E.o.row #[.int .i64 0,.slice za zn zc,.int .i64 2,.slice pa pn pc,.int .i64 3,.slice ga gn gc,.int .i64 4,.slice ia iN ic,.int .i64 1,.slice fa fn fc];have KM:jW (x4.setRow g5 #[.int .i64 0,.slice za zn zc,.int .i64 2,.slice pa pn pc,.int .i64 3,.slice ga gn gc,.int .i64 4,.slice ia iN ic,.int .i64 1,.slice fa fn fc]) g6 125 #[.int .i64 0,.slice none 0 0,.int .i64 0,.slice none 0 0,.int .i64 0,.slice none 0 0,.int .i64 0,.slice none 0 0,.int .i64 0,.slice none 0 0]:=(setRow_other x4 g5 g6 _ (by have:=nW.o;have:=qQ.o;omega)).trans bIZ.o;have G8:=kH bQC.o (show W.heap.size≤g5 by have:=nW.o;omega) #[.int .i64 0,.slice za zn zc,.int .i64 2,.slice pa pn pc,.int .i64 3,.slice ga gn gc,.int .i64 4,.slice ia iN ic,.int .i64 1,.slice fa fn fc];obtain⟨HS,FQ,vY,FR⟩:=aL (jF.o _ G8) OH KM G8;clear OH KM G8;first|refine Mid.mk ⟨HS.o,?_⟩|refine⟨HS.o,?_⟩
     refine jJ 7 0 aF aF ?_;simp only[jI,aW,aX,aU,aV];go_wp2_with (refine wpList_store_row rfl 125 (.tmp 6) (.tmp 12) rfl g6 #[.int .i64 0,.slice xL xM xO,.int .i64 2,.slice xP xQ pc2,.int .i64 3,.slice xR xS xU,.int .i64 4,.slice xV xW xX,.int .i64 1,.slice fa2 xY xZ] rfl rfl 125 _ vY.o aF rfl aF ?_)
     have M8:=vY.o.row #[.int .i64 0,.slice xL xM xO,.int .i64 2,.slice xP xQ pc2,.int .i64 3,.slice xR xS xU,.int .i64 4,.slice xV xW xX,.int .i64 1,.slice fa2 xY xZ];have OI:jW ((x4.setRow g5 #[.int .i64 0,.slice za zn zc,.int .i64 2,.slice pa pn pc,.int .i64 3,.slice ga gn gc,.int .i64 4,.slice ia iN ic,.int .i64 1,.slice fa fn fc]).setRow g6 #[.int .i64 0,.slice xL xM xO,.int .i64 2,.slice xP xQ pc2,.int .i64 3,.slice xR xS xU,.int .i64 4,.slice xV xW xX,.int .i64 1,.slice fa2 xY xZ]) g5 125 #[.int .i64 0,.slice za zn zc,.int .i64 2,.slice pa pn pc,.int .i64 3,.slice ga gn gc,.int .i64 4,.slice ia iN ic,.int .i64 1,.slice fa fn fc]:=(setRow_other (x4.setRow g5 #[.int .i64 0,.slice za zn zc,.int .i64 2,.slice pa pn pc,.int .i64 3,.slice ga gn gc,.int .i64 4,.slice ia iN ic,.int .i64 1,.slice fa fn fc]) g6 g5 _ (by have:=nW.o;have:=qQ.o;omega)).trans FQ.o;have G9:=kH FR.o (show W.heap.size≤g6 by have:=qQ.o;omega) #[.int .i64 0,.slice xL xM xO,.int .i64 2,.slice xP xQ pc2,.int .i64 3,.slice xR xS xU,.int .i64 4,.slice xV xW xX,.int .i64 1,.slice fa2 xY xZ];obtain⟨HS,CV,FT,FU⟩:=aL (jF.o _ G9) M8 OI G9;clear M8 OI G9;first|(refine Mid.mk ⟨HS.o,?_⟩;refine jV aF ?_)|(refine⟨HS.o,?_⟩;refine jV aF ?_)|refine⟨HS.o,by kernel_rfl,?_⟩
     clear q0 q1 q2 q3 q4 q5 q6 q7 r0 r1 r2 r3 r4 r5 r6 r7;go_wp2_with fail
     go_meet
     case rel=>exact⟨g5,g6,rfl,rfl,FT,CV,FU⟩
    case refine_2=>
     go_wp2_with fail
     have FN:=aD x2 (.cells #[.int .i64 0,.slice none 0 0,.int .i64 0,.slice none 0 0,.int .i64 0,.slice none 0 0,.int .i64 0,.slice none 0 0,.int .i64 0,.slice none 0 0] 125);have bJ0:=jW.new x2 125 #[.int .i64 0,.slice none 0 0,.int .i64 0,.slice none 0 0,.int .i64 0,.slice none 0 0,.int .i64 0,.slice none 0 0,.int .i64 0,.slice none 0 0];have hx5:=QB.o.tm FN;have b0A:=bJ0;have qQ:=QB.o.size;replace qQ:=aA (gB qQ trivial)
     clear bJ0;obtain⟨x5,ex5⟩:∃W,x2.alloc (.cells #[.int .i64 0,.slice none 0 0,.int .i64 0,.slice none 0 0,.int .i64 0,.slice none 0 0,.int .i64 0,.slice none 0 0,.int .i64 0,.slice none 0 0] 125)=W:=⟨_,rfl⟩;rw[ex5]at hx5 FN b0A ⊢;obtain⟨g6,b92⟩:∃g,x2.heap.size=g:=⟨_,rfl⟩;try rw[b92]at b0A qQ
     try rw[b92]
     clear b92 ex5;obtain⟨HS,b93,bIE,b2F⟩:=aL (jF.o _ hx5) hx5 FN b0A;clear hx5 FN b0A;first|refine Mid.mk ⟨HS.o,?_⟩|refine Mid.mk ?_
     refine jJ 4 2 aF aF ?_;simp only[jI,aW,aX,aU,aV];go_wp2_with fail
     have BM:=aD x5 (.cells #[.int .i64 0,.slice none 0 0,.int .i64 0,.slice none 0 0,.int .i64 0,.slice none 0 0,.int .i64 0,.slice none 0 0,.int .i64 0,.slice none 0 0] 125);have bJ1:=jW.new x5 125 #[.int .i64 0,.slice none 0 0,.int .i64 0,.slice none 0 0,.int .i64 0,.slice none 0 0,.int .i64 0,.slice none 0 0,.int .i64 0,.slice none 0 0];have hx6:=b93.o.tm BM;have b0B:=bJ1;have b94:=b2F.o.late BM;have nW:=b93.o.size;have bJ2:g6<x5.heap.size:=b2F.o.lt;replace nW:=aA (gB nW bJ2)
     clear bJ1;obtain⟨x6,ex6⟩:∃W,x5.alloc (.cells #[.int .i64 0,.slice none 0 0,.int .i64 0,.slice none 0 0,.int .i64 0,.slice none 0 0,.int .i64 0,.slice none 0 0,.int .i64 0,.slice none 0 0] 125)=W:=⟨_,rfl⟩;rw[ex6]at hx6 BM b0B b94 ⊢;obtain⟨g5,b95⟩:∃g,x5.heap.size=g:=⟨_,rfl⟩;try rw[b95]at b0B nW
     try rw[b95]
     clear b95 ex6;obtain⟨HS,bJ3,RA,b2G,bJ4⟩:=aM (jF.o _ hx6) hx6 BM b0B b94;clear hx6 BM b0B b94;first|refine Mid.mk ⟨HS.o,?_⟩|refine Mid.mk ?_
     refine jJ 6 1 aF aF ?_;simp only[jI,aW,aX,aU,aV];go_wp2_with (refine wpList_store_row rfl 125 (.tmp 5) (.tmp 10) rfl g5 #[.int .i64 0,.slice za zn zc,.int .i64 2,.slice pa pn pc,.int .i64 3,.slice ga gn gc,.int .i64 4,.slice ia iN ic,.int .i64 1,.slice fa fn fc] rfl rfl 125 _ b2G.o aF rfl aF ?_)
     have OH:=b2G.o.row #[.int .i64 0,.slice za zn zc,.int .i64 2,.slice pa pn pc,.int .i64 3,.slice ga gn gc,.int .i64 4,.slice ia iN ic,.int .i64 1,.slice fa fn fc];have KM:jW (x6.setRow g5 #[.int .i64 0,.slice za zn zc,.int .i64 2,.slice pa pn pc,.int .i64 3,.slice ga gn gc,.int .i64 4,.slice ia iN ic,.int .i64 1,.slice fa fn fc]) g6 125 #[.int .i64 0,.slice none 0 0,.int .i64 0,.slice none 0 0,.int .i64 0,.slice none 0 0,.int .i64 0,.slice none 0 0,.int .i64 0,.slice none 0 0]:=(setRow_other x6 g5 g6 _ (by have:=nW.o;have:=qQ.o;omega)).trans bJ4.o;have G8:=kH bJ3.o (show W.heap.size≤g5 by have:=nW.o;omega) #[.int .i64 0,.slice za zn zc,.int .i64 2,.slice pa pn pc,.int .i64 3,.slice ga gn gc,.int .i64 4,.slice ia iN ic,.int .i64 1,.slice fa fn fc];obtain⟨HS,FQ,vY,FR⟩:=aL (jF.o _ G8) OH KM G8;clear OH KM G8;first|refine Mid.mk ⟨HS.o,?_⟩|refine⟨HS.o,?_⟩
     refine jJ 7 0 aF aF ?_;simp only[jI,aW,aX,aU,aV];go_wp2_with (refine wpList_store_row rfl 125 (.tmp 6) (.tmp 12) rfl g6 #[.int .i64 0,.slice xL xM xO,.int .i64 2,.slice xP xQ pc2,.int .i64 3,.slice xR xS xU,.int .i64 4,.slice xV xW xX,.int .i64 1,.slice fa2 xY xZ] rfl rfl 125 _ vY.o aF rfl aF ?_)
     have M8:=vY.o.row #[.int .i64 0,.slice xL xM xO,.int .i64 2,.slice xP xQ pc2,.int .i64 3,.slice xR xS xU,.int .i64 4,.slice xV xW xX,.int .i64 1,.slice fa2 xY xZ];have OI:jW ((x6.setRow g5 #[.int .i64 0,.slice za zn zc,.int .i64 2,.slice pa pn pc,.int .i64 3,.slice ga gn gc,.int .i64 4,.slice ia iN ic,.int .i64 1,.slice fa fn fc]).setRow g6 #[.int .i64 0,.slice xL xM xO,.int .i64 2,.slice xP xQ pc2,.int .i64 3,.slice xR xS xU,.int .i64 4,.slice xV xW xX,.int .i64 1,.slice fa2 xY xZ]) g5 125 #[.int .i64 0,.slice za zn zc,.int .i64 2,.slice pa pn pc,.int .i64 3,.slice ga gn gc,.int .i64 4,.slice ia iN ic,.int .i64 1,.slice fa fn fc]:=(setRow_other (x6.setRow g5 #[.int .i64 0,.slice za zn zc,.int .i64 2,.slice pa pn pc,.int .i64 3,.slice ga gn gc,.int .i64 4,.slice ia iN ic,.int .i64 1,.slice fa fn fc]) g6 g5 _ (by have:=nW.o;have:=qQ.o;omega)).trans FQ.o;have G9:=kH FR.o (show W.heap.size≤g6 by have:=qQ.o;omega) #[.int .i64 0,.slice xL xM xO,.int .i64 2,.slice xP xQ pc2,.int .i64 3,.slice xR xS xU,.int .i64 4,.slice xV xW xX,.int .i64 1,.slice fa2 xY xZ];obtain⟨HS,CV,FT,FU⟩:=aL (jF.o _ G9) M8 OI G9;clear M8 OI G9;first|(refine Mid.mk ⟨HS.o,?_⟩;refine jV aF ?_)|(refine⟨HS.o,?_⟩;refine jV aF ?_)|refine⟨HS.o,by kernel_rfl,?_⟩
     clear q0 q1 q2 q3 q4 q5 q6 q7 r0 r1 r2 r3 r4 r5 r6 r7;go_wp2_with fail
     go_meet
     case rel=>exact⟨g5,g6,rfl,rfl,FT,CV,FU⟩
   case refine_2=>
    go_wp2_with fail
    have BN:=aD x1 (.cells #[.int .i64 0,.slice none 0 0,.int .i64 0,.slice none 0 0,.int .i64 0,.slice none 0 0,.int .i64 0,.slice none 0 0,.int .i64 0,.slice none 0 0] 125);have bJ5:=jW.new x1 125 #[.int .i64 0,.slice none 0 0,.int .i64 0,.slice none 0 0,.int .i64 0,.slice none 0 0,.int .i64 0,.slice none 0 0,.int .i64 0,.slice none 0 0];have hx7:=QA.o.tm BN;have b0C:=bJ5;have nW:=QA.o.size;replace nW:=aA (gB nW trivial)
    clear bJ5;obtain⟨x7,ex7⟩:∃W,x1.alloc (.cells #[.int .i64 0,.slice none 0 0,.int .i64 0,.slice none 0 0,.int .i64 0,.slice none 0 0,.int .i64 0,.slice none 0 0,.int .i64 0,.slice none 0 0] 125)=W:=⟨_,rfl⟩;rw[ex7]at hx7 BN b0C ⊢;obtain⟨g5,b96⟩:∃g,x1.heap.size=g:=⟨_,rfl⟩;try rw[b96]at b0C nW
    try rw[b96]
    clear b96 ex7;obtain⟨HS,KA,aL1,aUC⟩:=aL (jF.o _ hx7) hx7 BN b0C;clear hx7 BN b0C;first|refine Mid.mk ⟨HS.o,?_⟩|refine Mid.mk ?_
    refine yM 3 5 3 aF aF ?_ ?_;all_goals simp only[jI,aW,aX,aU,aV]
    case refine_1=>
     go_wp2_with fail
     refine(Y0.o _).mono ?_;rintro e x8 ⟨rfl,b0D⟩;have hx8:=KA.o.tm b0D;have bJ6:=aUC.o.late b0D;obtain⟨HS,aUD,bUB,b2H⟩:=aL (jF.o _ hx8) hx8 b0D bJ6;clear hx8 b0D bJ6;go_wp2_with fail
     first|refine Mid.mk ⟨HS.o,?_⟩|refine Mid.mk ?_
     refine jJ 5 2 aF aF ?_;simp only[jI,aW,aX,aU,aV];go_wp2_with fail
     have aUE:=aD x8 (.cells #[.int .i64 0,.slice none 0 0,.int .i64 0,.slice none 0 0,.int .i64 0,.slice none 0 0,.int .i64 0,.slice none 0 0,.int .i64 0,.slice none 0 0] 125);have bJ7:=jW.new x8 125 #[.int .i64 0,.slice none 0 0,.int .i64 0,.slice none 0 0,.int .i64 0,.slice none 0 0,.int .i64 0,.slice none 0 0,.int .i64 0,.slice none 0 0];have hx9:=aUD.o.tm aUE;have b0E:=bJ7;have b97:=b2H.o.late aUE;have qQ:=aUD.o.size;have bQD:g5<x8.heap.size:=b2H.o.lt;replace qQ:=aA (gB qQ bQD)
     clear bJ7;obtain⟨x9,ex9⟩:∃W,x8.alloc (.cells #[.int .i64 0,.slice none 0 0,.int .i64 0,.slice none 0 0,.int .i64 0,.slice none 0 0,.int .i64 0,.slice none 0 0,.int .i64 0,.slice none 0 0] 125)=W:=⟨_,rfl⟩;rw[ex9]at hx9 aUE b0E b97 ⊢;obtain⟨g6,b98⟩:∃g,x8.heap.size=g:=⟨_,rfl⟩;try rw[b98]at b0E qQ
     try rw[b98]
     clear b98 ex9;obtain⟨HS,a6V,bUC,bJ8,b2I⟩:=aM (jF.o _ hx9) hx9 aUE b0E b97;clear hx9 aUE b0E b97;first|refine Mid.mk ⟨HS.o,?_⟩|refine Mid.mk ?_
     refine jJ 6 1 aF aF ?_;simp only[jI,aW,aX,aU,aV];go_wp2_with (refine wpList_store_row rfl 125 (.tmp 5) (.tmp 10) rfl g5 #[.int .i64 0,.slice za zn zc,.int .i64 2,.slice pa pn pc,.int .i64 3,.slice ga gn gc,.int .i64 4,.slice ia iN ic,.int .i64 1,.slice fa fn fc] rfl rfl 125 _ b2I.o aF rfl aF ?_)
     have OH:=b2I.o.row #[.int .i64 0,.slice za zn zc,.int .i64 2,.slice pa pn pc,.int .i64 3,.slice ga gn gc,.int .i64 4,.slice ia iN ic,.int .i64 1,.slice fa fn fc];have KM:jW (x9.setRow g5 #[.int .i64 0,.slice za zn zc,.int .i64 2,.slice pa pn pc,.int .i64 3,.slice ga gn gc,.int .i64 4,.slice ia iN ic,.int .i64 1,.slice fa fn fc]) g6 125 #[.int .i64 0,.slice none 0 0,.int .i64 0,.slice none 0 0,.int .i64 0,.slice none 0 0,.int .i64 0,.slice none 0 0,.int .i64 0,.slice none 0 0]:=(setRow_other x9 g5 g6 _ (by have:=nW.o;have:=qQ.o;omega)).trans bJ8.o;have G8:=kH a6V.o (show W.heap.size≤g5 by have:=nW.o;omega) #[.int .i64 0,.slice za zn zc,.int .i64 2,.slice pa pn pc,.int .i64 3,.slice ga gn gc,.int .i64 4,.slice ia iN ic,.int .i64 1,.slice fa fn fc];obtain⟨HS,FQ,vY,FR⟩:=aL (jF.o _ G8) OH KM G8;clear OH KM G8;first|refine Mid.mk ⟨HS.o,?_⟩|refine⟨HS.o,?_⟩
     refine jJ 7 0 aF aF ?_;simp only[jI,aW,aX,aU,aV];go_wp2_with (refine wpList_store_row rfl 125 (.tmp 6) (.tmp 12) rfl g6 #[.int .i64 0,.slice xL xM xO,.int .i64 2,.slice xP xQ pc2,.int .i64 3,.slice xR xS xU,.int .i64 4,.slice xV xW xX,.int .i64 1,.slice fa2 xY xZ] rfl rfl 125 _ vY.o aF rfl aF ?_)
     have M8:=vY.o.row #[.int .i64 0,.slice xL xM xO,.int .i64 2,.slice xP xQ pc2,.int .i64 3,.slice xR xS xU,.int .i64 4,.slice xV xW xX,.int .i64 1,.slice fa2 xY xZ];have OI:jW ((x9.setRow g5 #[.int .i64 0,.slice za zn zc,.int .i64 2,.slice pa pn pc,.int .i64 3,.slice ga gn gc,.int .i64 4,.slice ia iN ic,.int .i64 1,.slice fa fn fc]).setRow g6 #[.int .i64 0,.slice xL xM xO,.int .i64 2,.slice xP xQ pc2,.int .i64 3,.slice xR xS xU,.int .i64 4,.slice xV xW xX,.int .i64 1,.slice fa2 xY xZ]) g5 125 #[.int .i64 0,.slice za zn zc,.int .i64 2,.slice pa pn pc,.int .i64 3,.slice ga gn gc,.int .i64 4,.slice ia iN ic,.int .i64 1,.slice fa fn fc]:=(setRow_other (x9.setRow g5 #[.int .i64 0,.slice za zn zc,.int .i64 2,.slice pa pn pc,.int .i64 3,.slice ga gn gc,.int .i64 4,.slice ia iN ic,.int .i64 1,.slice fa fn fc]) g6 g5 _ (by have:=nW.o;have:=qQ.o;omega)).trans FQ.o;have G9:=kH FR.o (show W.heap.size≤g6 by have:=qQ.o;omega) #[.int .i64 0,.slice xL xM xO,.int .i64 2,.slice xP xQ pc2,.int .i64 3,.slice xR xS xU,.int .i64 4,.slice xV xW xX,.int .i64 1,.slice fa2 xY xZ];obtain⟨HS,CV,FT,FU⟩:=aL (jF.o _ G9) M8 OI G9;clear M8 OI G9;first|(refine Mid.mk ⟨HS.o,?_⟩;refine jV aF ?_)|(refine⟨HS.o,?_⟩;refine jV aF ?_)|refine⟨HS.o,by kernel_rfl,?_⟩
     clear q0 q1 q2 q3 q4 q5 q6 q7 r0 r1 r2 r3 r4 r5 r6 r7;go_wp2_with fail
     go_meet
     case rel=>exact⟨g5,g6,rfl,rfl,FT,CV,FU⟩
    case refine_2=>
     go_wp2_with fail
     have aEB:=aD x7 (.cells #[.int .i64 0,.slice none 0 0,.int .i64 0,.slice none 0 0,.int .i64 0,.slice none 0 0,.int .i64 0,.slice none 0 0,.int .i64 0,.slice none 0 0] 125);have b2J:=jW.new x7 125 #[.int .i64 0,.slice none 0 0,.int .i64 0,.slice none 0 0,.int .i64 0,.slice none 0 0,.int .i64 0,.slice none 0 0,.int .i64 0,.slice none 0 0];have aIL:=KA.o.tm aEB;have aL3:=b2J;have aUF:=aUC.o.late aEB;have qQ:=KA.o.size;have bJ9:g5<x7.heap.size:=aUC.o.lt;replace qQ:=aA (gB qQ bJ9)
     clear b2J;obtain⟨x10,bJA⟩:∃W,x7.alloc (.cells #[.int .i64 0,.slice none 0 0,.int .i64 0,.slice none 0 0,.int .i64 0,.slice none 0 0,.int .i64 0,.slice none 0 0,.int .i64 0,.slice none 0 0] 125)=W:=⟨_,rfl⟩;rw[bJA]at aIL aEB aL3 aUF ⊢;obtain⟨g6,aUG⟩:∃g,x7.heap.size=g:=⟨_,rfl⟩;try rw[aUG]at aL3 qQ
     try rw[aUG]
     clear aUG bJA;obtain⟨HS,aL4,bQE,b99,b9A⟩:=aM (jF.o _ aIL) aIL aEB aL3 aUF;clear aIL aEB aL3 aUF;first|refine Mid.mk ⟨HS.o,?_⟩|refine Mid.mk ?_
     refine jJ 3 2 aF aF ?_;simp only[jI,aW,aX,aU,aV];go_wp2_with fail
     refine(Y0.o _).mono ?_;rintro e x11 ⟨rfl,aEC⟩;have b9B:=aL4.o.tm aEC;have b2K:=b9A.o.late aEC;have b2L:=b99.o.late aEC;obtain⟨HS,bJB,bQF,aUH,b9C⟩:=aM (jF.o _ b9B) b9B aEC b2K b2L;clear b9B aEC b2K b2L;go_wp2_with fail
     first|refine Mid.mk ⟨HS.o,?_⟩|refine Mid.mk ?_
     refine jJ 6 1 aF aF ?_;simp only[jI,aW,aX,aU,aV];go_wp2_with (refine wpList_store_row rfl 125 (.tmp 5) (.tmp 10) rfl g5 #[.int .i64 0,.slice za zn zc,.int .i64 2,.slice pa pn pc,.int .i64 3,.slice ga gn gc,.int .i64 4,.slice ia iN ic,.int .i64 1,.slice fa fn fc] rfl rfl 125 _ aUH.o aF rfl aF ?_)
     have OH:=aUH.o.row #[.int .i64 0,.slice za zn zc,.int .i64 2,.slice pa pn pc,.int .i64 3,.slice ga gn gc,.int .i64 4,.slice ia iN ic,.int .i64 1,.slice fa fn fc];have KM:jW (x11.setRow g5 #[.int .i64 0,.slice za zn zc,.int .i64 2,.slice pa pn pc,.int .i64 3,.slice ga gn gc,.int .i64 4,.slice ia iN ic,.int .i64 1,.slice fa fn fc]) g6 125 #[.int .i64 0,.slice none 0 0,.int .i64 0,.slice none 0 0,.int .i64 0,.slice none 0 0,.int .i64 0,.slice none 0 0,.int .i64 0,.slice none 0 0]:=(setRow_other x11 g5 g6 _ (by have:=nW.o;have:=qQ.o;omega)).trans b9C.o;have G8:=kH bJB.o (show W.heap.size≤g5 by have:=nW.o;omega) #[.int .i64 0,.slice za zn zc,.int .i64 2,.slice pa pn pc,.int .i64 3,.slice ga gn gc,.int .i64 4,.slice ia iN ic,.int .i64 1,.slice fa fn fc];obtain⟨HS,FQ,vY,FR⟩:=aL (jF.o _ G8) OH KM G8;clear OH KM G8;first|refine Mid.mk ⟨HS.o,?_⟩|refine⟨HS.o,?_⟩
     refine jJ 7 0 aF aF ?_;simp only[jI,aW,aX,aU,aV];go_wp2_with (refine wpList_store_row rfl 125 (.tmp 6) (.tmp 12) rfl g6 #[.int .i64 0,.slice xL xM xO,.int .i64 2,.slice xP xQ pc2,.int .i64 3,.slice xR xS xU,.int .i64 4,.slice xV xW xX,.int .i64 1,.slice fa2 xY xZ] rfl rfl 125 _ vY.o aF rfl aF ?_)
     have M8:=vY.o.row #[.int .i64 0,.slice xL xM xO,.int .i64 2,.slice xP xQ pc2,.int .i64 3,.slice xR xS xU,.int .i64 4,.slice xV xW xX,.int .i64 1,.slice fa2 xY xZ];have OI:jW ((x11.setRow g5 #[.int .i64 0,.slice za zn zc,.int .i64 2,.slice pa pn pc,.int .i64 3,.slice ga gn gc,.int .i64 4,.slice ia iN ic,.int .i64 1,.slice fa fn fc]).setRow g6 #[.int .i64 0,.slice xL xM xO,.int .i64 2,.slice xP xQ pc2,.int .i64 3,.slice xR xS xU,.int .i64 4,.slice xV xW xX,.int .i64 1,.slice fa2 xY xZ]) g5 125 #[.int .i64 0,.slice za zn zc,.int .i64 2,.slice pa pn pc,.int .i64 3,.slice ga gn gc,.int .i64 4,.slice ia iN ic,.int .i64 1,.slice fa fn fc]:=(setRow_other (x11.setRow g5 #[.int .i64 0,.slice za zn zc,.int .i64 2,.slice pa pn pc,.int .i64 3,.slice ga gn gc,.int .i64 4,.slice ia iN ic,.int .i64 1,.slice fa fn fc]) g6 g5 _ (by have:=nW.o;have:=qQ.o;omega)).trans FQ.o;have G9:=kH FR.o (show W.heap.size≤g6 by have:=qQ.o;omega) #[.int .i64 0,.slice xL xM xO,.int .i64 2,.slice xP xQ pc2,.int .i64 3,.slice xR xS xU,.int .i64 4,.slice xV xW xX,.int .i64 1,.slice fa2 xY xZ];obtain⟨HS,CV,FT,FU⟩:=aL (jF.o _ G9) M8 OI G9;clear M8 OI G9;first|(refine Mid.mk ⟨HS.o,?_⟩;refine jV aF ?_)|(refine⟨HS.o,?_⟩;refine jV aF ?_)|refine⟨HS.o,by kernel_rfl,?_⟩
     clear q0 q1 q2 q3 q4 q5 q6 q7 r0 r1 r2 r3 r4 r5 r6 r7;go_wp2_with fail
     go_meet
     case rel=>exact⟨g5,g6,rfl,rfl,FT,CV,FU⟩
   case refine_3=>
    go_wp2_with fail
    have OE:=aD x1 (.cells #[.int .i64 0,.slice none 0 0,.int .i64 0,.slice none 0 0,.int .i64 0,.slice none 0 0,.int .i64 0,.slice none 0 0,.int .i64 0,.slice none 0 0] 125);have b2M:=jW.new x1 125 #[.int .i64 0,.slice none 0 0,.int .i64 0,.slice none 0 0,.int .i64 0,.slice none 0 0,.int .i64 0,.slice none 0 0,.int .i64 0,.slice none 0 0];have Y4:=QA.o.tm OE;have aL5:=b2M;have qQ:=QA.o.size;replace qQ:=aA (gB qQ trivial)
    clear b2M;obtain⟨x12,bJC⟩:∃W,x1.alloc (.cells #[.int .i64 0,.slice none 0 0,.int .i64 0,.slice none 0 0,.int .i64 0,.slice none 0 0,.int .i64 0,.slice none 0 0,.int .i64 0,.slice none 0 0] 125)=W:=⟨_,rfl⟩;rw[bJC]at Y4 OE aL5 ⊢;obtain⟨g6,aUI⟩:∃g,x1.heap.size=g:=⟨_,rfl⟩;try rw[aUI]at aL5 qQ
    try rw[aUI]
    clear aUI bJC;obtain⟨HS,a8L,b8A,aIM⟩:=aL (jF.o _ Y4) Y4 OE aL5;clear Y4 OE aL5;first|refine Mid.mk ⟨HS.o,?_⟩|refine Mid.mk ?_
    refine yM 3 4 3 aF aF ?_ ?_;all_goals simp only[jI,aW,aX,aU,aV]
    case refine_1=>
     go_wp2_with fail
     refine(Y0.o _).mono ?_;rintro e x13 ⟨rfl,aL6⟩;have b9D:=a8L.o.tm aL6;have b2N:=aIM.o.late aL6;obtain⟨HS,aUJ,bQG,aUK⟩:=aL (jF.o _ b9D) b9D aL6 b2N;clear b9D aL6 b2N;go_wp2_with fail
     first|refine Mid.mk ⟨HS.o,?_⟩|refine Mid.mk ?_
     refine jJ 4 2 aF aF ?_;simp only[jI,aW,aX,aU,aV];go_wp2_with fail
     have aED:=aD x13 (.cells #[.int .i64 0,.slice none 0 0,.int .i64 0,.slice none 0 0,.int .i64 0,.slice none 0 0,.int .i64 0,.slice none 0 0,.int .i64 0,.slice none 0 0] 125);have b2O:=jW.new x13 125 #[.int .i64 0,.slice none 0 0,.int .i64 0,.slice none 0 0,.int .i64 0,.slice none 0 0,.int .i64 0,.slice none 0 0,.int .i64 0,.slice none 0 0];have b0F:=aUJ.o.tm aED;have aL7:=b2O;have aUL:=aUK.o.late aED;have nW:=aUJ.o.size;have bJD:g6<x13.heap.size:=aUK.o.lt;replace nW:=aA (gB nW bJD)
     clear b2O;obtain⟨x14,bJE⟩:∃W,x13.alloc (.cells #[.int .i64 0,.slice none 0 0,.int .i64 0,.slice none 0 0,.int .i64 0,.slice none 0 0,.int .i64 0,.slice none 0 0,.int .i64 0,.slice none 0 0] 125)=W:=⟨_,rfl⟩;rw[bJE]at b0F aED aL7 aUL ⊢;obtain⟨g5,aUM⟩:∃g,x13.heap.size=g:=⟨_,rfl⟩;try rw[aUM]at aL7 nW
     try rw[aUM]
     clear aUM bJE;obtain⟨HS,bJF,bQH,aUN,b9E⟩:=aM (jF.o _ b0F) b0F aED aL7 aUL;clear b0F aED aL7 aUL;first|refine Mid.mk ⟨HS.o,?_⟩|refine Mid.mk ?_
     refine jJ 6 1 aF aF ?_;simp only[jI,aW,aX,aU,aV];go_wp2_with (refine wpList_store_row rfl 125 (.tmp 5) (.tmp 10) rfl g5 #[.int .i64 0,.slice za zn zc,.int .i64 2,.slice pa pn pc,.int .i64 3,.slice ga gn gc,.int .i64 4,.slice ia iN ic,.int .i64 1,.slice fa fn fc] rfl rfl 125 _ aUN.o aF rfl aF ?_)
     have OH:=aUN.o.row #[.int .i64 0,.slice za zn zc,.int .i64 2,.slice pa pn pc,.int .i64 3,.slice ga gn gc,.int .i64 4,.slice ia iN ic,.int .i64 1,.slice fa fn fc];have KM:jW (x14.setRow g5 #[.int .i64 0,.slice za zn zc,.int .i64 2,.slice pa pn pc,.int .i64 3,.slice ga gn gc,.int .i64 4,.slice ia iN ic,.int .i64 1,.slice fa fn fc]) g6 125 #[.int .i64 0,.slice none 0 0,.int .i64 0,.slice none 0 0,.int .i64 0,.slice none 0 0,.int .i64 0,.slice none 0 0,.int .i64 0,.slice none 0 0]:=(setRow_other x14 g5 g6 _ (by have:=nW.o;have:=qQ.o;omega)).trans b9E.o;have G8:=kH bJF.o (show W.heap.size≤g5 by have:=nW.o;omega) #[.int .i64 0,.slice za zn zc,.int .i64 2,.slice pa pn pc,.int .i64 3,.slice ga gn gc,.int .i64 4,.slice ia iN ic,.int .i64 1,.slice fa fn fc];obtain⟨HS,FQ,vY,FR⟩:=aL (jF.o _ G8) OH KM G8;clear OH KM G8;first|refine Mid.mk ⟨HS.o,?_⟩|refine⟨HS.o,?_⟩
     refine jJ 7 0 aF aF ?_;simp only[jI,aW,aX,aU,aV];go_wp2_with (refine wpList_store_row rfl 125 (.tmp 6) (.tmp 12) rfl g6 #[.int .i64 0,.slice xL xM xO,.int .i64 2,.slice xP xQ pc2,.int .i64 3,.slice xR xS xU,.int .i64 4,.slice xV xW xX,.int .i64 1,.slice fa2 xY xZ] rfl rfl 125 _ vY.o aF rfl aF ?_)
     have M8:=vY.o.row #[.int .i64 0,.slice xL xM xO,.int .i64 2,.slice xP xQ pc2,.int .i64 3,.slice xR xS xU,.int .i64 4,.slice xV xW xX,.int .i64 1,.slice fa2 xY xZ];have OI:jW ((x14.setRow g5 #[.int .i64 0,.slice za zn zc,.int .i64 2,.slice pa pn pc,.int .i64 3,.slice ga gn gc,.int .i64 4,.slice ia iN ic,.int .i64 1,.slice fa fn fc]).setRow g6 #[.int .i64 0,.slice xL xM xO,.int .i64 2,.slice xP xQ pc2,.int .i64 3,.slice xR xS xU,.int .i64 4,.slice xV xW xX,.int .i64 1,.slice fa2 xY xZ]) g5 125 #[.int .i64 0,.slice za zn zc,.int .i64 2,.slice pa pn pc,.int .i64 3,.slice ga gn gc,.int .i64 4,.slice ia iN ic,.int .i64 1,.slice fa fn fc]:=(setRow_other (x14.setRow g5 #[.int .i64 0,.slice za zn zc,.int .i64 2,.slice pa pn pc,.int .i64 3,.slice ga gn gc,.int .i64 4,.slice ia iN ic,.int .i64 1,.slice fa fn fc]) g6 g5 _ (by have:=nW.o;have:=qQ.o;omega)).trans FQ.o;have G9:=kH FR.o (show W.heap.size≤g6 by have:=qQ.o;omega) #[.int .i64 0,.slice xL xM xO,.int .i64 2,.slice xP xQ pc2,.int .i64 3,.slice xR xS xU,.int .i64 4,.slice xV xW xX,.int .i64 1,.slice fa2 xY xZ];obtain⟨HS,CV,FT,FU⟩:=aL (jF.o _ G9) M8 OI G9;clear M8 OI G9;first|(refine Mid.mk ⟨HS.o,?_⟩;refine jV aF ?_)|(refine⟨HS.o,?_⟩;refine jV aF ?_)|refine⟨HS.o,by kernel_rfl,?_⟩
     clear q0 q1 q2 q3 q4 q5 q6 q7 r0 r1 r2 r3 r4 r5 r6 r7;go_wp2_with fail
     go_meet
     case rel=>exact⟨g5,g6,rfl,rfl,FT,CV,FU⟩
    case refine_2=>
     go_wp2_with fail
     have aEE:=aD x12 (.cells #[.int .i64 0,.slice none 0 0,.int .i64 0,.slice none 0 0,.int .i64 0,.slice none 0 0,.int .i64 0,.slice none 0 0,.int .i64 0,.slice none 0 0] 125);have b2P:=jW.new x12 125 #[.int .i64 0,.slice none 0 0,.int .i64 0,.slice none 0 0,.int .i64 0,.slice none 0 0,.int .i64 0,.slice none 0 0,.int .i64 0,.slice none 0 0];have b0G:=a8L.o.tm aEE;have aL8:=b2P;have aUO:=aIM.o.late aEE;have nW:=a8L.o.size;have bJG:g6<x12.heap.size:=aIM.o.lt;replace nW:=aA (gB nW bJG)
     clear b2P;obtain⟨x15,bJH⟩:∃W,x12.alloc (.cells #[.int .i64 0,.slice none 0 0,.int .i64 0,.slice none 0 0,.int .i64 0,.slice none 0 0,.int .i64 0,.slice none 0 0,.int .i64 0,.slice none 0 0] 125)=W:=⟨_,rfl⟩;rw[bJH]at b0G aEE aL8 aUO ⊢;obtain⟨g5,aUP⟩:∃g,x12.heap.size=g:=⟨_,rfl⟩;try rw[aUP]at aL8 nW
     try rw[aUP]
     clear aUP bJH;obtain⟨HS,b2Q,bQI,b9F,b9G⟩:=aM (jF.o _ b0G) b0G aEE aL8 aUO;clear b0G aEE aL8 aUO;first|refine Mid.mk ⟨HS.o,?_⟩|refine Mid.mk ?_
     refine jJ 3 2 aF aF ?_;simp only[jI,aW,aX,aU,aV];go_wp2_with fail
     refine(Y0.o _).mono ?_;rintro e x16 ⟨rfl,aEF⟩;have bCE:=b2Q.o.tm aEF;have b2R:=b9F.o.late aEF;have b2S:=b9G.o.late aEF;obtain⟨HS,bJI,bQJ,aUQ,b9H⟩:=aM (jF.o _ bCE) bCE aEF b2R b2S;clear bCE aEF b2R b2S;go_wp2_with fail
     first|refine Mid.mk ⟨HS.o,?_⟩|refine Mid.mk ?_
     refine jJ 6 1 aF aF ?_;simp only[jI,aW,aX,aU,aV];go_wp2_with (refine wpList_store_row rfl 125 (.tmp 5) (.tmp 10) rfl g5 #[.int .i64 0,.slice za zn zc,.int .i64 2,.slice pa pn pc,.int .i64 3,.slice ga gn gc,.int .i64 4,.slice ia iN ic,.int .i64 1,.slice fa fn fc] rfl rfl 125 _ aUQ.o aF rfl aF ?_)
     have OH:=aUQ.o.row #[.int .i64 0,.slice za zn zc,.int .i64 2,.slice pa pn pc,.int .i64 3,.slice ga gn gc,.int .i64 4,.slice ia iN ic,.int .i64 1,.slice fa fn fc];have KM:jW (x16.setRow g5 #[.int .i64 0,.slice za zn zc,.int .i64 2,.slice pa pn pc,.int .i64 3,.slice ga gn gc,.int .i64 4,.slice ia iN ic,.int .i64 1,.slice fa fn fc]) g6 125 #[.int .i64 0,.slice none 0 0,.int .i64 0,.slice none 0 0,.int .i64 0,.slice none 0 0,.int .i64 0,.slice none 0 0,.int .i64 0,.slice none 0 0]:=(setRow_other x16 g5 g6 _ (by have:=nW.o;have:=qQ.o;omega)).trans b9H.o;have G8:=kH bJI.o (show W.heap.size≤g5 by have:=nW.o;omega) #[.int .i64 0,.slice za zn zc,.int .i64 2,.slice pa pn pc,.int .i64 3,.slice ga gn gc,.int .i64 4,.slice ia iN ic,.int .i64 1,.slice fa fn fc];obtain⟨HS,FQ,vY,FR⟩:=aL (jF.o _ G8) OH KM G8;clear OH KM G8;first|refine Mid.mk ⟨HS.o,?_⟩|refine⟨HS.o,?_⟩
     refine jJ 7 0 aF aF ?_;simp only[jI,aW,aX,aU,aV];go_wp2_with (refine wpList_store_row rfl 125 (.tmp 6) (.tmp 12) rfl g6 #[.int .i64 0,.slice xL xM xO,.int .i64 2,.slice xP xQ pc2,.int .i64 3,.slice xR xS xU,.int .i64 4,.slice xV xW xX,.int .i64 1,.slice fa2 xY xZ] rfl rfl 125 _ vY.o aF rfl aF ?_)
     have M8:=vY.o.row #[.int .i64 0,.slice xL xM xO,.int .i64 2,.slice xP xQ pc2,.int .i64 3,.slice xR xS xU,.int .i64 4,.slice xV xW xX,.int .i64 1,.slice fa2 xY xZ];have OI:jW ((x16.setRow g5 #[.int .i64 0,.slice za zn zc,.int .i64 2,.slice pa pn pc,.int .i64 3,.slice ga gn gc,.int .i64 4,.slice ia iN ic,.int .i64 1,.slice fa fn fc]).setRow g6 #[.int .i64 0,.slice xL xM xO,.int .i64 2,.slice xP xQ pc2,.int .i64 3,.slice xR xS xU,.int .i64 4,.slice xV xW xX,.int .i64 1,.slice fa2 xY xZ]) g5 125 #[.int .i64 0,.slice za zn zc,.int .i64 2,.slice pa pn pc,.int .i64 3,.slice ga gn gc,.int .i64 4,.slice ia iN ic,.int .i64 1,.slice fa fn fc]:=(setRow_other (x16.setRow g5 #[.int .i64 0,.slice za zn zc,.int .i64 2,.slice pa pn pc,.int .i64 3,.slice ga gn gc,.int .i64 4,.slice ia iN ic,.int .i64 1,.slice fa fn fc]) g6 g5 _ (by have:=nW.o;have:=qQ.o;omega)).trans FQ.o;have G9:=kH FR.o (show W.heap.size≤g6 by have:=qQ.o;omega) #[.int .i64 0,.slice xL xM xO,.int .i64 2,.slice xP xQ pc2,.int .i64 3,.slice xR xS xU,.int .i64 4,.slice xV xW xX,.int .i64 1,.slice fa2 xY xZ];obtain⟨HS,CV,FT,FU⟩:=aL (jF.o _ G9) M8 OI G9;clear M8 OI G9;first|(refine Mid.mk ⟨HS.o,?_⟩;refine jV aF ?_)|(refine⟨HS.o,?_⟩;refine jV aF ?_)|refine⟨HS.o,by kernel_rfl,?_⟩
     clear q0 q1 q2 q3 q4 q5 q6 q7 r0 r1 r2 r3 r4 r5 r6 r7;go_wp2_with fail
     go_meet
     case rel=>exact⟨g5,g6,rfl,rfl,FT,CV,FU⟩
  case refine_2=>
   go_wp2_with fail
   have aL9:=aD wD (.cells #[.int .i64 0,.slice none 0 0,.int .i64 0,.slice none 0 0,.int .i64 0,.slice none 0 0,.int .i64 0,.slice none 0 0,.int .i64 0,.slice none 0 0] 125);have b2T:=jW.new wD 125 #[.int .i64 0,.slice none 0 0,.int .i64 0,.slice none 0 0,.int .i64 0,.slice none 0 0,.int .i64 0,.slice none 0 0,.int .i64 0,.slice none 0 0];have b0H:=HD.o.tm aL9;have aLA:=b2T;have nW:=HD.o.size;replace nW:=aA (gB nW trivial)
   clear b2T;obtain⟨x17,bJJ⟩:∃W,wD.alloc (.cells #[.int .i64 0,.slice none 0 0,.int .i64 0,.slice none 0 0,.int .i64 0,.slice none 0 0,.int .i64 0,.slice none 0 0,.int .i64 0,.slice none 0 0] 125)=W:=⟨_,rfl⟩;rw[bJJ]at b0H aL9 aLA ⊢;obtain⟨g5,aUR⟩:∃g,wD.heap.size=g:=⟨_,rfl⟩;try rw[aUR]at aLA nW
   try rw[aUR]
   clear aUR bJJ;obtain⟨HS,aEG,bQK,aIN⟩:=aL (jF.o _ b0H) b0H aL9 aLA;clear b0H aL9 aLA;first|refine Mid.mk ⟨HS.o,?_⟩|refine Mid.mk ?_
   refine yM 1 5 4 aF aF ?_ ?_;all_goals simp only[jI,aW,aX,aU,aV]
   case refine_1=>
    go_wp2_with fail
    refine(SA.o _).mono ?_;rintro e x18 ⟨rfl,aLB⟩;have b9I:=aEG.o.tm aLB;have b2U:=aIN.o.late aLB;obtain⟨HS,aEH,bQL,aIO⟩:=aL (jF.o _ b9I) b9I aLB b2U;clear b9I aLB b2U;go_wp2_with fail
    first|refine Mid.mk ⟨HS.o,?_⟩|refine Mid.mk ?_
    refine yM 3 5 3 aF aF ?_ ?_;all_goals simp only[jI,aW,aX,aU,aV]
    case refine_1=>
     go_wp2_with fail
     refine(Y0.o _).mono ?_;rintro e x19 ⟨rfl,aLC⟩;have b9J:=aEH.o.tm aLC;have b2V:=aIO.o.late aLC;obtain⟨HS,aUS,bQM,aUT⟩:=aL (jF.o _ b9J) b9J aLC b2V;clear b9J aLC b2V;go_wp2_with fail
     first|refine Mid.mk ⟨HS.o,?_⟩|refine Mid.mk ?_
     refine jJ 5 2 aF aF ?_;simp only[jI,aW,aX,aU,aV];go_wp2_with fail
     have aEI:=aD x19 (.cells #[.int .i64 0,.slice none 0 0,.int .i64 0,.slice none 0 0,.int .i64 0,.slice none 0 0,.int .i64 0,.slice none 0 0,.int .i64 0,.slice none 0 0] 125);have b2W:=jW.new x19 125 #[.int .i64 0,.slice none 0 0,.int .i64 0,.slice none 0 0,.int .i64 0,.slice none 0 0,.int .i64 0,.slice none 0 0,.int .i64 0,.slice none 0 0];have b0I:=aUS.o.tm aEI;have aLD:=b2W;have aUU:=aUT.o.late aEI;have qQ:=aUS.o.size;have bJK:g5<x19.heap.size:=aUT.o.lt;replace qQ:=aA (gB qQ bJK)
     clear b2W;obtain⟨x20,bJL⟩:∃W,x19.alloc (.cells #[.int .i64 0,.slice none 0 0,.int .i64 0,.slice none 0 0,.int .i64 0,.slice none 0 0,.int .i64 0,.slice none 0 0,.int .i64 0,.slice none 0 0] 125)=W:=⟨_,rfl⟩;rw[bJL]at b0I aEI aLD aUU ⊢;obtain⟨g6,aUV⟩:∃g,x19.heap.size=g:=⟨_,rfl⟩;try rw[aUV]at aLD qQ
     try rw[aUV]
     clear aUV bJL;obtain⟨HS,bJM,bQN,b9K,aUW⟩:=aM (jF.o _ b0I) b0I aEI aLD aUU;clear b0I aEI aLD aUU;first|refine Mid.mk ⟨HS.o,?_⟩|refine Mid.mk ?_
     refine jJ 6 1 aF aF ?_;simp only[jI,aW,aX,aU,aV];go_wp2_with (refine wpList_store_row rfl 125 (.tmp 5) (.tmp 10) rfl g5 #[.int .i64 0,.slice za zn zc,.int .i64 2,.slice pa pn pc,.int .i64 3,.slice ga gn gc,.int .i64 4,.slice ia iN ic,.int .i64 1,.slice fa fn fc] rfl rfl 125 _ aUW.o aF rfl aF ?_)
     have OH:=aUW.o.row #[.int .i64 0,.slice za zn zc,.int .i64 2,.slice pa pn pc,.int .i64 3,.slice ga gn gc,.int .i64 4,.slice ia iN ic,.int .i64 1,.slice fa fn fc];have KM:jW (x20.setRow g5 #[.int .i64 0,.slice za zn zc,.int .i64 2,.slice pa pn pc,.int .i64 3,.slice ga gn gc,.int .i64 4,.slice ia iN ic,.int .i64 1,.slice fa fn fc]) g6 125 #[.int .i64 0,.slice none 0 0,.int .i64 0,.slice none 0 0,.int .i64 0,.slice none 0 0,.int .i64 0,.slice none 0 0,.int .i64 0,.slice none 0 0]:=(setRow_other x20 g5 g6 _ (by have:=nW.o;have:=qQ.o;omega)).trans b9K.o;have G8:=kH bJM.o (show W.heap.size≤g5 by have:=nW.o;omega) #[.int .i64 0,.slice za zn zc,.int .i64 2,.slice pa pn pc,.int .i64 3,.slice ga gn gc,.int .i64 4,.slice ia iN ic,.int .i64 1,.slice fa fn fc];obtain⟨HS,FQ,vY,FR⟩:=aL (jF.o _ G8) OH KM G8;clear OH KM G8;first|refine Mid.mk ⟨HS.o,?_⟩|refine⟨HS.o,?_⟩
     refine jJ 7 0 aF aF ?_;simp only[jI,aW,aX,aU,aV];go_wp2_with (refine wpList_store_row rfl 125 (.tmp 6) (.tmp 12) rfl g6 #[.int .i64 0,.slice xL xM xO,.int .i64 2,.slice xP xQ pc2,.int .i64 3,.slice xR xS xU,.int .i64 4,.slice xV xW xX,.int .i64 1,.slice fa2 xY xZ] rfl rfl 125 _ vY.o aF rfl aF ?_)
     have M8:=vY.o.row #[.int .i64 0,.slice xL xM xO,.int .i64 2,.slice xP xQ pc2,.int .i64 3,.slice xR xS xU,.int .i64 4,.slice xV xW xX,.int .i64 1,.slice fa2 xY xZ];have OI:jW ((x20.setRow g5 #[.int .i64 0,.slice za zn zc,.int .i64 2,.slice pa pn pc,.int .i64 3,.slice ga gn gc,.int .i64 4,.slice ia iN ic,.int .i64 1,.slice fa fn fc]).setRow g6 #[.int .i64 0,.slice xL xM xO,.int .i64 2,.slice xP xQ pc2,.int .i64 3,.slice xR xS xU,.int .i64 4,.slice xV xW xX,.int .i64 1,.slice fa2 xY xZ]) g5 125 #[.int .i64 0,.slice za zn zc,.int .i64 2,.slice pa pn pc,.int .i64 3,.slice ga gn gc,.int .i64 4,.slice ia iN ic,.int .i64 1,.slice fa fn fc]:=(setRow_other (x20.setRow g5 #[.int .i64 0,.slice za zn zc,.int .i64 2,.slice pa pn pc,.int .i64 3,.slice ga gn gc,.int .i64 4,.slice ia iN ic,.int .i64 1,.slice fa fn fc]) g6 g5 _ (by have:=nW.o;have:=qQ.o;omega)).trans FQ.o;have G9:=kH FR.o (show W.heap.size≤g6 by have:=qQ.o;omega) #[.int .i64 0,.slice xL xM xO,.int .i64 2,.slice xP xQ pc2,.int .i64 3,.slice xR xS xU,.int .i64 4,.slice xV xW xX,.int .i64 1,.slice fa2 xY xZ];obtain⟨HS,CV,FT,FU⟩:=aL (jF.o _ G9) M8 OI G9;clear M8 OI G9;first|(refine Mid.mk ⟨HS.o,?_⟩;refine jV aF ?_)|(refine⟨HS.o,?_⟩;refine jV aF ?_)|refine⟨HS.o,by kernel_rfl,?_⟩
     clear q0 q1 q2 q3 q4 q5 q6 q7 r0 r1 r2 r3 r4 r5 r6 r7;go_wp2_with fail
     go_meet
     case rel=>exact⟨g5,g6,rfl,rfl,FT,CV,FU⟩
    case refine_2=>
     go_wp2_with fail
     have aEJ:=aD x18 (.cells #[.int .i64 0,.slice none 0 0,.int .i64 0,.slice none 0 0,.int .i64 0,.slice none 0 0,.int .i64 0,.slice none 0 0,.int .i64 0,.slice none 0 0] 125);have b2X:=jW.new x18 125 #[.int .i64 0,.slice none 0 0,.int .i64 0,.slice none 0 0,.int .i64 0,.slice none 0 0,.int .i64 0,.slice none 0 0,.int .i64 0,.slice none 0 0];have b0J:=aEH.o.tm aEJ;have aLE:=b2X;have aUX:=aIO.o.late aEJ;have qQ:=aEH.o.size;have bJN:g5<x18.heap.size:=aIO.o.lt;replace qQ:=aA (gB qQ bJN)
     clear b2X;obtain⟨x21,bJO⟩:∃W,x18.alloc (.cells #[.int .i64 0,.slice none 0 0,.int .i64 0,.slice none 0 0,.int .i64 0,.slice none 0 0,.int .i64 0,.slice none 0 0,.int .i64 0,.slice none 0 0] 125)=W:=⟨_,rfl⟩;rw[bJO]at b0J aEJ aLE aUX ⊢;obtain⟨g6,aUY⟩:∃g,x18.heap.size=g:=⟨_,rfl⟩;try rw[aUY]at aLE qQ
     try rw[aUY]
     clear aUY bJO;obtain⟨HS,b2Y,bQO,b9L,b9M⟩:=aM (jF.o _ b0J) b0J aEJ aLE aUX;clear b0J aEJ aLE aUX;first|refine Mid.mk ⟨HS.o,?_⟩|refine Mid.mk ?_
     refine jJ 3 2 aF aF ?_;simp only[jI,aW,aX,aU,aV];go_wp2_with fail
     refine(Y0.o _).mono ?_;rintro e x22 ⟨rfl,aEK⟩;have b9N:=b2Y.o.tm aEK;have b2Z:=b9M.o.late aEK;have b30:=b9L.o.late aEK;obtain⟨HS,bJP,bQP,aUZ,b9O⟩:=aM (jF.o _ b9N) b9N aEK b2Z b30;clear b9N aEK b2Z b30;go_wp2_with fail
     first|refine Mid.mk ⟨HS.o,?_⟩|refine Mid.mk ?_
     refine jJ 6 1 aF aF ?_;simp only[jI,aW,aX,aU,aV];go_wp2_with (refine wpList_store_row rfl 125 (.tmp 5) (.tmp 10) rfl g5 #[.int .i64 0,.slice za zn zc,.int .i64 2,.slice pa pn pc,.int .i64 3,.slice ga gn gc,.int .i64 4,.slice ia iN ic,.int .i64 1,.slice fa fn fc] rfl rfl 125 _ aUZ.o aF rfl aF ?_)
     have OH:=aUZ.o.row #[.int .i64 0,.slice za zn zc,.int .i64 2,.slice pa pn pc,.int .i64 3,.slice ga gn gc,.int .i64 4,.slice ia iN ic,.int .i64 1,.slice fa fn fc];have KM:jW (x22.setRow g5 #[.int .i64 0,.slice za zn zc,.int .i64 2,.slice pa pn pc,.int .i64 3,.slice ga gn gc,.int .i64 4,.slice ia iN ic,.int .i64 1,.slice fa fn fc]) g6 125 #[.int .i64 0,.slice none 0 0,.int .i64 0,.slice none 0 0,.int .i64 0,.slice none 0 0,.int .i64 0,.slice none 0 0,.int .i64 0,.slice none 0 0]:=(setRow_other x22 g5 g6 _ (by have:=nW.o;have:=qQ.o;omega)).trans b9O.o;have G8:=kH bJP.o (show W.heap.size≤g5 by have:=nW.o;omega) #[.int .i64 0,.slice za zn zc,.int .i64 2,.slice pa pn pc,.int .i64 3,.slice ga gn gc,.int .i64 4,.slice ia iN ic,.int .i64 1,.slice fa fn fc];obtain⟨HS,FQ,vY,FR⟩:=aL (jF.o _ G8) OH KM G8;clear OH KM G8;first|refine Mid.mk ⟨HS.o,?_⟩|refine⟨HS.o,?_⟩
     refine jJ 7 0 aF aF ?_;simp only[jI,aW,aX,aU,aV];go_wp2_with (refine wpList_store_row rfl 125 (.tmp 6) (.tmp 12) rfl g6 #[.int .i64 0,.slice xL xM xO,.int .i64 2,.slice xP xQ pc2,.int .i64 3,.slice xR xS xU,.int .i64 4,.slice xV xW xX,.int .i64 1,.slice fa2 xY xZ] rfl rfl 125 _ vY.o aF rfl aF ?_)
     have M8:=vY.o.row #[.int .i64 0,.slice xL xM xO,.int .i64 2,.slice xP xQ pc2,.int .i64 3,.slice xR xS xU,.int .i64 4,.slice xV xW xX,.int .i64 1,.slice fa2 xY xZ];have OI:jW ((x22.setRow g5 #[.int .i64 0,.slice za zn zc,.int .i64 2,.slice pa pn pc,.int .i64 3,.slice ga gn gc,.int .i64 4,.slice ia iN ic,.int .i64 1,.slice fa fn fc]).setRow g6 #[.int .i64 0,.slice xL xM xO,.int .i64 2,.slice xP xQ pc2,.int .i64 3,.slice xR xS xU,.int .i64 4,.slice xV xW xX,.int .i64 1,.slice fa2 xY xZ]) g5 125 #[.int .i64 0,.slice za zn zc,.int .i64 2,.slice pa pn pc,.int .i64 3,.slice ga gn gc,.int .i64 4,.slice ia iN ic,.int .i64 1,.slice fa fn fc]:=(setRow_other (x22.setRow g5 #[.int .i64 0,.slice za zn zc,.int .i64 2,.slice pa pn pc,.int .i64 3,.slice ga gn gc,.int .i64 4,.slice ia iN ic,.int .i64 1,.slice fa fn fc]) g6 g5 _ (by have:=nW.o;have:=qQ.o;omega)).trans FQ.o;have G9:=kH FR.o (show W.heap.size≤g6 by have:=qQ.o;omega) #[.int .i64 0,.slice xL xM xO,.int .i64 2,.slice xP xQ pc2,.int .i64 3,.slice xR xS xU,.int .i64 4,.slice xV xW xX,.int .i64 1,.slice fa2 xY xZ];obtain⟨HS,CV,FT,FU⟩:=aL (jF.o _ G9) M8 OI G9;clear M8 OI G9;first|(refine Mid.mk ⟨HS.o,?_⟩;refine jV aF ?_)|(refine⟨HS.o,?_⟩;refine jV aF ?_)|refine⟨HS.o,by kernel_rfl,?_⟩
     clear q0 q1 q2 q3 q4 q5 q6 q7 r0 r1 r2 r3 r4 r5 r6 r7;go_wp2_with fail
     go_meet
     case rel=>exact⟨g5,g6,rfl,rfl,FT,CV,FU⟩
   case refine_2=>
    go_wp2_with fail
    have aEL:=aD x17 (.cells #[.int .i64 0,.slice none 0 0,.int .i64 0,.slice none 0 0,.int .i64 0,.slice none 0 0,.int .i64 0,.slice none 0 0,.int .i64 0,.slice none 0 0] 125);have b31:=jW.new x17 125 #[.int .i64 0,.slice none 0 0,.int .i64 0,.slice none 0 0,.int .i64 0,.slice none 0 0,.int .i64 0,.slice none 0 0,.int .i64 0,.slice none 0 0];have b0K:=aEG.o.tm aEL;have aLF:=b31;have aV0:=aIN.o.late aEL;have qQ:=aEG.o.size;have bJQ:g5<x17.heap.size:=aIN.o.lt;replace qQ:=aA (gB qQ bJQ)
    clear b31;obtain⟨x23,bJR⟩:∃W,x17.alloc (.cells #[.int .i64 0,.slice none 0 0,.int .i64 0,.slice none 0 0,.int .i64 0,.slice none 0 0,.int .i64 0,.slice none 0 0,.int .i64 0,.slice none 0 0] 125)=W:=⟨_,rfl⟩;rw[bJR]at b0K aEL aLF aV0 ⊢;obtain⟨g6,aV1⟩:∃g,x17.heap.size=g:=⟨_,rfl⟩;try rw[aV1]at aLF qQ
    try rw[aV1]
    clear aV1 bJR;obtain⟨HS,b33,bQQ,b9P,b9Q⟩:=aM (jF.o _ b0K) b0K aEL aLF aV0;clear b0K aEL aLF aV0;first|refine Mid.mk ⟨HS.o,?_⟩|refine Mid.mk ?_
    refine jJ 1 3 aF aF ?_;simp only[jI,aW,aX,aU,aV];go_wp2_with fail
    refine(SA.o _).mono ?_;rintro e x24 ⟨rfl,aEM⟩;have bCF:=b33.o.tm aEM;have b34:=b9Q.o.late aEM;have b35:=b9P.o.late aEM;obtain⟨HS,b36,bQR,b9R,b9S⟩:=aM (jF.o _ bCF) bCF aEM b34 b35;clear bCF aEM b34 b35;go_wp2_with fail
    first|refine Mid.mk ⟨HS.o,?_⟩|refine Mid.mk ?_
    refine jJ 3 2 aF aF ?_;simp only[jI,aW,aX,aU,aV];go_wp2_with fail
    refine(Y0.o _).mono ?_;rintro e x25 ⟨rfl,aEN⟩;have bCG:=b36.o.tm aEN;have b37:=b9R.o.late aEN;have b38:=b9S.o.late aEN;obtain⟨HS,bJS,bQS,aV2,b9T⟩:=aM (jF.o _ bCG) bCG aEN b37 b38;clear bCG aEN b37 b38;go_wp2_with fail
    first|refine Mid.mk ⟨HS.o,?_⟩|refine Mid.mk ?_
    refine jJ 6 1 aF aF ?_;simp only[jI,aW,aX,aU,aV];go_wp2_with (refine wpList_store_row rfl 125 (.tmp 5) (.tmp 10) rfl g5 #[.int .i64 0,.slice za zn zc,.int .i64 2,.slice pa pn pc,.int .i64 3,.slice ga gn gc,.int .i64 4,.slice ia iN ic,.int .i64 1,.slice fa fn fc] rfl rfl 125 _ aV2.o aF rfl aF ?_)
    have OH:=aV2.o.row #[.int .i64 0,.slice za zn zc,.int .i64 2,.slice pa pn pc,.int .i64 3,.slice ga gn gc,.int .i64 4,.slice ia iN ic,.int .i64 1,.slice fa fn fc];have KM:jW (x25.setRow g5 #[.int .i64 0,.slice za zn zc,.int .i64 2,.slice pa pn pc,.int .i64 3,.slice ga gn gc,.int .i64 4,.slice ia iN ic,.int .i64 1,.slice fa fn fc]) g6 125 #[.int .i64 0,.slice none 0 0,.int .i64 0,.slice none 0 0,.int .i64 0,.slice none 0 0,.int .i64 0,.slice none 0 0,.int .i64 0,.slice none 0 0]:=(setRow_other x25 g5 g6 _ (by have:=nW.o;have:=qQ.o;omega)).trans b9T.o;have G8:=kH bJS.o (show W.heap.size≤g5 by have:=nW.o;omega) #[.int .i64 0,.slice za zn zc,.int .i64 2,.slice pa pn pc,.int .i64 3,.slice ga gn gc,.int .i64 4,.slice ia iN ic,.int .i64 1,.slice fa fn fc];obtain⟨HS,FQ,vY,FR⟩:=aL (jF.o _ G8) OH KM G8;clear OH KM G8;first|refine Mid.mk ⟨HS.o,?_⟩|refine⟨HS.o,?_⟩
    refine jJ 7 0 aF aF ?_;simp only[jI,aW,aX,aU,aV];go_wp2_with (refine wpList_store_row rfl 125 (.tmp 6) (.tmp 12) rfl g6 #[.int .i64 0,.slice xL xM xO,.int .i64 2,.slice xP xQ pc2,.int .i64 3,.slice xR xS xU,.int .i64 4,.slice xV xW xX,.int .i64 1,.slice fa2 xY xZ] rfl rfl 125 _ vY.o aF rfl aF ?_)
    have M8:=vY.o.row #[.int .i64 0,.slice xL xM xO,.int .i64 2,.slice xP xQ pc2,.int .i64 3,.slice xR xS xU,.int .i64 4,.slice xV xW xX,.int .i64 1,.slice fa2 xY xZ];have OI:jW ((x25.setRow g5 #[.int .i64 0,.slice za zn zc,.int .i64 2,.slice pa pn pc,.int .i64 3,.slice ga gn gc,.int .i64 4,.slice ia iN ic,.int .i64 1,.slice fa fn fc]).setRow g6 #[.int .i64 0,.slice xL xM xO,.int .i64 2,.slice xP xQ pc2,.int .i64 3,.slice xR xS xU,.int .i64 4,.slice xV xW xX,.int .i64 1,.slice fa2 xY xZ]) g5 125 #[.int .i64 0,.slice za zn zc,.int .i64 2,.slice pa pn pc,.int .i64 3,.slice ga gn gc,.int .i64 4,.slice ia iN ic,.int .i64 1,.slice fa fn fc]:=(setRow_other (x25.setRow g5 #[.int .i64 0,.slice za zn zc,.int .i64 2,.slice pa pn pc,.int .i64 3,.slice ga gn gc,.int .i64 4,.slice ia iN ic,.int .i64 1,.slice fa fn fc]) g6 g5 _ (by have:=nW.o;have:=qQ.o;omega)).trans FQ.o;have G9:=kH FR.o (show W.heap.size≤g6 by have:=qQ.o;omega) #[.int .i64 0,.slice xL xM xO,.int .i64 2,.slice xP xQ pc2,.int .i64 3,.slice xR xS xU,.int .i64 4,.slice xV xW xX,.int .i64 1,.slice fa2 xY xZ];obtain⟨HS,CV,FT,FU⟩:=aL (jF.o _ G9) M8 OI G9;clear M8 OI G9;first|(refine Mid.mk ⟨HS.o,?_⟩;refine jV aF ?_)|(refine⟨HS.o,?_⟩;refine jV aF ?_)|refine⟨HS.o,by kernel_rfl,?_⟩
    clear q0 q1 q2 q3 q4 q5 q6 q7 r0 r1 r2 r3 r4 r5 r6 r7;go_wp2_with fail
    go_meet
    case rel=>exact⟨g5,g6,rfl,rfl,FT,CV,FU⟩
  case refine_3=>
   go_wp2_with fail
   have aLG:=aD wD (.cells #[.int .i64 0,.slice none 0 0,.int .i64 0,.slice none 0 0,.int .i64 0,.slice none 0 0,.int .i64 0,.slice none 0 0,.int .i64 0,.slice none 0 0] 125);have b39:=jW.new wD 125 #[.int .i64 0,.slice none 0 0,.int .i64 0,.slice none 0 0,.int .i64 0,.slice none 0 0,.int .i64 0,.slice none 0 0,.int .i64 0,.slice none 0 0];have b0L:=HD.o.tm aLG;have aLH:=b39;have qQ:=HD.o.size;replace qQ:=aA (gB qQ trivial)
   clear b39;obtain⟨x26,bJT⟩:∃W,wD.alloc (.cells #[.int .i64 0,.slice none 0 0,.int .i64 0,.slice none 0 0,.int .i64 0,.slice none 0 0,.int .i64 0,.slice none 0 0,.int .i64 0,.slice none 0 0] 125)=W:=⟨_,rfl⟩;rw[bJT]at b0L aLG aLH ⊢;obtain⟨g6,aV3⟩:∃g,wD.heap.size=g:=⟨_,rfl⟩;try rw[aV3]at aLH qQ
   try rw[aV3]
   clear aV3 bJT;obtain⟨HS,aEO,bQT,aIP⟩:=aL (jF.o _ b0L) b0L aLG aLH;clear b0L aLG aLH;first|refine Mid.mk ⟨HS.o,?_⟩|refine Mid.mk ?_
   refine yM 1 4 4 aF aF ?_ ?_;all_goals simp only[jI,aW,aX,aU,aV]
   case refine_1=>
    go_wp2_with fail
    refine(SA.o _).mono ?_;rintro e x27 ⟨rfl,aLI⟩;have bCH:=aEO.o.tm aLI;have b3A:=aIP.o.late aLI;obtain⟨HS,aEP,bQU,aIQ⟩:=aL (jF.o _ bCH) bCH aLI b3A;clear bCH aLI b3A;go_wp2_with fail
    first|refine Mid.mk ⟨HS.o,?_⟩|refine Mid.mk ?_
    refine yM 3 4 3 aF aF ?_ ?_;all_goals simp only[jI,aW,aX,aU,aV]
    case refine_1=>
     go_wp2_with fail
     refine(Y0.o _).mono ?_;rintro e x28 ⟨rfl,aLJ⟩;have bCI:=aEP.o.tm aLJ;have b3B:=aIQ.o.late aLJ;obtain⟨HS,aV4,bQV,aV5⟩:=aL (jF.o _ bCI) bCI aLJ b3B;clear bCI aLJ b3B;go_wp2_with fail
     first|refine Mid.mk ⟨HS.o,?_⟩|refine Mid.mk ?_
     refine jJ 4 2 aF aF ?_;simp only[jI,aW,aX,aU,aV];go_wp2_with fail
     have aEQ:=aD x28 (.cells #[.int .i64 0,.slice none 0 0,.int .i64 0,.slice none 0 0,.int .i64 0,.slice none 0 0,.int .i64 0,.slice none 0 0,.int .i64 0,.slice none 0 0] 125);have b3C:=jW.new x28 125 #[.int .i64 0,.slice none 0 0,.int .i64 0,.slice none 0 0,.int .i64 0,.slice none 0 0,.int .i64 0,.slice none 0 0,.int .i64 0,.slice none 0 0];have b0Y:=aV4.o.tm aEQ;have aLK:=b3C;have aV6:=aV5.o.late aEQ;have nW:=aV4.o.size;have bJU:g6<x28.heap.size:=aV5.o.lt;replace nW:=aA (gB nW bJU)
     clear b3C;obtain⟨x29,bJV⟩:∃W,x28.alloc (.cells #[.int .i64 0,.slice none 0 0,.int .i64 0,.slice none 0 0,.int .i64 0,.slice none 0 0,.int .i64 0,.slice none 0 0,.int .i64 0,.slice none 0 0] 125)=W:=⟨_,rfl⟩;rw[bJV]at b0Y aEQ aLK aV6 ⊢;obtain⟨g5,aV7⟩:∃g,x28.heap.size=g:=⟨_,rfl⟩;try rw[aV7]at aLK nW
     try rw[aV7]
     clear aV7 bJV;obtain⟨HS,bJW,bQW,aV8,b9U⟩:=aM (jF.o _ b0Y) b0Y aEQ aLK aV6;clear b0Y aEQ aLK aV6;first|refine Mid.mk ⟨HS.o,?_⟩|refine Mid.mk ?_
     refine jJ 6 1 aF aF ?_;simp only[jI,aW,aX,aU,aV];go_wp2_with (refine wpList_store_row rfl 125 (.tmp 5) (.tmp 10) rfl g5 #[.int .i64 0,.slice za zn zc,.int .i64 2,.slice pa pn pc,.int .i64 3,.slice ga gn gc,.int .i64 4,.slice ia iN ic,.int .i64 1,.slice fa fn fc] rfl rfl 125 _ aV8.o aF rfl aF ?_)
     have OH:=aV8.o.row #[.int .i64 0,.slice za zn zc,.int .i64 2,.slice pa pn pc,.int .i64 3,.slice ga gn gc,.int .i64 4,.slice ia iN ic,.int .i64 1,.slice fa fn fc];have KM:jW (x29.setRow g5 #[.int .i64 0,.slice za zn zc,.int .i64 2,.slice pa pn pc,.int .i64 3,.slice ga gn gc,.int .i64 4,.slice ia iN ic,.int .i64 1,.slice fa fn fc]) g6 125 #[.int .i64 0,.slice none 0 0,.int .i64 0,.slice none 0 0,.int .i64 0,.slice none 0 0,.int .i64 0,.slice none 0 0,.int .i64 0,.slice none 0 0]:=(setRow_other x29 g5 g6 _ (by have:=nW.o;have:=qQ.o;omega)).trans b9U.o;have G8:=kH bJW.o (show W.heap.size≤g5 by have:=nW.o;omega) #[.int .i64 0,.slice za zn zc,.int .i64 2,.slice pa pn pc,.int .i64 3,.slice ga gn gc,.int .i64 4,.slice ia iN ic,.int .i64 1,.slice fa fn fc];obtain⟨HS,FQ,vY,FR⟩:=aL (jF.o _ G8) OH KM G8;clear OH KM G8;first|refine Mid.mk ⟨HS.o,?_⟩|refine⟨HS.o,?_⟩
     refine jJ 7 0 aF aF ?_;simp only[jI,aW,aX,aU,aV];go_wp2_with (refine wpList_store_row rfl 125 (.tmp 6) (.tmp 12) rfl g6 #[.int .i64 0,.slice xL xM xO,.int .i64 2,.slice xP xQ pc2,.int .i64 3,.slice xR xS xU,.int .i64 4,.slice xV xW xX,.int .i64 1,.slice fa2 xY xZ] rfl rfl 125 _ vY.o aF rfl aF ?_)
     have M8:=vY.o.row #[.int .i64 0,.slice xL xM xO,.int .i64 2,.slice xP xQ pc2,.int .i64 3,.slice xR xS xU,.int .i64 4,.slice xV xW xX,.int .i64 1,.slice fa2 xY xZ];have OI:jW ((x29.setRow g5 #[.int .i64 0,.slice za zn zc,.int .i64 2,.slice pa pn pc,.int .i64 3,.slice ga gn gc,.int .i64 4,.slice ia iN ic,.int .i64 1,.slice fa fn fc]).setRow g6 #[.int .i64 0,.slice xL xM xO,.int .i64 2,.slice xP xQ pc2,.int .i64 3,.slice xR xS xU,.int .i64 4,.slice xV xW xX,.int .i64 1,.slice fa2 xY xZ]) g5 125 #[.int .i64 0,.slice za zn zc,.int .i64 2,.slice pa pn pc,.int .i64 3,.slice ga gn gc,.int .i64 4,.slice ia iN ic,.int .i64 1,.slice fa fn fc]:=(setRow_other (x29.setRow g5 #[.int .i64 0,.slice za zn zc,.int .i64 2,.slice pa pn pc,.int .i64 3,.slice ga gn gc,.int .i64 4,.slice ia iN ic,.int .i64 1,.slice fa fn fc]) g6 g5 _ (by have:=nW.o;have:=qQ.o;omega)).trans FQ.o;have G9:=kH FR.o (show W.heap.size≤g6 by have:=qQ.o;omega) #[.int .i64 0,.slice xL xM xO,.int .i64 2,.slice xP xQ pc2,.int .i64 3,.slice xR xS xU,.int .i64 4,.slice xV xW xX,.int .i64 1,.slice fa2 xY xZ];obtain⟨HS,CV,FT,FU⟩:=aL (jF.o _ G9) M8 OI G9;clear M8 OI G9;first|(refine Mid.mk ⟨HS.o,?_⟩;refine jV aF ?_)|(refine⟨HS.o,?_⟩;refine jV aF ?_)|refine⟨HS.o,by kernel_rfl,?_⟩
     clear q0 q1 q2 q3 q4 q5 q6 q7 r0 r1 r2 r3 r4 r5 r6 r7;go_wp2_with fail
     go_meet
     case rel=>exact⟨g5,g6,rfl,rfl,FT,CV,FU⟩
    case refine_2=>
     go_wp2_with fail
     have aER:=aD x27 (.cells #[.int .i64 0,.slice none 0 0,.int .i64 0,.slice none 0 0,.int .i64 0,.slice none 0 0,.int .i64 0,.slice none 0 0,.int .i64 0,.slice none 0 0] 125);have b3D:=jW.new x27 125 #[.int .i64 0,.slice none 0 0,.int .i64 0,.slice none 0 0,.int .i64 0,.slice none 0 0,.int .i64 0,.slice none 0 0,.int .i64 0,.slice none 0 0];have b0M:=aEP.o.tm aER;have aLL:=b3D;have aV9:=aIQ.o.late aER;have nW:=aEP.o.size;have bJX:g6<x27.heap.size:=aIQ.o.lt;replace nW:=aA (gB nW bJX)
     clear b3D;obtain⟨x30,bJY⟩:∃W,x27.alloc (.cells #[.int .i64 0,.slice none 0 0,.int .i64 0,.slice none 0 0,.int .i64 0,.slice none 0 0,.int .i64 0,.slice none 0 0,.int .i64 0,.slice none 0 0] 125)=W:=⟨_,rfl⟩;rw[bJY]at b0M aER aLL aV9 ⊢;obtain⟨g5,aVA⟩:∃g,x27.heap.size=g:=⟨_,rfl⟩;try rw[aVA]at aLL nW
     try rw[aVA]
     clear aVA bJY;obtain⟨HS,b3E,bQX,b9V,b9W⟩:=aM (jF.o _ b0M) b0M aER aLL aV9;clear b0M aER aLL aV9;first|refine Mid.mk ⟨HS.o,?_⟩|refine Mid.mk ?_
     refine jJ 3 2 aF aF ?_;simp only[jI,aW,aX,aU,aV];go_wp2_with fail
     refine(Y0.o _).mono ?_;rintro e x31 ⟨rfl,aES⟩;have bCJ:=b3E.o.tm aES;have b3F:=b9V.o.late aES;have b3G:=b9W.o.late aES;obtain⟨HS,bJZ,bQY,aVB,b9X⟩:=aM (jF.o _ bCJ) bCJ aES b3F b3G;clear bCJ aES b3F b3G;go_wp2_with fail
     first|refine Mid.mk ⟨HS.o,?_⟩|refine Mid.mk ?_
     refine jJ 6 1 aF aF ?_;simp only[jI,aW,aX,aU,aV];go_wp2_with (refine wpList_store_row rfl 125 (.tmp 5) (.tmp 10) rfl g5 #[.int .i64 0,.slice za zn zc,.int .i64 2,.slice pa pn pc,.int .i64 3,.slice ga gn gc,.int .i64 4,.slice ia iN ic,.int .i64 1,.slice fa fn fc] rfl rfl 125 _ aVB.o aF rfl aF ?_)
     have OH:=aVB.o.row #[.int .i64 0,.slice za zn zc,.int .i64 2,.slice pa pn pc,.int .i64 3,.slice ga gn gc,.int .i64 4,.slice ia iN ic,.int .i64 1,.slice fa fn fc];have KM:jW (x31.setRow g5 #[.int .i64 0,.slice za zn zc,.int .i64 2,.slice pa pn pc,.int .i64 3,.slice ga gn gc,.int .i64 4,.slice ia iN ic,.int .i64 1,.slice fa fn fc]) g6 125 #[.int .i64 0,.slice none 0 0,.int .i64 0,.slice none 0 0,.int .i64 0,.slice none 0 0,.int .i64 0,.slice none 0 0,.int .i64 0,.slice none 0 0]:=(setRow_other x31 g5 g6 _ (by have:=nW.o;have:=qQ.o;omega)).trans b9X.o;have G8:=kH bJZ.o (show W.heap.size≤g5 by have:=nW.o;omega) #[.int .i64 0,.slice za zn zc,.int .i64 2,.slice pa pn pc,.int .i64 3,.slice ga gn gc,.int .i64 4,.slice ia iN ic,.int .i64 1,.slice fa fn fc];obtain⟨HS,FQ,vY,FR⟩:=aL (jF.o _ G8) OH KM G8;clear OH KM G8;first|refine Mid.mk ⟨HS.o,?_⟩|refine⟨HS.o,?_⟩
     refine jJ 7 0 aF aF ?_;simp only[jI,aW,aX,aU,aV];go_wp2_with (refine wpList_store_row rfl 125 (.tmp 6) (.tmp 12) rfl g6 #[.int .i64 0,.slice xL xM xO,.int .i64 2,.slice xP xQ pc2,.int .i64 3,.slice xR xS xU,.int .i64 4,.slice xV xW xX,.int .i64 1,.slice fa2 xY xZ] rfl rfl 125 _ vY.o aF rfl aF ?_)
     have M8:=vY.o.row #[.int .i64 0,.slice xL xM xO,.int .i64 2,.slice xP xQ pc2,.int .i64 3,.slice xR xS xU,.int .i64 4,.slice xV xW xX,.int .i64 1,.slice fa2 xY xZ];have OI:jW ((x31.setRow g5 #[.int .i64 0,.slice za zn zc,.int .i64 2,.slice pa pn pc,.int .i64 3,.slice ga gn gc,.int .i64 4,.slice ia iN ic,.int .i64 1,.slice fa fn fc]).setRow g6 #[.int .i64 0,.slice xL xM xO,.int .i64 2,.slice xP xQ pc2,.int .i64 3,.slice xR xS xU,.int .i64 4,.slice xV xW xX,.int .i64 1,.slice fa2 xY xZ]) g5 125 #[.int .i64 0,.slice za zn zc,.int .i64 2,.slice pa pn pc,.int .i64 3,.slice ga gn gc,.int .i64 4,.slice ia iN ic,.int .i64 1,.slice fa fn fc]:=(setRow_other (x31.setRow g5 #[.int .i64 0,.slice za zn zc,.int .i64 2,.slice pa pn pc,.int .i64 3,.slice ga gn gc,.int .i64 4,.slice ia iN ic,.int .i64 1,.slice fa fn fc]) g6 g5 _ (by have:=nW.o;have:=qQ.o;omega)).trans FQ.o;have G9:=kH FR.o (show W.heap.size≤g6 by have:=qQ.o;omega) #[.int .i64 0,.slice xL xM xO,.int .i64 2,.slice xP xQ pc2,.int .i64 3,.slice xR xS xU,.int .i64 4,.slice xV xW xX,.int .i64 1,.slice fa2 xY xZ];obtain⟨HS,CV,FT,FU⟩:=aL (jF.o _ G9) M8 OI G9;clear M8 OI G9;first|(refine Mid.mk ⟨HS.o,?_⟩;refine jV aF ?_)|(refine⟨HS.o,?_⟩;refine jV aF ?_)|refine⟨HS.o,by kernel_rfl,?_⟩
     clear q0 q1 q2 q3 q4 q5 q6 q7 r0 r1 r2 r3 r4 r5 r6 r7;go_wp2_with fail
     go_meet
     case rel=>exact⟨g5,g6,rfl,rfl,FT,CV,FU⟩
   case refine_2=>
    go_wp2_with fail
    have aET:=aD x26 (.cells #[.int .i64 0,.slice none 0 0,.int .i64 0,.slice none 0 0,.int .i64 0,.slice none 0 0,.int .i64 0,.slice none 0 0,.int .i64 0,.slice none 0 0] 125);have b3H:=jW.new x26 125 #[.int .i64 0,.slice none 0 0,.int .i64 0,.slice none 0 0,.int .i64 0,.slice none 0 0,.int .i64 0,.slice none 0 0,.int .i64 0,.slice none 0 0];have b0Z:=aEO.o.tm aET;have aLM:=b3H;have aVC:=aIP.o.late aET;have nW:=aEO.o.size;have bMI:g6<x26.heap.size:=aIP.o.lt;replace nW:=aA (gB nW bMI)
    clear b3H;obtain⟨x32,bK0⟩:∃W,x26.alloc (.cells #[.int .i64 0,.slice none 0 0,.int .i64 0,.slice none 0 0,.int .i64 0,.slice none 0 0,.int .i64 0,.slice none 0 0,.int .i64 0,.slice none 0 0] 125)=W:=⟨_,rfl⟩;rw[bK0]at b0Z aET aLM aVC ⊢;obtain⟨g5,aVD⟩:∃g,x26.heap.size=g:=⟨_,rfl⟩;try rw[aVD]at aLM nW
    try rw[aVD]
    clear aVD bK0;obtain⟨HS,b3I,bQZ,b9Y,b9Z⟩:=aM (jF.o _ b0Z) b0Z aET aLM aVC;clear b0Z aET aLM aVC;first|refine Mid.mk ⟨HS.o,?_⟩|refine Mid.mk ?_
    refine jJ 1 3 aF aF ?_;simp only[jI,aW,aX,aU,aV];go_wp2_with fail
    refine(SA.o _).mono ?_;rintro e x33 ⟨rfl,aEU⟩;have bA0:=b3I.o.tm aEU;have b3J:=b9Y.o.late aEU;have b3K:=b9Z.o.late aEU;obtain⟨HS,b3L,bR0,bA1,bAA⟩:=aM (jF.o _ bA0) bA0 aEU b3J b3K;clear bA0 aEU b3J b3K;go_wp2_with fail
    first|refine Mid.mk ⟨HS.o,?_⟩|refine Mid.mk ?_
    refine jJ 3 2 aF aF ?_;simp only[jI,aW,aX,aU,aV];go_wp2_with fail
    refine(Y0.o _).mono ?_;rintro e x34 ⟨rfl,aEV⟩;have bCK:=b3L.o.tm aEV;have b3M:=bA1.o.late aEV;have b3N:=bAA.o.late aEV;obtain⟨HS,bK1,bR5,aVE,bAB⟩:=aM (jF.o _ bCK) bCK aEV b3M b3N;clear bCK aEV b3M b3N;go_wp2_with fail
    first|refine Mid.mk ⟨HS.o,?_⟩|refine Mid.mk ?_
    refine jJ 6 1 aF aF ?_;simp only[jI,aW,aX,aU,aV];go_wp2_with (refine wpList_store_row rfl 125 (.tmp 5) (.tmp 10) rfl g5 #[.int .i64 0,.slice za zn zc,.int .i64 2,.slice pa pn pc,.int .i64 3,.slice ga gn gc,.int .i64 4,.slice ia iN ic,.int .i64 1,.slice fa fn fc] rfl rfl 125 _ aVE.o aF rfl aF ?_)
    have OH:=aVE.o.row #[.int .i64 0,.slice za zn zc,.int .i64 2,.slice pa pn pc,.int .i64 3,.slice ga gn gc,.int .i64 4,.slice ia iN ic,.int .i64 1,.slice fa fn fc];have KM:jW (x34.setRow g5 #[.int .i64 0,.slice za zn zc,.int .i64 2,.slice pa pn pc,.int .i64 3,.slice ga gn gc,.int .i64 4,.slice ia iN ic,.int .i64 1,.slice fa fn fc]) g6 125 #[.int .i64 0,.slice none 0 0,.int .i64 0,.slice none 0 0,.int .i64 0,.slice none 0 0,.int .i64 0,.slice none 0 0,.int .i64 0,.slice none 0 0]:=(setRow_other x34 g5 g6 _ (by have:=nW.o;have:=qQ.o;omega)).trans bAB.o;have G8:=kH bK1.o (show W.heap.size≤g5 by have:=nW.o;omega) #[.int .i64 0,.slice za zn zc,.int .i64 2,.slice pa pn pc,.int .i64 3,.slice ga gn gc,.int .i64 4,.slice ia iN ic,.int .i64 1,.slice fa fn fc];obtain⟨HS,FQ,vY,FR⟩:=aL (jF.o _ G8) OH KM G8;clear OH KM G8;first|refine Mid.mk ⟨HS.o,?_⟩|refine⟨HS.o,?_⟩
    refine jJ 7 0 aF aF ?_;simp only[jI,aW,aX,aU,aV];go_wp2_with (refine wpList_store_row rfl 125 (.tmp 6) (.tmp 12) rfl g6 #[.int .i64 0,.slice xL xM xO,.int .i64 2,.slice xP xQ pc2,.int .i64 3,.slice xR xS xU,.int .i64 4,.slice xV xW xX,.int .i64 1,.slice fa2 xY xZ] rfl rfl 125 _ vY.o aF rfl aF ?_)
    have M8:=vY.o.row #[.int .i64 0,.slice xL xM xO,.int .i64 2,.slice xP xQ pc2,.int .i64 3,.slice xR xS xU,.int .i64 4,.slice xV xW xX,.int .i64 1,.slice fa2 xY xZ];have OI:jW ((x34.setRow g5 #[.int .i64 0,.slice za zn zc,.int .i64 2,.slice pa pn pc,.int .i64 3,.slice ga gn gc,.int .i64 4,.slice ia iN ic,.int .i64 1,.slice fa fn fc]).setRow g6 #[.int .i64 0,.slice xL xM xO,.int .i64 2,.slice xP xQ pc2,.int .i64 3,.slice xR xS xU,.int .i64 4,.slice xV xW xX,.int .i64 1,.slice fa2 xY xZ]) g5 125 #[.int .i64 0,.slice za zn zc,.int .i64 2,.slice pa pn pc,.int .i64 3,.slice ga gn gc,.int .i64 4,.slice ia iN ic,.int .i64 1,.slice fa fn fc]:=(setRow_other (x34.setRow g5 #[.int .i64 0,.slice za zn zc,.int .i64 2,.slice pa pn pc,.int .i64 3,.slice ga gn gc,.int .i64 4,.slice ia iN ic,.int .i64 1,.slice fa fn fc]) g6 g5 _ (by have:=nW.o;have:=qQ.o;omega)).trans FQ.o;have G9:=kH FR.o (show W.heap.size≤g6 by have:=qQ.o;omega) #[.int .i64 0,.slice xL xM xO,.int .i64 2,.slice xP xQ pc2,.int .i64 3,.slice xR xS xU,.int .i64 4,.slice xV xW xX,.int .i64 1,.slice fa2 xY xZ];obtain⟨HS,CV,FT,FU⟩:=aL (jF.o _ G9) M8 OI G9;clear M8 OI G9;first|(refine Mid.mk ⟨HS.o,?_⟩;refine jV aF ?_)|(refine⟨HS.o,?_⟩;refine jV aF ?_)|refine⟨HS.o,by kernel_rfl,?_⟩
    clear q0 q1 q2 q3 q4 q5 q6 q7 r0 r1 r2 r3 r4 r5 r6 r7;go_wp2_with fail
    go_meet
    case rel=>exact⟨g5,g6,rfl,rfl,FT,CV,FU⟩
 case rest=>
  obtain⟨g5,g6,rfl,rfl,h5',h6',bCL⟩:=hcut;rename World=>w2
  obtain⟨jT,bE2,bR2⟩:=aK (mO.o.tm bCL.o) (LM.o.late bCL.o) (bR'.o.late bCL.o);clear q0 q1 q2 q3 q4 q5 q6 q7 r0 r1 r2 r3 r4 r5 r6 r7 HS HD;go_wp2_with fail
  go_loopw [13] (fun iv wr=>∃(k:Nat) (ki:Int),k≤5∧ki=k∧iv= .int .i64 ki∧Hid (∀j,j<k→rsB ⟨o,z,p,g,i,f,mk,th⟩ ⟨o2,z2,p2,g2,i2,f2,mk2,th2⟩ j=true)∧Hid (Below w2.heap.size w2 wr)) (fun iv _=>5 - (intOf iv).toNat)
  case atStart=>exact⟨0,0,by omega,rfl,rfl,aA (fun j hj=>by omega),aA (aY _ _)⟩
  case round=>
  obtain⟨k,ki,hk,rC,rfl,sM,lI⟩:=hrel;have jZ:=aA (jT.o.tm lI.o);by_cases kD:k<5
  ·rcases(by omega:k=0∨k=1∨k=2∨k=3∨k=4)with rfl|rfl|rfl|rfl|rfl
   ·obtain rfl:ki=0:=by omega
    clear hk kD rC;obtain⟨Tq,fq,hnq,YJ,hsq⟩:=kE wr;have c1:=fun s=>((h5'.o.late lI.o).late (YJ s)).cell (i:=1) rfl;have c2:=fun s=>((h6'.o.late lI.o).late (YJ s)).cell (i:=1) rfl;have HQ:=aA (hsq _ ((aY _ _).drew));have hC:=fun W (h:Below wr.heap.size wr W)=>FP za xL zn zc xM xO z z2 W (AQ.o.mono (jZ.o.tm h)) (bC8.o.mono (jZ.o.tm h)) bz'.o bQ5.o;obtain⟨r,hr⟩:=aC (z==z2);rw[hr]at hC;obtain⟨zY,aAD,MC,qX⟩:=aL YJ hsq hC hr;clear YJ hsq hC hr;go_wp2_with fail
    refine jL fq aF aF HQ.o ?_;iterate 11 (go_big_quiet_step ((go_at_call 72;refine(MC.o _ (zY.o _)).mono ?_;rintro e w3 ⟨rfl,jQ⟩;exact⟨rfl,aAD.o _ ((zY.o _).tm jQ)⟩)))
    refine wpQuiet_nil ?_;intro s;obtain⟨wR,aAE⟩:=aJ (lI.o.trans ((zY.o s).mono lI.o.size)) (jZ.o.trans ((zY.o s).mono jZ.o.size));clear c1 c2;cases r with
    |false=>
     have qW:CS ⟨o,z,p,g,i,f,mk,th⟩ ⟨o2,z2,p2,g2,i2,f2,mk2,th2⟩=false:=a4K (j:=0) aH qX.o;have sW:=aA qW;clear qW;go_wp2_with fail
     go_ret;exact⟨by rw[sW.o];rfl,aAE.o⟩
    |true=>
     go_wp2_with fail
     go_roundw
     case rel=>exact⟨1,1,by omega,rfl,rfl,aA (fun j hj=>by
      rcases(by omega:j<0∨j=0)with h|h
      ·exact sM.o j h
      ·subst h;exact qX.o),wR⟩
     case measure=>simp[intOf]
   ·obtain rfl:ki=1:=by omega
    clear hk kD rC;obtain⟨Tq,fq,hnq,YJ,hsq⟩:=kE wr;have c1:=fun s=>((h5'.o.late lI.o).late (YJ s)).cell (i:=3) rfl;have c2:=fun s=>((h6'.o.late lI.o).late (YJ s)).cell (i:=3) rfl;have HQ:=aA (hsq _ ((aY _ _).drew));have hC:=fun W (h:Below wr.heap.size wr W)=>FP pa xP pn pc xQ pc2 p p2 W (hp'.o.mono (jZ.o.tm h)) (aYG.o.mono (jZ.o.tm h)) bp'.o bQ6.o;obtain⟨r,hr⟩:=aC (p==p2);rw[hr]at hC;obtain⟨zY,aAD,MC,qX⟩:=aL YJ hsq hC hr;clear YJ hsq hC hr;go_wp2_with fail
    refine jL fq aF aF HQ.o ?_;iterate 11 (go_big_quiet_step ((go_at_call 72;refine(MC.o _ (zY.o _)).mono ?_;rintro e w3 ⟨rfl,jQ⟩;exact⟨rfl,aAD.o _ ((zY.o _).tm jQ)⟩)))
    refine wpQuiet_nil ?_;intro s;obtain⟨wR,aAE⟩:=aJ (lI.o.trans ((zY.o s).mono lI.o.size)) (jZ.o.trans ((zY.o s).mono jZ.o.size));clear c1 c2;cases r with
    |false=>
     have qW:CS ⟨o,z,p,g,i,f,mk,th⟩ ⟨o2,z2,p2,g2,i2,f2,mk2,th2⟩=false:=a4K (j:=1) aH qX.o;have sW:=aA qW;clear qW;go_wp2_with fail
     go_ret;exact⟨by rw[sW.o];rfl,aAE.o⟩
    |true=>
     go_wp2_with fail
     go_roundw
     case rel=>exact⟨2,2,by omega,rfl,rfl,aA (fun j hj=>by
      rcases(by omega:j<1∨j=1)with h|h
      ·exact sM.o j h
      ·subst h;exact qX.o),wR⟩
     case measure=>simp[intOf]
   ·obtain rfl:ki=2:=by omega
    clear hk kD rC;obtain⟨Tq,fq,hnq,YJ,hsq⟩:=kE wr;have c1:=fun s=>((h5'.o.late lI.o).late (YJ s)).cell (i:=5) rfl;have c2:=fun s=>((h6'.o.late lI.o).late (YJ s)).cell (i:=5) rfl;have HQ:=aA (hsq _ ((aY _ _).drew));have hC:=fun W (h:Below wr.heap.size wr W)=>FP ga xR gn gc xS xU g g2 W (TQ.o.mono (jZ.o.tm h)) (aZB.o.mono (jZ.o.tm h)) bg'.o bQ7.o;obtain⟨r,hr⟩:=aC (g==g2);rw[hr]at hC;obtain⟨zY,aAD,MC,qX⟩:=aL YJ hsq hC hr;clear YJ hsq hC hr;go_wp2_with fail
    refine jL fq aF aF HQ.o ?_;iterate 11 (go_big_quiet_step ((go_at_call 72;refine(MC.o _ (zY.o _)).mono ?_;rintro e w3 ⟨rfl,jQ⟩;exact⟨rfl,aAD.o _ ((zY.o _).tm jQ)⟩)))
    refine wpQuiet_nil ?_;intro s;obtain⟨wR,aAE⟩:=aJ (lI.o.trans ((zY.o s).mono lI.o.size)) (jZ.o.trans ((zY.o s).mono jZ.o.size));clear c1 c2;cases r with
    |false=>
     have qW:CS ⟨o,z,p,g,i,f,mk,th⟩ ⟨o2,z2,p2,g2,i2,f2,mk2,th2⟩=false:=a4K (j:=2) aH qX.o;have sW:=aA qW;clear qW;go_wp2_with fail
     go_ret;exact⟨by rw[sW.o];rfl,aAE.o⟩
    |true=>
     go_wp2_with fail
     go_roundw
     case rel=>exact⟨3,3,by omega,rfl,rfl,aA (fun j hj=>by
      rcases(by omega:j<2∨j=2)with h|h
      ·exact sM.o j h
      ·subst h;exact qX.o),wR⟩
     case measure=>simp[intOf]
   ·obtain rfl:ki=3:=by omega
    clear hk kD rC;obtain⟨Tq,fq,hnq,YJ,hsq⟩:=kE wr;have c1:=fun s=>((h5'.o.late lI.o).late (YJ s)).cell (i:=7) rfl;have c2:=fun s=>((h6'.o.late lI.o).late (YJ s)).cell (i:=7) rfl;have HQ:=aA (hsq _ ((aY _ _).drew));have hC:=fun W (h:Below wr.heap.size wr W)=>FP ia xV iN ic xW xX i i2 W (xG.o.mono (jZ.o.tm h)) (bIV.o.mono (jZ.o.tm h)) bi'.o bQ8.o;obtain⟨r,hr⟩:=aC (i==i2);rw[hr]at hC;obtain⟨zY,aAD,MC,qX⟩:=aL YJ hsq hC hr;clear YJ hsq hC hr;go_wp2_with fail
    refine jL fq aF aF HQ.o ?_;iterate 11 (go_big_quiet_step ((go_at_call 72;refine(MC.o _ (zY.o _)).mono ?_;rintro e w3 ⟨rfl,jQ⟩;exact⟨rfl,aAD.o _ ((zY.o _).tm jQ)⟩)))
    refine wpQuiet_nil ?_;intro s;obtain⟨wR,aAE⟩:=aJ (lI.o.trans ((zY.o s).mono lI.o.size)) (jZ.o.trans ((zY.o s).mono jZ.o.size));clear c1 c2;cases r with
    |false=>
     have qW:CS ⟨o,z,p,g,i,f,mk,th⟩ ⟨o2,z2,p2,g2,i2,f2,mk2,th2⟩=false:=a4K (j:=3) aH qX.o;have sW:=aA qW;clear qW;go_wp2_with fail
     go_ret;exact⟨by rw[sW.o];rfl,aAE.o⟩
    |true=>
     go_wp2_with fail
     go_roundw
     case rel=>exact⟨4,4,by omega,rfl,rfl,aA (fun j hj=>by
      rcases(by omega:j<3∨j=3)with h|h
      ·exact sM.o j h
      ·subst h;exact qX.o),wR⟩
     case measure=>simp[intOf]
   ·obtain rfl:ki=4:=by omega
    clear hk kD rC;obtain⟨Tq,fq,hnq,YJ,hsq⟩:=kE wr;have c1:=fun s=>((h5'.o.late lI.o).late (YJ s)).cell (i:=9) rfl;have c2:=fun s=>((h6'.o.late lI.o).late (YJ s)).cell (i:=9) rfl;have HQ:=aA (hsq _ ((aY _ _).drew));have hC:=fun W (h:Below wr.heap.size wr W)=>FP fa fa2 fn fc xY xZ f f2 W (QJ.o.mono (jZ.o.tm h)) (bIW.o.mono (jZ.o.tm h)) bf'.o bQ9.o;obtain⟨r,hr⟩:=aC (f==f2);rw[hr]at hC;obtain⟨zY,aAD,MC,qX⟩:=aL YJ hsq hC hr;clear YJ hsq hC hr;go_wp2_with fail
    refine jL fq aF aF HQ.o ?_;iterate 11 (go_big_quiet_step ((go_at_call 72;refine(MC.o _ (zY.o _)).mono ?_;rintro e w3 ⟨rfl,jQ⟩;exact⟨rfl,aAD.o _ ((zY.o _).tm jQ)⟩)))
    refine wpQuiet_nil ?_;intro s;obtain⟨wR,aAE⟩:=aJ (lI.o.trans ((zY.o s).mono lI.o.size)) (jZ.o.trans ((zY.o s).mono jZ.o.size));clear c1 c2;cases r with
    |false=>
     have qW:CS ⟨o,z,p,g,i,f,mk,th⟩ ⟨o2,z2,p2,g2,i2,f2,mk2,th2⟩=false:=a4K (j:=4) aH qX.o;have sW:=aA qW;clear qW;go_wp2_with fail
     go_ret;exact⟨by rw[sW.o];rfl,aAE.o⟩
    |true=>
     go_wp2_with fail
     go_roundw
     case rel=>exact⟨5,5,by omega,rfl,rfl,aA (fun j hj=>by
      rcases(by omega:j<4∨j=4)with h|h
      ·exact sM.o j h
      ·subst h;exact qX.o),wR⟩
     case measure=>simp[intOf]
  ·obtain rfl:k=5:=by omega
   obtain rfl:ki=5:=by omega
   clear hk kD rC;have kS:=b07 sM.o;simp only at kS;have hE3:=bE2.o.late lI.o;have hR3:=bR2.o.late lI.o;have q0:=hE3.cell (i:=0) rfl;have q6:=hE3.cell (i:=6) rfl;have q7:=hE3.cell (i:=7) rfl;have r0:=hR3.cell (i:=0) rfl;have r6:=hR3.cell (i:=6) rfl;have r7:=hR3.cell (i:=7) rfl;have hM:=TB ma ma2 mn mn2 mc mc2 mk mk2 wr (EN.o.mono jZ.o) (a1V.o.mono jZ.o) bm'.o bQA.o;have hT:=TB ta ta2 tn tn2 tc tc2 th th2 wr (TV.o.mono jZ.o) (aPX.o.mono jZ.o) bt'.o bQB.o;obtain⟨b0,pW⟩:∃b,(o==o2)=b:=⟨_,rfl⟩;obtain⟨b6,wQ⟩:∃b,(mk==mk2)=b:=⟨_,rfl⟩;obtain⟨b7,rE⟩:∃b,(th==th2)=b:=⟨_,rfl⟩;rw[wQ]at hM;rw[rE]at hT;rw[pW,wQ,rE]at kS;clear wQ rE;obtain⟨a3C,bGI,hM',hT',UO⟩:=aM hE3 hR3 hM hT kS;clear hE3 hR3 hM hT kS;cases b0 with
   |false=>
    go_wp2_with fail
    go_ret;exact⟨by rw[UO.o];rfl,jZ.o⟩
   |true=>
   go_wp2_with fail
   refine hM'.o.mono ?_;rintro e w3 ⟨rfl,rfl⟩;cases b6 with
   |false=>
    go_wp2_with fail
    go_ret;exact⟨by rw[UO.o];rfl,jZ.o⟩
   |true=>
   go_wp2_with fail
   refine hT'.o.mono ?_;rintro e w3 ⟨rfl,rfl⟩;go_wp2_with fail
   go_ret;exact⟨by rw[UO.o];simp,jZ.o⟩
