import Derived.Test.YtceclmpmpldmlaaGreatCz36
set_option linter.unusedSimpArgs false
set_option linter.unusedVariables false
namespace Go.Proofs.YtceclmpmpldmlaaGreat
open Go.RowKit Tt
section
open Go
variable {P:Program} {Q:Exit→Act→World→Prop} {S:World→Prop}
theorem a11 {l:List Oper} {listed:Array Bool} {a:Act} {w:World} (i j k fuel:Nat) (hb:(decide (i<l.length)&&(decide (j<l.length)&&decide (k<l.length)))=true) (hr:Region.ready .any l.toArray listed= [i,j,k])
  (h:wpList P l.toArray (Mid (fun a' w'=>S w'∧wpAnyH P .any l.toArray Q S fuel (listed.setIfInBounds i true) a' w') Q) (jB l [i]) a w)
  (h2:wpList P l.toArray (Mid (fun a' w'=>S w'∧wpAnyH P .any l.toArray Q S fuel (listed.setIfInBounds j true) a' w') Q) (jB l [j]) a w)
  (h3:wpList P l.toArray (Mid (fun a' w'=>S w'∧wpAnyH P .any l.toArray Q S fuel (listed.setIfInBounds k true) a' w') Q) (jB l [k]) a w):wpAnyH P .any l.toArray Q S (fuel+1) listed a w:=by
 simp only[bF,decide_eq_true_eq]at hb;have key:∀k (o:Oper),l.toArray[k]? =some o→wpList P l.toArray (Mid (fun a' w'=>S w'∧wpAnyH P .any l.toArray Q S fuel (listed.setIfInBounds k true) a' w') Q) [o] a w→wpOp P l.toArray Q k (fun a' w'=>S w'∧wpAnyH P .any l.toArray Q S fuel (listed.setIfInBounds k true) a' w') a w:=fun k o ho h=>by
  unfold wpOp;simp only[ho];unfold wpList at h;split
  ·rename_i hw;rw[if_pos hw]at h;rcases h with h|⟨h1,a2,w2,h2⟩
   ·exact .inl (OY h)
   ·exact .inr ⟨h1,a2,w2,h2⟩
  ·rename_i hw;rw[if_neg hw]at h;exact h
 refine wpAnyH_all hr (by simp) fun m hm=>?_;simp only[bQ,eD,or_false]at hm;rcases hm with rfl|rfl|rfl
 ·exact key _ (l.getD m a7Z) (by rw[aV,aX hb.1];simp[hb.1]) h
 ·exact key _ (l.getD m a7Z) (by rw[aV,aX hb.2.1];simp[hb.2.1]) h2
 ·exact key _ (l.getD m a7Z) (by rw[aV,aX hb.2.2];simp[hb.2.2]) h3
end
def rsB (x y:oN):Nat→Bool
 |0=>x.z==y.z
 |1=>x.p==y.p
 |2=>x.g==y.g
 |3=>x.i==y.i
 |_=>x.f==y.f
theorem a14 {x y:oN} {j:Nat} (hj:j<5) (h:rsB x y j=false):E8 x y=false:=by
 unfold E8;rcases(by omega:j=0∨j=1∨j=2∨j=3∨j=4)with rfl|rfl|rfl|rfl|rfl
 ·rw[show(x.z==y.z)=false from h];simp
 ·rw[show(x.p==y.p)=false from h];simp
 ·rw[show(x.g==y.g)=false from h];simp
 ·rw[show(x.i==y.i)=false from h];simp
 ·rw[show(x.f==y.f)=false from h];simp
theorem aZ0 {x y:oN} (h:∀j,j<5→rsB x y j=true):E8 x y=(x.o==y.o&&x.mr==y.mr&&x.th==y.th):=by
 unfold E8;rw[show(x.z==y.z)=true from h 0 (by decide),show(x.p==y.p)=true from h 1 (by decide),show(x.g==y.g)=true from h 2 (by decide),show(x.i==y.i)=true from h 3 (by decide),show(x.f==y.f)=true from h 4 (by decide)];simp
set_option maxRecDepth 20000 in
set_option maxHeartbeats 16000000 in
theorem VJ (x y:oN) (A B:ExA) (w:World) (h:ExR w x A) (h2:ExR w y B) (hbx:a1Q x) (hby:a1Q y):
  Calls Tryz.prog 29 #[exV x.o A,exV y.o B] w fun e w'=>e= .returned (.bool (E8 x y))∧Below w.heap.size w w':=by
 have hR1:=fun W=>U2 x.o A W;have hR2:=fun W=>U2 y.o B W;obtain⟨za,zn,zc,pa,pn,pc,ga,gn,gc,ia,iN,ic,fa,fn,fc,ma,mn,mc,ta,tn,tc⟩:=A;obtain⟨zB,zC,zD,zF,zG,pc2,zH,zI,zJ,zK,zL,zM,fa2,zN,zO,ma2,mn2,mc2,ta2,tn2,tc2⟩:=B;obtain⟨o,z,p,g,i,f,mk,th⟩:=x;obtain⟨o2,z2,p2,g2,i2,f2,mk2,th2⟩:=y;simp only[exV,OI]at*;obtain⟨hz,hp,hg,hi,hf,hm,ht⟩:=h;obtain⟨hz2,hp2,hg2,hi2,hf2,hm2,ht2⟩:=h2;obtain⟨W,hW,bE,bR,hb,hsz⟩:=qZ w 61 #[.int .i64 o,.slice za zn zc,.slice pa pn pc,.slice ga gn gc,.slice ia iN ic,.slice fa fn fc,.slice ma mn mc,.slice ta tn tc] 61 #[.int .i64 o2,.slice zB zC zD,.slice zF zG pc2,.slice zH zI zJ,.slice zK zL zM,.slice fa2 zN zO,.slice ma2 mn2 mc2,.slice ta2 tn2 tc2];obtain⟨bz,bp,bg,bi,bf,bm,bt⟩:=hbx;obtain⟨bz2,bp2,bg2,bi2,bf2,bm2,bt2⟩:=hby;obtain⟨Ty,ff,hne,hbel,jH⟩:=jR W;have HD:=aA ((aW W.heap.size W).drew);have HS:=aA (jH W.drew HD.o);have q0:∀s,(ff s).cell? ⟨w.heap.size,0,none⟩=some (.int .i64 o):=fun s=>(bE.late (hbel s)).cell rfl;have r0:∀s,(ff s).cell? ⟨w.heap.size+1,0,none⟩=some (.int .i64 o2):=fun s=>(bR.late (hbel s)).cell rfl;have q1:∀s,(ff s).cell? ⟨w.heap.size,1,none⟩=some (.slice za zn zc):=fun s=>(bE.late (hbel s)).cell rfl;have r1:∀s,(ff s).cell? ⟨w.heap.size+1,1,none⟩=some (.slice zB zC zD):=fun s=>(bR.late (hbel s)).cell rfl;have q2:∀s,(ff s).cell? ⟨w.heap.size,2,none⟩=some (.slice pa pn pc):=fun s=>(bE.late (hbel s)).cell rfl;have r2:∀s,(ff s).cell? ⟨w.heap.size+1,2,none⟩=some (.slice zF zG pc2):=fun s=>(bR.late (hbel s)).cell rfl;have q3:∀s,(ff s).cell? ⟨w.heap.size,3,none⟩=some (.slice ga gn gc):=fun s=>(bE.late (hbel s)).cell rfl;have r3:∀s,(ff s).cell? ⟨w.heap.size+1,3,none⟩=some (.slice zH zI zJ):=fun s=>(bR.late (hbel s)).cell rfl;have q4:∀s,(ff s).cell? ⟨w.heap.size,4,none⟩=some (.slice ia iN ic):=fun s=>(bE.late (hbel s)).cell rfl;have r4:∀s,(ff s).cell? ⟨w.heap.size+1,4,none⟩=some (.slice zK zL zM):=fun s=>(bR.late (hbel s)).cell rfl;have q5:∀s,(ff s).cell? ⟨w.heap.size,5,none⟩=some (.slice fa fn fc):=fun s=>(bE.late (hbel s)).cell rfl;have r5:∀s,(ff s).cell? ⟨w.heap.size+1,5,none⟩=some (.slice fa2 zN zO):=fun s=>(bR.late (hbel s)).cell rfl;have q6:∀s,(ff s).cell? ⟨w.heap.size,6,none⟩=some (.slice ma mn mc):=fun s=>(bE.late (hbel s)).cell rfl;have r6:∀s,(ff s).cell? ⟨w.heap.size+1,6,none⟩=some (.slice ma2 mn2 mc2):=fun s=>(bR.late (hbel s)).cell rfl;have q7:∀s,(ff s).cell? ⟨w.heap.size,7,none⟩=some (.slice ta tn tc):=fun s=>(bE.late (hbel s)).cell rfl;have r7:∀s,(ff s).cell? ⟨w.heap.size+1,7,none⟩=some (.slice ta2 tn2 tc2):=fun s=>(bR.late (hbel s)).cell rfl;obtain⟨hz',hp',hg',hi',hf',hm',ht',hz2',aNE,aKK,bP6,bP7⟩:=aP hz hp hg hi hf hm ht hz2 hp2 hg2 hi2 hf2;obtain⟨VN,b6N,hW',hsz',bE',bR',hb',O0,uZ,jG,jA,bz'⟩:=aP hm2 ht2 hW hsz bE bR hb hR1 hR2 hbel jH bz;obtain⟨bp',bg',bi',bf',bm',bt',bP8,aGF,bP9,bPA,bPB,bPC⟩:=aP bp bg bi bf bm bt bz2 bp2 bg2 bi2 bf2 bm2;have bPD:=aA bt2;clear hz hp hg hi hf hm ht hz2 hp2 hg2 hi2 hf2 hm2 ht2 hW hsz bE bR hb hR1 hR2 hbel jH bz bp bg bi bf bm bt bz2 bp2 bg2 bi2 bf2 bm2 bt2;go_enter Tryz.func29,Tryz.ntmps29;go_upto_region 1 with fail
 rw[hW'.o];go_cut [5,6]from 9 (fun v5 v6 wx=>∃g5 g6:Nat,v5= .pointer (some ⟨g5,0,none⟩)∧v6= .pointer (some ⟨g6,0,none⟩)∧Hid (jJ wx g5 125 #[.int .i64 0,.slice za zn zc,.int .i64 2,.slice pa pn pc,.int .i64 3,.slice ga gn gc,.int .i64 4,.slice ia iN ic,.int .i64 1,.slice fa fn fc])∧Hid (jJ wx g6 125 #[.int .i64 0,.slice zB zC zD,.int .i64 2,.slice zF zG pc2,.int .i64 3,.slice zH zI zJ,.int .i64 4,.slice zK zL zM,.int .i64 1,.slice fa2 zN zO])∧Hid (Below W.heap.size W wx))
 case first=>
  refine jU (S:=fun W=>∃s,W=ff s) (by kernel_rfl) 8 rfl ?_;obtain⟨wD,tQ⟩:∃X,W.drew=X:=⟨_,rfl⟩;rw[tQ]at HS HD ⊢;clear tQ;refine jF [0,2] 6 (by kernel_rfl) (fun d _ _ _ _ h=>by cases d <;> exact h) (by kernel_rfl) (by kernel_rfl) (by kernel_rfl) HS.o ?_;simp only[jB,aS,aT,aQ,aR];iterate 2 (go_big_quiet_step (fail))
  refine wpQuiet_nil ?_;refine a11 1 4 5 5 (by kernel_rfl) (by kernel_rfl) ?_ ?_ ?_;all_goals simp only[jB,aS,aT,aQ,aR]
  case refine_1=>
   go_wp2_with fail
   refine(O0.o _).mono ?_;rintro e x1 ⟨rfl,b8R⟩;have hx1:=HD.o.tm b8R;obtain⟨HS,VT,bSW⟩:=aG (jA.o _ hx1) hx1 b8R;clear hx1 b8R;go_wp2_with fail
   first|refine Mid.mk ⟨HS.o,?_⟩|refine Mid.mk ?_
   refine a11 3 4 5 4 (by kernel_rfl) (by kernel_rfl) ?_ ?_ ?_;all_goals simp only[jB,aS,aT,aQ,aR]
   case refine_1=>
    go_wp2_with fail
    refine(uZ.o _).mono ?_;rintro e x2 ⟨rfl,b8S⟩;have hx2:=VT.o.tm b8S;obtain⟨HS,VU,bSX⟩:=aG (jA.o _ hx2) hx2 b8S;clear hx2 b8S;go_wp2_with fail
    first|refine Mid.mk ⟨HS.o,?_⟩|refine Mid.mk ?_
    refine qX 4 5 3 (by kernel_rfl) (by kernel_rfl) ?_ ?_;all_goals simp only[jB,aS,aT,aQ,aR]
    case refine_1=>
     go_wp2_with fail
     have WA:=aD x2 (.cells #[.int .i64 0,.slice none 0 0,.int .i64 0,.slice none 0 0,.int .i64 0,.slice none 0 0,.int .i64 0,.slice none 0 0,.int .i64 0,.slice none 0 0] 125);have bHS:=jJ.new x2 125 #[.int .i64 0,.slice none 0 0,.int .i64 0,.slice none 0 0,.int .i64 0,.slice none 0 0,.int .i64 0,.slice none 0 0,.int .i64 0,.slice none 0 0];have hx3:=VU.o.tm WA;have aZ1:=bHS;have hg5:=VU.o.size;replace hg5:=aA (And.intro hg5 trivial)
     clear bHS;obtain⟨x3,ex3⟩:∃W,x2.alloc (.cells #[.int .i64 0,.slice none 0 0,.int .i64 0,.slice none 0 0,.int .i64 0,.slice none 0 0,.int .i64 0,.slice none 0 0,.int .i64 0,.slice none 0 0] 125)=W:=⟨_,rfl⟩;rw[ex3]at hx3 WA aZ1 ⊢;obtain⟨g5,b8T⟩:∃g,x2.heap.size=g:=⟨_,rfl⟩;try rw[b8T]at aZ1 hg5
     try rw[b8T]
     clear b8T ex3;obtain⟨HS,a1I,b0D,b21⟩:=aH (jA.o _ hx3) hx3 WA aZ1;clear hx3 WA aZ1;first|refine Mid.mk ⟨HS.o,?_⟩|refine Mid.mk ?_
     refine jC 5 2 (by kernel_rfl) (by kernel_rfl) ?_;simp only[jB,aS,aT,aQ,aR];go_wp2_with fail
     have aTT:=aD x3 (.cells #[.int .i64 0,.slice none 0 0,.int .i64 0,.slice none 0 0,.int .i64 0,.slice none 0 0,.int .i64 0,.slice none 0 0,.int .i64 0,.slice none 0 0] 125);have bHT:=jJ.new x3 125 #[.int .i64 0,.slice none 0 0,.int .i64 0,.slice none 0 0,.int .i64 0,.slice none 0 0,.int .i64 0,.slice none 0 0,.int .i64 0,.slice none 0 0];have hx4:=a1I.o.tm aTT;have aZ2:=bHT;have b8U:=b21.o.late aTT;have rQ:=a1I.o.size;have b4H:g5<x3.heap.size:=b21.o.lt;replace rQ:=aA (And.intro rQ b4H)
     clear bHT;obtain⟨x4,ex4⟩:∃W,x3.alloc (.cells #[.int .i64 0,.slice none 0 0,.int .i64 0,.slice none 0 0,.int .i64 0,.slice none 0 0,.int .i64 0,.slice none 0 0,.int .i64 0,.slice none 0 0] 125)=W:=⟨_,rfl⟩;rw[ex4]at hx4 aTT aZ2 b8U ⊢;obtain⟨g6,b8V⟩:∃g,x3.heap.size=g:=⟨_,rfl⟩;try rw[b8V]at aZ2 rQ
     try rw[b8V]
     clear b8V ex4;obtain⟨HS,bPE,bSY,bHU,b22⟩:=aI (jA.o _ hx4) hx4 aTT aZ2 b8U;clear hx4 aTT aZ2 b8U;first|refine Mid.mk ⟨HS.o,?_⟩|refine Mid.mk ?_
     refine jC 6 1 (by kernel_rfl) (by kernel_rfl) ?_;simp only[jB,aS,aT,aQ,aR];go_wp2_with (refine wpList_store_row rfl 125 (.tmp 5) (.tmp 10) rfl g5 #[.int .i64 0,.slice za zn zc,.int .i64 2,.slice pa pn pc,.int .i64 3,.slice ga gn gc,.int .i64 4,.slice ia iN ic,.int .i64 1,.slice fa fn fc] rfl rfl 125 _ b22.o (by kernel_rfl) rfl (by kernel_rfl) ?_)
     have L8:=b22.o.row #[.int .i64 0,.slice za zn zc,.int .i64 2,.slice pa pn pc,.int .i64 3,.slice ga gn gc,.int .i64 4,.slice ia iN ic,.int .i64 1,.slice fa fn fc];have L9:jJ (x4.setRow g5 #[.int .i64 0,.slice za zn zc,.int .i64 2,.slice pa pn pc,.int .i64 3,.slice ga gn gc,.int .i64 4,.slice ia iN ic,.int .i64 1,.slice fa fn fc]) g6 125 #[.int .i64 0,.slice none 0 0,.int .i64 0,.slice none 0 0,.int .i64 0,.slice none 0 0,.int .i64 0,.slice none 0 0,.int .i64 0,.slice none 0 0]:=(setRow_other x4 g5 g6 _ (by have:=hg5.o;have:=rQ.o;omega)).trans bHU.o;have hxa:=jP bPE.o (show W.heap.size≤g5 by have:=hg5.o;omega) #[.int .i64 0,.slice za zn zc,.int .i64 2,.slice pa pn pc,.int .i64 3,.slice ga gn gc,.int .i64 4,.slice ia iN ic,.int .i64 1,.slice fa fn fc];obtain⟨HS,CR,uL,CS⟩:=aH (jA.o _ hxa) L8 L9 hxa;clear L8 L9 hxa;first|refine Mid.mk ⟨HS.o,?_⟩|refine⟨HS.o,?_⟩
     refine jC 7 0 (by kernel_rfl) (by kernel_rfl) ?_;simp only[jB,aS,aT,aQ,aR];go_wp2_with (refine wpList_store_row rfl 125 (.tmp 6) (.tmp 12) rfl g6 #[.int .i64 0,.slice zB zC zD,.int .i64 2,.slice zF zG pc2,.int .i64 3,.slice zH zI zJ,.int .i64 4,.slice zK zL zM,.int .i64 1,.slice fa2 zN zO] rfl rfl 125 _ uL.o (by kernel_rfl) rfl (by kernel_rfl) ?_)
     have LA:=uL.o.row #[.int .i64 0,.slice zB zC zD,.int .i64 2,.slice zF zG pc2,.int .i64 3,.slice zH zI zJ,.int .i64 4,.slice zK zL zM,.int .i64 1,.slice fa2 zN zO];have LB:jJ ((x4.setRow g5 #[.int .i64 0,.slice za zn zc,.int .i64 2,.slice pa pn pc,.int .i64 3,.slice ga gn gc,.int .i64 4,.slice ia iN ic,.int .i64 1,.slice fa fn fc]).setRow g6 #[.int .i64 0,.slice zB zC zD,.int .i64 2,.slice zF zG pc2,.int .i64 3,.slice zH zI zJ,.int .i64 4,.slice zK zL zM,.int .i64 1,.slice fa2 zN zO]) g5 125 #[.int .i64 0,.slice za zn zc,.int .i64 2,.slice pa pn pc,.int .i64 3,.slice ga gn gc,.int .i64 4,.slice ia iN ic,.int .i64 1,.slice fa fn fc]:=(setRow_other (x4.setRow g5 #[.int .i64 0,.slice za zn zc,.int .i64 2,.slice pa pn pc,.int .i64 3,.slice ga gn gc,.int .i64 4,.slice ia iN ic,.int .i64 1,.slice fa fn fc]) g6 g5 _ (by have:=hg5.o;have:=rQ.o;omega)).trans CR.o;have hxb:=jP CS.o (show W.heap.size≤g6 by have:=rQ.o;omega) #[.int .i64 0,.slice zB zC zD,.int .i64 2,.slice zF zG pc2,.int .i64 3,.slice zH zI zJ,.int .i64 4,.slice zK zL zM,.int .i64 1,.slice fa2 zN zO];obtain⟨HS,CV,CW,CX⟩:=aH (jA.o _ hxb) LA LB hxb;clear LA LB hxb;first|(refine Mid.mk ⟨HS.o,?_⟩;refine jK (by kernel_rfl) ?_)|(refine⟨HS.o,?_⟩;refine jK (by kernel_rfl) ?_)|refine⟨HS.o,by kernel_rfl,?_⟩
     clear q0 q1 q2 q3 q4 q5 q6 q7 r0 r1 r2 r3 r4 r5 r6 r7;go_wp2_with fail
     go_meet
     case rel=>exact⟨g5,g6,rfl,rfl,CW,CV,CX⟩
    case refine_2=>
     go_wp2_with fail
     have RL:=aD x2 (.cells #[.int .i64 0,.slice none 0 0,.int .i64 0,.slice none 0 0,.int .i64 0,.slice none 0 0,.int .i64 0,.slice none 0 0,.int .i64 0,.slice none 0 0] 125);have bHV:=jJ.new x2 125 #[.int .i64 0,.slice none 0 0,.int .i64 0,.slice none 0 0,.int .i64 0,.slice none 0 0,.int .i64 0,.slice none 0 0,.int .i64 0,.slice none 0 0];have hx5:=VU.o.tm RL;have aZ3:=bHV;have rQ:=VU.o.size;replace rQ:=aA (And.intro rQ trivial)
     clear bHV;obtain⟨x5,ex5⟩:∃W,x2.alloc (.cells #[.int .i64 0,.slice none 0 0,.int .i64 0,.slice none 0 0,.int .i64 0,.slice none 0 0,.int .i64 0,.slice none 0 0,.int .i64 0,.slice none 0 0] 125)=W:=⟨_,rfl⟩;rw[ex5]at hx5 RL aZ3 ⊢;obtain⟨g6,b8W⟩:∃g,x2.heap.size=g:=⟨_,rfl⟩;try rw[b8W]at aZ3 rQ
     try rw[b8W]
     clear b8W ex5;obtain⟨HS,b8X,bSZ,b23⟩:=aH (jA.o _ hx5) hx5 RL aZ3;clear hx5 RL aZ3;first|refine Mid.mk ⟨HS.o,?_⟩|refine Mid.mk ?_
     refine jC 4 2 (by kernel_rfl) (by kernel_rfl) ?_;simp only[jB,aS,aT,aQ,aR];go_wp2_with fail
     have EJ:=aD x5 (.cells #[.int .i64 0,.slice none 0 0,.int .i64 0,.slice none 0 0,.int .i64 0,.slice none 0 0,.int .i64 0,.slice none 0 0,.int .i64 0,.slice none 0 0] 125);have bHW:=jJ.new x5 125 #[.int .i64 0,.slice none 0 0,.int .i64 0,.slice none 0 0,.int .i64 0,.slice none 0 0,.int .i64 0,.slice none 0 0,.int .i64 0,.slice none 0 0];have hx6:=b8X.o.tm EJ;have aZ4:=bHW;have b8Y:=b23.o.late EJ;have hg5:=b8X.o.size;have bPF:g6<x5.heap.size:=b23.o.lt;replace hg5:=aA (And.intro hg5 bPF)
     clear bHW;obtain⟨x6,ex6⟩:∃W,x5.alloc (.cells #[.int .i64 0,.slice none 0 0,.int .i64 0,.slice none 0 0,.int .i64 0,.slice none 0 0,.int .i64 0,.slice none 0 0,.int .i64 0,.slice none 0 0] 125)=W:=⟨_,rfl⟩;rw[ex6]at hx6 EJ aZ4 b8Y ⊢;obtain⟨g5,b8Z⟩:∃g,x5.heap.size=g:=⟨_,rfl⟩;try rw[b8Z]at aZ4 hg5
     try rw[b8Z]
     clear b8Z ex6;obtain⟨HS,bPG,aB8,b24,bHX⟩:=aI (jA.o _ hx6) hx6 EJ aZ4 b8Y;clear hx6 EJ aZ4 b8Y;first|refine Mid.mk ⟨HS.o,?_⟩|refine Mid.mk ?_
     refine jC 6 1 (by kernel_rfl) (by kernel_rfl) ?_;simp only[jB,aS,aT,aQ,aR];go_wp2_with (refine wpList_store_row rfl 125 (.tmp 5) (.tmp 10) rfl g5 #[.int .i64 0,.slice za zn zc,.int .i64 2,.slice pa pn pc,.int .i64 3,.slice ga gn gc,.int .i64 4,.slice ia iN ic,.int .i64 1,.slice fa fn fc] rfl rfl 125 _ b24.o (by kernel_rfl) rfl (by kernel_rfl) ?_)
     have L8:=b24.o.row #[.int .i64 0,.slice za zn zc,.int .i64 2,.slice pa pn pc,.int .i64 3,.slice ga gn gc,.int .i64 4,.slice ia iN ic,.int .i64 1,.slice fa fn fc];have L9:jJ (x6.setRow g5 #[.int .i64 0,.slice za zn zc,.int .i64 2,.slice pa pn pc,.int .i64 3,.slice ga gn gc,.int .i64 4,.slice ia iN ic,.int .i64 1,.slice fa fn fc]) g6 125 #[.int .i64 0,.slice none 0 0,.int .i64 0,.slice none 0 0,.int .i64 0,.slice none 0 0,.int .i64 0,.slice none 0 0,.int .i64 0,.slice none 0 0]:=(setRow_other x6 g5 g6 _ (by have:=hg5.o;have:=rQ.o;omega)).trans bHX.o;have hxa:=jP bPG.o (show W.heap.size≤g5 by have:=hg5.o;omega) #[.int .i64 0,.slice za zn zc,.int .i64 2,.slice pa pn pc,.int .i64 3,.slice ga gn gc,.int .i64 4,.slice ia iN ic,.int .i64 1,.slice fa fn fc];obtain⟨HS,CR,uL,CS⟩:=aH (jA.o _ hxa) L8 L9 hxa;clear L8 L9 hxa;first|refine Mid.mk ⟨HS.o,?_⟩|refine⟨HS.o,?_⟩
     refine jC 7 0 (by kernel_rfl) (by kernel_rfl) ?_;simp only[jB,aS,aT,aQ,aR];go_wp2_with (refine wpList_store_row rfl 125 (.tmp 6) (.tmp 12) rfl g6 #[.int .i64 0,.slice zB zC zD,.int .i64 2,.slice zF zG pc2,.int .i64 3,.slice zH zI zJ,.int .i64 4,.slice zK zL zM,.int .i64 1,.slice fa2 zN zO] rfl rfl 125 _ uL.o (by kernel_rfl) rfl (by kernel_rfl) ?_)
     have LA:=uL.o.row #[.int .i64 0,.slice zB zC zD,.int .i64 2,.slice zF zG pc2,.int .i64 3,.slice zH zI zJ,.int .i64 4,.slice zK zL zM,.int .i64 1,.slice fa2 zN zO];have LB:jJ ((x6.setRow g5 #[.int .i64 0,.slice za zn zc,.int .i64 2,.slice pa pn pc,.int .i64 3,.slice ga gn gc,.int .i64 4,.slice ia iN ic,.int .i64 1,.slice fa fn fc]).setRow g6 #[.int .i64 0,.slice zB zC zD,.int .i64 2,.slice zF zG pc2,.int .i64 3,.slice zH zI zJ,.int .i64 4,.slice zK zL zM,.int .i64 1,.slice fa2 zN zO]) g5 125 #[.int .i64 0,.slice za zn zc,.int .i64 2,.slice pa pn pc,.int .i64 3,.slice ga gn gc,.int .i64 4,.slice ia iN ic,.int .i64 1,.slice fa fn fc]:=(setRow_other (x6.setRow g5 #[.int .i64 0,.slice za zn zc,.int .i64 2,.slice pa pn pc,.int .i64 3,.slice ga gn gc,.int .i64 4,.slice ia iN ic,.int .i64 1,.slice fa fn fc]) g6 g5 _ (by have:=hg5.o;have:=rQ.o;omega)).trans CR.o;have hxb:=jP CS.o (show W.heap.size≤g6 by have:=rQ.o;omega) #[.int .i64 0,.slice zB zC zD,.int .i64 2,.slice zF zG pc2,.int .i64 3,.slice zH zI zJ,.int .i64 4,.slice zK zL zM,.int .i64 1,.slice fa2 zN zO];obtain⟨HS,CV,CW,CX⟩:=aH (jA.o _ hxb) LA LB hxb;clear LA LB hxb;first|(refine Mid.mk ⟨HS.o,?_⟩;refine jK (by kernel_rfl) ?_)|(refine⟨HS.o,?_⟩;refine jK (by kernel_rfl) ?_)|refine⟨HS.o,by kernel_rfl,?_⟩
     clear q0 q1 q2 q3 q4 q5 q6 q7 r0 r1 r2 r3 r4 r5 r6 r7;go_wp2_with fail
     go_meet
     case rel=>exact⟨g5,g6,rfl,rfl,CW,CV,CX⟩
   case refine_2=>
    go_wp2_with fail
    have aZ5:=aD x1 (.cells #[.int .i64 0,.slice none 0 0,.int .i64 0,.slice none 0 0,.int .i64 0,.slice none 0 0,.int .i64 0,.slice none 0 0,.int .i64 0,.slice none 0 0] 125);have bHY:=jJ.new x1 125 #[.int .i64 0,.slice none 0 0,.int .i64 0,.slice none 0 0,.int .i64 0,.slice none 0 0,.int .i64 0,.slice none 0 0,.int .i64 0,.slice none 0 0];have hx7:=VT.o.tm aZ5;have aZ6:=bHY;have hg5:=VT.o.size;replace hg5:=aA (And.intro hg5 trivial)
    clear bHY;obtain⟨x7,ex7⟩:∃W,x1.alloc (.cells #[.int .i64 0,.slice none 0 0,.int .i64 0,.slice none 0 0,.int .i64 0,.slice none 0 0,.int .i64 0,.slice none 0 0,.int .i64 0,.slice none 0 0] 125)=W:=⟨_,rfl⟩;rw[ex7]at hx7 aZ5 aZ6 ⊢;obtain⟨g5,b90⟩:∃g,x1.heap.size=g:=⟨_,rfl⟩;try rw[b90]at aZ6 hg5
    try rw[b90]
    clear b90 ex7;obtain⟨HS,aTU,bT0,aTV⟩:=aH (jA.o _ hx7) hx7 aZ5 aZ6;clear hx7 aZ5 aZ6;first|refine Mid.mk ⟨HS.o,?_⟩|refine Mid.mk ?_
    refine qX 3 5 3 (by kernel_rfl) (by kernel_rfl) ?_ ?_;all_goals simp only[jB,aS,aT,aQ,aR]
    case refine_1=>
     go_wp2_with fail
     refine(uZ.o _).mono ?_;rintro e x8 ⟨rfl,aZ7⟩;have hx8:=aTU.o.tm aZ7;have bHZ:=aTV.o.late aZ7;obtain⟨HS,b91,bT2,b25⟩:=aH (jA.o _ hx8) hx8 aZ7 bHZ;clear hx8 aZ7 bHZ;go_wp2_with fail
     first|refine Mid.mk ⟨HS.o,?_⟩|refine Mid.mk ?_
     refine jC 5 2 (by kernel_rfl) (by kernel_rfl) ?_;simp only[jB,aS,aT,aQ,aR];go_wp2_with fail
     have aTW:=aD x8 (.cells #[.int .i64 0,.slice none 0 0,.int .i64 0,.slice none 0 0,.int .i64 0,.slice none 0 0,.int .i64 0,.slice none 0 0,.int .i64 0,.slice none 0 0] 125);have bI0:=jJ.new x8 125 #[.int .i64 0,.slice none 0 0,.int .i64 0,.slice none 0 0,.int .i64 0,.slice none 0 0,.int .i64 0,.slice none 0 0,.int .i64 0,.slice none 0 0];have hx9:=b91.o.tm aTW;have aZ8:=bI0;have b92:=b25.o.late aTW;have rQ:=b91.o.size;have bPH:g5<x8.heap.size:=b25.o.lt;replace rQ:=aA (And.intro rQ bPH)
     clear bI0;obtain⟨x9,ex9⟩:∃W,x8.alloc (.cells #[.int .i64 0,.slice none 0 0,.int .i64 0,.slice none 0 0,.int .i64 0,.slice none 0 0,.int .i64 0,.slice none 0 0,.int .i64 0,.slice none 0 0] 125)=W:=⟨_,rfl⟩;rw[ex9]at hx9 aTW aZ8 b92 ⊢;obtain⟨g6,b93⟩:∃g,x8.heap.size=g:=⟨_,rfl⟩;try rw[b93]at aZ8 rQ
     try rw[b93]
     clear b93 ex9;obtain⟨HS,bPI,bT3,bI1,b26⟩:=aI (jA.o _ hx9) hx9 aTW aZ8 b92;clear hx9 aTW aZ8 b92;first|refine Mid.mk ⟨HS.o,?_⟩|refine Mid.mk ?_
     refine jC 6 1 (by kernel_rfl) (by kernel_rfl) ?_;simp only[jB,aS,aT,aQ,aR];go_wp2_with (refine wpList_store_row rfl 125 (.tmp 5) (.tmp 10) rfl g5 #[.int .i64 0,.slice za zn zc,.int .i64 2,.slice pa pn pc,.int .i64 3,.slice ga gn gc,.int .i64 4,.slice ia iN ic,.int .i64 1,.slice fa fn fc] rfl rfl 125 _ b26.o (by kernel_rfl) rfl (by kernel_rfl) ?_)
     have L8:=b26.o.row #[.int .i64 0,.slice za zn zc,.int .i64 2,.slice pa pn pc,.int .i64 3,.slice ga gn gc,.int .i64 4,.slice ia iN ic,.int .i64 1,.slice fa fn fc];have L9:jJ (x9.setRow g5 #[.int .i64 0,.slice za zn zc,.int .i64 2,.slice pa pn pc,.int .i64 3,.slice ga gn gc,.int .i64 4,.slice ia iN ic,.int .i64 1,.slice fa fn fc]) g6 125 #[.int .i64 0,.slice none 0 0,.int .i64 0,.slice none 0 0,.int .i64 0,.slice none 0 0,.int .i64 0,.slice none 0 0,.int .i64 0,.slice none 0 0]:=(setRow_other x9 g5 g6 _ (by have:=hg5.o;have:=rQ.o;omega)).trans bI1.o;have hxa:=jP bPI.o (show W.heap.size≤g5 by have:=hg5.o;omega) #[.int .i64 0,.slice za zn zc,.int .i64 2,.slice pa pn pc,.int .i64 3,.slice ga gn gc,.int .i64 4,.slice ia iN ic,.int .i64 1,.slice fa fn fc];obtain⟨HS,CR,uL,CS⟩:=aH (jA.o _ hxa) L8 L9 hxa;clear L8 L9 hxa;first|refine Mid.mk ⟨HS.o,?_⟩|refine⟨HS.o,?_⟩
     refine jC 7 0 (by kernel_rfl) (by kernel_rfl) ?_;simp only[jB,aS,aT,aQ,aR];go_wp2_with (refine wpList_store_row rfl 125 (.tmp 6) (.tmp 12) rfl g6 #[.int .i64 0,.slice zB zC zD,.int .i64 2,.slice zF zG pc2,.int .i64 3,.slice zH zI zJ,.int .i64 4,.slice zK zL zM,.int .i64 1,.slice fa2 zN zO] rfl rfl 125 _ uL.o (by kernel_rfl) rfl (by kernel_rfl) ?_)
     have LA:=uL.o.row #[.int .i64 0,.slice zB zC zD,.int .i64 2,.slice zF zG pc2,.int .i64 3,.slice zH zI zJ,.int .i64 4,.slice zK zL zM,.int .i64 1,.slice fa2 zN zO];have LB:jJ ((x9.setRow g5 #[.int .i64 0,.slice za zn zc,.int .i64 2,.slice pa pn pc,.int .i64 3,.slice ga gn gc,.int .i64 4,.slice ia iN ic,.int .i64 1,.slice fa fn fc]).setRow g6 #[.int .i64 0,.slice zB zC zD,.int .i64 2,.slice zF zG pc2,.int .i64 3,.slice zH zI zJ,.int .i64 4,.slice zK zL zM,.int .i64 1,.slice fa2 zN zO]) g5 125 #[.int .i64 0,.slice za zn zc,.int .i64 2,.slice pa pn pc,.int .i64 3,.slice ga gn gc,.int .i64 4,.slice ia iN ic,.int .i64 1,.slice fa fn fc]:=(setRow_other (x9.setRow g5 #[.int .i64 0,.slice za zn zc,.int .i64 2,.slice pa pn pc,.int .i64 3,.slice ga gn gc,.int .i64 4,.slice ia iN ic,.int .i64 1,.slice fa fn fc]) g6 g5 _ (by have:=hg5.o;have:=rQ.o;omega)).trans CR.o;have hxb:=jP CS.o (show W.heap.size≤g6 by have:=rQ.o;omega) #[.int .i64 0,.slice zB zC zD,.int .i64 2,.slice zF zG pc2,.int .i64 3,.slice zH zI zJ,.int .i64 4,.slice zK zL zM,.int .i64 1,.slice fa2 zN zO];obtain⟨HS,CV,CW,CX⟩:=aH (jA.o _ hxb) LA LB hxb;clear LA LB hxb;first|(refine Mid.mk ⟨HS.o,?_⟩;refine jK (by kernel_rfl) ?_)|(refine⟨HS.o,?_⟩;refine jK (by kernel_rfl) ?_)|refine⟨HS.o,by kernel_rfl,?_⟩
     clear q0 q1 q2 q3 q4 q5 q6 q7 r0 r1 r2 r3 r4 r5 r6 r7;go_wp2_with fail
     go_meet
     case rel=>exact⟨g5,g6,rfl,rfl,CW,CV,CX⟩
    case refine_2=>
     go_wp2_with fail
     have aCA:=aD x7 (.cells #[.int .i64 0,.slice none 0 0,.int .i64 0,.slice none 0 0,.int .i64 0,.slice none 0 0,.int .i64 0,.slice none 0 0,.int .i64 0,.slice none 0 0] 125);have b27:=jJ.new x7 125 #[.int .i64 0,.slice none 0 0,.int .i64 0,.slice none 0 0,.int .i64 0,.slice none 0 0,.int .i64 0,.slice none 0 0,.int .i64 0,.slice none 0 0];have aZ9:=aTU.o.tm aCA;have aIF:=b27;have aTX:=aTV.o.late aCA;have rQ:=aTU.o.size;have bI2:g5<x7.heap.size:=aTV.o.lt;replace rQ:=aA (And.intro rQ bI2)
     clear b27;obtain⟨x10,bI3⟩:∃W,x7.alloc (.cells #[.int .i64 0,.slice none 0 0,.int .i64 0,.slice none 0 0,.int .i64 0,.slice none 0 0,.int .i64 0,.slice none 0 0,.int .i64 0,.slice none 0 0] 125)=W:=⟨_,rfl⟩;rw[bI3]at aZ9 aCA aIF aTX ⊢;obtain⟨g6,aTY⟩:∃g,x7.heap.size=g:=⟨_,rfl⟩;try rw[aTY]at aIF rQ
     try rw[aTY]
     clear aTY bI3;obtain⟨HS,b28,bPJ,b94,b95⟩:=aI (jA.o _ aZ9) aZ9 aCA aIF aTX;clear aZ9 aCA aIF aTX;first|refine Mid.mk ⟨HS.o,?_⟩|refine Mid.mk ?_
     refine jC 3 2 (by kernel_rfl) (by kernel_rfl) ?_;simp only[jB,aS,aT,aQ,aR];go_wp2_with fail
     refine(uZ.o _).mono ?_;rintro e x11 ⟨rfl,aCB⟩;have b96:=b28.o.tm aCB;have b29:=b95.o.late aCB;have b2A:=b94.o.late aCB;obtain⟨HS,bI4,bPK,aTZ,b97⟩:=aI (jA.o _ b96) b96 aCB b29 b2A;clear b96 aCB b29 b2A;go_wp2_with fail
     first|refine Mid.mk ⟨HS.o,?_⟩|refine Mid.mk ?_
     refine jC 6 1 (by kernel_rfl) (by kernel_rfl) ?_;simp only[jB,aS,aT,aQ,aR];go_wp2_with (refine wpList_store_row rfl 125 (.tmp 5) (.tmp 10) rfl g5 #[.int .i64 0,.slice za zn zc,.int .i64 2,.slice pa pn pc,.int .i64 3,.slice ga gn gc,.int .i64 4,.slice ia iN ic,.int .i64 1,.slice fa fn fc] rfl rfl 125 _ aTZ.o (by kernel_rfl) rfl (by kernel_rfl) ?_)
     have L8:=aTZ.o.row #[.int .i64 0,.slice za zn zc,.int .i64 2,.slice pa pn pc,.int .i64 3,.slice ga gn gc,.int .i64 4,.slice ia iN ic,.int .i64 1,.slice fa fn fc];have L9:jJ (x11.setRow g5 #[.int .i64 0,.slice za zn zc,.int .i64 2,.slice pa pn pc,.int .i64 3,.slice ga gn gc,.int .i64 4,.slice ia iN ic,.int .i64 1,.slice fa fn fc]) g6 125 #[.int .i64 0,.slice none 0 0,.int .i64 0,.slice none 0 0,.int .i64 0,.slice none 0 0,.int .i64 0,.slice none 0 0,.int .i64 0,.slice none 0 0]:=(setRow_other x11 g5 g6 _ (by have:=hg5.o;have:=rQ.o;omega)).trans b97.o;have hxa:=jP bI4.o (show W.heap.size≤g5 by have:=hg5.o;omega) #[.int .i64 0,.slice za zn zc,.int .i64 2,.slice pa pn pc,.int .i64 3,.slice ga gn gc,.int .i64 4,.slice ia iN ic,.int .i64 1,.slice fa fn fc];obtain⟨HS,CR,uL,CS⟩:=aH (jA.o _ hxa) L8 L9 hxa;clear L8 L9 hxa;first|refine Mid.mk ⟨HS.o,?_⟩|refine⟨HS.o,?_⟩
     refine jC 7 0 (by kernel_rfl) (by kernel_rfl) ?_;simp only[jB,aS,aT,aQ,aR];go_wp2_with (refine wpList_store_row rfl 125 (.tmp 6) (.tmp 12) rfl g6 #[.int .i64 0,.slice zB zC zD,.int .i64 2,.slice zF zG pc2,.int .i64 3,.slice zH zI zJ,.int .i64 4,.slice zK zL zM,.int .i64 1,.slice fa2 zN zO] rfl rfl 125 _ uL.o (by kernel_rfl) rfl (by kernel_rfl) ?_)
     have LA:=uL.o.row #[.int .i64 0,.slice zB zC zD,.int .i64 2,.slice zF zG pc2,.int .i64 3,.slice zH zI zJ,.int .i64 4,.slice zK zL zM,.int .i64 1,.slice fa2 zN zO];have LB:jJ ((x11.setRow g5 #[.int .i64 0,.slice za zn zc,.int .i64 2,.slice pa pn pc,.int .i64 3,.slice ga gn gc,.int .i64 4,.slice ia iN ic,.int .i64 1,.slice fa fn fc]).setRow g6 #[.int .i64 0,.slice zB zC zD,.int .i64 2,.slice zF zG pc2,.int .i64 3,.slice zH zI zJ,.int .i64 4,.slice zK zL zM,.int .i64 1,.slice fa2 zN zO]) g5 125 #[.int .i64 0,.slice za zn zc,.int .i64 2,.slice pa pn pc,.int .i64 3,.slice ga gn gc,.int .i64 4,.slice ia iN ic,.int .i64 1,.slice fa fn fc]:=(setRow_other (x11.setRow g5 #[.int .i64 0,.slice za zn zc,.int .i64 2,.slice pa pn pc,.int .i64 3,.slice ga gn gc,.int .i64 4,.slice ia iN ic,.int .i64 1,.slice fa fn fc]) g6 g5 _ (by have:=hg5.o;have:=rQ.o;omega)).trans CR.o;have hxb:=jP CS.o (show W.heap.size≤g6 by have:=rQ.o;omega) #[.int .i64 0,.slice zB zC zD,.int .i64 2,.slice zF zG pc2,.int .i64 3,.slice zH zI zJ,.int .i64 4,.slice zK zL zM,.int .i64 1,.slice fa2 zN zO];obtain⟨HS,CV,CW,CX⟩:=aH (jA.o _ hxb) LA LB hxb;clear LA LB hxb;first|(refine Mid.mk ⟨HS.o,?_⟩;refine jK (by kernel_rfl) ?_)|(refine⟨HS.o,?_⟩;refine jK (by kernel_rfl) ?_)|refine⟨HS.o,by kernel_rfl,?_⟩
     clear q0 q1 q2 q3 q4 q5 q6 q7 r0 r1 r2 r3 r4 r5 r6 r7;go_wp2_with fail
     go_meet
     case rel=>exact⟨g5,g6,rfl,rfl,CW,CV,CX⟩
   case refine_3=>
    go_wp2_with fail
    have KN:=aD x1 (.cells #[.int .i64 0,.slice none 0 0,.int .i64 0,.slice none 0 0,.int .i64 0,.slice none 0 0,.int .i64 0,.slice none 0 0,.int .i64 0,.slice none 0 0] 125);have b2B:=jJ.new x1 125 #[.int .i64 0,.slice none 0 0,.int .i64 0,.slice none 0 0,.int .i64 0,.slice none 0 0,.int .i64 0,.slice none 0 0,.int .i64 0,.slice none 0 0];have U6:=VT.o.tm KN;have aIG:=b2B;have rQ:=VT.o.size;replace rQ:=aA (And.intro rQ trivial)
    clear b2B;obtain⟨x12,bI5⟩:∃W,x1.alloc (.cells #[.int .i64 0,.slice none 0 0,.int .i64 0,.slice none 0 0,.int .i64 0,.slice none 0 0,.int .i64 0,.slice none 0 0,.int .i64 0,.slice none 0 0] 125)=W:=⟨_,rfl⟩;rw[bI5]at U6 KN aIG ⊢;obtain⟨g6,aU1⟩:∃g,x1.heap.size=g:=⟨_,rfl⟩;try rw[aU1]at aIG rQ
    try rw[aU1]
    clear aU1 bI5;obtain⟨HS,a3L,b7H,aGI⟩:=aH (jA.o _ U6) U6 KN aIG;clear U6 KN aIG;first|refine Mid.mk ⟨HS.o,?_⟩|refine Mid.mk ?_
    refine qX 3 4 3 (by kernel_rfl) (by kernel_rfl) ?_ ?_;all_goals simp only[jB,aS,aT,aQ,aR]
    case refine_1=>
     go_wp2_with fail
     refine(uZ.o _).mono ?_;rintro e x13 ⟨rfl,aIH⟩;have b98:=a3L.o.tm aIH;have b2C:=aGI.o.late aIH;obtain⟨HS,aU2,bPL,aU3⟩:=aH (jA.o _ b98) b98 aIH b2C;clear b98 aIH b2C;go_wp2_with fail
     first|refine Mid.mk ⟨HS.o,?_⟩|refine Mid.mk ?_
     refine jC 4 2 (by kernel_rfl) (by kernel_rfl) ?_;simp only[jB,aS,aT,aQ,aR];go_wp2_with fail
     have aCC:=aD x13 (.cells #[.int .i64 0,.slice none 0 0,.int .i64 0,.slice none 0 0,.int .i64 0,.slice none 0 0,.int .i64 0,.slice none 0 0,.int .i64 0,.slice none 0 0] 125);have b2D:=jJ.new x13 125 #[.int .i64 0,.slice none 0 0,.int .i64 0,.slice none 0 0,.int .i64 0,.slice none 0 0,.int .i64 0,.slice none 0 0,.int .i64 0,.slice none 0 0];have aZA:=aU2.o.tm aCC;have aII:=b2D;have aU4:=aU3.o.late aCC;have hg5:=aU2.o.size;have bI6:g6<x13.heap.size:=aU3.o.lt;replace hg5:=aA (And.intro hg5 bI6)
     clear b2D;obtain⟨x14,bI7⟩:∃W,x13.alloc (.cells #[.int .i64 0,.slice none 0 0,.int .i64 0,.slice none 0 0,.int .i64 0,.slice none 0 0,.int .i64 0,.slice none 0 0,.int .i64 0,.slice none 0 0] 125)=W:=⟨_,rfl⟩;rw[bI7]at aZA aCC aII aU4 ⊢;obtain⟨g5,aU5⟩:∃g,x13.heap.size=g:=⟨_,rfl⟩;try rw[aU5]at aII hg5
     try rw[aU5]
     clear aU5 bI7;obtain⟨HS,bI8,bPM,aU6,b99⟩:=aI (jA.o _ aZA) aZA aCC aII aU4;clear aZA aCC aII aU4;first|refine Mid.mk ⟨HS.o,?_⟩|refine Mid.mk ?_
     refine jC 6 1 (by kernel_rfl) (by kernel_rfl) ?_;simp only[jB,aS,aT,aQ,aR];go_wp2_with (refine wpList_store_row rfl 125 (.tmp 5) (.tmp 10) rfl g5 #[.int .i64 0,.slice za zn zc,.int .i64 2,.slice pa pn pc,.int .i64 3,.slice ga gn gc,.int .i64 4,.slice ia iN ic,.int .i64 1,.slice fa fn fc] rfl rfl 125 _ aU6.o (by kernel_rfl) rfl (by kernel_rfl) ?_)
     have L8:=aU6.o.row #[.int .i64 0,.slice za zn zc,.int .i64 2,.slice pa pn pc,.int .i64 3,.slice ga gn gc,.int .i64 4,.slice ia iN ic,.int .i64 1,.slice fa fn fc];have L9:jJ (x14.setRow g5 #[.int .i64 0,.slice za zn zc,.int .i64 2,.slice pa pn pc,.int .i64 3,.slice ga gn gc,.int .i64 4,.slice ia iN ic,.int .i64 1,.slice fa fn fc]) g6 125 #[.int .i64 0,.slice none 0 0,.int .i64 0,.slice none 0 0,.int .i64 0,.slice none 0 0,.int .i64 0,.slice none 0 0,.int .i64 0,.slice none 0 0]:=(setRow_other x14 g5 g6 _ (by have:=hg5.o;have:=rQ.o;omega)).trans b99.o;have hxa:=jP bI8.o (show W.heap.size≤g5 by have:=hg5.o;omega) #[.int .i64 0,.slice za zn zc,.int .i64 2,.slice pa pn pc,.int .i64 3,.slice ga gn gc,.int .i64 4,.slice ia iN ic,.int .i64 1,.slice fa fn fc];obtain⟨HS,CR,uL,CS⟩:=aH (jA.o _ hxa) L8 L9 hxa;clear L8 L9 hxa;first|refine Mid.mk ⟨HS.o,?_⟩|refine⟨HS.o,?_⟩
     refine jC 7 0 (by kernel_rfl) (by kernel_rfl) ?_;simp only[jB,aS,aT,aQ,aR];go_wp2_with (refine wpList_store_row rfl 125 (.tmp 6) (.tmp 12) rfl g6 #[.int .i64 0,.slice zB zC zD,.int .i64 2,.slice zF zG pc2,.int .i64 3,.slice zH zI zJ,.int .i64 4,.slice zK zL zM,.int .i64 1,.slice fa2 zN zO] rfl rfl 125 _ uL.o (by kernel_rfl) rfl (by kernel_rfl) ?_)
     have LA:=uL.o.row #[.int .i64 0,.slice zB zC zD,.int .i64 2,.slice zF zG pc2,.int .i64 3,.slice zH zI zJ,.int .i64 4,.slice zK zL zM,.int .i64 1,.slice fa2 zN zO];have LB:jJ ((x14.setRow g5 #[.int .i64 0,.slice za zn zc,.int .i64 2,.slice pa pn pc,.int .i64 3,.slice ga gn gc,.int .i64 4,.slice ia iN ic,.int .i64 1,.slice fa fn fc]).setRow g6 #[.int .i64 0,.slice zB zC zD,.int .i64 2,.slice zF zG pc2,.int .i64 3,.slice zH zI zJ,.int .i64 4,.slice zK zL zM,.int .i64 1,.slice fa2 zN zO]) g5 125 #[.int .i64 0,.slice za zn zc,.int .i64 2,.slice pa pn pc,.int .i64 3,.slice ga gn gc,.int .i64 4,.slice ia iN ic,.int .i64 1,.slice fa fn fc]:=(setRow_other (x14.setRow g5 #[.int .i64 0,.slice za zn zc,.int .i64 2,.slice pa pn pc,.int .i64 3,.slice ga gn gc,.int .i64 4,.slice ia iN ic,.int .i64 1,.slice fa fn fc]) g6 g5 _ (by have:=hg5.o;have:=rQ.o;omega)).trans CR.o;have hxb:=jP CS.o (show W.heap.size≤g6 by have:=rQ.o;omega) #[.int .i64 0,.slice zB zC zD,.int .i64 2,.slice zF zG pc2,.int .i64 3,.slice zH zI zJ,.int .i64 4,.slice zK zL zM,.int .i64 1,.slice fa2 zN zO];obtain⟨HS,CV,CW,CX⟩:=aH (jA.o _ hxb) LA LB hxb;clear LA LB hxb;first|(refine Mid.mk ⟨HS.o,?_⟩;refine jK (by kernel_rfl) ?_)|(refine⟨HS.o,?_⟩;refine jK (by kernel_rfl) ?_)|refine⟨HS.o,by kernel_rfl,?_⟩
     clear q0 q1 q2 q3 q4 q5 q6 q7 r0 r1 r2 r3 r4 r5 r6 r7;go_wp2_with fail
     go_meet
     case rel=>exact⟨g5,g6,rfl,rfl,CW,CV,CX⟩
    case refine_2=>
     go_wp2_with fail
     have aCD:=aD x12 (.cells #[.int .i64 0,.slice none 0 0,.int .i64 0,.slice none 0 0,.int .i64 0,.slice none 0 0,.int .i64 0,.slice none 0 0,.int .i64 0,.slice none 0 0] 125);have b2E:=jJ.new x12 125 #[.int .i64 0,.slice none 0 0,.int .i64 0,.slice none 0 0,.int .i64 0,.slice none 0 0,.int .i64 0,.slice none 0 0,.int .i64 0,.slice none 0 0];have aZB:=a3L.o.tm aCD;have aIJ:=b2E;have aU7:=aGI.o.late aCD;have hg5:=a3L.o.size;have bI9:g6<x12.heap.size:=aGI.o.lt;replace hg5:=aA (And.intro hg5 bI9)
     clear b2E;obtain⟨x15,bIA⟩:∃W,x12.alloc (.cells #[.int .i64 0,.slice none 0 0,.int .i64 0,.slice none 0 0,.int .i64 0,.slice none 0 0,.int .i64 0,.slice none 0 0,.int .i64 0,.slice none 0 0] 125)=W:=⟨_,rfl⟩;rw[bIA]at aZB aCD aIJ aU7 ⊢;obtain⟨g5,aU8⟩:∃g,x12.heap.size=g:=⟨_,rfl⟩;try rw[aU8]at aIJ hg5
     try rw[aU8]
     clear aU8 bIA;obtain⟨HS,b2F,bPN,b9A,b9B⟩:=aI (jA.o _ aZB) aZB aCD aIJ aU7;clear aZB aCD aIJ aU7;first|refine Mid.mk ⟨HS.o,?_⟩|refine Mid.mk ?_
     refine jC 3 2 (by kernel_rfl) (by kernel_rfl) ?_;simp only[jB,aS,aT,aQ,aR];go_wp2_with fail
     refine(uZ.o _).mono ?_;rintro e x16 ⟨rfl,aCE⟩;have hx16:=b2F.o.tm aCE;have b2G:=b9A.o.late aCE;have b2H:=b9B.o.late aCE;obtain⟨HS,bIB,bPO,aU9,b9C⟩:=aI (jA.o _ hx16) hx16 aCE b2G b2H;clear hx16 aCE b2G b2H;go_wp2_with fail
     first|refine Mid.mk ⟨HS.o,?_⟩|refine Mid.mk ?_
     refine jC 6 1 (by kernel_rfl) (by kernel_rfl) ?_;simp only[jB,aS,aT,aQ,aR];go_wp2_with (refine wpList_store_row rfl 125 (.tmp 5) (.tmp 10) rfl g5 #[.int .i64 0,.slice za zn zc,.int .i64 2,.slice pa pn pc,.int .i64 3,.slice ga gn gc,.int .i64 4,.slice ia iN ic,.int .i64 1,.slice fa fn fc] rfl rfl 125 _ aU9.o (by kernel_rfl) rfl (by kernel_rfl) ?_)
     have L8:=aU9.o.row #[.int .i64 0,.slice za zn zc,.int .i64 2,.slice pa pn pc,.int .i64 3,.slice ga gn gc,.int .i64 4,.slice ia iN ic,.int .i64 1,.slice fa fn fc];have L9:jJ (x16.setRow g5 #[.int .i64 0,.slice za zn zc,.int .i64 2,.slice pa pn pc,.int .i64 3,.slice ga gn gc,.int .i64 4,.slice ia iN ic,.int .i64 1,.slice fa fn fc]) g6 125 #[.int .i64 0,.slice none 0 0,.int .i64 0,.slice none 0 0,.int .i64 0,.slice none 0 0,.int .i64 0,.slice none 0 0,.int .i64 0,.slice none 0 0]:=(setRow_other x16 g5 g6 _ (by have:=hg5.o;have:=rQ.o;omega)).trans b9C.o;have hxa:=jP bIB.o (show W.heap.size≤g5 by have:=hg5.o;omega) #[.int .i64 0,.slice za zn zc,.int .i64 2,.slice pa pn pc,.int .i64 3,.slice ga gn gc,.int .i64 4,.slice ia iN ic,.int .i64 1,.slice fa fn fc];obtain⟨HS,CR,uL,CS⟩:=aH (jA.o _ hxa) L8 L9 hxa;clear L8 L9 hxa;first|refine Mid.mk ⟨HS.o,?_⟩|refine⟨HS.o,?_⟩
     refine jC 7 0 (by kernel_rfl) (by kernel_rfl) ?_;simp only[jB,aS,aT,aQ,aR];go_wp2_with (refine wpList_store_row rfl 125 (.tmp 6) (.tmp 12) rfl g6 #[.int .i64 0,.slice zB zC zD,.int .i64 2,.slice zF zG pc2,.int .i64 3,.slice zH zI zJ,.int .i64 4,.slice zK zL zM,.int .i64 1,.slice fa2 zN zO] rfl rfl 125 _ uL.o (by kernel_rfl) rfl (by kernel_rfl) ?_)
     have LA:=uL.o.row #[.int .i64 0,.slice zB zC zD,.int .i64 2,.slice zF zG pc2,.int .i64 3,.slice zH zI zJ,.int .i64 4,.slice zK zL zM,.int .i64 1,.slice fa2 zN zO];have LB:jJ ((x16.setRow g5 #[.int .i64 0,.slice za zn zc,.int .i64 2,.slice pa pn pc,.int .i64 3,.slice ga gn gc,.int .i64 4,.slice ia iN ic,.int .i64 1,.slice fa fn fc]).setRow g6 #[.int .i64 0,.slice zB zC zD,.int .i64 2,.slice zF zG pc2,.int .i64 3,.slice zH zI zJ,.int .i64 4,.slice zK zL zM,.int .i64 1,.slice fa2 zN zO]) g5 125 #[.int .i64 0,.slice za zn zc,.int .i64 2,.slice pa pn pc,.int .i64 3,.slice ga gn gc,.int .i64 4,.slice ia iN ic,.int .i64 1,.slice fa fn fc]:=(setRow_other (x16.setRow g5 #[.int .i64 0,.slice za zn zc,.int .i64 2,.slice pa pn pc,.int .i64 3,.slice ga gn gc,.int .i64 4,.slice ia iN ic,.int .i64 1,.slice fa fn fc]) g6 g5 _ (by have:=hg5.o;have:=rQ.o;omega)).trans CR.o;have hxb:=jP CS.o (show W.heap.size≤g6 by have:=rQ.o;omega) #[.int .i64 0,.slice zB zC zD,.int .i64 2,.slice zF zG pc2,.int .i64 3,.slice zH zI zJ,.int .i64 4,.slice zK zL zM,.int .i64 1,.slice fa2 zN zO];obtain⟨HS,CV,CW,CX⟩:=aH (jA.o _ hxb) LA LB hxb;clear LA LB hxb;first|(refine Mid.mk ⟨HS.o,?_⟩;refine jK (by kernel_rfl) ?_)|(refine⟨HS.o,?_⟩;refine jK (by kernel_rfl) ?_)|refine⟨HS.o,by kernel_rfl,?_⟩
     clear q0 q1 q2 q3 q4 q5 q6 q7 r0 r1 r2 r3 r4 r5 r6 r7;go_wp2_with fail
     go_meet
     case rel=>exact⟨g5,g6,rfl,rfl,CW,CV,CX⟩
  case refine_2=>
   go_wp2_with fail
   have aIK:=aD wD (.cells #[.int .i64 0,.slice none 0 0,.int .i64 0,.slice none 0 0,.int .i64 0,.slice none 0 0,.int .i64 0,.slice none 0 0,.int .i64 0,.slice none 0 0] 125);have b2I:=jJ.new wD 125 #[.int .i64 0,.slice none 0 0,.int .i64 0,.slice none 0 0,.int .i64 0,.slice none 0 0,.int .i64 0,.slice none 0 0,.int .i64 0,.slice none 0 0];have aZC:=HD.o.tm aIK;have aIL:=b2I;have hg5:=HD.o.size;replace hg5:=aA (And.intro hg5 trivial)
   clear b2I;obtain⟨x17,bIC⟩:∃W,wD.alloc (.cells #[.int .i64 0,.slice none 0 0,.int .i64 0,.slice none 0 0,.int .i64 0,.slice none 0 0,.int .i64 0,.slice none 0 0,.int .i64 0,.slice none 0 0] 125)=W:=⟨_,rfl⟩;rw[bIC]at aZC aIK aIL ⊢;obtain⟨g5,aUA⟩:∃g,wD.heap.size=g:=⟨_,rfl⟩;try rw[aUA]at aIL hg5
   try rw[aUA]
   clear aUA bIC;obtain⟨HS,aCF,bPP,aGJ⟩:=aH (jA.o _ aZC) aZC aIK aIL;clear aZC aIK aIL;first|refine Mid.mk ⟨HS.o,?_⟩|refine Mid.mk ?_
   refine qX 1 5 4 (by kernel_rfl) (by kernel_rfl) ?_ ?_;all_goals simp only[jB,aS,aT,aQ,aR]
   case refine_1=>
    go_wp2_with fail
    refine(O0.o _).mono ?_;rintro e x18 ⟨rfl,aIM⟩;have b9D:=aCF.o.tm aIM;have b2J:=aGJ.o.late aIM;obtain⟨HS,aCG,bPQ,aGK⟩:=aH (jA.o _ b9D) b9D aIM b2J;clear b9D aIM b2J;go_wp2_with fail
    first|refine Mid.mk ⟨HS.o,?_⟩|refine Mid.mk ?_
    refine qX 3 5 3 (by kernel_rfl) (by kernel_rfl) ?_ ?_;all_goals simp only[jB,aS,aT,aQ,aR]
    case refine_1=>
     go_wp2_with fail
     refine(uZ.o _).mono ?_;rintro e x19 ⟨rfl,aIN⟩;have b9E:=aCG.o.tm aIN;have b2K:=aGK.o.late aIN;obtain⟨HS,aUB,bPR,aUC⟩:=aH (jA.o _ b9E) b9E aIN b2K;clear b9E aIN b2K;go_wp2_with fail
     first|refine Mid.mk ⟨HS.o,?_⟩|refine Mid.mk ?_
     refine jC 5 2 (by kernel_rfl) (by kernel_rfl) ?_;simp only[jB,aS,aT,aQ,aR];go_wp2_with fail
     have aCH:=aD x19 (.cells #[.int .i64 0,.slice none 0 0,.int .i64 0,.slice none 0 0,.int .i64 0,.slice none 0 0,.int .i64 0,.slice none 0 0,.int .i64 0,.slice none 0 0] 125);have b2L:=jJ.new x19 125 #[.int .i64 0,.slice none 0 0,.int .i64 0,.slice none 0 0,.int .i64 0,.slice none 0 0,.int .i64 0,.slice none 0 0,.int .i64 0,.slice none 0 0];have aZD:=aUB.o.tm aCH;have aIO:=b2L;have aUD:=aUC.o.late aCH;have rQ:=aUB.o.size;have bID:g5<x19.heap.size:=aUC.o.lt;replace rQ:=aA (And.intro rQ bID)
     clear b2L;obtain⟨x20,bIE⟩:∃W,x19.alloc (.cells #[.int .i64 0,.slice none 0 0,.int .i64 0,.slice none 0 0,.int .i64 0,.slice none 0 0,.int .i64 0,.slice none 0 0,.int .i64 0,.slice none 0 0] 125)=W:=⟨_,rfl⟩;rw[bIE]at aZD aCH aIO aUD ⊢;obtain⟨g6,aUE⟩:∃g,x19.heap.size=g:=⟨_,rfl⟩;try rw[aUE]at aIO rQ
     try rw[aUE]
     clear aUE bIE;obtain⟨HS,bIF,bPS,b9F,aUF⟩:=aI (jA.o _ aZD) aZD aCH aIO aUD;clear aZD aCH aIO aUD;first|refine Mid.mk ⟨HS.o,?_⟩|refine Mid.mk ?_
     refine jC 6 1 (by kernel_rfl) (by kernel_rfl) ?_;simp only[jB,aS,aT,aQ,aR];go_wp2_with (refine wpList_store_row rfl 125 (.tmp 5) (.tmp 10) rfl g5 #[.int .i64 0,.slice za zn zc,.int .i64 2,.slice pa pn pc,.int .i64 3,.slice ga gn gc,.int .i64 4,.slice ia iN ic,.int .i64 1,.slice fa fn fc] rfl rfl 125 _ aUF.o (by kernel_rfl) rfl (by kernel_rfl) ?_)
     have L8:=aUF.o.row #[.int .i64 0,.slice za zn zc,.int .i64 2,.slice pa pn pc,.int .i64 3,.slice ga gn gc,.int .i64 4,.slice ia iN ic,.int .i64 1,.slice fa fn fc];have L9:jJ (x20.setRow g5 #[.int .i64 0,.slice za zn zc,.int .i64 2,.slice pa pn pc,.int .i64 3,.slice ga gn gc,.int .i64 4,.slice ia iN ic,.int .i64 1,.slice fa fn fc]) g6 125 #[.int .i64 0,.slice none 0 0,.int .i64 0,.slice none 0 0,.int .i64 0,.slice none 0 0,.int .i64 0,.slice none 0 0,.int .i64 0,.slice none 0 0]:=(setRow_other x20 g5 g6 _ (by have:=hg5.o;have:=rQ.o;omega)).trans b9F.o;have hxa:=jP bIF.o (show W.heap.size≤g5 by have:=hg5.o;omega) #[.int .i64 0,.slice za zn zc,.int .i64 2,.slice pa pn pc,.int .i64 3,.slice ga gn gc,.int .i64 4,.slice ia iN ic,.int .i64 1,.slice fa fn fc];obtain⟨HS,CR,uL,CS⟩:=aH (jA.o _ hxa) L8 L9 hxa;clear L8 L9 hxa;first|refine Mid.mk ⟨HS.o,?_⟩|refine⟨HS.o,?_⟩
     refine jC 7 0 (by kernel_rfl) (by kernel_rfl) ?_;simp only[jB,aS,aT,aQ,aR];go_wp2_with (refine wpList_store_row rfl 125 (.tmp 6) (.tmp 12) rfl g6 #[.int .i64 0,.slice zB zC zD,.int .i64 2,.slice zF zG pc2,.int .i64 3,.slice zH zI zJ,.int .i64 4,.slice zK zL zM,.int .i64 1,.slice fa2 zN zO] rfl rfl 125 _ uL.o (by kernel_rfl) rfl (by kernel_rfl) ?_)
     have LA:=uL.o.row #[.int .i64 0,.slice zB zC zD,.int .i64 2,.slice zF zG pc2,.int .i64 3,.slice zH zI zJ,.int .i64 4,.slice zK zL zM,.int .i64 1,.slice fa2 zN zO];have LB:jJ ((x20.setRow g5 #[.int .i64 0,.slice za zn zc,.int .i64 2,.slice pa pn pc,.int .i64 3,.slice ga gn gc,.int .i64 4,.slice ia iN ic,.int .i64 1,.slice fa fn fc]).setRow g6 #[.int .i64 0,.slice zB zC zD,.int .i64 2,.slice zF zG pc2,.int .i64 3,.slice zH zI zJ,.int .i64 4,.slice zK zL zM,.int .i64 1,.slice fa2 zN zO]) g5 125 #[.int .i64 0,.slice za zn zc,.int .i64 2,.slice pa pn pc,.int .i64 3,.slice ga gn gc,.int .i64 4,.slice ia iN ic,.int .i64 1,.slice fa fn fc]:=(setRow_other (x20.setRow g5 #[.int .i64 0,.slice za zn zc,.int .i64 2,.slice pa pn pc,.int .i64 3,.slice ga gn gc,.int .i64 4,.slice ia iN ic,.int .i64 1,.slice fa fn fc]) g6 g5 _ (by have:=hg5.o;have:=rQ.o;omega)).trans CR.o;have hxb:=jP CS.o (show W.heap.size≤g6 by have:=rQ.o;omega) #[.int .i64 0,.slice zB zC zD,.int .i64 2,.slice zF zG pc2,.int .i64 3,.slice zH zI zJ,.int .i64 4,.slice zK zL zM,.int .i64 1,.slice fa2 zN zO];obtain⟨HS,CV,CW,CX⟩:=aH (jA.o _ hxb) LA LB hxb;clear LA LB hxb;first|(refine Mid.mk ⟨HS.o,?_⟩;refine jK (by kernel_rfl) ?_)|(refine⟨HS.o,?_⟩;refine jK (by kernel_rfl) ?_)|refine⟨HS.o,by kernel_rfl,?_⟩
     clear q0 q1 q2 q3 q4 q5 q6 q7 r0 r1 r2 r3 r4 r5 r6 r7;go_wp2_with fail
     go_meet
     case rel=>exact⟨g5,g6,rfl,rfl,CW,CV,CX⟩
    case refine_2=>
     go_wp2_with fail
     have aCI:=aD x18 (.cells #[.int .i64 0,.slice none 0 0,.int .i64 0,.slice none 0 0,.int .i64 0,.slice none 0 0,.int .i64 0,.slice none 0 0,.int .i64 0,.slice none 0 0] 125);have b2M:=jJ.new x18 125 #[.int .i64 0,.slice none 0 0,.int .i64 0,.slice none 0 0,.int .i64 0,.slice none 0 0,.int .i64 0,.slice none 0 0,.int .i64 0,.slice none 0 0];have aZE:=aCG.o.tm aCI;have aIP:=b2M;have aUG:=aGK.o.late aCI;have rQ:=aCG.o.size;have bIG:g5<x18.heap.size:=aGK.o.lt;replace rQ:=aA (And.intro rQ bIG)
     clear b2M;obtain⟨x21,bIH⟩:∃W,x18.alloc (.cells #[.int .i64 0,.slice none 0 0,.int .i64 0,.slice none 0 0,.int .i64 0,.slice none 0 0,.int .i64 0,.slice none 0 0,.int .i64 0,.slice none 0 0] 125)=W:=⟨_,rfl⟩;rw[bIH]at aZE aCI aIP aUG ⊢;obtain⟨g6,aUH⟩:∃g,x18.heap.size=g:=⟨_,rfl⟩;try rw[aUH]at aIP rQ
     try rw[aUH]
     clear aUH bIH;obtain⟨HS,b2N,bPT,b9G,b9H⟩:=aI (jA.o _ aZE) aZE aCI aIP aUG;clear aZE aCI aIP aUG;first|refine Mid.mk ⟨HS.o,?_⟩|refine Mid.mk ?_
     refine jC 3 2 (by kernel_rfl) (by kernel_rfl) ?_;simp only[jB,aS,aT,aQ,aR];go_wp2_with fail
     refine(uZ.o _).mono ?_;rintro e x22 ⟨rfl,aCJ⟩;have b9I:=b2N.o.tm aCJ;have b2O:=b9H.o.late aCJ;have b2P:=b9G.o.late aCJ;obtain⟨HS,bII,bPU,aUI,b9J⟩:=aI (jA.o _ b9I) b9I aCJ b2O b2P;clear b9I aCJ b2O b2P;go_wp2_with fail
     first|refine Mid.mk ⟨HS.o,?_⟩|refine Mid.mk ?_
     refine jC 6 1 (by kernel_rfl) (by kernel_rfl) ?_;simp only[jB,aS,aT,aQ,aR];go_wp2_with (refine wpList_store_row rfl 125 (.tmp 5) (.tmp 10) rfl g5 #[.int .i64 0,.slice za zn zc,.int .i64 2,.slice pa pn pc,.int .i64 3,.slice ga gn gc,.int .i64 4,.slice ia iN ic,.int .i64 1,.slice fa fn fc] rfl rfl 125 _ aUI.o (by kernel_rfl) rfl (by kernel_rfl) ?_)
     have L8:=aUI.o.row #[.int .i64 0,.slice za zn zc,.int .i64 2,.slice pa pn pc,.int .i64 3,.slice ga gn gc,.int .i64 4,.slice ia iN ic,.int .i64 1,.slice fa fn fc];have L9:jJ (x22.setRow g5 #[.int .i64 0,.slice za zn zc,.int .i64 2,.slice pa pn pc,.int .i64 3,.slice ga gn gc,.int .i64 4,.slice ia iN ic,.int .i64 1,.slice fa fn fc]) g6 125 #[.int .i64 0,.slice none 0 0,.int .i64 0,.slice none 0 0,.int .i64 0,.slice none 0 0,.int .i64 0,.slice none 0 0,.int .i64 0,.slice none 0 0]:=(setRow_other x22 g5 g6 _ (by have:=hg5.o;have:=rQ.o;omega)).trans b9J.o;have hxa:=jP bII.o (show W.heap.size≤g5 by have:=hg5.o;omega) #[.int .i64 0,.slice za zn zc,.int .i64 2,.slice pa pn pc,.int .i64 3,.slice ga gn gc,.int .i64 4,.slice ia iN ic,.int .i64 1,.slice fa fn fc];obtain⟨HS,CR,uL,CS⟩:=aH (jA.o _ hxa) L8 L9 hxa;clear L8 L9 hxa;first|refine Mid.mk ⟨HS.o,?_⟩|refine⟨HS.o,?_⟩
     refine jC 7 0 (by kernel_rfl) (by kernel_rfl) ?_;simp only[jB,aS,aT,aQ,aR];go_wp2_with (refine wpList_store_row rfl 125 (.tmp 6) (.tmp 12) rfl g6 #[.int .i64 0,.slice zB zC zD,.int .i64 2,.slice zF zG pc2,.int .i64 3,.slice zH zI zJ,.int .i64 4,.slice zK zL zM,.int .i64 1,.slice fa2 zN zO] rfl rfl 125 _ uL.o (by kernel_rfl) rfl (by kernel_rfl) ?_)
     have LA:=uL.o.row #[.int .i64 0,.slice zB zC zD,.int .i64 2,.slice zF zG pc2,.int .i64 3,.slice zH zI zJ,.int .i64 4,.slice zK zL zM,.int .i64 1,.slice fa2 zN zO];have LB:jJ ((x22.setRow g5 #[.int .i64 0,.slice za zn zc,.int .i64 2,.slice pa pn pc,.int .i64 3,.slice ga gn gc,.int .i64 4,.slice ia iN ic,.int .i64 1,.slice fa fn fc]).setRow g6 #[.int .i64 0,.slice zB zC zD,.int .i64 2,.slice zF zG pc2,.int .i64 3,.slice zH zI zJ,.int .i64 4,.slice zK zL zM,.int .i64 1,.slice fa2 zN zO]) g5 125 #[.int .i64 0,.slice za zn zc,.int .i64 2,.slice pa pn pc,.int .i64 3,.slice ga gn gc,.int .i64 4,.slice ia iN ic,.int .i64 1,.slice fa fn fc]:=(setRow_other (x22.setRow g5 #[.int .i64 0,.slice za zn zc,.int .i64 2,.slice pa pn pc,.int .i64 3,.slice ga gn gc,.int .i64 4,.slice ia iN ic,.int .i64 1,.slice fa fn fc]) g6 g5 _ (by have:=hg5.o;have:=rQ.o;omega)).trans CR.o;have hxb:=jP CS.o (show W.heap.size≤g6 by have:=rQ.o;omega) #[.int .i64 0,.slice zB zC zD,.int .i64 2,.slice zF zG pc2,.int .i64 3,.slice zH zI zJ,.int .i64 4,.slice zK zL zM,.int .i64 1,.slice fa2 zN zO];obtain⟨HS,CV,CW,CX⟩:=aH (jA.o _ hxb) LA LB hxb;clear LA LB hxb;first|(refine Mid.mk ⟨HS.o,?_⟩;refine jK (by kernel_rfl) ?_)|(refine⟨HS.o,?_⟩;refine jK (by kernel_rfl) ?_)|refine⟨HS.o,by kernel_rfl,?_⟩
     clear q0 q1 q2 q3 q4 q5 q6 q7 r0 r1 r2 r3 r4 r5 r6 r7;go_wp2_with fail
     go_meet
     case rel=>exact⟨g5,g6,rfl,rfl,CW,CV,CX⟩
   case refine_2=>
    go_wp2_with fail
    have aCK:=aD x17 (.cells #[.int .i64 0,.slice none 0 0,.int .i64 0,.slice none 0 0,.int .i64 0,.slice none 0 0,.int .i64 0,.slice none 0 0,.int .i64 0,.slice none 0 0] 125);have b2Q:=jJ.new x17 125 #[.int .i64 0,.slice none 0 0,.int .i64 0,.slice none 0 0,.int .i64 0,.slice none 0 0,.int .i64 0,.slice none 0 0,.int .i64 0,.slice none 0 0];have aZF:=aCF.o.tm aCK;have aIQ:=b2Q;have aUJ:=aGJ.o.late aCK;have rQ:=aCF.o.size;have bIJ:g5<x17.heap.size:=aGJ.o.lt;replace rQ:=aA (And.intro rQ bIJ)
    clear b2Q;obtain⟨x23,bIK⟩:∃W,x17.alloc (.cells #[.int .i64 0,.slice none 0 0,.int .i64 0,.slice none 0 0,.int .i64 0,.slice none 0 0,.int .i64 0,.slice none 0 0,.int .i64 0,.slice none 0 0] 125)=W:=⟨_,rfl⟩;rw[bIK]at aZF aCK aIQ aUJ ⊢;obtain⟨g6,aUK⟩:∃g,x17.heap.size=g:=⟨_,rfl⟩;try rw[aUK]at aIQ rQ
    try rw[aUK]
    clear aUK bIK;obtain⟨HS,b2R,bPV,b9K,b9L⟩:=aI (jA.o _ aZF) aZF aCK aIQ aUJ;clear aZF aCK aIQ aUJ;first|refine Mid.mk ⟨HS.o,?_⟩|refine Mid.mk ?_
    refine jC 1 3 (by kernel_rfl) (by kernel_rfl) ?_;simp only[jB,aS,aT,aQ,aR];go_wp2_with fail
    refine(O0.o _).mono ?_;rintro e x24 ⟨rfl,aCL⟩;have hx24:=b2R.o.tm aCL;have b2S:=b9L.o.late aCL;have b2T:=b9K.o.late aCL;obtain⟨HS,b2U,bPW,b9M,b9N⟩:=aI (jA.o _ hx24) hx24 aCL b2S b2T;clear hx24 aCL b2S b2T;go_wp2_with fail
    first|refine Mid.mk ⟨HS.o,?_⟩|refine Mid.mk ?_
    refine jC 3 2 (by kernel_rfl) (by kernel_rfl) ?_;simp only[jB,aS,aT,aQ,aR];go_wp2_with fail
    refine(uZ.o _).mono ?_;rintro e x25 ⟨rfl,aCM⟩;have hx25:=b2U.o.tm aCM;have b2V:=b9M.o.late aCM;have b2W:=b9N.o.late aCM;obtain⟨HS,bIL,bPX,aUL,b9O⟩:=aI (jA.o _ hx25) hx25 aCM b2V b2W;clear hx25 aCM b2V b2W;go_wp2_with fail
    first|refine Mid.mk ⟨HS.o,?_⟩|refine Mid.mk ?_
    refine jC 6 1 (by kernel_rfl) (by kernel_rfl) ?_;simp only[jB,aS,aT,aQ,aR];go_wp2_with (refine wpList_store_row rfl 125 (.tmp 5) (.tmp 10) rfl g5 #[.int .i64 0,.slice za zn zc,.int .i64 2,.slice pa pn pc,.int .i64 3,.slice ga gn gc,.int .i64 4,.slice ia iN ic,.int .i64 1,.slice fa fn fc] rfl rfl 125 _ aUL.o (by kernel_rfl) rfl (by kernel_rfl) ?_)
    have L8:=aUL.o.row #[.int .i64 0,.slice za zn zc,.int .i64 2,.slice pa pn pc,.int .i64 3,.slice ga gn gc,.int .i64 4,.slice ia iN ic,.int .i64 1,.slice fa fn fc];have L9:jJ (x25.setRow g5 #[.int .i64 0,.slice za zn zc,.int .i64 2,.slice pa pn pc,.int .i64 3,.slice ga gn gc,.int .i64 4,.slice ia iN ic,.int .i64 1,.slice fa fn fc]) g6 125 #[.int .i64 0,.slice none 0 0,.int .i64 0,.slice none 0 0,.int .i64 0,.slice none 0 0,.int .i64 0,.slice none 0 0,.int .i64 0,.slice none 0 0]:=(setRow_other x25 g5 g6 _ (by have:=hg5.o;have:=rQ.o;omega)).trans b9O.o;have hxa:=jP bIL.o (show W.heap.size≤g5 by have:=hg5.o;omega) #[.int .i64 0,.slice za zn zc,.int .i64 2,.slice pa pn pc,.int .i64 3,.slice ga gn gc,.int .i64 4,.slice ia iN ic,.int .i64 1,.slice fa fn fc];obtain⟨HS,CR,uL,CS⟩:=aH (jA.o _ hxa) L8 L9 hxa;clear L8 L9 hxa;first|refine Mid.mk ⟨HS.o,?_⟩|refine⟨HS.o,?_⟩
    refine jC 7 0 (by kernel_rfl) (by kernel_rfl) ?_;simp only[jB,aS,aT,aQ,aR];go_wp2_with (refine wpList_store_row rfl 125 (.tmp 6) (.tmp 12) rfl g6 #[.int .i64 0,.slice zB zC zD,.int .i64 2,.slice zF zG pc2,.int .i64 3,.slice zH zI zJ,.int .i64 4,.slice zK zL zM,.int .i64 1,.slice fa2 zN zO] rfl rfl 125 _ uL.o (by kernel_rfl) rfl (by kernel_rfl) ?_)
    have LA:=uL.o.row #[.int .i64 0,.slice zB zC zD,.int .i64 2,.slice zF zG pc2,.int .i64 3,.slice zH zI zJ,.int .i64 4,.slice zK zL zM,.int .i64 1,.slice fa2 zN zO];have LB:jJ ((x25.setRow g5 #[.int .i64 0,.slice za zn zc,.int .i64 2,.slice pa pn pc,.int .i64 3,.slice ga gn gc,.int .i64 4,.slice ia iN ic,.int .i64 1,.slice fa fn fc]).setRow g6 #[.int .i64 0,.slice zB zC zD,.int .i64 2,.slice zF zG pc2,.int .i64 3,.slice zH zI zJ,.int .i64 4,.slice zK zL zM,.int .i64 1,.slice fa2 zN zO]) g5 125 #[.int .i64 0,.slice za zn zc,.int .i64 2,.slice pa pn pc,.int .i64 3,.slice ga gn gc,.int .i64 4,.slice ia iN ic,.int .i64 1,.slice fa fn fc]:=(setRow_other (x25.setRow g5 #[.int .i64 0,.slice za zn zc,.int .i64 2,.slice pa pn pc,.int .i64 3,.slice ga gn gc,.int .i64 4,.slice ia iN ic,.int .i64 1,.slice fa fn fc]) g6 g5 _ (by have:=hg5.o;have:=rQ.o;omega)).trans CR.o;have hxb:=jP CS.o (show W.heap.size≤g6 by have:=rQ.o;omega) #[.int .i64 0,.slice zB zC zD,.int .i64 2,.slice zF zG pc2,.int .i64 3,.slice zH zI zJ,.int .i64 4,.slice zK zL zM,.int .i64 1,.slice fa2 zN zO];obtain⟨HS,CV,CW,CX⟩:=aH (jA.o _ hxb) LA LB hxb;clear LA LB hxb;first|(refine Mid.mk ⟨HS.o,?_⟩;refine jK (by kernel_rfl) ?_)|(refine⟨HS.o,?_⟩;refine jK (by kernel_rfl) ?_)|refine⟨HS.o,by kernel_rfl,?_⟩
    clear q0 q1 q2 q3 q4 q5 q6 q7 r0 r1 r2 r3 r4 r5 r6 r7;go_wp2_with fail
    go_meet
    case rel=>exact⟨g5,g6,rfl,rfl,CW,CV,CX⟩
  case refine_3=>
   go_wp2_with fail
   have aIR:=aD wD (.cells #[.int .i64 0,.slice none 0 0,.int .i64 0,.slice none 0 0,.int .i64 0,.slice none 0 0,.int .i64 0,.slice none 0 0,.int .i64 0,.slice none 0 0] 125);have b2X:=jJ.new wD 125 #[.int .i64 0,.slice none 0 0,.int .i64 0,.slice none 0 0,.int .i64 0,.slice none 0 0,.int .i64 0,.slice none 0 0,.int .i64 0,.slice none 0 0];have aZG:=HD.o.tm aIR;have aIS:=b2X;have rQ:=HD.o.size;replace rQ:=aA (And.intro rQ trivial)
   clear b2X;obtain⟨x26,bIM⟩:∃W,wD.alloc (.cells #[.int .i64 0,.slice none 0 0,.int .i64 0,.slice none 0 0,.int .i64 0,.slice none 0 0,.int .i64 0,.slice none 0 0,.int .i64 0,.slice none 0 0] 125)=W:=⟨_,rfl⟩;rw[bIM]at aZG aIR aIS ⊢;obtain⟨g6,aUM⟩:∃g,wD.heap.size=g:=⟨_,rfl⟩;try rw[aUM]at aIS rQ
   try rw[aUM]
   clear aUM bIM;obtain⟨HS,aCN,bPY,aGL⟩:=aH (jA.o _ aZG) aZG aIR aIS;clear aZG aIR aIS;first|refine Mid.mk ⟨HS.o,?_⟩|refine Mid.mk ?_
   refine qX 1 4 4 (by kernel_rfl) (by kernel_rfl) ?_ ?_;all_goals simp only[jB,aS,aT,aQ,aR]
   case refine_1=>
    go_wp2_with fail
    refine(O0.o _).mono ?_;rintro e x27 ⟨rfl,aIT⟩;have hx27:=aCN.o.tm aIT;have b2Y:=aGL.o.late aIT;obtain⟨HS,aCO,bPZ,aGM⟩:=aH (jA.o _ hx27) hx27 aIT b2Y;clear hx27 aIT b2Y;go_wp2_with fail
    first|refine Mid.mk ⟨HS.o,?_⟩|refine Mid.mk ?_
    refine qX 3 4 3 (by kernel_rfl) (by kernel_rfl) ?_ ?_;all_goals simp only[jB,aS,aT,aQ,aR]
    case refine_1=>
     go_wp2_with fail
     refine(uZ.o _).mono ?_;rintro e x28 ⟨rfl,aIU⟩;have hx28:=aCO.o.tm aIU;have b2Z:=aGM.o.late aIU;obtain⟨HS,aUN,bQ0,aUO⟩:=aH (jA.o _ hx28) hx28 aIU b2Z;clear hx28 aIU b2Z;go_wp2_with fail
     first|refine Mid.mk ⟨HS.o,?_⟩|refine Mid.mk ?_
     refine jC 4 2 (by kernel_rfl) (by kernel_rfl) ?_;simp only[jB,aS,aT,aQ,aR];go_wp2_with fail
     have aCP:=aD x28 (.cells #[.int .i64 0,.slice none 0 0,.int .i64 0,.slice none 0 0,.int .i64 0,.slice none 0 0,.int .i64 0,.slice none 0 0,.int .i64 0,.slice none 0 0] 125);have b30:=jJ.new x28 125 #[.int .i64 0,.slice none 0 0,.int .i64 0,.slice none 0 0,.int .i64 0,.slice none 0 0,.int .i64 0,.slice none 0 0,.int .i64 0,.slice none 0 0];have hx29:=aUN.o.tm aCP;have aIV:=b30;have aUP:=aUO.o.late aCP;have hg5:=aUN.o.size;have bIN:g6<x28.heap.size:=aUO.o.lt;replace hg5:=aA (And.intro hg5 bIN)
     clear b30;obtain⟨x29,bIO⟩:∃W,x28.alloc (.cells #[.int .i64 0,.slice none 0 0,.int .i64 0,.slice none 0 0,.int .i64 0,.slice none 0 0,.int .i64 0,.slice none 0 0,.int .i64 0,.slice none 0 0] 125)=W:=⟨_,rfl⟩;rw[bIO]at hx29 aCP aIV aUP ⊢;obtain⟨g5,aUQ⟩:∃g,x28.heap.size=g:=⟨_,rfl⟩;try rw[aUQ]at aIV hg5
     try rw[aUQ]
     clear aUQ bIO;obtain⟨HS,bIP,bQ1,aUR,b9P⟩:=aI (jA.o _ hx29) hx29 aCP aIV aUP;clear hx29 aCP aIV aUP;first|refine Mid.mk ⟨HS.o,?_⟩|refine Mid.mk ?_
     refine jC 6 1 (by kernel_rfl) (by kernel_rfl) ?_;simp only[jB,aS,aT,aQ,aR];go_wp2_with (refine wpList_store_row rfl 125 (.tmp 5) (.tmp 10) rfl g5 #[.int .i64 0,.slice za zn zc,.int .i64 2,.slice pa pn pc,.int .i64 3,.slice ga gn gc,.int .i64 4,.slice ia iN ic,.int .i64 1,.slice fa fn fc] rfl rfl 125 _ aUR.o (by kernel_rfl) rfl (by kernel_rfl) ?_)
     have L8:=aUR.o.row #[.int .i64 0,.slice za zn zc,.int .i64 2,.slice pa pn pc,.int .i64 3,.slice ga gn gc,.int .i64 4,.slice ia iN ic,.int .i64 1,.slice fa fn fc];have L9:jJ (x29.setRow g5 #[.int .i64 0,.slice za zn zc,.int .i64 2,.slice pa pn pc,.int .i64 3,.slice ga gn gc,.int .i64 4,.slice ia iN ic,.int .i64 1,.slice fa fn fc]) g6 125 #[.int .i64 0,.slice none 0 0,.int .i64 0,.slice none 0 0,.int .i64 0,.slice none 0 0,.int .i64 0,.slice none 0 0,.int .i64 0,.slice none 0 0]:=(setRow_other x29 g5 g6 _ (by have:=hg5.o;have:=rQ.o;omega)).trans b9P.o;have hxa:=jP bIP.o (show W.heap.size≤g5 by have:=hg5.o;omega) #[.int .i64 0,.slice za zn zc,.int .i64 2,.slice pa pn pc,.int .i64 3,.slice ga gn gc,.int .i64 4,.slice ia iN ic,.int .i64 1,.slice fa fn fc];obtain⟨HS,CR,uL,CS⟩:=aH (jA.o _ hxa) L8 L9 hxa;clear L8 L9 hxa;first|refine Mid.mk ⟨HS.o,?_⟩|refine⟨HS.o,?_⟩
     refine jC 7 0 (by kernel_rfl) (by kernel_rfl) ?_;simp only[jB,aS,aT,aQ,aR];go_wp2_with (refine wpList_store_row rfl 125 (.tmp 6) (.tmp 12) rfl g6 #[.int .i64 0,.slice zB zC zD,.int .i64 2,.slice zF zG pc2,.int .i64 3,.slice zH zI zJ,.int .i64 4,.slice zK zL zM,.int .i64 1,.slice fa2 zN zO] rfl rfl 125 _ uL.o (by kernel_rfl) rfl (by kernel_rfl) ?_)
     have LA:=uL.o.row #[.int .i64 0,.slice zB zC zD,.int .i64 2,.slice zF zG pc2,.int .i64 3,.slice zH zI zJ,.int .i64 4,.slice zK zL zM,.int .i64 1,.slice fa2 zN zO];have LB:jJ ((x29.setRow g5 #[.int .i64 0,.slice za zn zc,.int .i64 2,.slice pa pn pc,.int .i64 3,.slice ga gn gc,.int .i64 4,.slice ia iN ic,.int .i64 1,.slice fa fn fc]).setRow g6 #[.int .i64 0,.slice zB zC zD,.int .i64 2,.slice zF zG pc2,.int .i64 3,.slice zH zI zJ,.int .i64 4,.slice zK zL zM,.int .i64 1,.slice fa2 zN zO]) g5 125 #[.int .i64 0,.slice za zn zc,.int .i64 2,.slice pa pn pc,.int .i64 3,.slice ga gn gc,.int .i64 4,.slice ia iN ic,.int .i64 1,.slice fa fn fc]:=(setRow_other (x29.setRow g5 #[.int .i64 0,.slice za zn zc,.int .i64 2,.slice pa pn pc,.int .i64 3,.slice ga gn gc,.int .i64 4,.slice ia iN ic,.int .i64 1,.slice fa fn fc]) g6 g5 _ (by have:=hg5.o;have:=rQ.o;omega)).trans CR.o;have hxb:=jP CS.o (show W.heap.size≤g6 by have:=rQ.o;omega) #[.int .i64 0,.slice zB zC zD,.int .i64 2,.slice zF zG pc2,.int .i64 3,.slice zH zI zJ,.int .i64 4,.slice zK zL zM,.int .i64 1,.slice fa2 zN zO];obtain⟨HS,CV,CW,CX⟩:=aH (jA.o _ hxb) LA LB hxb;clear LA LB hxb;first|(refine Mid.mk ⟨HS.o,?_⟩;refine jK (by kernel_rfl) ?_)|(refine⟨HS.o,?_⟩;refine jK (by kernel_rfl) ?_)|refine⟨HS.o,by kernel_rfl,?_⟩
     clear q0 q1 q2 q3 q4 q5 q6 q7 r0 r1 r2 r3 r4 r5 r6 r7;go_wp2_with fail
     go_meet
     case rel=>exact⟨g5,g6,rfl,rfl,CW,CV,CX⟩
    case refine_2=>
     go_wp2_with fail
     have aCQ:=aD x27 (.cells #[.int .i64 0,.slice none 0 0,.int .i64 0,.slice none 0 0,.int .i64 0,.slice none 0 0,.int .i64 0,.slice none 0 0,.int .i64 0,.slice none 0 0] 125);have b31:=jJ.new x27 125 #[.int .i64 0,.slice none 0 0,.int .i64 0,.slice none 0 0,.int .i64 0,.slice none 0 0,.int .i64 0,.slice none 0 0,.int .i64 0,.slice none 0 0];have aZH:=aCO.o.tm aCQ;have aIW:=b31;have aUS:=aGM.o.late aCQ;have hg5:=aCO.o.size;have bIQ:g6<x27.heap.size:=aGM.o.lt;replace hg5:=aA (And.intro hg5 bIQ)
     clear b31;obtain⟨x30,bIR⟩:∃W,x27.alloc (.cells #[.int .i64 0,.slice none 0 0,.int .i64 0,.slice none 0 0,.int .i64 0,.slice none 0 0,.int .i64 0,.slice none 0 0,.int .i64 0,.slice none 0 0] 125)=W:=⟨_,rfl⟩;rw[bIR]at aZH aCQ aIW aUS ⊢;obtain⟨g5,aUT⟩:∃g,x27.heap.size=g:=⟨_,rfl⟩;try rw[aUT]at aIW hg5
     try rw[aUT]
     clear aUT bIR;obtain⟨HS,b39,bQ2,b9Q,b9R⟩:=aI (jA.o _ aZH) aZH aCQ aIW aUS;clear aZH aCQ aIW aUS;first|refine Mid.mk ⟨HS.o,?_⟩|refine Mid.mk ?_
     refine jC 3 2 (by kernel_rfl) (by kernel_rfl) ?_;simp only[jB,aS,aT,aQ,aR];go_wp2_with fail
     refine(uZ.o _).mono ?_;rintro e x31 ⟨rfl,aCR⟩;have hx31:=b39.o.tm aCR;have b3A:=b9Q.o.late aCR;have b3B:=b9R.o.late aCR;obtain⟨HS,bIS,bQ3,aUU,b9S⟩:=aI (jA.o _ hx31) hx31 aCR b3A b3B;clear hx31 aCR b3A b3B;go_wp2_with fail
     first|refine Mid.mk ⟨HS.o,?_⟩|refine Mid.mk ?_
     refine jC 6 1 (by kernel_rfl) (by kernel_rfl) ?_;simp only[jB,aS,aT,aQ,aR];go_wp2_with (refine wpList_store_row rfl 125 (.tmp 5) (.tmp 10) rfl g5 #[.int .i64 0,.slice za zn zc,.int .i64 2,.slice pa pn pc,.int .i64 3,.slice ga gn gc,.int .i64 4,.slice ia iN ic,.int .i64 1,.slice fa fn fc] rfl rfl 125 _ aUU.o (by kernel_rfl) rfl (by kernel_rfl) ?_)
     have L8:=aUU.o.row #[.int .i64 0,.slice za zn zc,.int .i64 2,.slice pa pn pc,.int .i64 3,.slice ga gn gc,.int .i64 4,.slice ia iN ic,.int .i64 1,.slice fa fn fc];have L9:jJ (x31.setRow g5 #[.int .i64 0,.slice za zn zc,.int .i64 2,.slice pa pn pc,.int .i64 3,.slice ga gn gc,.int .i64 4,.slice ia iN ic,.int .i64 1,.slice fa fn fc]) g6 125 #[.int .i64 0,.slice none 0 0,.int .i64 0,.slice none 0 0,.int .i64 0,.slice none 0 0,.int .i64 0,.slice none 0 0,.int .i64 0,.slice none 0 0]:=(setRow_other x31 g5 g6 _ (by have:=hg5.o;have:=rQ.o;omega)).trans b9S.o;have hxa:=jP bIS.o (show W.heap.size≤g5 by have:=hg5.o;omega) #[.int .i64 0,.slice za zn zc,.int .i64 2,.slice pa pn pc,.int .i64 3,.slice ga gn gc,.int .i64 4,.slice ia iN ic,.int .i64 1,.slice fa fn fc];obtain⟨HS,CR,uL,CS⟩:=aH (jA.o _ hxa) L8 L9 hxa;clear L8 L9 hxa;first|refine Mid.mk ⟨HS.o,?_⟩|refine⟨HS.o,?_⟩
     refine jC 7 0 (by kernel_rfl) (by kernel_rfl) ?_;simp only[jB,aS,aT,aQ,aR];go_wp2_with (refine wpList_store_row rfl 125 (.tmp 6) (.tmp 12) rfl g6 #[.int .i64 0,.slice zB zC zD,.int .i64 2,.slice zF zG pc2,.int .i64 3,.slice zH zI zJ,.int .i64 4,.slice zK zL zM,.int .i64 1,.slice fa2 zN zO] rfl rfl 125 _ uL.o (by kernel_rfl) rfl (by kernel_rfl) ?_)
     have LA:=uL.o.row #[.int .i64 0,.slice zB zC zD,.int .i64 2,.slice zF zG pc2,.int .i64 3,.slice zH zI zJ,.int .i64 4,.slice zK zL zM,.int .i64 1,.slice fa2 zN zO];have LB:jJ ((x31.setRow g5 #[.int .i64 0,.slice za zn zc,.int .i64 2,.slice pa pn pc,.int .i64 3,.slice ga gn gc,.int .i64 4,.slice ia iN ic,.int .i64 1,.slice fa fn fc]).setRow g6 #[.int .i64 0,.slice zB zC zD,.int .i64 2,.slice zF zG pc2,.int .i64 3,.slice zH zI zJ,.int .i64 4,.slice zK zL zM,.int .i64 1,.slice fa2 zN zO]) g5 125 #[.int .i64 0,.slice za zn zc,.int .i64 2,.slice pa pn pc,.int .i64 3,.slice ga gn gc,.int .i64 4,.slice ia iN ic,.int .i64 1,.slice fa fn fc]:=(setRow_other (x31.setRow g5 #[.int .i64 0,.slice za zn zc,.int .i64 2,.slice pa pn pc,.int .i64 3,.slice ga gn gc,.int .i64 4,.slice ia iN ic,.int .i64 1,.slice fa fn fc]) g6 g5 _ (by have:=hg5.o;have:=rQ.o;omega)).trans CR.o;have hxb:=jP CS.o (show W.heap.size≤g6 by have:=rQ.o;omega) #[.int .i64 0,.slice zB zC zD,.int .i64 2,.slice zF zG pc2,.int .i64 3,.slice zH zI zJ,.int .i64 4,.slice zK zL zM,.int .i64 1,.slice fa2 zN zO];obtain⟨HS,CV,CW,CX⟩:=aH (jA.o _ hxb) LA LB hxb;clear LA LB hxb;first|(refine Mid.mk ⟨HS.o,?_⟩;refine jK (by kernel_rfl) ?_)|(refine⟨HS.o,?_⟩;refine jK (by kernel_rfl) ?_)|refine⟨HS.o,by kernel_rfl,?_⟩
     clear q0 q1 q2 q3 q4 q5 q6 q7 r0 r1 r2 r3 r4 r5 r6 r7;go_wp2_with fail
     go_meet
     case rel=>exact⟨g5,g6,rfl,rfl,CW,CV,CX⟩
   case refine_2=>
    go_wp2_with fail
    have aCS:=aD x26 (.cells #[.int .i64 0,.slice none 0 0,.int .i64 0,.slice none 0 0,.int .i64 0,.slice none 0 0,.int .i64 0,.slice none 0 0,.int .i64 0,.slice none 0 0] 125);have b3C:=jJ.new x26 125 #[.int .i64 0,.slice none 0 0,.int .i64 0,.slice none 0 0,.int .i64 0,.slice none 0 0,.int .i64 0,.slice none 0 0,.int .i64 0,.slice none 0 0];have hx32:=aCN.o.tm aCS;have aIX:=b3C;have aUV:=aGL.o.late aCS;have hg5:=aCN.o.size;have hlt32:g6<x26.heap.size:=aGL.o.lt;replace hg5:=aA (And.intro hg5 hlt32)
    clear b3C;obtain⟨x32,bIT⟩:∃W,x26.alloc (.cells #[.int .i64 0,.slice none 0 0,.int .i64 0,.slice none 0 0,.int .i64 0,.slice none 0 0,.int .i64 0,.slice none 0 0,.int .i64 0,.slice none 0 0] 125)=W:=⟨_,rfl⟩;rw[bIT]at hx32 aCS aIX aUV ⊢;obtain⟨g5,aUW⟩:∃g,x26.heap.size=g:=⟨_,rfl⟩;try rw[aUW]at aIX hg5
    try rw[aUW]
    clear aUW bIT;obtain⟨HS,b3D,bQ4,b9T,b9U⟩:=aI (jA.o _ hx32) hx32 aCS aIX aUV;clear hx32 aCS aIX aUV;first|refine Mid.mk ⟨HS.o,?_⟩|refine Mid.mk ?_
    refine jC 1 3 (by kernel_rfl) (by kernel_rfl) ?_;simp only[jB,aS,aT,aQ,aR];go_wp2_with fail
    refine(O0.o _).mono ?_;rintro e x33 ⟨rfl,aCT⟩;have b9V:=b3D.o.tm aCT;have b3E:=b9T.o.late aCT;have b3F:=b9U.o.late aCT;obtain⟨HS,b3G,bQ5,b9W,b9X⟩:=aI (jA.o _ b9V) b9V aCT b3E b3F;clear b9V aCT b3E b3F;go_wp2_with fail
    first|refine Mid.mk ⟨HS.o,?_⟩|refine Mid.mk ?_
    refine jC 3 2 (by kernel_rfl) (by kernel_rfl) ?_;simp only[jB,aS,aT,aQ,aR];go_wp2_with fail
    refine(uZ.o _).mono ?_;rintro e x34 ⟨rfl,aCU⟩;have hx34:=b3G.o.tm aCU;have b3H:=b9W.o.late aCU;have b3I:=b9X.o.late aCU;obtain⟨HS,bIU,bQ6,aUX,b9Y⟩:=aI (jA.o _ hx34) hx34 aCU b3H b3I;clear hx34 aCU b3H b3I;go_wp2_with fail
    first|refine Mid.mk ⟨HS.o,?_⟩|refine Mid.mk ?_
    refine jC 6 1 (by kernel_rfl) (by kernel_rfl) ?_;simp only[jB,aS,aT,aQ,aR];go_wp2_with (refine wpList_store_row rfl 125 (.tmp 5) (.tmp 10) rfl g5 #[.int .i64 0,.slice za zn zc,.int .i64 2,.slice pa pn pc,.int .i64 3,.slice ga gn gc,.int .i64 4,.slice ia iN ic,.int .i64 1,.slice fa fn fc] rfl rfl 125 _ aUX.o (by kernel_rfl) rfl (by kernel_rfl) ?_)
    have L8:=aUX.o.row #[.int .i64 0,.slice za zn zc,.int .i64 2,.slice pa pn pc,.int .i64 3,.slice ga gn gc,.int .i64 4,.slice ia iN ic,.int .i64 1,.slice fa fn fc];have L9:jJ (x34.setRow g5 #[.int .i64 0,.slice za zn zc,.int .i64 2,.slice pa pn pc,.int .i64 3,.slice ga gn gc,.int .i64 4,.slice ia iN ic,.int .i64 1,.slice fa fn fc]) g6 125 #[.int .i64 0,.slice none 0 0,.int .i64 0,.slice none 0 0,.int .i64 0,.slice none 0 0,.int .i64 0,.slice none 0 0,.int .i64 0,.slice none 0 0]:=(setRow_other x34 g5 g6 _ (by have:=hg5.o;have:=rQ.o;omega)).trans b9Y.o;have hxa:=jP bIU.o (show W.heap.size≤g5 by have:=hg5.o;omega) #[.int .i64 0,.slice za zn zc,.int .i64 2,.slice pa pn pc,.int .i64 3,.slice ga gn gc,.int .i64 4,.slice ia iN ic,.int .i64 1,.slice fa fn fc];obtain⟨HS,CR,uL,CS⟩:=aH (jA.o _ hxa) L8 L9 hxa;clear L8 L9 hxa;first|refine Mid.mk ⟨HS.o,?_⟩|refine⟨HS.o,?_⟩
    refine jC 7 0 (by kernel_rfl) (by kernel_rfl) ?_;simp only[jB,aS,aT,aQ,aR];go_wp2_with (refine wpList_store_row rfl 125 (.tmp 6) (.tmp 12) rfl g6 #[.int .i64 0,.slice zB zC zD,.int .i64 2,.slice zF zG pc2,.int .i64 3,.slice zH zI zJ,.int .i64 4,.slice zK zL zM,.int .i64 1,.slice fa2 zN zO] rfl rfl 125 _ uL.o (by kernel_rfl) rfl (by kernel_rfl) ?_)
    have LA:=uL.o.row #[.int .i64 0,.slice zB zC zD,.int .i64 2,.slice zF zG pc2,.int .i64 3,.slice zH zI zJ,.int .i64 4,.slice zK zL zM,.int .i64 1,.slice fa2 zN zO];have LB:jJ ((x34.setRow g5 #[.int .i64 0,.slice za zn zc,.int .i64 2,.slice pa pn pc,.int .i64 3,.slice ga gn gc,.int .i64 4,.slice ia iN ic,.int .i64 1,.slice fa fn fc]).setRow g6 #[.int .i64 0,.slice zB zC zD,.int .i64 2,.slice zF zG pc2,.int .i64 3,.slice zH zI zJ,.int .i64 4,.slice zK zL zM,.int .i64 1,.slice fa2 zN zO]) g5 125 #[.int .i64 0,.slice za zn zc,.int .i64 2,.slice pa pn pc,.int .i64 3,.slice ga gn gc,.int .i64 4,.slice ia iN ic,.int .i64 1,.slice fa fn fc]:=(setRow_other (x34.setRow g5 #[.int .i64 0,.slice za zn zc,.int .i64 2,.slice pa pn pc,.int .i64 3,.slice ga gn gc,.int .i64 4,.slice ia iN ic,.int .i64 1,.slice fa fn fc]) g6 g5 _ (by have:=hg5.o;have:=rQ.o;omega)).trans CR.o;have hxb:=jP CS.o (show W.heap.size≤g6 by have:=rQ.o;omega) #[.int .i64 0,.slice zB zC zD,.int .i64 2,.slice zF zG pc2,.int .i64 3,.slice zH zI zJ,.int .i64 4,.slice zK zL zM,.int .i64 1,.slice fa2 zN zO];obtain⟨HS,CV,CW,CX⟩:=aH (jA.o _ hxb) LA LB hxb;clear LA LB hxb;first|(refine Mid.mk ⟨HS.o,?_⟩;refine jK (by kernel_rfl) ?_)|(refine⟨HS.o,?_⟩;refine jK (by kernel_rfl) ?_)|refine⟨HS.o,by kernel_rfl,?_⟩
    clear q0 q1 q2 q3 q4 q5 q6 q7 r0 r1 r2 r3 r4 r5 r6 r7;go_wp2_with fail
    go_meet
    case rel=>exact⟨g5,g6,rfl,rfl,CW,CV,CX⟩
 case rest=>
  obtain⟨g5,g6,rfl,rfl,h5',h6',hbc'⟩:=hcut;rename World=>w2
  obtain⟨hb2,bE2,bR2⟩:=aG (hb'.o.tm hbc'.o) (bE'.o.late hbc'.o) (bR'.o.late hbc'.o);clear q0 q1 q2 q3 q4 q5 q6 q7 r0 r1 r2 r3 r4 r5 r6 r7 HS HD;go_wp2_with fail
  go_loopw [13] (fun iv wr=>∃(k:Nat) (ki:Int),k≤5∧ki=k∧iv= .int .i64 ki∧Hid (∀j,j<k→rsB ⟨o,z,p,g,i,f,mk,th⟩ ⟨o2,z2,p2,g2,i2,f2,mk2,th2⟩ j=true)∧Hid (Below w2.heap.size w2 wr)) (fun iv _=>5 - (intOf iv).toNat)
  case atStart=>exact⟨0,0,by omega,rfl,rfl,aA (fun j hj=>by omega),aA (aW _ _)⟩
  case round=>
  obtain⟨k,ki,hk,hki,rfl,hdn,hbr⟩:=hrel;have hbw:=aA (hb2.o.tm hbr.o);by_cases hlt:k<5
  ·rcases(by omega:k=0∨k=1∨k=2∨k=3∨k=4)with rfl|rfl|rfl|rfl|rfl
   ·obtain rfl:ki=0:=by omega
    clear hk hlt hki;obtain⟨Tq,fq,hnq,hbq,hsq⟩:=jR wr;have c1:∀s,(fq s).cell? ⟨g5,1,none⟩=some (.slice za zn zc):=fun s=>((h5'.o.late hbr.o).late (hbq s)).cell rfl;have c2:∀s,(fq s).cell? ⟨g6,1,none⟩=some (.slice zB zC zD):=fun s=>((h6'.o.late hbr.o).late (hbq s)).cell rfl;have HQ:=aA (hsq _ ((aW _ _).drew));have hC:=fun W (h:Below wr.heap.size wr W)=>CQ za zB zn zc zC zD z z2 W (hz'.o.mono (hbw.o.tm h)) (hz2'.o.mono (hbw.o.tm h)) bz'.o bP8.o;obtain⟨r,hr⟩:=aC (z==z2);rw[hr]at hC;obtain⟨vT,a7P,hC',hr'⟩:=aH hbq hsq hC hr;clear hbq hsq hC hr;go_wp2_with fail
    refine jO fq (by kernel_rfl) (by kernel_rfl) HQ.o ?_;iterate 11 (go_big_quiet_step ((go_at_call 72;refine(hC'.o _ (vT.o _)).mono ?_;rintro e w3 ⟨rfl,hb3⟩;exact⟨rfl,a7P.o _ ((vT.o _).trans (hb3.mono (vT.o _).size))⟩)))
    refine wpQuiet_nil ?_;intro s;obtain⟨hbz,a7Q⟩:=aF (hbr.o.trans ((vT.o s).mono hbr.o.size)) (hbw.o.trans ((vT.o s).mono hbw.o.size));clear c1 c2;cases r with
    |false=>
     have hno:E8 ⟨o,z,p,g,i,f,mk,th⟩ ⟨o2,z2,p2,g2,i2,f2,mk2,th2⟩=false:=a14 (j:=0) (by decide) hr'.o;have hno':=aA hno;clear hno;go_wp2_with fail
     go_ret;exact⟨by rw[hno'.o];rfl,a7Q.o⟩
    |true=>
     go_wp2_with fail
     go_roundw
     case rel=>exact⟨1,1,by omega,rfl,rfl,aA (fun j hj=>by
      rcases(by omega:j<0∨j=0)with h|h
      ·exact hdn.o j h
      ·subst h;exact hr'.o),hbz⟩
     case measure=>simp[intOf]
   ·obtain rfl:ki=1:=by omega
    clear hk hlt hki;obtain⟨Tq,fq,hnq,hbq,hsq⟩:=jR wr;have c1:∀s,(fq s).cell? ⟨g5,3,none⟩=some (.slice pa pn pc):=fun s=>((h5'.o.late hbr.o).late (hbq s)).cell rfl;have c2:∀s,(fq s).cell? ⟨g6,3,none⟩=some (.slice zF zG pc2):=fun s=>((h6'.o.late hbr.o).late (hbq s)).cell rfl;have HQ:=aA (hsq _ ((aW _ _).drew));have hC:=fun W (h:Below wr.heap.size wr W)=>CQ pa zF pn pc zG pc2 p p2 W (hp'.o.mono (hbw.o.tm h)) (aNE.o.mono (hbw.o.tm h)) bp'.o aGF.o;obtain⟨r,hr⟩:=aC (p==p2);rw[hr]at hC;obtain⟨vT,a7P,hC',hr'⟩:=aH hbq hsq hC hr;clear hbq hsq hC hr;go_wp2_with fail
    refine jO fq (by kernel_rfl) (by kernel_rfl) HQ.o ?_;iterate 11 (go_big_quiet_step ((go_at_call 72;refine(hC'.o _ (vT.o _)).mono ?_;rintro e w3 ⟨rfl,hb3⟩;exact⟨rfl,a7P.o _ ((vT.o _).trans (hb3.mono (vT.o _).size))⟩)))
    refine wpQuiet_nil ?_;intro s;obtain⟨hbz,a7Q⟩:=aF (hbr.o.trans ((vT.o s).mono hbr.o.size)) (hbw.o.trans ((vT.o s).mono hbw.o.size));clear c1 c2;cases r with
    |false=>
     have hno:E8 ⟨o,z,p,g,i,f,mk,th⟩ ⟨o2,z2,p2,g2,i2,f2,mk2,th2⟩=false:=a14 (j:=1) (by decide) hr'.o;have hno':=aA hno;clear hno;go_wp2_with fail
     go_ret;exact⟨by rw[hno'.o];rfl,a7Q.o⟩
    |true=>
     go_wp2_with fail
     go_roundw
     case rel=>exact⟨2,2,by omega,rfl,rfl,aA (fun j hj=>by
      rcases(by omega:j<1∨j=1)with h|h
      ·exact hdn.o j h
      ·subst h;exact hr'.o),hbz⟩
     case measure=>simp[intOf]
   ·obtain rfl:ki=2:=by omega
    clear hk hlt hki;obtain⟨Tq,fq,hnq,hbq,hsq⟩:=jR wr;have c1:∀s,(fq s).cell? ⟨g5,5,none⟩=some (.slice ga gn gc):=fun s=>((h5'.o.late hbr.o).late (hbq s)).cell rfl;have c2:∀s,(fq s).cell? ⟨g6,5,none⟩=some (.slice zH zI zJ):=fun s=>((h6'.o.late hbr.o).late (hbq s)).cell rfl;have HQ:=aA (hsq _ ((aW _ _).drew));have hC:=fun W (h:Below wr.heap.size wr W)=>CQ ga zH gn gc zI zJ g g2 W (hg'.o.mono (hbw.o.tm h)) (aKK.o.mono (hbw.o.tm h)) bg'.o bP9.o;obtain⟨r,hr⟩:=aC (g==g2);rw[hr]at hC;obtain⟨vT,a7P,hC',hr'⟩:=aH hbq hsq hC hr;clear hbq hsq hC hr;go_wp2_with fail
    refine jO fq (by kernel_rfl) (by kernel_rfl) HQ.o ?_;iterate 11 (go_big_quiet_step ((go_at_call 72;refine(hC'.o _ (vT.o _)).mono ?_;rintro e w3 ⟨rfl,hb3⟩;exact⟨rfl,a7P.o _ ((vT.o _).trans (hb3.mono (vT.o _).size))⟩)))
    refine wpQuiet_nil ?_;intro s;obtain⟨hbz,a7Q⟩:=aF (hbr.o.trans ((vT.o s).mono hbr.o.size)) (hbw.o.trans ((vT.o s).mono hbw.o.size));clear c1 c2;cases r with
    |false=>
     have hno:E8 ⟨o,z,p,g,i,f,mk,th⟩ ⟨o2,z2,p2,g2,i2,f2,mk2,th2⟩=false:=a14 (j:=2) (by decide) hr'.o;have hno':=aA hno;clear hno;go_wp2_with fail
     go_ret;exact⟨by rw[hno'.o];rfl,a7Q.o⟩
    |true=>
     go_wp2_with fail
     go_roundw
     case rel=>exact⟨3,3,by omega,rfl,rfl,aA (fun j hj=>by
      rcases(by omega:j<2∨j=2)with h|h
      ·exact hdn.o j h
      ·subst h;exact hr'.o),hbz⟩
     case measure=>simp[intOf]
   ·obtain rfl:ki=3:=by omega
    clear hk hlt hki;obtain⟨Tq,fq,hnq,hbq,hsq⟩:=jR wr;have c1:∀s,(fq s).cell? ⟨g5,7,none⟩=some (.slice ia iN ic):=fun s=>((h5'.o.late hbr.o).late (hbq s)).cell rfl;have c2:∀s,(fq s).cell? ⟨g6,7,none⟩=some (.slice zK zL zM):=fun s=>((h6'.o.late hbr.o).late (hbq s)).cell rfl;have HQ:=aA (hsq _ ((aW _ _).drew));have hC:=fun W (h:Below wr.heap.size wr W)=>CQ ia zK iN ic zL zM i i2 W (hi'.o.mono (hbw.o.tm h)) (bP6.o.mono (hbw.o.tm h)) bi'.o bPA.o;obtain⟨r,hr⟩:=aC (i==i2);rw[hr]at hC;obtain⟨vT,a7P,hC',hr'⟩:=aH hbq hsq hC hr;clear hbq hsq hC hr;go_wp2_with fail
    refine jO fq (by kernel_rfl) (by kernel_rfl) HQ.o ?_;iterate 11 (go_big_quiet_step ((go_at_call 72;refine(hC'.o _ (vT.o _)).mono ?_;rintro e w3 ⟨rfl,hb3⟩;exact⟨rfl,a7P.o _ ((vT.o _).trans (hb3.mono (vT.o _).size))⟩)))
    refine wpQuiet_nil ?_;intro s;obtain⟨hbz,a7Q⟩:=aF (hbr.o.trans ((vT.o s).mono hbr.o.size)) (hbw.o.trans ((vT.o s).mono hbw.o.size));clear c1 c2;cases r with
    |false=>
     have hno:E8 ⟨o,z,p,g,i,f,mk,th⟩ ⟨o2,z2,p2,g2,i2,f2,mk2,th2⟩=false:=a14 (j:=3) (by decide) hr'.o;have hno':=aA hno;clear hno;go_wp2_with fail
     go_ret;exact⟨by rw[hno'.o];rfl,a7Q.o⟩
    |true=>
     go_wp2_with fail
     go_roundw
     case rel=>exact⟨4,4,by omega,rfl,rfl,aA (fun j hj=>by
      rcases(by omega:j<3∨j=3)with h|h
      ·exact hdn.o j h
      ·subst h;exact hr'.o),hbz⟩
     case measure=>simp[intOf]
   ·obtain rfl:ki=4:=by omega
    clear hk hlt hki;obtain⟨Tq,fq,hnq,hbq,hsq⟩:=jR wr;have c1:∀s,(fq s).cell? ⟨g5,9,none⟩=some (.slice fa fn fc):=fun s=>((h5'.o.late hbr.o).late (hbq s)).cell rfl;have c2:∀s,(fq s).cell? ⟨g6,9,none⟩=some (.slice fa2 zN zO):=fun s=>((h6'.o.late hbr.o).late (hbq s)).cell rfl;have HQ:=aA (hsq _ ((aW _ _).drew));have hC:=fun W (h:Below wr.heap.size wr W)=>CQ fa fa2 fn fc zN zO f f2 W (hf'.o.mono (hbw.o.tm h)) (bP7.o.mono (hbw.o.tm h)) bf'.o bPB.o;obtain⟨r,hr⟩:=aC (f==f2);rw[hr]at hC;obtain⟨vT,a7P,hC',hr'⟩:=aH hbq hsq hC hr;clear hbq hsq hC hr;go_wp2_with fail
    refine jO fq (by kernel_rfl) (by kernel_rfl) HQ.o ?_;iterate 11 (go_big_quiet_step ((go_at_call 72;refine(hC'.o _ (vT.o _)).mono ?_;rintro e w3 ⟨rfl,hb3⟩;exact⟨rfl,a7P.o _ ((vT.o _).trans (hb3.mono (vT.o _).size))⟩)))
    refine wpQuiet_nil ?_;intro s;obtain⟨hbz,a7Q⟩:=aF (hbr.o.trans ((vT.o s).mono hbr.o.size)) (hbw.o.trans ((vT.o s).mono hbw.o.size));clear c1 c2;cases r with
    |false=>
     have hno:E8 ⟨o,z,p,g,i,f,mk,th⟩ ⟨o2,z2,p2,g2,i2,f2,mk2,th2⟩=false:=a14 (j:=4) (by decide) hr'.o;have hno':=aA hno;clear hno;go_wp2_with fail
     go_ret;exact⟨by rw[hno'.o];rfl,a7Q.o⟩
    |true=>
     go_wp2_with fail
     go_roundw
     case rel=>exact⟨5,5,by omega,rfl,rfl,aA (fun j hj=>by
      rcases(by omega:j<4∨j=4)with h|h
      ·exact hdn.o j h
      ·subst h;exact hr'.o),hbz⟩
     case measure=>simp[intOf]
  ·obtain rfl:k=5:=by omega
   obtain rfl:ki=5:=by omega
   clear hk hlt hki;have hall:=aZ0 hdn.o;simp only at hall;have hE3:=bE2.o.late hbr.o;have hR3:=bR2.o.late hbr.o;have q0:wr.cell? ⟨w.heap.size,0,none⟩=some (.int .i64 o):=hE3.cell rfl;have q6:wr.cell? ⟨w.heap.size,6,none⟩=some (.slice ma mn mc):=hE3.cell rfl;have q7:wr.cell? ⟨w.heap.size,7,none⟩=some (.slice ta tn tc):=hE3.cell rfl;have r0:wr.cell? ⟨w.heap.size+1,0,none⟩=some (.int .i64 o2):=hR3.cell rfl;have r6:wr.cell? ⟨w.heap.size+1,6,none⟩=some (.slice ma2 mn2 mc2):=hR3.cell rfl;have r7:wr.cell? ⟨w.heap.size+1,7,none⟩=some (.slice ta2 tn2 tc2):=hR3.cell rfl;have hM:=OD ma ma2 mn mn2 mc mc2 mk mk2 wr (hm'.o.mono hbw.o) (VN.o.mono hbw.o) bm'.o bPC.o;have hT:=OD ta ta2 tn tn2 tc tc2 th th2 wr (ht'.o.mono hbw.o) (b6N.o.mono hbw.o) bt'.o bPD.o;obtain⟨b0,hb0⟩:∃b,(o==o2)=b:=⟨_,rfl⟩;obtain⟨b6,hb6⟩:∃b,(mk==mk2)=b:=⟨_,rfl⟩;obtain⟨b7,rP⟩:∃b,(th==th2)=b:=⟨_,rfl⟩;rw[hb6]at hM;rw[rP]at hT;rw[hb0,hb6,rP]at hall;clear hb6 rP;obtain⟨bCN,OO,hM',hT',a3G⟩:=aI hE3 hR3 hM hT hall;clear hE3 hR3 hM hT hall;cases b0 with
   |false=>
    go_wp2_with fail
    go_ret;exact⟨by rw[a3G.o];rfl,hbw.o⟩
   |true=>
   go_wp2_with fail
   refine hM'.o.mono ?_;rintro e w3 ⟨rfl,rfl⟩;cases b6 with
   |false=>
    go_wp2_with fail
    go_ret;exact⟨by rw[a3G.o];rfl,hbw.o⟩
   |true=>
   go_wp2_with fail
   refine hT'.o.mono ?_;rintro e w3 ⟨rfl,rfl⟩;go_wp2_with fail
   go_ret;exact⟨by rw[a3G.o];simp,hbw.o⟩
