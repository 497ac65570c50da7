import Derived.Test.YtceclmpmpldmlaaGreatCx16
import Derived.Test.YtceclmpmpldmlaaGreatShelf
set_option linter.unusedSimpArgs false
set_option linter.unusedVariables false
set_option maxRecDepth 100000
set_option maxHeartbeats 8000000
namespace Go.Proofs.YtceclmpmpldmlaaGreat
open Go.RowKit Tt
def okV (l:List nY) (n:Nat) (o no:Int) (x:rM):Prop:=V7 x o=true∨(1≤(lT x o).length∧Fits l n 3 no x.1 (lT x o).length)
theorem aYO (p:Pt) (P:List Int):tO [p] P=splice P p.1 p.2:=rfl
theorem aH4 (K:Wc) (w:World) (no dir:Int) (P:List Int) (h:P7 K w no P) (t y k:Int) (a:Option Addr) (n c:Nat) (d:List Int) (w0:World) (hs:Sl w0 a n c 1 (ints .u8 d)) (pW:Below w0.heap.size w0 w) (WO:w0.heap.size≤K.gw) (hgb:w0.heap.size≤K.gb) (hd:tV d) (hn:n≤1000000000) (D5:okV K.l K.n K.o dir (t,y,k,d)):
  Calls Tryz.prog 90 #[.pointer (some ⟨K.gw,0,none⟩),.agg #[.int .i64 t,.int .i64 y,.int .i64 k,.slice a n c],.int .i64 dir] w fun e w'=>
   ∃x0 x1 x2 x3,e= .returned (.agg #[.int .i64 x0,.int .i64 x1,.int .i64 x2,.int .i64 x3])∧(x0,x1,x2,x3)=JS K.l K.o dir (t,y,k,d)∧P7 K w' no (tO (AA K.l K.o dir (t,y,k,d)) P)∧Mv K.gw K.gb tZ tZ w w':=by
 obtain⟨W1,pR,b0,b1,jY,s1⟩:=nM w 74 #[.int .i64 t,.int .i64 y,.int .i64 k,.slice a n c] 55 #[.int .i64 0,.int .i64 0,.int .i64 0,.int .i64 0];have kD:=h.ne_of;have h1:=h.later jY;have qC:=pW.tm jY;have G6:V7 (t,y,k,d) K.o=a9I t (lT (t,y,k,d) K.o) K.o:=rfl;obtain⟨E,hE⟩:=aC (a9I t (lT (t,y,k,d) K.o) K.o);rw[hE]at G6;obtain⟨pX,lF,UB,ED,y8,b0',b1',kR,h',h1',oD,DN⟩:=aT hs pW hd D5 pR b0 b1 jY h h1 qC G6;have JA:=aA hE;clear hs pW hd D5 pR b0 b1 jY h h1 qC G6 hE;go_enter Tryz.func90,Tryz.ntmps90;go_wp2_with fail
 rw[y8.o];go_cut [7,8]from 10 to 22 (fun gv bv wx=>∃(g:Nat) (e0 e1 e2 e3:Int),gv= .pointer (some ⟨g,0,none⟩)∧bv= .bool E∧Hid (jW wx g 55 #[.int .i64 e0,.int .i64 e1,.int .i64 e2,.int .i64 e3])∧Hid (w.heap.size+2≤g)∧Hid (E=true→e0=t∧e1=y∧e2=k∧e3=yN (A9 (lT (t,y,k,d) K.o)) 0 4 K.o)∧Hid (Below W1.heap.size W1 wx))
 case first=>
  obtain⟨Ty,ff,oJ,jN,jK⟩:=kE W1;obtain⟨HS,HD⟩:=aJ (jK _ ((aY _ _).drew)) ((aY W1.heap.size W1).drew);have q0:=fun s=>(b0'.o.late (jN s)).cell (i:=0) rfl;have q1:=fun s=>(b0'.o.late (jN s)).cell (i:=1) rfl;have q2:=fun s=>(b0'.o.late (jN s)).cell (i:=2) rfl;have q3:=fun s=>(b0'.o.late (jN s)).cell (i:=3) rfl;have q4:=fun s=>(h1'.o.blk.late (jN s)).cell (i:=1) rfl;obtain⟨jH,jF⟩:=aJ jN jK;clear jN jK;refine kM (S:=fun W=>∃s,W=ff s) aF 16 rfl ?_;refine jS [0,1,2,3,4,5,6,7,8] 7 aF aI aF aF aF HS.o ?_;simp only[jI,aW,aX,aU,aV];iterate 9 (go_big_quiet_step (fail))
  refine wpQuiet_nil ?_;obtain⟨wD,qF⟩:=aC W1.drew;rw[qF]at HS HD ⊢;clear qF;refine yM 9 13 6 aF aF ?_ ?_
  ·simp only[jI,aW,aX,aU,aV];go_wp2_with fail
   refine(aKF t y k a n c d K.o wD (pX.o.mono (oD.o.tm HD.o)) UB.o hn).mono ?_;rintro e w3 ⟨e0,e1,e2,e3,rfl,jQ,MS⟩;have WR:=HD.o.tm jQ;obtain⟨HS,qN,aFL,a6N⟩:=aL (jF.o _ WR) jQ MS WR;clear jQ MS WR;go_wp2_with fail
   first|refine Mid.mk ⟨HS.o,?_⟩|refine Mid.mk ?_
   refine jS [10,11,12] 3 aF aI aF aF aF HS.o ?_;simp only[jI,aW,aX,aU,aV];iterate 3 (go_big_quiet_step (fail))
   refine wpQuiet_nil ?_;refine jJ 13 2 aF aF ?_;simp only[jI,aW,aX,aU,aV];go_wp2_with fail
   have bG:=jW.new w3 55 #[.int .i64 0,.int .i64 0,.int .i64 0,.int .i64 0];have l9:=aD w3 (.cells #[.int .i64 0,.int .i64 0,.int .i64 0,.int .i64 0] 55);have hxA:=a6N.o.tm l9;have hgA:w.heap.size+2≤w3.heap.size:=by rw[←s1];exact a6N.o.size
   obtain⟨g,hg⟩:=aC w3.heap.size;obtain⟨wA,hwA⟩:=aC (w3.alloc (.cells #[.int .i64 0,.int .i64 0,.int .i64 0,.int .i64 0] 55));rw[hwA]at bG l9 hxA;rw[hwA];rw[hg]at bG hgA;try rw[hg]
   have HS:=aA (jF.o _ hxA);have hxL:=hxA;obtain⟨vT,oL,aYP,b6J,aYQ,TQ⟩:=aN bG l9 hxA hxL hwA hg;clear bG l9 hxA hxL hwA hg;first|refine Mid.mk ⟨HS.o,?_⟩|refine Mid.mk ?_
   refine jJ 14 1 aF aF ?_;simp only[jI,aW,aX,aU,aV];have p0:=vT.o.cell (i:=0) rfl;have p1:=vT.o.cell (i:=1) rfl;have p2:=vT.o.cell (i:=2) rfl;have p3:=vT.o.cell (i:=3) rfl;have y0:=vT.o.frozen 0;have y1:=vT.o.frozen 1;have y2:=vT.o.frozen 2;have y3:=vT.o.frozen 3;have hWg:W1.heap.size≤g:=by rw[s1];exact hgA
   go_wp2_with fail
   have bZ:=(((vT.o.set 0 (.int .i64 e0)).set 1 (.int .i64 e1)).set 2 (.int .i64 e2)).set 3 (.int .i64 e3);have hxZ:=(((b6J.o.setCell (p:=⟨g,0,none⟩) hWg (.int .i64 e0)).setCell (p:=⟨g,1,none⟩) hWg (.int .i64 e1)).setCell (p:=⟨g,2,none⟩) hWg (.int .i64 e2)).setCell (p:=⟨g,3,none⟩) hWg (.int .i64 e3);have HS:=aA (jF.o _ hxZ);clear p0 p1 p2 p3 y0 y1 y2 y3;obtain⟨bZ',aYR⟩:=aJ bZ hxZ;clear bZ hxZ;first|refine Mid.mk ⟨HS.o,?_⟩|refine Mid.mk ?_
   refine jJ 15 0 aF aF ?_;simp only[jI,aW,aX,aU,aV];go_wp2_with fail
   first|refine Mid.mk ⟨HS.o,?_⟩|refine Mid.mk ?_
   refine jV aF ?_;go_wp2_with fail
   go_meet
   exact⟨g,e0,e1,e2,e3,rfl,by rw[JA.o],bZ',aA hgA,aA (by rw[←JA.o];exact aFL.o),aYR⟩
  ·simp only[jI,aW,aX,aU,aV];go_wp2_with fail
   have bG:=jW.new wD 55 #[.int .i64 0,.int .i64 0,.int .i64 0,.int .i64 0];have l9:=aD wD (.cells #[.int .i64 0,.int .i64 0,.int .i64 0,.int .i64 0] 55);have hxA:=HD.o.tm l9;have hgA:w.heap.size+2≤wD.heap.size:=by rw[←s1];exact HD.o.size
   obtain⟨g,hg⟩:=aC wD.heap.size;obtain⟨wA,hwA⟩:=aC (wD.alloc (.cells #[.int .i64 0,.int .i64 0,.int .i64 0,.int .i64 0] 55));rw[hwA]at bG l9 hxA;rw[hwA];rw[hg]at bG hgA;try rw[hg]
   obtain⟨HS,vT,oL,aYP,aYQ,TQ⟩:=aN (jF.o _ hxA) bG l9 hxA hwA hg;clear bG l9 hxA hwA hg;first|refine Mid.mk ⟨HS.o,?_⟩|refine Mid.mk ?_
   refine jJ 9 5 aF aF ?_;simp only[jI,aW,aX,aU,aV];go_wp2_with fail
   refine(aKF t y k a n c d K.o wA (pX.o.mono (oD.o.tm aYP.o)) UB.o hn).mono ?_;rintro e w3 ⟨e0,e1,e2,e3,rfl,jQ,MS⟩;have WR:=aYP.o.tm jQ;have HS:=aA (jF.o _ WR);have bG:=vT.o.late jQ;have hxL:=WR;clear vT;obtain⟨vT,qN,aFL,a6N,b6J⟩:=aM bG jQ MS WR hxL;clear bG jQ MS WR hxL;go_wp2_with fail
   first|refine Mid.mk ⟨HS.o,?_⟩|refine Mid.mk ?_
   refine jS [10,11,12] 2 aF aI aF aF aF HS.o ?_;simp only[jI,aW,aX,aU,aV];iterate 3 (go_big_quiet_step (fail))
   refine wpQuiet_nil ?_;refine jJ 14 1 aF aF ?_;simp only[jI,aW,aX,aU,aV];have p0:=vT.o.cell (i:=0) rfl;have p1:=vT.o.cell (i:=1) rfl;have p2:=vT.o.cell (i:=2) rfl;have p3:=vT.o.cell (i:=3) rfl;have y0:=vT.o.frozen 0;have y1:=vT.o.frozen 1;have y2:=vT.o.frozen 2;have y3:=vT.o.frozen 3;have hWg:W1.heap.size≤g:=by rw[s1];exact hgA
   go_wp2_with fail
   have bZ:=(((vT.o.set 0 (.int .i64 e0)).set 1 (.int .i64 e1)).set 2 (.int .i64 e2)).set 3 (.int .i64 e3);have hxZ:=(((b6J.o.setCell (p:=⟨g,0,none⟩) hWg (.int .i64 e0)).setCell (p:=⟨g,1,none⟩) hWg (.int .i64 e1)).setCell (p:=⟨g,2,none⟩) hWg (.int .i64 e2)).setCell (p:=⟨g,3,none⟩) hWg (.int .i64 e3);have HS:=aA (jF.o _ hxZ);clear p0 p1 p2 p3 y0 y1 y2 y3;obtain⟨bZ',aYR⟩:=aJ bZ hxZ;clear bZ hxZ;first|refine Mid.mk ⟨HS.o,?_⟩|refine Mid.mk ?_
   refine jJ 15 0 aF aF ?_;simp only[jI,aW,aX,aU,aV];go_wp2_with fail
   first|refine Mid.mk ⟨HS.o,?_⟩|refine Mid.mk ?_
   refine jV aF ?_;go_wp2_with fail
   go_meet
   exact⟨g,e0,e1,e2,e3,rfl,by rw[JA.o],bZ',aA hgA,aA (by rw[←JA.o];exact aFL.o),aYR⟩
 case rest=>
  obtain⟨g,e0,e1,e2,e3,rfl,rfl,bG,hgN,MS,xI⟩:=hcut;rename World=>wq
  have h2:=h1'.o.later xI.o;have b02:=b0'.o.late xI.o;have b12:=b1'.o.late xI.o;have aRT:=kR.o.tm xI.o;have aYS:=lF.o.tm aRT;have p0:=b12.cell (i:=0) rfl;have p1:=b12.cell (i:=1) rfl;have p2:=b12.cell (i:=2) rfl;have p3:=b12.cell (i:=3) rfl;have y0:=b12.frozen 0;have y1:=b12.frozen 1;have y2:=b12.frozen 2;have y3:=b12.frozen 3;cases E with
  |true=>
   obtain⟨rfl,rfl,rfl,XB⟩:=MS.o rfl;have u0:=bG.o.cell (i:=0) rfl;have u1:=bG.o.cell (i:=1) rfl;have u2:=bG.o.cell (i:=2) rfl;have u3:=bG.o.cell (i:=3) rfl;have bN:=(((b12.set 0 (.int .i64 e0)).set 1 (.int .i64 e1)).set 2 (.int .i64 e2)).set 3 (.int .i64 e3);have oU:=((((But.refl (w.heap.size+1) wq).set 0 (.int .i64 e0)).set 1 (.int .i64 e1)).set 2 (.int .i64 e2)).set 3 (.int .i64 e3);clear MS;obtain⟨h2',aQW,aQX,aCR,aRU,bN',a2H,bOD⟩:=aP h2 b02 b12 aRT aYS bN oU XB;clear h2 b02 b12 aRT aYS bN oU XB;go_wp2_with fail
   refine bodyPost_ret (results_cell_row rfl _ _ (w.heap.size+1) 55 #[.int .i64 e0,.int .i64 e1,.int .i64 e2,.int .i64 e3] (0,0) _ rfl bN'.o Tryz.underlying55 rfl aF) rfl ?_;have wR:=a2H.o.below (B:=w.heap.size) aG aCR.o.size;have jZ:=aCR.o.trans wR;refine⟨e0,e1,e2,e3,rfl,?_,?_,Mv.of_below jZ⟩
   ·unfold JS;rw[if_pos DN.o,bOD.o]
   ·unfold AA;rw[if_pos DN.o];exact h'.o.later jZ
  |false=>
   clear MS bG hgN;obtain⟨hl1,YI,hf0,hfn⟩:1≤(lT (t,y,k,d) K.o).length∧Fits K.l K.n 3 dir t (lT (t,y,k,d) K.o).length:=by
    rcases ED.o with h|h
    ·rw[DN.o]at h;cases h
    ·exact h
   have hS:=PD K wq no P h2 3 dir t YI;obtain⟨q,hq⟩:∃q:Nat,oV K.l 3 dir t=q:=⟨(oV K.l 3 dir t).toNat,by omega⟩;rw[hq]at hS hfn;rw[bM]at hfn;have v0:=b02.cell (i:=0) rfl;clear p0 p1 p2 p3 y0 y1 y2 y3;obtain⟨h2',aQW,aQX,aCR,aRU,hS',aND,hq'⟩:=aP h2 b02 b12 aRT aYS hS YI hq;clear h2 b02 b12 aRT aYS hS YI hq;go_wp2_with fail
   refine hS'.o.mono ?_;rintro e w4 ⟨rfl,mF⟩;have h4:=h2'.o.later mF;have b04:=aQW.o.late mF;have b14:=aQX.o.late mF;have qZ:=aCR.o.tm mF;have CK:=aRU.o.tm mF;have bFH:=h4.ne_of;have hg0:w.heap.size≠K.gb:=by omega
   have hg1:w.heap.size+1≠K.gb:=by omega
   obtain⟨Ty,ff,oJ,Q7,jK⟩:=aGY K.gb w4;have HS:=aA (jK _ (But.of_below ((aY w4.heap.size w4).drew)));have HD:=aA ((aY w4.heap.size w4).drew);have q0:=fun s=>(jW.a9H (Q7 s) h4.blk h4.ne).cell (i:=0) rfl;have q1:=fun s=>(jW.a9H (Q7 s) h4.blk h4.ne).cell (i:=1) rfl;have q2:=fun s=>(jW.a9H (Q7 s) b04 hg0).cell (i:=1) rfl;have q3:=fun s=>(jW.a9H (Q7 s) b04 hg0).cell (i:=2) rfl;have q4:=fun s=>(jW.a9H (Q7 s) b04 hg0).cell (i:=3) rfl;have aXJ:=fun W=>a2L (P:=Tryz.prog) (T:=24) (E:=5) Tryz.underlying24 a2M K.gb K.n q aG W;clear v0;obtain⟨h4',bOE,bOF,kW,qB,rT,b1H,jF⟩:=aP h4 b04 b14 qZ CK mF Q7 jK;clear h4 b04 b14 qZ CK mF Q7 jK;go_wp2_with fail
   refine kM (S:=fun W=>∃s,W=ff s) aF 16 rfl ?_;obtain⟨wD,qF⟩:=aC w4.drew;rw[qF]at HS HD ⊢;clear qF;refine jS [0,1,2,3,4,5,6,7,8,9,10,11,12,13] 2 aF aI aF aF aF HS.o ?_;simp only[jI,aW,aX,aU,aV];iterate 14 (go_big_quiet_step (fail))
   refine wpQuiet_nil ?_;refine jJ 14 1 aF aF ?_;simp only[jI,aW,aX,aU,aV];go_wp2_with fail
   refine(a2R t y k a n c d K.o wD (pX.o.mono (qB.o.tm HD.o)) UB.o hn).mono ?_;rintro e w5 ⟨a5,m5,rfl,ho5,nZ⟩;have IB:(lT (t,y,k,d) K.o).length=m5:=(Sl.jU ho5).1.nU;have MJ:=HD.o.tm nZ;have h5:=h4'.o.later MJ;have HS:=aA (jF.o _ (But.of_below MJ));rw[IB]at hl1 hfn;obtain⟨w6,hr6,h6,hm6,QC⟩:=JU h5 a5 m5 m5 _ (Sl.jU ho5).1 q hl1 hfn 3;have HS6:=aA (jF.o _ ((But.of_below MJ).trans QC));have bFI:=(Mv.of_below (g:=K.gw) (gt:=K.gb) (sv:=tZ) (kW.o.tm MJ)).trans hm6;have b06:=jW.a9H QC (bOE.o.late MJ) hg0;have b16:=jW.a9H QC (bOF.o.late MJ) hg1;obtain⟨a6K,xJ,bTB,VB,h5',h6',bOG,bTC,bFJ,aYN,a6M⟩:=aS ho5 nZ IB MJ h5 h6 hm6 QC bFI b06 b16;clear ho5 nZ IB MJ h5 h6 hm6 QC bFI b06 b16;go_wp2_with fail
   first|refine Mid.mk ⟨HS.o,?_⟩|refine Mid.mk ?_
   refine jJ 15 0 aF aF ?_;simp only[jI,aW,aX,aU,aV];go_wp2_with (at_builtin;refine wpList_copy_run _ rfl _ _ _ _ rfl _ _ rfl rfl hr6 ?_)
   first|refine Mid.mk ⟨HS6.o,?_⟩|refine Mid.mk ?_
   refine jV aF ?_;have v0:=aYN.o.cell (i:=0) rfl;have v1:=aYN.o.cell (i:=1) rfl;have v2:=aYN.o.cell (i:=2) rfl;have p0:=a6M.o.cell (i:=0) rfl;have p1:=a6M.o.cell (i:=1) rfl;have p2:=a6M.o.cell (i:=2) rfl;have p3:=a6M.o.cell (i:=3) rfl;have y0:=a6M.o.frozen 0;have y1:=a6M.o.frozen 1;have y2:=a6M.o.frozen 2;have y3:=a6M.o.frozen 3;clear hr6 q0 q1 q2 q3 q4;go_wp2_with fail
   have bN:=(((a6M.o.set 0 (.int .i64 t)).set 1 (.int .i64 y)).set 2 (.int .i64 k)).set 3 (.int .i64 q);have oU:=((((But.refl (w.heap.size+1) w6).set 0 (.int .i64 t)).set 1 (.int .i64 y)).set 2 (.int .i64 k)).set 3 (.int .i64 q);refine bodyPost_ret (results_cell_row rfl _ _ (w.heap.size+1) 55 #[.int .i64 t,.int .i64 y,.int .i64 k,.int .i64 q] (0,0) _ rfl bN Tryz.underlying55 rfl aF) rfl ?_;refine⟨t,y,k,q,rfl,?_,?_,?_⟩
   ·unfold JS;rw[if_neg (by rw[DN.o];decide),hq'.o]
   ·unfold AA;rw[if_neg (by rw[DN.o];decide),hq'.o,bM];exact h6'.o.but oU aG aG (by have:=h'.o.aCO;omega)
   ·exact Mv.new bFJ.o oU aG
open Go.Sort
def aYT (a b:Int):Int:=if a<b then -1 else if b<a then 1 else 0
theorem aYU (a b:Int) (w:World):Calls Tryz.prog 97 #[.int .i64 a,.int .i64 b] w fun e w'=>e= .returned (.int .i64 (aYT a b))∧w=w':=by
 have hn:∀(x:Int) (W:World),Calls Tryz.prog 155 #[.int .i64 x] W fun e w'=>e= .returned (.bool false)∧W=w':=fun x W=>by
  have hx:(x != x)=false:=by simp
  go_enter Tryz.func155,Tryz.ntmps155;go_wp2;go_ret;exact⟨rfl,rfl⟩
 have hn':=aA hn;clear hn;unfold aYT;by_cases h1:a<b
 ·have d1:decide (a<b)=true:=by simp;omega
  rw[if_pos h1];go_enter Tryz.func97,Tryz.ntmps97;go_wp2_with (go_at_call 155;refine(hn'.o _ _).mono ?_;rintro e w' ⟨rfl,rfl⟩)
  go_ret;exact⟨rfl,rfl⟩
 ·have d1:decide (a<b)=false:=by simp;omega
  rw[if_neg h1];by_cases h2:b<a
  ·have d2:decide (b<a)=true:=by simp;omega
   rw[if_pos h2];go_enter Tryz.func97,Tryz.ntmps97;go_wp2_with (go_at_call 155;refine(hn'.o _ _).mono ?_;rintro e w' ⟨rfl,rfl⟩)
   go_ret;exact⟨rfl,rfl⟩
  ·have d2:decide (b<a)=false:=by simp;omega
   rw[if_neg h2];go_enter Tryz.func97,Tryz.ntmps97;go_wp2_with (go_at_call 155;refine(hn'.o _ _).mono ?_;rintro e w' ⟨rfl,rfl⟩)
   go_ret;exact⟨rfl,rfl⟩
def cfE (x y:xB):Int:=aYT x.1 y.1
theorem aYV (x y:xB) (w:World):Calls Tryz.prog 96 #[.agg (sP x).toArray,.agg (sP y).toArray] w fun e w'=>e= .returned (.int .i64 (cfE x y))∧∃q os',w'=grow (w.drewN q) os':=by
 obtain⟨x1,x2,x3,x4⟩:=x;obtain⟨y1,y2,y3,y4⟩:=y;obtain⟨W1,pR,b0,b1,jY,s1⟩:=nM w 55 #[.int .i64 x1,.int .i64 x2,.int .i64 x3,.int .i64 x4] 55 #[.int .i64 y1,.int .i64 y2,.int .i64 y3,.int .i64 y4];have hgr:∃q os',W1=grow (w.drewN q) os':=⟨0,#[_,_],by rw[←pR,alloc_eq_grow,alloc_eq_grow,grow_grow];rfl⟩;have p0:=b0.cell (i:=0) rfl;have p1:=b1.cell (i:=0) rfl;show Calls Tryz.prog 96 #[.agg #[.int .i64 x1,.int .i64 x2,.int .i64 x3,.int .i64 x4],.agg #[.int .i64 y1,.int .i64 y2,.int .i64 y3,.int .i64 y4]] w _
 obtain⟨y8,b0',b1',kR,s1',aP5⟩:=aN pR b0 b1 jY s1 hgr;clear pR b0 b1 jY s1 hgr;go_enter Tryz.func96,Tryz.ntmps96;go_wp2_with fail
 rw[y8.o];go_wp2_with (go_at_call 97;refine(aYU _ _ _).mono ?_;rintro e w' ⟨rfl,rfl⟩)
 go_ret;exact⟨rfl,aP5.o⟩
theorem aYW (g:Nat) (tag:Int) (u v:Int) (w:World) (h:w.cell? ⟨g,0,none⟩=some (.int .i64 tag)) (hg:g<w.heap.size):
  Calls Tryz.prog 92 #[.agg #[.int .i64 u,.int .i64 v],.pointer (some ⟨g,0,none⟩)] w fun e w'=>e= .returned (.bool (u==tag))∧Below w.heap.size w w':=by
 have hb:=aD w (.cells #[.int .i64 u,.int .i64 v] 32);have mO:=aA hb;clear hb;go_enter Tryz.func92,Tryz.ntmps92;go_wp2_with fail
 go_ret;exact⟨rfl,mO.o⟩
def sortE (l:List xB):List xB:=l.mergeSort fun x y=> !Go.Proofs.ltOf cfE y x
theorem ltE (x y:xB):Go.Proofs.ltOf cfE x y=decide (x.1<y.1):=by
 unfold Go.Proofs.ltOf cfE aYT;rw[eD,decide_eq_true_eq,decide_eq_true_eq];split
 ·omega
 ·split <;> omega
theorem bOH:SWO (Go.Proofs.ltOf cfE):=⟨fun x=>by rw[ltE];simp,fun x y z h1 h2=>by rw[ltE,decide_eq_true_eq]at*;omega,fun x y z h1 h2=>by rw[ltE,decide_eq_false_iff_not]at*;omega⟩
theorem BI (l:List xB):(sortE l).length=l.length:=(gQ _ _).length_eq
theorem aNE {l:List xB} (hd:l.Pairwise fun x y=>x.1≠y.1) {d':Array xB} (hP:PermIn 0 l.length l.toArray d') (hS:SortedIn (Go.Proofs.ltOf cfE) 0 l.length d'):d'.toList=sortE l:=by
 obtain⟨rX,_,b4E⟩:=hP;have zL:d'.size=l.length:=by simpa using rX
 have e1:d'.extract 0 l.length=d':=by rw[←zL];exact Array.extract_size
 have e2:l.toArray.extract 0 l.length=l.toArray:=by simp
 rw[e1,e2]at b4E;have BP:d'.toList.Perm l:=b4E;have WL:∀a b,a∈l→b∈l→a.1=b.1→a=b:=by
  intro a b ha hb hab;obtain⟨i,hi,rfl⟩:=eH ha;obtain⟨j,hj,rfl⟩:=eH hb;rcases Nat.lt_trichotomy i j with h|h|h
  ·exact absurd hab (fO.1 hd i j hi hj h)
  ·subst h;rfl
  ·exact absurd hab.symm (fO.1 hd j i hj hi h)
 refine List.Perm.eq_of_pairwise (le:=fun x y=>(!Go.Proofs.ltOf cfE y x)=true) ?_ ?_ ?_ (BP.trans (gQ _ _).symm)
 ·intro a b ha hb h1 h2;simp only[ltE,eB,decide_eq_false_iff_not]at h1 h2;exact WL a b (BP.subset ha) ((gQ _ _).subset hb) aG
 ·rw[fO];intro i j hi hj hij;have xG:i<d'.size:=by simpa using hi
  have RF:j<d'.size:=by simpa using hj
  have:=hS i j (Nat.zero_le _) hij aG;rw[getElem!_pos d' j RF,getElem!_pos d' i xG]at this;simpa using this
 ·refine List.pairwise_mergeSort ?_ ?_ _
  ·intro a b c h1 h2;simp only[ltE,eB,decide_eq_false_iff_not]at h1 h2 ⊢;omega
  ·intro a b;simp only[ltE,eY,eB,decide_eq_false_iff_not];omega
theorem b1O (l:List xB):flatK sP 4 l.toArray=(fl sP l).toArray:=by
 have rX:(fl sP l).length=l.length*4:=RN rG l;refine ext_get! (by simp[rX]) fun t ht=>?_;have TV:t<l.length*4:=by simpa using ht
 rw[get_flatK _ _ _ t (by simpa using TV)];have h1:t / 4<l.length:=by omega
 have h2:t % 4<4:=Nat.mod_lt _ aH;have:=aG9 rG default h1 h2;rw[show t / 4*4+t % 4=t by omega]at this;have e1:l.toArray[t / 4]! =l.getD (t / 4) default:=by
  rw[getElem!_pos _ _ (by simpa using h1)];simp[List.getD,bI h1]
 rw[e1,getElem!_pos (fl sP l).toArray t (by simpa [rX] using TV)];have h3:t<(fl sP l).length:=by omega
 rw[bI h3]at this;have h4:t % 4<(sP (l.getD (t / 4) default)).length:=by rw[rG];exact h2
 rw[bI h4]at this;rw[getElem!_pos (sP (l.getD (t / 4) default)) (t % 4) h4];simpa using this.symm
theorem aNF (cur:Array Value) (ts:List Value) (h:ts.length≤cur.size):(putCells id 0 ts.toArray cur).toList.take ts.length=ts:=by
 apply List.ext_getElem?;intro j;by_cases hj:j<ts.length
 ·rw[List.getElem?_take_of_lt hj,Array.getElem?_toList];simp[putCells,hj,show j<cur.size by omega]
 ·rw[List.getElem?_take_eq_none aG,gI aG]
theorem a7U (B:Nat) (l:List xB) (v:Value) (w:World) (h:w.ownsRow B 55 4 v l.length (fl sP l)) (h1:1≤l.length) (hn:l.length≤1000000) (hd:l.Pairwise fun x y=>x.1≠y.1):
  Calls Tryz.prog 95 #[v,.func (.func 96) #[] #[]] w fun e w'=>e= .returned (.tuple #[])∧w'.ownsRow B 55 4 v (sortE l).length (fl sP (sortE l))∧w.grownBy w' v.ownBlock:=by
 obtain⟨yV,hr⟩:=h;rcases hr with ⟨_,h0⟩|⟨g,cap,cur,rfl,hB,hg,hc,LX,PV,DI⟩
 ·omega
 have hH:HoldsK sP 4 w g 0 l.toArray:=by
  unfold HoldsK;rw[b1O];intro j hj;have RF:j<(fl sP l).length:=by simpa using hj
  refine⟨?_,by simp[World.frozen?,hg]⟩;have h1:(cur.toList.take (l.length*4))[j]? =(fl sP l)[j]? :=by rw[DI]
  rw[List.getElem?_take_of_lt (by rw[RN rG]at RF;exact RF)]at h1;simp only[World.cell?,hg,dU];simp only[Option.isSome_none,Bool.false_eq_true,if_false];rw[←Array.getElem?_toList,h1];simp[RF]
 have hgl:=(bW.1 hg).1;have aJO:∀(x:xB),∀v∈sP x,v.oneCell'=true:=by
  intro x v hv;simp only[sP,cB,dK,or_false]at hv;rcases hv with rfl|rfl|rfl|rfl <;> rfl
 refine(Go.Proofs.AnyQ.slices_SortFunc Tryz.sortE 4 Tryz.isAgg55 Tryz.sizeOf55 sP rG aJO cfE bOH 96 #[] g 0 cap l.toArray w (fun args W=>by kernel_rfl) (fun m os dk _ x y=>aYV x y _) hH hgl (by simpa using Nat.lt_of_le_of_lt hn aH)).mono ?_;rintro e w' ⟨rfl,d',n,os,hP,hS,rfl⟩;have UB:=aNE hd (by simpa using hP) (by simpa using hS);obtain rfl:d'=(sortE l).toArray:=by rw[←UB]
 refine⟨rfl,⟨RN rG _,.inr ⟨g,cap,putCells id 0 (fl sP (sortE l)).toArray cur,by rw[BI],hB,?_,by rw[BI];exact hc,LX,by simp[putCells,PV],?_⟩⟩,⟨rfl,rfl,rfl,?_,?_⟩⟩
 ·unfold sortWorldK putRowK;rw[b1O,heap_grow_old _ _ (by simpa using hgl)];simp[putRow,mapBlock,Sort.ahead,gK,hg,onCells]
 ·rw[←RN rG (sortE l)];refine aNF cur _ ?_;rw[RN rG,BI,PV];exact iH _ hc
 ·unfold sortWorldK;simp[size_putRowK]
 ·intro k hk oJ;unfold sortWorldK putRowK;rw[heap_grow_old _ _ (by simpa using hk)];have:g≠k:=fun e=>oJ (by rw[←e];rfl);simp[putRow,mapBlock,Sort.ahead,gK,this]
theorem b6K {T:TypeId} {sz MG:Nat} (h1:(Tryz.prog.info? T).map (fun i=>(i.size,i.bytes))=some (sz,MG)) (h2:(Tryz.prog.info? T).map (fun i=>i.zero.map (fun z=>z.cells.size))=some (some sz)):
  ∃(i:TypeInfo) (z:Value),Tryz.prog.info? T=some i∧i.zero=some z∧i.size=sz∧i.bytes=MG∧z.cells.size=sz:=by
 cases hi:Tryz.prog.info? T with
 |none=>rw[hi]at h1;cases h1
 |some i=>
  rw[hi]at h1 h2;simp only[iE,fG,fQ]at h1 h2;cases hz:i.zero with
  |none=>rw[hz]at h2;cases h2
  |some z=>
   rw[hz]at h2;simp only[iE,fG]at h2;exact⟨i,z,rfl,hz,h1.1,h1.2,h2⟩
theorem b1P:(Tryz.prog.info? 55).map (fun i=>(i.size,i.bytes))=some (4,32):=by kernel_rfl
theorem aRV:(Tryz.prog.info? 55).map (fun i=>i.zero.map (fun z=>z.cells.size))=some (some 4):=by kernel_rfl
theorem aRW {w w':World} {B b:Nat} {E:TypeId} {sz n:Nat} {v:Value} {xs:List Value} (h:w.ownsRow B E sz v n xs) (hb:But b w w') (oJ:v.ownBlock≠some b):w'.ownsRow B E sz v n xs:=by
 obtain⟨hl,hr⟩:=h;refine⟨hl,?_⟩;rcases hr with hn|⟨g,cap,cur,rfl,hB,hg,r⟩
 ·exact .inl hn
 ·exact .inr ⟨g,cap,cur,rfl,hB,(hb.block g (bW.1 hg).1 (fun e=>oJ (by rw[←e];rfl))).trans hg,r⟩
theorem a9L (B gl:Nat) (l xs:List xB) (v:Value) (a:Option Addr) (n c:Nat) (w:World) (hv:jW w gl 154 #[v]) (h:w.ownsRow B 55 4 v l.length (fl sP l)) (oJ:v.ownBlock≠some gl) (hB:B≤w.heap.size) (hs:Sl w a n c 4 (fl sP xs)) (h1:1≤n) (hn:l.length+n≤1000000):
  Calls Tryz.prog 89 #[.slice a n c,.pointer (some ⟨gl,0,none⟩)] w fun e w'=>∃v',e= .returned (.tuple #[])∧jW w' gl 154 #[v']∧w'.ownsRow B 55 4 v' (l++xs).length (fl sP (l++xs))∧v'.ownBlock≠some gl∧Mv gl gl v v' w w':=by
 have hxl:xs.length=n:=hs.rP rG aH;obtain⟨b,off,rfl,kD,_⟩:=hs.lies 0 aG;have hgl:=hv.lt;have p0:=hv.cell (i:=0) rfl;have y0:=hv.frozen 0;have aJO:∀u∈fl sP xs,u.oneCell'=true:=aQE (fun x v hv=>by
  simp only[sP,cB,dK,or_false]at hv;rcases hv with rfl|rfl|rfl|rfl <;> rfl)
 obtain⟨i0,z0,xH,hz,oG,qK,QG⟩:=b6K b1P aRV;obtain⟨xE,h',MP,pX,aXK⟩:=aM hv h oJ hs aJO;clear hv h oJ hs aJO;go_enter Tryz.func89,Tryz.ntmps89;go_wp2_with (at_builtin;refine mU rfl _ _ 154 rfl B 55 i0 z0 4 32 Tryz.underlying154 xH hz oG qK QG aH v _ _ rfl h'.o ⟨b,off,none⟩ n c (fl sP xs) rfl pX.o aXK.o aG aH hB ?_;intro a5 c5 wa ob hga hoa;obtain⟨Ob,Hga,Hoa⟩:=aK ob hga hoa;clear p0 y0;have y0:=(xE.o.grown hga MP.o).frozen 0;have p0:=(xE.o.grown hga MP.o).cell (i:=0) rfl;clear ob hga hoa)
 refine bodyPost_end (results_none rfl _ _ _) rfl ?_;have hv1:=xE.o.grown Hga.o MP.o;have J2:(Value.slice a5 (l.length+n) c5).ownBlock≠some gl:=fun e=>by
  rcases Hoa.o gl e with h|h
  ·exact MP.o h
  ·omega
 refine⟨_,rfl,hv1.set 0 _,?_,J2,?_⟩
 ·rw[JI,cO,hxl];exact aRW Ob.o ((But.refl gl wa).set 0 _) J2
 ·exact(Mv.NM Hga.o Hoa.o).trans (Mv.a1P ((But.refl gl wa).set 0 _) (.inl rfl))
theorem QW {zs:List Tz} {k:Nat}:(zs.map l8).getD k tg0=l8 (zs.getD k yL):=NR l8 zs yL k
theorem aNG (qa:Option Addr) (qn qc:Nat) (ta:Option Addr) (tn tc:Nat) (sa:Option Addr) (sn sc:Nat) (ba:Option Addr) (bn bc:Nat) (zs:List Tz) (la:Option Addr) (ln lc:Nat) (lS:List Lk) (sat jG lV:Int) (w:World)
  (ht:Tgr w ta tn tc zs) (oU:∀z∈zs,tV z.2) (hl:Sl w la ln lc 2 (fl lkc lS)) (kY:∀t,((decide (0<sat)&&(t==sat||t==jG))||lS.any fun y=>y.1==t)=RO (lS,sat,jG,lV) t):
  Calls Tryz.prog 107 #[.agg #[.slice qa qn qc],.agg #[.slice ta tn tc,.slice sa sn sc,.slice ba bn bc],.agg #[.slice la ln lc,.int .i64 sat,.int .i64 jG,.int .i64 lV]] w fun e w'=>e= .returned (.bool (ownB (lS,sat,jG,lV) (zs.map l8)))∧Below w.heap.size w w':=by
 have qJ:=ht.len;have LX:=ht.row.max;have BX:=ht.row.le;obtain⟨ts,hts⟩:=aC (zs.map l8);have QI:∀k,ts.getD k tg0=l8 (zs.getD k yL):=fun k=>hts▸QW;rw[hts];have yV:ts.length=tn:=by rw[←hts,bL];exact qJ
 obtain⟨R,hR⟩:=aC (ownB (lS,sat,jG,lV) ts);rw[hR];obtain⟨WC,hWC,bA,bB,bC,hbC,sC⟩:=wV w 104 #[.slice qa qn qc] 26 #[.slice ta tn tc,.slice sa sn sc,.slice ba bn bc] 35 #[.slice la ln lc,.int .i64 sat,.int .i64 jG,.int .i64 lV];have c0:=bB.cell (i:=0) rfl;rw[←hWC]at c0;obtain⟨TV,a2H,yI,tF,mX,a94,EU,FZ,vG,bA',bB',bC'⟩:=aT ht oU hl kY qJ hts QI yV hR bA bB bC;obtain⟨MK,sC',a03⟩:=aK hbC sC hWC;clear ht oU hl kY qJ hts QI yV hR bA bB bC hbC sC hWC;go_enter Tryz.func107,Tryz.ntmps107;go_wp2_with fail
 rw[a03.o];clear a03 c0;go_loopw [12] (fun iv wr=>∃i:Nat,i≤tn∧iv= .int .i64 i∧Hid (∀j,j<i→U4 (lS,sat,jG,lV) ts j=true)∧Hid (Below WC.heap.size WC wr)) (fun iv _=>tn - (intOf iv).toNat)
 case atStart=>exact⟨0,by omega,rfl,aA (fun j hj=>by omega),aA (aY _ _)⟩
 case round=>
  obtain⟨i,hi,rfl,kS,hb⟩:=hrel;by_cases kD:i<tn
  ·have jZ:=MK.o.tm hb.o;have htw:=TV.o.mono jZ;obtain⟨b,o,rfl,lC,f0,f1,f2,f3,rV⟩:=htw.at kD;have KJ:=EU.o i;have tQ:tV (zs.getD i yL).2:=by rw[jO (by rw[mX.o];exact kD)];exact a2H.o _ (bJ _)
   have hgp:=EU.o (i - 1);obtain⟨⟨⟨y,t,k,xa,xn,xc⟩,d⟩,wO⟩:∃z,zs.getD i yL=z:=⟨_,rfl⟩;rw[wO]at f0 f1 f2 f3 rV KJ tQ;simp only[l8]at f0 f1 f2 f3 rV KJ tQ;have CF:U4 (lS,sat,jG,lV) ts i=false→R=false:=fun hh=>vG.o▸NU (by rw[FZ.o];exact kD) hh;have nP:U4 (lS,sat,jG,lV) ts i=true→∀j,j<i+1→U4 (lS,sat,jG,lV) ts j=true:=fun hv j hj=>by
    by_cases TT:j=i
    ·subst TT;exact hv
    ·exact kS.o j aG
   have htB:U4 (lS,sat,jG,lV) ts i=(vV y&&(decide (i=0)||decide ((ts.getD (i - 1) tg0).1<y))&& !RO (lS,sat,jG,lV) y&&vH t k d):=by
    unfold U4;rw[KJ];rfl
   have hTG:=fun W=>aK4 y W;generalize vV y=tb at*;have yJ:(i:Int)<(tn:Int):=by omega
   have b4:=jW.new wr 74 #[.int .i64 y,.int .i64 t,.int .i64 k,.slice xa xn xc];have mF:=aD wr (.cells #[.int .i64 y,.int .i64 t,.int .i64 k,.slice xa xn xc] 74);have DC:=hb.o.tm mF;have qZ:=MK.o.tm DC;have bB4:=bB'.o.late DC;have bC4:=bC'.o.late DC;have aRX:=TV.o.mono qZ;have aRY:=rV.mono mF;have hl4:=yI.o.mono qZ;obtain⟨jM,bOI,aFM,a2B,b6L,NC,nE,lW,F7,I8,b4',rT⟩:=aT jZ htw KJ tQ hgp wO CF nP htB hTG b4 mF;obtain⟨JV,kW,XJ,IC,aCS,JF,aCT,aNH⟩:=aP DC qZ bB4 bC4 aRX rV aRY hl4;clear jZ htw KJ tQ hgp wO CF nP htB hTG b4 mF DC qZ bB4 bC4 aRX rV aRY hl4;go_wp2_with fail
   clear f0 f1 f2 f3;obtain⟨w4,ZL⟩:=aC (wr.alloc (.cells #[.int .i64 y,.int .i64 t,.int .i64 k,.slice xa xn xc] 74));rw[ZL]at b4' rT JV kW XJ IC aCS aCT aNH ⊢;generalize wr.heap.size=g4 at*;clear ZL;have WX:=fun(hz:i≠0)=>aCS.o.at (k:=i - 1) aG;obtain⟨Ty,ff,oJ,jN,jK⟩:=kE w4;have HS:=aA (jK _ ((aY _ _).drew));have q0:=fun s=>(b4'.o.late (jN s)).cell (i:=0) rfl;have q1:=fun s=>(b4'.o.late (jN s)).cell (i:=1) rfl;have q2:=fun s=>(b4'.o.late (jN s)).cell (i:=2) rfl;have q3:=fun s=>(b4'.o.late (jN s)).cell (i:=3) rfl;have q4:=fun s=>(XJ.o.late (jN s)).cell (i:=0) rfl;have q5:=fun s=>(IC.o.late (jN s)).cell (i:=0) rfl;have q6:=fun s=>(IC.o.late (jN s)).cell (i:=1) rfl;have q7:=fun s=>(IC.o.late (jN s)).cell (i:=2) rfl;have q8:=fun s=>(IC.o.late (jN s)).cell (i:=3) rfl;have hMY:=fun s=>a0L t k xa xn xc d (ff s) (aCT.o.mono (jN s)) a2B.o;have hTK:=fun s=>aN5 la ln lc lS sat jG lV y (ff s) (aNH.o.mono (jN s));rw[tF.o]at hTK;generalize RO (lS,sat,jG,lV) y=kb at*;generalize vH t k d=mb at*;obtain⟨jH,jF,RZ,S9⟩:=aL jN jK hMY hTK;clear jN jK hMY hTK;cases tb
   case false=>
    have hv:U4 (lS,sat,jG,lV) ts i=false:=by rw[F7.o];simp
    clear WX;refine jL ff aF aF HS.o ?_;iterate 32 (go_big_quiet_step (first
     |(go_at_call 105;refine(I8.o _).mono ?_;rintro e w3 ⟨rfl,jQ⟩;exact⟨rfl,jF.o _ ((jH.o _).tm jQ)⟩)
     |(go_at_call 162;refine(S9.o _).mono ?_;rintro e w3 ⟨rfl,jQ⟩;exact⟨rfl,jF.o _ ((jH.o _).tm jQ)⟩)
     |(go_at_call 102;refine(RZ.o _).mono ?_;rintro e w3 ⟨rfl,jQ⟩;exact⟨rfl,jF.o _ ((jH.o _).tm jQ)⟩)))
    refine wpQuiet_nil ?_;intro s;have kJ:=jH.o s;have jZ:=kW.o.tm kJ;obtain rfl:=nE.o hv;clear hv;obtain⟨jM,mR⟩:=aJ jZ kJ;clear jZ kJ;go_wp2_with fail
    go_ret;exact⟨rfl,jM.o⟩
   case true=>
    by_cases EM:i=0
    ·have p1:decide ((0:Int)<(i:Int))=false:=by simp;omega
     have p2:decide (0<i)=false:=by simp;omega
     replace F7:=aA (F7.o.trans (by rw[decide_eq_true EM];rfl:_=(true&&true&& !kb&&mb)))
     clear EM WX;cases kb
     case true=>
      have hv:U4 (lS,sat,jG,lV) ts i=false:=by rw[F7.o];simp
      refine jL ff aF aF HS.o ?_;iterate 32 (go_big_quiet_step (first
       |(go_at_call 105;refine(I8.o _).mono ?_;rintro e w3 ⟨rfl,jQ⟩;exact⟨rfl,jF.o _ ((jH.o _).tm jQ)⟩)
       |(go_at_call 162;refine(S9.o _).mono ?_;rintro e w3 ⟨rfl,jQ⟩;exact⟨rfl,jF.o _ ((jH.o _).tm jQ)⟩)
       |(go_at_call 102;refine(RZ.o _).mono ?_;rintro e w3 ⟨rfl,jQ⟩;exact⟨rfl,jF.o _ ((jH.o _).tm jQ)⟩)))
      refine wpQuiet_nil ?_;intro s;have kJ:=jH.o s;have jZ:=kW.o.tm kJ;obtain rfl:=nE.o hv;clear hv;obtain⟨jM,mR⟩:=aJ jZ kJ;clear jZ kJ;go_wp2_with fail
      go_ret;exact⟨rfl,jM.o⟩
     case false=>
      cases mb
      case false=>
       have hv:U4 (lS,sat,jG,lV) ts i=false:=by rw[F7.o];simp
       refine jL ff aF aF HS.o ?_;iterate 32 (go_big_quiet_step (first
        |(go_at_call 105;refine(I8.o _).mono ?_;rintro e w3 ⟨rfl,jQ⟩;exact⟨rfl,jF.o _ ((jH.o _).tm jQ)⟩)
        |(go_at_call 162;refine(S9.o _).mono ?_;rintro e w3 ⟨rfl,jQ⟩;exact⟨rfl,jF.o _ ((jH.o _).tm jQ)⟩)
        |(go_at_call 102;refine(RZ.o _).mono ?_;rintro e w3 ⟨rfl,jQ⟩;exact⟨rfl,jF.o _ ((jH.o _).tm jQ)⟩)))
       refine wpQuiet_nil ?_;intro s;have kJ:=jH.o s;have jZ:=kW.o.tm kJ;obtain rfl:=nE.o hv;clear hv;obtain⟨jM,mR⟩:=aJ jZ kJ;clear jZ kJ;go_wp2_with fail
       go_ret;exact⟨rfl,jM.o⟩
      case true=>
       have hv:U4 (lS,sat,jG,lV) ts i=true:=by rw[F7.o];simp
       refine jL ff aF aF HS.o ?_;iterate 32 (go_big_quiet_step (first
        |(go_at_call 105;refine(I8.o _).mono ?_;rintro e w3 ⟨rfl,jQ⟩;exact⟨rfl,jF.o _ ((jH.o _).tm jQ)⟩)
        |(go_at_call 162;refine(S9.o _).mono ?_;rintro e w3 ⟨rfl,jQ⟩;exact⟨rfl,jF.o _ ((jH.o _).tm jQ)⟩)
        |(go_at_call 102;refine(RZ.o _).mono ?_;rintro e w3 ⟨rfl,jQ⟩;exact⟨rfl,jF.o _ ((jH.o _).tm jQ)⟩)))
       refine wpQuiet_nil ?_;intro s;have kJ:=jH.o s;have jZ:=JV.o.tm kJ;obtain⟨mR,jM,xE⟩:=aK kJ jZ hv;clear kJ jZ hv;go_wp2_with fail
       go_roundw
       case rel=>exact⟨i+1,by omega,by go_num,aA (lW.o xE.o),jM⟩
       case measure=>simp[intOf];omega
    ·obtain⟨b3,o3,XB,vB,g0,_⟩:=WX EM;obtain⟨rfl,rfl⟩:b=b3∧o=o3:=by simpa using XB
     clear XB WX;obtain⟨k',WM⟩:∃k',k'+1=i:=⟨i - 1,by omega⟩;have p1:decide ((0:Int)<(i:Int))=true:=by simp;omega
     have p2:decide (0<i)=true:=by simp;omega
     have wk:IntKind.i64.wrap ((i:Int) - 1)=(k':Int):=by rw[bF];omega
     have aH5:=b6L.o;rw[show i - 1=k' by omega]at g0 aH5;have PY:(ts.getD (i - 1) tg0).1=(zs.getD k' yL).1.1:=by rw[show i - 1=k' by omega,aH5];rfl
     replace F7:=aA (F7.o.trans (by rw[PY]:_=(true&&(decide (i=0)||decide ((zs.getD k' yL).1.1<y))&& !kb&&mb)))
     clear PY aH5;generalize (zs.getD k' yL).1.1=pv at*;have q9:∀s,(ff s).cell? ⟨b,o+k'*4,none⟩=some (.int .i64 pv):=fun s=>late (jH.o s) vB g0;have aJM:(k':Int)<tn:=by omega
     have aGD:k'<tn:=by omega
     have aMU:(0:Int)≤(k':Int):=by omega
     clear g0;by_cases hpt:y≤pv
     ·have p3:decide (y≤pv)=true:=by simp;omega
      have hv:U4 (lS,sat,jG,lV) ts i=false:=by rw[F7.o,decide_eq_false EM,decide_eq_false (show ¬pv<y by omega)];simp
      clear EM WM;refine jL ff aF aF HS.o ?_;iterate 32 (go_big_quiet_step (first
       |(go_at_call 105;refine(I8.o _).mono ?_;rintro e w3 ⟨rfl,jQ⟩;exact⟨rfl,jF.o _ ((jH.o _).tm jQ)⟩)
       |(go_at_call 162;refine(S9.o _).mono ?_;rintro e w3 ⟨rfl,jQ⟩;exact⟨rfl,jF.o _ ((jH.o _).tm jQ)⟩)
       |(go_at_call 102;refine(RZ.o _).mono ?_;rintro e w3 ⟨rfl,jQ⟩;exact⟨rfl,jF.o _ ((jH.o _).tm jQ)⟩)))
      refine wpQuiet_nil ?_;intro s;have kJ:=jH.o s;have jZ:=kW.o.tm kJ;obtain rfl:=nE.o hv;clear hv;obtain⟨jM,mR⟩:=aJ jZ kJ;clear jZ kJ;go_wp2_with fail
      go_ret;exact⟨rfl,jM.o⟩
     ·have p3:decide (y≤pv)=false:=by simp;omega
      replace F7:=aA (F7.o.trans (by rw[decide_eq_true (show pv<y by omega),Bool.or_true]:_=(true&&true&& !kb&&mb)))
      clear EM WM;cases kb
      case true=>
       have hv:U4 (lS,sat,jG,lV) ts i=false:=by rw[F7.o];simp
       refine jL ff aF aF HS.o ?_;iterate 32 (go_big_quiet_step (first
        |(go_at_call 105;refine(I8.o _).mono ?_;rintro e w3 ⟨rfl,jQ⟩;exact⟨rfl,jF.o _ ((jH.o _).tm jQ)⟩)
        |(go_at_call 162;refine(S9.o _).mono ?_;rintro e w3 ⟨rfl,jQ⟩;exact⟨rfl,jF.o _ ((jH.o _).tm jQ)⟩)
        |(go_at_call 102;refine(RZ.o _).mono ?_;rintro e w3 ⟨rfl,jQ⟩;exact⟨rfl,jF.o _ ((jH.o _).tm jQ)⟩)))
       refine wpQuiet_nil ?_;intro s;have kJ:=jH.o s;have jZ:=kW.o.tm kJ;obtain rfl:=nE.o hv;clear hv;obtain⟨jM,mR⟩:=aJ jZ kJ;clear jZ kJ;go_wp2_with fail
       go_ret;exact⟨rfl,jM.o⟩
      case false=>
       cases mb
       case false=>
        have hv:U4 (lS,sat,jG,lV) ts i=false:=by rw[F7.o];simp
        refine jL ff aF aF HS.o ?_;iterate 32 (go_big_quiet_step (first
         |(go_at_call 105;refine(I8.o _).mono ?_;rintro e w3 ⟨rfl,jQ⟩;exact⟨rfl,jF.o _ ((jH.o _).tm jQ)⟩)
         |(go_at_call 162;refine(S9.o _).mono ?_;rintro e w3 ⟨rfl,jQ⟩;exact⟨rfl,jF.o _ ((jH.o _).tm jQ)⟩)
         |(go_at_call 102;refine(RZ.o _).mono ?_;rintro e w3 ⟨rfl,jQ⟩;exact⟨rfl,jF.o _ ((jH.o _).tm jQ)⟩)))
        refine wpQuiet_nil ?_;intro s;have kJ:=jH.o s;have jZ:=kW.o.tm kJ;obtain rfl:=nE.o hv;clear hv;obtain⟨jM,mR⟩:=aJ jZ kJ;clear jZ kJ;go_wp2_with fail
        go_ret;exact⟨rfl,jM.o⟩
       case true=>
        have hv:U4 (lS,sat,jG,lV) ts i=true:=by rw[F7.o];simp
        refine jL ff aF aF HS.o ?_;iterate 32 (go_big_quiet_step (first
         |(go_at_call 105;refine(I8.o _).mono ?_;rintro e w3 ⟨rfl,jQ⟩;exact⟨rfl,jF.o _ ((jH.o _).tm jQ)⟩)
         |(go_at_call 162;refine(S9.o _).mono ?_;rintro e w3 ⟨rfl,jQ⟩;exact⟨rfl,jF.o _ ((jH.o _).tm jQ)⟩)
         |(go_at_call 102;refine(RZ.o _).mono ?_;rintro e w3 ⟨rfl,jQ⟩;exact⟨rfl,jF.o _ ((jH.o _).tm jQ)⟩)))
        refine wpQuiet_nil ?_;intro s;have kJ:=jH.o s;have jZ:=JV.o.tm kJ;obtain⟨mR,jM,xE⟩:=aK kJ jZ hv;clear kJ jZ hv;go_wp2_with fail
        go_roundw
        case rel=>exact⟨i+1,by omega,by go_num,aA (lW.o xE.o),jM⟩
        case measure=>simp[intOf];omega
  ·obtain rfl:i=tn:=by omega
   obtain rfl:R=true:=by rw[←vG.o];exact DZ (fun j hj=>kS.o j (by rw[FZ.o]at hj;exact hj))
   have jZ:=MK.o.tm hb.o;have jM:=aA jZ;clear jZ;go_wp2_with fail
   go_ret;exact⟨rfl,jM.o⟩
theorem aCU (g:Nat) (tag:Int) (u v:Int) (w:World) (h:w.cell? ⟨g,0,none⟩=some (.int .i64 tag)) (hg:g<w.heap.size):
  Calls Tryz.prog 108 #[.agg #[.int .i64 u,.int .i64 v],.pointer (some ⟨g,0,none⟩)] w fun e w'=>e= .returned (.bool (u==tag))∧Below w.heap.size w w':=by
 have hb:=aD w (.cells #[.int .i64 u,.int .i64 v] 32);have mO:=aA hb;clear hb;go_enter Tryz.func108,Tryz.ntmps108;go_wp2_with fail
 go_ret;exact⟨rfl,mO.o⟩
