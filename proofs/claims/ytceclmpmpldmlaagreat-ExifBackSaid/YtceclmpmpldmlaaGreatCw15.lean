import Derived.Test.YtceclmpmpldmlaaGreatCw14
import Derived.Test.YtceclmpmpldmlaaGreatShelf
set_option linter.unusedSimpArgs false
set_option linter.unusedVariables false
set_option maxRecDepth 100000
set_option maxHeartbeats 8000000
namespace Go.Proofs.YtceclmpmpldmlaaGreat
open Go.RowKit Tt
def okV (l:List mZ) (n:Nat) (o no:Int) (x:oZ):Prop:=TL x o=true∨(1≤(mE x o).length∧Fits l n 3 no x.1 (mE x o).length)
theorem b3H (p:Pt) (P:List Int):FL [p] P=splice P p.1 p.2:=rfl
theorem aJF (K:Wc) (w:World) (no dir:Int) (P:List Int) (h:RX K w no P) (t y k:Int) (a:Option Addr) (n c:Nat) (d:List Int) (w0:World) (hs:Sl w0 a n c 1 (ints .u8 d)) (AX:Below w0.heap.size w0 w) (JJ:w0.heap.size≤K.gw) (hgb:w0.heap.size≤K.gb) (hd:pF d) (hn:n≤1000000000) (wP:okV K.l K.n K.o dir (t,y,k,d)):
  Calls Tryz.prog 90 #[.pointer (some ⟨K.gw,0,none⟩),.agg #[.int .i64 t,.int .i64 y,.int .i64 k,.slice a n c],.int .i64 dir] w fun e w'=>
   ∃x0 x1 x2 x3,e= .returned (.agg #[.int .i64 x0,.int .i64 x1,.int .i64 x2,.int .i64 x3])∧(x0,x1,x2,x3)=PO K.l K.o dir (t,y,k,d)∧RX K w' no (FL (FT K.l K.o dir (t,y,k,d)) P)∧Mv K.gw K.gb wI wI w w':=by
 obtain⟨W1,vS,b0,b1,kV,s1⟩:=sN w 74 #[.int .i64 t,.int .i64 y,.int .i64 k,.slice a n c] 55 #[.int .i64 0,.int .i64 0,.int .i64 0,.int .i64 0];have kY:=h.ne_of;have h1:=h.later kV;have xS:=AX.tm kV;have bII:TL (t,y,k,d) K.o=a8E t (mE (t,y,k,d) K.o) K.o:=rfl;obtain⟨E,hE⟩:=aC (a8E t (mE (t,y,k,d) K.o) K.o);rw[hE]at bII;obtain⟨sK,r9,hd',nJ,FY,b0',b1',lZ,h',h1',qP,aEP⟩:=aT hs AX hd wP vS b0 b1 kV h h1 xS bII;have hE':=aA hE;clear hs AX hd wP vS b0 b1 kV h h1 xS bII hE;go_enter Tryz.func90,Tryz.ntmps90;go_wp2_with fail
 rw[FY.o];go_cut [7,8]from 10 to 22 (fun gv bv wx=>∃(g:Nat) (e0 e1 e2 e3:Int),gv= .pointer (some ⟨g,0,none⟩)∧bv= .bool E∧Hid (kG wx g 55 #[.int .i64 e0,.int .i64 e1,.int .i64 e2,.int .i64 e3])∧Hid (w.heap.size+2≤g)∧Hid (E=true→e0=t∧e1=y∧e2=k∧e3=mM (AU (mE (t,y,k,d) K.o)) 0 4 K.o)∧Hid (Below W1.heap.size W1 wx))
 case first=>
  obtain⟨Ty,ff,pQ,kI,kE⟩:=kM W1;obtain⟨HS,HD⟩:=aJ (kE _ ((bF _ _).drew)) ((bF W1.heap.size W1).drew);have q0:=fun s=>(b0'.o.late (kI s)).cell (i:=0) rfl;have q1:=fun s=>(b0'.o.late (kI s)).cell (i:=1) rfl;have q2:=fun s=>(b0'.o.late (kI s)).cell (i:=2) rfl;have q3:=fun s=>(b0'.o.late (kI s)).cell (i:=3) rfl;have q4:=fun s=>(h1'.o.blk.late (kI s)).cell (i:=1) rfl;obtain⟨kD,jV⟩:=aJ kI kE;clear kI kE;refine kR (S:=fun W=>∃s,W=ff s) aF 16 rfl ?_;refine jZ [0,1,2,3,4,5,6,7,8] 7 aF aI aF aF aF HS.o ?_;simp only[jW,aW,aX,aU,aV];iterate 9 (go_big_quiet_step (fail))
  refine wpQuiet_nil ?_;obtain⟨wD,xB⟩:=aC W1.drew;rw[xB]at HS HD ⊢;clear xB;refine vC 9 13 6 aF aF ?_ ?_
  ·simp only[jW,aW,aX,aU,aV];go_wp2_with fail
   refine(aMZ t y k a n c d K.o wD (sK.o.mono (qP.o.tm HD.o)) hd'.o hn).mono ?_;rintro e w3 ⟨e0,e1,e2,e3,rfl,kT,JR⟩;have TD:=HD.o.tm kT;obtain⟨HS,sM,b25,a8H⟩:=aL (jV.o _ TD) kT JR TD;clear kT JR TD;go_wp2_with fail
   first|refine Mid.mk ⟨HS.o,?_⟩|refine Mid.mk ?_
   refine jZ [10,11,12] 3 aF aI aF aF aF HS.o ?_;simp only[jW,aW,aX,aU,aV];iterate 3 (go_big_quiet_step (fail))
   refine wpQuiet_nil ?_;refine jX 13 2 aF aF ?_;simp only[jW,aW,aX,aU,aV];go_wp2_with fail
   have bG:=kG.new w3 55 #[.int .i64 0,.int .i64 0,.int .i64 0,.int .i64 0];have kU:=aD w3 (.cells #[.int .i64 0,.int .i64 0,.int .i64 0,.int .i64 0] 55);have hxA:=a8H.o.tm kU;have hgA:w.heap.size+2≤w3.heap.size:=by rw[←s1];exact a8H.o.size
   obtain⟨g,hg⟩:=aC w3.heap.size;obtain⟨wA,hwA⟩:=aC (w3.alloc (.cells #[.int .i64 0,.int .i64 0,.int .i64 0,.int .i64 0] 55));rw[hwA]at bG kU hxA;rw[hwA];rw[hg]at bG hgA;try rw[hg]
   have HS:=aA (jV.o _ hxA);have hxL:=hxA;obtain⟨bG',qR,b3I,bCO,bUZ,hg'⟩:=aN bG kU hxA hxL hwA hg;clear bG kU hxA hxL hwA hg;first|refine Mid.mk ⟨HS.o,?_⟩|refine Mid.mk ?_
   refine jX 14 1 aF aF ?_;simp only[jW,aW,aX,aU,aV];have p0:=bG'.o.cell (i:=0) rfl;have p1:=bG'.o.cell (i:=1) rfl;have p2:=bG'.o.cell (i:=2) rfl;have p3:=bG'.o.cell (i:=3) rfl;have y0:=bG'.o.frozen 0;have y1:=bG'.o.frozen 1;have y2:=bG'.o.frozen 2;have y3:=bG'.o.frozen 3;have hWg:W1.heap.size≤g:=by rw[s1];exact hgA
   go_wp2_with fail
   have bZ:=(((bG'.o.set 0 (.int .i64 e0)).set 1 (.int .i64 e1)).set 2 (.int .i64 e2)).set 3 (.int .i64 e3);have hxZ:=(((bCO.o.setCell (p:=⟨g,0,none⟩) hWg (.int .i64 e0)).setCell (p:=⟨g,1,none⟩) hWg (.int .i64 e1)).setCell (p:=⟨g,2,none⟩) hWg (.int .i64 e2)).setCell (p:=⟨g,3,none⟩) hWg (.int .i64 e3);have HS:=aA (jV.o _ hxZ);clear p0 p1 p2 p3 y0 y1 y2 y3;obtain⟨bZ',bCP⟩:=aJ bZ hxZ;clear bZ hxZ;first|refine Mid.mk ⟨HS.o,?_⟩|refine Mid.mk ?_
   refine jX 15 0 aF aF ?_;simp only[jW,aW,aX,aU,aV];go_wp2_with fail
   first|refine Mid.mk ⟨HS.o,?_⟩|refine Mid.mk ?_
   refine kH aF ?_;go_wp2_with fail
   go_meet
   exact⟨g,e0,e1,e2,e3,rfl,by rw[hE'.o],bZ',aA hgA,aA (by rw[←hE'.o];exact b25.o),bCP⟩
  ·simp only[jW,aW,aX,aU,aV];go_wp2_with fail
   have bG:=kG.new wD 55 #[.int .i64 0,.int .i64 0,.int .i64 0,.int .i64 0];have kU:=aD wD (.cells #[.int .i64 0,.int .i64 0,.int .i64 0,.int .i64 0] 55);have hxA:=HD.o.tm kU;have hgA:w.heap.size+2≤wD.heap.size:=by rw[←s1];exact HD.o.size
   obtain⟨g,hg⟩:=aC wD.heap.size;obtain⟨wA,hwA⟩:=aC (wD.alloc (.cells #[.int .i64 0,.int .i64 0,.int .i64 0,.int .i64 0] 55));rw[hwA]at bG kU hxA;rw[hwA];rw[hg]at bG hgA;try rw[hg]
   obtain⟨HS,bG',qR,b3I,bUZ,hg'⟩:=aN (jV.o _ hxA) bG kU hxA hwA hg;clear bG kU hxA hwA hg;first|refine Mid.mk ⟨HS.o,?_⟩|refine Mid.mk ?_
   refine jX 9 5 aF aF ?_;simp only[jW,aW,aX,aU,aV];go_wp2_with fail
   refine(aMZ t y k a n c d K.o wA (sK.o.mono (qP.o.tm b3I.o)) hd'.o hn).mono ?_;rintro e w3 ⟨e0,e1,e2,e3,rfl,kT,JR⟩;have TD:=b3I.o.tm kT;have HS:=aA (jV.o _ TD);have bG:=bG'.o.late kT;have hxL:=TD;clear bG';obtain⟨bG',sM,b25,a8H,bCO⟩:=aM bG kT JR TD hxL;clear bG kT JR TD hxL;go_wp2_with fail
   first|refine Mid.mk ⟨HS.o,?_⟩|refine Mid.mk ?_
   refine jZ [10,11,12] 2 aF aI aF aF aF HS.o ?_;simp only[jW,aW,aX,aU,aV];iterate 3 (go_big_quiet_step (fail))
   refine wpQuiet_nil ?_;refine jX 14 1 aF aF ?_;simp only[jW,aW,aX,aU,aV];have p0:=bG'.o.cell (i:=0) rfl;have p1:=bG'.o.cell (i:=1) rfl;have p2:=bG'.o.cell (i:=2) rfl;have p3:=bG'.o.cell (i:=3) rfl;have y0:=bG'.o.frozen 0;have y1:=bG'.o.frozen 1;have y2:=bG'.o.frozen 2;have y3:=bG'.o.frozen 3;have hWg:W1.heap.size≤g:=by rw[s1];exact hgA
   go_wp2_with fail
   have bZ:=(((bG'.o.set 0 (.int .i64 e0)).set 1 (.int .i64 e1)).set 2 (.int .i64 e2)).set 3 (.int .i64 e3);have hxZ:=(((bCO.o.setCell (p:=⟨g,0,none⟩) hWg (.int .i64 e0)).setCell (p:=⟨g,1,none⟩) hWg (.int .i64 e1)).setCell (p:=⟨g,2,none⟩) hWg (.int .i64 e2)).setCell (p:=⟨g,3,none⟩) hWg (.int .i64 e3);have HS:=aA (jV.o _ hxZ);clear p0 p1 p2 p3 y0 y1 y2 y3;obtain⟨bZ',bCP⟩:=aJ bZ hxZ;clear bZ hxZ;first|refine Mid.mk ⟨HS.o,?_⟩|refine Mid.mk ?_
   refine jX 15 0 aF aF ?_;simp only[jW,aW,aX,aU,aV];go_wp2_with fail
   first|refine Mid.mk ⟨HS.o,?_⟩|refine Mid.mk ?_
   refine kH aF ?_;go_wp2_with fail
   go_meet
   exact⟨g,e0,e1,e2,e3,rfl,by rw[hE'.o],bZ',aA hgA,aA (by rw[←hE'.o];exact b25.o),bCP⟩
 case rest=>
  obtain⟨g,e0,e1,e2,e3,rfl,rfl,bG,hgN,JR,OM⟩:=hcut;rename World=>wq
  have h2:=h1'.o.later OM.o;have b02:=b0'.o.late OM.o;have b12:=b1'.o.late OM.o;have aU6:=lZ.o.tm OM.o;have b3J:=r9.o.tm aU6;have p0:=b12.cell (i:=0) rfl;have p1:=b12.cell (i:=1) rfl;have p2:=b12.cell (i:=2) rfl;have p3:=b12.cell (i:=3) rfl;have y0:=b12.frozen 0;have y1:=b12.frozen 1;have y2:=b12.frozen 2;have y3:=b12.frozen 3;cases E with
  |true=>
   obtain⟨rfl,rfl,rfl,he3⟩:=JR.o rfl;have u0:=bG.o.cell (i:=0) rfl;have u1:=bG.o.cell (i:=1) rfl;have u2:=bG.o.cell (i:=2) rfl;have u3:=bG.o.cell (i:=3) rfl;have bN:=(((b12.set 0 (.int .i64 e0)).set 1 (.int .i64 e1)).set 2 (.int .i64 e2)).set 3 (.int .i64 e3);have mQ:=((((But.refl (w.heap.size+1) wq).set 0 (.int .i64 e0)).set 1 (.int .i64 e1)).set 2 (.int .i64 e2)).set 3 (.int .i64 e3);clear JR;obtain⟨h2',UZ,b3F,aEQ,aU7,bN',GN,bV0⟩:=aP h2 b02 b12 aU6 b3J bN mQ he3;clear h2 b02 b12 aU6 b3J bN mQ he3;go_wp2_with fail
   refine bodyPost_ret (results_cell_row rfl _ _ (w.heap.size+1) 55 #[.int .i64 e0,.int .i64 e1,.int .i64 e2,.int .i64 e3] (0,0) _ rfl bN'.o Tryz.underlying55 rfl aF) rfl ?_;have yV:=GN.o.below (B:=w.heap.size) aG aEQ.o.size;have lK:=aEQ.o.trans yV;refine⟨e0,e1,e2,e3,rfl,?_,?_,Mv.of_below lK⟩
   ·unfold PO;rw[if_pos aEP.o,bV0.o]
   ·unfold FT;rw[if_pos aEP.o];exact h'.o.later lK
  |false=>
   clear JR bG hgN;obtain⟨hl1,hfa,hf0,hfn⟩:1≤(mE (t,y,k,d) K.o).length∧Fits K.l K.n 3 dir t (mE (t,y,k,d) K.o).length:=by
    rcases nJ.o with h|h
    ·rw[aEP.o]at h;cases h
    ·exact h
   have hS:=RY K wq no P h2 3 dir t hfa;obtain⟨q,hq⟩:∃q:Nat,qK K.l 3 dir t=q:=⟨(qK K.l 3 dir t).toNat,by omega⟩;rw[hq]at hS hfn;rw[cB]at hfn;have v0:=b02.cell (i:=0) rfl;clear p0 p1 p2 p3 y0 y1 y2 y3;obtain⟨h2',UZ,b3F,aEQ,aU7,hS',aU8,hq'⟩:=aP h2 b02 b12 aU6 b3J hS hfa hq;clear h2 b02 b12 aU6 b3J hS hfa hq;go_wp2_with fail
   refine hS'.o.mono ?_;rintro e w4 ⟨rfl,mX⟩;have h4:=h2'.o.later mX;have b04:=UZ.o.late mX;have b14:=b3F.o.late mX;have y8:=aEQ.o.tm mX;have PU:=aU7.o.tm mX;have bCC:=h4.ne_of;have hg0:w.heap.size≠K.gb:=by omega
   have hg1:w.heap.size+1≠K.gb:=by omega
   obtain⟨Ty,ff,pQ,xY,kE⟩:=V5 K.gb w4;have HS:=aA (kE _ (But.of_below ((bF w4.heap.size w4).drew)));have HD:=aA ((bF w4.heap.size w4).drew);have q0:=fun s=>(kG.aBE (xY s) h4.blk h4.ne).cell (i:=0) rfl;have q1:=fun s=>(kG.aBE (xY s) h4.blk h4.ne).cell (i:=1) rfl;have q2:=fun s=>(kG.aBE (xY s) b04 hg0).cell (i:=1) rfl;have q3:=fun s=>(kG.aBE (xY s) b04 hg0).cell (i:=2) rfl;have q4:=fun s=>(kG.aBE (xY s) b04 hg0).cell (i:=3) rfl;have b24:=fun W=>a4K (P:=Tryz.prog) (T:=24) (E:=5) Tryz.underlying24 aEN K.gb K.n q aG W;clear v0;obtain⟨h4',a1U,bV1,mP,qX,xG,aMU,jV⟩:=aP h4 b04 b14 y8 PU mX xY kE;clear h4 b04 b14 y8 PU mX xY kE;go_wp2_with fail
   refine kR (S:=fun W=>∃s,W=ff s) aF 16 rfl ?_;obtain⟨wD,xB⟩:=aC w4.drew;rw[xB]at HS HD ⊢;clear xB;refine jZ [0,1,2,3,4,5,6,7,8,9,10,11,12,13] 2 aF aI aF aF aF HS.o ?_;simp only[jW,aW,aX,aU,aV];iterate 14 (go_big_quiet_step (fail))
   refine wpQuiet_nil ?_;refine jX 14 1 aF aF ?_;simp only[jW,aW,aX,aU,aV];go_wp2_with fail
   refine(a4Q t y k a n c d K.o wD (sK.o.mono (qX.o.tm HD.o)) hd'.o hn).mono ?_;rintro e w5 ⟨a5,m5,rfl,ho5,nV⟩;have bCQ:(mE (t,y,k,d) K.o).length=m5:=(Sl.kZ ho5).1.p9;have BK:=HD.o.tm nV;have h5:=h4'.o.later BK;have HS:=aA (jV.o _ (But.of_below BK));rw[bCQ]at hl1 hfn;obtain⟨w6,hr6,h6,hm6,a00⟩:=LA h5 a5 m5 m5 _ (Sl.kZ ho5).1 q hl1 hfn 3;have HS6:=aA (jV.o _ ((But.of_below BK).trans a00));have a8I:=(Mv.of_below (g:=K.gw) (gt:=K.gb) (sv:=wI) (mP.o.tm BK)).trans hm6;have b06:=kG.aBE a00 (a1U.o.late BK) hg0;have b16:=kG.aBE a00 (bV1.o.late BK) hg1;obtain⟨aE4,LF,c1Z,IJ,h5',h6',bCR,c26,aU9,b3G,a8G⟩:=aS ho5 nV bCQ BK h5 h6 hm6 a00 a8I b06 b16;clear ho5 nV bCQ BK h5 h6 hm6 a00 a8I b06 b16;go_wp2_with fail
   first|refine Mid.mk ⟨HS.o,?_⟩|refine Mid.mk ?_
   refine jX 15 0 aF aF ?_;simp only[jW,aW,aX,aU,aV];go_wp2_with (at_builtin;refine wpList_copy_run _ rfl _ _ _ _ rfl _ _ rfl rfl hr6 ?_)
   first|refine Mid.mk ⟨HS6.o,?_⟩|refine Mid.mk ?_
   refine kH aF ?_;have v0:=b3G.o.cell (i:=0) rfl;have v1:=b3G.o.cell (i:=1) rfl;have v2:=b3G.o.cell (i:=2) rfl;have p0:=a8G.o.cell (i:=0) rfl;have p1:=a8G.o.cell (i:=1) rfl;have p2:=a8G.o.cell (i:=2) rfl;have p3:=a8G.o.cell (i:=3) rfl;have y0:=a8G.o.frozen 0;have y1:=a8G.o.frozen 1;have y2:=a8G.o.frozen 2;have y3:=a8G.o.frozen 3;clear hr6 q0 q1 q2 q3 q4;go_wp2_with fail
   have bN:=(((a8G.o.set 0 (.int .i64 t)).set 1 (.int .i64 y)).set 2 (.int .i64 k)).set 3 (.int .i64 q);have mQ:=((((But.refl (w.heap.size+1) w6).set 0 (.int .i64 t)).set 1 (.int .i64 y)).set 2 (.int .i64 k)).set 3 (.int .i64 q);refine bodyPost_ret (results_cell_row rfl _ _ (w.heap.size+1) 55 #[.int .i64 t,.int .i64 y,.int .i64 k,.int .i64 q] (0,0) _ rfl bN Tryz.underlying55 rfl aF) rfl ?_;refine⟨t,y,k,q,rfl,?_,?_,?_⟩
   ·unfold PO;rw[if_neg (by rw[aEP.o];decide),hq'.o]
   ·unfold FT;rw[if_neg (by rw[aEP.o];decide),hq'.o,cB];exact h6'.o.but mQ aG aG (by have:=h'.o.aEM;omega)
   ·exact Mv.new aU9.o mQ aG
open Go.Sort
def b3K (a b:Int):Int:=if a<b then -1 else if b<a then 1 else 0
theorem b3L (a b:Int) (w:World):Calls Tryz.prog 97 #[.int .i64 a,.int .i64 b] w fun e w'=>e= .returned (.int .i64 (b3K a b))∧w=w':=by
 have hn:∀(x:Int) (W:World),Calls Tryz.prog 155 #[.int .i64 x] W fun e w'=>e= .returned (.bool false)∧W=w':=fun x W=>by
  have hx:(x != x)=false:=by simp
  go_enter Tryz.func155,Tryz.ntmps155;go_wp2;go_ret;exact⟨rfl,rfl⟩
 have hn':=aA hn;clear hn;unfold b3K;by_cases h1:a<b
 ·have d1:decide (a<b)=true:=by simp;omega
  rw[if_pos h1];go_enter Tryz.func97,Tryz.ntmps97;go_wp2_with (go_at_call 155;refine(hn'.o _ _).mono ?_;rintro e w' ⟨rfl,rfl⟩)
  go_ret;exact⟨rfl,rfl⟩
 ·have d1:decide (a<b)=false:=by simp;omega
  rw[if_neg h1];by_cases h2:b<a
  ·have d2:decide (b<a)=true:=by simp;omega
   rw[if_pos h2];go_enter Tryz.func97,Tryz.ntmps97;go_wp2_with (go_at_call 155;refine(hn'.o _ _).mono ?_;rintro e w' ⟨rfl,rfl⟩)
   go_ret;exact⟨rfl,rfl⟩
  ·have d2:decide (b<a)=false:=by simp;omega
   rw[if_neg h2];go_enter Tryz.func97,Tryz.ntmps97;go_wp2_with (go_at_call 155;refine(hn'.o _ _).mono ?_;rintro e w' ⟨rfl,rfl⟩)
   go_ret;exact⟨rfl,rfl⟩
def cfE (x y:oJ):Int:=b3K x.1 y.1
theorem b3M (x y:oJ) (w:World):Calls Tryz.prog 96 #[.agg (oF x).toArray,.agg (oF y).toArray] w fun e w'=>e= .returned (.int .i64 (cfE x y))∧∃q os',w'=grow (w.drewN q) os':=by
 obtain⟨x1,x2,x3,x4⟩:=x;obtain⟨y1,y2,y3,y4⟩:=y;obtain⟨W1,vS,b0,b1,kV,s1⟩:=sN w 55 #[.int .i64 x1,.int .i64 x2,.int .i64 x3,.int .i64 x4] 55 #[.int .i64 y1,.int .i64 y2,.int .i64 y3,.int .i64 y4];have hgr:∃q os',W1=grow (w.drewN q) os':=⟨0,#[_,_],by rw[←vS,alloc_eq_grow,alloc_eq_grow,grow_grow];rfl⟩;have p0:=b0.cell (i:=0) rfl;have p1:=b1.cell (i:=0) rfl;show Calls Tryz.prog 96 #[.agg #[.int .i64 x1,.int .i64 x2,.int .i64 x3,.int .i64 x4],.agg #[.int .i64 y1,.int .i64 y2,.int .i64 y3,.int .i64 y4]] w _
 obtain⟨FY,b0',b1',lZ,s1',TG⟩:=aN vS b0 b1 kV s1 hgr;clear vS b0 b1 kV s1 hgr;go_enter Tryz.func96,Tryz.ntmps96;go_wp2_with fail
 rw[FY.o];go_wp2_with (go_at_call 97;refine(b3L _ _ _).mono ?_;rintro e w' ⟨rfl,rfl⟩)
 go_ret;exact⟨rfl,TG.o⟩
theorem b3N (g:Nat) (tag:Int) (u v:Int) (w:World) (h:w.cell? ⟨g,0,none⟩=some (.int .i64 tag)) (hg:g<w.heap.size):
  Calls Tryz.prog 92 #[.agg #[.int .i64 u,.int .i64 v],.pointer (some ⟨g,0,none⟩)] w fun e w'=>e= .returned (.bool (u==tag))∧Below w.heap.size w w':=by
 have hb:=aD w (.cells #[.int .i64 u,.int .i64 v] 32);have pW:=aA hb;clear hb;go_enter Tryz.func92,Tryz.ntmps92;go_wp2_with fail
 go_ret;exact⟨rfl,pW.o⟩
def sortE (l:List oJ):List oJ:=l.mergeSort fun x y=> !Go.Proofs.ltOf cfE y x
theorem ltE (x y:oJ):Go.Proofs.ltOf cfE x y=decide (x.1<y.1):=by
 unfold Go.Proofs.ltOf cfE b3K;rw[dY,decide_eq_true_eq,decide_eq_true_eq];split
 ·omega
 ·split <;> omega
theorem bV2:SWO (Go.Proofs.ltOf cfE):=⟨fun x=>by rw[ltE];simp,fun x y z h1 h2=>by rw[ltE,decide_eq_true_eq]at*;omega,fun x y z h1 h2=>by rw[ltE,decide_eq_false_iff_not]at*;omega⟩
theorem yO (l:List oJ):(sortE l).length=l.length:=(iM _ _).length_eq
theorem aPV {l:List oJ} (hd:l.Pairwise fun x y=>x.1≠y.1) {d':Array oJ} (hP:PermIn 0 l.length l.toArray d') (hS:SortedIn (Go.Proofs.ltOf cfE) 0 l.length d'):d'.toList=sortE l:=by
 obtain⟨tC,_,bBC⟩:=hP;have a8X:d'.size=l.length:=by simpa using tC
 have e1:d'.extract 0 l.length=d':=by rw[←a8X];exact Array.extract_size
 have e2:l.toArray.extract 0 l.length=l.toArray:=by simp
 rw[e1,e2]at bBC;have GY:d'.toList.Perm l:=bBC;have aIF:∀a b,a∈l→b∈l→a.1=b.1→a=b:=by
  intro a b ha hb hab;obtain⟨i,hi,rfl⟩:=fP ha;obtain⟨j,hj,rfl⟩:=fP hb;rcases Nat.lt_trichotomy i j with h|h|h
  ·exact absurd hab (gH.1 hd i j hi hj h)
  ·subst h;rfl
  ·exact absurd hab.symm (gH.1 hd j i hj hi h)
 refine List.Perm.eq_of_pairwise (le:=fun x y=>(!Go.Proofs.ltOf cfE y x)=true) ?_ ?_ ?_ (GY.trans (iM _ _).symm)
 ·intro a b ha hb h1 h2;simp only[ltE,dW,decide_eq_false_iff_not]at h1 h2;exact aIF a b (GY.subset ha) ((iM _ _).subset hb) aG
 ·rw[gH];intro i j hi hj hij;have vN:i<d'.size:=by simpa using hi
  have hj':j<d'.size:=by simpa using hj
  have:=hS i j (jU _) hij aG;rw[getElem!_pos d' j hj',getElem!_pos d' i vN]at this;simpa using this
 ·refine List.pairwise_mergeSort ?_ ?_ _
  ·intro a b c h1 h2;simp only[ltE,dW,decide_eq_false_iff_not]at h1 h2 ⊢;omega
  ·intro a b;simp only[ltE,dN,dW,decide_eq_false_iff_not];omega
theorem b7B (l:List oJ):flatK oF 4 l.toArray=(fl oF l).toArray:=by
 have tC:(fl oF l).length=l.length*4:=UY nT l;refine ext_get! (by simp[tC]) fun t ht=>?_;have KS:t<l.length*4:=by simpa using ht
 rw[get_flatK _ _ _ t (by simpa using KS)];have h1:t / 4<l.length:=by omega
 have h2:t % 4<4:=Nat.mod_lt _ aH;have:=aIY nT default h1 h2;rw[show t / 4*4+t % 4=t by omega]at this;have e1:l.toArray[t / 4]! =l.getD (t / 4) default:=by
  rw[getElem!_pos _ _ (by simpa using h1)];simp[List.getD,bH h1]
 rw[e1,getElem!_pos (fl oF l).toArray t (by simpa [tC] using KS)];have h3:t<(fl oF l).length:=by omega
 rw[bH h3]at this;have h4:t % 4<(oF (l.getD (t / 4) default)).length:=by rw[nT];exact h2
 rw[bH h4]at this;rw[getElem!_pos (oF (l.getD (t / 4) default)) (t % 4) h4];simpa using this.symm
theorem aPW (cur:Array Value) (ts:List Value) (h:ts.length≤cur.size):(putCells id 0 ts.toArray cur).toList.take ts.length=ts:=by
 apply List.ext_getElem?;intro j;by_cases hj:j<ts.length
 ·rw[List.getElem?_take_of_lt hj,Array.getElem?_toList];simp[putCells,hj,show j<cur.size by omega]
 ·rw[List.getElem?_take_eq_none aG,fE aG]
theorem a9I (B:Nat) (l:List oJ) (v:Value) (w:World) (h:w.ownsRow B 55 4 v l.length (fl oF l)) (h1:1≤l.length) (hn:l.length≤1000000) (hd:l.Pairwise fun x y=>x.1≠y.1):
  Calls Tryz.prog 95 #[v,.func (.func 96) #[] #[]] w fun e w'=>e= .returned (.tuple #[])∧w'.ownsRow B 55 4 v (sortE l).length (fl oF (sortE l))∧w.grownBy w' v.ownBlock:=by
 obtain⟨xM,hr⟩:=h;rcases hr with ⟨_,h0⟩|⟨g,cap,cur,rfl,hB,hg,hc,UC,SV,NV⟩
 ·omega
 have hH:HoldsK oF 4 w g 0 l.toArray:=by
  unfold HoldsK;rw[b7B];intro j hj;have hj':j<(fl oF l).length:=by simpa using hj
  refine⟨?_,by simp[World.frozen?,hg]⟩;have h1:(cur.toList.take (l.length*4))[j]? =(fl oF l)[j]? :=by rw[NV]
  rw[List.getElem?_take_of_lt (by rw[UY nT]at hj';exact hj')]at h1;simp only[World.cell?,hg,eU];simp only[Option.isSome_none,Bool.false_eq_true,if_false];rw[←Array.getElem?_toList,h1];simp[hj']
 have hgl:=(dA.1 hg).1;have aIG:∀(x:oJ),∀v∈oF x,v.oneCell'=true:=by
  intro x v hv;simp only[oF,cK,eG,or_false]at hv;rcases hv with rfl|rfl|rfl|rfl <;> rfl
 refine(Go.Proofs.AnyQ.slices_SortFunc Tryz.sortE 4 Tryz.isAgg55 Tryz.sizeOf55 oF nT aIG cfE bV2 96 #[] g 0 cap l.toArray w (fun args W=>by kernel_rfl) (fun m os dk _ x y=>b3M x y _) hH hgl (by simpa using Nat.lt_of_le_of_lt hn aH)).mono ?_;rintro e w' ⟨rfl,d',n,os,hP,hS,rfl⟩;have hd':=aPV hd (by simpa using hP) (by simpa using hS);obtain rfl:d'=(sortE l).toArray:=by rw[←hd']
 refine⟨rfl,⟨UY nT _,.inr ⟨g,cap,putCells id 0 (fl oF (sortE l)).toArray cur,by rw[yO],hB,?_,by rw[yO];exact hc,UC,by simp[putCells,SV],?_⟩⟩,⟨rfl,rfl,rfl,?_,?_⟩⟩
 ·unfold sortWorldK putRowK;rw[b7B,heap_grow_old _ _ (by simpa using hgl)];simp[putRow,mapBlock,Sort.ahead,iD,hg,onCells]
 ·rw[←UY nT (sortE l)];refine aPW cur _ ?_;rw[UY nT,yO,SV];exact iW _ hc
 ·unfold sortWorldK;simp[size_putRowK]
 ·intro k hk pQ;unfold sortWorldK putRowK;rw[heap_grow_old _ _ (by simpa using hk)];have:g≠k:=fun e=>pQ (by rw[←e];rfl);simp[putRow,mapBlock,Sort.ahead,iD,this]
theorem bCS {T:TypeId} {sz MC:Nat} (h1:(Tryz.prog.info? T).map (fun i=>(i.size,i.bytes))=some (sz,MC)) (h2:(Tryz.prog.info? T).map (fun i=>i.zero.map (fun z=>z.cells.size))=some (some sz)):
  ∃(i:TypeInfo) (z:Value),Tryz.prog.info? T=some i∧i.zero=some z∧i.size=sz∧i.bytes=MC∧z.cells.size=sz:=by
 cases hi:Tryz.prog.info? T with
 |none=>rw[hi]at h1;cases h1
 |some i=>
  rw[hi]at h1 h2;simp only[gM,fQ,iF]at h1 h2;cases hz:i.zero with
  |none=>rw[hz]at h2;cases h2
  |some z=>
   rw[hz]at h2;simp only[gM,fQ]at h2;exact⟨i,z,rfl,hz,h1.1,h1.2,h2⟩
theorem bKF:(Tryz.prog.info? 55).map (fun i=>(i.size,i.bytes))=some (4,32):=by kernel_rfl
theorem bCT:(Tryz.prog.info? 55).map (fun i=>i.zero.map (fun z=>z.cells.size))=some (some 4):=by kernel_rfl
theorem aUA {w w':World} {B b:Nat} {E:TypeId} {sz n:Nat} {v:Value} {xs:List Value} (h:w.ownsRow B E sz v n xs) (hb:But b w w') (pQ:v.ownBlock≠some b):w'.ownsRow B E sz v n xs:=by
 obtain⟨hl,hr⟩:=h;refine⟨hl,?_⟩;rcases hr with hn|⟨g,cap,cur,rfl,hB,hg,r⟩
 ·exact .inl hn
 ·exact .inr ⟨g,cap,cur,rfl,hB,(hb.block g (dA.1 hg).1 (fun e=>pQ (by rw[←e];rfl))).trans hg,r⟩
theorem aBI (B gl:Nat) (l xs:List oJ) (v:Value) (a:Option Addr) (n c:Nat) (w:World) (hv:kG w gl 154 #[v]) (h:w.ownsRow B 55 4 v l.length (fl oF l)) (pQ:v.ownBlock≠some gl) (hB:B≤w.heap.size) (hs:Sl w a n c 4 (fl oF xs)) (h1:1≤n) (hn:l.length+n≤1000000):
  Calls Tryz.prog 89 #[.slice a n c,.pointer (some ⟨gl,0,none⟩)] w fun e w'=>∃v',e= .returned (.tuple #[])∧kG w' gl 154 #[v']∧w'.ownsRow B 55 4 v' (l++xs).length (fl oF (l++xs))∧v'.ownBlock≠some gl∧Mv gl gl v v' w w':=by
 have hxl:xs.length=n:=hs.xZ nT aH;obtain⟨b,off,rfl,kY,_⟩:=hs.lies 0 aG;have hgl:=hv.lt;have p0:=hv.cell (i:=0) rfl;have y0:=hv.frozen 0;have aIG:∀u∈fl oF xs,u.oneCell'=true:=bC7 (fun x v hv=>by
  simp only[oF,cK,eG,or_false]at hv;rcases hv with rfl|rfl|rfl|rfl <;> rfl)
 obtain⟨i0,z0,AY,hz,qC,wY,ZA⟩:=bCS bKF bCT;obtain⟨GA,h',YZ,sK,bTL⟩:=aM hv h pQ hs aIG;clear hv h pQ hs aIG;go_enter Tryz.func89,Tryz.ntmps89;go_wp2_with (at_builtin;refine mU rfl _ _ 154 rfl B 55 i0 z0 4 32 Tryz.underlying154 AY hz qC wY ZA aH v _ _ rfl h'.o ⟨b,off,none⟩ n c (fl oF xs) rfl sK.o bTL.o aG aH hB ?_;intro a5 c5 wa ob VZ hoa;obtain⟨Ob,Hga,Hoa⟩:=aK ob VZ hoa;clear p0 y0;have y0:=(GA.o.grown VZ YZ.o).frozen 0;have p0:=(GA.o.grown VZ YZ.o).cell (i:=0) rfl;clear ob VZ hoa)
 refine bodyPost_end (results_none rfl _ _ _) rfl ?_;have hv1:=GA.o.grown Hga.o YZ.o;have OG:(Value.slice a5 (l.length+n) c5).ownBlock≠some gl:=fun e=>by
  rcases Hoa.o gl e with h|h
  ·exact YZ.o h
  ·omega
 refine⟨_,rfl,hv1.set 0 _,?_,OG,?_⟩
 ·rw[a9C,cO,hxl];exact aUA Ob.o ((But.refl gl wa).set 0 _) OG
 ·exact(Mv.WY Hga.o Hoa.o).trans (Mv.E5 ((But.refl gl wa).set 0 _) (.inl rfl))
theorem a8J {zs:List Tz} {k:Nat}:(zs.map nO).getD k tg0=nO (zs.getD k JL):=a4H nO zs JL k
theorem aPX (qa:Option Addr) (qn qc:Nat) (ta:Option Addr) (tn tc:Nat) (sa:Option Addr) (sn sc:Nat) (ba:Option Addr) (bn bc:Nat) (zs:List Tz) (la:Option Addr) (ln lc:Nat) (oN:List Lk) (sat kC oM:Int) (w:World)
  (ht:Tgr w ta tn tc zs) (mQ:∀z∈zs,pF z.2) (hl:Sl w la ln lc 2 (fl lkc oN)) (mK:∀t,((decide (0<sat)&&(t==sat||t==kC))||oN.any fun y=>y.1==t)=xI (oN,sat,kC,oM) t):
  Calls Tryz.prog 107 #[.agg #[.slice qa qn qc],.agg #[.slice ta tn tc,.slice sa sn sc,.slice ba bn bc],.agg #[.slice la ln lc,.int .i64 sat,.int .i64 kC,.int .i64 oM]] w fun e w'=>e= .returned (.bool (ownB (oN,sat,kC,oM) (zs.map nO)))∧Below w.heap.size w w':=by
 have vO:=ht.len;have UC:=ht.row.max;have FI:=ht.row.le;obtain⟨ts,hts⟩:=aC (zs.map nO);have hgt:∀k,ts.getD k tg0=nO (zs.getD k JL):=fun k=>hts▸a8J;rw[hts];have xM:ts.length=tn:=by rw[←hts,dF];exact vO
 obtain⟨R,hR⟩:=aC (ownB (oN,sat,kC,oM) ts);rw[hR];obtain⟨WC,hWC,bA,bB,bC,hbC,sC⟩:=F6 w 104 #[.slice qa qn qc] 26 #[.slice ta tn tc,.slice sa sn sc,.slice ba bn bc] 35 #[.slice la ln lc,.int .i64 sat,.int .i64 kC,.int .i64 oM];have c0:=bB.cell (i:=0) rfl;rw[←hWC]at c0;obtain⟨KS,GN,FX,xQ,oC,UW,V8,aAF,qM,bA',bB',bC'⟩:=aT ht mQ hl mK vO hts hgt xM hR bA bB bC;obtain⟨aBJ,sC',aUB⟩:=aK hbC sC hWC;clear ht mQ hl mK vO hts hgt xM hR bA bB bC hbC sC hWC;go_enter Tryz.func107,Tryz.ntmps107;go_wp2_with fail
 rw[aUB.o];clear aUB c0;go_loopw [12] (fun iv wr=>∃i:Nat,i≤tn∧iv= .int .i64 i∧Hid (∀j,j<i→tgB (oN,sat,kC,oM) ts j=true)∧Hid (Below WC.heap.size WC wr)) (fun iv _=>tn - (intOf iv).toNat)
 case atStart=>exact⟨0,by omega,rfl,aA (fun j hj=>by omega),aA (bF _ _)⟩
 case round=>
  obtain⟨i,hi,rfl,lY,hb⟩:=hrel;by_cases kY:i<tn
  ·have lK:=aBJ.o.tm hb.o;have htw:=KS.o.mono lK;obtain⟨b,o,rfl,xL,f0,f1,f2,f3,DT⟩:=htw.at kY;have hgi:=V8.o i;have FJ:pF (zs.getD i JL).2:=by rw[kF (by rw[oC.o];exact kY)];exact GN.o _ (bP _)
   have hgp:=V8.o (i - 1);obtain⟨⟨⟨y,t,k,xa,xn,xc⟩,d⟩,hzi⟩:∃z,zs.getD i JL=z:=⟨_,rfl⟩;rw[hzi]at f0 f1 f2 f3 DT hgi FJ;simp only[nO]at f0 f1 f2 f3 DT hgi FJ;have PL:tgB (oN,sat,kC,oM) ts i=false→R=false:=fun hh=>qM.o▸ZX (by rw[aAF.o];exact kY) hh;have oQ:tgB (oN,sat,kC,oM) ts i=true→∀j,j<i+1→tgB (oN,sat,kC,oM) ts j=true:=fun hv j hj=>by
    by_cases hjk:j=i
    ·subst hjk;exact hv
    ·exact lY.o j aG
   have htB:tgB (oN,sat,kC,oM) ts i=(DY y&&(decide (i=0)||decide ((ts.getD (i - 1) tg0).1<y))&& !xI (oN,sat,kC,oM) y&&wH t k d):=by
    unfold tgB;rw[hgi];rfl
   have hTG:=fun W=>aMR y W;generalize DY y=tb at*;have CY:(i:Int)<(tn:Int):=by omega
   have b4:=kG.new wr 74 #[.int .i64 y,.int .i64 t,.int .i64 k,.slice xa xn xc];have mX:=aD wr (.cells #[.int .i64 y,.int .i64 t,.int .i64 k,.slice xa xn xc] 74);have a2A:=hb.o.tm mX;have y8:=aBJ.o.tm a2A;have bB4:=bB'.o.late a2A;have bC4:=bC'.o.late a2A;have bKG:=KS.o.mono y8;have bKH:=DT.mono mX;have hl4:=FX.o.mono y8;obtain⟨kX,c4P,b6T,aBD,bV3,b33,rZ,nG,XA,a4E,b4',xG⟩:=aT lK htw hgi FJ hgp hzi PL oQ htB hTG b4 mX;obtain⟨a4S,mP,aJG,a2B,b7C,a3N,b7D,bCU⟩:=aP a2A y8 bB4 bC4 bKG DT bKH hl4;clear lK htw hgi FJ hgp hzi PL oQ htB hTG b4 mX a2A y8 bB4 bC4 bKG DT bKH hl4;go_wp2_with fail
   clear f0 f1 f2 f3;obtain⟨w4,hw4⟩:=aC (wr.alloc (.cells #[.int .i64 y,.int .i64 t,.int .i64 k,.slice xa xn xc] 74));rw[hw4]at b4' xG a4S mP aJG a2B b7C b7D bCU ⊢;generalize wr.heap.size=g4 at*;clear hw4;have hnz:=fun(hz:i≠0)=>b7C.o.at (k:=i - 1) aG;obtain⟨Ty,ff,pQ,kI,kE⟩:=kM w4;have HS:=aA (kE _ ((bF _ _).drew));have q0:=fun s=>(b4'.o.late (kI s)).cell (i:=0) rfl;have q1:=fun s=>(b4'.o.late (kI s)).cell (i:=1) rfl;have q2:=fun s=>(b4'.o.late (kI s)).cell (i:=2) rfl;have q3:=fun s=>(b4'.o.late (kI s)).cell (i:=3) rfl;have q4:=fun s=>(aJG.o.late (kI s)).cell (i:=0) rfl;have q5:=fun s=>(a2B.o.late (kI s)).cell (i:=0) rfl;have q6:=fun s=>(a2B.o.late (kI s)).cell (i:=1) rfl;have q7:=fun s=>(a2B.o.late (kI s)).cell (i:=2) rfl;have q8:=fun s=>(a2B.o.late (kI s)).cell (i:=3) rfl;have hMY:=fun s=>RO t k xa xn xc d (ff s) (b7D.o.mono (kI s)) aBD.o;have hTK:=fun s=>aPN la ln lc oN sat kC oM y (ff s) (bCU.o.mono (kI s));rw[xQ.o]at hTK;generalize xI (oN,sat,kC,oM) y=kb at*;generalize wH t k d=mb at*;obtain⟨kD,jV,aER,aES⟩:=aL kI kE hMY hTK;clear kI kE hMY hTK;cases tb
   case false=>
    have hv:tgB (oN,sat,kC,oM) ts i=false:=by rw[XA.o];simp
    clear hnz;refine kL ff aF aF HS.o ?_;iterate 32 (go_big_quiet_step (first
     |(go_at_call 105;refine(a4E.o _).mono ?_;rintro e w3 ⟨rfl,kT⟩;exact⟨rfl,jV.o _ ((kD.o _).tm kT)⟩)
     |(go_at_call 162;refine(aES.o _).mono ?_;rintro e w3 ⟨rfl,kT⟩;exact⟨rfl,jV.o _ ((kD.o _).tm kT)⟩)
     |(go_at_call 102;refine(aER.o _).mono ?_;rintro e w3 ⟨rfl,kT⟩;exact⟨rfl,jV.o _ ((kD.o _).tm kT)⟩)))
    refine wpQuiet_nil ?_;intro s;have nE:=kD.o s;have lK:=mP.o.tm nE;obtain rfl:=rZ.o hv;clear hv;obtain⟨kX,sS⟩:=aJ lK nE;clear lK nE;go_wp2_with fail
    go_ret;exact⟨rfl,kX.o⟩
   case true=>
    by_cases SY:i=0
    ·have p1:decide ((0:Int)<(i:Int))=false:=by simp;omega
     have p2:decide (0<i)=false:=by simp;omega
     replace XA:=aA (XA.o.trans (by rw[decide_eq_true SY];rfl:_=(true&&true&& !kb&&mb)))
     clear SY hnz;cases kb
     case true=>
      have hv:tgB (oN,sat,kC,oM) ts i=false:=by rw[XA.o];simp
      refine kL ff aF aF HS.o ?_;iterate 32 (go_big_quiet_step (first
       |(go_at_call 105;refine(a4E.o _).mono ?_;rintro e w3 ⟨rfl,kT⟩;exact⟨rfl,jV.o _ ((kD.o _).tm kT)⟩)
       |(go_at_call 162;refine(aES.o _).mono ?_;rintro e w3 ⟨rfl,kT⟩;exact⟨rfl,jV.o _ ((kD.o _).tm kT)⟩)
       |(go_at_call 102;refine(aER.o _).mono ?_;rintro e w3 ⟨rfl,kT⟩;exact⟨rfl,jV.o _ ((kD.o _).tm kT)⟩)))
      refine wpQuiet_nil ?_;intro s;have nE:=kD.o s;have lK:=mP.o.tm nE;obtain rfl:=rZ.o hv;clear hv;obtain⟨kX,sS⟩:=aJ lK nE;clear lK nE;go_wp2_with fail
      go_ret;exact⟨rfl,kX.o⟩
     case false=>
      cases mb
      case false=>
       have hv:tgB (oN,sat,kC,oM) ts i=false:=by rw[XA.o];simp
       refine kL ff aF aF HS.o ?_;iterate 32 (go_big_quiet_step (first
        |(go_at_call 105;refine(a4E.o _).mono ?_;rintro e w3 ⟨rfl,kT⟩;exact⟨rfl,jV.o _ ((kD.o _).tm kT)⟩)
        |(go_at_call 162;refine(aES.o _).mono ?_;rintro e w3 ⟨rfl,kT⟩;exact⟨rfl,jV.o _ ((kD.o _).tm kT)⟩)
        |(go_at_call 102;refine(aER.o _).mono ?_;rintro e w3 ⟨rfl,kT⟩;exact⟨rfl,jV.o _ ((kD.o _).tm kT)⟩)))
       refine wpQuiet_nil ?_;intro s;have nE:=kD.o s;have lK:=mP.o.tm nE;obtain rfl:=rZ.o hv;clear hv;obtain⟨kX,sS⟩:=aJ lK nE;clear lK nE;go_wp2_with fail
       go_ret;exact⟨rfl,kX.o⟩
      case true=>
       have hv:tgB (oN,sat,kC,oM) ts i=true:=by rw[XA.o];simp
       refine kL ff aF aF HS.o ?_;iterate 32 (go_big_quiet_step (first
        |(go_at_call 105;refine(a4E.o _).mono ?_;rintro e w3 ⟨rfl,kT⟩;exact⟨rfl,jV.o _ ((kD.o _).tm kT)⟩)
        |(go_at_call 162;refine(aES.o _).mono ?_;rintro e w3 ⟨rfl,kT⟩;exact⟨rfl,jV.o _ ((kD.o _).tm kT)⟩)
        |(go_at_call 102;refine(aER.o _).mono ?_;rintro e w3 ⟨rfl,kT⟩;exact⟨rfl,jV.o _ ((kD.o _).tm kT)⟩)))
       refine wpQuiet_nil ?_;intro s;have nE:=kD.o s;have lK:=a4S.o.tm nE;obtain⟨sS,kX,GA⟩:=aK nE lK hv;clear nE lK hv;go_wp2_with fail
       go_roundw
       case rel=>exact⟨i+1,by omega,by go_num,aA (nG.o GA.o),kX⟩
       case measure=>simp[intOf];omega
    ·obtain⟨b3,o3,he3,PV,g0,_⟩:=hnz SY;obtain⟨rfl,rfl⟩:b=b3∧o=o3:=by simpa using he3
     clear he3 hnz;obtain⟨k',WG⟩:∃k',k'+1=i:=⟨i - 1,by omega⟩;have p1:decide ((0:Int)<(i:Int))=true:=by simp;omega
     have p2:decide (0<i)=true:=by simp;omega
     have wk:IntKind.i64.wrap ((i:Int) - 1)=(k':Int):=by rw[bJ];omega
     have bCV:=bV3.o;rw[show i - 1=k' by omega]at g0 bCV;have ZB:(ts.getD (i - 1) tg0).1=(zs.getD k' JL).1.1:=by rw[show i - 1=k' by omega,bCV];rfl
     replace XA:=aA (XA.o.trans (by rw[ZB]:_=(true&&(decide (i=0)||decide ((zs.getD k' JL).1.1<y))&& !kb&&mb)))
     clear ZB bCV;generalize (zs.getD k' JL).1.1=pv at*;have q9:∀s,(ff s).cell? ⟨b,o+k'*4,none⟩=some (.int .i64 pv):=fun s=>late (kD.o s) PV g0;have aS4:(k':Int)<tn:=by omega
     have aPC:k'<tn:=by omega
     have aTK:(0:Int)≤(k':Int):=by omega
     clear g0;by_cases hpt:y≤pv
     ·have p3:decide (y≤pv)=true:=by simp;omega
      have hv:tgB (oN,sat,kC,oM) ts i=false:=by rw[XA.o,decide_eq_false SY,decide_eq_false (show ¬pv<y by omega)];simp
      clear SY WG;refine kL ff aF aF HS.o ?_;iterate 32 (go_big_quiet_step (first
       |(go_at_call 105;refine(a4E.o _).mono ?_;rintro e w3 ⟨rfl,kT⟩;exact⟨rfl,jV.o _ ((kD.o _).tm kT)⟩)
       |(go_at_call 162;refine(aES.o _).mono ?_;rintro e w3 ⟨rfl,kT⟩;exact⟨rfl,jV.o _ ((kD.o _).tm kT)⟩)
       |(go_at_call 102;refine(aER.o _).mono ?_;rintro e w3 ⟨rfl,kT⟩;exact⟨rfl,jV.o _ ((kD.o _).tm kT)⟩)))
      refine wpQuiet_nil ?_;intro s;have nE:=kD.o s;have lK:=mP.o.tm nE;obtain rfl:=rZ.o hv;clear hv;obtain⟨kX,sS⟩:=aJ lK nE;clear lK nE;go_wp2_with fail
      go_ret;exact⟨rfl,kX.o⟩
     ·have p3:decide (y≤pv)=false:=by simp;omega
      replace XA:=aA (XA.o.trans (by rw[decide_eq_true (show pv<y by omega),Bool.or_true]:_=(true&&true&& !kb&&mb)))
      clear SY WG;cases kb
      case true=>
       have hv:tgB (oN,sat,kC,oM) ts i=false:=by rw[XA.o];simp
       refine kL ff aF aF HS.o ?_;iterate 32 (go_big_quiet_step (first
        |(go_at_call 105;refine(a4E.o _).mono ?_;rintro e w3 ⟨rfl,kT⟩;exact⟨rfl,jV.o _ ((kD.o _).tm kT)⟩)
        |(go_at_call 162;refine(aES.o _).mono ?_;rintro e w3 ⟨rfl,kT⟩;exact⟨rfl,jV.o _ ((kD.o _).tm kT)⟩)
        |(go_at_call 102;refine(aER.o _).mono ?_;rintro e w3 ⟨rfl,kT⟩;exact⟨rfl,jV.o _ ((kD.o _).tm kT)⟩)))
       refine wpQuiet_nil ?_;intro s;have nE:=kD.o s;have lK:=mP.o.tm nE;obtain rfl:=rZ.o hv;clear hv;obtain⟨kX,sS⟩:=aJ lK nE;clear lK nE;go_wp2_with fail
       go_ret;exact⟨rfl,kX.o⟩
      case false=>
       cases mb
       case false=>
        have hv:tgB (oN,sat,kC,oM) ts i=false:=by rw[XA.o];simp
        refine kL ff aF aF HS.o ?_;iterate 32 (go_big_quiet_step (first
         |(go_at_call 105;refine(a4E.o _).mono ?_;rintro e w3 ⟨rfl,kT⟩;exact⟨rfl,jV.o _ ((kD.o _).tm kT)⟩)
         |(go_at_call 162;refine(aES.o _).mono ?_;rintro e w3 ⟨rfl,kT⟩;exact⟨rfl,jV.o _ ((kD.o _).tm kT)⟩)
         |(go_at_call 102;refine(aER.o _).mono ?_;rintro e w3 ⟨rfl,kT⟩;exact⟨rfl,jV.o _ ((kD.o _).tm kT)⟩)))
        refine wpQuiet_nil ?_;intro s;have nE:=kD.o s;have lK:=mP.o.tm nE;obtain rfl:=rZ.o hv;clear hv;obtain⟨kX,sS⟩:=aJ lK nE;clear lK nE;go_wp2_with fail
        go_ret;exact⟨rfl,kX.o⟩
       case true=>
        have hv:tgB (oN,sat,kC,oM) ts i=true:=by rw[XA.o];simp
        refine kL ff aF aF HS.o ?_;iterate 32 (go_big_quiet_step (first
         |(go_at_call 105;refine(a4E.o _).mono ?_;rintro e w3 ⟨rfl,kT⟩;exact⟨rfl,jV.o _ ((kD.o _).tm kT)⟩)
         |(go_at_call 162;refine(aES.o _).mono ?_;rintro e w3 ⟨rfl,kT⟩;exact⟨rfl,jV.o _ ((kD.o _).tm kT)⟩)
         |(go_at_call 102;refine(aER.o _).mono ?_;rintro e w3 ⟨rfl,kT⟩;exact⟨rfl,jV.o _ ((kD.o _).tm kT)⟩)))
        refine wpQuiet_nil ?_;intro s;have nE:=kD.o s;have lK:=a4S.o.tm nE;obtain⟨sS,kX,GA⟩:=aK nE lK hv;clear nE lK hv;go_wp2_with fail
        go_roundw
        case rel=>exact⟨i+1,by omega,by go_num,aA (nG.o GA.o),kX⟩
        case measure=>simp[intOf];omega
  ·obtain rfl:i=tn:=by omega
   obtain rfl:R=true:=by rw[←qM.o];exact GR (fun j hj=>lY.o j (by rw[aAF.o]at hj;exact hj))
   have lK:=aBJ.o.tm hb.o;have kX:=aA lK;clear lK;go_wp2_with fail
   go_ret;exact⟨rfl,kX.o⟩
theorem aET (g:Nat) (tag:Int) (u v:Int) (w:World) (h:w.cell? ⟨g,0,none⟩=some (.int .i64 tag)) (hg:g<w.heap.size):
  Calls Tryz.prog 108 #[.agg #[.int .i64 u,.int .i64 v],.pointer (some ⟨g,0,none⟩)] w fun e w'=>e= .returned (.bool (u==tag))∧Below w.heap.size w w':=by
 have hb:=aD w (.cells #[.int .i64 u,.int .i64 v] 32);have pW:=aA hb;clear hb;go_enter Tryz.func108,Tryz.ntmps108;go_wp2_with fail
 go_ret;exact⟨rfl,pW.o⟩
