import Derived.Test.YtceclmpmpldmlaaGreatCw35
import Derived.Test.YtceclmpmpldmlaaGreatCw36
set_option linter.unusedSimpArgs false
set_option linter.unusedVariables false
set_option maxRecDepth 100000
set_option maxHeartbeats 8000000
namespace Go.Proofs.YtceclmpmpldmlaaGreat
open Go.RowKit Tt
structure bG3 (ds:List (jY 16)):Prop where
 byt:∀d∈ds,tJ 16 d
 small:∀d∈ds,mY 16 d
 flat:(oI 16 ds).length<1000
 len:ds.length≤500
theorem zW.rdl {X:Nat→Prop} {B:Nat} {w:World} {a:Option Addr} {m c:Nat} {ds:List (jY 16)} (h:zW X B w (.slice a m c) ds):JX 16 w a m c ds∧m=ds.length:=by
 obtain⟨wU,h1,h2,h3⟩:=h;have hs:=Ck.sl h2;have hm:=hs.xZ qW aH;exact⟨⟨wU,h1,hs,fun i hi vN=>(h3 i hi vN).rd⟩,by omega⟩
theorem aH1 (hD:aA8) (a:Option Addr) (n c:Nat) (z:List Int) (w:World) (hs:Sl w a n c 1 (ints .u8 z)) (qL:pF z) (hn:n≤1000000000) (wP:∀ds s,sQ z vB= .ok (ds,s)→bG3 ds):
  Calls Tryz.prog 36 #[.slice a n c] w fun e w'=>∃A,e= .returned (.tuple #[exV (YJ z).o A,.int .i64 (YI z)])∧NA w.heap.size w' (YJ z) A∧Below w.heap.size w w':=by
 obtain⟨R,hR⟩:=aC (sQ z vB);have hRC:YI z=bM4 (mI z) R:=by unfold YI;rw[hR]
 have hRE:YJ z=bM5 (mI z) R:=by unfold YJ;rw[hR]
 have hx:∀x,sQ z vB= .error x→x≠0:=fun x e=>aH0 e;have bOP:=fun W a3 zs3 (hb:Below w.heap.size w W) hsh (UB:kK zs3=vB)=>b5P hD a n c z a3 5 5 zs3 W (hs.mono hb) hsh qL hn (by rw[UB];exact hx);rw[hR]at wP hx;obtain⟨oo,hoo⟩:=aC (mI z);rw[hoo]at hRC hRE;have bR:=kG.new w 61 #[.int .i64 0,.slice none 0 0,.slice none 0 0,.slice none 0 0,.slice none 0 0,.slice none 0 0,.slice none 0 0,.slice none 0 0];have hb:=aD w (.cells #[.int .i64 0,.slice none 0 0,.slice none 0 0,.slice none 0 0,.slice none 0 0,.slice none 0 0,.slice none 0 0,.slice none 0 0] 61);obtain⟨W,hW⟩:∃X,w.alloc (.cells #[.int .i64 0,.slice none 0 0,.slice none 0 0,.slice none 0 0,.slice none 0 0,.slice none 0 0,.slice none 0 0,.slice none 0 0] 61)=X:=⟨_,rfl⟩;rw[hW]at bR hb;obtain⟨sK,vR⟩:=aJ hs qL;obtain⟨nJ,TV,b8O,bOQ,bOR,qM,b5Q,bR',pW,WH⟩:=aR wP hx bOP hRC hRE hR hoo bR hb hW;clear hs qL wP hx bOP hRC hRE hR hoo bR hb hW;go_enter Tryz.func36,Tryz.ntmps36;go_upto_region 1 with fail
 rw[WH.o];go_wp2_with fail
 refine(AO W).mono ?_;rintro e w1 ⟨a3,zs3,rfl,hsh,UB,kV⟩;have xS:=pW.o.tm kV;have vS:=b8O.o w1 a3 zs3 xS hsh UB;have bR1:=bR'.o.late kV;rw[UB,qM.o,b5Q.o]at vS;clear hsh UB kV bR' pW b8O qM b5Q;obtain⟨qP,FY,QS⟩:=aK xS vS bR1;clear xS vS bR1;go_wp2_with fail
 refine FY.o.mono ?_;rintro e w2 nW;cases R with
 |error x=>
  obtain⟨rfl,kP⟩:=nW;have kU:=aD w2 (.cells #[.int .i64 0,.slice none 0 0] 39);obtain⟨w3,xE⟩:∃X,w2.alloc (.cells #[.int .i64 0,.slice none 0 0] 39)=X:=⟨_,rfl⟩;rw[xE]at kU;have h13:=kP.tm kU;have bR3:=QS.o.late h13;have KL:=qP.o.tm h13;have hx0:(x != 0)=true:=by have:=TV.o x rfl;simpa using this
  have hc:YI z=x∧YJ z=exZ:=⟨bOQ.o,bOR.o⟩;clear kP kU h13;obtain⟨a2D,aL2,zF,KU⟩:=aL xE bR3 KL hc;clear xE bR3 KL hc;go_upto_region 2 with fail
  try rw[a2D.o]
  go_wp2_with (refine wpList_store_row rfl 61 (.tmp 2) (.tmp 16) rfl w.heap.size #[.int .i64 0,.slice none 0 0,.slice none 0 0,.slice none 0 0,.slice none 0 0,.slice none 0 0,.slice none 0 0,.slice none 0 0] rfl rfl 61 _ aL2.o aF rfl aF ?_)
  refine bodyPost_ret (kJ rfl _ _ w.heap.size 61 #[.int .i64 0,.slice none 0 0,.slice none 0 0,.slice none 0 0,.slice none 0 0,.slice none 0 0,.slice none 0 0,.slice none 0 0] _ rfl (aL2.o.row _) Tryz.underlying61 rfl aF) rfl ?_;refine⟨aKT,?_,?_,kN zF.o (aY _) _⟩
  ·rw[KU.o.2,KU.o.1];rfl
  ·rw[KU.o.2];exact NA.zero _ _
 |ok r=>
  obtain⟨ds,s⟩:=r;obtain⟨am,m,cm,bk,kk,dk,rfl,kP,hD,_⟩:=nW;obtain⟨hDR,hml⟩:=hD.rdl;have ht:=nJ.o ds s rfl;have bT:=kG.new w2 39 #[.int .i64 oo,.slice am m cm];have kU:=aD w2 (.cells #[.int .i64 oo,.slice am m cm] 39);obtain⟨w3,xE⟩:∃X,w2.alloc (.cells #[.int .i64 oo,.slice am m cm] 39)=X:=⟨_,rfl⟩;rw[xE]at kU bT;have h13:=kP.tm kU;have bR3:=QS.o.late h13;have KL:=qP.o.tm h13;obtain⟨gt,hgt⟩:∃k,w2.heap.size=k:=⟨_,rfl⟩;rw[hgt]at bT;have k0:=bT.cell (i:=0) rfl;have k1:=bT.cell (i:=1) rfl;have hOf:=aA5 oo am m cm ds w3 (hDR.mono (by rw[←xE];exact aD w2 _)) ht.byt ht.small ht.flat (by rw[hml];exact ht.len);have hc:YI z=ofC 16 oo ds∧YJ z=ofE 16 oo ds:=⟨bOQ.o,bOR.o⟩;clear kP kU h13 hD hDR hml bT;obtain⟨a2D,V8,aL2,zF,KU,aRK,KS⟩:=aO xE hgt bR3 KL hc hOf ht;clear xE hgt bR3 KL hc hOf ht;go_upto_region 2 with fail
  try rw[V8.o]
  try rw[a2D.o]
  go_wp2_with fail
  refine aRK.o.mono ?_;rintro e w4 ⟨⟨z1,z2,z3,p1,p2,p3,g1,g2,g3,i1,i2,i3,f1,f2,f3,m1,m2,m3,t1,t2,t3⟩,rfl,hO4,mX⟩;have bR4:=aL2.o.late mX;have PU:=zF.o.tm mX;have hO5:=hO4.mono zF.o.size;obtain⟨X,hX⟩:=aC (ofE 16 oo ds);rw[hX]at hO5;have hXo:(ofE 16 oo ds).o=X.o:=by rw[hX]
  clear mX hO4;obtain⟨QT,qX,bYX,hX'⟩:=aL bR4 PU hO5 hX;clear bR4 PU hO5 hX;simp only[exV,VT,hXo];clear hXo k0 k1;go_wp2_with (refine wpList_store_row rfl 61 (.tmp 2) (.tmp 20) rfl w.heap.size #[.int .i64 X.o,.slice z1 z2 z3,.slice p1 p2 p3,.slice g1 g2 g3,.slice i1 i2 i3,.slice f1 f2 f3,.slice m1 m2 m3,.slice t1 t2 t3] rfl rfl 61 _ QT.o aF rfl aF ?_)
  refine bodyPost_ret (kJ rfl _ _ w.heap.size 61 #[.int .i64 X.o,.slice z1 z2 z3,.slice p1 p2 p3,.slice g1 g2 g3,.slice i1 i2 i3,.slice f1 f2 f3,.slice m1 m2 m3,.slice t1 t2 t3] _ rfl (QT.o.row _) Tryz.underlying61 rfl aF) rfl ?_;refine⟨⟨z1,z2,z3,p1,p2,p3,g1,g2,g3,i1,i2,i3,f1,f2,f3,m1,m2,m3,t1,t2,t3⟩,?_,?_,kN qX.o (aY _) _⟩
  ·rw[KU.o.2,KU.o.1,hX'.o];rfl
  ·rw[KU.o.2,hX'.o];exact NA.but bYX.o (a3A w4 _) QT.o aH aH
def Bd (B:Nat) (w:World) (v:Value) (n:Nat) (P:List Int):Prop:=
 ∃a c,v= .slice a n c∧Sl w a n c 1 (ints .u8 P)∧∀x,a=some x→x.block<B∨∃cur fz,w.heap[x.block]? =some (.cells cur 5 fz)
section
variable {n:Nat} {w wr w2:World} {dv sv:Array Value} {bv lv:Value} {P:List Int} {es:List oJ}
end
theorem NH (x:pX) (A:ExA) (w:World) (h:ExR w x A) (hs:vJ x) (hd:aX2 x) (hk:WfE x) (mQ:a09 x):
  Calls Tryz.prog 23 #[exV x.o A] w fun e w'=>∃a m c,e= .returned (.tuple #[.slice a m c,.int .i64 (aJW x)])∧w'.ownsRow w.heap.size 5 1 (.slice a m c) m (ints .u8 (FB x))∧Below w.heap.size w w':=by
 have hTr:=fun W (hb:Below w.heap.size w W)=>a0K x A W (h.mono hb) hs hd hk;obtain⟨za,zn,zc,pa,pn,pc,ga,gn,gc,ia,iN,ic,fa,fn,fc,ma,mn,mc,ta,tn,tc⟩:=A;obtain⟨W,hW⟩:=aC (w.alloc (.cells (VT x.o ⟨za,zn,zc,pa,pn,pc,ga,gn,gc,ia,iN,ic,fa,fn,fc,ma,mn,mc,ta,tn,tc⟩) 61));have bE:=kG.new w 61 (VT x.o ⟨za,zn,zc,pa,pn,pc,ga,gn,gc,ia,iN,ic,fa,fn,fc,ma,mn,mc,ta,tn,tc⟩);have hb:=aD w (.cells (VT x.o ⟨za,zn,zc,pa,pn,pc,ga,gn,gc,ia,iN,ic,fa,fn,fc,ma,mn,mc,ta,tn,tc⟩) 61);rw[hW]at bE hb;have zN:=I5 mQ;have hwC:aJW x=if lU x=0 then oD 16 x.o (lS x) vB else lU x:=rfl;have hwE:FB x=if lU x=0 then aJS 16 x.o (lS x) vB else []:=rfl;have EJ:=fun h=>FD (x:=x) h hs;obtain⟨ck,Z6⟩:∃c,lU x=c:=⟨_,rfl⟩;simp only[Z6]at*;simp only[exV,VT]at*;have q0:=bE.cell (i:=0) rfl;have q1:=bE.cell (i:=1) rfl;have q2:=bE.cell (i:=2) rfl;have q3:=bE.cell (i:=3) rfl;have q4:=bE.cell (i:=4) rfl;have q5:=bE.cell (i:=5) rfl;have q6:=bE.cell (i:=6) rfl;have q7:=bE.cell (i:=7) rfl;obtain⟨bE',pW,WH,bYY,Z4,bOS,bOT,JN,a2I⟩:=aQ bE hb hW hTr zN hwC hwE EJ Z6;clear bE hb hW hTr zN hwC hwE EJ Z6
 go_enter Tryz.func23,Tryz.ntmps23;go_upto_region 1 with fail
 rw[WH.o];go_wp2_with fail
 refine(bYY.o _ pW.o).mono ?_;rintro e w1 ⟨oo,a1,n1,c1,rfl,kV,aI9⟩;have xS:=pW.o.tm kV;clear q0 q1 q2 q3 q4 q5 q6 q7;by_cases UD:ck=0
 ·subst UD;rw[if_pos rfl]at aI9;obtain⟨rfl,rfl,hDO⟩:=aI9;have e1:((0:Int) != 0)=false:=rfl;have aLH:=JN.o rfl;have hn1:(lS x).length≤500:=by unfold lS;split <;> simp
  have bT:=kG.new w1 39 #[.int .i64 x.o,.slice a1 (lS x).length c1];have kU:=aD w1 (.cells #[.int .i64 x.o,.slice a1 (lS x).length c1] 39);have b5R:=hDO.later kU;obtain⟨w2,hw2⟩:∃W,w1.alloc (.cells #[.int .i64 x.o,.slice a1 (lS x).length c1] 39)=W:=⟨_,rfl⟩;rw[hw2]at bT kU b5R;have P8:=xS.tm kU;have hDr:=b5R.rd;obtain⟨n1,b5S⟩:∃n,(lS x).length=n:=⟨_,rfl⟩;rw[b5S]at bT hDr hn1;simp only[b5S]at*;obtain⟨gt,hgt⟩:∃g,w1.heap.size=g:=⟨_,rfl⟩;rw[hgt]at bT;obtain⟨Ty,ff,pQ,kI,kE⟩:=kM w2;have HD:=aA ((bF w2.heap.size w2).drew);have HS:=aA (kE w2.drew HD.o);have k0:=fun s=>(bT.late (kI s)).cell (i:=0) rfl;have k1:=fun s=>(bT.late (kI s)).cell (i:=1) rfl;obtain⟨lZ,b50,qR,c3G,qP,vY,b55,bEV,V8,b8P,kD,jV⟩:=aT kV hDO kU b5R xS P8 hDr hw2 hgt aLH kI kE;obtain⟨bT',bTB,c3H⟩:=aK bT hn1 b5S;clear kV hDO kU b5R xS P8 hDr hw2 hgt aLH kI kE bT hn1 b5S;go_upto_region 4 with fail
  try rw[V8.o]
  try rw[bEV.o]
  refine kR (S:=fun W=>∃s,W=ff s) aF 7 rfl ?_;obtain⟨wD,xB⟩:∃W,w2.drew=W:=⟨_,rfl⟩;rw[xB]at HS HD ⊢;clear xB;refine jZ [0] 6 aF aI aF aF aF HS.o ?_;simp only[jW,aW,aX,aU,aV];iterate 1 (go_big_quiet_step (fail))
  refine wpQuiet_nil ?_;refine jX 1 5 aF aF ?_;simp only[jW,aW,aX,aU,aV];go_wp2_with fail
  refine(AO wD).mono ?_;rintro e w3 ⟨a3,zs3,rfl,hsh,UB,kT⟩;have V7:=HD.o.tm kT;have HS:=aA (jV.o _ V7);have hWr:=aK8 16 x.o a1 n1 c1 (lS x) a3 5 5 zs3 w3 (b55.o.mono V7) hsh b8P.o.1 Z4.o (by have:=b8P.o.2;omega) bTB.o (fun e=>Q6 e Z4.o);rw[UB]at hWr;obtain⟨Z5,bTO,sM,G7,bYZ⟩:=aM hsh UB kT V7 hWr;clear hsh UB kT V7 hWr;go_wp2_with fail
  refine Mid.mk ⟨HS.o,?_⟩;refine jX 2 4 aF aF ?_;simp only[jW,aW,aX,aU,aV];go_wp2_with fail
  refine bYZ.o.mono ?_;rintro e w4 ⟨a4,m4,c4,rfl,Z9,mX⟩;have PS:=G7.o.tm mX;have HS:=aA (jV.o _ PS);have ho5:=lN Z9 (bU vY.o.size G7.o.size);have PU:=vY.o.tm PS;clear Z9;obtain⟨xG,b7A,aE4,qX⟩:=aL mX PS ho5 PU;clear mX PS ho5 PU;go_wp2_with fail
  refine Mid.mk ⟨HS.o,?_⟩;refine jZ [3,4] 2 aF aI aF aF aF HS.o ?_;simp only[jW,aW,aX,aU,aV];iterate 2 (go_big_quiet_step (fail))
  refine wpQuiet_nil ?_;refine jX 5 1 aF aF ?_;simp only[jW,aW,aX,aU,aV];go_wp2_with fail
  refine Mid.mk ⟨HS.o,?_⟩;refine jX 6 0 aF aF ?_;simp only[jW,aW,aX,aU,aV];go_wp2_with fail
  refine Mid.mk ⟨HS.o,?_⟩;refine kH aF ?_;clear k0 k1;go_wp2_with fail
  go_ret2;refine⟨a4,m4,c4,by rw[bOS.o];rfl,by rw[bOT.o];exact aE4.o,qX.o⟩
 ·have e1:(ck != 0)=true:=by simpa using UD
  have bIM:=aA UD;clear aI9;have kP:=xS.alloc xS.size (.cells #[.int .i64 oo,.slice a1 n1 c1] 39);clear UD;obtain⟨lZ,qP,pG⟩:=aK kV xS kP;clear kV xS kP;go_wp2_with fail
  go_ret2;refine⟨none,0,0,by rw[bOS.o,if_neg bIM.o];rfl,by rw[bOT.o,if_neg bIM.o];exact lC _ _ _ _,pG.o⟩
theorem aLN (y t k y2 t2 k2:Int) (a a':Option Addr) (n c n' c':Nat) (d d2:List Int) (w:World) (hs:Sl w a n c 1 (ints .u8 d)) (xV:Sl w a' n' c' 1 (ints .u8 d2)) (hd:pF d) (hd2:pF d2):
  Calls Tryz.prog 71 #[.agg #[.int .i64 y,.int .i64 t,.int .i64 k,.slice a n c],.agg #[.int .i64 y2,.int .i64 t2,.int .i64 k2,.slice a' n' c']] w fun e w'=>e= .returned (.bool (y==y2&&(t==t2&&k==k2&&d==d2)))∧Below w.heap.size w w':=by
 have AX:=(aD w (.cells #[.int .i64 y,.int .i64 t,.int .i64 k,.slice a n c] 74)).alloc (by simp) (.cells #[.int .i64 y2,.int .i64 t2,.int .i64 k2,.slice a' n' c'] 74);have HC:=aQZ t k t2 k2 a a' n c n' c' d d2 _ (hs.mono AX) (xV.mono AX) hd hd2;obtain⟨b3,h3⟩:∃b,(t==t2&&k==k2&&d==d2)=b:=⟨_,rfl⟩;rw[h3]at HC;rw[h3];obtain⟨sK,a1T,WO,h3',r9,hd',bLO⟩:=aO hs xV HC h3 AX hd hd2;clear hs xV HC h3 AX hd hd2;go_enter Tryz.func71,Tryz.ntmps71;cases h1:(y==y2)with
 |false=>
  go_wp2_with fail
  go_ret;exact⟨rfl,r9.o⟩
 |true=>
  go_wp2_with fail
  refine WO.o.mono ?_;rintro e w2 ⟨rfl,kP⟩;have hb:=r9.o.tm kP;obtain⟨pW,pG⟩:=aJ hb kP;clear hb kP;go_wp2_with fail
  go_ret;exact⟨rfl,pW.o⟩
theorem aH2 (a a':Option Addr) (n c n' c':Nat) (xs ys:List Tz) (w:World) (hx:Tgr w a n c xs) (hy:Tgr w a' n' c' ys) (OM:∀z∈xs,pF z.2) (qL:∀z∈ys,pF z.2):
  Calls Tryz.prog 72 #[.slice a n c,.slice a' n' c',.func (.func 71) #[] #[]] w fun e w'=>e= .returned (.bool (xs.map nO==ys.map nO))∧Below w.heap.size w w':=by
 have hxl:(xs.map nO).length=n:=by rw[dF];exact hx.len
 have hyl:(ys.map nO).length=n':=by rw[dF];exact hy.len
 have UC:=hx.row.max;have FI:=hx.row.le;have hmy:=hy.row.max;have c6D:=hy.row.le;have bOU:=hx.len;have bOV:=hy.len;obtain⟨r,hr⟩:=aC (xs.map nO==ys.map nO);rw[hr];have sH:=aA hr;clear hr;obtain⟨TV,hy',bG4,bG5,aTT,vR⟩:=aN hx hy hxl hyl OM qL;obtain⟨bOW,bOX⟩:=aJ bOU bOV;clear hx hy hxl hyl OM qL bOU bOV;by_cases hnn:n=n'
 ·subst hnn;have pQ:((n:Int) != (n:Int))=false:=by simp
  go_enter Tryz.func72,Tryz.ntmps72;go_wp2_with fail
  go_loopw [17] (fun iv wr=>∃(i:Nat),i≤n∧iv= .int .i64 i∧Hid ((xs.map nO).take i=(ys.map nO).take i)∧Hid (Below w.heap.size w wr)) (fun iv _=>n - (intOf iv).toNat)
  case atStart=>exact⟨0,by omega,rfl,aA rfl,aA (bF _ _)⟩
  case round=>
   obtain⟨i,CY,rfl,NV,hb⟩:=hrel;by_cases hi:i<n
   ·have hil:(i:Int)<(n:Int):=by omega
    have xR:IntKind.i64.wrap ((i:Int)+1)=i+1:=by rw[bJ];omega
    obtain⟨b,o,rfl,xL,f0,f1,f2,f3,DT⟩:=(TV.o.mono hb.o).at hi;obtain⟨b2,o2,rfl,U4,g0,g1,g2,g3,aZ4⟩:=(hy'.o.mono hb.o).at hi;have UC:=a4H nO xs JL i;have hmy:=a4H nO ys JL i;have hd1:pF (xs.getD i JL).2:=by rw[kF (by rw[bOW.o];exact hi)];exact aTT.o _ (bP _)
    have hd2:pF (ys.getD i JL).2:=by rw[kF (by rw[bOX.o];exact hi)];exact vR.o _ (bP _)
    obtain⟨⟨⟨y,t,k,xa,xn,xc⟩,d⟩,hzi⟩:∃z,xs.getD i JL=z:=⟨_,rfl⟩;obtain⟨⟨⟨y2,t2,k2,xa2,xn2,xc2⟩,d2⟩,aKY⟩:∃z,ys.getD i JL=z:=⟨_,rfl⟩;rw[hzi]at f0 f1 f2 f3 DT UC hd1;rw[aKY]at g0 g1 g2 g3 aZ4 hmy hd2;simp only[nO]at f0 f1 f2 f3 g0 g1 g2 g3 DT aZ4 UC hmy hd1 hd2;have kU:=(aD wr (.cells #[.int .i64 y,.int .i64 t,.int .i64 k,.slice xa xn xc] 74)).alloc (by simp) (.cells #[.int .i64 y2,.int .i64 t2,.int .i64 k2,.slice xa2 xn2 xc2] 74);have HC:=aLN y t k y2 t2 k2 xa xa2 xn xc xn2 xc2 d d2 _ (DT.mono kU) (aZ4.mono kU) hd1 hd2;have hq:(y==y2&&(t==t2&&k==k2&&d==d2))=true↔(xs.map nO).getD i (0,0,0, [])=(ys.map nO).getD i (0,0,0, []):=by
     have e1:(xs.map nO).getD i (0,0,0, [])=(y,t,k,d):=UC;have e2:(ys.map nO).getD i (0,0,0, [])=(y2,t2,k2,d2):=hmy;rw[e1,e2];simp only[bK,beq_iff_eq,iF];constructor
     ·rintro⟨h1,⟨h2,h3⟩,h4⟩;exact⟨h1,h2,h3,h4⟩
     ·rintro⟨h1,h2,h3,h4⟩;exact⟨h1,⟨h2,h3⟩,h4⟩
    obtain⟨q,hqq⟩:=aC (y==y2&&(t==t2&&k==k2&&d==d2));rw[hqq]at HC hq;clear UC hmy;obtain⟨a3N,c3I,b33,c3J,qR,WO,hq',c6E,bXW,bLO⟩:=aR DT aZ4 hzi aKY kU HC hq hqq hd1 hd2;clear DT aZ4 hzi aKY kU HC hq hqq hd1 hd2;go_wp2_with fail
    refine WO.o.mono ?_;rintro e w3 ⟨rfl,kT⟩;have lK:=hb.o.trans ((qR.o.tm kT).mono hb.o.size);clear f0 f1 f2 f3 g0 g1 g2 g3;obtain⟨kX,sM⟩:=aJ lK kT;clear lK kT;cases q with
    |true=>
     have a7V:Hid ((xs.map nO).take (i+1)=(ys.map nO).take (i+1)):=aA (aJ2 bG4.o bG5.o hi NV.o (hq'.o.1 rfl));go_wp2_with fail
     go_roundw
     case rel=>exact⟨i+1,by omega,by go_num,a7V,kX⟩
     case measure=>simp[intOf];omega
    |false=>
     obtain rfl:r=false:=by
      rw[←sH.o];exact aPF (k:=i) (d:=(0,0,0, [])) (fun e=>by have:=hq'.o.2 e;cases this)
     go_wp2_with fail
     go_ret;exact⟨rfl,kX.o⟩
   ·obtain rfl:i=n:=by omega
    obtain rfl:r=true:=by rw[←sH.o];exact aED bG4.o bG5.o aG NV.o
    go_wp2;go_ret;exact⟨rfl,hb.o⟩
 ·have pQ:((n:Int) != (n':Int))=true:=by simp;omega
  obtain rfl:r=false:=by
   rw[←sH.o,beq_eq_false_iff_ne];intro e;exact hnn (bG4.o.symm.trans (e▸bG5.o))
  go_enter Tryz.func72,Tryz.ntmps72;go_wp2;go_ret;exact⟨rfl,bF _ _⟩
theorem pX.eq_iff {x y:pX}:x=y↔x.o=y.o∧x.z=y.z∧x.p=y.p∧x.g=y.g∧x.i=y.i∧x.f=y.f∧x.mr=y.mr∧x.th=y.th:=by
 constructor
 ·rintro rfl;exact⟨rfl,rfl,rfl,rfl,rfl,rfl,rfl,rfl⟩
 ·obtain⟨o,z,p,g,i,f,m,t⟩:=x;obtain⟨o2,z2,p2,g2,i2,f2,m2,t2⟩:=y;rintro⟨h1,h2,h3,h4,h5,h6,h7,h8⟩;simp only at h1 h2 h3 h4 h5 h6 h7 h8;subst h1 h2 h3 h4 h5 h6 h7 h8;rfl
def J6 (x y:pX):Bool:=x.o==y.o&&x.z==y.z&&x.p==y.p&&x.g==y.g&&x.i==y.i&&x.f==y.f&&x.mr==y.mr&&x.th==y.th
theorem aAB {x y:pX}:J6 x y=true↔x=y:=by
 unfold J6;rw[pX.eq_iff];simp only[bK,beq_iff_eq,and_assoc]
theorem J7 (a a':Option Addr) (n c n' c':Nat) (xs ys:List oZ) (w:World) (hx:tL w a n c xs) (hy:tL w a' n' c' ys) (OM:∀t∈xs,pF t.2.2.2) (qL:∀t∈ys,pF t.2.2.2):
  Calls Tryz.prog 72 #[.slice a n c,.slice a' n' c',.func (.func 71) #[] #[]] w fun e w'=>e= .returned (.bool (xs==ys))∧Below w.heap.size w w':=by
 obtain⟨zx,h1,rfl⟩:=hx;obtain⟨zy,h2,rfl⟩:=hy;exact aH2 a a' n c n' c' zx zy w h1 h2 (fun z hz=>OM _ (iO hz)) (fun z hz=>qL _ (iO hz))
theorem aH3 (a a':Option Addr) (n n' c c':Nat) (x y:List Int) (w:World) (hx:Sl w a n c 1 (ints .u8 x)) (hy:Sl w a' n' c' 1 (ints .u8 y)):
  Calls Tryz.prog 26 #[.slice a n c,.slice a' n' c'] w fun e w'=>e= .returned (.bool (x==y))∧Below w.heap.size w w':=
 (bCD a a' n n' c c' x y w hx hy).mono fun e w' ⟨h1,h2⟩=>⟨h1,h2.below _⟩
theorem J8 (a:Option Addr) (n c:Nat) (ts:List Tg) (w:World) (h:Ts w a n c ts):
  Calls Tryz.prog 55 #[.slice a n c] w fun e w'=>e= .returned (.bool (xW ts))∧w=w':=by
 have hm:=h.max;have hl:=h.len;obtain⟨H,Hl⟩:=aJ h hl;clear h hl;obtain⟨r,hr⟩:=aC (xW ts);rw[hr];have Hr:=aA hr;clear hr;go_enter Tryz.func55,Tryz.ntmps55;go_wp2;go_loopw [3] (fun i wr=>∃k:Nat,k≤n∧i= .int .i64 k∧Hid (∀j,j<k→¬600<(ts.getD j (0,0,0, [])).2.2.2.length)∧Hid (wr=w)) (fun i _=>n - (intOf i).toNat)
 case atStart=>exact⟨0,by omega,rfl,aA (fun j hj=>by omega),aA rfl⟩
 case round=>
  obtain⟨k,hk,rfl,lY,hw⟩:=hrel;obtain rfl:=hw.o.symm;clear hw;by_cases kY:k<n
  ·obtain⟨b,o,a1,n1,c1,rfl,hb,e0,e1,e2,e3,hs⟩:=H.o.at kY;have hl1:=hs.p9;clear e0 e1 e2 hs;by_cases t1:600<n1
   ·have f1:decide ((600:Int)<n1)=true:=by simp;omega
    obtain rfl:r=true:=by
     rw[←Hr.o];unfold xW;rw[dN];left
     rw[jP];refine⟨ts.getD k (0,0,0, []),?_,by rw[hl1];exact decide_eq_true t1⟩;rw[aZ,bH (by rw[Hl.o];exact kY)];exact bP _
    clear hl1;go_wp2;go_ret;exact⟨rfl,rfl⟩
   ·have f1:decide ((600:Int)<n1)=false:=by simp;omega
    have a7V:Hid (∀j,j<k+1→¬600<(ts.getD j (0,0,0, [])).2.2.2.length):=aA (fun j hj=>by
     rcases eB j k with h|h
     ·exact lY.o j h
     ·obtain rfl:j=k:=by omega
      rw[hl1];exact t1)
    clear hl1 lY;go_wp2;go_roundw
    case rel=>exact⟨k+1,by omega,by go_num,a7V,aA trivial⟩
    case measure=>simp[intOf];omega
  ·have hv:xW ts=decide (60<n):=by
    unfold xW;rw[Hl.o];have:ts.any (fun x=>decide (600<x.2.2.2.length))=false:=by
     rw[List.any_eq_false];intro x hx;obtain⟨i,hi,rfl⟩:=gU.1 hx;have:=lY.o i (by rw[Hl.o]at hi;omega);rw[aZ,bH hi]at this;simpa using this
    rw[this,Bool.false_or]
   rw[Hr.o]at hv;have Hv:=aA hv;clear hv lY;go_wp2;go_ret;refine⟨EP ?_,rfl⟩;rw[Hv.o];rw[dY,decide_eq_true_iff,decide_eq_true_iff];omega
def YR (x:pX):Bool:=xW x.z||xW x.p||xW x.g||xW x.i||xW x.f||decide (2000<x.mr.length)||decide (2000<x.th.length)
theorem zM {ts:List oZ} (h:xW ts=false):(∀t∈ts,t.2.2.2.length≤600)∧ts.length≤60:=b2P h
theorem a7K {x:pX} (h:YR x=false):vJ x∧aX2 x∧(x.mr.length≤2000∧x.th.length≤2000):=by
 unfold YR at h;simp only[jM,decide_eq_false_iff_not]at h;obtain⟨⟨⟨⟨⟨⟨h1,h2⟩,h3⟩,h4⟩,h5⟩,h6⟩,h7⟩:=h;have a1:=zM h1;have a2:=zM h2;have a3:=zM h3;have a4:=zM h4;have a5:=zM h5;have up:∀{ts:List oZ},(∀t∈ts,t.2.2.2.length≤600)→∀t∈ts,t.2.2.2.length≤1000000:=fun h t ht=>bU (h t ht) aH;exact⟨⟨by omega,by omega,by omega,by omega,by omega,by omega,by omega⟩,⟨up a1.1,up a2.1,up a3.1,up a4.1,up a5.1⟩,by omega,by omega⟩
theorem a7L (x:pX) (A:ExA) (w:World) (h:ExR w x A):
  Calls Tryz.prog 18 #[exV x.o A] w fun e w'=>e= .returned (.bool (YR x))∧Below w.heap.size w w':=by
 obtain⟨za,zn,zc,pa,pn,pc,ga,gn,gc,ia,iN,ic,fa,fn,fc,ma,mn,mc,ta,tn,tc⟩:=A;obtain⟨o,z,p,g,i,f,mk,th⟩:=x;simp only[exV,VT]at*;obtain⟨hz,hp,hg,hi,hf,hm,ht⟩:=h;have lm:mk.length=mn:=hm.p9;have lt:th.length=tn:=ht.p9;have bE:=kG.new w 61 #[.int .i64 o,.slice za zn zc,.slice pa pn pc,.slice ga gn gc,.slice ia iN ic,.slice fa fn fc,.slice ma mn mc,.slice ta tn tc];have hb:=aD w (.cells #[.int .i64 o,.slice za zn zc,.slice pa pn pc,.slice ga gn gc,.slice ia iN ic,.slice fa fn fc,.slice ma mn mc,.slice ta tn tc] 61);obtain⟨W,hW⟩:=aC (w.alloc (.cells #[.int .i64 o,.slice za zn zc,.slice pa pn pc,.slice ga gn gc,.slice ia iN ic,.slice fa fn fc,.slice ma mn mc,.slice ta tn tc] 61));rw[hW]at bE hb;have q0:=bE.cell (i:=0) rfl;have q1:=bE.cell (i:=1) rfl;have q2:=bE.cell (i:=2) rfl;have q3:=bE.cell (i:=3) rfl;have q4:=bE.cell (i:=4) rfl;have q5:=bE.cell (i:=5) rfl;have q6:=bE.cell (i:=6) rfl;have q7:=bE.cell (i:=7) rfl;have hC0:=J8 za zn zc z W (hz.mono hb).ts;have hC1:=J8 pa pn pc p W (hp.mono hb).ts;have hC2:=J8 ga gn gc g W (hg.mono hb).ts;have hC3:=J8 ia iN ic i W (hi.mono hb).ts;have hC4:=J8 fa fn fc f W (hf.mono hb).ts;have hv:YR ⟨o,z,p,g,i,f,mk,th⟩=(xW z||xW p||xW g||xW i||xW f||decide (2000<mk.length)||decide (2000<th.length)):=rfl;rw[lm,lt]at hv;obtain⟨vv,hvv⟩:∃b,YR ⟨o,z,p,g,i,f,mk,th⟩=b:=⟨_,rfl⟩;rw[hvv]at hv;rw[hvv];clear hvv;generalize xW z=b0 at*;generalize xW p=b1 at*;generalize xW g=b2 at*;generalize xW i=b3 at*;generalize xW f=b4 at*;obtain⟨b5,nV⟩:∃b,decide (2000<mn)=b:=⟨_,rfl⟩;obtain⟨b6,vU⟩:∃b,decide (2000<tn)=b:=⟨_,rfl⟩;have h5:decide ((2000:Int)<mn)=b5:=by rw[←nV,decide_eq_decide];omega
 have h6:decide ((2000:Int)<tn)=b6:=by rw[←vU,decide_eq_decide];omega
 rw[nV,vU]at hv;clear nV vU lm lt;obtain⟨GX,hp',hg',vN,hf',hm',KS,bE',pW,WH,bZ0,bKK⟩:=aT hz hp hg hi hf hm ht bE hb hW hC0 hC1;obtain⟨bZ1,aBL,bZ2,GA⟩:=aL hC2 hC3 hC4 hv;clear hz hp hg hi hf hm ht bE hb hW hC0 hC1 hC2 hC3 hC4 hv;go_enter Tryz.func18,Tryz.ntmps18;go_upto_region 1 with fail
 rw[WH.o];go_wp2_with fail
 refine bZ0.o.mono ?_;rintro e w2 ⟨rfl,rfl⟩;cases b0 with
 |true=>
  obtain rfl:vv=true:=by rw[GA.o];simp
  go_wp2_with fail
  go_ret;exact⟨rfl,pW.o⟩
 |false=>
 go_wp2_with fail
 refine bKK.o.mono ?_;rintro e w2 ⟨rfl,rfl⟩;cases b1 with
 |true=>
  obtain rfl:vv=true:=by rw[GA.o];simp
  go_wp2_with fail
  go_ret;exact⟨rfl,pW.o⟩
 |false=>
 go_wp2_with fail
 refine bZ1.o.mono ?_;rintro e w2 ⟨rfl,rfl⟩;cases b2 with
 |true=>
  obtain rfl:vv=true:=by rw[GA.o];simp
  go_wp2_with fail
  go_ret;exact⟨rfl,pW.o⟩
 |false=>
 go_wp2_with fail
 refine aBL.o.mono ?_;rintro e w2 ⟨rfl,rfl⟩;cases b3 with
 |true=>
  obtain rfl:vv=true:=by rw[GA.o];simp
  go_wp2_with fail
  go_ret;exact⟨rfl,pW.o⟩
 |false=>
 go_wp2_with fail
 refine bZ2.o.mono ?_;rintro e w2 ⟨rfl,rfl⟩;cases b4 with
 |true=>
  obtain rfl:vv=true:=by rw[GA.o];simp
  go_wp2_with fail
  go_ret;exact⟨rfl,pW.o⟩
 |false=>
 cases b5 with
 |true=>
  obtain rfl:vv=true:=by rw[GA.o];simp
  go_wp2_with fail
  go_ret;exact⟨rfl,pW.o⟩
 |false=>
 obtain rfl:vv=b6:=by rw[GA.o];simp
 go_wp2_with fail
 go_ret;exact⟨rfl,pW.o⟩
theorem a1L (tag n:Int) (hn:mH n 2 2=true) (hmt:wH 3 1 (lQ n 2 2)=true) (w:World):
  Calls Tryz.prog 56 #[.int .i64 tag,.int .i64 n] w fun e w'=>∃a c,e= .returned (.slice a 1 c)∧tL w' a 1 c [(tag,3,1,lQ n 2 2)]∧Below w.heap.size w w':=by
 have qU:Sl (w.alloc (.cells #[.int .i64 n] 3)) (some ⟨w.heap.size,0,none⟩) 1 1 1 (ints .i64 [n]):=Sl.new w 3 1 1 #[.int .i64 n] (0,0) aG rfl;have kV:=aD w (.cells #[.int .i64 n] 3);have hS:=aKK n hn hmt _ 1 _ qU;obtain⟨yB,hS',lZ⟩:=aK qU hS kV;clear qU hS kV;go_enter Tryz.func56,Tryz.ntmps56;go_wp2_with fail
 refine hS'.o.mono ?_;rintro e w2 ⟨a,c,rfl,ho,hb⟩;have kP:=lZ.o.tm hb;have lK:=(kP.alloc kP.size (.cells #[.int .i64 3,.int .i64 1,.slice a 2 c] 72)).alloc (by simp;exact bU kP.size (eD _)) (.cells #[.int .i64 tag,.int .i64 3,.int .i64 1,.slice a 2 c] 74);have kU:=(aD w2 (.cells #[.int .i64 3,.int .i64 1,.slice a 2 c] 72)).alloc (by simp) (.cells #[.int .i64 tag,.int .i64 3,.int .i64 1,.slice a 2 c] 74);have hso:=(Sl.kZ ho).1.mono kU;have nC:tL ((w2.alloc (.cells #[.int .i64 3,.int .i64 1,.slice a 2 c] 72)).alloc (.cells #[.int .i64 tag,.int .i64 3,.int .i64 1,.slice a 2 c] 74)) (some ⟨(w2.alloc (.cells #[.int .i64 3,.int .i64 1,.slice a 2 c] 72)).heap.size,0,none⟩) 1 1 [(tag,3,1,lQ n 2 2)]:=
  ⟨[((tag,3,1,a,2,c),lQ n 2 2)],⟨Sl.new _ 74 4 1 #[.int .i64 tag,.int .i64 3,.int .i64 1,.slice a 2 c] (0,0) aG rfl,fun z hz=>by rw[dK.1 hz];exact hso⟩,rfl⟩
 rw[show(w2.alloc (.cells #[.int .i64 3,.int .i64 1,.slice a 2 c] 72)).heap.size=w2.heap.size+1 by simp]at nC;obtain⟨JG,pW,pG,kX,qR,bN2,zO⟩:=aO ho hb kP lK kU hso nC;clear ho hb kP lK kU hso nC;go_wp2_with fail
 go_ret;refine⟨_,_,rfl,zO.o,kX.o⟩
def R8:(f:Nat)→jY f→Prop
 |0,_=>True
 |f+1,d=>(∀t∈d.1,t.2.2.2.length≤2000)∧∀s∈d.2.1,R8 f s.2
theorem a0R {f:Nat} (ih:∀(d:jY f) (no:Int),mY f d→R8 f d→(∀x∈lD f d,x.1.all WA=true)→J3 (wJ f d no)≤(lD f d).length*2100000):∀(ss:List (Int×jY f)) (no:Int),(∀s∈ss,mY f s.2)→(∀s∈ss,R8 f s.2)→(∀s∈ss,∀x∈lD f s.2,x.1.all WA=true)→J3 (DK (wJ f) ss no)≤(mD f ss).length*2100000
 | [],_,_,_,_=>by simp[DK,J3,mD]
 |s::ss,no,h1,h2,h3=>by
  have a:=ih s.2 no (h1 s (bQ ..)) (h2 s (bQ ..)) (h3 s (bQ ..));have b:=a0R ih ss (no+(lD f s.2).length) (fun x hx=>h1 x (bL _ hx)) (fun x hx=>h2 x (bL _ hx)) (fun x hx=>h3 x (bL _ hx));have e1:DK (wJ f) (s::ss) no=wJ f s.2 no++DK (wJ f) ss (no+(lD f s.2).length):=rfl;have e2:(mD f (s::ss)).length=(lD f s.2).length+(mD f ss).length:=by unfold mD;rw[eF,cO]
  rw[e1,a5Y,e2];omega
theorem aH4:∀(f:Nat) (d:jY f) (no:Int),mY f d→R8 f d→(∀x∈lD f d,x.1.all WA=true)→J3 (wJ f d no)≤(lD f d).length*2100000
 |0,_,_,_,_,_=>by simp[wJ,J3];omega
 |f+1,d,no,hs,hd,hk=>by
  obtain⟨h1,h2,h3,h4⟩:=hs;obtain⟨g1,g2⟩:=hd;have hfl:(lD (f+1) d).length=(mD f d.2.1).length+1:=by rw[pK];rfl
  have hkd:=hk (d.1,d.2.1.length,d.2.2) (by rw[pK];exact bQ ..);have hks:∀s∈d.2.1,∀x∈lD f s.2,x.1.all WA=true:=fun s hs x hx=>hk x (by rw[pK];exact bL _ (eH.2 ⟨s,hs,hx⟩));have hS:=a0R (aH4 f) d.2.1 (no+1) h4 g2 hks;have hV:J3 (a2F no d.1)≤500*2001:=by
   have hl:(a2F no d.1).length≤500:=by
    unfold a2F;rw[dF];exact bU (List.length_filter_le _ _) h1
   have:=aNB (c:=2000) (a2F no d.1) (fun x hx=>by
    obtain⟨t,ht,rfl⟩:=dH.1 hx;have htm:=(iK.1 ht).1;have ho:=dI.1 hkd t htm;have hd:=g1 t htm;show Q0 t≤2000
    unfold Q0;by_cases hz:rT t.2.1 t.2.2.1=0
    ·omega
    ·have h5:=XQ (o:=1) ho (.inl rfl) hz;have h6:=IZ (o:=1) ho (.inl rfl);omega) aH
   omega
  have hB:J3 (a02 no d.2.2)≤1000001:=by
   unfold a02;split
   ·show(d.2.2.length:Int)+1+0≤1000001
    omega
   ·show(0:Int)≤1000001
    decide
  have hen:=JY (b:=d.2.2.length) h1 h3;rw[qY];have e1:J3 ((2,no,0,6+12*((pU d.1.length d.2.1.length d.2.2.length:Nat):Int))::(a2F no d.1++(DK (wJ f) d.2.1 (no+1)++a02 no d.2.2)))=6+12*((pU d.1.length d.2.1.length d.2.2.length:Nat):Int)+1+J3 (a2F no d.1++(DK (wJ f) d.2.1 (no+1)++a02 no d.2.2)):=rfl;rw[e1,a5Y,a5Y,hfl];omega
theorem aH5 {f:Nat} {ds:List (jY f)} (hs:∀d∈ds,mY f d) (hd:∀d∈ds,R8 f d) (hk:U2 f ds=true):nI (kW f ds)≤9+(oI f ds).length*2100000:=by
 rw[(BR f ds).2];have h1:=aGB (E9 f ds) 0 (gX _) (SC f ds);have hkk:∀x∈oI f ds,x.1.all WA=true:=fun x hx=>by
  have:=dI.1 hk x hx;unfold okF at this;simp only[bK]at this;exact this.2
 have h2:=a0R (aH4 f) (FP f ds) 0 (fun s xV=>by obtain⟨d,hd2,rfl⟩:=dH.1 xV;exact hs d hd2) (fun s xV=>by obtain⟨d,hd2,rfl⟩:=dH.1 xV;exact hd d hd2) (fun s xV x hx=>by
  obtain⟨d,hd2,rfl⟩:=dH.1 xV;exact hkk x (eH.2 ⟨d,hd2,hx⟩))
 rw[H6]at h2;have e1:J3 (E9 f ds)=8+1+J3 (DK (wJ f) (FP f ds) 0):=rfl;omega
structure bG6 (x:pX):Prop where
 z:∀t∈x.z,t.2.2.2.length≤2000
 p:∀t∈x.p,t.2.2.2.length≤2000
 g:∀t∈x.g,t.2.2.2.length≤2000
 i:∀t∈x.i,t.2.2.2.length≤2000
 f:∀t∈x.f,t.2.2.2.length≤2000
 mr:x.mr.length≤2000
theorem aH6 {x:pX} (h:bG6 x):∀d∈lS x,R8 16 d:=by
 obtain⟨hz,hp,hg,hi,hf,hm⟩:=h;have si:R8 14 (vH 13 x.i):=⟨hi,fun s hs=>by cases hs⟩;have sg:R8 15 (vH 14 x.g):=⟨hg,fun s hs=>by cases hs⟩;have sp:R8 15 (vI x):=by
  refine⟨fun t ht=>?_,fun s hs=>?_⟩
  ·have ht:t∈oO x:=ht;unfold oO at ht;split at ht
   ·rcases mem_set ht with rfl|ht
    ·exact hm
    ·exact hp t ht
   ·exact hp t ht
  ·have hs:s∈pE x:=hs;unfold pE at hs;split at hs
   ·rw[dK.1 hs];exact si
   ·cases hs
 have sz:R8 16 (tT x):=by
  refine⟨hz,fun s hs=>?_⟩;rcases Y8 hs with ⟨e,_⟩|⟨e,_⟩
  ·rw[e];exact sp
  ·rw[e];exact sg
 have sf:R8 16 (Q7 x):=⟨hf,fun s hs=>by cases hs⟩;intro d hd;unfold lS at hd;rcases cK.1 hd with rfl|hd
 ·exact sz
 ·split at hd
  ·rw[dK.1 hd];exact sf
  ·cases hd
structure bOY (x:pX):Prop where
 len:(FB x).length≤60000000
 clean:DZ (FB x) vB=true
 byt:pF (FB x)
 rd:YI (FB x)=0
 rdE:YJ (FB x)=x
 rdS:sQ (FB x) vB= .ok (lS x,⟨kW 16 (lS x),noT 16 (lS x) (lS x).length,0⟩)
 ofc:ofC 16 x.o (lS x)=0
 ofe:ofE 16 x.o (lS x)=x
 has:oD 16 x.o (lS x) vB=0
theorem bOZ {x:pX} (h:lU x=0) (hs:vJ x) (hb:a09 x) (hd:bG6 x):bOY x:=by
 have hk:=I6 h hs;obtain⟨s1,s2⟩:=FD h hs;have hy:=I5 hb;obtain⟨r1,r2,r3⟩:=VR h hs hb;obtain⟨o1,o2⟩:=aFZ h hs;have hOK:=Q6 hk hy;have JF:=hOK.fit;unfold V3 at JF;simp only[bK]at JF;have h1:=aH5 s1 (aH6 hd) JF.1;have h2:=(XV (sF hk).2.2.2.2.2).2.1;have h3:=aWT h hs hb;have hc:=aK7 hk hy aG 0;rw[List.replicate_zero,dU,←(a2Z h hs).1]at hc;exact⟨by omega,hc,by rw[(a2Z h hs).1];exact aR0 hk hy,r1,r2,r3,o1,o2,hk⟩
