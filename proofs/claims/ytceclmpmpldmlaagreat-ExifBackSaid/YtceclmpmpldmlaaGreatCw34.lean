import Derived.Test.YtceclmpmpldmlaaGreatCw33
set_option linter.unusedSimpArgs false
set_option linter.unusedVariables false
namespace Go.Proofs.YtceclmpmpldmlaaGreat
open Go.RowKit Tt
theorem lX.aKS {X:Nat→Prop} {B:Nat} {w:World} {a:Option Addr} {n c:Nat} {ts:List oZ} (h:lX X B w (.slice a n c) ts):tL w a n c ts:=by
 obtain⟨zs,rfl,h2,h3⟩:=h;have hm:=(Sl.kZ h2.1).2;have hs:=(Sl.kZ h2.1).1;exact⟨zs,⟨hs,fun z hz=>(h3 z hz).sl⟩,rfl⟩
theorem NA.rd {B:Nat} {w:World} {x:pX} {A:ExA} (h:NA B w x A):ExR w x A:=
 ⟨h.z.aKS,h.p.aKS,h.g.aKS,h.i.aKS,h.f.aKS,(Sl.kZ h.mr).1,(Sl.kZ h.th).1⟩
theorem NA.later {B:Nat} {w w':World} {x:pX} {A:ExA} (h:NA B w x A) (hb:Below w.heap.size w w'):NA B w' x A:=
 ⟨h.z.keep (Kp.later hb),h.p.keep (Kp.later hb),h.g.keep (Kp.later hb),h.i.keep (Kp.later hb),h.f.keep (Kp.later hb),l6 h.mr hb,l6 h.th hb⟩
theorem NA.mono {B B':Nat} {w:World} {x:pX} {A:ExA} (h:NA B w x A) (hB:B'≤B):NA B' w x A:=
 ⟨h.z.mono hB,h.p.mono hB,h.g.mono hB,h.i.mono hB,h.f.mono hB,lN h.mr hB,lN h.th hB⟩
theorem vL {X:Nat→Prop} {B g:Nat} {w w':World} {v:Value} {ts:List oZ} {T:TypeId} {cs:Array Value} (h:lX X B w v ts) (b:But g w w') (hb:kG w g T cs) (h1:74≠T) (h2:5≠T):lX X B w' v ts:=by
 obtain⟨zs,e,h3,h4⟩:=h;exact⟨zs,e,zR h3 b hb h1,fun z hz=>zR (h4 z hz) b hb h2⟩
theorem NA.but {B g:Nat} {w w':World} {x:pX} {A:ExA} {T:TypeId} {cs:Array Value} (h:NA B w x A) (b:But g w w') (hb:kG w g T cs) (h1:74≠T) (h2:5≠T):NA B w' x A:=
 ⟨vL h.z b hb h1 h2,vL h.p b hb h1 h2,vL h.g b hb h1 h2,vL h.i b hb h1 h2,vL h.f b hb h1 h2,mV h.mr b (lF h.mr hb h2),mV h.th b (lF h.th hb h2)⟩
theorem a3A {b:Nat} (w:World) (cs:Array Value):But b w (w.setRow b cs):=
 ⟨rfl,rfl,rfl,by rw[show(w.setRow b cs).heap.size=w.heap.size by simp[World.setRow]];exact aY _,fun k hk pQ=>setRow_other w b k cs pQ⟩
theorem aRN (a:Option Addr) (n c:Nat) (ts:List oZ) (t:Int) (w:World) (hs:tL w a n c ts) (hp:Pw ts) (hl:n≤1000000) (hd:∀y∈ts,y.2.2.2.length≤1000000):
  Calls Tryz.prog 137 #[.slice a n c,.int .i64 t] w fun e w'=>∃(b:Bool) (y2 y3:Int) (a':Option Addr) (n' c':Nat) (d:List Int),e= .returned (.tuple #[.agg #[.int .i64 y2,.int .i64 y3,.slice a' n' c'],.bool b])∧
   w'.ownsRow w.heap.size 5 1 (.slice a' n' c') n' (ints .u8 d)∧pI ts t=(b,y2,y3,d)∧Below w.heap.size w w':=by
 obtain⟨zs,h1,rfl⟩:=hs;have hr:=aKW (h1.tr.len) hp;refine(aOU a n c zs t w h1.tr hr hl (aCI h1.tr hd)).mono ?_;rintro e w' ⟨k,y2,y3,a',n',c',d,a7W,rfl,ho,hv,hb⟩;refine⟨ZL zs t k,y2,y3,a',n',c',d,rfl,ho,?_,hb⟩;rw[←M4,aSX a7W (by rw[h1.tr.len];exact hr)];cases hq:ZL zs t k with
 |true=>rw[hq,if_pos rfl]at hv;rw[if_pos rfl,←hv]
 |false=>rw[hq,if_neg aH]at hv;rw[if_neg aH,←hv]
theorem aRO (a:Option Addr) (n c:Nat) (ts:List oZ) (t:Int) (w:World) (hs:tL w a n c ts) (hp:Pw ts) (hl:n≤1000000) (hd:∀y∈ts,y.2.2.2.length≤1000000):
  Calls Tryz.prog 138 #[.slice a n c,.int .i64 t] w fun e w'=>∃a' n' c',e= .returned (.slice a' n' c')∧lX QJ w.heap.size w' (.slice a' n' c') (vD ts t)∧Below w.heap.size w w':=by
 obtain⟨zs,h1,rfl⟩:=hs;refine(aSW a n c zs t w h1.tr (aKW (h1.tr.len) hp) hl (aCI h1.tr hd)).mono ?_;rintro e w' ⟨a',n',c',zs',rfl,ho,hv,hb⟩;exact⟨a',n',c',rfl,ho.at_ hv,hb⟩
def phK (x:pX) (d:jY 15) (k:Nat):pX:=⟨x.o,x.z,vD d.1 37500,x.g,(d.2.1.take k).foldl (fun _ u=>wW 14 u.2) x.i,x.f,(pI d.1 37500).2.2.2,x.th⟩
theorem aGN (x:pX) (d:jY 15) {k:Nat} (h:k<d.2.1.length):phK x d (k+1)={phK x d k with i:=wW 14 (d.2.1.getD k (0,kS 14)).2}:=by
 unfold phK;rw[dR,bH h,fT,kF h];rfl
theorem aNR (x:pX) (d:jY 15):phK x d d.2.1.length=a6S x 14 d:=by
 unfold phK;rw[List.take_length];rfl
theorem FN.row {w:World} {f:Nat} {d:jY (f+1)} {a1 a2 a3:Option Addr} {n1 n2 n3 c1 c2 c3:Nat} (h:FN w (f+1) d (.slice a1 n1 c1,.slice a2 n2 c2,.slice a3 n3 c3)):tL w a1 n1 c1 d.1:=by
 obtain⟨ta,tn,tc,zs,sa,sn,sc,ds,ba,bn,bc,e,hT,hd,_⟩:=h;injection e with e1 e2;injection e1 with e1 e3 e4;subst e1 e3 e4;exact⟨zs,hT,hd⟩
set_option maxRecDepth 20000 in
set_option maxHeartbeats 8000000 in
theorem aLA (w0 w:World) (g:Nat) (x:pX) (A:ExA) (d:jY 15) (v:Dz) (h0:Below w0.heap.size w0 w) (hg:w0.heap.size≤g) (hB:kG w g 134 (VT x.o A)) (hO:NA w0.heap.size w x A)
  (hD:FN w0 15 d v) (hpw:Pw d.1) (hl:d.1.length≤65535) (hdt:∀t∈d.1,t.2.2.2.length≤1000000) (vV:∀s∈d.2.1,(wW 14 s.2).length≤65535∧∀t∈wW 14 s.2,t.2.2.2.length≤1000000):
  Calls Tryz.prog 77 #[.pointer (some ⟨g,0,none⟩),.agg #[v.1,v.2.1,v.2.2]] w fun e w'=>
   Below w0.heap.size w0 w'∧But g w w'∧(if yP (pI d.1 37500)=true then e= .returned (.bool false)else e= .returned (.bool true)∧∃A',kG w' g 134 (VT x.o A')∧NA w0.heap.size w' (a6S x 14 d) A'):=by
 obtain⟨za,zn,zc,pa,pn,pc,ga,gn,gc,ia,iN,ic,fa,fn,fc,ma,mn,mc,ta,tn,tc⟩:=A;obtain⟨qa,qn,qc,zs,sa,sn,sc,ds,ba,bn,bc,rfl,hT,hd1,hS,wG,hDs,D9⟩:=hD;simp only[VT]at*;obtain⟨nb,hnb⟩:∃q,yP (pI d.1 37500)=q:=⟨_,rfl⟩;rw[hnb];have htl:=hT.len;have qU:=hS.xZ qV aH;have aXX:tL w0 qa qn qc d.1:=⟨zs,hT,hd1⟩;have hqn:qn≤1000000:=by have:=aXX.len;omega
 have hF:=fun W (hb:Below w0.heap.size w0 W)=>aRN qa qn qc d.1 37500 W (aXX.mono hb) hpw hqn hdt;have hDr:=fun W (hb:Below w0.heap.size w0 W)=>aRO qa qn qc d.1 37500 W (aXX.mono hb) hpw hqn hdt;have JJ:=hB.lt;have bD:=kG.new w 26 #[.slice qa qn qc,.slice sa sn sc,.slice ba bn bc];have kU:=aD w (.cells #[.slice qa qn qc,.slice sa sn sc,.slice ba bn bc] 26);obtain⟨w1,xR⟩:∃W,w.alloc (.cells #[.slice qa qn qc,.slice sa sn sc,.slice ba bn bc] 26)=W:=⟨_,rfl⟩;rw[xR]at bD kU;have hO1:=hO.later kU;have hB1:=hB.late kU;have h01:=h0.tm kU;have aP7:=But.of_below (b:=g) kU;have UA:g<w.heap.size:=JJ;obtain⟨gd,bFF⟩:∃k,w.heap.size=k:=⟨_,rfl⟩;rw[bFF]at bD UA;have d0:=bD.cell (i:=0) rfl;have d1:=bD.cell (i:=1) rfl;have d2:=bD.cell (i:=2) rfl;clear kU JJ hB hO htl D9 hT;obtain⟨bTQ,h0',hg',bEU,FX,a7Z,BO,hS',b54,bXW,GK,yB⟩:=aT hnb h0 hg hpw hl hdt vV hS hDs hd1 wG qU;obtain⟨c3B,c62,hF',b55,bD',b3U,bN5,aJ0,aXY,b83,OI,bN6⟩:=aT aXX hqn hF hDr bD xR hO1 hB1 h01 aP7 UA bFF;clear hnb h0 hg hpw hl hdt vV hS hDs hd1 wG qU aXX hqn hF hDr bD xR hO1 hB1 h01 aP7 UA bFF;go_enter Tryz.func77,Tryz.ntmps77;go_upto_region 1 with fail
 try rw[bN6.o]
 try rw[b3U.o]
 go_wp2_with fail
 refine(hF'.o _ aXY.o).mono ?_;rintro e w2 ⟨b,y2,y3,a5,n5,c5,dd,rfl,how,hfi,kP⟩;have bV:=kG.new w2 72 #[.int .i64 y2,.int .i64 y3,.slice a5 n5 c5];have kU:=aD w2 (.cells #[.int .i64 y2,.int .i64 y3,.slice a5 n5 c5] 72);obtain⟨w3,xE⟩:∃W,w2.alloc (.cells #[.int .i64 y2,.int .i64 y3,.slice a5 n5 c5] 72)=W:=⟨_,rfl⟩;rw[xE]at bV kU;have h13:=kP.tm kU;have hwg:g<w2.heap.size:=by have:=OI.o;have:=bD'.o.lt;have:=kP.size;omega
 have hwd:gd<w2.heap.size:=by have:=bD'.o.lt;have:=kP.size;omega
 have hO3:=bN5.o.later h13;have hB3:=aJ0.o.late h13;have hD3:=bD'.o.late h13;have h03:=aXY.o.tm h13;have aP8:=b83.o.later h13;have bN7:w3.ownsRow w0.heap.size 5 1 (.slice a5 n5 c5) n5 (ints .u8 dd):=l6 (lN how aXY.o.size) kU;obtain⟨gv,hgv⟩:∃k,w2.heap.size=k:=⟨_,rfl⟩;rw[hgv]at bV hwg hwd;have e0:=bV.cell (i:=0) rfl;clear kU h13 kP how bN5 aJ0 bD' aXY b83 d0 d1 d2;obtain⟨bFG,bV',a2D,c1M,bN8,bN9,aJ1,bFH,a6Z,aXZ,b84,bCN⟩:=aT hfi bV xE hwg hwd hO3 hB3 hD3 h03 aP8 bN7 hgv;clear hfi bV xE hwg hwd hO3 hB3 hD3 h03 aP8 bN7 hgv;go_upto_region 2 with fail
 try rw[bCN.o]
 try rw[a2D.o]
 have hnb:=bTQ.o;rw[bFG.o]at hnb;unfold yP at hnb;simp only at hnb;have key:(b=true∧y2≠7∧nb=true)∨((b=false∨(b=true∧y2=7))∧nb=false):=by
  cases b with
  |false=>right;simp at hnb;exact⟨.inl rfl,by simpa using hnb.symm⟩
  |true=>
   by_cases hy:y2=7
   ·right;rw[hy]at hnb;simp at hnb;exact⟨.inr ⟨rfl,hy⟩,by simpa using hnb.symm⟩
   ·left;simp[hy]at hnb;exact⟨rfl,hy,by simpa using hnb.symm⟩
 clear hnb;rcases key with ⟨rfl,hy,rfl⟩|⟨hy,rfl⟩
 ·have hyb:(y2 != 7)=true:=by simpa using hy
  go_wp2_with fail
  go_ret;exact⟨a6Z.o,aXZ.o,rfl⟩
 ·obtain⟨Ty,ff,pQ,xY,kE⟩:=V5 g w3;have HD:=aA ((bF w3.heap.size w3).drew);have HS:=aA (kE _ (But.of_below HD.o));have aY0:gd≠g:=by have:=OI.o;omega
  have aY1:gv≠g:=by have:=c1M.o;omega
  have c0:=fun s=>(bFH.o.but (xY s) aY0).cell (i:=0) rfl;have c2:=fun s=>(bV'.o.but (xY s) aY1).cell (i:=2) rfl;obtain⟨aMU,jV,aY2,bXX⟩:=aL xY kE aY0 aY1;clear xY kE aY0 aY1;have step:Hid True:=aA trivial;rcases hy with rfl|⟨rfl,rfl⟩
  ·skip
   go_upto_region 4 with fail
   refine kR (S:=fun W=>∃s,W=ff s) aF 15 rfl ?_;obtain⟨wD,xB⟩:∃X,w3.drew=X:=⟨_,rfl⟩;rw[xB]at HS HD ⊢;clear xB;refine jZ [0,1,2,3,5,6] 9 aF aI aF aF aF HS.o ?_;simp only[jW,aW,aX,aU,aV];iterate 6 (go_big_quiet_step (fail))
   refine wpQuiet_nil ?_;refine jX 4 8 aF aF ?_;simp only[jW,aW,aX,aU,aV];go_wp2_with fail
   refine(b55.o _ (a6Z.o.tm HD.o)).mono ?_;rintro e w5 ⟨a6,n6,c6,rfl,hTd,nV⟩;have YM:=HD.o.tm nV;have HS5:=aA (jV.o _ (But.of_below YM));have hB5:=aJ1.o.late YM;have hO5:=bN9.o.later YM;have hT5:=hTd.mono (bU a6Z.o.size HD.o.size);have a8R:=l6 b84.o YM;have h05:=a6Z.o.tm YM;have XI:=aXZ.o.later YM;have Z8:=hB5.set 2 (.slice a6 n6 c6);have hB7:=Z8.set 6 (.slice a5 n5 c5);have aLB:=(But.refl g w5).set 2 (.slice a6 n6 c6);have NG:=aLB.set 6 (.slice a5 n5 c5);obtain⟨HS6,HS7⟩:=aJ (jV.o _ ((But.of_below YM).trans aLB)) (jV.o _ ((But.of_below YM).trans NG));have hB7:kG ((w5.setCell ⟨g,2,none⟩ (.slice a6 n6 c6)).setCell ⟨g,6,none⟩ (.slice a5 n5 c5)) g 134 #[.int .i64 x.o,.slice za zn zc,.slice a6 n6 c6,.slice ga gn gc,.slice ia iN ic,.slice fa fn fc,.slice a5 n5 c5,.slice ta tn tc]:=hB7;have hD7:=bFH.o.but ((But.of_below YM).trans NG) aY2.o;have hO7:=hO5.but NG hB5 aH aH;have hT7:=vL hT5 NG hB5 aH aH;have aY3:=mV a8R NG (lF a8R hB5 aH);have h07:=(h05.setCell (p:=⟨g,2,none⟩) hg'.o (.slice a6 n6 c6)).setCell (p:=⟨g,6,none⟩) hg'.o (.slice a5 n5 c5);have aY4:=XI.trans NG;have p2:=hB5.cell (i:=2) rfl;have u2:=hB5.frozen 2;have p6:=Z8.cell (i:=6) rfl;have u6:=Z8.frozen 6;clear hTd nV hB5 hO5 hT5 a8R h05 XI Z8 aLB NG;have hE7:NA w0.heap.size ((w5.setCell ⟨g,2,none⟩ (.slice a6 n6 c6)).setCell ⟨g,6,none⟩ (.slice a5 n5 c5)) (phK x d 0) ⟨za,zn,zc,a6,n6,c6,ga,gn,gc,ia,iN,ic,fa,fn,fc,a5,n5,c5,ta,tn,tc⟩:=
    ⟨hO7.z,hT7,hO7.g,hO7.i,hO7.f,by show World.ownsRow _ _ _ _ _ _ (ints .u8 (pI d.1 37500).2.2.2);rw[bFG.o];exact aY3,hO7.th⟩
   clear hO7 hT7 aY3;obtain⟨bXY,aY5,aY6,bFI,aY7,aGO⟩:=aN YM hB7 hE7 hD7 h07 aY4;clear YM hB7 hE7 hD7 h07 aY4;go_wp2_with fail
   first|refine Mid.mk ⟨HS5.o,?_⟩|refine Mid.mk ?_
   have HS:=HS5;refine jZ [7,8,9] 5 aF aI aF aF aF HS.o ?_;simp only[jW,aW,aX,aU,aV];iterate 3 (go_big_quiet_step (fail))
   refine wpQuiet_nil ?_;refine jX 10 4 aF aF ?_;simp only[jW,aW,aX,aU,aV];go_wp2_with fail
   first|refine Mid.mk ⟨HS6.o,?_⟩|refine Mid.mk ?_
   have HS:=HS6;refine jZ [11,12,13] 1 aF aI aF aF aF HS.o ?_;simp only[jW,aW,aX,aU,aV];iterate 3 (go_big_quiet_step (fail))
   refine wpQuiet_nil ?_;refine jX 14 0 aF aF ?_;simp only[jW,aW,aX,aU,aV];go_wp2_with fail
   refine Mid.mk ⟨HS7.o,?_⟩;refine kH aF ?_;clear c0 c2 p2 u2 p6 u6 HD HS HS5 HS6 HS7 e0;generalize (w5.setCell ⟨g,2,none⟩ (.slice a6 n6 c6)).setCell ⟨g,6,none⟩ (.slice a5 n5 c5)=w7 at*;have d1:=bFI.o.cell (i:=1) rfl;go_wp2_with fail
   go_loopw [37] (fun iv wr=>∃(i:Nat) (ja:Option Addr) (jn jc:Nat),i≤sn∧iv= .int .i64 i∧Hid (kG wr g 134 #[.int .i64 x.o,.slice za zn zc,.slice a6 n6 c6,.slice ga gn gc,.slice ja jn jc,.slice fa fn fc,.slice a5 n5 c5,.slice ta tn tc])∧
    Hid (NA w0.heap.size wr (phK x d i) ⟨za,zn,zc,a6,n6,c6,ga,gn,gc,ja,jn,jc,fa,fn,fc,a5,n5,c5,ta,tn,tc⟩)∧Hid (Below w0.heap.size w0 wr)∧Hid (But g w wr)) (fun iv _=>sn - (intOf iv).toNat)
   case atStart=>exact⟨0,ia,iN,ic,by omega,rfl,aY5,aY6,aY7,aGO⟩
   case round=>
    clear aY5 aY6 aY7 aGO d1;obtain⟨i,ja,jn,jc,hi,rfl,hBr,hEr,h0r,nR⟩:=hrel;have UC:sn≤9223372036854775807:=bU hS'.o.le hS'.o.max;by_cases kY:i<sn
    ·have CY:(i:Int)<sn:=by omega
     have hww:IntKind.i64.wrap ((i:Int)+1)=i+1:=by rw[bJ];omega
     have rC:i<ds.length:=by rw[yB.o];exact kY
     have hid:i<d.2.1.length:=by rw[←GK.o];exact rC
     obtain⟨xb,xo,rfl,xL,fe⟩:=(hS'.o.mono h0r.o).elem qV aH (0,dzz) kY;rw[kF rC]at fe;obtain⟨hq1,rH⟩:=b54.o i rC hid;obtain⟨ua,un,uc,ra,rn,rc,xa,xn,xc,hv⟩:=rH.v;have g0:=fe 0 _ rfl;have g1:=fe 1 _ rfl;have g2:=fe 2 _ rfl;have g3:=fe 3 _ rfl;simp only[dB]at g0 g1 g2 g3;clear fe;rw[hv]at rH g1 g2 g3;rw[hq1]at g0;simp only at g0 g1 g2 g3;obtain⟨yt,hyt⟩:∃y,d.2.1[i].1=y:=⟨_,rfl⟩;rw[hyt]at g0;have nC:=rH.row;obtain⟨su,hsu⟩:∃s,d.2.1[i]=s:=⟨_,rfl⟩;obtain⟨hul,hud⟩:=BO.o d.2.1[i] (bP _);have QV:d.2.1.getD i (0,kS 14)=d.2.1[i]:=kF hid _;rw[hsu]at nC hul hud QV;have bS:=kG.new wr 28 #[.int .i64 yt,.slice ua un uc,.slice ra rn rc,.slice xa xn xc];have kU:=aD wr (.cells #[.int .i64 yt,.slice ua un uc,.slice ra rn rc,.slice xa xn xc] 28);obtain⟨ws,OH⟩:∃X,wr.alloc (.cells #[.int .i64 yt,.slice ua un uc,.slice ra rn rc,.slice xa xn xc] 28)=X:=⟨_,rfl⟩;rw[OH]at bS kU;obtain⟨gs,GZ⟩:∃k,wr.heap.size=k:=⟨_,rfl⟩;rw[GZ]at bS;have s1:=bS.cell (i:=1) rfl;have h0s:=h0r.o.tm kU;have hOw:=zK ua un uc (wW 14 su.2) ws (nC.mono h0s) (by have:=nC.len;have:(wW 14 su.2).length=un:=nC.len;omega) hud;have hBs:=hBr.o.late kU;have IW:=hEr.o.later kU;have nE:=nR.o.later kU;clear hq1 rH hv xL nC hul hud kU bS hyt hsu;obtain⟨aLC,aLD,a2M,JQ,aLE,aGP,a01,sS,b85,b5A⟩:=aR QV OH GZ h0s hOw hBs IW nE rC hid;clear QV OH GZ h0s hOw hBs IW nE rC hid;go_upto_region 8 with fail
     try rw[a2M.o]
     try rw[aLD.o]
     go_wp2_with fail
     refine aLE.o.mono ?_;rintro e w8 ⟨a8,c8,rfl,hT8,rW⟩;have hB8:=aGP.o.late rW;have hE8:=a01.o.later rW;have h08:=JQ.o.tm rW;have aCS:=sS.o.later rW;have hT8:=hT8.mono JQ.o.size;have p4:=hB8.cell (i:=4) rfl;have u4:=hB8.frozen 4;have hB9:kG (w8.setCell ⟨g,4,none⟩ (.slice a8 un c8)) g 134 #[.int .i64 x.o,.slice za zn zc,.slice a6 n6 c6,.slice ga gn gc,.slice a8 un c8,.slice fa fn fc,.slice a5 n5 c5,.slice ta tn tc]:=hB8.set 4 _;have VW:=(But.refl g w8).set 4 (.slice a8 un c8);have hE9:=hE8.but VW hB8 aH aH;have hT9:=vL hT8 VW hB8 aH aH;have a7A:NA w0.heap.size (w8.setCell ⟨g,4,none⟩ (.slice a8 un c8)) (phK x d (i+1)) ⟨za,zn,zc,a6,n6,c6,ga,gn,gc,a8,un,c8,fa,fn,fc,a5,n5,c5,ta,tn,tc⟩:=by
      rw[aGN x d b5A.o,aLC.o];exact⟨hE9.z,hE9.p,hE9.g,hT9,hE9.f,hE9.mr,hE9.th⟩
     have h09:=h08.setCell (p:=⟨g,4,none⟩) hg'.o (.slice a8 un c8);have a4Y:=aCS.trans VW;clear hE8 hE9 hT9 hT8 rW hB8 h08 aCS VW;obtain⟨aY8,a7B,aY9,aEZ⟩:=aL hB9 a7A h09 a4Y;clear hB9 a7A h09 a4Y;go_wp2_with fail
     go_roundw
     case rel=>exact⟨i+1,a8,un,c8,by omega,by go_num,aY8,a7B,aY9,aEZ⟩
     case measure=>simp[intOf];omega
    ·obtain rfl:i=sn:=by omega
     have hdi:decide ((i:Int)<(i:Int))=false:=by simp
     go_wp2_with fail
     go_ret;refine⟨h0r.o,nR.o,rfl,⟨za,zn,zc,a6,n6,c6,ga,gn,gc,ja,jn,jc,fa,fn,fc,a5,n5,c5,ta,tn,tc⟩,hBr.o,?_⟩;have:=hEr.o;rw[show i=d.2.1.length by rw[←GK.o];exact yB.o.symm,aNR]at this;exact this
  ·skip
   go_upto_region 4 with fail
   refine kR (S:=fun W=>∃s,W=ff s) aF 15 rfl ?_;obtain⟨wD,xB⟩:∃X,w3.drew=X:=⟨_,rfl⟩;rw[xB]at HS HD ⊢;clear xB;refine jZ [0,1,2,3,5,6] 9 aF aI aF aF aF HS.o ?_;simp only[jW,aW,aX,aU,aV];iterate 6 (go_big_quiet_step (fail))
   refine wpQuiet_nil ?_;refine jX 4 8 aF aF ?_;simp only[jW,aW,aX,aU,aV];go_wp2_with fail
   refine(b55.o _ (a6Z.o.tm HD.o)).mono ?_;rintro e w5 ⟨a6,n6,c6,rfl,hTd,nV⟩;have YM:=HD.o.tm nV;have HS5:=aA (jV.o _ (But.of_below YM));have hB5:=aJ1.o.late YM;have hO5:=bN9.o.later YM;have hT5:=hTd.mono (bU a6Z.o.size HD.o.size);have a8R:=l6 b84.o YM;have h05:=a6Z.o.tm YM;have XI:=aXZ.o.later YM;have Z8:=hB5.set 2 (.slice a6 n6 c6);have hB7:=Z8.set 6 (.slice a5 n5 c5);have aLB:=(But.refl g w5).set 2 (.slice a6 n6 c6);have NG:=aLB.set 6 (.slice a5 n5 c5);obtain⟨HS6,HS7⟩:=aJ (jV.o _ ((But.of_below YM).trans aLB)) (jV.o _ ((But.of_below YM).trans NG));have hB7:kG ((w5.setCell ⟨g,2,none⟩ (.slice a6 n6 c6)).setCell ⟨g,6,none⟩ (.slice a5 n5 c5)) g 134 #[.int .i64 x.o,.slice za zn zc,.slice a6 n6 c6,.slice ga gn gc,.slice ia iN ic,.slice fa fn fc,.slice a5 n5 c5,.slice ta tn tc]:=hB7;have hD7:=bFH.o.but ((But.of_below YM).trans NG) aY2.o;have hO7:=hO5.but NG hB5 aH aH;have hT7:=vL hT5 NG hB5 aH aH;have aY3:=mV a8R NG (lF a8R hB5 aH);have h07:=(h05.setCell (p:=⟨g,2,none⟩) hg'.o (.slice a6 n6 c6)).setCell (p:=⟨g,6,none⟩) hg'.o (.slice a5 n5 c5);have aY4:=XI.trans NG;have p2:=hB5.cell (i:=2) rfl;have u2:=hB5.frozen 2;have p6:=Z8.cell (i:=6) rfl;have u6:=Z8.frozen 6;clear hTd nV hB5 hO5 hT5 a8R h05 XI Z8 aLB NG;have hE7:NA w0.heap.size ((w5.setCell ⟨g,2,none⟩ (.slice a6 n6 c6)).setCell ⟨g,6,none⟩ (.slice a5 n5 c5)) (phK x d 0) ⟨za,zn,zc,a6,n6,c6,ga,gn,gc,ia,iN,ic,fa,fn,fc,a5,n5,c5,ta,tn,tc⟩:=
    ⟨hO7.z,hT7,hO7.g,hO7.i,hO7.f,by show World.ownsRow _ _ _ _ _ _ (ints .u8 (pI d.1 37500).2.2.2);rw[bFG.o];exact aY3,hO7.th⟩
   clear hO7 hT7 aY3;obtain⟨bXY,aY5,aY6,bFI,aY7,aGO⟩:=aN YM hB7 hE7 hD7 h07 aY4;clear YM hB7 hE7 hD7 h07 aY4;go_wp2_with fail
   first|refine Mid.mk ⟨HS5.o,?_⟩|refine Mid.mk ?_
   have HS:=HS5;refine jZ [7,8,9] 5 aF aI aF aF aF HS.o ?_;simp only[jW,aW,aX,aU,aV];iterate 3 (go_big_quiet_step (fail))
   refine wpQuiet_nil ?_;refine jX 10 4 aF aF ?_;simp only[jW,aW,aX,aU,aV];go_wp2_with fail
   first|refine Mid.mk ⟨HS6.o,?_⟩|refine Mid.mk ?_
   have HS:=HS6;refine jZ [11,12,13] 1 aF aI aF aF aF HS.o ?_;simp only[jW,aW,aX,aU,aV];iterate 3 (go_big_quiet_step (fail))
   refine wpQuiet_nil ?_;refine jX 14 0 aF aF ?_;simp only[jW,aW,aX,aU,aV];go_wp2_with fail
   refine Mid.mk ⟨HS7.o,?_⟩;refine kH aF ?_;clear c0 c2 p2 u2 p6 u6 HD HS HS5 HS6 HS7 e0;generalize (w5.setCell ⟨g,2,none⟩ (.slice a6 n6 c6)).setCell ⟨g,6,none⟩ (.slice a5 n5 c5)=w7 at*;have d1:=bFI.o.cell (i:=1) rfl;go_wp2_with fail
   go_loopw [37] (fun iv wr=>∃(i:Nat) (ja:Option Addr) (jn jc:Nat),i≤sn∧iv= .int .i64 i∧Hid (kG wr g 134 #[.int .i64 x.o,.slice za zn zc,.slice a6 n6 c6,.slice ga gn gc,.slice ja jn jc,.slice fa fn fc,.slice a5 n5 c5,.slice ta tn tc])∧
    Hid (NA w0.heap.size wr (phK x d i) ⟨za,zn,zc,a6,n6,c6,ga,gn,gc,ja,jn,jc,fa,fn,fc,a5,n5,c5,ta,tn,tc⟩)∧Hid (Below w0.heap.size w0 wr)∧Hid (But g w wr)) (fun iv _=>sn - (intOf iv).toNat)
   case atStart=>exact⟨0,ia,iN,ic,by omega,rfl,aY5,aY6,aY7,aGO⟩
   case round=>
    clear aY5 aY6 aY7 aGO d1;obtain⟨i,ja,jn,jc,hi,rfl,hBr,hEr,h0r,nR⟩:=hrel;have UC:sn≤9223372036854775807:=bU hS'.o.le hS'.o.max;by_cases kY:i<sn
    ·have CY:(i:Int)<sn:=by omega
     have hww:IntKind.i64.wrap ((i:Int)+1)=i+1:=by rw[bJ];omega
     have rC:i<ds.length:=by rw[yB.o];exact kY
     have hid:i<d.2.1.length:=by rw[←GK.o];exact rC
     obtain⟨xb,xo,rfl,xL,fe⟩:=(hS'.o.mono h0r.o).elem qV aH (0,dzz) kY;rw[kF rC]at fe;obtain⟨hq1,rH⟩:=b54.o i rC hid;obtain⟨ua,un,uc,ra,rn,rc,xa,xn,xc,hv⟩:=rH.v;have g0:=fe 0 _ rfl;have g1:=fe 1 _ rfl;have g2:=fe 2 _ rfl;have g3:=fe 3 _ rfl;simp only[dB]at g0 g1 g2 g3;clear fe;rw[hv]at rH g1 g2 g3;rw[hq1]at g0;simp only at g0 g1 g2 g3;obtain⟨yt,hyt⟩:∃y,d.2.1[i].1=y:=⟨_,rfl⟩;rw[hyt]at g0;have nC:=rH.row;obtain⟨su,hsu⟩:∃s,d.2.1[i]=s:=⟨_,rfl⟩;obtain⟨hul,hud⟩:=BO.o d.2.1[i] (bP _);have QV:d.2.1.getD i (0,kS 14)=d.2.1[i]:=kF hid _;rw[hsu]at nC hul hud QV;have bS:=kG.new wr 28 #[.int .i64 yt,.slice ua un uc,.slice ra rn rc,.slice xa xn xc];have kU:=aD wr (.cells #[.int .i64 yt,.slice ua un uc,.slice ra rn rc,.slice xa xn xc] 28);obtain⟨ws,OH⟩:∃X,wr.alloc (.cells #[.int .i64 yt,.slice ua un uc,.slice ra rn rc,.slice xa xn xc] 28)=X:=⟨_,rfl⟩;rw[OH]at bS kU;obtain⟨gs,GZ⟩:∃k,wr.heap.size=k:=⟨_,rfl⟩;rw[GZ]at bS;have s1:=bS.cell (i:=1) rfl;have h0s:=h0r.o.tm kU;have hOw:=zK ua un uc (wW 14 su.2) ws (nC.mono h0s) (by have:=nC.len;have:(wW 14 su.2).length=un:=nC.len;omega) hud;have hBs:=hBr.o.late kU;have IW:=hEr.o.later kU;have nE:=nR.o.later kU;clear hq1 rH hv xL nC hul hud kU bS hyt hsu;obtain⟨aLC,aLD,a2M,JQ,aLE,aGP,a01,sS,b85,b5A⟩:=aR QV OH GZ h0s hOw hBs IW nE rC hid;clear QV OH GZ h0s hOw hBs IW nE rC hid;go_upto_region 8 with fail
     try rw[a2M.o]
     try rw[aLD.o]
     go_wp2_with fail
     refine aLE.o.mono ?_;rintro e w8 ⟨a8,c8,rfl,hT8,rW⟩;have hB8:=aGP.o.late rW;have hE8:=a01.o.later rW;have h08:=JQ.o.tm rW;have aCS:=sS.o.later rW;have hT8:=hT8.mono JQ.o.size;have p4:=hB8.cell (i:=4) rfl;have u4:=hB8.frozen 4;have hB9:kG (w8.setCell ⟨g,4,none⟩ (.slice a8 un c8)) g 134 #[.int .i64 x.o,.slice za zn zc,.slice a6 n6 c6,.slice ga gn gc,.slice a8 un c8,.slice fa fn fc,.slice a5 n5 c5,.slice ta tn tc]:=hB8.set 4 _;have VW:=(But.refl g w8).set 4 (.slice a8 un c8);have hE9:=hE8.but VW hB8 aH aH;have hT9:=vL hT8 VW hB8 aH aH;have a7A:NA w0.heap.size (w8.setCell ⟨g,4,none⟩ (.slice a8 un c8)) (phK x d (i+1)) ⟨za,zn,zc,a6,n6,c6,ga,gn,gc,a8,un,c8,fa,fn,fc,a5,n5,c5,ta,tn,tc⟩:=by
      rw[aGN x d b5A.o,aLC.o];exact⟨hE9.z,hE9.p,hE9.g,hT9,hE9.f,hE9.mr,hE9.th⟩
     have h09:=h08.setCell (p:=⟨g,4,none⟩) hg'.o (.slice a8 un c8);have a4Y:=aCS.trans VW;clear hE8 hE9 hT9 hT8 rW hB8 h08 aCS VW;obtain⟨aY8,a7B,aY9,aEZ⟩:=aL hB9 a7A h09 a4Y;clear hB9 a7A h09 a4Y;go_wp2_with fail
     go_roundw
     case rel=>exact⟨i+1,a8,un,c8,by omega,by go_num,aY8,a7B,aY9,aEZ⟩
     case measure=>simp[intOf];omega
    ·obtain rfl:i=sn:=by omega
     have hdi:decide ((i:Int)<(i:Int))=false:=by simp
     go_wp2_with fail
     go_ret;refine⟨h0r.o,nR.o,rfl,⟨za,zn,zc,a6,n6,c6,ga,gn,gc,ja,jn,jc,fa,fn,fc,a5,n5,c5,ta,tn,tc⟩,hBr.o,?_⟩;have:=hEr.o;rw[show i=d.2.1.length by rw[←GK.o];exact yB.o.symm,aNR]at this;exact this
theorem YO {f:Nat} {d:jY (f+1)} {i:Int} (h:LP vB f d i):d.1.length≤65535:=by
 have:=h.e2;unfold pU at this;omega
theorem QW {f:Nat} {d:jY (f+1)} {i:Int} (h:LP vB f d i):∀t∈d.1,t.2.2.2.length≤1000000:=fun t ht=>by
 have:=aX5 (h.tg t ht).2.2;omega
theorem aA3 {o:Int} {ds:List (jY 16)} (h:OfK o ds) {s:Int×jY 15} (hs:s∈rR ds) (h1:s.1=34665):wF 16 (ds.getD 0 (kS 16)) 34665=wW 15 s.2:=by
 rw[show wF 16 (ds.getD 0 (kS 16)) 34665=a1B 15 ((rR ds).find? (fun s=>s.1==34665))from BU (f:=15) (d:=ds.getD 0 (kS 16)) rfl _];rcases a1I h with e|⟨p,e⟩|⟨g,e⟩|⟨p,g,e⟩
 ·rw[e]at hs;cases hs
 ·rw[e]at hs ⊢;rw[dK.1 hs];rfl
 ·rw[e]at hs;rw[dK.1 hs]at h1;have k:(34853:Int)=34665:=h1;omega
 ·rw[e]at hs ⊢;rcases cK.1 hs with rfl|hs
  ·rfl
  ·rw[dK.1 hs]at h1;have k:(34853:Int)=34665:=h1;omega
theorem bNA {o:Int} {ds:List (jY 16)} (h:OfK o ds) (sJ:∀s∈rR ds,s.1=34853∨yP (pI (wW 15 s.2) 37500)=false):yP (pI (wF 16 (ds.getD 0 (kS 16)) 34665) 37500)=false:=by
 have e0:(∀s∈rR ds,s.1≠34665)→yP (pI (wF 16 (ds.getD 0 (kS 16)) 34665) 37500)=false:=fun hn=>by
  rw[show wF 16 (ds.getD 0 (kS 16)) 34665=a1B 15 ((rR ds).find? (fun s=>s.1==34665))from BU (f:=15) (d:=ds.getD 0 (kS 16)) rfl _];rw[List.find?_eq_none.2 (fun s hs=>by simpa using hn s hs)];rfl
 by_cases hx:∃s∈rR ds,s.1=34665
 ·obtain⟨s,hs,h1⟩:=hx;rw[aA3 h hs h1];rcases sJ s hs with h2|h2
  ·rw[h1]at h2;exact absurd h2 aH
  ·exact h2
 ·exact e0 fun s hs h1=>hx ⟨s,hs,h1⟩
theorem b5B {o:Int} {ds:List (jY 16)} (h:oD 16 o ds vB≠0):ofC 16 o ds=1∧ofE 16 o ds=exZ:=by
 have e:ofC 16 o ds=1:=by unfold ofC;rw[if_neg h]
 exact⟨e,by unfold ofE;rw[if_neg (by rw[e];decide)]⟩
theorem b5C {o:Int} {ds:List (jY 16)} (h:oD 16 o ds vB=0) (hb:yP (pI (wF 16 (ds.getD 0 (kS 16)) 34665) 37500)=true):ofC 16 o ds=6∧ofE 16 o ds=exZ:=by
 have e:ofC 16 o ds=6:=by unfold ofC;rw[if_pos h,if_pos hb]
 exact⟨e,by unfold ofE;rw[if_neg (by rw[e];decide)]⟩
theorem aCT {o:Int} {ds:List (jY 16)} (h:oD 16 o ds vB=0) (hb:lU (wX 16 o ds)≠0):ofC 16 o ds=6∧ofE 16 o ds=exZ:=by
 have e:ofC 16 o ds=6:=by
  unfold ofC;rw[if_pos h];by_cases hn:yP (pI (wF 16 (ds.getD 0 (kS 16)) 34665) 37500)=true
  ·rw[if_pos hn]
  ·rw[if_neg hn,if_neg hb]
 exact⟨e,by unfold ofE;rw[if_neg (by rw[e];decide)]⟩
theorem a7C {o:Int} {ds:List (jY 16)} (h:oD 16 o ds vB=0) (hb:yP (pI (wF 16 (ds.getD 0 (kS 16)) 34665) 37500)=false) (h2:lU (wX 16 o ds)=0):ofC 16 o ds=0∧ofE 16 o ds=wX 16 o ds:=by
 have e:ofC 16 o ds=0:=by unfold ofC;rw[if_pos h,if_neg (by rw[hb];decide),if_pos h2]
 exact⟨e,by unfold ofE;rw[if_pos e]⟩
theorem a3B {f:Nat} {d:jY (f+1)} (h:tJ (f+1) d):(∀t∈d.1,pF t.2.2.2)∧(∀s∈d.2.1,tJ f s.2)∧pF d.2.2:=h
theorem aYA:∀f,tJ f (kS f)
 |0=>trivial
 |f+1=>⟨fun t ht=>(by cases ht),fun s hs=>(by cases hs),fun x hx=>by cases hx⟩
theorem aCU {ds:List (jY 16)} (h:∀d∈ds,tJ 16 d) (k:Nat):tJ 16 (ds.getD k (kS 16)):=by
 by_cases hk:k<ds.length
 ·rw[kF hk];exact h _ (bP hk)
 ·rw[aZ,fE aG];exact aYA 16
structure bNB (o:Int) (ds:List (jY 16)):Prop where
 wf:WfE (wX 16 o ds)
 byt:a09 (wX 16 o ds)
 dat:aX2 (wX 16 o ds)
theorem a7D {ts:List oZ} {u:Int} {t:oZ} (h:t∈vD ts u):t∈ts:=(iK.1 h).1
theorem aYB {P:oZ→Prop} {ts:List oZ} {u:Int} (h:∀t∈ts,P t) (Q:List Int→Prop) (hQ:∀t,P t→Q t.2.2.2) (h0:Q []):Q (pI ts u).2.2.2:=by
 unfold pI;split
 ·rename_i y e;exact hQ y (h y (List.mem_of_find?_eq_some e))
 ·exact h0
def a1J (t:oZ):Prop:=a1R t∧t.2.2.2.length≤524288
theorem QX {f:Nat} {d:jY (f+1)} {i:Int} (h:LP vB f d i) (hb:tJ (f+1) d):∀t∈d.1,a1J t:=fun t ht=>⟨b4V (h.tg t ht).1 ((a3B hb).1 t ht),aX5 (h.tg t ht).2.2⟩
theorem aA4 {o:Int} {ds:List (jY 16)} (h:OfK o ds) (hb:∀d∈ds,tJ 16 d):∀s∈rR ds,(∀t∈wW 15 s.2,a1J t)∧(∀t u,t∈wF 15 s.2 u→a1J t):=fun s hs=>by
 have AX:=(a3B (aCU hb 0)).2.1 s hs;rcases SS h.h0 s hs with ⟨e,k⟩|⟨e,k⟩
 ·refine⟨fun t ht=>QX k AX t ht,fun t u ht=>?_⟩;rw[BU (f:=14) (d:=s.2) rfl]at ht;cases hq:s.2.2.1.find? (fun s=>s.1==u)with
  |none=>rw[hq]at ht;cases ht
  |some y=>
   rw[hq]at ht;have hm:=List.mem_of_find?_eq_some hq;exact QX (NE k y hm).2 ((a3B AX).2.1 y hm) t ht
 ·refine⟨fun t ht=>QX k AX t ht,fun t u ht=>?_⟩;rw[BU (f:=14) (d:=s.2) rfl,aRF (.inl rfl) k]at ht;cases ht
theorem a7E {o:Int} {ds:List (jY 16)} (h:OfK o ds) (hb:∀d∈ds,tJ 16 d) (u:Int):∀t∈wF 16 (ds.getD 0 (kS 16)) u,a1J t:=fun t ht=>by
 rw[show wF 16 (ds.getD 0 (kS 16)) u=a1B 15 ((rR ds).find? (fun s=>s.1==u))from BU (f:=15) (d:=ds.getD 0 (kS 16)) rfl _]at ht;cases hq:(rR ds).find? (fun s=>s.1==u)with
 |none=>rw[hq]at ht;cases ht
 |some y=>
  rw[hq]at ht;exact(aA4 h hb y (List.mem_of_find?_eq_some hq)).1 t ht
theorem aGQ {o:Int} {ds:List (jY 16)} (h:OfK o ds) (hb:∀d∈ds,tJ 16 d) (u v:Int):∀t∈VF 16 (ds.getD 0 (kS 16)) u v,a1J t:=fun t ht=>by
 rw[show VF 16 (ds.getD 0 (kS 16)) u v=a5H 15 v ((rR ds).find? (fun s=>s.1==u))from a0A (f:=15) (d:=ds.getD 0 (kS 16)) rfl _ _]at ht;cases hq:(rR ds).find? (fun s=>s.1==u)with
 |none=>rw[hq]at ht;cases ht
 |some y=>
  rw[hq]at ht;exact(aA4 h hb y (List.mem_of_find?_eq_some hq)).2 t v ht
theorem aLF {o:Int} {ds:List (jY 16)} (h:OfK o ds) (hb:∀d∈ds,tJ 16 d):∀t∈wW 16 (ds.getD 1 (kS 16)),a1J t:=fun t ht=>by
 rcases h.len with e|e
 ·rw[aZ,fE aG]at ht;cases ht
 ·exact QX (h.h1 e) (aCU hb 1) t ht
theorem aYC {o:Int} {ds:List (jY 16)} (h:OfK o ds) (hb:∀d∈ds,tJ 16 d):bNB o ds:=by
 have hz:∀t∈wW 16 (ds.getD 0 (kS 16)),a1J t:=fun t ht=>QX h.h0 (aCU hb 0) t ht;have hp:=a7E h hb 34665;have hg:=a7E h hb 34853;have hi:=aGQ h hb 34665 40965;have hf:=aLF h hb;refine⟨⟨fun t ht=>(hz t ht).1,fun t ht=>(hp t (a7D ht)).1,fun t ht=>(hg t ht).1,fun t ht=>(hi t ht).1,fun t ht=>(hf t ht).1⟩,
  ⟨fun t ht=>(hz t ht).1.2,fun t ht=>(hp t (a7D ht)).1.2,fun t ht=>(hg t ht).1.2,fun t ht=>(hi t ht).1.2,fun t ht=>(hf t ht).1.2,?_,?_⟩,
  ⟨fun t ht=>?_,fun t ht=>?_,fun t ht=>?_,fun t ht=>?_,fun t ht=>?_⟩⟩
 ·exact aYB (P:=a1J) hp pF (fun t k=>k.1.2) (fun x hx=>by cases hx)
 ·exact(a3B (f:=15) (aCU hb 1)).2.2
 ·have:=(hz t ht).2;omega
 ·have:=(hp t (a7D ht)).2;omega
 ·have:=(hg t ht).2;omega
 ·have:=(hi t ht).2;omega
 ·have:=(hf t ht).2;omega
