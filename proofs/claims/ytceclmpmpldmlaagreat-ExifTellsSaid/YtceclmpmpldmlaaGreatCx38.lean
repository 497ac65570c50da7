import Derived.Test.YtceclmpmpldmlaaGreatCx37
set_option linter.unusedSimpArgs false
set_option linter.unusedVariables false
namespace Go.Proofs.YtceclmpmpldmlaaGreat
open Go.RowKit Tt
def Bd (B:Nat) (w:World) (v:Value) (n:Nat) (P:List Int):Prop:=
 ∃a c,v= .slice a n c∧Sl w a n c 1 (ints .u8 P)∧∀x,a=some x→x.block<B∨∃cur fz,w.heap[x.block]? =some (.cells cur 5 fz)
theorem Bd.later {B:Nat} {w w':World} {v:Value} {n:Nat} {P:List Int} (h:Bd B w v n P) (hb:Below w.heap.size w w'):Bd B w' v n P:=by
 obtain⟨a,c,rfl,hs,hx⟩:=h;refine⟨a,c,rfl,hs.mono hb,fun x e=>?_⟩;rcases hx x e with h|⟨cur,fz,h⟩
 ·exact .inl h
 ·exact .inr ⟨cur,fz,by rw[hb.block _ (bW.1 h).1];exact h⟩
theorem Bd.jU {B B':Nat} {w:World} {a:Option Addr} {n c:Nat} {P:List Int} (h:w.ownsRow B' 5 1 (.slice a n c) n (ints .u8 P)):Bd B w (.slice a n c) n P:=by
 refine⟨a,c,rfl,(Sl.jU h).1,fun x e=>?_⟩;rcases h.2 with ⟨hv,_⟩|⟨g,cap,cur,hv,_,hg,_⟩
 ·injection hv with h1;rw[h1]at e;cases e
 ·injection hv with h1
  rw[h1]at e;injection e with e;subst e;exact .inr ⟨_,_,hg⟩
theorem Bd.grown {B sz m:Nat} {w w':World} {v u:Value} {n:Nat} {P:List Int} {E:TypeId} {xs:List Value} (h:Bd B w v n P) (hg:w.grownBy w' u.ownBlock) (ho:w.ownsRow B E sz u m xs) (hE:E≠5):Bd B w' v n P:=by
 obtain⟨a,c,rfl,hs,hx⟩:=h;have oJ:∀x,a=some x→u.ownBlock≠some x.block:=fun x e hk=>by
  rcases hx x e with h|⟨cur,fz,h⟩
  ·have:=(ho.lt _ hk).1;omega
  ·rcases ho.2 with ⟨rfl,_⟩|⟨g',cap,cur',rfl,_,TQ,_⟩
   ·cases hk
   ·obtain rfl:g'=x.block:=by injection hk
    rw[h]at TQ;injection TQ with TQ;injection TQ with h1 h2;exact hE h2.symm
 refine⟨a,c,rfl,RX hs hg.size fun x e hl=>hg.block _ hl (fun e2=>oJ x e e2.symm),fun x e=>?_⟩;rcases hx x e with h|⟨cur,fz,h⟩
 ·exact .inl h
 ·exact .inr ⟨cur,fz,by rw[hg.block _ (bW.1 h).1 (fun e2=>oJ x e e2.symm)];exact h⟩
theorem bnx {B:Nat} {w w1 w2:World} (h:Below B w w1) (hB:B≤w.heap.size) (h2:Below w1.heap.size w1 w2):Below B w w2:=h.trans (h2.mono (bQ hB h.size))
structure PIn (n:Nat) (w wr:World) (dv sv:Array Value) (bv lv:Value) (P:List Int) (es:List xB):Prop where
 CZ:Below w.heap.size w wr
 bA:jW wr w.heap.size 26 dv
 bS:jW wr (w.heap.size+1) 35 sv
 b:Bd w.heap.size wr bv n P
 l:wr.ownsRow w.heap.size 55 4 lv es.length (fl sP es)
section
variable {n:Nat} {w wr w2:World} {dv sv:Array Value} {bv lv:Value} {P:List Int} {es:List xB}
theorem PIn.later (h:PIn n w wr dv sv bv lv P es) (hb:Below wr.heap.size wr w2):PIn n w w2 dv sv bv lv P es:=
 ⟨h.CZ.tm hb,h.bA.late hb,h.bS.late hb,h.b.later hb,kC h.l hb⟩
theorem PIn.add {lv2:Value} {es2:List xB} (h:PIn n w wr dv sv bv lv P es) (ho:w2.ownsRow w.heap.size 55 4 lv2 es2.length (fl sP es2)) (hg:wr.grownBy w2 lv.ownBlock):PIn n w w2 dv sv bv lv2 P es2:=
 ⟨below_grown h.CZ hg h.CZ.size h.l,h.bA.grown hg (mH h.l h.bA aH),h.bS.grown hg (mH h.l h.bS aH),h.b.grown hg h.l aH,ho⟩
theorem PIn.put {a:Option Addr} {c:Nat} {P2:List Int} (h:PIn n w wr dv sv bv lv P es) (hb:Below wr.heap.size wr w2) (ho:w2.ownsRow wr.heap.size 5 1 (.slice a n c) n (ints .u8 P2)):PIn n w w2 dv sv (.slice a n c) lv P2 es:=
 have h2:=h.later hb;⟨h2.CZ,h2.bA,h2.bS,Bd.jU ho,h2.l⟩
end
theorem PU (x:xB):∀u∈sP x,u.oneCell'=true:=by
 intro u hu;simp only[sP,cB,dK,or_false]at hu;rcases hu with rfl|rfl|rfl|rfl <;> rfl
theorem aW5 {x:rM} {o:Int} (ho:o=1∨o=2) (h:ZW x=true) (ht:vV x.1=true):V7 x o=XA x.2.1 x.2.2.1:=by
 have hm:=aHN h ho;rw[a3J h ho ht];unfold yF XA;have h1:(1:Int)≤x.2.2.2.length:=by
  rw[hm.len];have:=iO hm.k1 hm.s1 aH (by have:=hm.k1;omega);omega
 rw[hm.long];by_cases h4:4<(x.2.2.2.length:Int)
 ·rw[if_pos h4,decide_eq_false aG,decide_eq_false (show ¬(x.2.2.2.length:Int)≤4 by omega),Bool.and_false]
 ·rw[if_neg h4,decide_eq_true (show(0:Int)<x.2.2.2.length by omega),decide_eq_true (show(x.2.2.2.length:Int)≤4 by omega)];rfl
set_option maxRecDepth 20000 in
set_option maxHeartbeats 8000000 in
theorem aW6 (f n:Nat) (pa:Option Addr) (pc:Nat) (P:List Int) (GH:Option Addr) (H6 J6:Nat) (l:List nY) (d:jR (f+1)) (dv:Dz) (no:Int) (la:Option Addr) (ln lc:Nat) (lS:List Lk) (sat jG lV:Int) (ua:Option Addr) (un uc:Nat) (o:Int) (w:World)
  (hb:Sl w pa n pc 1 (ints .u8 P)) (WW:Sl w GH H6 J6 5 (fl spC l)) (hd:wH w (f+1) d dv) (hs:lN (f+1) d) (rU:BJ (f+1) d) (hu:Sl w ua un uc 1 (ints .i64 ((List.range d.2.1.length).map (qH f d.2.1 no))))
  (A8:∀x∈d.1,vV x.1=true∧ZW x=true) (hn:n≤1000000000000)
  (k1:∀x∈d.1,okV l n o no x∧x.2.2.2.length≤1000000000) (k3:0<d.2.2.length→Fits l n 4 no 0 d.2.2.length) (k4:Fits l n 2 no 0 (2+12*(pE f l o no (lS,sat,jG,lV) d).length))
  (k5:1≤(pE f l o no (lS,sat,jG,lV) d).length) (k6:(pE f l o no (lS,sat,jG,lV) d).length≤65535) (k7:o=1∨o=2)
  (k8:(pE f l o no (lS,sat,jG,lV) d).Pairwise fun x y=>x.1≠y.1) (k9:∀x∈pE f l o no (lS,sat,jG,lV) d,DL x o=true):
  Calls Tryz.prog 190 #[.slice pa n pc,.slice GH H6 J6,.agg #[dv.1,dv.2.1,dv.2.2],.int .i64 no,.agg #[.slice la ln lc,.int .i64 sat,.int .i64 jG,.int .i64 lV],.slice ua un uc,.int .i64 o] w fun e w'=>
   ∃a' c',e= .returned (.slice a' n c')∧w'.ownsRow w.heap.size 5 1 (.slice a' n c') n (ints .u8 (tO (a3P f l o no (lS,sat,jG,lV) d) P))∧Below w.heap.size w w':=by
 obtain⟨ta,tn,tc,ts,sa,sn,sc,ds,ba,bn,bc,rfl,htr,G5,nL,oQ,nR,vF⟩:=hd;obtain⟨h1,h2,h3,h4⟩:=hs;obtain⟨hy1,hy2,hy3⟩:=rU;have TW:d.1.length=tn:=by rw[G5,bL];exact htr.len
 have AR:d.2.1.length=sn:=by rw[←oQ];exact nL.rP mJ aH
 have pF:d.2.2.length=bn:=vF.nU;have a7Q:tn≤500:=by omega
 have a6D:sn≤500:=by omega
 have aGO:bn≤1000000:=by omega
 have hPl:=hb.nU;obtain⟨W1,pR,bA,bS,jY,s1⟩:=nM w 26 #[.slice ta tn tc,.slice sa sn sc,.slice ba bn bc] 35 #[.slice la ln lc,.int .i64 sat,.int .i64 jG,.int .i64 lV];obtain⟨ei,ez,xH,hz,oG,qK,QG⟩:=wL b1P aRV;have a6P:PIn n w W1 (dvA ta tn tc sa sn sc ba bn bc) (svA la ln lc sat jG lV) (.slice pa n pc) tZ P []:=
  ⟨jY,bA,bS,⟨pa,pc,rfl,hb.mono jY,fun x e=>by
   have PX:0<n:=by obtain⟨_,h1,h2⟩:=k4;omega
   obtain⟨g,off,h1,h2,_⟩:=hb.lies 0 PX;rw[e]at h1;injection h1 with h1;rw[h1];exact .inl h2⟩,kF _ _ _ _⟩
 obtain⟨mO,NQ,b6U,CW,tX,sH,oW,tL,h4',aZ5,aZ6,bFR⟩:=aT hb WW htr G5 nL oQ nR vF h4 hy1 hy2 hy3;obtain⟨V5,rR,DY,bRS,y8,bA',bS',kR,s1',a81,hu',D8⟩:=aT TW AR pF hPl pR bA bS jY s1 a6P hu A8;obtain⟨k1',k3',k4',k5',k6',k8',k9'⟩:=aO k1 k3 k4 k5 k6 k8 k9;clear hb WW htr G5 nL oQ nR vF h4 hy1 hy2 hy3 TW AR pF hPl pR bA bS jY s1 a6P hu A8 k1 k3 k4 k5 k6 k8 k9;go_enter Tryz.func190,Tryz.ntmps190;go_upto_region 1 with fail
 try rw[y8.o]
 go_wp2_with fail
 go_loopw [0,15,16] (fun bv lv iv wr=>∃k:Nat,k≤tn∧iv= .int .i64 k∧Hid (PIn n w wr (dvA ta tn tc sa sn sc ba bn bc) (svA la ln lc sat jG lV) bv lv (tO ((d.1.take k).flatMap (AA l o no)) P) ((d.1.take k).map (JS l o no)))) (fun _ _ iv _=>tn - (intOf iv).toNat)
 case atStart=>exact⟨0,by omega,rfl,a81⟩
 case round=>
  obtain⟨k,hk,rfl,hW⟩:=hrel;have d0:=hW.o.bA.cell (i:=0) rfl;by_cases kD:k<tn
  ·have I4:(k:Int)<(tn:Int):=by omega
   have sS:IntKind.i64.wrap ((k:Int)+1)=k+1:=by rw[bF];omega
   obtain⟨b2,o2,rfl,wM,f0,f1,f2,f3,rV⟩:=(b6U.o.mono hW.o.CZ).at kD;have hkd:k<d.1.length:=by rw[V5.o];exact kD
   have hgx:d.1[k]=l8 (ts.getD k yL):=by
    have h1:k<ts.length:=by rw[b6U.o.len];exact kD
    simp only[CW.o,dZ];rw[jO h1]
   have hpt:=a7Y l o no d.1 hkd;have het:=a7Z l o no d.1 hkd;have hk1:=k1'.o _ (bJ hkd);have a9Q:=aZ5.o _ (bJ hkd);have DI:=D8.o _ (bJ hkd);obtain⟨⟨⟨y,t,cn,xa,xn,xc⟩,dd⟩,wO⟩:∃z,ts.getD k yL=z:=⟨_,rfl⟩;rw[wO]at f0 f1 f2 f3 rV hgx;simp only[l8]at f0 f1 f2 f3 rV hgx;rw[hgx]at hpt het hk1 a9Q DI;have hxn:xn≤1000000000:=by have:=rV.nU;have:=hk1.2;simp only at this;omega
   obtain⟨a0,c0,rfl,kJ,_⟩:=hW.o.b;have l9:=aD wr (.cells #[.int .i64 y,.int .i64 t,.int .i64 cn,.slice xa xn xc] 74);have bk:=jW.new wr 74 #[.int .i64 y,.int .i64 t,.int .i64 cn,.slice xa xn xc];obtain⟨W5,hW5⟩:=aC (wr.alloc (.cells #[.int .i64 y,.int .i64 t,.int .i64 cn,.slice xa xn xc] 74));have hs5:W5.heap.size=wr.heap.size+1:=by rw[←hW5];simp
   rw[hW5]at l9 bk;obtain⟨g5,nW⟩:∃g,wr.heap.size=g:=⟨_,rfl⟩;rw[nW]at bk hs5 l9;have hV:=aW0 y t cn xa xn xc dd o W5 (rV.mono (by rw[nW];exact l9)) a9Q hxn DI.1 k7 DI.2;have hri:=aW5 k7 DI.2 DI.1;simp only at hri;obtain⟨r,hr⟩:=aC (XA t cn);rw[hr]at hV hri;have e0:=bk.cell (i:=0) rfl;have e1:=bk.cell (i:=1) rfl;have e2:=bk.cell (i:=2) rfl;have e3:=bk.cell (i:=3) rfl;have bAU:JS l o no (y,t,cn,dd)=(y,t,cn,if r=true then yN (A9 (lT (y,t,cn,dd) o)) 0 4 o else oV l 3 no y):=by unfold JS;rw[hri]
   have bAV:AA l o no (y,t,cn,dd)=if r=true then []else [((oV l 3 no y).toNat,lT (y,t,cn,dd) o)]:=by unfold AA;rw[hri]
   have bMJ:r=false→1≤(lT (y,t,cn,dd) o).length∧Fits l n 3 no y (lT (y,t,cn,dd) o).length:=fun e=>by
    rcases hk1.1 with h|h
    ·rw[hri,e]at h;cases h
    ·exact h
   have aOR:((d.1.take k).map (JS l o no)).length=k:=by rw[bL,dV];omega
   rw[bAU]at het;rw[bAV]at hpt;obtain⟨JF,bOP,a6J,aNQ,bOQ,bFU,aXQ,NC,oL,U2,hV',bW7⟩:=aT rV hgx hpt het hk1 a9Q DI wO l9 bk hV hri;obtain⟨qX,a9P,mR,bUJ,bUK,bKJ,aRS⟩:=aO hr hW5 kJ bAU bAV bMJ hs5;clear rV hgx hpt het hk1 a9Q DI wO l9 bk hV hri hr hW5 kJ bAU bAV bMJ hs5;go_upto_region 6 with fail
   first|rw[a9P.o,nW]|rw[a9P.o]
   go_wp2_with fail
   refine hV'.o.mono ?_;rintro e w6 ⟨x0,x1,x2,x3,rfl,wQ,MS⟩;have hx6:=oL.o.trans (wQ.mono (by have:=aRS.o;omega));have bk6:=U2.o.late wQ;have BN:=aD w6 (.cells #[.int .i64 x0,.int .i64 x1,.int .i64 x2,.int .i64 x3] 55);have bE:=jW.new w6 55 #[.int .i64 x0,.int .i64 x1,.int .i64 x2,.int .i64 x3];obtain⟨W7,U6⟩:=aC (w6.alloc (.cells #[.int .i64 x0,.int .i64 x1,.int .i64 x2,.int .i64 x3] 55));have hs7:W7.heap.size=w6.heap.size+1:=by rw[←U6];simp
   rw[U6]at BN bE;have hx7:=hx6.trans (BN.mono (by have:=hx6.size;omega));have bk7:=bk6.late BN;have hs6:=hx6.size;obtain⟨g7,hg7⟩:∃g,w6.heap.size=g:=⟨_,rfl⟩;rw[hg7]at bE hs7 hs6;clear e0 e1 e2 e3;obtain⟨CB,bJ3,bW8,aL1,LM,KA,aRA,WA,aFL,bW9⟩:=aR wQ hx6 bk6 BN bE hx7 bk7 U6 MS hs7;clear wQ hx6 bk6 BN bE hx7 bk7 U6 MS hs7;have hfl:((d.1.take (k+1)).map (JS l o no)).length=k+1:=by rw[aNQ.o,cO,aOR];rfl
   obtain⟨a9N,aLR⟩:=aJ hfl aOR;clear hfl aOR;cases r with
   |true=>
    have zJ:=hW.o.later (by rw[nW];exact KA.o);have hfe:(d.1.take (k+1)).map (JS l o no)=(d.1.take k).map (JS l o no)++ [(x0,x1,x2,x3)]:=by
     obtain⟨rfl,rfl,rfl,rfl⟩:=aFL.o (by simp);exact aNQ.o
    have hfP:tO ((d.1.take (k+1)).flatMap (AA l o no)) P=tO ((d.1.take k).flatMap (AA l o no)) P:=by
     rw[a6J.o,if_pos rfl,dR]
    obtain⟨FD,bAW,bAX⟩:=aK zJ hfe hfP;clear zJ hfe hfP;go_upto_region 10 with fail
    first|rw[WA.o,hg7]|rw[WA.o]
    have p0:=LM.o.cell (i:=0) rfl;have p1:=LM.o.cell (i:=1) rfl;have p2:=LM.o.cell (i:=2) rfl;have p3:=LM.o.cell (i:=3) rfl;have TJ:=aD W7 (.cells #[.int .i64 x0,.int .i64 x1,.int .i64 x2,.int .i64 x3] 55);have OJ:=FD.o.later TJ;have G6:=OJ.l;rw[aLR.o]at G6;obtain⟨aW7,OL,DN⟩:=aK TJ OJ G6;clear TJ OJ G6;go_wp2_with (at_builtin;refine mU rfl _ _ 154 rfl w.heap.size 55 ei ez 4 32 Tryz.underlying154 xH hz oG qK QG aH _ k _ rfl DN.o ⟨W7.heap.size,0,none⟩ 1 1 (sP (x0,x1,x2,x3)) rfl (Sl.new W7 55 4 1 #[.int .i64 x0,.int .i64 x1,.int .i64 x2,.int .i64 x3] (0,0) aG rfl) (PU _) aG aH OL.o.CZ.size ?_;intro a5 c5 wa ob hga hoa;clear hoa;obtain⟨Ob,Hga⟩:=aJ ob hga;clear ob hga)
    have hob:=Ob.o;rw[←BV,←bAW.o]at hob;have vC:=OL.o.add (by rw[a9N.o];exact hob) Hga.o;rw[←bAX.o]at vC;go_roundw
    case rel=>exact⟨k+1,by omega,by go_num,aA vC⟩
    case measure=>simp[intOf];omega
   |false=>
    obtain⟨hL1,UC⟩:=bKJ.o rfl;have YI:=E8 UC;rw[if_neg aH]at a6J aNQ;obtain⟨q,hq⟩:∃q:Nat,oV l 3 no y=q:=⟨(oV l 3 no y).toNat,by omega⟩;have bKK:g5<g7:=by have:=CB.o.size;have:=aRS.o;omega
    have aW8:=gT nW.symm;obtain⟨Ty,ff,oJ,nK,jK⟩:=lM (fun W=>jW W g5 74 #[.int .i64 y,.int .i64 t,.int .i64 cn,.slice xa xn xc]) W7 aRA.o;have hdr:=(aY W7.heap.size W7).drew;have HS:=aA (jK W7.drew (aRA.o.late hdr));have q0:=fun s=>(nK s).cell (i:=0) rfl;have q1:=fun s=>(nK s).cell (i:=1) rfl;have q2:=fun s=>(nK s).cell (i:=2) rfl;have hxD:=bnx KA.o aW8 hdr;have bED:=LM.o.late hdr;have bkD:=aRA.o.late hdr;obtain⟨wD,qF⟩:=aC W7.drew;rw[qF]at HS hxD bED bkD;have hA:=EA GH H6 J6 l 3 no y wD (NQ.o.mono (bnx hW.o.CZ (aZ _) (by rw[nW];exact hxD)));rw[hq]at hA YI;obtain⟨AB,jF,bAY,bAZ,bB0,hA',bST,a6E,hq',bMK⟩:=aR nK jK hxD bED bkD hA hL1 UC hq hdr;clear nK jK hxD bED bkD hA hL1 UC hq hdr;go_upto_region 8 with fail
    first|rw[WA.o,hg7]|rw[WA.o]
    refine kM (S:=fun W=>∃s,W=ff s) aF 15 rfl ?_;rw[qF];refine jS [0,1,2,3,4,5,6,7,8,9,10,11] 3 aF aI aF aF aF HS.o ?_;simp only[jI,aW,aX,aU,aV];iterate 12 (go_big_quiet_step (fail))
    refine wpQuiet_nil ?_;clear q0 q1 q2 qF;refine jJ 12 2 aF aF ?_;simp only[jI,aW,aX,aU,aV];go_wp2_with fail
    refine hA'.o.mono ?_;rintro e w8 ⟨rfl,J4⟩;have hx8:=bnx bAY.o aW8 J4;have bE8:=bAZ.o.late J4;have bk8:=bB0.o.late J4;obtain⟨HS,a96,aUD,IW,bRT⟩:=aM (jF.o _ bk8) J4 hx8 bE8 bk8;clear J4 hx8 bE8 bk8;go_wp2_with fail
    first|refine Mid.mk ⟨HS.o,?_⟩|refine Mid.mk ?_
    refine jS [13] 1 aF aI aF aF aF HS.o ?_;simp only[jI,aW,aX,aU,aV];iterate 1 (go_big_quiet_step (fail))
    refine wpQuiet_nil ?_;have p0:=IW.o.cell (i:=0) rfl;have p1:=IW.o.cell (i:=1) rfl;have p2:=IW.o.cell (i:=2) rfl;have p3:=IW.o.cell (i:=3) rfl;have y0:=IW.o.frozen 0;have y1:=IW.o.frozen 1;have y2:=IW.o.frozen 2;have y3:=IW.o.frozen 3;refine jJ 14 0 aF aF ?_;simp only[jI,aW,aX,aU,aV];go_wp2_with fail
    have bZ:=(((IW.o.set 0 (.int .i64 y)).set 1 (.int .i64 t)).set 2 (.int .i64 cn)).set 3 (.int .i64 (q:Int));have wR:=((((aY g7 w8).setCell (p:=⟨g7,0,none⟩) (aZ _) (.int .i64 y)).setCell (p:=⟨g7,1,none⟩) (aZ _) (.int .i64 t)).setCell (p:=⟨g7,2,none⟩) (aZ _) (.int .i64 cn)).setCell (p:=⟨g7,3,none⟩) (aZ _) (.int .i64 (q:Int));obtain⟨wZ,hwZ⟩:∃wZ,(((w8.setCell ⟨g7,0,none⟩ (.int .i64 y)).setCell ⟨g7,1,none⟩ (.int .i64 t)).setCell ⟨g7,2,none⟩ (.int .i64 cn)).setCell ⟨g7,3,none⟩ (.int .i64 (q:Int))=wZ:=⟨_,rfl⟩;rw[hwZ]at bZ wR ⊢;have bkZ:jW wZ g5 74 #[.int .i64 y,.int .i64 t,.int .i64 cn,.slice xa xn xc]:=(wR.block _ bKK).trans bRT.o;have hxZ:=aUD.o.trans (wR.mono (iI bKK));have HS:=aA (jF.o _ bkZ);clear p0 p1 p2 p3 y0 y1 y2 y3 hwZ;have zI:=aA wR;clear wR;first|refine Mid.mk ⟨HS.o,?_⟩|refine Mid.mk ?_
    refine jV aF ?_;obtain⟨Ty,ff,oJ,nK,jK⟩:=lM (fun W=>jW W g5 74 #[.int .i64 y,.int .i64 t,.int .i64 cn,.slice xa xn xc]∧jW W g7 55 #[.int .i64 y,.int .i64 t,.int .i64 cn,.int .i64 (q:Int)]) wZ ⟨bkZ,bZ⟩;have hdr:=(aY wZ.heap.size wZ).drew;have HS:=aA (jK wZ.drew ⟨bkZ.late hdr,bZ.late hdr⟩);have q1:∀s,(ff s).cell? ⟨g5,1,none⟩=some (.int .i64 t):=fun s=>(nK s).1.cell rfl;have q2:∀s,(ff s).cell? ⟨g5,2,none⟩=some (.int .i64 cn):=fun s=>(nK s).1.cell rfl;have q3:∀s,(ff s).cell? ⟨g5,3,none⟩=some (.slice xa xn xc):=fun s=>(nK s).1.cell rfl;have q4:∀s,(ff s).cell? ⟨g7,3,none⟩=some (.int .i64 (q:Int)):=fun s=>(nK s).2.cell rfl;have hxD:=bnx hxZ aW8 hdr;have bED:=bZ.late hdr;have bkD:=bkZ.late hdr;obtain⟨wD,qF⟩:=aC wZ.drew;rw[qF]at HS hxD bED bkD;have hB:=a4Q y t cn xa xn xc dd o wD (JF.o.mono (by rw[nW];exact hxD)) hxn;obtain⟨R,hR⟩:=aC (lT (y,t,cn,dd) o);rw[hR]at hB a6J bST;rw[hR]at YI;obtain⟨bZ',bWA,aYR,AB,jF,bAY,bAZ,bB0,hB',bMK,vG⟩:=aS bZ bkZ hxZ nK jK hxD bED bkD hB hdr hR;clear bZ bkZ hxZ nK jK hxD bED bkD hB hdr hR;go_upto_region 9 with fail
    refine kM (S:=fun W=>∃s,W=ff s) aF 9 rfl ?_;rw[qF];refine jS [0,1,2,3,4,5] 3 aF aI aF aF aF HS.o ?_;simp only[jI,aW,aX,aU,aV];iterate 6 (go_big_quiet_step (fail))
    refine wpQuiet_nil ?_;clear q1 q2 q3 q4 qF;refine jJ 6 2 aF aF ?_;simp only[jI,aW,aX,aU,aV];go_wp2_with fail
    refine hB'.o.mono ?_;rintro e w9 ⟨a9,m9,c9,rfl,DK,yB⟩;have hx9:=bnx bAY.o aW8 yB;have bE9:=bAZ.o.late yB;have bk9:=bB0.o.late yB;have hs9:=(Sl.jU DK).1;have YU:m9=R.length:=hs9.nU.symm;have hO:=FV a0 n c0 _ q a9 m9 c9 R w9 (mR.o.mono (by rw[nW];exact hx9)) hs9 hn aG;obtain⟨HS,aGH,tN,a6V,E9,bRU,aIJ,aGU,zZ⟩:=aQ (jF.o _ ⟨bk9,bE9⟩) DK yB hx9 bE9 bk9 hs9 YU hO;clear DK yB hx9 bE9 bk9 hs9 YU hO;go_wp2_with fail
    first|refine Mid.mk ⟨HS.o,?_⟩|refine Mid.mk ?_
    refine jJ 7 1 aF aF ?_;simp only[jI,aW,aX,aU,aV];go_wp2_with fail
    refine zZ.o.mono ?_;rintro e w10 ⟨a10,c10,rfl,WE,CQ⟩;have aIL:=bnx a6V.o aW8 CQ;have bB1:=E9.o.late CQ;have bB6:=bRU.o.late CQ;obtain⟨HS,aF2,a8K,aL4,aLS,bUL⟩:=aN (jF.o _ ⟨bB6,bB1⟩) WE CQ aIL bB1 bB6;clear WE CQ aIL bB1 bB6;go_wp2_with fail
    first|refine Mid.mk ⟨HS.o,?_⟩|refine Mid.mk ?_
    refine jJ 8 0 aF aF ?_;simp only[jI,aW,aX,aU,aV];go_wp2_with fail
    first|refine Mid.mk ⟨HS.o,?_⟩|refine Mid.mk ?_
    refine jV aF ?_;have zJ:=hW.o.put (by rw[nW];exact aL4.o) (kI aF2.o (by rw[nW];have:=a6V.o.size;omega));have hfe:(d.1.take (k+1)).map (JS l o no)=(d.1.take k).map (JS l o no)++ [(y,t,cn,(q:Int))]:=by rw[aNQ.o,hq'.o]
    have hfP:tO ((d.1.take (k+1)).flatMap (AA l o no)) P=splice (tO ((d.1.take k).flatMap (AA l o no)) P) q R:=by
     rw[a6J.o,l6,hq'.o,bM];rfl
    obtain⟨FD,bAW,bAX⟩:=aK zJ hfe hfP;clear zJ hfe hfP;have p0:=aLS.o.cell (i:=0) rfl;have p1:=aLS.o.cell (i:=1) rfl;have p2:=aLS.o.cell (i:=2) rfl;have p3:=aLS.o.cell (i:=3) rfl;have TJ:=aD w10 (.cells #[.int .i64 y,.int .i64 t,.int .i64 cn,.int .i64 (q:Int)] 55);have OJ:=FD.o.later TJ;have G6:=OJ.l;rw[aLR.o]at G6;obtain⟨aW7,OL,DN⟩:=aK TJ OJ G6;clear TJ OJ G6;go_wp2_with (at_builtin;refine mU rfl _ _ 154 rfl w.heap.size 55 ei ez 4 32 Tryz.underlying154 xH hz oG qK QG aH _ k _ rfl DN.o ⟨w10.heap.size,0,none⟩ 1 1 (sP (y,t,cn,(q:Int))) rfl (Sl.new w10 55 4 1 #[.int .i64 y,.int .i64 t,.int .i64 cn,.int .i64 (q:Int)] (0,0) aG rfl) (PU _) aG aH OL.o.CZ.size ?_;intro a5 c5 wa ob hga hoa;clear hoa;obtain⟨Ob,Hga⟩:=aJ ob hga;clear ob hga)
    have hob:=Ob.o;rw[←BV,←bAW.o]at hob;have vC:=OL.o.add (by rw[a9N.o];exact hob) Hga.o;rw[←bAX.o]at vC;go_roundw
    case rel=>exact⟨k+1,by omega,by go_num,aA vC⟩
    case measure=>simp[intOf];omega
  ·obtain rfl:k=tn:=by omega
   have rY:d.1.take k=d.1:=bK (by rw[V5.o];omega);rw[rY]at hW;obtain⟨P1,hP1⟩:=aC (tO (d.1.flatMap (AA l o no)) P);obtain⟨E1,hE1⟩:=aC (d.1.map (JS l o no));rw[hP1,hE1]at hW;have aZ8:E1.length=k:=by rw[←hE1,bL];exact V5.o
   obtain⟨a0,c0,rfl,kJ,_⟩:=hW.o.b;obtain⟨aNR,b6Y,mR,aW9⟩:=aL hP1 hE1 kJ aZ8;clear hP1 hE1 kJ aZ8;clear rY;go_wp2_with fail
   go_loopw [15,20] (fun lv iv wr=>∃j:Nat,j≤sn∧iv= .int .i64 j∧Hid (PIn n w wr (dvA ta k tc sa sn sc ba bn bc) (svA la ln lc sat jG lV) (.slice a0 n c0) lv P1 (E1++II f l d.2.1 no j))) (fun _ iv _=>sn - (intOf iv).toNat)
   case atStart=>
    refine⟨0,by omega,rfl,?_⟩;have e3:E1++II f l d.2.1 no 0=E1:=by simp[II]
    rw[e3];exact hW
   case round=>
    clear hW mR;obtain⟨j,hj,rfl,hW⟩:=hrel;have d1:=hW.o.bA.cell (i:=1) rfl;by_cases kD:j<sn
    ·have I4:(j:Int)<(sn:Int):=by omega
     have sS:IntKind.i64.wrap ((j:Int)+1)=j+1:=by rw[bF];omega
     have hid:j<d.2.1.length:=by rw[rR.o];exact kD
     have nV:j<ds.length:=by rw[sH.o];exact hid
     obtain⟨xb,xo,rfl,wM,fe⟩:=tX.o.elem mJ aH (0,(.slice none 0 0,.slice none 0 0,.slice none 0 0)) kD;rw[jO nV]at fe;obtain⟨OV,_⟩:=oW.o j nV hid;have g0:=fe 0 _ rfl;simp only[bU]at g0;rw[OV]at g0;clear fe;have hun:un=sn:=by have:=hu'.o.nU;rw[bL,gM,rR.o]at this;exact this.symm
     obtain⟨ub,uo,rfl,bKL,hcu⟩:=hu'.o.at (i:=j) aG;have hu0:=hcu j _ (oP (by rw[bL,gM];exact hid));have hgu:((List.range d.2.1.length).map (qH f d.2.1 no)).getD j 0=qH f d.2.1 no j:=by
      rw[jO (by rw[bL,gM];exact hid)];simp
     rw[hgu]at hu0;have J7:=a7W f l d.2.1 no j;have hEx:aZ3 f l d.2.1 no j=((d.2.1.getD j (0,lY f)).1,4,1,oV l 2 (qH f d.2.1 no j) 0):=rfl;rw[jO hid]at hEx;rw[hEx]at J7;generalize d.2.1[j].1=y at g0 J7;generalize qH f d.2.1 no j=ns at hu0 J7;have hA:=fun W (h:Below w.heap.size w W)=>EA GH H6 J6 l 2 ns 0 W (NQ.o.mono h);generalize oV l 2 ns 0=q at hA J7;have aOR:(E1++II f l d.2.1 no j).length=k+j:=by rw[cO,aW9.o,O0]
     have b3T:(E1++II f l d.2.1 no (j+1)).length=k+(j+1):=by rw[cO,aW9.o,O0]
     have hdr:=(aY wr.heap.size wr).drew;have EB:=hW.o.later hdr;obtain⟨Ty,ff,oJ,nK,jK⟩:=lM (fun W=>Below w.heap.size w W∧jW W w.heap.size 26 (dvA ta k tc (some ⟨xb,xo,none⟩) sn sc ba bn bc)) wr ⟨hW.o.CZ,hW.o.bA⟩;have HS:=aA (jK wr.drew ⟨EB.CZ,EB.bA⟩);have q1:∀s,(ff s).cell? ⟨w.heap.size,1,none⟩=some (.slice (some ⟨xb,xo,none⟩) sn sc):=fun s=>(nK s).2.cell rfl;have q2:∀s,(ff s).cell? ⟨xb,xo+j*4,none⟩=some (.int .i64 y):=fun s=>late (nK s).1 wM g0;have q3:∀s,(ff s).cell? ⟨ub,uo+j,none⟩=some (.int .i64 ns):=fun s=>late (nK s).1 bKL hu0;obtain⟨wD,qF⟩:=aC wr.drew;rw[qF]at HS EB;obtain⟨rfl⟩:=hun;obtain⟨AB,jF,WG,hA',aNS,aLR,bB7,aNN,bMK⟩:=aQ nK jK EB hA J7 aOR b3T OV hdr;clear nK jK EB hA J7 aOR b3T OV hdr;clear hcu hgu hEx g0 hu0;go_upto_region 14 with fail
     refine kM (S:=fun W=>∃s,W=ff s) aF 17 rfl ?_;rw[qF];refine jS [0,1,2,3,4,5,6,7,8,9,10,11] 5 aF aI aF aF aF HS.o ?_;simp only[jI,aW,aX,aU,aV];iterate 12 (go_big_quiet_step (fail))
     refine wpQuiet_nil ?_;clear q1 q2 q3 qF d1;refine jJ 12 4 aF aF ?_;simp only[jI,aW,aX,aU,aV];go_wp2_with fail
     refine(hA'.o wD WG.o.CZ).mono ?_;rintro e w8 ⟨rfl,J4⟩;have IJ:=WG.o.later J4;obtain⟨HS,FH,a96⟩:=aK (jF.o _ ⟨IJ.CZ,IJ.bA⟩) IJ J4;clear IJ J4;go_wp2_with fail
     first|refine Mid.mk ⟨HS.o,?_⟩|refine Mid.mk ?_
     refine jS [13] 3 aF aI aF aF aF HS.o ?_;simp only[jI,aW,aX,aU,aV];iterate 1 (go_big_quiet_step (fail))
     refine wpQuiet_nil ?_;have TJ:=aD w8 (.cells #[.int .i64 y,.int .i64 4,.int .i64 1,.int .i64 q] 55);have OJ:=FH.o.later TJ;have G6:=OJ.l;rw[aLR.o]at G6;obtain⟨HS,aW7,OL,DN⟩:=aL (jF.o _ ⟨OJ.CZ,OJ.bA⟩) TJ OJ G6;clear TJ OJ G6;refine jJ 14 2 aF aF ?_;simp only[jI,aW,aX,aU,aV];go_wp2_with fail
     first|refine Mid.mk ⟨HS.o,?_⟩|refine Mid.mk ?_
     refine jJ 15 1 aF aF ?_;simp only[jI,aW,aX,aU,aV];go_wp2_with (at_builtin;refine mU rfl _ _ 154 rfl w.heap.size 55 ei ez 4 32 Tryz.underlying154 xH hz oG qK QG aH _ (k+j) _ rfl DN.o ⟨w8.heap.size,0,none⟩ 1 1 (sP (y,4,1,q)) rfl (Sl.new w8 55 4 1 #[.int .i64 y,.int .i64 4,.int .i64 1,.int .i64 q] (0,0) aG rfl) (PU _) aG aH OL.o.CZ.size ?_;intro a5 c5 wa ob hga hoa;clear hoa;obtain⟨Ob,Hga⟩:=aJ ob hga;clear ob hga)
     have hob:=Ob.o;rw[←BV,dH,←aNS.o]at hob;have vC:=OL.o.add (by rw[bB7.o];exact hob) Hga.o;obtain⟨HS,R8⟩:=aJ (jF.o _ ⟨vC.CZ,vC.bA⟩) vC;clear vC;first|refine Mid.mk ⟨HS.o,?_⟩|refine Mid.mk ?_
     refine jJ 16 0 aF aF ?_;simp only[jI,aW,aX,aU,aV];go_wp2_with fail
     first|refine Mid.mk ⟨HS.o,?_⟩|refine Mid.mk ?_
     refine jV aF ?_;go_wp2_with fail
     go_roundw
     case rel=>exact⟨j+1,by omega,by go_num,R8⟩
     case measure=>simp[intOf];omega
    ·obtain rfl:j=sn:=by omega
     have aLT:E1++II f l d.2.1 no j++DR l (lS,sat,jG,lV) d.2.2 no=pE f l o no (lS,sat,jG,lV) d:=by
      unfold pE;rw[b6Y.o,rR.o]
     obtain⟨E2,hE2⟩:=aC (E1++II f l d.2.1 no j);rw[hE2]at hW aLT;have b7C:E2.length=k+j:=by rw[←hE2,cO,aW9.o,O0]
     have hel:=PG f l o no (lS,sat,jG,lV) d;rw[V5.o,rR.o,DY.o]at hel;obtain⟨a0',c0',hv0,kJ,_⟩:=hW.o.b;injection hv0 with bRV bWB bRW;subst bRV bRW;obtain⟨E3,hE3⟩:=aC (pE f l o no (lS,sat,jG,lV) d);rw[hE3]at aLT hel;have d2:=hW.o.bA.cell (i:=2) rfl;obtain⟨bP2,a3C,mR,a4R,b3U,a97⟩:=aN hE2 hE3 kJ aLT b7C hel;clear hE2 hE3 kJ aLT b7C hel
     go_upto_region 15 with fail
     clear d1;by_cases pW:0<bn
     ·have e1:decide ((0:Int)<(bn:Int))=true:=by simp;omega
      have JH:0<d.2.2.length:=by rw[DY.o];exact pW
      have U1:=k3'.o JH;rw[DY.o]at U1;have YI:=E8 U1;obtain⟨q4,hq4⟩:∃q:Nat,oV l 4 no 0=q:=⟨(oV l 4 no 0).toNat,by omega⟩;have hA:=EA GH H6 J6 l 4 no 0 wr (NQ.o.mono hW.o.CZ);rw[hq4]at hA YI;have hbe:DR l (lS,sat,jG,lV) d.2.2 no= [(sat,4,1,(q4:Int)),(jG,4,1,(bn:Int))]:=by
       unfold DR;rw[if_pos JH,hq4,DY.o]
      have hbp:zV l d.2.2 no= [(q4,d.2.2)]:=by
       unfold zV;rw[if_pos JH,hq4,bM]
      rw[hbe]at a4R;obtain⟨bDJ,hA',bNV,bRX,bWC⟩:=aM U1 hA hbe hbp hq4;clear U1 hA hbe hbp hq4;go_wp2_with fail
      refine hA'.o.mono ?_;rintro e w2 ⟨rfl,jT⟩;have rD:=hW.o.later jT;have hO:=FV _ n _ P1 q4 ba bn bc d.2.2 w2 (mR.o.mono jT) (tL.o.mono rD.CZ) hn aG;have d2:=rD.bA.cell (i:=2) rfl;obtain⟨mE,H7,zZ⟩:=aK jT rD hO;clear jT rD hO;go_wp2_with fail
      refine zZ.o.mono ?_;rintro e w3 ⟨a3,c3,rfl,PZ,jQ⟩;have zB:=H7.o.put jQ PZ;have d2:=zB.bA.cell (i:=2) rfl;have s1:=zB.bS.cell (i:=1) rfl;have s2:=zB.bS.cell (i:=2) rfl;obtain⟨P3,MU⟩:=aC (splice P1 q4 d.2.2);rw[MU]at zB;have TJ:=aD w3 (.cells #[.int .i64 sat,.int .i64 4,.int .i64 1,.int .i64 (q4:Int),.int .i64 jG,.int .i64 4,.int .i64 1,.int .i64 (bn:Int)] 55);have OJ:=zB.later TJ;have G6:=OJ.l;rw[b3U.o]at G6;have aJO:∀u∈fl sP [(sat,4,1,(q4:Int)),(jG,4,1,(bn:Int))],u.oneCell'=true:=aQE PU;obtain⟨qN,NA,aD0,a9T,aW7,OL,DN,aXK⟩:=aP jQ PZ zB MU TJ OJ G6 aJO;clear jQ PZ zB MU TJ OJ G6 aJO;go_upto_region 19 with (at_builtin;refine mU rfl _ _ 154 rfl w.heap.size 55 ei ez 4 32 Tryz.underlying154 xH hz oG qK QG aH _ (k+j) _ rfl DN.o ⟨w3.heap.size,0,none⟩ 2 2 (fl sP [(sat,4,1,(q4:Int)),(jG,4,1,(bn:Int))]) rfl (Sl.new w3 55 4 2 #[.int .i64 sat,.int .i64 4,.int .i64 1,.int .i64 (q4:Int),.int .i64 jG,.int .i64 4,.int .i64 1,.int .i64 (bn:Int)] (0,0) aG rfl) aXK.o aG aH OL.o.CZ.size ?_;intro a5 c5 wa ob hga hoa;clear hoa;obtain⟨Ob,Hga⟩:=aJ ob hga;clear ob hga)
      clear d2 s1 s2;have hob:=Ob.o;rw[←JI,a4R.o]at hob;have bRY:E3.length=k+j+2:=by rw[←a4R.o,cO,b3U.o];rfl
      have vC:=OL.o.add (es2:=E3) (by rw[bRY];exact hob) Hga.o;obtain⟨lv,hlv⟩:=aC (Value.slice a5 (k+j+2) c5);have hPt:tO (a3P f l o no (lS,sat,jG,lV) d) P=tO (((oV l 2 no 0).toNat,kZ (E3.length:Nat) 2 o)::JZ (oV l 2 no 0).toNat o E3 E3.length) P3:=by
       unfold a3P;rw[a3C.o,l6,l6,aNR.o,bRX.o];show tO _ (splice P1 q4 d.2.2)=_
       rw[a9T.o]
      rw[hlv]at vC;obtain⟨LZ,a9S⟩:=aJ vC hPt;clear hPt;try rw[hlv]
      clear hlv hob vC;obtain⟨m,hm⟩:=aC E3.length;obtain⟨av,cv,rfl⟩:∃a c,lv= .slice a m c:=by
       rcases LZ.o.l.2 with ⟨rfl,h0⟩|⟨g,cap,cur,rfl,_⟩
       ·exact⟨none,0,by rw[←hm,h0]⟩
       ·exact⟨_,_,by rw[hm]⟩
      have hk5:=k5'.o;have hk6:=k6'.o;have hk4:=k4'.o;have hk9:=k9'.o;rw[a3C.o,hm]at hk5 hk6;rw[a3C.o,hm]at hk4;rw[a3C.o]at hk9;have YI:=E8 hk4;obtain⟨q,hq⟩:∃q:Nat,oV l 2 no 0=q:=⟨(oV l 2 no 0).toNat,by omega⟩;have hA:=EA GH H6 J6 l 2 no 0 wa (NQ.o.mono LZ.o.CZ);rw[hq]at hA YI;obtain⟨a3,c3,hv3,aWA,_⟩:=LZ.o.b;injection hv3 with hv31 hv32 bB8;subst hv31 bB8;have AU:lZ (m:Int) 2 o=true:=(lU k7).2 (by rw[show rF 2=65536 by decide];omega)
      have hPh:tO (((oV l 2 no 0).toNat,kZ (E3.length:Nat) 2 o)::JZ (oV l 2 no 0).toNat o E3 E3.length) P3=tO (JZ q o E3 m) (splice P3 q (kZ (m:Int) 2 o)):=by
       rw[hq,bM,hm];rfl
      obtain⟨EN,bRZ,bB9,hq',hA',aWB,aHD⟩:=aO hm hk4 hk9 hq hA aWA hPh;clear hm hk4 hk9 hq hA aWA hPh;go_wp2_with fail
      refine hA'.o.mono ?_;rintro e w2 ⟨rfl,jT⟩;have rD:=LZ.o.later jT;have hN:=xA _ n _ P3 q (m:Int) 2 o w2 (aWB.o.mono jT) hn AU (by rw[show(2:Int).toNat=2 from rfl];omega);obtain⟨mE,H7,YD,a6Z⟩:=aL jT rD hN AU;clear jT rD hN AU;go_wp2_with fail
      refine YD.o.mono ?_;rintro e w3 ⟨a4,c4,rfl,ET,mF⟩;have yS:=H7.o.put mF ET;obtain⟨P4,hP4⟩:=aC (splice P3 q (kZ (m:Int) 2 o));rw[hP4]at yS aHD ET;obtain⟨rT,ZR,QZ,b7G⟩:=aL mF ET yS hP4;clear mF ET yS hP4;go_wp2_with fail
      go_loopw [0,23] (fun bv iv wr=>∃i:Nat,i≤m∧iv= .int .i64 i∧Hid (PIn n w wr (dvA ta k tc sa j sc ba bn bc) (svA la ln lc sat jG lV) bv (.slice av m cv) (tO (JZ q o E3 i) P4) E3)∧Hid (∃a c,bv= .slice a n c∧((∃B,w.heap.size≤B∧wr.ownsRow B 5 1 bv n (ints .u8 (tO (JZ q o E3 i) P4)))))) (fun _ iv _=>m - (intOf iv).toNat)
      case atStart=>exact⟨0,by omega,rfl,QZ,aA ⟨a4,c4,rfl,_,H7.o.CZ.size,ZR.o⟩⟩
      case round=>
       obtain⟨i,hi,rfl,hW,hO⟩:=hrel;by_cases kD:i<m
       ·have I4:(i:Int)<(m:Int):=by omega
        have sS:IntKind.i64.wrap ((i:Int)+1)=i+1:=by rw[bF];omega
        have hiE:i<E3.length:=by rw[EN.o];exact kD
        have hrs:=a8G q o E3 i;have hxo:DL (E3.getD i yH) o=true:=by rw[jO hiE];exact bB9.o _ (bJ hiE)
        have l9:=XQ hiE;rw[EN.o]at l9;obtain⟨A,hA⟩:=aC (vE E3 (E3.getD i yH));have hAd:A=((E3.take m).filter fun y=>decide (y.1<(E3.getD i yH).1)).length:=by rw[←hA,bK (by rw[EN.o];exact aZ _)];rfl
        rw[hA]at hrs l9;obtain⟨a5,c5,rfl,KL⟩:=hO.o;have SB:=(Sl.jU hW.o.l).1;obtain⟨b6,o6,hav,JW,fe⟩:=SB.elem rG aH yH kD;have f0:=fe 0 _ rfl;have f1:=fe 1 _ rfl;have f2:=fe 2 _ rfl;have f3:=fe 3 _ rfl;simp only[bU]at f0 f1 f2 f3;clear fe;obtain⟨⟨x0,x1,x2,x3⟩,hx⟩:∃x,E3.getD i yH=x:=⟨_,rfl⟩;rw[hx]at f0 f1 f2 f3 hrs hxo hAd;simp only at f0 f1 f2 f3 hAd;subst hav;obtain⟨a9U,aHF,hA',TR,bBA,aA7,aD4⟩:=aO hrs hxo hA hx hAd KL SB;clear hrs hxo hA hx hAd KL SB;go_wp2_with fail
        go_loopw [24,25] (fun cv2 kv w5=>∃(k2 c2:Nat),k2≤m∧c2≤k2∧kv= .int .i64 k2∧cv2= .int .i64 c2∧Hid (c2=((E3.take k2).filter fun y=>decide (y.1<x0)).length)∧Hid (Below wr.heap.size wr w5)) (fun _ kv _=>m - (intOf kv).toNat)
        case atStart=>exact⟨0,0,by omega,aZ _,rfl,rfl,aA (by simp),aA (aY _ _)⟩
        case round=>
         obtain⟨k2,c2,hk2,hc2,rfl,rfl,aJR,IB⟩:=hrel;have g0:=late IB.o JW f0;have g1:=late IB.o JW f1;have g2:=late IB.o JW f2;have g3:=late IB.o JW f3;by_cases QH:k2<m
         ·have bS0:(k2:Int)<(m:Int):=by omega
          have MQ:IntKind.i64.wrap ((k2:Int)+1)=k2+1:=by rw[bF];omega
          have HY:IntKind.i64.wrap ((c2:Int)+1)=c2+1:=by rw[bF];omega
          have hkE:k2<E3.length:=by rw[EN.o];exact QH
          have vI:=K5 (p:=fun y=>decide (y.1<x0)) hkE;obtain⟨b7,o7,hav,bKM,fe⟩:=aD4.o.elem rG aH yH QH;injection hav with hav;injection hav with bBB bBC;subst bBB bBC;have y0:=fe 0 _ rfl;simp only[bU]at y0;have y0:=late IB.o JW y0;clear fe;obtain⟨z,sN⟩:∃z,(E3.getD k2 yH).1=z:=⟨_,rfl⟩;rw[sN]at y0;simp only[sN]at vI;obtain⟨r,hr⟩:=aC (decide (z<x0));rw[hr]at vI;clear g1 g2 g3;obtain⟨zN,bMG⟩:=aJ vI sN;clear vI sN
          cases r with
          |true=>
           go_wp2_with fail
           go_quiet (fail)
           go_wp2_with fail
           go_roundw
           case rel=>exact⟨k2+1,c2+1,by omega,by omega,by go_num,by go_num,aA (by rw[zN.o,←aJR.o];rfl),aA (below_drewN IB.o _)⟩
           case measure=>simp[intOf];omega
          |false=>
           go_wp2_with fail
           go_quiet (fail)
           go_wp2_with fail
           go_roundw
           case rel=>exact⟨k2+1,c2,by omega,by omega,by go_num,rfl,aA (by rw[zN.o,←aJR.o];rfl),aA (below_drewN IB.o _)⟩
           case measure=>simp[intOf];omega
         ·obtain rfl:k2=m:=by omega
          obtain rfl:c2=A:=by rw[aJR.o,bBA.o]
          have hW5:=hW.o.later IB.o;have hEw:=ZH x0 x1 x2 x3 o wr aHF.o;have hwq:IntKind.i64.wrap (12*(c2:Int))=12*c2:=by rw[bF];omega
          have bS1:IntKind.i64.wrap ((q:Int)+2)=q+2:=by rw[bF];omega
          have bS2:IntKind.i64.wrap ((q:Int)+2+12*c2)=((q+2+12*c2:Nat):Int):=by rw[bF];omega
          obtain⟨a9P,aHG⟩:=aJ hW5 hEw;clear hW5 hEw;go_wp2_with fail
          refine aHG.o.mono ?_;rintro e w7 ⟨a7,c7,rfl,ho7,rE⟩;have U6:=a9P.o.later rE;obtain⟨a8,c8,hv8,aJ6,_⟩:=U6.b;injection hv8 with h81 h82 h83;subst h81 h83;have hO:=FV _ n _ _ (q+2+12*c2) a7 12 c7 _ w7 aJ6 (Sl.jU ho7).1 hn aG;clear g0 g1 g2 g3;obtain⟨aD5,a2E,WA,bKN,zZ⟩:=aM ho7 rE U6 aJ6 hO;clear ho7 rE U6 aJ6 hO
          go_wp2_with fail
          refine zZ.o.mono ?_;rintro e w9 ⟨a9,c9,rfl,DK,yB⟩;have hW9:=WA.o.put yB DK;have aWC:w9.ownsRow w7.heap.size 5 1 (.slice a9 n c9) n (ints .u8 (tO (JZ q o E3 (i+1)) P4)):=by rw[a9U.o,l6];exact DK
          have aWD:PIn n w w9 (dvA ta k tc sa j sc ba bn bc) (svA la ln lc sat jG lV) (.slice a9 n c9) (.slice (some ⟨b6,o6,none⟩) k2 cv) (tO (JZ q o E3 (i+1)) P4) E3:=by rw[a9U.o,l6];exact hW9
          obtain⟨aGH,tN,bS3,aWE,aWF⟩:=aM DK yB hW9 aWC aWD;clear DK yB hW9 aWC aWD;go_wp2_with fail
          go_roundw
          case rel=>exact⟨i+1,by omega,by go_num,aWF,aA ⟨a9,c9,rfl,_,WA.o.CZ.size,aWE.o⟩⟩
          case measure=>simp[intOf];omega
       ·obtain rfl:i=m:=by omega
        obtain⟨a5,c5,rfl,B5,hB5,KL⟩:=hO.o;go_wp2_with fail
        go_ret;refine⟨a5,c5,rfl,?_,hW.o.CZ⟩;rw[a9S.o,aHD.o];exact kI KL hB5
     ·have e1:decide ((0:Int)<(bn:Int))=false:=by simp;omega
      have JH:¬0<d.2.2.length:=by rw[DY.o];exact pW
      have hbe:DR l (lS,sat,jG,lV) d.2.2 no= []:=by unfold DR;rw[if_neg JH]
      have hbp:zV l d.2.2 no= []:=by unfold zV;rw[if_neg JH]
      rw[hbe,dR]at a4R;have bS5:E3=E2:=a4R.o.symm;subst bS5;have hPt:tO (a3P f l o no (lS,sat,jG,lV) d) P=tO (((oV l 2 no 0).toNat,kZ (E3.length:Nat) 2 o)::JZ (oV l 2 no 0).toNat o E3 E3.length) P1:=by
       unfold a3P;rw[a3C.o,l6,l6,aNR.o,hbp];rfl
      obtain⟨P3,rfl⟩:∃P3,P3=P1:=⟨_,rfl⟩;obtain⟨lv,rfl⟩:∃lv,lv=u15:=⟨_,rfl⟩;have LZ:=hW;clear hbe;have a9S:=aA hPt;clear hPt;obtain⟨m,hm⟩:=aC E3.length;obtain⟨av,cv,rfl⟩:∃a c,lv= .slice a m c:=by
       rcases LZ.o.l.2 with ⟨rfl,h0⟩|⟨g,cap,cur,rfl,_⟩
       ·exact⟨none,0,by rw[←hm,h0]⟩
       ·exact⟨_,_,by rw[hm]⟩
      have hk5:=k5'.o;have hk6:=k6'.o;have hk4:=k4'.o;have hk9:=k9'.o;rw[a3C.o,hm]at hk5 hk6;rw[a3C.o,hm]at hk4;rw[a3C.o]at hk9;have YI:=E8 hk4;obtain⟨q,hq⟩:∃q:Nat,oV l 2 no 0=q:=⟨(oV l 2 no 0).toNat,by omega⟩;have hA:=EA GH H6 J6 l 2 no 0 wr (NQ.o.mono LZ.o.CZ);rw[hq]at hA YI;obtain⟨a3,c3,hv3,aWA,_⟩:=LZ.o.b;injection hv3 with hv31 hv32 bB8;subst hv31 bB8;have AU:lZ (m:Int) 2 o=true:=(lU k7).2 (by rw[show rF 2=65536 by decide];omega)
      have hPh:tO (((oV l 2 no 0).toNat,kZ (E3.length:Nat) 2 o)::JZ (oV l 2 no 0).toNat o E3 E3.length) P3=tO (JZ q o E3 m) (splice P3 q (kZ (m:Int) 2 o)):=by
       rw[hq,bM,hm];rfl
      obtain⟨EN,bRZ,bB9,hq',hA',aWB,aHD⟩:=aO hm hk4 hk9 hq hA aWA hPh;clear hm hk4 hk9 hq hA aWA hPh;go_wp2_with fail
      refine hA'.o.mono ?_;rintro e w2 ⟨rfl,jT⟩;have rD:=LZ.o.later jT;have hN:=xA _ n _ P3 q (m:Int) 2 o w2 (aWB.o.mono jT) hn AU (by rw[show(2:Int).toNat=2 from rfl];omega);obtain⟨mE,H7,YD,a6Z⟩:=aL jT rD hN AU;clear jT rD hN AU;go_wp2_with fail
      refine YD.o.mono ?_;rintro e w3 ⟨a4,c4,rfl,ET,mF⟩;have yS:=H7.o.put mF ET;obtain⟨P4,hP4⟩:=aC (splice P3 q (kZ (m:Int) 2 o));rw[hP4]at yS aHD ET;obtain⟨rT,ZR,QZ,b7G⟩:=aL mF ET yS hP4;clear mF ET yS hP4;go_wp2_with fail
      go_loopw [0,23] (fun bv iv wr=>∃i:Nat,i≤m∧iv= .int .i64 i∧Hid (PIn n w wr (dvA ta k tc sa j sc ba bn bc) (svA la ln lc sat jG lV) bv (.slice av m cv) (tO (JZ q o E3 i) P4) E3)∧Hid (∃a c,bv= .slice a n c∧((∃B,w.heap.size≤B∧wr.ownsRow B 5 1 bv n (ints .u8 (tO (JZ q o E3 i) P4)))))) (fun _ iv _=>m - (intOf iv).toNat)
      case atStart=>exact⟨0,by omega,rfl,QZ,aA ⟨a4,c4,rfl,_,H7.o.CZ.size,ZR.o⟩⟩
      case round=>
       obtain⟨i,hi,rfl,hW,hO⟩:=hrel;by_cases kD:i<m
       ·have I4:(i:Int)<(m:Int):=by omega
        have sS:IntKind.i64.wrap ((i:Int)+1)=i+1:=by rw[bF];omega
        have hiE:i<E3.length:=by rw[EN.o];exact kD
        have hrs:=a8G q o E3 i;have hxo:DL (E3.getD i yH) o=true:=by rw[jO hiE];exact bB9.o _ (bJ hiE)
        have l9:=XQ hiE;rw[EN.o]at l9;obtain⟨A,hA⟩:=aC (vE E3 (E3.getD i yH));have hAd:A=((E3.take m).filter fun y=>decide (y.1<(E3.getD i yH).1)).length:=by rw[←hA,bK (by rw[EN.o];exact aZ _)];rfl
        rw[hA]at hrs l9;obtain⟨a5,c5,rfl,KL⟩:=hO.o;have SB:=(Sl.jU hW.o.l).1;obtain⟨b6,o6,hav,JW,fe⟩:=SB.elem rG aH yH kD;have f0:=fe 0 _ rfl;have f1:=fe 1 _ rfl;have f2:=fe 2 _ rfl;have f3:=fe 3 _ rfl;simp only[bU]at f0 f1 f2 f3;clear fe;obtain⟨⟨x0,x1,x2,x3⟩,hx⟩:∃x,E3.getD i yH=x:=⟨_,rfl⟩;rw[hx]at f0 f1 f2 f3 hrs hxo hAd;simp only at f0 f1 f2 f3 hAd;subst hav;obtain⟨a9U,aHF,hA',TR,bBA,aA7,aD4⟩:=aO hrs hxo hA hx hAd KL SB;clear hrs hxo hA hx hAd KL SB;go_wp2_with fail
        go_loopw [24,25] (fun cv2 kv w5=>∃(k2 c2:Nat),k2≤m∧c2≤k2∧kv= .int .i64 k2∧cv2= .int .i64 c2∧Hid (c2=((E3.take k2).filter fun y=>decide (y.1<x0)).length)∧Hid (Below wr.heap.size wr w5)) (fun _ kv _=>m - (intOf kv).toNat)
        case atStart=>exact⟨0,0,by omega,aZ _,rfl,rfl,aA (by simp),aA (aY _ _)⟩
        case round=>
         obtain⟨k2,c2,hk2,hc2,rfl,rfl,aJR,IB⟩:=hrel;have g0:=late IB.o JW f0;have g1:=late IB.o JW f1;have g2:=late IB.o JW f2;have g3:=late IB.o JW f3;by_cases QH:k2<m
         ·have bS0:(k2:Int)<(m:Int):=by omega
          have MQ:IntKind.i64.wrap ((k2:Int)+1)=k2+1:=by rw[bF];omega
          have HY:IntKind.i64.wrap ((c2:Int)+1)=c2+1:=by rw[bF];omega
          have hkE:k2<E3.length:=by rw[EN.o];exact QH
          have vI:=K5 (p:=fun y=>decide (y.1<x0)) hkE;obtain⟨b7,o7,hav,bKM,fe⟩:=aD4.o.elem rG aH yH QH;injection hav with hav;injection hav with bBB bBC;subst bBB bBC;have y0:=fe 0 _ rfl;simp only[bU]at y0;have y0:=late IB.o JW y0;clear fe;obtain⟨z,sN⟩:∃z,(E3.getD k2 yH).1=z:=⟨_,rfl⟩;rw[sN]at y0;simp only[sN]at vI;obtain⟨r,hr⟩:=aC (decide (z<x0));rw[hr]at vI;clear g1 g2 g3;obtain⟨zN,bMG⟩:=aJ vI sN;clear vI sN
          cases r with
          |true=>
           go_wp2_with fail
           go_quiet (fail)
           go_wp2_with fail
           go_roundw
           case rel=>exact⟨k2+1,c2+1,by omega,by omega,by go_num,by go_num,aA (by rw[zN.o,←aJR.o];rfl),aA (below_drewN IB.o _)⟩
           case measure=>simp[intOf];omega
          |false=>
           go_wp2_with fail
           go_quiet (fail)
           go_wp2_with fail
           go_roundw
           case rel=>exact⟨k2+1,c2,by omega,by omega,by go_num,rfl,aA (by rw[zN.o,←aJR.o];rfl),aA (below_drewN IB.o _)⟩
           case measure=>simp[intOf];omega
         ·obtain rfl:k2=m:=by omega
          obtain rfl:c2=A:=by rw[aJR.o,bBA.o]
          have hW5:=hW.o.later IB.o;have hEw:=ZH x0 x1 x2 x3 o wr aHF.o;have hwq:IntKind.i64.wrap (12*(c2:Int))=12*c2:=by rw[bF];omega
          have bS1:IntKind.i64.wrap ((q:Int)+2)=q+2:=by rw[bF];omega
          have bS2:IntKind.i64.wrap ((q:Int)+2+12*c2)=((q+2+12*c2:Nat):Int):=by rw[bF];omega
          obtain⟨a9P,aHG⟩:=aJ hW5 hEw;clear hW5 hEw;go_wp2_with fail
          refine aHG.o.mono ?_;rintro e w7 ⟨a7,c7,rfl,ho7,rE⟩;have U6:=a9P.o.later rE;obtain⟨a8,c8,hv8,aJ6,_⟩:=U6.b;injection hv8 with h81 h82 h83;subst h81 h83;have hO:=FV _ n _ _ (q+2+12*c2) a7 12 c7 _ w7 aJ6 (Sl.jU ho7).1 hn aG;clear g0 g1 g2 g3;obtain⟨aD5,a2E,WA,bKN,zZ⟩:=aM ho7 rE U6 aJ6 hO;clear ho7 rE U6 aJ6 hO
          go_wp2_with fail
          refine zZ.o.mono ?_;rintro e w9 ⟨a9,c9,rfl,DK,yB⟩;have hW9:=WA.o.put yB DK;have aWC:w9.ownsRow w7.heap.size 5 1 (.slice a9 n c9) n (ints .u8 (tO (JZ q o E3 (i+1)) P4)):=by rw[a9U.o,l6];exact DK
          have aWD:PIn n w w9 (dvA ta k tc sa j sc ba bn bc) (svA la ln lc sat jG lV) (.slice a9 n c9) (.slice (some ⟨b6,o6,none⟩) k2 cv) (tO (JZ q o E3 (i+1)) P4) E3:=by rw[a9U.o,l6];exact hW9
          obtain⟨aGH,tN,bS3,aWE,aWF⟩:=aM DK yB hW9 aWC aWD;clear DK yB hW9 aWC aWD;go_wp2_with fail
          go_roundw
          case rel=>exact⟨i+1,by omega,by go_num,aWF,aA ⟨a9,c9,rfl,_,WA.o.CZ.size,aWE.o⟩⟩
          case measure=>simp[intOf];omega
       ·obtain rfl:i=m:=by omega
        obtain⟨a5,c5,rfl,B5,hB5,KL⟩:=hO.o;go_wp2_with fail
        go_ret;refine⟨a5,c5,rfl,?_,hW.o.CZ⟩;rw[a9S.o,aHD.o];exact kI KL hB5
