import Derived.Test.YtceclmpmpldmlaaGreatCw13
set_option linter.unusedSimpArgs false
set_option linter.unusedVariables false
set_option maxRecDepth 100000
set_option maxHeartbeats 8000000
namespace Go.Proofs.YtceclmpmpldmlaaGreat
open Go.RowKit Tt
theorem rQ {n s o:Int} (h:mH n s o=true):(lQ n s o).length=s.toNat:=by
 unfold lQ;rw[if_pos h];split <;> simp[RS]
def X9 (x:oJ) (o k:Int):List Int:=
 if k=0 then []else if k=1 then lQ x.1 2 o else if k=2 then lQ x.1 2 o++lQ x.2.1 2 o else if k=3 then lQ x.1 2 o++lQ x.2.1 2 o++lQ x.2.2.1 4 o else JO x o
def a1Y (k:Int):Nat:=if k=0 then 0 else if k=1 then 2 else if k=2 then 4 else if k=3 then 8 else 12
theorem aU1:(Tryz.prog.info? 5).map (fun i=>(i.zero,i.size,i.bytes))=some (some (.int .u8 0),1,1):=by kernel_rfl
theorem oV {w:World} {B:Nat} {E T:TypeId} {sz:Nat} {v:Value} {n g:Nat} {xs:List Value} {cs:Array Value} (h:w.ownsRow B E sz v n xs) (hb:kG w g T cs) (hE:E≠T):v.ownBlock≠some g:=fun e=>by
 rcases h.2 with ⟨rfl,_⟩|⟨g',cap,cur,rfl,_,hg,_⟩
 ·cases e
 ·obtain rfl:g'=g:=by injection e
  unfold kG at hb;rw[hb]at hg;injection hg with hg;injection hg with h1 h2;exact hE h2.symm
theorem a4O (x0 x1 x2 x3 o:Int) (w:World) (wP:JZ (x0,x1,x2,x3) o=true):
  Calls Tryz.prog 98 #[.agg #[.int .i64 x0,.int .i64 x1,.int .i64 x2,.int .i64 x3],.int .i64 o] w fun e w'=>∃a c,e= .returned (.tuple #[.slice a 12 c,.bool true])∧w'.ownsRow w.heap.size 5 1 (.slice a 12 c) 12 (ints .u8 (JO (x0,x1,x2,x3) o))∧Below w.heap.size w w':=by
 obtain⟨i0,hi,yZ,qC,wY⟩:=info_parts aU1;unfold JZ at wP;simp only[bK]at wP;obtain⟨W1,vS,bA,bB,kV,s1⟩:=sN w 55 #[.int .i64 x0,.int .i64 x1,.int .i64 x2,.int .i64 x3] 222 #[.int .i64 2,.int .i64 2,.int .i64 4,.int .i64 4];obtain⟨nJ,bA',bB',lZ,FY⟩:=aM wP bA bB kV vS;clear wP bA bB kV vS;go_enter Tryz.func98,Tryz.ntmps98;go_wp2_with fail
 rw[FY.o];go_loopw [6,22] (fun v iv wr=>∃(k:Int) (a:Option Addr) (c:Nat),(k=0∨k=1∨k=2∨k=3∨k=4)∧iv= .int .i64 k∧v= .slice a (a1Y k) c∧Hid (wr.ownsRow w.heap.size 5 1 (.slice a (a1Y k) c) (a1Y k) (ints .u8 (X9 (x0,x1,x2,x3) o k)))∧Hid (kG wr (w.heap.size+1) 222 #[.int .i64 2,.int .i64 2,.int .i64 4,.int .i64 4])∧Hid (Below w.heap.size w wr)) (fun _ iv _=>4 - (intOf iv).toNat)
 case atStart=>exact⟨0,none,0,.inl rfl,rfl,rfl,aA (lC _ _ _ _),bB',lZ⟩
 clear bB'
 case round=>
  obtain⟨k,a,c,hk,rfl,rfl,ho,bB,hb⟩:=hrel;have ho:=ho.o;have bB:=bB.o;have hb:=hb.o;rcases hk with rfl|rfl|rfl|rfl|rfl
  ·
   have hX:∀W,(Instr.index 222 (.agg #[.int .i64 x0,.int .i64 x1,.int .i64 x2,.int .i64 x3]) (.int .i64 0)).run Tryz.prog W= .ok (.int .i64 x0) W:=fun W=>by kernel_rfl
   have hP:=fun W=>JV x0 2 o W;have CZ:mH x0 2 o=true:=by simp only[nJ.o]
   have GY:=rQ CZ;simp only[CZ]at hP;have ZB:X9 (x0,x1,x2,x3) o (0+1)=X9 (x0,x1,x2,x3) o 0++lQ x0 2 o:=by simp[X9,JO]
   obtain⟨MC,qL⟩:∃b,lQ x0 2 o=b:=⟨_,rfl⟩;rw[qL]at GY ZB;simp only[qL]at hP;have c7:=bB.cell (i:=0) rfl;have FI:a1Y 0=0:=by simp[a1Y]
   rw[FI]at ho ⊢;obtain⟨hP',a8V,aJD,vR⟩:=aL hP CZ ZB qL;obtain⟨bB',pW⟩:=aJ bB hb;clear hP CZ ZB qL bB hb;go_wp2_with fail
   refine(hP'.o _).mono ?_;rintro e w2 ⟨a2,m2,c2,rfl,C9,kP⟩;have a1Z:MC.length=m2:=(Sl.kZ C9).1.p9;have xV:=(Sl.kZ C9).1;obtain rfl:m2=2:=by rw[←a1Z,GY];rfl
   have NM:=l6 ho kP;have bB2:=bB'.o.late kP;have rG:=pW.o.tm kP;have a8W:=rG.size;clear c7 a1Z GY;obtain⟨a1T,a4P,nD,pG⟩:=aL xV bB2 rG kP;clear xV bB2 rG kP;go_wp2_with (at_builtin;refine qD rfl _ _ 24 rfl w.heap.size 5 i0 _ 1 1 Tryz.underlying24 hi yZ qC wY rfl aH _ 0 _ rfl NM a2 2 c2 (ints .u8 MC) rfl a1T.o wQ aH aH a8W ?_;intro a5 c5 w5 ob nV qA;obtain⟨Ob,Hb5,BB5⟩:=aK ob (nD.o.trans nV) (a4P.o.grown qA (oV NM a4P.o aH));clear ob nV qA)
   go_roundw
   case rel=>exact⟨0+1,a5,c5,by decide,rfl,rfl,aA (by rw[aJD.o,vW];exact Ob.o),BB5,Hb5⟩
   case measure=>simp[intOf]
  ·
   have hX:∀W,(Instr.index 222 (.agg #[.int .i64 x0,.int .i64 x1,.int .i64 x2,.int .i64 x3]) (.int .i64 1)).run Tryz.prog W= .ok (.int .i64 x1) W:=fun W=>by kernel_rfl
   have hP:=fun W=>JV x1 2 o W;have CZ:mH x1 2 o=true:=by simp only[nJ.o]
   have GY:=rQ CZ;simp only[CZ]at hP;have ZB:X9 (x0,x1,x2,x3) o (1+1)=X9 (x0,x1,x2,x3) o 1++lQ x1 2 o:=by simp[X9,JO]
   obtain⟨MC,qL⟩:∃b,lQ x1 2 o=b:=⟨_,rfl⟩;rw[qL]at GY ZB;simp only[qL]at hP;have c7:=bB.cell (i:=1) rfl;have FI:a1Y 1=2:=by simp[a1Y]
   rw[FI]at ho ⊢;obtain⟨hP',a8V,aJD,vR⟩:=aL hP CZ ZB qL;obtain⟨bB',pW⟩:=aJ bB hb;clear hP CZ ZB qL bB hb;go_wp2_with fail
   refine(hP'.o _).mono ?_;rintro e w2 ⟨a2,m2,c2,rfl,C9,kP⟩;have a1Z:MC.length=m2:=(Sl.kZ C9).1.p9;have xV:=(Sl.kZ C9).1;obtain rfl:m2=2:=by rw[←a1Z,GY];rfl
   have NM:=l6 ho kP;have bB2:=bB'.o.late kP;have rG:=pW.o.tm kP;have a8W:=rG.size;clear c7 a1Z GY;obtain⟨a1T,a4P,nD,pG⟩:=aL xV bB2 rG kP;clear xV bB2 rG kP;go_wp2_with (at_builtin;refine qD rfl _ _ 24 rfl w.heap.size 5 i0 _ 1 1 Tryz.underlying24 hi yZ qC wY rfl aH _ 2 _ rfl NM a2 2 c2 (ints .u8 MC) rfl a1T.o wQ aH aH a8W ?_;intro a5 c5 w5 ob nV qA;obtain⟨Ob,Hb5,BB5⟩:=aK ob (nD.o.trans nV) (a4P.o.grown qA (oV NM a4P.o aH));clear ob nV qA)
   go_roundw
   case rel=>exact⟨1+1,a5,c5,by decide,rfl,rfl,aA (by rw[aJD.o,vW];exact Ob.o),BB5,Hb5⟩
   case measure=>simp[intOf]
  ·
   have hX:∀W,(Instr.index 222 (.agg #[.int .i64 x0,.int .i64 x1,.int .i64 x2,.int .i64 x3]) (.int .i64 2)).run Tryz.prog W= .ok (.int .i64 x2) W:=fun W=>by kernel_rfl
   have hP:=fun W=>JV x2 4 o W;have CZ:mH x2 4 o=true:=by simp only[nJ.o]
   have GY:=rQ CZ;simp only[CZ]at hP;have ZB:X9 (x0,x1,x2,x3) o (2+1)=X9 (x0,x1,x2,x3) o 2++lQ x2 4 o:=by simp[X9,JO]
   obtain⟨MC,qL⟩:∃b,lQ x2 4 o=b:=⟨_,rfl⟩;rw[qL]at GY ZB;simp only[qL]at hP;have c7:=bB.cell (i:=2) rfl;have FI:a1Y 2=4:=by simp[a1Y]
   rw[FI]at ho ⊢;obtain⟨hP',a8V,aJD,vR⟩:=aL hP CZ ZB qL;obtain⟨bB',pW⟩:=aJ bB hb;clear hP CZ ZB qL bB hb;go_wp2_with fail
   refine(hP'.o _).mono ?_;rintro e w2 ⟨a2,m2,c2,rfl,C9,kP⟩;have a1Z:MC.length=m2:=(Sl.kZ C9).1.p9;have xV:=(Sl.kZ C9).1;obtain rfl:m2=4:=by rw[←a1Z,GY];rfl
   have NM:=l6 ho kP;have bB2:=bB'.o.late kP;have rG:=pW.o.tm kP;have a8W:=rG.size;clear c7 a1Z GY;obtain⟨a1T,a4P,nD,pG⟩:=aL xV bB2 rG kP;clear xV bB2 rG kP;go_wp2_with (at_builtin;refine qD rfl _ _ 24 rfl w.heap.size 5 i0 _ 1 1 Tryz.underlying24 hi yZ qC wY rfl aH _ 4 _ rfl NM a2 4 c2 (ints .u8 MC) rfl a1T.o wQ aH aH a8W ?_;intro a5 c5 w5 ob nV qA;obtain⟨Ob,Hb5,BB5⟩:=aK ob (nD.o.trans nV) (a4P.o.grown qA (oV NM a4P.o aH));clear ob nV qA)
   go_roundw
   case rel=>exact⟨2+1,a5,c5,by decide,rfl,rfl,aA (by rw[aJD.o,vW];exact Ob.o),BB5,Hb5⟩
   case measure=>simp[intOf]
  ·
   have hX:∀W,(Instr.index 222 (.agg #[.int .i64 x0,.int .i64 x1,.int .i64 x2,.int .i64 x3]) (.int .i64 3)).run Tryz.prog W= .ok (.int .i64 x3) W:=fun W=>by kernel_rfl
   have hP:=fun W=>JV x3 4 o W;have CZ:mH x3 4 o=true:=by simp only[nJ.o]
   have GY:=rQ CZ;simp only[CZ]at hP;have ZB:X9 (x0,x1,x2,x3) o (3+1)=X9 (x0,x1,x2,x3) o 3++lQ x3 4 o:=by simp[X9,JO]
   obtain⟨MC,qL⟩:∃b,lQ x3 4 o=b:=⟨_,rfl⟩;rw[qL]at GY ZB;simp only[qL]at hP;have c7:=bB.cell (i:=3) rfl;have FI:a1Y 3=8:=by simp[a1Y]
   rw[FI]at ho ⊢;obtain⟨hP',a8V,aJD,vR⟩:=aL hP CZ ZB qL;obtain⟨bB',pW⟩:=aJ bB hb;clear hP CZ ZB qL bB hb;go_wp2_with fail
   refine(hP'.o _).mono ?_;rintro e w2 ⟨a2,m2,c2,rfl,C9,kP⟩;have a1Z:MC.length=m2:=(Sl.kZ C9).1.p9;have xV:=(Sl.kZ C9).1;obtain rfl:m2=4:=by rw[←a1Z,GY];rfl
   have NM:=l6 ho kP;have bB2:=bB'.o.late kP;have rG:=pW.o.tm kP;have a8W:=rG.size;clear c7 a1Z GY;obtain⟨a1T,a4P,nD,pG⟩:=aL xV bB2 rG kP;clear xV bB2 rG kP;go_wp2_with (at_builtin;refine qD rfl _ _ 24 rfl w.heap.size 5 i0 _ 1 1 Tryz.underlying24 hi yZ qC wY rfl aH _ 8 _ rfl NM a2 4 c2 (ints .u8 MC) rfl a1T.o wQ aH aH a8W ?_;intro a5 c5 w5 ob nV qA;obtain⟨Ob,Hb5,BB5⟩:=aK ob (nD.o.trans nV) (a4P.o.grown qA (oV NM a4P.o aH));clear ob nV qA)
   go_roundw
   case rel=>exact⟨3+1,a5,c5,by decide,rfl,rfl,aA (by rw[aJD.o,vW];exact Ob.o),BB5,Hb5⟩
   case measure=>simp[intOf]
  ·have e12:a1Y 4=12:=by decide
   rw[e12]at ho ⊢;obtain⟨bB',pW⟩:=aJ bB hb;clear bB hb;go_wp2_with fail
   refine bodyPost_ret (results_tmp2 rfl _ _ _) rfl ?_;exact⟨a,c,rfl,by simpa [X9] using ho,pW.o⟩
theorem V6 (t n:Int) (w:World):Calls Tryz.prog 93 #[.int .i64 t,.int .i64 n] w fun e w'=>e= .returned (.agg #[.int .i64 t,.int .i64 4,.int .i64 1,.int .i64 n])∧Below w.heap.size w w':=by
 have kV:=aD w (.cells #[.int .i64 t,.int .i64 4,.int .i64 1,.int .i64 n] 55);have b1:=kG.new w 55 #[.int .i64 t,.int .i64 4,.int .i64 1,.int .i64 n];obtain⟨lZ,b1'⟩:=aJ kV b1;clear kV b1;go_enter Tryz.func93,Tryz.ntmps93;go_wp2_with fail
 refine bodyPost_ret (results_cell_row rfl _ _ w.heap.size 55 #[.int .i64 t,.int .i64 4,.int .i64 1,.int .i64 n] (0,0) _ rfl b1'.o Tryz.underlying55 rfl aF) rfl ?_;exact⟨rfl,lZ.o⟩
theorem aPS (g0 g1 g2:Nat) (what no tag:Int) (x:mZ) (w:World) (h0:w.cell? ⟨g0,0,none⟩=some (.int .i64 what)) (h1:w.cell? ⟨g1,0,none⟩=some (.int .i64 no)) (h2:w.cell? ⟨g2,0,none⟩=some (.int .i64 tag)) (l0:g0<w.heap.size) (l1:g1<w.heap.size) (l2:g2<w.heap.size):
  Calls Tryz.prog 153 #[.agg (spC x).toArray,.pointer (some ⟨g0,0,none⟩),.pointer (some ⟨g1,0,none⟩),.pointer (some ⟨g2,0,none⟩)] w fun e w'=>e= .returned (.bool (atP what no tag x))∧Below w.heap.size w w':=by
 obtain⟨x0,x1,x2,x3,x4⟩:=x;have kV:=aD w (.cells #[.int .i64 x0,.int .i64 x1,.int .i64 x2,.int .i64 x3,.int .i64 x4] 50);have e:atP what no tag (x0,x1,x2,x3,x4)=(x0==what&&x1==no&&x2==tag):=rfl;rw[e];simp only[spC];obtain⟨b0,AX⟩:∃b,(x0==what)=b:=⟨_,rfl⟩;obtain⟨b1,EI⟩:∃b,(x1==no)=b:=⟨_,rfl⟩;obtain⟨b2,kP⟩:∃b,(x2==tag)=b:=⟨_,rfl⟩;rw[AX,EI,kP];clear e;have lZ:=aA kV;clear kV;cases b0
 ·go_enter Tryz.func153,Tryz.ntmps153;go_wp2_with fail
  go_ret;exact⟨rfl,lZ.o⟩
 ·cases b1
  ·go_enter Tryz.func153,Tryz.ntmps153;go_wp2_with fail
   go_ret;exact⟨rfl,lZ.o⟩
  ·go_enter Tryz.func153,Tryz.ntmps153;go_wp2_with fail
   go_ret;exact⟨rfl,lZ.o⟩
theorem aU2 (caps:Array Value) (a:Option Addr) (n c:Nat) (ls:List mZ) (p:mZ→Bool) (w:World) (hs:Sl w a n c 5 (fl spC ls))
  (hc:∀W (x:mZ),Below w.heap.size w W→Calls Tryz.prog 153 (#[.agg (spC x).toArray]++caps) W fun e W'=>e= .returned (.bool (p x))∧Below W.heap.size W W'):
  Calls Tryz.prog 152 #[.slice a n c,.func (.func 153) #[] caps] w fun e w'=>e= .returned (.int .i64 (fst p ls))∧Below w.heap.size w w':=by
 have hl:=hs.xZ WZ aH;have hm:=hs.max;have FI:=hs.le;obtain⟨sK,KU,FX⟩:=aK hs hc hl;clear hs hc hl;go_enter Tryz.func152,Tryz.ntmps152;go_wp2;go_loopw [8] (fun iv wr=>∃k:Nat,k≤n∧iv= .int .i64 k∧Hid (∀i (hi:i<ls.length),i<k→p ls[i]=false)∧Hid (Below w.heap.size w wr)) (fun iv _=>n - (intOf iv).toNat)
 case atStart=>exact⟨0,by omega,rfl,aA (fun j _ hj=>by omega),aA (bF _ _)⟩
 case round=>
  obtain⟨k,hk,rfl,lY,hb⟩:=hrel;by_cases kY:k<n
  ·have hww:IntKind.i64.wrap ((k:Int)+1)=k+1:=by rw[bJ];omega
   have xK:k<ls.length:=by rw[FX.o];exact kY
   obtain⟨b,o,rfl,EI,f⟩:=(sK.o.mono hb.o).elem WZ aH (0,0,0,0,0) kY;rw[kF xK]at f;obtain⟨r,hr⟩:=aC (p (ls[k]'xK));have HC:=KU.o wr (ls[k]'xK) hb.o;rw[hr]at HC;obtain⟨⟨x0,x1,x2,x3,x4⟩,hx⟩:∃x,ls[k]'xK=x:=⟨_,rfl⟩;rw[hx]at HC f;have f0:=f 0 _ rfl;have f1:=f 1 _ rfl;have f2:=f 2 _ rfl;have f3:=f 3 _ rfl;have f4:=f 4 _ rfl;clear f;simp only[spC,dB]at f0 f1 f2 f3 f4 HC;obtain⟨WO,sH,TV⟩:=aK HC hr hx;clear HC hr hx;go_wp2_with fail
   refine WO.o.mono ?_;rintro e w2 ⟨rfl,kP⟩;have lK:=hb.o.tm kP;clear kP;cases r with
   |true=>
    have kX:=aA lK;clear lK;go_wp2;go_ret;exact⟨by rw[P9 xK sH.o (fun i hi=>lY.o i aG hi)];rfl,kX.o⟩
   |false=>
    have oQ:∀i (hi:i<ls.length),i<k+1→p ls[i]=false:=fun i hi h=>by
     rcases eB i k with h1|h1
     ·exact lY.o i hi h1
     ·obtain rfl:i=k:=by omega
      exact sH.o
    obtain⟨kX,nG⟩:=aJ lK oQ;clear lK oQ;go_wp2;go_roundw
    case rel=>exact⟨k+1,by omega,by go_num,nG,kX⟩
    case measure=>simp[intOf];omega
  ·obtain rfl:k=n:=by omega
   go_wp2;go_ret;exact⟨by rw[UO (fun i hi=>lY.o i hi (by rw[FX.o]at hi;exact hi))];rfl,hb.o⟩
theorem RY (K:Wc) (w:World) (no:Int) (P:List Int) (h:RX K w no P) (what dir tag:Int) (hf:K.l.any (atP what dir tag)=true):
  Calls Tryz.prog 94 #[.pointer (some ⟨K.gw,0,none⟩),.int .i64 what,.int .i64 dir,.int .i64 tag] w fun e w'=>e= .returned (.int .i64 (qK K.l what dir tag))∧Below w.heap.size w w':=by
 obtain⟨W1,vS,b0,b1,b2,kV,s1⟩:=F6 w 3 #[.int .i64 what] 3 #[.int .i64 dir] 3 #[.int .i64 tag];have h1:=h.later kV;have hI:=aU2 #[.pointer (some ⟨w.heap.size,0,none⟩),.pointer (some ⟨w.heap.size+1,0,none⟩),.pointer (some ⟨w.heap.size+2,0,none⟩)] K.spa K.spn K.spc K.l (atP what dir tag) W1 h1.sp
  (fun W x hb=>aPS _ _ _ what dir tag x W (late hb b0.lt (b0.cell rfl)) (late hb b1.lt (b1.cell rfl)) (late hb b2.lt (b2.cell rfl)) (dD b0.lt hb.size) (dD b1.lt hb.size) (dD b2.lt hb.size))
 obtain⟨s,NW,xV,hs3⟩:=aTY hf;have SX:qK K.l what dir tag=s.2.2.2.1:=by unfold qK;rw[NW]
 rw[SX];have xM:=h1.sp.xZ WZ aH;have UC:=h1.sp.max;have FI:=h1.sp.le;obtain⟨k,hk⟩:∃k:Nat,fst (atP what dir tag) K.l=k:=⟨(fst (atP what dir tag) K.l).toNat,by omega⟩;rw[hk]at hI xV;rw[cB]at xV;obtain⟨xK,hks⟩:=dP.1 xV;have hkn:k<K.spn:=by rw[←xM];exact xK
 have aS4:(k:Int)<(K.spn:Int):=by omega
 have aPC:(0:Int)≤(k:Int):=by omega
 have c2:=h1.blk.cell (i:=2) rfl;rw[←vS]at c2 hI;clear hs3;obtain⟨h',h1',b0',b1',b2',lZ,hI',bBP,a1T,aAF,WG,bUX⟩:=aT h h1 b0 b1 b2 kV hI NW xV xM hk hks;obtain⟨FY,aIC,hf'⟩:=aK vS SX hf;clear h h1 b0 b1 b2 kV hI NW xV xM hk hks vS SX hf;go_enter Tryz.func94,Tryz.ntmps94;go_wp2_with fail
 refine hI'.o.mono ?_;rw[FY.o];rintro e w2 ⟨rfl,kP⟩;have h2:=h1'.o.later kP;clear c2;have c2:=h2.blk.cell (i:=2) rfl;obtain⟨b,o,e,kY,fe⟩:=h2.sp.elem WZ aH (0,0,0,0,0) hkn;rw[kF (by rw[aAF.o];exact hkn),bUX.o]at fe;have f3:=fe 3 _ rfl;clear fe;have lK:=lZ.o.tm kP;obtain⟨h2',pG,kX⟩:=aK h2 kP lK;clear h2 kP lK;rw[e]at c2;go_wp2_with fail
 go_ret;exact⟨rfl,kX.o⟩
theorem aU3 (a:Option Addr) (n c:Nat) (b:List Int) (s o:Int) (w:World) (hs:Sl w a n c 1 (ints .u8 b)) (hn:n≤1000000000):
  Calls Tryz.prog 117 #[.slice a n c,.int .i64 s,.int .i64 o] w fun e w'=>∃a2 m,e= .returned (.slice a2 m m)∧w'.ownsRow w.heap.size 5 1 (.slice a2 m m) m (ints .u8 (rA b s o))∧Below w.heap.size w w':=by
 obtain⟨i0,hi,yZ,qC,wY⟩:=info_parts a99;have D9:=hs.p9;have FI:=hs.le;have UC:=hs.max;have OL:=fun W=>KZ s o W;have T9:=fun W=>KZ 1 o W;obtain⟨t,ht⟩:=aC (PD s o);have hts:rA b s o=if t=true then(if o=1 then turned s.toNat b else b)else []:=by unfold rA;rw[ht]
 obtain⟨R,hR⟩:=aC (rA b s o);rw[hR];rw[hR]at hts;replace hts:=hts.symm
 have KS:=ht;unfold PD at KS;obtain⟨r1,hr1⟩:∃r,MK s o=r:=⟨_,rfl⟩;obtain⟨r2,KT⟩:∃r,MK 1 o=r:=⟨_,rfl⟩;rw[hr1]at OL KS;rw[KT]at T9 KS;obtain⟨MI,ZQ,sK,vE,UW⟩:=aM OL T9 hs D9 hts;clear OL T9 hs D9 hts;clear hr1 KT hR;go_enter Tryz.func117,Tryz.ntmps117;cases t
 ·clear ht;cases r1
  ·by_cases h8:s=8
   ·subst h8;obtain rfl:r2=false:=by simpa using KS
    clear KS;go_wp2_with fail
    refine(MI.o _).mono ?_;rintro e w1 ⟨rfl,kV⟩;have HB1:=aA kV;clear kV;go_wp2_with fail
    refine(ZQ.o _).mono ?_;rintro e w2 ⟨rfl,kP⟩;have HB2:=aA (HB1.o.tm kP);clear kP;go_wp2_with fail
    go_ret;exact⟨none,0,rfl,by rw[←UW.o];exact lC _ _ _ _,HB2.o⟩
   ·have d8:(s != 8)=true:=by simp[h8]
    clear KS;go_wp2_with fail
    refine(MI.o _).mono ?_;rintro e w1 ⟨rfl,kV⟩;have HB1:=aA kV;clear kV;go_wp2_with fail
    go_ret;exact⟨none,0,rfl,by rw[←UW.o];exact lC _ _ _ _,HB1.o⟩
  ·simp at KS
 ·obtain⟨tC,yL⟩:=a3W ht;obtain⟨p,rfl⟩:∃p:Nat,s=p:=⟨s.toNat,by omega⟩;have hp:p=1∨p=2∨p=4∨p=8:=by omega
  have hp1:1≤p:=by omega
  have hp8:p≤8:=by omega
  clear ht tC;cases r1
  ·have h8:p=8:=by simp at KS;omega
   subst h8;obtain rfl:r2=true:=by simpa using KS
   clear KS hp;go_wp2_with fail
   refine(MI.o _).mono ?_;rintro e w1 ⟨rfl,kV⟩;have HB1:=aA kV;clear kV;go_wp2_with fail
   refine(ZQ.o _).mono ?_;rintro e w2 ⟨rfl,kP⟩;have HB2:=aA (HB1.o.tm kP);clear kP HB1;go_wp2_with (first|(at_make;refine wpList_make_full w2 rfl _ _ 24 rfl w2.heap.size 5 i0 _ 1 Tryz.underlying24 hi yZ qC .i64 .i64 _ _ n rfl rfl rfl rfl (by rw[wY];omega) (by unfold maxLen;omega) (aY _) ?_;intro w3 mK MB;have R3:=Row.kZ (by rw[L6]at mK;exact mK);have H3:=(HB2).o.trans (((bF _ _).grown MB (aY _) (fun k e=>by cases e)).mono (HB2).o.size);clear mK MB)|(refine zP rfl (.tmp 25) (.tmp 26) 24 24 rfl 5 Tryz.underlying24 (by rw[hi];simp[qC]) w2.heap.size n .u8 _ rfl R3 (by simp) a n c b rfl (sK.o.mono H3) w.heap.size w H3 (HB2).o.size ?_;intro w4 hr4 mX;rw[MN vE.o (by simp)]at hr4;clear R3 H3))
   obtain⟨g,hg⟩:=aC w2.heap.size;have JJ:w.heap.size≤g:=by rw[←hg];exact(HB2).o.size
   rw[hg]at hr4;rw[hg];clear HB2 hg;obtain⟨a3Y,xG⟩:=aJ hr4 mX;clear hr4 mX;by_cases ho:o=1
   ·have d1:(o==1)=true:=by simp[ho]
    have JG:=aA ho;clear ho;clear yL;go_loopw [8] (fun i wr=>∃(q:Nat) (cs:List Int),q≤n∧i= .int .i64 q∧Hid (q % 8=0)∧Hid (Row wr g 5 .u8 cs)∧Hid (UU 8 q b cs)∧Hid (Below w.heap.size w wr)) (fun i _=>n - (intOf i).toNat)
    case atStart=>exact⟨0,b,by omega,rfl,aA (by simp),a3Y,aA ⟨rfl,fun k hk=>by simp⟩,xG⟩
    case round=>
     obtain⟨q,cs,hq,rfl,hqm,hr,htu,hb⟩:=hrel;have xR:IntKind.i64.wrap ((q:Int)+8)=q+8:=by rw[bJ];omega
     have sI:=htu.o.1;rw[vE.o]at sI;by_cases kY:q+8≤n
     ·have d2:decide ((q:Int)+8≤n)=true:=by simp;omega
      have hRV:=fun cc=>EX g q 8 cc cs 5 wr hr.o aG aG;have qU:=aB0 (P:=Tryz.prog) (T:=24) (E:=5) Tryz.underlying24 (fun W=>by kernel_rfl) g n q 8 aG kY;have aIX:=aA hRV;clear hRV;go_wp2_with (go_at_call 149;refine(aIX.o _).mono ?_;rintro e w5 ⟨rfl,p',hr5,hl5,qA,nV⟩;obtain⟨HR5,HL5,HG5,HB5⟩:=aL hr5 hl5 qA nV;clear hr5 hl5 qA nV)
      go_roundw
      case rel=>exact⟨q+8,p',by omega,by go_num,aA (by have:=hqm.o;first|omega|(rw[Nat.add_mod_right];exact this)),HR5,aA (JW aG hqm.o (by rw[vE.o];omega) htu.o HL5.o HG5.o),aA (hb.o.trans (HB5.o.below JJ hb.o.size))⟩
      case measure=>simp[intOf];omega
     ·have d2:decide ((q:Int)+8≤n)=false:=by simp;omega
      go_wp2;go_ret;refine⟨some ⟨g,0,none⟩,n,rfl,?_,hb.o⟩;have:=ML (p:=8) aG hqm.o (by rw[vE.o];omega) (by rw[vE.o];exact hq) htu.o;have KT:=hr.o;rw[this]at KT;have hR:=UW.o;rw[if_pos trivial,if_pos JG.o]at hR;rw[cB]at hR;rw[←hR];exact KT.own (by rw[qF];exact vE.o) JJ (by unfold maxLen;omega)
   ·have d1:(o==1)=false:=by simp[ho]
    have JG:=aA ho;clear ho;clear yL;go_loopw [8] (fun i wr=>i= .int .i64 0∧wr=w4) (fun i _=>0)
    case atStart=>exact⟨rfl,rfl⟩
    case round=>
     obtain⟨rfl,rfl⟩:=hrel;go_wp2;go_ret;refine⟨some ⟨g,0,none⟩,n,rfl,?_,xG.o⟩;rw[←UW.o,if_pos trivial,if_neg JG.o];exact a3Y.o.own vE.o JJ (by unfold maxLen;omega)
  ·clear KS;go_wp2_with fail
   refine(MI.o _).mono ?_;rintro e w2 ⟨rfl,kP⟩;have HB2:=aA kP;clear kP;go_wp2_with (first|(at_make;refine wpList_make_full w2 rfl _ _ 24 rfl w2.heap.size 5 i0 _ 1 Tryz.underlying24 hi yZ qC .i64 .i64 _ _ n rfl rfl rfl rfl (by rw[wY];omega) (by unfold maxLen;omega) (aY _) ?_;intro w3 mK MB;have R3:=Row.kZ (by rw[L6]at mK;exact mK);have H3:=(HB2).o.trans (((bF _ _).grown MB (aY _) (fun k e=>by cases e)).mono (HB2).o.size);clear mK MB)|(refine zP rfl (.tmp 25) (.tmp 26) 24 24 rfl 5 Tryz.underlying24 (by rw[hi];simp[qC]) w2.heap.size n .u8 _ rfl R3 (by simp) a n c b rfl (sK.o.mono H3) w.heap.size w H3 (HB2).o.size ?_;intro w4 hr4 mX;rw[MN vE.o (by simp)]at hr4;clear R3 H3))
   obtain⟨g,hg⟩:=aC w2.heap.size;have JJ:w.heap.size≤g:=by rw[←hg];exact(HB2).o.size
   rw[hg]at hr4;rw[hg];clear HB2 hg;obtain⟨a3Y,xG⟩:=aJ hr4 mX;clear hr4 mX;by_cases ho:o=1
   ·have d1:(o==1)=true:=by simp[ho]
    have JG:=aA ho;clear ho;clear yL;go_loopw [8] (fun i wr=>∃(q:Nat) (cs:List Int),q≤n∧i= .int .i64 q∧Hid (q % p=0)∧Hid (Row wr g 5 .u8 cs)∧Hid (UU p q b cs)∧Hid (Below w.heap.size w wr)) (fun i _=>n - (intOf i).toNat)
    case atStart=>exact⟨0,b,by omega,rfl,aA (by simp),a3Y,aA ⟨rfl,fun k hk=>by simp⟩,xG⟩
    case round=>
     obtain⟨q,cs,hq,rfl,hqm,hr,htu,hb⟩:=hrel;have xR:IntKind.i64.wrap ((q:Int)+p)=q+p:=by rw[bJ];omega
     have sI:=htu.o.1;rw[vE.o]at sI;by_cases kY:q+p≤n
     ·have d2:decide ((q:Int)+p≤n)=true:=by simp;omega
      have hRV:=fun cc=>EX g q p cc cs 5 wr hr.o aG aG;have qU:=aB0 (P:=Tryz.prog) (T:=24) (E:=5) Tryz.underlying24 (fun W=>by kernel_rfl) g n q p aG kY;have aIX:=aA hRV;clear hRV;go_wp2_with (go_at_call 149;refine(aIX.o _).mono ?_;rintro e w5 ⟨rfl,p',hr5,hl5,qA,nV⟩;obtain⟨HR5,HL5,HG5,HB5⟩:=aL hr5 hl5 qA nV;clear hr5 hl5 qA nV)
      go_roundw
      case rel=>exact⟨q+p,p',by omega,by go_num,aA (by have:=hqm.o;first|omega|(rw[Nat.add_mod_right];exact this)),HR5,aA (JW aG hqm.o (by rw[vE.o];omega) htu.o HL5.o HG5.o),aA (hb.o.trans (HB5.o.below JJ hb.o.size))⟩
      case measure=>simp[intOf];omega
     ·have d2:decide ((q:Int)+p≤n)=false:=by simp;omega
      go_wp2;go_ret;refine⟨some ⟨g,0,none⟩,n,rfl,?_,hb.o⟩;have:=ML (p:=p) aG hqm.o (by rw[vE.o];omega) (by rw[vE.o];exact hq) htu.o;have KT:=hr.o;rw[this]at KT;have hR:=UW.o;rw[if_pos trivial,if_pos JG.o]at hR;rw[cB]at hR;rw[←hR];exact KT.own (by rw[qF];exact vE.o) JJ (by unfold maxLen;omega)
   ·have d1:(o==1)=false:=by simp[ho]
    have JG:=aA ho;clear ho;clear yL;go_loopw [8] (fun i wr=>i= .int .i64 0∧wr=w4) (fun i _=>0)
    case atStart=>exact⟨rfl,rfl⟩
    case round=>
     obtain⟨rfl,rfl⟩:=hrel;go_wp2;go_ret;refine⟨some ⟨g,0,none⟩,n,rfl,?_,xG.o⟩;rw[←UW.o,if_pos trivial,if_neg JG.o];exact a3Y.o.own vE.o JJ (by unfold maxLen;omega)
theorem a4Q (t y k:Int) (a:Option Addr) (n c:Nat) (d:List Int) (o:Int) (w:World) (hs:Sl w a n c 1 (ints .u8 d)) (hd:pF d) (hn:n≤1000000000):
  Calls Tryz.prog 151 #[.agg #[.int .i64 y,.int .i64 k,.slice a n c],.int .i64 o] w fun e w'=>∃a2 m,e= .returned (.slice a2 m m)∧w'.ownsRow w.heap.size 5 1 (.slice a2 m m) m (ints .u8 (mE (t,y,k,d) o))∧Below w.heap.size w w':=by
 have kV:=aD w (.cells #[.int .i64 y,.int .i64 k,.slice a n c] 72);have b1:=kG.new w 72 #[.int .i64 y,.int .i64 k,.slice a n c];obtain⟨W1,vS⟩:=aC (w.alloc (.cells #[.int .i64 y,.int .i64 k,.slice a n c] 72));rw[vS]at kV b1;have hM:=RO y k a n c d W1 (hs.mono kV) hd;have hbv:mE (t,y,k,d) o=if wH y k d=true then rA d (lI y).2.1 o else []:=rfl;obtain⟨R,hR⟩:=aC (mE (t,y,k,d) o);rw[hR]at hbv ⊢;obtain⟨r,hr⟩:=aC (wH y k d);rw[hr]at hM hbv;rw[←vS]at hM;clear hR;obtain⟨lZ,b1',hM',sK,hd',sH,FY,bCJ⟩:=aP kV b1 hM hs hd hr vS hbv;clear kV b1 hM hs hd hr vS hbv
 go_enter Tryz.func151,Tryz.ntmps151;go_wp2_with fail
 refine hM'.o.mono ?_;rintro e w2 ⟨rfl,kP⟩;rw[FY.o]at kP;have lK:=lZ.o.tm kP;have b2:=b1'.o.late kP;cases r with
 |false=>
  obtain rfl:R= []:=bCJ.o;obtain⟨kX,b2',pG⟩:=aK lK b2 kP;clear lK b2 kP;go_wp2_with fail
  go_ret;exact⟨none,0,rfl,lC _ _ _ _,kX.o⟩
 |true=>
  obtain rfl:R=rA d (lI y).2.1 o:=bCJ.o;have hK:=fun W=>WL y W;obtain⟨z0,yZ⟩:∃z,(lI y).1=z:=⟨_,rfl⟩;clear bCJ;generalize hpt:(lI y).2.1=pt at*;obtain⟨z2,wY⟩:∃z,(lI y).2.2=z:=⟨_,rfl⟩;simp only[yZ,hpt,wY]at hK;have c4O:∀W,(Instr.field 185 (.agg #[.int .i64 z0,.int .i64 pt,.int .i64 z2]) 1).run Tryz.prog W= .ok (.int .i64 pt) W:=fun W=>by kernel_rfl
  obtain⟨Ty,ff,pQ,kI,kE⟩:=kM w2;obtain⟨HS,HD⟩:=aJ (kE _ ((bF _ _).drew)) ((bF w2.heap.size w2).drew);have q0:=fun s=>(b2.late (kI s)).cell (i:=0) rfl;have q2:=fun s=>(b2.late (kI s)).cell (i:=2) rfl;obtain⟨kX,b2',pG,hK',c1D,bCK,a0W,kD,jV⟩:=aQ lK b2 kP hK yZ hpt wY kI kE;clear lK b2 kP hK yZ hpt wY kI kE;go_wp2_with fail
  refine kR (S:=fun W=>∃s,W=ff s) aF 9 rfl ?_;obtain⟨wD,xB⟩:=aC w2.drew;rw[xB]at HS HD ⊢;clear xB;refine jZ [0,1,2,3,6] 4 aF aI aF aF aF HS.o ?_;simp only[jW,aW,aX,aU,aV];iterate 5 (go_big_quiet_step (fail))
  refine wpQuiet_nil ?_;refine jX 4 3 aF aF ?_;simp only[jW,aW,aX,aU,aV];go_wp2_with fail
  refine(hK'.o wD).mono ?_;rintro e w3 ⟨rfl,kT⟩;have V7:=HD.o.tm kT;obtain⟨HS,sM,G7⟩:=aK (jV.o _ V7) kT V7;clear kT V7;go_wp2_with fail
  first|refine Mid.mk ⟨HS.o,?_⟩|refine Mid.mk ?_
  refine jZ [5] 2 aF aI aF aF aF HS.o ?_;simp only[jW,aW,aX,aU,aV];iterate 1 (go_big_quiet_step (fail))
  refine wpQuiet_nil ?_;refine jX 7 1 aF aF ?_;simp only[jW,aW,aX,aU,aV];go_wp2_with fail
  refine(aU3 a n c d pt o w3 (sK.o.mono (kX.o.tm G7.o)) hn).mono ?_;rintro e w4 ⟨a4,m4,rfl,Z9,mX⟩;have PS:=G7.o.tm mX;have y8:=kX.o.tm PS;have ho5:=lN Z9 (show w.heap.size≤_ from bU kX.o.size G7.o.size);have HS:=aA (jV.o _ PS);clear Z9;obtain⟨xG,b7A,mP,aE4⟩:=aL mX PS y8 ho5;clear mX PS y8 ho5;go_wp2_with fail
  first|refine Mid.mk ⟨HS.o,?_⟩|refine Mid.mk ?_
  refine jX 8 0 aF aF ?_;simp only[jW,aW,aX,aU,aV];go_wp2_with fail
  first|refine Mid.mk ⟨HS.o,?_⟩|refine Mid.mk ?_
  refine kH aF ?_;go_wp2_with fail
  go_ret;exact⟨a4,m4,rfl,by rw[bCK.o];exact aE4.o,mP.o⟩
theorem aU4 {b:List Int} (h:b.length≤4):(AU b).length=4:=by unfold AU;simp;omega
theorem aJE (n:Nat):(Builtin.zeroCells #[.int .u8 0] n).toList=ints .u8 (List.replicate n 0):=by
 apply gG
 ·simp[Builtin.zeroCells,ints]
 ·intro i h1 h2;simp[Builtin.zeroCells,ints,Nat.mod_one]
theorem aPT (w:World) (a2:Option Addr) (m k:Nat) (b:List Int) (B:Nat) (ty:TypeId) (ho:w.ownsRow B 5 1 (.slice a2 m m) m (ints .u8 b)) (hm:0<m) (hk:0<k) (h4:m+k=4):
  ∃a' c' w',(Builtin.append_ #[24,3] ty #[.slice a2 m m,.int .i64 (k:Int)]).run Tryz.prog w= .ok (.slice a' 4 c') w'∧Sl w' a' 4 c' 1 (ints .u8 (AU b))∧Below w.heap.size w w':=by
 obtain⟨i0,hi,yZ,qC,wY⟩:=info_parts b79;have qU:=(Sl.kZ ho).1;have D9:b.length=m:=qU.p9;obtain⟨g,off,e,kY,hc⟩:=qU.lies 0 hm;subst e;have aI8:(Builtin.firstCells i0.size m (.slice (some ⟨g,off,none⟩) m m)).run Tryz.prog w.drew= .ok (ints .u8 b).toArray w.drew:=by
  refine run_firstCells_some (P:=Tryz.prog) (w:=w.drew) i0.size m ⟨g,off,none⟩ m m (ints .u8 b) (by rw[qO,D9,qC,iH]) (fun j v hv=>?_);rw[fF];exact hc j v hv
 have hr:=Lib.run_append_grow_zeros (P:=Tryz.prog) w 24 3 ty 5 i0 (.int .u8 0) .i64 .i64 Tryz.underlying24 Tryz.underlying3 hi yZ (some ⟨g,off,none⟩) m m (ints .u8 b) aI8 k hk aG aG aG (by rw[wY];omega) (growslice_fits aG (by rw[wY];omega));rw[h4]at hr;have hge:=grownCap_ge w 4 m 5;have hcm:=grownCap_le_maxLen w 4 m 5 (by unfold maxLen;omega);refine⟨_,_,_,hr,?_,?_⟩
 ·have C8:kG (w.drew.alloc (.cells ((ints .u8 b).toArray++Builtin.zeroCells (Value.int .u8 0).cells k++Builtin.zeroCells (Value.int .u8 0).cells (grownCap w 4 m 5 - 4)) 5)) w.heap.size 5 ((ints .u8 b).toArray++Builtin.zeroCells (Value.int .u8 0).cells k++Builtin.zeroCells (Value.int .u8 0).cells (grownCap w 4 m 5 - 4)):=kG.new w.drew _ _;have e1:(Value.int .u8 0).cells=#[.int .u8 0]:=rfl;rw[e1]at C8 ⊢;have GY:=aU4 (b:=b) aG;refine(Sl.kZ (GJ (B:=0) (xs:=ints .u8 (AU b)) C8 (jU _) hge hcm ?_ ?_)).1
  ·simp[size_zeroCells,qO,D9];omega
  ·have e2:((ints .u8 b).toArray++Builtin.zeroCells #[.int .u8 0] k++Builtin.zeroCells #[.int .u8 0] (grownCap w 4 m 5 - 4)).toList=ints .u8 (AU b)++(Builtin.zeroCells #[.int .u8 0] (grownCap w 4 m 5 - 4)).toList:=by
    simp only[Array.toList_append];rw[aJE k,←vW];unfold AU;rw[show 4 - b.length=k by omega]
   rw[e2,dV (by rw[qO,GY];omega),bW (by rw[qO,GY];omega)]
 ·exact((bF w.heap.size w).drew).alloc (aY _) _
theorem aPU {b:List Int} (h:b.length=4):AU b=b:=by unfold AU;rw[h];simp
theorem b3E {b:List Int} (h:pF b):pF (AU b):=h.append (fun x hx=>by rw[List.eq_of_mem_replicate hx];decide)
theorem a4R {x:oZ} {o:Int} (h:pF x.2.2.2):pF (mE x o):=by
 unfold mE;split
 ·exact a3X h _ _
 ·intro x hx;cases hx
theorem aMZ (tag y k:Int) (a:Option Addr) (n c:Nat) (d:List Int) (o:Int) (w:World) (hs:Sl w a n c 1 (ints .u8 d)) (hd:pF d) (hn:n≤1000000000):
  Calls Tryz.prog 150 #[.int .i64 tag,.agg #[.int .i64 y,.int .i64 k,.slice a n c],.int .i64 o] w fun e w'=>∃x0 x1 x2 x3,e= .returned (.tuple #[.agg #[.int .i64 x0,.int .i64 x1,.int .i64 x2,.int .i64 x3],.bool (a8E tag (mE (tag,y,k,d) o) o)])∧Below w.heap.size w w'∧
   (a8E tag (mE (tag,y,k,d) o) o=true→x0=tag∧x1=y∧x2=k∧x3=mM (AU (mE (tag,y,k,d) o)) 0 4 o):=by
 obtain⟨W1,vS,b0,b1,kV,s1⟩:=sN w 72 #[.int .i64 y,.int .i64 k,.slice a n c] 55 #[.int .i64 0,.int .i64 0,.int .i64 0,.int .i64 0];have hB:=a4Q tag y k a n c d o W1 (hs.mono kV) hd hn;have qL:pF (mE (tag,y,k,d) o):=a4R hd;obtain⟨E,hE⟩:=aC (a8E tag (mE (tag,y,k,d) o) o);rw[hE];unfold a8E at hE;generalize mE (tag,y,k,d) o=b at*;rw[←vS]at hB;obtain⟨sK,hd',b0',b1',lZ,FY,hB',vR⟩:=aP hs hd b0 b1 kV vS hB qL;have hE':=aA hE;clear hs hd b0 b1 kV vS hB qL hE;go_enter Tryz.func150,Tryz.ntmps150;go_wp2_with fail
 refine hB'.o.mono ?_;rw[FY.o];rintro e w2 ⟨a2,m,rfl,C9,kP⟩;have D9:b.length=m:=(Sl.kZ C9).1.p9;have OL:=(Sl.kZ C9).1.max;have b02:=b0'.o.late kP;have b12:=b1'.o.late kP;have rG:=lZ.o.tm kP;have hP:=fun W=>JV tag 2 o W;obtain⟨pk,CZ⟩:∃b,mH tag 2 o=b:=⟨_,rfl⟩;simp only[CZ]at hP;rw[CZ,D9]at hE';obtain⟨UZ,b3F,nD,KH,pG,hP',a8V,vE⟩:=aP b02 b12 rG C9 kP hP CZ D9;clear b02 b12 rG C9 kP hP CZ D9;go_wp2_with fail
 refine(hP'.o _).mono ?_;rintro e w3 ⟨a3,m3,c3,rfl,ho3,kT⟩;have b03:=UZ.o.late kT;have b13:=b3F.o.late kT;have D6:=nD.o.tm kT;have a8F:=l6 KH.o kT;have v0:=b03.cell (i:=0) rfl;have v1:=b03.cell (i:=1) rfl;have p0:=b13.cell (i:=0) rfl;have p1:=b13.cell (i:=1) rfl;have p2:=b13.cell (i:=2) rfl;have p3:=b13.cell (i:=3) rfl;have y0:=b13.frozen 0;have y1:=b13.frozen 1;have y2:=b13.frozen 2;have y3:=b13.frozen 3;have bN:=(((b13.set 0 (.int .i64 0)).set 1 (.int .i64 0)).set 2 (.int .i64 0)).set 3 (.int .i64 0);have hbN:=(((D6.setCell (p:=⟨w.heap.size+1,0,none⟩) (by show w.heap.size≤w.heap.size+1;omega) (.int .i64 0)).setCell (p:=⟨w.heap.size+1,1,none⟩) (by show w.heap.size≤w.heap.size+1;omega) (.int .i64 0)).setCell (p:=⟨w.heap.size+1,2,none⟩) (by show w.heap.size≤w.heap.size+1;omega) (.int .i64 0)).setCell (p:=⟨w.heap.size+1,3,none⟩) (by show w.heap.size≤w.heap.size+1;omega) (.int .i64 0);cases pk with
 |false=>
  obtain rfl:E=false:=hE'.o.symm;obtain⟨aB4,bCL,wT,aU5,sM,KX⟩:=aN b03 b13 D6 a8F kT ho3;clear b03 b13 D6 a8F kT ho3;go_wp2_with fail
  refine bodyPost_ret (kJ rfl _ _ (w.heap.size+1) 55 #[.int .i64 0,.int .i64 0,.int .i64 0,.int .i64 0] _ rfl bN Tryz.underlying55 rfl aF) rfl ?_;exact⟨0,0,0,0,rfl,hbN,fun h=>by cases h⟩
 |true=>
 by_cases hm0:m=0
 ·have d1:((m:Int)==0)=true:=by simp[hm0]
  have d2:(m==0)=true:=by simp[hm0]
  obtain rfl:E=false:=by rw[←hE'.o,hm0];rfl
  clear hm0;obtain⟨aB4,bCL,wT,aU5,sM,KX⟩:=aN b03 b13 D6 a8F kT ho3;clear b03 b13 D6 a8F kT ho3;go_wp2_with fail
  refine bodyPost_ret (kJ rfl _ _ (w.heap.size+1) 55 #[.int .i64 0,.int .i64 0,.int .i64 0,.int .i64 0] _ rfl bN Tryz.underlying55 rfl aF) rfl ?_;exact⟨0,0,0,0,rfl,hbN,fun h=>by cases h⟩
 have d1:((m:Int)==0)=false:=by simp;omega
 have d2:(m==0)=false:=by simp[hm0]
 by_cases TJ:4<m
 ·have d3:decide ((4:Int)<(m:Int))=true:=by simp;omega
  have d4:decide (4<m)=true:=by simp;omega
  obtain rfl:E=false:=by rw[←hE'.o,decide_eq_false (show ¬m≤4 by omega)];simp
  obtain⟨aB4,bCL,wT,aU5,sM,KX⟩:=aN b03 b13 D6 a8F kT ho3;clear b03 b13 D6 a8F kT ho3;go_wp2_with fail
  refine bodyPost_ret (kJ rfl _ _ (w.heap.size+1) 55 #[.int .i64 0,.int .i64 0,.int .i64 0,.int .i64 0] _ rfl bN Tryz.underlying55 rfl aF) rfl ?_;exact⟨0,0,0,0,rfl,hbN,fun h=>by cases h⟩
 have d3:decide ((4:Int)<(m:Int))=false:=by simp;omega
 have d4:decide (4<m)=false:=by simp;omega
 obtain rfl:E=true:=by rw[←hE'.o,decide_eq_true (show m≠0 by omega),decide_eq_true (show m≤4 by omega)];rfl
 obtain⟨k4,hk4⟩:∃k4,m+k4=4:=⟨4 - m,by omega⟩;have hwk:IntKind.i64.wrap (4 - (m:Int))=(k4:Int):=by rw[bJ];omega
 clear bN hbN;obtain⟨a5,c5,w5,hr5,hs5,nV⟩:∃a' c' w',(Builtin.append_ #[24,3] 24 #[.slice a2 m m,.int .i64 (k4:Int)]).run Tryz.prog w3= .ok (.slice a' 4 c') w'∧Sl w' a' 4 c' 1 (ints .u8 (AU b))∧Below w3.heap.size w3 w':=by
  rcases iE k4 with h0|h0
  ·subst h0;obtain rfl:m=4:=by omega
   refine⟨a2,4,w3,?_,by rw[aPU vE.o];exact(Sl.kZ a8F).1,bF _ _⟩;obtain⟨i0,hi,yZ,qC,wY⟩:=info_parts b79;have hw0:IntKind.i64.wrap (0:Int)=0:=by decide
   simp[Builtin.append_,run_underlying (P:=Tryz.prog) Tryz.underlying24,run_underlying (P:=Tryz.prog) Tryz.underlying3,sizeOf,typeInfo,zeroValue,hi,yZ,asInt,asIntOf,hw0];cases a2 <;> simp[storeCells]
  ·exact aPT w3 a2 m k4 b _ _ a8F aG h0 hk4
 have hG:=aAZ a5 4 c5 (AU b) 0 4 o w5 hs5 (b3E vR.o);have b05:=b03.late nV;have b15:=b13.late nV;have zA:=D6.tm nV;obtain⟨gv,hgv⟩:∃v,mM (AU b) 0 4 o=v:=⟨_,rfl⟩;rw[hgv]at hG;clear v0 v1 p0 p1 p2 p3 y0 y1 y2 y3;obtain⟨aB4,bCL,wT,aU5,sM,KX,hG',aB5,bUY,pJ,bCM,LF⟩:=aT b03 b13 D6 a8F kT ho3 hG b05 b15 zA hs5 nV;have bCN:=aA hgv;clear b03 b13 D6 a8F kT ho3 hG b05 b15 zA hs5 nV hgv;go_wp2_with (at_builtin;refine Lib.wpList_append_run w3 rfl _ _ _ _ rfl _ _ rfl rfl _ _ hr5 ?_)
 refine hG'.o.mono ?_;rintro e w6 ⟨rfl,vU⟩;have b06:=aB5.o.late vU;have b16:=bUY.o.late vU;have a8C:=pJ.o.tm vU;have v0:=b06.cell (i:=0) rfl;have v1:=b06.cell (i:=1) rfl;have p0:=b16.cell (i:=0) rfl;have p1:=b16.cell (i:=1) rfl;have p2:=b16.cell (i:=2) rfl;have p3:=b16.cell (i:=3) rfl;have y0:=b16.frozen 0;have y1:=b16.frozen 1;have y2:=b16.frozen 2;have y3:=b16.frozen 3;have bN:=(((b16.set 0 (.int .i64 tag)).set 1 (.int .i64 y)).set 2 (.int .i64 k)).set 3 (.int .i64 gv);have hbN:=(((a8C.setCell (p:=⟨w.heap.size+1,0,none⟩) (by show w.heap.size≤w.heap.size+1;omega) (.int .i64 tag)).setCell (p:=⟨w.heap.size+1,1,none⟩) (by show w.heap.size≤w.heap.size+1;omega) (.int .i64 y)).setCell (p:=⟨w.heap.size+1,2,none⟩) (by show w.heap.size≤w.heap.size+1;omega) (.int .i64 k)).setCell (p:=⟨w.heap.size+1,3,none⟩) (by show w.heap.size≤w.heap.size+1;omega) (.int .i64 gv);obtain⟨b3G,a8G,a0Y,MO⟩:=aL b06 b16 a8C vU;clear b06 b16 a8C vU;go_wp2_with fail
 refine bodyPost_ret (kJ rfl _ _ (w.heap.size+1) 55 #[.int .i64 tag,.int .i64 y,.int .i64 k,.int .i64 gv] _ rfl bN Tryz.underlying55 rfl aF) rfl ?_;exact⟨tag,y,k,gv,rfl,hbN,rfl,rfl,rfl,bCN.o.symm⟩
theorem RX.ne_of {K:Wc} {w:World} {no:Int} {P:List Int} (h:RX K w no P):K.gw<w.heap.size∧K.gb<w.heap.size:=⟨h.blk.lt,Row.lt h.row⟩
theorem HY (K:Wc) (w:World) (no:Int) (P:List Int) (h:RX K w no P) (q:Nat) (v s:Int) (wP:mH v s K.o=true) (NW:1≤(lQ v s K.o).length) (hq:q+(lQ v s K.o).length≤K.n):
  Calls Tryz.prog 42 #[.pointer (some ⟨K.gw,0,none⟩),.int .i64 q,.int .i64 v,.int .i64 s] w fun e w'=>e= .returned (.tuple #[])∧RX K w' no (splice P q (lQ v s K.o))∧Mv K.gw K.gb wI wI w w':=by
 have hP:=fun W=>JV v s K.o W;have c1:=h.blk.cell (i:=1) rfl;obtain⟨MC,qL⟩:∃b,lQ v s K.o=b:=⟨_,rfl⟩;rw[qL]at NW hq ⊢;simp only[qL,wP]at hP;obtain⟨h',hP',vR⟩:=aK h hP qL;clear h hP qL;go_enter Tryz.func42,Tryz.ntmps42;go_wp2_with fail
 refine(hP'.o _).mono ?_;rintro e w2 ⟨a,m,c,rfl,C9,kP⟩;have h2:=h'.o.later kP;have D9:MC.length=m:=(Sl.kZ C9).1.p9;rw[D9]at NW hq;clear c1;have c0:=h2.blk.cell (i:=0) rfl;have b24:=fun W=>a4K (P:=Tryz.prog) (T:=24) (E:=5) Tryz.underlying24 aEN K.gb K.n q aG W;obtain⟨w3,hr3,h3,RU,_⟩:=LA h2 a m c MC (Sl.kZ C9).1 q NW hq 3;have yJ:=(Mv.of_below (g:=K.gw) (gt:=K.gb) (sv:=wI) kP).trans RU;obtain⟨KH,pG,h2',vE,h3',O0,IQ⟩:=aO C9 kP h2 D9 h3 RU yJ;clear C9 kP h2 D9 h3 RU yJ;go_wp2_with (at_builtin;refine wpList_copy_run _ rfl _ _ _ _ rfl _ _ rfl rfl hr3 ?_)
 go_end0
 exact⟨rfl,h3'.o,IQ.o⟩
