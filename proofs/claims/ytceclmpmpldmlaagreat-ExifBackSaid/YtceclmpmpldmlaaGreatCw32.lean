import Derived.Test.YtceclmpmpldmlaaGreatCw31
set_option linter.unusedSimpArgs false
set_option linter.unusedVariables false
set_option maxRecDepth 100000
set_option maxHeartbeats 8000000
namespace Go.Proofs.YtceclmpmpldmlaaGreat
open Go.RowKit Tt
theorem aWY (x y:Int) (a1 a2 a3 b1 b2 b3:Value) (w:World) (h:IntKind.i64.wrap (x - y)=x - y):
  Calls Tryz.prog 63 #[.agg #[.int .i64 x,a1,a2,a3],.agg #[.int .i64 y,b1,b2,b3]] w fun e w'=>e= .returned (.int .i64 (x - y))∧Below w.heap.size w w':=by
 obtain⟨W,hW,c1,c2,hb,s⟩:=sN w 28 #[.int .i64 x,a1,a2,a3] 28 #[.int .i64 y,b1,b2,b3];have p0:=c1.cell (i:=0) rfl;have p1:=c2.cell (i:=0) rfl;obtain⟨WH,c1',c2',pW,s'⟩:=aM hW c1 c2 hb s;clear hW c1 c2 hb s;go_enter Tryz.func63,Tryz.ntmps63;go_wp2_with fail
 rw[WH.o];go_wp2_with fail
 go_ret;exact⟨rfl,pW.o⟩
def aKU (w:World) (a:Option Addr) (n c:Nat):Prop:=
 n≤1∨∃(x y:Int) (a1 a2 a3 b1 b2 b3:Value),n=2∧Sl w a n c 4 [.int .i64 x,a1,a2,a3,.int .i64 y,b1,b2,b3]∧x≤y∧IntKind.i64.wrap (y - x)=y - x
theorem aKU.mono {w w':World} {a:Option Addr} {n c:Nat} (h:aKU w a n c) (hb:Below w.heap.size w w'):aKU w' a n c:=by
 rcases h with h|⟨x,y,a1,a2,a3,b1,b2,b3,h1,h2,h3⟩
 ·exact .inl h
 ·exact .inr ⟨x,y,a1,a2,a3,b1,b2,b3,h1,h2.mono hb,h3⟩
theorem aWZ (a:Option Addr) (n c:Nat) (w:World) (h:aKU w a n c) (hn:n≤2):
  Calls Tryz.prog 172 #[.slice a n c,.int .i64 0,.int .i64 n,.func (.func 63) #[] #[]] w fun e w'=>e= .returned (.tuple #[])∧Below w.heap.size w w':=by
 rcases h with h1|⟨x,y,a1,a2,a3,b1,b2,b3,rfl,hs,hxy,hw⟩
 ·have e1:decide ((1:Int)<n)=false:=by simp;omega
  go_enter Tryz.func172,Tryz.ntmps172;go_upto_region 1 with fail
  go_loopw [8] (fun v wr=>v= .int .i64 1∧wr=w) (fun _ _=>0)
  case atStart=>exact⟨rfl,rfl⟩
  case round=>
   obtain⟨rfl,rfl⟩:=hrel;go_wp2_with fail
   refine bodyPost_end (results_none rfl _ _ _) rfl ?_;exact⟨rfl,bF _ _⟩
 ·obtain⟨b,o,rfl,hb,hc⟩:=hs.lies 0 aH;have f0:=hc 0 _ rfl;have f1:=hc 1 _ rfl;have f2:=hc 2 _ rfl;have f3:=hc 3 _ rfl;have f4:=hc 4 _ rfl;have f5:=hc 5 _ rfl;have f6:=hc 6 _ rfl;have f7:=hc 7 _ rfl;clear hc;obtain⟨sK,hw',f0',f1',f2',f3',f4',f5',f6',f7'⟩:=aR hs hw f0 f1 f2 f3 f4 f5 f6 f7;clear hs hw f0 f1 f2 f3 f4 f5 f6 f7;go_enter Tryz.func172,Tryz.ntmps172;go_upto_region 1 with fail
  go_loopw [8] (fun v wr=>∃k:Int,(k=1∨k=2)∧v= .int .i64 k∧Hid (Below w.heap.size w wr)) (fun v _=>2 - (intOf v).toNat)
  case atStart=>exact⟨1,.inl rfl,rfl,aA (bF _ _)⟩
  case round=>
   obtain⟨k,hk,rfl,nR⟩:=hrel;rcases hk with rfl|rfl
   ·go_upto_region 4 with fail
    go_loopw [9] (fun v wq=>v= .int .i64 1∧Hid (Below w.heap.size w wq)) (fun _ _=>0)
    case atStart=>exact⟨rfl,nR⟩
    case round=>
     obtain⟨rfl,AQ⟩:=hrel;obtain⟨Ty,ff,pQ,kI,kE⟩:=kM wr;have lK:=fun s=>AQ.o.trans ((kI s).mono AQ.o.size);have g0:=fun s=>late (lK s) hb f0'.o;have g1:=fun s=>late (lK s) hb f1'.o;have g2:=fun s=>late (lK s) hb f2'.o;have g3:=fun s=>late (lK s) hb f3'.o;have g4:=fun s=>late (lK s) hb f4'.o;have g5:=fun s=>late (lK s) hb f5'.o;have g6:=fun s=>late (lK s) hb f6'.o;have g7:=fun s=>late (lK s) hb f7'.o;rw[dB]at g0;have HS:=aA (kE _ ((bF _ _).drew));have hC:=fun W=>aWY y x b1 b2 b3 a1 a2 a3 W hw'.o;have kY:decide (y - x<0)=false:=by simp;omega
     obtain⟨kD,jV,kX,OO⟩:=aL kI kE lK hC;clear kI kE lK hC;go_wp2_with fail
     refine kL ff aF aF HS.o ?_;iterate 17 (go_big_quiet_step ((go_at_call 63;refine(OO.o _).mono ?_;rintro e w3 ⟨rfl,kT⟩;exact⟨rfl,jV.o _ ((kD.o _).tm kT)⟩)))
     refine wpQuiet_nil ?_;intro s;have yV:=aA (kX.o s);clear g0 g1 g2 g3 g4 g5 g6 g7;go_wp2_with fail
     go_roundw
     case rel=>exact⟨2,.inr rfl,by go_num,yV⟩
     case measure=>simp[intOf]
   ·go_wp2_with fail
    refine bodyPost_end (results_none rfl _ _ _) rfl ?_;exact⟨rfl,nR.o⟩
theorem aX0 (a:Option Addr) (n c:Nat) (k:Int) (w:World) (h:aKU w a n c) (hn:n≤2):
  Calls Tryz.prog 123 #[.slice a n c,.int .i64 0,.int .i64 n,.int .i64 k,.func (.func 63) #[] #[]] w fun e w'=>e= .returned (.tuple #[])∧Below w.heap.size w w':=by
 have e1:decide ((n:Int)≤12)=true:=by simp;omega
 have e2:IntKind.i64.wrap ((n:Int) - 0)=n:=by rw[bJ];omega
 have hI:=fun W (hb:Below w.heap.size w W)=>aWZ a n c W (h.mono hb) hn;obtain⟨h',hI'⟩:=aJ h hI;clear h hI;go_enter Tryz.func123,Tryz.ntmps123;go_upto_region 2 with fail
 go_loopw [1,2] (fun av bv wr=>av= .int .i64 0∧bv= .int .i64 n∧wr=w) (fun _ _ _=>0)
 case atStart=>exact⟨rfl,rfl,rfl⟩
 case round=>
  obtain⟨rfl,rfl,rfl⟩:=hrel;go_wp2_with fail
  refine(hI'.o _ (bF _ _)).mono ?_;rintro e w1 ⟨rfl,kV⟩;have lZ:=aA kV;clear kV;go_wp2_with fail
  refine bodyPost_ret (results_none rfl _ _ _) rfl ?_;exact⟨rfl,lZ.o⟩
theorem aRC (a:Option Addr) (n c:Nat) (w:World) (h:aKU w a n c) (hn:n≤2):
  Calls Tryz.prog 62 #[.slice a n c,.func (.func 63) #[] #[]] w fun e w'=>e= .returned (.tuple #[])∧Below w.heap.size w w':=by
 have hL:=fun W=>Tryz.bits_Len (n:Int) W aG aG;have hP:=fun k=>aX0 a n c k w h hn;have e1:IntKind.u64.wrap (n:Int)=n:=by rw[IntKind.wrap_u64];omega
 generalize (Lib.bitLen (n:Int).toNat:Int)=k at*;obtain⟨h',hP',hL'⟩:=aK h hP hL;clear h hP hL;go_enter Tryz.func62,Tryz.ntmps62;go_wp2_with fail
 refine(hL'.o _).mono ?_;rintro e w1 ⟨rfl,rfl⟩;go_wp2_with fail
 refine(hP'.o _).mono ?_;rintro e w1 ⟨rfl,kV⟩;have lZ:=aA kV;clear kV;go_wp2_with fail
 refine bodyPost_end (results_none rfl _ _ _) rfl ?_;exact⟨rfl,lZ.o⟩
theorem Ck.away {X:Nat→Prop} {B:Nat} {w:World} {v:Value} {E:TypeId} {sz n:Nat} {xs:List Value} (h:Ck QJ B w v E sz n xs) (hX:∀k,X k→k<B∨w.heap.size≤k):Ck X B w v E sz n xs:=
 ⟨h.1,fun k hk hx=>by
  have h1:=h.1.lt k hk;rcases hX k hx with h2|h2 <;> omega⟩
theorem lX.away {X:Nat→Prop} {B:Nat} {w:World} {v:Value} {ts:List oZ} (h:lX QJ B w v ts) (hX:∀k,X k→k<B∨w.heap.size≤k):lX X B w v ts:=by
 obtain⟨zs,h1,h2,h3⟩:=h;exact⟨zs,h1,Ck.away h2 hX,fun z hz=>Ck.away (h3 z hz) hX⟩
theorem aKV {X:Nat→Prop} {B f:Nat} {w:World} {a:Option Addr} {n c:Nat} {ts:List oZ} (h:lX X B w (.slice a n c) ts):nX X B w (f+1) (ts, [], []) (.slice a n c,.slice none 0 0,.slice none 0 0):=
 ⟨a0D _ _ _ _ _ _ _ _ _,h,⟨[],rfl,⟨lC _ _ _ _,fun k e=>by cases e⟩,fun i hi=>by cases hi⟩,⟨lC _ _ _ _,fun k e=>by cases e⟩⟩
theorem aNL {w:World} {g B:Nat} {T:TypeId} {cs:Array Value} {n sz:Nat} (h:kG w g T cs) (hB:B≤g) (hs:cs.size=n*sz) (hn:n≤maxLen):w.ownsRow B T sz (.slice (some ⟨g,0,none⟩) n n) n cs.toList:=by
 refine⟨by simpa using hs,.inr ⟨g,n,cs,rfl,hB,h,aY _,hn,hs,?_⟩⟩;rw[←hs,←dG,List.take_length]
theorem aX1 {X:Nat→Prop} {B f g:Nat} {w:World} {t:Int} {a1 a2 a3:Option Addr} {n1 n2 n3 c1 c2 c3:Nat} {d:jY f} (hb:kG w g 28 #[.int .i64 t,.slice a1 n1 c1,.slice a2 n2 c2,.slice a3 n3 c3]) (hB:B≤g) (hX:¬X g)
  (hd:nX (fun k=>X k∨k=g) B w f d (.slice a1 n1 c1,.slice a2 n2 c2,.slice a3 n3 c3)):oP X B w f (.slice (some ⟨g,0,none⟩) 1 1) [(t,d)]:=by
 refine⟨[(t,(.slice a1 n1 c1,.slice a2 n2 c2,.slice a3 n3 c3))],rfl,⟨aNL (cs:=#[.int .i64 t,.slice a1 n1 c1,.slice a2 n2 c2,.slice a3 n3 c3]) hb hB rfl (by unfold maxLen;decide),fun k e=>?_⟩,fun d hd=>?_,fun i hi vN=>?_⟩
 ·have:g=k:=by injection e
  subst this;exact hX
 ·rw[dK.1 hd];exact a0D _ _ _ _ _ _ _ _ _
 ·obtain rfl:i=0:=by simpa using hi
  exact⟨rfl,hd.keep (Kp.same (fun k _ _ h e=>h (e.elim .inl (fun e=> .inr (by injection e with e;exact e.symm)))))⟩
theorem YK (X:Nat→Prop) (B f:Nat) (w:World):oP X B w f (.slice none 0 0) ([]:List (Int×jY f)):=
 ⟨[],rfl,⟨lC _ _ _ _,fun k e=>by cases e⟩,fun d hd=>(by cases hd),fun i hi=>by cases hi⟩
structure aX2 (x:pX):Prop where
 z:∀t∈x.z,t.2.2.2.length≤1000000
 p:∀t∈x.p,t.2.2.2.length≤1000000
 g:∀t∈x.g,t.2.2.2.length≤1000000
 i:∀t∈x.i,t.2.2.2.length≤1000000
 f:∀t∈x.f,t.2.2.2.length≤1000000
theorem aKW {zs:List Tz} {n:Nat} (hn:zs.length=n) (h:Pw (zs.map tag)):∀i,i+1<n→key zs i<key zs (i+1):=fun i hi=>by
 have:=gH.1 h i (i+1) (by simp;omega) (by simp;omega) aG;simp only[fI]at this;unfold key;rw[kF aG,kF aG];exact this
theorem aCI {w:World} {a:Option Addr} {n c:Nat} {zs:List Tz} (h:Tr w a n c zs) (hd:∀t∈zs.map tag,t.2.2.2.length≤1000000):∀z∈zs,z.1.2.2.2.2.1≤1000000:=fun z hz=>by
 have h1:=(h.each z hz:Sl w z.1.2.2.2.1 z.1.2.2.2.2.1 z.1.2.2.2.2.2 1 (ints .u8 z.2)).p9;have h2:=hd (tag z) (iO hz);have e:(tag z).2.2.2=z.2:=rfl;rw[e]at h2;omega
theorem aKX (x:pX) (A:ExA) (w:World) (h:ExR w x A) (hs:vJ x) (hd:aX2 x) (hpw:Pw x.p):
  Calls Tryz.prog 60 #[exV x.o A] w fun e w'=>∃a1 n1 c1 a2 n2 c2,e= .returned (.agg #[.slice a1 n1 c1,.slice a2 n2 c2,.slice none 0 0])∧nX QJ w.heap.size w' 15 (vI x) (.slice a1 n1 c1,.slice a2 n2 c2,.slice none 0 0)∧Below w.heap.size w w':=by
 obtain⟨za,zn,zc,pa,pn,pc,ga,gn,gc,ia,iN,ic,fa,fn,fc,ma,mn,mc,ta,tn,tc⟩:=A;obtain⟨o,z,p,g,i,f,mk,th⟩:=x;obtain⟨sz,sp,sg,si,sf,sm,st⟩:=hs;obtain⟨dz,dp,dg,di,df⟩:=hd;simp only at sz sp sg si sf sm st dz dp dg di df hpw;obtain⟨hz,hp,hg,hi,hf,hm,ht⟩:=h;simp only[exV,VT]at*;have lz:=hz.len;have lp:=hp.len;have lg:=hg.len;have li:=hi.len;have lf:=hf.len;have lm:=hm.p9;have lt:=ht.p9;obtain⟨W,hW,bE,bR,hb,tC⟩:=sN w 61 #[.int .i64 o,.slice za zn zc,.slice pa pn pc,.slice ga gn gc,.slice ia iN ic,.slice fa fn fc,.slice ma mn mc,.slice ta tn tc] 26 #[.slice none 0 0,.slice none 0 0,.slice none 0 0];obtain⟨GX,hp',hg',vN,hf',hm',KS,lz',lp',lg',li',lf'⟩:=aT hz hp hg hi hf hm ht lz lp lg li lf;obtain⟨lm',lt',bE',bR',pW,WH,a8X⟩:=aO lm lt bE bR hb hW tC;clear hz hp hg hi hf hm ht lz lp lg li lf lm lt bE bR hb hW tC;obtain⟨zs,UB,hzp⟩:=hp'.o;have bET:=UB.tr.mono pW.o;have hO:=a6L pa pn pc zs W bET (by have:=UB.len;rw[←dF (f:=nO),←hzp]at this;omega) (aCI UB.tr (by rw[M4,←hzp];exact dp));have q1:=bE'.o.cell (i:=1) rfl;have q2:=bE'.o.cell (i:=2) rfl;have q3:=bE'.o.cell (i:=3) rfl;have q4:=bE'.o.cell (i:=4) rfl;have q5:=bE'.o.cell (i:=5) rfl;have q6:=bE'.o.cell (i:=6) rfl;have q7:=bE'.o.cell (i:=7) rfl;obtain⟨sz',sp',sg',si',sf',sm',st',dz',dp',dg',di',df'⟩:=aT sz sp sg si sf sm st dz dp dg di df;obtain⟨bEU,bTO,b4S,c30,hO'⟩:=aM hpw UB hzp bET hO;clear sz sp sg si sf sm st dz dp dg di df hpw UB hzp bET hO;go_enter Tryz.func60,Tryz.ntmps60;go_upto_region 1 with fail
 rw[WH.o];go_wp2_with fail
 refine hO'.o.mono ?_;rintro e w1 ⟨a1,c1,zs1,rfl,hto,qC,kV⟩;have xS:=pW.o.tm kV;have bE1:=bE'.o.late kV;have bR1:=bR'.o.late kV;have bD:=kG.new w1 26 #[.slice a1 pn c1,.slice none 0 0,.slice none 0 0];have kU:=aD w1 (.cells #[.slice a1 pn c1,.slice none 0 0,.slice none 0 0] 26);obtain⟨w2,hw2⟩:∃W,w1.alloc (.cells #[.slice a1 pn c1,.slice none 0 0,.slice none 0 0] 26)=W:=⟨_,rfl⟩;rw[hw2]at bD kU;obtain⟨gd,UA⟩:∃g,w1.heap.size=g:=⟨_,rfl⟩;rw[UA]at bD;have bE2:=bE1.late kU;have bR2:=bR1.late kU;have P8:=xS.tm kU;have aRD:=hto.later kU;clear q1 q2 q3 q4 q5 q6 q7;have q1:=bE2.cell (i:=1) rfl;have q2:=bE2.cell (i:=2) rfl;have q3:=bE2.cell (i:=3) rfl;have q4:=bE2.cell (i:=4) rfl;have q5:=bE2.cell (i:=5) rfl;have q6:=bE2.cell (i:=6) rfl;have q7:=bE2.cell (i:=7) rfl;obtain⟨lZ,b4T,KR,qP,a6N,QS,bD',qR,bEV,OI,bEW,a6O⟩:=aT kV hto qC xS bE1 bR1 bD kU hw2 UA bE2 bR2;obtain⟨vY,a6P⟩:=aJ P8 aRD;clear kV hto qC xS bE1 bR1 bD kU hw2 UA bE2 bR2 P8 aRD;go_upto_region 2 with fail
 rw[bEV.o,OI.o];by_cases hm0:0<mn
 ·have e1:decide ((0:Int)<mn)=true:=by simpa using hm0
  have hN:=fun W (h:Below w.heap.size w W)=>aRB ma mn mc mk W (hm'.o.mono h) (by have:=lm'.o;have:=sm'.o;omega);have hkr:∀j,j+1<pn→key zs1 j<key zs1 (j+1):=aKW a6P.o.len (by rw[KR.o,M4,←b4S.o];exact bEU.o);have hkb:∀t∈zs1.map tag,t.2.2.2.length≤1000000:=by rw[KR.o,M4,←b4S.o];exact dp'.o
  have hpn:pn≤400:=by have:=lp'.o;have:=sp'.o;omega
  obtain⟨Ty,ff,pQ,kI,kE⟩:=kM w2;obtain⟨HS,HD⟩:=aJ (kE w2.drew ((bF _ _).drew)) ((bF w2.heap.size w2).drew);have k0:=fun s=>(bD'.o.late (kI s)).cell (i:=0) rfl;have k6:=fun s=>(bEW.o.late (kI s)).cell (i:=6) rfl;obtain⟨bM7,hN',bXE,c1K,aPO,kD,jV⟩:=aO hm0 hN hkr hkb hpn kI kE;clear hm0 hN hkr hkb hpn kI kE;go_upto_region 3 with fail
  clear q1 q2 q3 q4 q5 q6 q7;refine a3R ?_;refine xX (t:=7) (C:=fun W=>∃s,W=ff s) aF 8 rfl ?_;obtain⟨wD,xB⟩:=aC w2.drew;rw[xB]at HS HD ⊢;clear xB;refine pR [0,1,2,3] 4 aF xO aF aF aF HS.o ?_;simp only[jW,aW,aX,aU,aV];iterate 4 (go_big_quiet_step (fail))
  refine wpQuiet_nil ?_;refine mJ 4 3 aF aF ?_;simp only[jW,aW,aX,aU,aV];go_wp2_with fail
  refine(hN'.o wD (vY.o.tm HD.o)).mono ?_;rintro e w3 ⟨an,cn,rfl,hon,kT⟩;have V7:=HD.o.tm kT;have HS:=aA (jV.o w3 V7);have UG:=(Sl.kZ hon).1;obtain⟨sM,G7,NZ⟩:=aK kT V7 UG;clear kT V7 UG;clear hon;go_wp2_with fail
  refine Mid.mk ⟨fun _=>HS.o,?_⟩;refine mJ 5 2 aF aF ?_;simp only[jW,aW,aX,aU,aV];go_wp2_with fail
  refine(b2M a1 pn c1 zs1 37500 7 mn an mn cn mk w3 (a6P.o.later G7.o).tr bXE.o (by have:=aPO.o;omega) (aCI (a6P.o.tr) c1K.o) NZ.o (by have:=lm'.o;have:=sm'.o;omega)).mono ?_;rintro e w4 ⟨a4,n4,c4,zs4,rfl,bM8,hz4,mX⟩;have PS:=G7.o.tm mX;have HS:=aA (jV.o w4 PS);have hD4:=bD'.o.late PS;have hE4:=bEW.o.late PS;have hR4:=a6O.o.late PS;have hB4:=vY.o.tm PS;have p0:=hD4.cell (i:=0) rfl;have v0:=hD4.frozen 0;have b28:w.heap.size≤w3.heap.size:=bU vY.o.size G7.o.size;have ept:oO ⟨o,z,p,g,i,f,mk,th⟩=EW p (NS mk):=if_pos (show 0<mk.length by have:=lm'.o;have:=bM7.o;omega);have hT4:lX QJ w3.heap.size w4 (.slice a4 n4 c4) (oO ⟨o,z,p,g,i,f,mk,th⟩):=bM8.at_ (by rw[hz4,KR.o,M4,←b4S.o,ept];unfold NS;rw[show(mk.length:Int)=mn by have:=lm'.o;omega]);have hT4:=hT4.mono b28;clear bM8 hz4 ept;obtain⟨xG,b7A,aTF,bXF,QO,aOW,aOV,c33⟩:=aP mX PS hD4 hE4 hR4 hB4 hT4 b28;clear mX PS hD4 hE4 hR4 hB4 hT4 b28;go_wp2_with fail
  refine Mid.mk ⟨fun _=>HS.o,?_⟩;refine pR [6] 1 aF xO aF aF aF HS.o ?_;simp only[jW,aW,aX,aU,aV];iterate 1 (go_big_quiet_step (fail))
  refine wpQuiet_nil ?_;refine mJ 7 0 aF aF ?_;simp only[jW,aW,aX,aU,aV];go_wp2_with fail
  have hDn:=aTF.o.set 0 (.slice a4 n4 c4);have bXG:w.heap.size≠gd:=by have:=OI.o;have:=qP.o.size;have:=QS.o.lt;omega
  have bXH:w.heap.size+1≠gd:=by have:=OI.o;have:=QS.o.lt;omega
  have bXI:w.heap.size≤gd:=by have:=OI.o;have:=qP.o.size;omega
  have hRn:=QO.o.mO (g':=gd) bXH 0 (.slice a4 n4 c4);have hEn:=bXF.o.mO (g':=gd) bXG 0 (.slice a4 n4 c4);have hBn:=aOW.o.setCell (p:=⟨gd,0,none⟩) bXI (.slice a4 n4 c4);have aP9:=(But.refl gd w4).set 0 (.slice a4 n4 c4);have hTn:=lX.D7 aOV.o aP9 aTF.o;clear aP9 p0 v0 k0 k6;obtain⟨a2H,yY,XK,a6Q,aRE⟩:=aM hDn hRn hEn hBn hTn;clear hDn hRn hEn hBn hTn;first|refine Mid.mk ⟨(fun h=>by cases h),?_⟩|refine Mid.mk ⟨(fun h=>absurd h aH),?_⟩
  refine zY aF ?_;refine II ?_;generalize w4.setCell ⟨gd,0,none⟩ (.slice a4 n4 c4)=w8 at*;have q1:=XK.o.cell (i:=1) rfl;have q2:=XK.o.cell (i:=2) rfl;have q3:=XK.o.cell (i:=3) rfl;have q4:=XK.o.cell (i:=4) rfl;have q5:=XK.o.cell (i:=5) rfl;have q6:=XK.o.cell (i:=6) rfl;have q7:=XK.o.cell (i:=7) rfl;go_upto_region 4 with fail
  by_cases AY:0<iN
  ·have e2:decide ((0:Int)<iN)=true:=by simpa using AY
   obtain⟨zi,hzi,aX3⟩:=vN.o;have aKY:=hzi.tr.mono a6Q.o;have hli:iN≤1000000:=by have:=hzi.len;rw[←dF (f:=nO),←aX3]at this;have:=si'.o;omega
   have hOi:=zK ia iN ic i w8 (vN.o.mono a6Q.o) hli di'.o;obtain⟨aX4,bEX,bXJ⟩:=aK AY hOi hli;clear AY hOi hli;clear hzi aX3 aKY;go_wp2_with fail
   refine bEX.o.mono ?_;rintro e w5 ⟨ai,ci,rfl,hti,nV⟩;have bSu:=kG.new w5 28 #[.int .i64 40965,.slice ai iN ci,.slice none 0 0,.slice none 0 0];have YL:=aD w5 (.cells #[.int .i64 40965,.slice ai iN ci,.slice none 0 0,.slice none 0 0] 28);obtain⟨w6,hw6⟩:∃W,w5.alloc (.cells #[.int .i64 40965,.slice ai iN ci,.slice none 0 0,.slice none 0 0] 28)=W:=⟨_,rfl⟩;rw[hw6]at bSu YL;have aKZ:=(hti.away (X:=fun k=>QJ k∨k=w5.heap.size) (fun k hk=>hk.elim (fun h=>h.elim) (fun h=> .inr aG))).keep (Kp.later YL);obtain⟨gS,hgS⟩:∃g,w5.heap.size=g:=⟨_,rfl⟩;rw[hgS]at bSu aKZ;have h56:=nV.tm YL;have hD6:=a2H.o.late h56;have hE6:=XK.o.late h56;have hR6:=yY.o.late h56;have Z8:=a6Q.o.tm h56;have hT6:=aRE.o.keep (Kp.later h56);have vQ:w.heap.size≤gS:=by rw[←hgS];exact bU a6Q.o.size nV.size
   have hlv:nX (fun k=>QJ k∨k=gS) w.heap.size w6 14 (vH 13 i) (.slice ai iN ci,.slice none 0 0,.slice none 0 0):=aKV (aKZ.mono a6Q.o.size);have hS6:oP QJ w.heap.size w6 14 (.slice (some ⟨gS,0,none⟩) 1 1) [(40965,vH 13 i)]:=aX1 bSu vQ (fun h=>h) hlv;have p1:=hD6.cell (i:=1) rfl;have v1:=hD6.frozen 1;rw[←hw6]at p1 v1;have hDn:=hD6.set 1 (.slice (some ⟨gS,0,none⟩) 1 1);have OG:w.heap.size≠gd:=by have:=OI.o;have:=qP.o.size;have:=QS.o.lt;omega
   have EH:w.heap.size+1≠gd:=by have:=OI.o;have:=QS.o.lt;omega
   have aMC:w.heap.size≤gd:=by have:=OI.o;have:=qP.o.size;omega
   have hRn:=hR6.mO (g':=gd) EH 1 (.slice (some ⟨gS,0,none⟩) 1 1);have hEn:=hE6.mO (g':=gd) OG 1 (.slice (some ⟨gS,0,none⟩) 1 1);have hBn:=Z8.setCell (p:=⟨gd,1,none⟩) aMC (.slice (some ⟨gS,0,none⟩) 1 1);have a00:=(But.refl gd w6).set 1 (.slice (some ⟨gS,0,none⟩) 1 1);have hTn:=lX.D7 hT6 a00 hD6;have hSn:=oP.D7 hS6 a00 hD6;have esu:pE ⟨o,z,p,g,i,f,mk,th⟩= [(40965,vH 13 i)]:=if_pos (show 0<i.length by have:=li'.o;have:=aX4.o;omega);rw[←esu]at hSn;clear hti nV YL aKZ h56 hlv hS6 a00 hT6 vQ esu;obtain⟨bXK,aL0,bEY,bXL,b4U,aL1,bBV,a2H,yY,XK,a6Q,aRE⟩:=aT bSu hw6 hgS hD6 hE6 hR6 Z8 hDn hRn hEn hBn hTn;obtain⟨aCJ,b7R,aW3,bM9⟩:=aL hSn OG EH aMC;clear bSu hw6 hgS hD6 hE6 hR6 Z8 hDn hRn hEn hBn hTn hSn OG EH aMC;clear q1 q2 q3 q4 q5 q6 q7;go_upto_region 6 with fail
   try rw[aL0.o]
   try rw[bEY.o]
   generalize w6.setCell ⟨gd,1,none⟩ (.slice (some ⟨gS,0,none⟩) 1 1)=w7 at*;clear p1 v1;have q1:=XK.o.cell (i:=1) rfl;have q2:=q1;have q3:=q1;have q4:=q1;have q5:=q1;have q6:=q1;have q7:=q1;have d0:=a2H.o.cell (i:=0) rfl;have d1:=a2H.o.cell (i:=1) rfl;have d2:=a2H.o.cell (i:=2) rfl;have r0:=yY.o.cell (i:=0) rfl;have r1:=yY.o.cell (i:=1) rfl;have r2:=yY.o.cell (i:=2) rfl;have y0:=yY.o.frozen 0;have y1:=yY.o.frozen 1;have y2:=yY.o.frozen 2;go_wp2_with fail
   have mQ:=(((But.refl (w.heap.size+1) w7).set 0 (.slice a4 n4 c4)).set 1 (.slice (some ⟨gS,0,none⟩) 1 1)).set 2 (.slice none 0 0);have hT9:=lX.D7 aRE.o mQ yY.o;have hS9:=oP.D7 aCJ.o mQ yY.o;refine bodyPost_ret (results_cell_row rfl _ _ (w.heap.size+1) 26 #[.slice a4 n4 c4,.slice (some ⟨gS,0,none⟩) 1 1,.slice none 0 0] (0,0) _ rfl (yY.o.D5 _ _ _) Tryz.underlying26 rfl aF) rfl ?_;exact⟨_,_,_,_,_,_,rfl,QI hT9 hS9 ⟨lC _ _ _ _,fun k e=>by cases e⟩ (aY _) (aY _),lT a6Q.o (dX _ 1) _ _ _⟩
  ·have e2:decide ((0:Int)<iN)=false:=by simp;omega
   have esu:pE ⟨o,z,p,g,i,f,mk,th⟩= []:=if_neg (show ¬0<i.length by have:=li'.o;omega);have hSn:=YK QJ w.heap.size 14 w8;rw[←esu]at hSn;clear esu;obtain⟨aX4,aCJ⟩:=aJ AY hSn;clear AY hSn;have d0:=a2H.o.cell (i:=0) rfl;have d1:=a2H.o.cell (i:=1) rfl;have d2:=a2H.o.cell (i:=2) rfl;have r0:=yY.o.cell (i:=0) rfl;have r1:=yY.o.cell (i:=1) rfl;have r2:=yY.o.cell (i:=2) rfl;have y0:=yY.o.frozen 0;have y1:=yY.o.frozen 1;have y2:=yY.o.frozen 2;go_wp2_with fail
   have mQ:=(((But.refl (w.heap.size+1) w8).set 0 (.slice a4 n4 c4)).set 1 (.slice none 0 0)).set 2 (.slice none 0 0);have hT9:=lX.D7 aRE.o mQ yY.o;have hS9:=oP.D7 aCJ.o mQ yY.o;refine bodyPost_ret (results_cell_row rfl _ _ (w.heap.size+1) 26 #[.slice a4 n4 c4,.slice none 0 0,.slice none 0 0] (0,0) _ rfl (yY.o.D5 _ _ _) Tryz.underlying26 rfl aF) rfl ?_;exact⟨_,_,_,_,_,_,rfl,QI hT9 hS9 ⟨lC _ _ _ _,fun k e=>by cases e⟩ (aY _) (aY _),lT a6Q.o (dX _ 1) _ _ _⟩
 ·have e1:decide ((0:Int)<mn)=false:=by simp;omega
  have ept:oO ⟨o,z,p,g,i,f,mk,th⟩=p:=if_neg (show ¬0<mk.length by have:=lm'.o;omega);have hTt:=a6P.o.at_ (KR.o.trans ((M4 zs).trans b4S.o.symm));have hTt:=hTt.mono pW.o.size;rw[←ept]at hTt;clear ept;obtain⟨bM7,bMA⟩:=aJ hm0 hTt;clear hm0 hTt;go_upto_region 4 with fail
  by_cases AY:0<iN
  ·have e2:decide ((0:Int)<iN)=true:=by simpa using AY
   obtain⟨zi,hzi,aX3⟩:=vN.o;have aKY:=hzi.tr.mono vY.o;have hli:iN≤1000000:=by have:=hzi.len;rw[←dF (f:=nO),←aX3]at this;have:=si'.o;omega
   have hOi:=zK ia iN ic i w2 (vN.o.mono vY.o) hli di'.o;obtain⟨aX4,bEX,bXJ⟩:=aK AY hOi hli;clear AY hOi hli;clear hzi aX3 aKY;go_wp2_with fail
   refine bEX.o.mono ?_;rintro e w5 ⟨ai,ci,rfl,hti,nV⟩;have bSu:=kG.new w5 28 #[.int .i64 40965,.slice ai iN ci,.slice none 0 0,.slice none 0 0];have YL:=aD w5 (.cells #[.int .i64 40965,.slice ai iN ci,.slice none 0 0,.slice none 0 0] 28);obtain⟨w6,hw6⟩:∃W,w5.alloc (.cells #[.int .i64 40965,.slice ai iN ci,.slice none 0 0,.slice none 0 0] 28)=W:=⟨_,rfl⟩;rw[hw6]at bSu YL;have aKZ:=(hti.away (X:=fun k=>QJ k∨k=w5.heap.size) (fun k hk=>hk.elim (fun h=>h.elim) (fun h=> .inr aG))).keep (Kp.later YL);obtain⟨gS,hgS⟩:∃g,w5.heap.size=g:=⟨_,rfl⟩;rw[hgS]at bSu aKZ;have h56:=nV.tm YL;have hD6:=bD'.o.late h56;have hE6:=bEW.o.late h56;have hR6:=a6O.o.late h56;have Z8:=vY.o.tm h56;have hT6:=bMA.o.keep (Kp.later h56);have vQ:w.heap.size≤gS:=by rw[←hgS];exact bU vY.o.size nV.size
   have hlv:nX (fun k=>QJ k∨k=gS) w.heap.size w6 14 (vH 13 i) (.slice ai iN ci,.slice none 0 0,.slice none 0 0):=aKV (aKZ.mono vY.o.size);have hS6:oP QJ w.heap.size w6 14 (.slice (some ⟨gS,0,none⟩) 1 1) [(40965,vH 13 i)]:=aX1 bSu vQ (fun h=>h) hlv;have p1:=hD6.cell (i:=1) rfl;have v1:=hD6.frozen 1;rw[←hw6]at p1 v1;have hDn:=hD6.set 1 (.slice (some ⟨gS,0,none⟩) 1 1);have OG:w.heap.size≠gd:=by have:=OI.o;have:=qP.o.size;have:=QS.o.lt;omega
   have EH:w.heap.size+1≠gd:=by have:=OI.o;have:=QS.o.lt;omega
   have aMC:w.heap.size≤gd:=by have:=OI.o;have:=qP.o.size;omega
   have hRn:=hR6.mO (g':=gd) EH 1 (.slice (some ⟨gS,0,none⟩) 1 1);have hEn:=hE6.mO (g':=gd) OG 1 (.slice (some ⟨gS,0,none⟩) 1 1);have hBn:=Z8.setCell (p:=⟨gd,1,none⟩) aMC (.slice (some ⟨gS,0,none⟩) 1 1);have a00:=(But.refl gd w6).set 1 (.slice (some ⟨gS,0,none⟩) 1 1);have hTn:=lX.D7 hT6 a00 hD6;have hSn:=oP.D7 hS6 a00 hD6;have esu:pE ⟨o,z,p,g,i,f,mk,th⟩= [(40965,vH 13 i)]:=if_pos (show 0<i.length by have:=li'.o;have:=aX4.o;omega);rw[←esu]at hSn;clear hti nV YL aKZ h56 hlv hS6 a00 hT6 vQ esu;obtain⟨bXK,aL0,bEY,bXL,b4U,aL1,bBV,a2H,yY,XK,a6Q,aRE⟩:=aT bSu hw6 hgS hD6 hE6 hR6 Z8 hDn hRn hEn hBn hTn;obtain⟨aCJ,b7R,aW3,bM9⟩:=aL hSn OG EH aMC;clear bSu hw6 hgS hD6 hE6 hR6 Z8 hDn hRn hEn hBn hTn hSn OG EH aMC;clear q1 q2 q3 q4 q5 q6 q7;go_upto_region 6 with fail
   try rw[aL0.o]
   try rw[bEY.o]
   generalize w6.setCell ⟨gd,1,none⟩ (.slice (some ⟨gS,0,none⟩) 1 1)=w7 at*;clear p1 v1;have q1:=XK.o.cell (i:=1) rfl;have q2:=q1;have q3:=q1;have q4:=q1;have q5:=q1;have q6:=q1;have q7:=q1;have d0:=a2H.o.cell (i:=0) rfl;have d1:=a2H.o.cell (i:=1) rfl;have d2:=a2H.o.cell (i:=2) rfl;have r0:=yY.o.cell (i:=0) rfl;have r1:=yY.o.cell (i:=1) rfl;have r2:=yY.o.cell (i:=2) rfl;have y0:=yY.o.frozen 0;have y1:=yY.o.frozen 1;have y2:=yY.o.frozen 2;go_wp2_with fail
   have mQ:=(((But.refl (w.heap.size+1) w7).set 0 (.slice a1 pn c1)).set 1 (.slice (some ⟨gS,0,none⟩) 1 1)).set 2 (.slice none 0 0);have hT9:=lX.D7 aRE.o mQ yY.o;have hS9:=oP.D7 aCJ.o mQ yY.o;refine bodyPost_ret (results_cell_row rfl _ _ (w.heap.size+1) 26 #[.slice a1 pn c1,.slice (some ⟨gS,0,none⟩) 1 1,.slice none 0 0] (0,0) _ rfl (yY.o.D5 _ _ _) Tryz.underlying26 rfl aF) rfl ?_;exact⟨_,_,_,_,_,_,rfl,QI hT9 hS9 ⟨lC _ _ _ _,fun k e=>by cases e⟩ (aY _) (aY _),lT a6Q.o (dX _ 1) _ _ _⟩
  ·have e2:decide ((0:Int)<iN)=false:=by simp;omega
   have esu:pE ⟨o,z,p,g,i,f,mk,th⟩= []:=if_neg (show ¬0<i.length by have:=li'.o;omega);have hSn:=YK QJ w.heap.size 14 w2;rw[←esu]at hSn;clear esu;obtain⟨aX4,aCJ⟩:=aJ AY hSn;clear AY hSn;have d0:=bD'.o.cell (i:=0) rfl;have d1:=bD'.o.cell (i:=1) rfl;have d2:=bD'.o.cell (i:=2) rfl;have r0:=a6O.o.cell (i:=0) rfl;have r1:=a6O.o.cell (i:=1) rfl;have r2:=a6O.o.cell (i:=2) rfl;have y0:=a6O.o.frozen 0;have y1:=a6O.o.frozen 1;have y2:=a6O.o.frozen 2;go_wp2_with fail
   have mQ:=(((But.refl (w.heap.size+1) w2).set 0 (.slice a1 pn c1)).set 1 (.slice none 0 0)).set 2 (.slice none 0 0);have hT9:=lX.D7 bMA.o mQ a6O.o;have hS9:=oP.D7 aCJ.o mQ a6O.o;refine bodyPost_ret (results_cell_row rfl _ _ (w.heap.size+1) 26 #[.slice a1 pn c1,.slice none 0 0,.slice none 0 0] (0,0) _ rfl (a6O.o.D5 _ _ _) Tryz.underlying26 rfl aF) rfl ?_;exact⟨_,_,_,_,_,_,rfl,QI hT9 hS9 ⟨lC _ _ _ _,fun k e=>by cases e⟩ (aY _) (aY _),lT vY.o (dX _ 1) _ _ _⟩
theorem b4V {t:oZ} (h:DY t.1=true) (hb:pF t.2.2.2):a1R t:=by
 unfold DY at h;simp only[bK,decide_eq_true_eq]at h;refine⟨?_,hb⟩;simp[Lit.wf,IntKind.min,IntKind.max,IntKind.signed,IntKind.bits];omega
theorem aX5 {t:oZ} (h:WA t=true):t.2.2.2.length≤524288:=(aBZ (o:=1) (show wH t.2.1 t.2.2.1 t.2.2.2=true from h) (.inl rfl)).small
structure OfK (o:Int) (ds:List (jY 16)):Prop where
 ord:o=1∨o=2
 len:ds.length=1∨ds.length=2
 h0:LP vB 15 (ds.getD 0 (kS 16)) 0
 h1:ds.length=2→LP vB 15 (ds.getD 1 (kS 16)) 1
theorem bEZ {o:Int} {ds:List (jY 16)} (h:oD 16 o ds vB=0):OfK o ds:=by
 unfold oD at h;split at h
 ·rename_i h1;split at h
  ·rename_i h2;split at h
   ·rename_i h3;simp only[bK,dN,dW,decide_eq_true_eq,decide_eq_false_iff_not]at h1;have lY:∀k,k<ds.length→nN vB 16 (ds.getD k (kS 16)) (o8 vB k)=true:=fun k hk=>dI.1 h3 k (cZ.2 hk);have hch:∀k,k<ds.length→0≤o8 vB k:=fun k hk=>of_decide_eq_true (dI.1 h2 k (cZ.2 hk));have hl:ds.length=1∨ds.length=2:=by
     by_cases h3:2<ds.length
     ·have:=hch 2 h3;rw[show o8 vB 2= -1 by decide+kernel]at this;omega
     ·have:=h1.2;omega
    refine⟨h1.1.2,hl,?_,fun h2=>?_⟩
    ·have:=lY 0 aG;rw[MZ.1]at this;exact rD.1 this
    ·have:=lY 1 aG;rw[MZ.2]at this;exact rD.1 this
   ·cases h
  ·cases h
 ·cases h
theorem a6R {f:Nat} {a b:Int} (hab:a<b) {l:List (Int×jY f)} (h:∀s∈l,s.1=a∨s.1=b) (hp:l.Pairwise fun x y=>x.1<y.1):
  l= []∨(∃p,l= [(a,p)])∨(∃g,l= [(b,g)])∨∃p g,l= [(a,p),(b,g)]:=by
 match l,h,hp with
 | [],_,_=>exact .inl rfl
 | [(t,d)],h,_=>
  rcases h _ (dK.2 rfl)with e|e
  ·have e:t=a:=e;subst e;exact .inr (.inl ⟨d,rfl⟩)
  ·have e:t=b:=e;subst e;exact .inr (.inr (.inl ⟨d,rfl⟩))
 |(t,d)::(u,e)::r,h,hp=>
  have h1:t=a∨t=b:=h (t,d) (by simp);have h2:u=a∨u=b:=h (u,e) (by simp);have h3:t<u:=(eP.1 hp).1 (u,e) (by simp);obtain rfl:t=a:=by omega
  obtain rfl:u=b:=by omega
  match r,h,hp with
  | [],_,_=>exact .inr (.inr (.inr ⟨d,e,rfl⟩))
  |(v,k)::r',h,hp=>
   exfalso
   have h4:v=t∨v=u:=h (v,k) (by simp);have h5:u<v:=(eP.1 (eP.1 hp).2).1 (v,k) (by simp);omega
theorem aX6 {f:Nat} {a:Int} {l:List (Int×jY f)} (h:∀s∈l,s.1=a) (hp:l.Pairwise fun x y=>x.1<y.1):l= []∨∃p,l= [(a,p)]:=by
 rcases a6R (a:=a) (b:=a+1) aG (fun s hs=> .inl (h s hs)) hp with e|⟨p,e⟩|⟨g,e⟩|⟨p,g,e⟩
 ·exact .inl e
 ·exact .inr ⟨p,e⟩
 ·have k:a+1=a:=h (a+1,g) (by rw[e];simp);omega
 ·have k:a+1=a:=h (a+1,g) (by rw[e];simp);omega
theorem aCK {f:Nat} {d:jY (f+1)} {i:Int} (h:LP vB f d i) {s:Int×jY f} (hs:s∈d.2.1):nQ (vB.getD i.toNat kQ) s.1=true∧nN vB f s.2 (vG (vB.getD i.toNat kQ) s.1)=true:=by
 obtain⟨j,hj,e⟩:=zH hs (0,kS f);have:=h.sb j hj;rw[e]at this;exact this
theorem SS {d:jY 16} (h:LP vB 15 d 0):∀s∈d.2.1,(s.1=34665∧LP vB 14 s.2 2)∨(s.1=34853∧LP vB 14 s.2 3):=fun s hs=>by
 obtain⟨h1,h2⟩:=aCK (i:=0) h hs;have h1:((34665:Int)==s.1||((34853:Int)==s.1||false))=true:=h1;simp only[dN,beq_iff_eq,Bool.or_false]at h1;rcases h1 with e|e
 ·left
  rw[←e,show vG (vB.getD (0:Int).toNat kQ) 34665=2 by decide+kernel]at h2;exact⟨e.symm,rD.1 h2⟩
 ·right
  rw[←e,show vG (vB.getD (0:Int).toNat kQ) 34853=3 by decide+kernel]at h2;exact⟨e.symm,rD.1 h2⟩
theorem NE {d:jY 15} (h:LP vB 14 d 2):∀s∈d.2.1,s.1=40965∧LP vB 13 s.2 4:=fun s hs=>by
 obtain⟨h1,h2⟩:=aCK (i:=2) h hs;have h1:((40965:Int)==s.1||false)=true:=h1;simp only[dN,beq_iff_eq,Bool.or_false]at h1;rw[←h1,show vG (vB.getD (2:Int).toNat kQ) 40965=4 by decide+kernel]at h2;exact⟨h1.symm,rD.1 h2⟩
theorem aRF {f:Nat} {d:jY (f+1)} {i:Int} (hi:i=3∨i=4∨i=1) (h:LP vB f d i):d.2.1= []:=by
 cases hd:d.2.1 with
 |nil=>rfl
 |cons s r=>
  exfalso
  have:=(aCK h (s:=s) (by rw[hd];simp)).1;rcases hi with rfl|rfl|rfl <;> cases this
def a6S (x:pX) (f:Nat) (d:jY (f+1)):pX:=⟨x.o,x.z,vD d.1 37500,x.g,d.2.1.foldl (fun _ u=>wW f u.2) x.i,x.f,(pI d.1 37500).2.2.2,x.th⟩
def NT (x:pX) (s:Int×jY 15):pX:=if s.1=34853 then {x with g:=wW 15 s.2}else a6S x 14 s.2
def x0O (o:Int) (ds:List (jY 16)):pX:=⟨o,wW 16 (ds.getD 0 (kS 16)), [], [], [], [], [], []⟩
def rR (ds:List (jY 16)):List (Int×jY 15):=(ds.getD 0 (kS 16)).2.1
def xkO (o:Int) (ds:List (jY 16)) (k:Nat):pX:=((rR ds).take k).foldl NT (x0O o ds)
theorem aGH {o:Int} {ds:List (jY 16)} {k:Nat} (h:k<(rR ds).length):xkO o ds (k+1)=NT (xkO o ds k) ((rR ds).getD k (0,kS 15)):=by
 unfold xkO;rw[dR,bH h,fT,kF h];rfl
theorem a1I {o:Int} {ds:List (jY 16)} (h:OfK o ds):rR ds= []∨(∃p,rR ds= [(34665,p)])∨(∃g,rR ds= [(34853,g)])∨∃p g,rR ds= [(34665,p),(34853,g)]:=
 a6R aH (fun s hs=>(SS h.h0 s hs).elim (fun e=> .inl e.1) (fun e=> .inr e.1)) h.h0.rs
theorem a6T {d:jY 15} (h:LP vB 14 d 2) (x:pX) (hi:x.i= []):(a6S x 14 d).i=wF 15 d 40965:=by
 have e:(a6S x 14 d).i=d.2.1.foldl (fun _ u=>wW 14 u.2) x.i:=rfl;rw[e,BU (f:=14) (d:=d) rfl];rcases aX6 (fun s hs=>(NE h s hs).1) h.rs with e|⟨p,e⟩
 ·rw[e];exact hi
 ·rw[e];rfl
theorem aX7 {o:Int} {ds:List (jY 16)} (h:OfK o ds):wX 16 o ds={xkO o ds (rR ds).length with f:=wW 16 (ds.getD 1 (kS 16)),th:=aN3 16 (ds.getD 1 (kS 16))}:=by
 have hz:=SS h.h0;have e1:∀t,wF 16 (ds.getD 0 (kS 16)) t=a1B 15 ((rR ds).find? (fun s=>s.1==t)):=fun t=>BU (f:=15) (d:=ds.getD 0 (kS 16)) rfl t;have e2:VF 16 (ds.getD 0 (kS 16)) 34665 40965=a5H 15 40965 ((rR ds).find? (fun s=>s.1==34665)):=a0A (f:=15) (d:=ds.getD 0 (kS 16)) rfl _ _;unfold wX xkO;rw[e1,e1,e2,List.take_length];rcases a1I h with e|⟨p,e⟩|⟨g,e⟩|⟨p,g,e⟩
 ·rw[e];rfl
 ·have hp:LP vB 14 p 2:=by
   rcases hz (34665,p) (by rw[show(ds.getD 0 (kS 16)).2.1=rR ds from rfl,e];simp)with k|k
   ·exact k.2
   ·have k1:(34665:Int)=34853:=k.1;omega
  rw[e];have k:=a6T hp (x0O o ds) rfl;show(⟨o,_,vD p.1 37500, [],wF 15 p 40965,_,_,_⟩:pX)=⟨o,_,vD p.1 37500, [],(a6S (x0O o ds) 14 p).i,_,_,_⟩
  rw[k];rfl
 ·rw[e];rfl
 ·have hp:LP vB 14 p 2:=by
   rcases hz (34665,p) (by rw[show(ds.getD 0 (kS 16)).2.1=rR ds from rfl,e];simp)with k|k
   ·exact k.2
   ·have k1:(34665:Int)=34853:=k.1;omega
  rw[e];have k:=a6T hp (x0O o ds) rfl;show(⟨o,_,vD p.1 37500,g.1,wF 15 p 40965,_,_,_⟩:pX)=⟨o,_,vD p.1 37500,g.1,(a6S (x0O o ds) 14 p).i,_,_,_⟩
  rw[k];rfl
