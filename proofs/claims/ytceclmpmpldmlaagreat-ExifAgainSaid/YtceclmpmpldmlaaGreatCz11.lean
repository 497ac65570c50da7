import Derived.Test.YtceclmpmpldmlaaGreatCz10
set_option linter.unusedSimpArgs false
set_option linter.unusedVariables false
namespace Go.Proofs.YtceclmpmpldmlaaGreat
open Go.RowKit Tt
attribute [local go_sem] Oper.semAt_some
theorem aE0 (o:Int) (a:Option Addr) (n c:Nat) (w:World):
  Calls Tryz.prog 99 #[.agg #[.int .i64 o,.slice a n c]] w fun e w'=>e= .returned (.func (.func 156) #[] #[.pointer (some ⟨w.heap.size,0,none⟩)])∧w'=w.alloc (.cells #[.int .i64 o,.slice a n c] 39):=by
 go_enter Tryz.func99,Tryz.ntmps99;go_wp2;go_ret;exact⟨rfl,rfl⟩
def bC0 (x:Flt):Prop:=∀t∈x.1,mW t.2.2.2
def pU:(f:Nat)→jD f→Prop
 |0,_=>True
 |f+1,d=>(∀t∈d.1,mW t.2.2.2)∧(∀s∈d.2.1,pU f s.2)∧mW d.2.2
structure FE (w:World) (N:Nat) (o:Int) (sa:Option Addr) (sn sc:Nat) (l:Loop) (W:World):Prop where
 below:Below N w W
 rb:jJ W (N+1) 4 #[.bool false]
 tb:jJ W (N+2) 39 #[.int .i64 o,.slice sa sn sc]
 df:W.heap[N+3]? =some (.deferred (some []))
 lb:W.heap[N+4]? =some (.loop l)
theorem FE.later {w:World} {N:Nat} {o:Int} {sa:Option Addr} {sn sc:Nat} {l:Loop} {W W':World} (h:FE w N o sa sn sc l W) (hb:Below W.heap.size W W'):FE w N o sa sn sc l W':=by
 obtain⟨h1,h2,h3,h4,h5⟩:=h;have lt:∀{k o},W.heap[k]? =some o→k<W.heap.size:=fun h=>(bY.1 h).1;have e5:=lt h5;exact⟨h1.trans (hb.mono (by omega)),h2.late hb,h3.late hb,(hb.block _ (lt h4)).trans h4,(hb.block _ e5).trans h5⟩
structure FC (N:Nat) (W:World):Prop where
 yb:jJ W (N+5) 223 #[.func (.yield (N+4)) #[] #[]]
 cb:∃j:Int,jJ W (N+6) 3 #[.int .i64 j]
 eb:jJ W (N+7) 135 #[.func (.func 157) #[] #[.pointer (some ⟨N+6,0,none⟩),.pointer (some ⟨N+5,0,none⟩),.pointer (some ⟨N+7,0,none⟩)]]
theorem FC.later {N:Nat} {W W':World} (h:FC N W) (hb:Below W.heap.size W W'):FC N W':=by
 obtain⟨h1,⟨j,h2⟩,h3⟩:=h;exact⟨h1.late hb,⟨j,h2.late hb⟩,h3.late hb⟩
structure pV (N:Nat) (W W':World):Prop where
 size:W.heap.size≤W'.heap.size
 block:∀k,N+7<k→k<W.heap.size→W'.heap[k]? =W.heap[k]?
theorem pV.trans {N:Nat} {W W1 W2:World} (h:pV N W W1) (k:pV N W1 W2):pV N W W2:=⟨bK h.size k.size,fun i h1 h2=>(k.block i h1 (cO h2 h.size)).trans (h.block i h1 h2)⟩
theorem pV.of_below {N:Nat} {W W':World} (h:Below W.heap.size W W'):pV N W W':=⟨h.size,fun k _ hk=>h.block k hk⟩
theorem pV.set {N:Nat} (W:World) (v:Value):pV N W (W.setCell ⟨N+6,0,none⟩ v):=⟨by simp,fun k h1 _=>eU _ _ _ _ (show k≠N+6 by omega)⟩
theorem aK8 {N:Nat} {W W':World} {g:Nat} {T:TypeId} {cs:Array Value} (h:jJ W g T cs) (hk:pV N W W') (hg:N+7<g):jJ W' g T cs:=(hk.block g hg h.lt).trans h
theorem FE.set {w:World} {N:Nat} {o:Int} {sa:Option Addr} {sn sc:Nat} {l:Loop} {W:World} (h:FE w N o sa sn sc l W) {b:Nat} (hb:N+4<b) (v:Value):FE w N o sa sn sc l (W.setCell ⟨b,0,none⟩ v):=by
 obtain⟨h1,h2,h3,h4,h5⟩:=h;have e:∀j,j≠b→(W.setCell ⟨b,0,none⟩ v).heap[j]? =W.heap[j]? :=fun j hj=>eU _ _ _ _ hj;exact⟨h1.setCell (by show N≤b;omega) v,(e _ (by omega)).trans h2,(e _ (by omega)).trans h3,(e _ (by omega)).trans h4,(e _ (by omega)).trans h5⟩
theorem FC.set {N:Nat} {W:World} (h:FC N W) (j:Int):FC N (W.setCell ⟨N+6,0,none⟩ (.int .i64 j)):=by
 obtain⟨h1,⟨i,h2⟩,h3⟩:=h;have e:∀k,k≠N+6→(W.setCell ⟨N+6,0,none⟩ (.int .i64 j)).heap[k]? =W.heap[k]? :=fun k hk=>eU _ _ _ _ hk;exact⟨(e _ (by omega)).trans h1,⟨j,h2.set 0 _⟩,(e _ (by omega)).trans h3⟩
def b51 (rec:LoopState→Option Code→Loop) (b:Bool):Loop:=if b=true then rec .ready none else rec .done (some .ret)
def aO4 (w:World) (N:Nat) (o:Int) (sa:Option Addr) (sn sc:Nat) (rec:LoopState→Option Code→Loop):Prop:=
 ∀(k:Nat) (W:World) (j:Int) (x:Flt) (v:Dz),9≤k→FE w N o sa sn sc (rec .ready none) W→FC N W→aJU w x v→aDP x→bC0 x→
  YieldAt Fence.wide k Tryz.prog (N+4) #[.int .i64 j,.agg #[v.1,v.2.1,v.2.2]] W fun e W'=>FC N W'∧pV N W W'∧e= .returned (.bool (okF x))∧FE w N o sa sn sc (b51 rec (okF x)) W'
def aO5 (w:World) (N:Nat) (o:Int) (sa:Option Addr) (sn sc:Nat) (rec:LoopState→Option Code→Loop) (f:Nat):Prop:=
 ∀(k:Nat) (W:World) (d:jD f) (dv:Dz),10+f≤k→zS w f d dv→lC f d→pU f d→FE w N o sa sn sc (rec .ready none) W→FC N W→
  CallsIn Fence.wide k Tryz.prog 157 #[.agg #[dv.1,dv.2.1,dv.2.2],.pointer (some ⟨N+6,0,none⟩),.pointer (some ⟨N+5,0,none⟩),.pointer (some ⟨N+7,0,none⟩)] W fun e W'=>
   FC N W'∧pV N W W'∧e= .returned (.bool ((jT f d).all okF))∧FE w N o sa sn sc (b51 rec ((jT f d).all okF)) W'
theorem aK9 (f:Nat) (ss:List (Int×jD f)) (p:Flt→Bool) {i:Nat} (hi:i<ss.length):(kD f (ss.take (i+1))).all p=((kD f (ss.take i)).all p&&(jT f ss[i].2).all p):=by
 rw[aDN f ss hi,j4]
theorem a5A (f:Nat) (ss:List (Int×jD f)) (p:Flt→Bool) {i:Nat} (h:(kD f (ss.take i)).all p=false):(kD f ss).all p=false:=by
 have e:ss=ss.take i++ss.drop i:=(eY i ss).symm;rw[e];unfold kD at h ⊢;rw[dW,j4,h];rfl
set_option maxRecDepth 100000 in
set_option maxHeartbeats 4000000 in
theorem aKA {w:World} {N:Nat} {o:Int} {sa:Option Addr} {sn sc:Nat} {rec:LoopState→Option Code→Loop} (hN:N=w.heap.size) (hr:aO4 w N o sa sn sc rec) (f:Nat) (ih:aO5 w N o sa sn sc rec f):aO5 w N o sa sn sc rec (f+1):=by
 intro k W d dv hk hd hs hby hF hC;have hbW:Below w.heap.size w W:=hN▸hF.below;have hfl:=hd.flt.mono hbW;obtain⟨ta,tn,tc,zs,pa,pn,pc,ds,ba,bn,bc,rfl,WV,hdt,hsl,hdl,hsub,hbl⟩:=hd;obtain⟨k,rfl⟩:∃k',k=k'+1:=⟨k - 1,by omega⟩;have hpn:d.2.1.length=pn:=by rw[←hdl];exact hsl.uY oO (by decide)
 have e:(jT (f+1) d).all okF=(okF (d.1,d.2.1.length,d.2.2)&&(kD f d.2.1).all okF):=rfl;rw[e];have hmx:=hsl.max;have hml:=hsl.le;have b53:=aDQ (f+1) d hs (d.1,d.2.1.length,d.2.2) (bJ ..);have b54:bC0 (d.1,d.2.1.length,d.2.2):=hby.1;obtain⟨j,hcb⟩:=hC.cb;have hal:=aD W (.cells #[.slice ta tn tc,.slice pa pn pc,.slice ba bn bc] 26);have bk:=jJ.new W 26 #[.slice ta tn tc,.slice pa pn pc,.slice ba bn bc];obtain⟨j1,hj1⟩:=aC (IntKind.i64.wrap (j+1));obtain⟨j2,hj2⟩:=aC (IntKind.i64.wrap (j1 - 1));have hF1:=(hF.later hal).set (b:=N+6) (by omega) (.int .i64 j1);have hC1:=(hC.later hal).set j1;have bC1:=(hfl.mono hal);have hNW:N+7<W.heap.size:=hC.eb.lt;have aWT:=hcb.late hal;have c6:(W.alloc (.cells #[.slice ta tn tc,.slice pa pn pc,.slice ba bn bc] 26)).cell? ⟨N+6,0,none⟩=some (.int .i64 j):=aWT.cell rfl;have z6:=aWT.frozen 0;have b55:aJU w (d.1,d.2.1.length,d.2.2) (.slice ta tn tc,.slice pa pn pc,.slice ba bn bc):=zS.flt (f:=f) (d:=d) ⟨ta,tn,tc,zs,pa,pn,pc,ds,ba,bn,bc,rfl,WV,hdt,hsl,hdl,hsub,hbl⟩;obtain⟨fn,tmps,assign,body,hy,hR⟩:=hr k _ j2 _ _ (by omega) hF1 hC1 b55 b53 b54;have q5:=hC1.yb.cell (i:=0) rfl;have q7:=hC1.eb.cell (i:=0) rfl;have bk1:jJ ((W.alloc (.cells #[.slice ta tn tc,.slice pa pn pc,.slice ba bn bc] 26)).setCell ⟨N+6,0,none⟩ (.int .i64 j1)) W.heap.size 26 #[.slice ta tn tc,.slice pa pn pc,.slice ba bn bc]:=(eU _ _ _ _ (show W.heap.size≠N+6 by omega)).trans bk;have d0:=bk1.cell (i:=0) rfl;have d1:=bk1.cell (i:=1) rfl;have d2:=bk1.cell (i:=2) rfl;have z5:=hC1.yb.frozen 0;obtain⟨EC,b5A,a4R,hdt',uE,AQ,wV,qY,aJX,e',bRC,bRD⟩:=aP hbW hfl WV hdt hsl hdl hsub hbl hpn e b53 b54;obtain⟨bTT,oM,bk',bTU,bTV,bRE,bRF,bRG,hR',bL9,hF',hC'⟩:=aP hcb hal bk hF1 hC1 bC1 aWT b55 hR bk1 hF hC;obtain⟨hs',rZ⟩:=aF hs hby;obtain⟨ih',hr',hN'⟩:=aG ih hr hN;clear hbW hfl WV hdt hsl hdl hsub hbl hpn e b53 b54 hcb hal bk hF1 hC1 bC1 aWT b55 hR bk1 hF hC hs hby ih hr hN;obtain⟨okx,aE1⟩:∃b,okF (d.1,d.2.1.length,d.2.2)=b:=⟨_,rfl⟩;rw[aE1];rw[aE1]at hR';obtain⟨R,hRR⟩:=aC (okx&&(kD f d.2.1).all okF);rw[hRR];obtain⟨bRH,aJD⟩:=aF aE1 hRR;clear aE1 hRR;refine callsIn_of_wp Tryz.func157 rfl trivial ?_ rfl;simp only[Tryz.ntmps157,fB,dF,gN,Nat.reduceAdd,Nat.reduceSub,iG,iF,iV,iJ,eG,iO];gi_wp2
 refine hR'.o.mono ?_;rintro e3 W3 ⟨hC3,hK3,rfl,hF3⟩;have hbkW:N+7<W.heap.size:=hNW;have aWU:pV N W W3:=(pV.of_below oM.o).trans ((pV.set _ _).trans hK3);have bk3:=aK8 bL9.o hK3 hbkW;clear hy hR' c6 z6 q5 q7 d0 d1 d2 z5;cases okx
 case false=>
  obtain rfl:R=false:=aJD.o.symm;obtain⟨aE2,b5B,b5C,aO6,aJT⟩:=aI hC3 hK3 hF3 aWU bk3;clear hC3 hK3 hF3 aWU bk3;gi_wp2
  go_ret;exact⟨aE2.o,aO6.o,rfl,b5C.o⟩
 case true=>
 have hF3:FE w N o sa sn sc (rec .ready none) W3:=hF3;have d1:W3.cell? ⟨W.heap.size,1,none⟩=some (.slice pa pn pc):=bk3.cell rfl;have bC2:Below w.heap.size w W3:=hN'.o▸hF3.below;obtain⟨aE2,b5B,b5C,aO6,aJT,bRI⟩:=aJ hC3 hK3 hF3 aWU bk3 bC2;clear hC3 hK3 hF3 aWU bk3 bC2;gi_wp2
 gi_loopw [19] (fun iv wr=>∃i:Nat,i≤pn∧iv= .int .i64 i∧Hid ((kD f (d.2.1.take i)).all okF=true)∧Hid (FE w N o sa sn sc (rec .ready none) wr)∧Hid (FC N wr)∧Hid (pV N W wr)) (fun iv _=>pn - (intOf iv).toNat)
 case atStart=>exact⟨0,by omega,rfl,aA rfl,b5C,aE2,aO6⟩
 case round=>
  obtain⟨i,hi,rfl,hall,hFr,hCr,hKr⟩:=hrel;by_cases hlt:i<pn
  ·have hbr:Below w.heap.size w wr:=hN'.o▸hFr.o.below;have hid:i<d.2.1.length:=by rw[aJX.o];exact hlt
   have p9:i<ds.length:=by rw[AQ.o];exact hid
   obtain⟨b,o2,rfl,hblt,fe⟩:=(uE.o.mono hbr).elem oO (by decide) (0,(.slice none 0 0,.slice none 0 0,.slice none 0 0)) hlt;rw[jI p9]at fe;obtain⟨hq1,hq2⟩:=wV.o i p9 hid;obtain⟨ua,un,uc,ra,rn,rc,xa,xn,xc,hv⟩:=hq2.v;have g0:=fe 0 _ rfl;have g1:=fe 1 _ rfl;have g2:=fe 2 _ rfl;have g3:=fe 3 _ rfl;simp only[cK]at g0 g1 g2 g3;clear fe hq1;rw[hv]at hq2 g1 g2 g3;simp only at g0 g1 g2 g3;generalize ds[i].1=y at g0;have hw1:IntKind.i64.wrap ((i:Int)+1)=i+1:=by rw[aY];omega
   have hil:(i:Int)<(pn:Int):=by omega
   have D6:=aD wr (.cells #[.int .i64 y,.slice ua un uc,.slice ra rn rc,.slice xa xn xc] 28);have bs:=jJ.new wr 28 #[.int .i64 y,.slice ua un uc,.slice ra rn rc,.slice xa xn xc];have hCs:=hCr.o.later D6;have hFs:=hFr.o.later D6;have hst:=aK9 f d.2.1 okF hid;have hI:=ih'.o k _ d.2.1[i].2 _ (by omega) hq2 (hs'.o.2.2.2 _ (bL hid)) (rZ.o.2.1 _ (bL hid)) hFs hCs;have hno:=fun h=>a5A f d.2.1 okF (i:=i+1) h;have hR:=aJD.o;rw[dH]at hR;rw[hR]at hno;rw[hall.o,dH]at hst;rw[←hst]at hI;have q7:=hCs.eb.cell (i:=0) rfl;have z7:=hCs.eb.frozen 0;have hKs:=hKr.o.trans (pV.of_below D6);obtain⟨bb,hbb⟩:∃b,(kD f (d.2.1.take (i+1))).all okF=b:=⟨_,rfl⟩;rw[hbb]at hno hst hI;obtain⟨a4P,EQ,N7,bs',aO7,bLA,hst',hI',hno',hR',aO8,hv'⟩:=aP hbr hq2 D6 bs hCs hFs hst hI hno hR hKs hv;clear hbr hq2 D6 bs hCs hFs hst hI hno hR hKs hv;cases bb
   case false=>
    obtain rfl:R=false:=hno'.o rfl;have CZ:=aA hbb;clear hbb;gi_wp2_with (refine⟨trivial,?_⟩;gi_at_call 157;refine hI'.o.mono ?_;rintro e4 W4 ⟨hC4,hK4,rfl,hF4⟩;obtain⟨HC4,HK4,HF4⟩:=aG hC4 (aO8.o.trans hK4) hF4;clear hC4 hK4 hF4)
    go_ret;exact⟨HC4.o,HK4.o,rfl,HF4.o⟩
   case true=>
    have CZ:=aA hbb;clear hbb;gi_wp2_with (refine⟨trivial,?_⟩;gi_at_call 157;refine hI'.o.mono ?_;rintro e4 W4 ⟨hC4,hK4,rfl,hF4⟩;obtain⟨HC4,HK4,HF4⟩:=aG hC4 (aO8.o.trans hK4) hF4;clear hC4 hK4 hF4)
    go_roundw
    case rel=>exact⟨i+1,by omega,by go_num,CZ,HF4,HC4,HK4⟩
    case measure=>simp[intOf];omega
  ·obtain rfl:i=pn:=by omega
   have hfull:d.2.1.take i=d.2.1:=bP (by rw[aJX.o];omega);rw[hfull]at hall;obtain rfl:R=true:=by rw[←aJD.o,hall.o];rfl
   gi_wp2
   go_ret;exact⟨hCr.o,hKr.o,rfl,hFr.o⟩
