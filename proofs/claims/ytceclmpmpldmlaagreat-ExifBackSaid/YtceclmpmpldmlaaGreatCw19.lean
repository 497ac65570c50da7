import Derived.Test.YtceclmpmpldmlaaGreatCw16
set_option linter.unusedSimpArgs false
set_option linter.unusedVariables false
set_option maxRecDepth 100000
set_option maxHeartbeats 8000000
namespace Go.Proofs.YtceclmpmpldmlaaGreat
open Go.RowKit Tt
attribute [local go_sem] Oper.semAt_some
theorem aUZ {w:World} {N:Nat} {o:Int} {sa:Option Addr} {sn sc:Nat} {rec:LoopState→Option Code→Loop} (hN:N=w.heap.size) (hr:aUE w N o sa sn sc rec):∀f,aUF w N o sa sn sc rec f:=by
 intro f;induction f with
 |zero=>intro k W d dv hk hd;exact hd.elim
 |succ f ih=>exact aQ1 hN hr f ih
theorem aQD (f:Nat) (ds:List (jY f)) (p:Flt→Bool) {i:Nat} (hi:i<ds.length):(oI f (ds.take (i+1))).all p=((oI f (ds.take i)).all p&&(lD f ds[i]).all p):=by
 rw[aJ7 f ds hi,jR]
theorem aBR (f:Nat) (ds:List (jY f)) (p:Flt→Bool) {i:Nat} (h:(oI f (ds.take i)).all p=false):(oI f ds).all p=false:=by
 have e:ds=ds.take i++ds.drop i:=(fA i ds).symm;rw[e];unfold oI at h ⊢;rw[dQ,jR,h];rfl
theorem aV0 {w:World} {N:Nat} {o:Int} {sa:Option Addr} {sn sc:Nat} {rec:LoopState→Option Code→Loop} (hN:N=w.heap.size) (hr:aUE w N o sa sn sc rec) (f:Nat) (ds:List (jY f)) (hd:JX f w sa sn sc ds) (hs:∀d∈ds,mY f d) (qL:∀d∈ds,tJ f d)
  (W:World) (tC:W.heap.size=N+5) (h0:FE w N o sa sn sc (rec .ready none) W):
  CallsIn Fence.wide (f+12) Tryz.prog 156 #[.func (.yield (N+4)) #[] #[],.pointer (some ⟨N+2,0,none⟩)] W fun e W'=>(∃v,e= .returned v)∧FE w N o sa sn sc (bCX rec (U2 f ds)) W':=by
 have hE:=aUZ hN hr f;obtain⟨ME,wG,qU,vV⟩:=hd;have AP:ds.length=sn:=by rw[←wG];exact qU.xZ qW aH
 have UC:=qU.max;have hml:=qU.le;obtain⟨R,hR⟩:=aC (U2 f ds);rw[hR];have sJ:∀i,(oI f (ds.take i)).all okF=false→R=false:=fun i h=>hR▸aBR f ds okF h;obtain⟨V,hV,v1,v2,v3,hbV,sV⟩:=F6 W 223 #[.func (.yield (N+4)) #[] #[]] 3 #[.int .i64 0] 135 #[.func (.func 157) #[] #[.pointer (some ⟨N+5+1,0,none⟩),.pointer (some ⟨N+5,0,none⟩),.pointer (some ⟨N+5+1+1,0,none⟩)]];rw[tC]at v1 v2 v3;have F3:=h0.later hbV;have C3:FC N V:=⟨v1,⟨0,v2⟩,v3⟩;obtain⟨sH,yB,BO,sK,vR⟩:=aM hr qU vV hs qL;obtain⟨h0',hE',hN',GK,FQ,qM,vT,v1',v2',v3',c5K,hV'⟩:=aT h0 hE hN wG AP hR sJ v1 v2 v3 hbV hV;obtain⟨F3',C3'⟩:=aJ F3 C3;clear hr qU vV hs qL h0 hE hN wG AP hR sJ v1 v2 v3 hbV hV F3 C3;refine callsIn_of_wp Tryz.func156 rfl trivial ?_ rfl;simp only[Tryz.ntmps156,fD,dO,iC,Nat.reduceAdd,Nat.reduceSub,iZ,iY,jI,j6,fG,jD];have t2:=h0'.o.tb.cell (i:=1) rfl;have t2l:=h0'.o.tb.lt;have hsf:=fun(a:Addr) (c:Array Value) (w:World)=>run_store Tryz.prog w a (.func (.func 157) #[] c) .plain rfl;gi_wp2
 clear hsf;rw[hV'.o];clear t2 t2l;gi_loopw [11] (fun iv wr=>∃i:Nat,i≤sn∧iv= .int .i64 i∧Hid ((oI f (ds.take i)).all okF=true)∧Hid (FE w N o sa sn sc (rec .ready none) wr)∧Hid (FC N wr)∧Hid (sD N V wr)) (fun iv _=>sn - (intOf iv).toNat)
 case atStart=>exact⟨0,by omega,rfl,aA rfl,F3',C3',aA ⟨aY _,fun _ _ _=>rfl⟩⟩
 case round=>
  obtain⟨i,hi,rfl,lY,hFr,hCr,hKr⟩:=hrel;by_cases kY:i<sn
  ·have nR:Below w.heap.size w wr:=hN'.o▸hFr.o.below;have hid:i<ds.length:=by rw[FQ.o];exact kY
   have rC:i<ME.length:=by rw[GK.o];exact hid
   obtain⟨b,o2,rfl,xL,fe⟩:=(yB.o.mono nR).elem qW aH dzz kY;rw[kF rC]at fe;have rH:=BO.o i rC hid;obtain⟨ua,un,uc,ra,rn,rc,xa,xn,xc,hv⟩:=rH.v;have g0:=fe 0 _ rfl;have g1:=fe 1 _ rfl;have g2:=fe 2 _ rfl;clear fe;rw[hv]at rH g0 g1 g2;simp only[dB]at g0 g1 g2;have xR:IntKind.i64.wrap ((i:Int)+1)=i+1:=by rw[bJ];omega
   have hil:(i:Int)<(sn:Int):=by omega
   have JM:=aD wr (.cells #[.slice ua un uc,.slice ra rn rc,.slice xa xn xc] 26);have W9:=hCr.o.later JM;have hFs:=hFr.o.later JM;have zN:=aQD f ds okF hid;have hI:=hE'.o (f+11) _ ds[i] _ aG rH (sK.o _ (bP hid)) (vR.o _ (bP hid)) hFs W9;have sJ:=vT.o (i+1);rw[lY.o,dL]at zN;rw[←zN]at hI;have q7:=W9.eb.cell (i:=0) rfl;have z7:=W9.eb.frozen 0;have hKs:=hKr.o.trans (sD.of_below JM);obtain⟨bb,EI⟩:∃b,(oI f (ds.take (i+1))).all okF=b:=⟨_,rfl⟩;rw[EI]at sJ zN hI;obtain⟨aB9,L9,U1,aUH,bV5,Z4,hI',vT,aUI,GA⟩:=aR nR rH JM W9 hFs zN hI sJ hKs hv;clear nR rH JM W9 hFs zN hI sJ hKs hv;cases bb
   case false=>
    obtain rfl:R=false:=vT.o rfl;have JK:=aA EI;clear EI;gi_wp2_with (refine⟨trivial,?_⟩;gi_at_call 157;refine hI'.o.mono ?_;rintro e4 W4 ⟨hC4,hK4,rfl,hF4⟩;obtain⟨HC4,HK4,HF4⟩:=aK hC4 (aUI.o.trans hK4) hF4;clear hC4 hK4 hF4)
    refine bodyPost_ret (results_none rfl _ _ _) rfl ?_;exact⟨⟨_,rfl⟩,HF4.o⟩
   case true=>
    have JK:=aA EI;clear EI;gi_wp2_with (refine⟨trivial,?_⟩;gi_at_call 157;refine hI'.o.mono ?_;rintro e4 W4 ⟨hC4,hK4,rfl,hF4⟩;obtain⟨HC4,HK4,HF4⟩:=aK hC4 (aUI.o.trans hK4) hF4;clear hC4 hK4 hF4)
    go_roundw
    case rel=>exact⟨i+1,by omega,by go_num,JK,HF4,HC4,HK4⟩
    case measure=>simp[intOf];omega
  ·obtain rfl:i=sn:=by omega
   have KF:ds.take i=ds:=bW (by rw[FQ.o];omega);rw[KF]at lY;obtain rfl:R=true:=by rw[←qM.o];exact lY.o
   gi_wp2
   go_end0
   exact⟨⟨_,rfl⟩,hFr.o⟩
end Go.Proofs.YtceclmpmpldmlaaGreat
namespace Go.Proofs.YtceclmpmpldmlaaGreat
open Go.RowKit Tt
attribute [local go_sem] Oper.semAt_some
theorem FE.put {w:World} {N:Nat} {o:Int} {sa:Option Addr} {sn sc:Nat} {l l':Loop} {W:World} (h:FE w N o sa sn sc l W):FE w N o sa sn sc l' (W.putObj (N+4) (.loop l')):=by
 obtain⟨h1,h2,h3,h4,h5⟩:=h;have hp:∀k,k≠N+4→(W.putObj (N+4) (.loop l')).heap[k]? =W.heap[k]? :=fun k hk=>World.putObj_heap_other hk;exact⟨h1.trans ⟨rfl,rfl,rfl,by simp,fun k hk=>hp k aG⟩,(hp _ aG).trans h2,(hp _ aG).trans h3,(hp _ aG).trans h4,World.putObj_heap_same (dA.1 h5).1⟩
theorem FC.put {N:Nat} {W:World} (h:FC N W) (l':Loop):FC N (W.putObj (N+4) (.loop l')):=by
 obtain⟨h1,⟨j,h2⟩,h3⟩:=h;have hp:∀k,k≠N+4→(W.putObj (N+4) (.loop l')).heap[k]? =W.heap[k]? :=fun k hk=>World.putObj_heap_other hk;exact⟨(hp _ aG).trans h1,⟨j,(hp _ aG).trans h2⟩,(hp _ aG).trans h3⟩
theorem sD.put {N:Nat} (W:World) (l':Loop):sD N W (W.putObj (N+4) (.loop l')):=⟨by simp,fun k h1 _=>World.putObj_heap_other aG⟩
theorem FE.no {w:World} {N:Nat} {o:Int} {sa:Option Addr} {sn sc:Nat} {l:Loop} {W:World} (h:FE w N o sa sn sc l W):FE w N o sa sn sc l (W.setCell ⟨N+1,0,none⟩ (.bool false)):=by
 obtain⟨h1,h2,h3,h4,h5⟩:=h;have e:∀j,j≠N+1→(W.setCell ⟨N+1,0,none⟩ (.bool false)).heap[j]? =W.heap[j]? :=fun j hj=>eZ _ _ _ _ hj;exact⟨h1.setCell (by show N≤N+1;omega) _,h2.set 0 _,(e _ aG).trans h3,(e _ aG).trans h4,(e _ aG).trans h5⟩
theorem FC.no {N:Nat} {W:World} (h:FC N W):FC N (W.setCell ⟨N+1,0,none⟩ (.bool false)):=by
 obtain⟨h1,⟨j,h2⟩,h3⟩:=h;have e:∀j,j≠N+1→(W.setCell ⟨N+1,0,none⟩ (.bool false)).heap[j]? =W.heap[j]? :=fun j hj=>eZ _ _ _ _ hj;exact⟨(e _ aG).trans h1,⟨j,(e _ aG).trans h2⟩,(e _ aG).trans h3⟩
theorem sD.no {N:Nat} (W:World):sD N W (W.setCell ⟨N+1,0,none⟩ (.bool false)):=⟨by simp,fun k h1 _=>eZ _ _ _ _ (show k≠N+1 by omega)⟩
theorem aF0 (f:Nat) (o:Int) (sa:Option Addr) (sn sc:Nat) (ds:List (jY f)) (w:World) (h:JX f w sa sn sc ds) (hs:∀d∈ds,mY f d) (qL:∀d∈ds,tJ f d):
  Calls Tryz.prog 44 #[.agg #[.int .i64 o,.slice sa sn sc]] w fun e w'=>e= .returned (.bool (U2 f ds))∧Below w.heap.size w w':=by
 have HI:=aA (fun(rec:LoopState→Option Code→Loop) hr W tC h0=>aV0 (w:=w) (N:=w.heap.size) (o:=o) (sa:=sa) (sn:=sn) (sc:=sc) (rec:=rec) rfl hr f ds h hs qL W tC h0);clear h hs qL;obtain⟨R,hR⟩:=aC (U2 f ds);rw[hR]at HI ⊢;clear hR;refine(callsIn_wide (n:=f+13)).1 ?_;refine callsIn_of_wp_marks Tryz.func44 rfl trivial ?_ rfl;simp only[Tryz.ntmps44,fD,dO,iC,Nat.reduceAdd,Nat.reduceSub,iZ,iY,jI,j6,fG,jD];gi_wp2_with (refine⟨trivial,?_⟩;gi_at_call 99;refine(callsIn_wide.2 (aJI _ _ _ _ _)).mono ?_;rintro e w' ⟨rfl,rfl⟩)
 refine b3O rfl aG rfl trivial (enters_of Tryz.func156 aF rfl) ?_;intro fn rec hfn a0X;simp only[World.size_alloc,Nat.add_assoc,Nat.reduceAdd];refine CallsIn.mono (HI.o rec ?round _ ?size ?init) ?done
 case size=>simp
 case init=>
  refine⟨?_,?_,?_,?_,?_⟩
  ·exact((((((bF _ _).alloc (aY _) _).alloc (by simp) _).alloc (by simp <;> omega) _).alloc (by simp <;> omega) _).alloc (by simp <;> omega) _)
  ·exact(wR _ _ (by simp <;> omega)).trans ((wR _ _ (by simp <;> omega)).trans ((wR _ _ (by simp)).trans (wZ _ _ (by simp))))
  ·exact(wR _ _ (by simp <;> omega)).trans ((wR _ _ (by simp)).trans (wZ _ _ (by simp)))
  ·exact(wR _ _ (by simp)).trans (wZ _ _ (by simp))
  ·exact wZ _ _ (by simp)
 case round=>
  clear HI;intro k W j x v hk hF hC hfl EJ qL;obtain⟨ta,tc,pa,pc,ba,bc,zs,hv,htg,hxt,D9⟩:=hfl;subst hv;obtain⟨hx1,ZC,TD⟩:=EJ;have hoF:=b3A (x:=x) ⟨hx1,ZC,TD⟩;have kU:=aD W (.cells #[.slice ta x.1.length tc,.slice pa x.2.1 pc,.slice ba x.2.2.length bc] 26);have bk:=kG.new W 26 #[.slice ta x.1.length tc,.slice pa x.2.1 pc,.slice ba x.2.2.length bc];have F1:=hF.later kU;have C1:=hC.later kU;have hNW:w.heap.size+7<W.heap.size:=hC.eb.lt;have b36:=JY (b:=x.2.2.length) hx1 ZC;have hE:=fun W=>X0 ta pa ba x.1.length tc x.2.1 pc x.2.2.length bc W aG aG;have yV:∀z∈zs,pF z.2:=fun z hz=>by
   have:=qL (nO z) (by rw[hxt];exact iO hz);exact this
  have hTC:=fun W (hb:Below (W.heap.size) W W)=>trivial;obtain⟨r,hr⟩:=aC (okF x);rw[hr]at hoF ⊢;obtain⟨q,hq⟩:=aC (x.1.all WA);have hqz:(zs.map nO).all WA=q:=by rw[←hxt];exact hq
  rw[hq]at hoF;generalize pU x.1.length x.2.1 x.2.2.length=m at*;generalize x.1.length=tn at*;generalize x.2.1=pn at*;generalize x.2.2.length=bn at*;clear hTC hr hq;obtain⟨bDU,bk',F1',C1',hE',FR,qR,vE,vR⟩:=aQ hoF bk F1 C1 hE yV kU D9 qL;obtain⟨hF',OO,aBB,c5L,bW3⟩:=aM hF hC htg hxt hqz;clear hoF bk F1 C1 hE yV kU D9 qL hF hC htg hxt hqz;refine aPY hfn a0X hF'.o.lb rfl ?_;gi_wp2
  refine⟨F1'.o.lb,?_⟩;have F2:=F1'.o.put (l':=rec .busy none);have C2:=C1'.o.put (rec .busy none);have K2:=(sD.of_below (N:=w.heap.size) qR.o).trans (sD.put _ (rec .busy none));obtain⟨Wb,hWb⟩:∃Wb,Wb=(W.alloc (.cells #[.slice ta tn tc,.slice pa pn pc,.slice ba bn bc] 26)).putObj (w.heap.size+4) (.loop (rec .busy none)):=⟨_,rfl⟩;have bkb:kG Wb W.heap.size 26 #[.slice ta tn tc,.slice pa pn pc,.slice ba bn bc]:=by rw[hWb];exact(World.putObj_heap_other aG).trans bk'.o
  have lK:Below w.heap.size w Wb:=by rw[hWb];exact F2.below
  rw[←hWb]at F2 C2 K2 ⊢;clear hWb;have d0:=bkb.cell (i:=0) rfl;have d1:=bkb.cell (i:=1) rfl;have d2:=bkb.cell (i:=2) rfl;obtain⟨F2',C2',K2',bW4,kX⟩:=aM F2 C2 K2 bkb lK;clear F2 C2 K2 bkb lK;gi_wp2_with fail
  refine⟨trivial,fun _=>by omega,?_⟩;refine CallsIn.mono (CallsIn.inRound _ (callsIn_wide.2 (hE'.o _))) ?_;rintro e W3 ⟨rfl,kT⟩;have F3:=F2'.o.later kT;have C3:=C2'.o.later kT;have K3:=K2'.o.trans (sD.of_below kT);have bk3:=bW4.o.late kT;clear d0 d1 d2;have d0:=bk3.cell (i:=0) rfl;have e65:decide ((65535:Int)<(m:Int))=false:=by simp;omega
  have r1:=F3.rb.cell (i:=0) rfl;have z1:=F3.rb.frozen 0;by_cases OL:m<1
  ·have e1:decide ((m:Int)<1)=true:=by simp;omega
   obtain rfl:r=false:=by rw[bDU.o,decide_eq_false (show ¬1≤m by omega)];rfl
   obtain⟨F3',C3',K3',aPK,sM⟩:=aM F3 C3 K3 bk3 kT;clear F3 C3 K3 bk3 kT;gi_wp2_with fail
   refine⟨trivial,?_⟩;gi_wp2_with fail
   exact⟨F3'.o.no.lb,C3'.o.no.put _,(K3'.o.trans (sD.no _)).trans (sD.put _ _),rfl,F3'.o.no.put⟩
  ·have e1:decide ((m:Int)<1)=false:=by simp;omega
   rw[decide_eq_true (show 1≤m by omega),dL]at bDU;have hT:=aTU ta tn tc zs W3 (aBB.o.mono F3.below) FR.o;rw[bW3.o]at hT;have hrq:r=q:=bDU.o;subst hrq;obtain⟨hT',F3',C3',K3',aPK,sM⟩:=aN hT F3 C3 K3 bk3 kT;clear hT F3 C3 K3 bk3 kT;gi_wp2_with fail
   refine⟨trivial,fun _=>by omega,?_⟩;refine CallsIn.mono (CallsIn.inRound _ (callsIn_wide.2 hT'.o)) ?_;rintro e W4 ⟨rfl,mX⟩;have F4:=F3'.o.later mX;have C4:=C3'.o.later mX;have K4:=K3'.o.trans (sD.of_below mX);clear r1 z1 d0;have r1:=F4.rb.cell (i:=0) rfl;have z1:=F4.rb.frozen 0;obtain⟨F4',C4',K4',xG⟩:=aL F4 C4 K4 mX;clear F4 C4 K4 mX;cases r
   ·gi_wp2_with fail
    exact⟨F4'.o.no.lb,C4'.o.no.put _,(K4'.o.trans (sD.no _)).trans (sD.put _ _),rfl,F4'.o.no.put⟩
   ·gi_wp2_with fail
    exact⟨F4'.o.lb,C4'.o.put _,K4'.o.trans (sD.put _ _),rfl,F4'.o.put⟩
 case done=>
  rintro e W2 ⟨hv,hF⟩;unfold aJH;simp only[World.size_alloc,Nat.add_assoc,Nat.reduceAdd];cases R with
  |true=>
   refine⟨hv,.ready,none,by decide,hF.lb,?_⟩;dsimp only
   have F2:=hF.put (l':=rec .exhausted none);obtain⟨W3,hW3⟩:∃W3,W3=W2.putObj (w.heap.size+4) (.loop (rec .exhausted none)):=⟨_,rfl⟩;rw[←hW3]at F2 ⊢;have p1:=F2.rb.cell (i:=0) rfl;have z1:=F2.rb.frozen 0;clear hW3 hF;have F2':=aA F2;clear F2;gi_wp2
   obtain⟨W7,hW7⟩:∃W7,W7=W3.setCell ⟨w.heap.size+1,0,none⟩ (.bool true):=⟨_,rfl⟩;rw[←hW7];have b7:kG W7 (w.heap.size+1) 4 #[.bool true]:=by rw[hW7];exact F2'.o.rb.set 0 _
   have e5:W7.heap[w.heap.size+3]? =some (.deferred (some [])):=by rw[hW7];exact(eZ _ _ _ _ (show w.heap.size+3≠w.heap.size+1 by omega)).trans F2'.o.df
   have xC:Below w.heap.size w W7:=by rw[hW7];exact F2'.o.below.setCell (p:=⟨w.heap.size+1,0,none⟩) (by show w.heap.size≤w.heap.size+1;omega) _
   refine⟨by simp,.inl ⟨_,_,rfl,run_takeDeferred e5,?_⟩⟩;have ho:∀k,k≠w.heap.size+3→(W7.putObj (w.heap.size+3) (.deferred none)).heap[k]? =W7.heap[k]? :=fun k hk=>World.putObj_heap_other hk;have b8:kG (W7.putObj (w.heap.size+3) (.deferred none)) (w.heap.size+1) 4 #[.bool true]:=(ho _ aG).trans b7;have q0:=b8.cell (i:=0) rfl;exact⟨.bool true,by simp[results,Tryz.results44,go_sem,q0],rfl,xC.trans ⟨rfl,rfl,rfl,by simp,fun k hk=>ho k aG⟩⟩
  |false=>
   refine⟨hv,.done,some .ret,by decide,hF.lb,?_⟩;dsimp only
   have F2:=hF.put (l':=rec .exhausted (some .ret));obtain⟨W3,hW3⟩:∃W3,W3=W2.putObj (w.heap.size+4) (.loop (rec .exhausted (some .ret))):=⟨_,rfl⟩;rw[←hW3]at F2 ⊢;have p1:=F2.rb.cell (i:=0) rfl;clear hW3 hF;have F2':=aA F2;clear F2;gi_wp2
   obtain⟨W7,hW7⟩:∃W7,W7=W3:=⟨_,rfl⟩;rw[←hW7];have b7:kG W7 (w.heap.size+1) 4 #[.bool false]:=by rw[hW7];exact F2'.o.rb
   have e5:W7.heap[w.heap.size+3]? =some (.deferred (some [])):=by rw[hW7];exact F2'.o.df
   have xC:Below w.heap.size w W7:=by rw[hW7];exact F2'.o.below
   refine⟨by simp,.inl ⟨_,_,rfl,run_takeDeferred e5,?_⟩⟩;have ho:∀k,k≠w.heap.size+3→(W7.putObj (w.heap.size+3) (.deferred none)).heap[k]? =W7.heap[k]? :=fun k hk=>World.putObj_heap_other hk;have b8:kG (W7.putObj (w.heap.size+3) (.deferred none)) (w.heap.size+1) 4 #[.bool false]:=(ho _ aG).trans b7;have q0:=b8.cell (i:=0) rfl;exact⟨.bool false,by simp[results,Tryz.results44,go_sem,q0],rfl,xC.trans ⟨rfl,rfl,rfl,by simp,fun k hk=>ho k aG⟩⟩
