import Derived.RangeFuncNested
import Derived.RangeFuncBound
import Derived.RangeFuncCalls
import Derived.RangeFuncLeaves
import Derived.RangeFuncBox
import Derived.Shelf.Abstract
import Derived.Shelf.RegionOpen
import Derived.OwnWalkIn
import Derived.TacticsInMore
import Derived.LoopNIn
import Derived.LoopIn
import Derived.Test.YtceclmpmpldmlaaGreatCw13
set_option linter.unusedSimpArgs false
set_option linter.unusedVariables false
namespace Tt
open Go Go.RowKit
variable {F:Fence} {n:Nat} {P:Program}
def NR (fn:FuncId) (tmps:Array Value) (ps:Array Tmp) (assign body:Code) (D:Nat) (st:LoopState) (pe:Option Code):Loop:=
 {state:=st,pending:=pe,fn,tmps,params:=ps,assign,body,defers:=D}
def aJH (F:Fence) (n:Nat) (P:Program) (Q:Exit→Act→World→Prop) (a:Act) (w:World) (rec:LoopState→Option Code→Loop) (e:Ending) (W2:World):Prop:=
 (∃v,e= .returned v)∧∃st c,st≠ .busy∧W2.heap[w.heap.size+1]? =some (.loop (rec st c))∧
  (match c with
   |none=>Q .normal {a with defers:={target:= .collected w.heap.size,args:=#[]}::a.defers} (W2.putObj (w.heap.size+1) (.loop (rec .exhausted c)))
   |some j=>j.wpIn F n P Q {a with defers:={target:= .collected w.heap.size,args:=#[]}::a.defers} (W2.putObj (w.heap.size+1) (.loop (rec .exhausted c))))
theorem bCW {g:Operand} {ps:Array Tmp} {assign body:Code} {Q:Exit→Act→World→Prop} {a:Act} {w:World}
  (hro:F.round=none) (h1:1≤n) {gf:Nat} {lb:Array Value} (hg:a.eval g= .func (.func gf) #[] lb) (hFg:F.fn gf) (eg:∀args w,(callFunc gf args).run P w= .ok (.enter gf args) w)
  (h:∀fn,F.fn fn→CallsIn F (n - 1) P gf (#[.func (.yield (w.heap.size+1)) #[] #[]]++lb)
   ((w.alloc (.deferred (some []))).alloc (.loop (NR fn a.tmps ps assign body w.heap.size .ready none)))
   (aJH F n P Q a w (NR fn a.tmps ps assign body w.heap.size))):
  (Code.rangeFunc g ps assign body).wpIn F n P Q a w:=by
 refine wpIn_rangeFunc ?_;intro fn hfn;rw[hro];have hh:=h fn hfn;have hen:=run_enterLoop_outer (P:=P) (w:=w) fn a.tmps ps assign body;have a0X:({state:= .ready,pending:=none,fn,tmps:=a.tmps,params:=ps,assign,body,defers:=w.heap.size}:Loop)=NR fn a.tmps ps assign body w.heap.size .ready none:=rfl;have hE:∀(W2:World) (st:LoopState) (c:Option Code),st≠ .busy→W2.heap[w.heap.size+1]? =some (.loop (NR fn a.tmps ps assign body w.heap.size st c))→
   (Instr.endLoop (w.heap.size+1)).run P W2= .ok c (W2.putObj (w.heap.size+1) (.loop (NR fn a.tmps ps assign body w.heap.size .exhausted c))):=fun W2 st c hs hl=>run_endLoop hl hs
 rw[a0X]at hen;clear a0X h;generalize NR fn a.tmps ps assign body w.heap.size=rec at*;generalize (w.alloc (.deferred (some []))).alloc (.loop (rec .ready none))=W1 at*;refine⟨w.heap.size+1, [{target:= .collected w.heap.size,args:=#[]}],W1,{target:= .fn (.func gf) lb,args:=#[.func (.yield (w.heap.size+1)) #[] #[]]},W1,gf,#[.func (.yield (w.heap.size+1)) #[] #[]]++lb,W1,hen,?_,?_,?_,fun _=>h1,?_⟩
 ·simp only[resolve,hg];simp[go_sem]
 ·intro f' hf';simp[Target.leads]at hf';subst hf';exact hFg
 ·simp[invoke,go_sem,eg]
 ·refine CallsIn.mono hh ?_;rintro e W2 ⟨⟨v,rfl⟩,st,c,hs,hl,hq⟩;have c1E:=hE W2 st c hs hl;exact⟨c,_,c1E,hq⟩
def aUC (l:Nat) (rec:LoopState→Option Code→Loop) (R:Ending→World→Prop):Exit→Act→World→Prop
 | .normal,_,W3=>W3.heap[l]? =some (.loop (rec .busy none))∧R (.returned (.bool true)) (W3.putObj l (.loop (rec .ready none)))
 | .ret,_,W3=>W3.heap[l]? =some (.loop (rec .busy none))∧R (.returned (.bool false)) (W3.putObj l (.loop (rec .done (some .ret))))
 | .exit id,_,W3=>W3.heap[l]? =some (.loop (rec .busy none))∧R (.returned (.bool false)) (W3.putObj l (.loop (rec .done (some (.exit id)))))
 |_,_,_=>False
theorem aUD {m:Nat} {l:Nat} {fn:FuncId} {tmps:Array Value} {ps:Array Tmp} {assign body:Code} {D:Nat} {W:World} {args:Array Value} {R:Ending→World→Prop}
  (hfn:F.fn fn) (hl:W.heap[l]? =some (.loop (NR fn tmps ps assign body D .ready none))) (hps:args.size=ps.size)
  (h:assign.wpIn (F.inRound l) m P (Exit.then (fun a₁ w₁=>w₁.heap[l]? =some (.loop (NR fn tmps ps assign body D .ready none))∧
    body.wpIn (F.inRound l) m P (aUC l (NR fn tmps ps assign body D) R) a₁ (w₁.putObj l (.loop (NR fn tmps ps assign body D .busy none)))) (fun _ _ _=>False))
   {tmps:=(ps.zip args).foldl (fun t (p,v)=>t.setIfInBounds p v) tmps,defers:= []} W):YieldAt F m P l args W R:=by
 refine⟨fn,_,assign,body,run_yield hl hps,roundIn_of_wpIn hfn (wpIn_mono h ?_)⟩;intro e a1 w1 hq;cases e with
 |normal=>
  obtain⟨h1,h2⟩:=hq;refine⟨_,run_beginRound h1 rfl,wpIn_mono h2 ?_⟩;intro e a3 W3 hp;cases e with
  |normal=>obtain⟨h3,h4⟩:=hp;exact⟨_,_,run_endRound none h3,h4⟩
  |ret=>obtain⟨h3,h4⟩:=hp;exact⟨_,_,run_endRound (some .ret) h3,h4⟩
  |exit id=>obtain⟨h3,h4⟩:=hp;exact⟨_,_,run_endRound (some (.exit id)) h3,h4⟩
  |goto t=>exact hp.elim
  |panic c=>exact hp.elim
  |outgrown=>exact hp.elim
 |ret=>exact hq.elim
 |exit id=>exact hq.elim
 |goto t=>exact hq.elim
 |panic c=>exact hq.elim
 |outgrown=>exact hq.elim
theorem b3O {g:Operand} {ps:Array Tmp} {assign body:Code} {Q:Exit→Act→World→Prop} {a:Act} {w:World}
  (hro:F.round=none) (h1:1≤n) {gf:Nat} {lb:Array Value} (hg:a.eval g= .func (.func gf) #[] lb) (hFg:F.fn gf) (eg:∀args w,(callFunc gf args).run P w= .ok (.enter gf args) w)
  (h:∀fn rec,F.fn fn→Hid (rec=NR fn a.tmps ps assign body w.heap.size)→CallsIn F (n - 1) P gf (#[.func (.yield (w.heap.size+1)) #[] #[]]++lb)
   ((w.alloc (.deferred (some []))).alloc (.loop (rec .ready none)))
   (aJH F n P Q a w rec)):
  (Code.rangeFunc g ps assign body).wpIn F n P Q a w:=
 bCW hro h1 hg hFg eg fun fn hfn=>h fn _ hfn rfl
theorem aPY {m:Nat} {l:Nat} {fn:FuncId} {tmps:Array Value} {ps:Array Tmp} {assign body:Code} {D:Nat} {W:World} {args:Array Value} {R:Ending→World→Prop} {rec:LoopState→Option Code→Loop}
  (hfn:F.fn fn) (a0X:Hid (rec=NR fn tmps ps assign body D)) (hl:W.heap[l]? =some (.loop (rec .ready none))) (hps:args.size=ps.size)
  (h:assign.wpIn (F.inRound l) m P (Exit.then (fun a₁ w₁=>w₁.heap[l]? =some (.loop (rec .ready none))∧
    body.wpIn (F.inRound l) m P (aUC l rec R) a₁ (w₁.putObj l (.loop (rec .busy none)))) (fun _ _ _=>False))
   {tmps:=(ps.zip args).foldl (fun t (p,v)=>t.setIfInBounds p v) tmps,defers:= []} W):YieldAt F m P l args W R:=by
 have hr:=a0X.o;subst hr;exact aUD hfn hl hps h
end Tt
namespace Go.Proofs.YtceclmpmpldmlaaGreat
open Go.RowKit Tt
attribute [local go_sem] Oper.semAt_some
theorem aJI (o:Int) (a:Option Addr) (n c:Nat) (w:World):
  Calls Tryz.prog 99 #[.agg #[.int .i64 o,.slice a n c]] w fun e w'=>e= .returned (.func (.func 156) #[] #[.pointer (some ⟨w.heap.size,0,none⟩)])∧w'=w.alloc (.cells #[.int .i64 o,.slice a n c] 39):=by
 go_enter Tryz.func99,Tryz.ntmps99;go_wp2;go_ret;exact⟨rfl,rfl⟩
def bKI (x:Flt):Prop:=∀t∈x.1,pF t.2.2.2
def tJ:(f:Nat)→jY f→Prop
 |0,_=>True
 |f+1,d=>(∀t∈d.1,pF t.2.2.2)∧(∀s∈d.2.1,tJ f s.2)∧pF d.2.2
structure FE (w:World) (N:Nat) (o:Int) (sa:Option Addr) (sn sc:Nat) (l:Loop) (W:World):Prop where
 below:Below N w W
 rb:kG W (N+1) 4 #[.bool false]
 tb:kG W (N+2) 39 #[.int .i64 o,.slice sa sn sc]
 df:W.heap[N+3]? =some (.deferred (some []))
 lb:W.heap[N+4]? =some (.loop l)
theorem FE.later {w:World} {N:Nat} {o:Int} {sa:Option Addr} {sn sc:Nat} {l:Loop} {W W':World} (h:FE w N o sa sn sc l W) (hb:Below W.heap.size W W'):FE w N o sa sn sc l W':=by
 obtain⟨h1,h2,h3,h4,h5⟩:=h;have lt:∀{k o},W.heap[k]? =some o→k<W.heap.size:=fun h=>(dA.1 h).1;have e5:=lt h5;exact⟨h1.trans (hb.mono aG),h2.late hb,h3.late hb,(hb.block _ (lt h4)).trans h4,(hb.block _ e5).trans h5⟩
structure FC (N:Nat) (W:World):Prop where
 yb:kG W (N+5) 223 #[.func (.yield (N+4)) #[] #[]]
 cb:∃j:Int,kG W (N+6) 3 #[.int .i64 j]
 eb:kG W (N+7) 135 #[.func (.func 157) #[] #[.pointer (some ⟨N+6,0,none⟩),.pointer (some ⟨N+5,0,none⟩),.pointer (some ⟨N+7,0,none⟩)]]
theorem FC.later {N:Nat} {W W':World} (h:FC N W) (hb:Below W.heap.size W W'):FC N W':=by
 obtain⟨h1,⟨j,h2⟩,h3⟩:=h;exact⟨h1.late hb,⟨j,h2.late hb⟩,h3.late hb⟩
structure sD (N:Nat) (W W':World):Prop where
 size:W.heap.size≤W'.heap.size
 block:∀k,N+7<k→k<W.heap.size→W'.heap[k]? =W.heap[k]?
theorem sD.trans {N:Nat} {W W1 W2:World} (h:sD N W W1) (k:sD N W1 W2):sD N W W2:=⟨bU h.size k.size,fun i h1 h2=>(k.block i h1 (dD h2 h.size)).trans (h.block i h1 h2)⟩
theorem sD.of_below {N:Nat} {W W':World} (h:Below W.heap.size W W'):sD N W W':=⟨h.size,fun k _ hk=>h.block k hk⟩
theorem sD.set {N:Nat} (W:World) (v:Value):sD N W (W.setCell ⟨N+6,0,none⟩ v):=⟨by simp,fun k h1 _=>eZ _ _ _ _ (show k≠N+6 by omega)⟩
theorem aPZ {N:Nat} {W W':World} {g:Nat} {T:TypeId} {cs:Array Value} (h:kG W g T cs) (hk:sD N W W') (hg:N+7<g):kG W' g T cs:=(hk.block g hg h.lt).trans h
theorem FE.set {w:World} {N:Nat} {o:Int} {sa:Option Addr} {sn sc:Nat} {l:Loop} {W:World} (h:FE w N o sa sn sc l W) {b:Nat} (hb:N+4<b) (v:Value):FE w N o sa sn sc l (W.setCell ⟨b,0,none⟩ v):=by
 obtain⟨h1,h2,h3,h4,h5⟩:=h;have e:∀j,j≠b→(W.setCell ⟨b,0,none⟩ v).heap[j]? =W.heap[j]? :=fun j hj=>eZ _ _ _ _ hj;exact⟨h1.setCell (by show N≤b;omega) v,(e _ aG).trans h2,(e _ aG).trans h3,(e _ aG).trans h4,(e _ aG).trans h5⟩
theorem FC.set {N:Nat} {W:World} (h:FC N W) (j:Int):FC N (W.setCell ⟨N+6,0,none⟩ (.int .i64 j)):=by
 obtain⟨h1,⟨i,h2⟩,h3⟩:=h;have e:∀k,k≠N+6→(W.setCell ⟨N+6,0,none⟩ (.int .i64 j)).heap[k]? =W.heap[k]? :=fun k hk=>eZ _ _ _ _ hk;exact⟨(e _ aG).trans h1,⟨j,h2.set 0 _⟩,(e _ aG).trans h3⟩
def bCX (rec:LoopState→Option Code→Loop) (b:Bool):Loop:=if b=true then rec .ready none else rec .done (some .ret)
def aUE (w:World) (N:Nat) (o:Int) (sa:Option Addr) (sn sc:Nat) (rec:LoopState→Option Code→Loop):Prop:=
 ∀(k:Nat) (W:World) (j:Int) (x:Flt) (v:Dz),9≤k→FE w N o sa sn sc (rec .ready none) W→FC N W→aPL w x v→aJ8 x→bKI x→
  YieldAt Fence.wide k Tryz.prog (N+4) #[.int .i64 j,.agg #[v.1,v.2.1,v.2.2]] W fun e W'=>FC N W'∧sD N W W'∧e= .returned (.bool (okF x))∧FE w N o sa sn sc (bCX rec (okF x)) W'
def aUF (w:World) (N:Nat) (o:Int) (sa:Option Addr) (sn sc:Nat) (rec:LoopState→Option Code→Loop) (f:Nat):Prop:=
 ∀(k:Nat) (W:World) (d:jY f) (dv:Dz),10+f≤k→FN w f d dv→mY f d→tJ f d→FE w N o sa sn sc (rec .ready none) W→FC N W→
  CallsIn Fence.wide k Tryz.prog 157 #[.agg #[dv.1,dv.2.1,dv.2.2],.pointer (some ⟨N+6,0,none⟩),.pointer (some ⟨N+5,0,none⟩),.pointer (some ⟨N+7,0,none⟩)] W fun e W'=>
   FC N W'∧sD N W W'∧e= .returned (.bool ((lD f d).all okF))∧FE w N o sa sn sc (bCX rec ((lD f d).all okF)) W'
theorem aQ0 (f:Nat) (ss:List (Int×jY f)) (p:Flt→Bool) {i:Nat} (hi:i<ss.length):(mD f (ss.take (i+1))).all p=((mD f (ss.take i)).all p&&(lD f ss[i].2).all p):=by
 rw[aJ6 f ss hi,jR]
theorem aBK (f:Nat) (ss:List (Int×jY f)) (p:Flt→Bool) {i:Nat} (h:(mD f (ss.take i)).all p=false):(mD f ss).all p=false:=by
 have e:ss=ss.take i++ss.drop i:=(fA i ss).symm;rw[e];unfold mD at h ⊢;rw[dQ,jR,h];rfl
set_option maxRecDepth 100000 in
set_option maxHeartbeats 4000000 in
theorem aQ1 {w:World} {N:Nat} {o:Int} {sa:Option Addr} {sn sc:Nat} {rec:LoopState→Option Code→Loop} (hN:N=w.heap.size) (hr:aUE w N o sa sn sc rec) (f:Nat) (ih:aUF w N o sa sn sc rec f):aUF w N o sa sn sc rec (f+1):=by
 intro k W d dv hk hd hs qL hF hC;have hbW:Below w.heap.size w W:=hN▸hF.below;have hfl:=hd.flt.mono hbW;obtain⟨ta,tn,tc,zs,pa,pn,pc,ds,ba,bn,bc,rfl,htg,hdt,qU,wG,vV,D9⟩:=hd;obtain⟨k,rfl⟩:∃k',k=k'+1:=⟨k - 1,by omega⟩;have hpn:d.2.1.length=pn:=by rw[←wG];exact qU.xZ qV aH
 have e:(lD (f+1) d).all okF=(okF (d.1,d.2.1.length,d.2.2)&&(mD f d.2.1).all okF):=rfl;rw[e];have UC:=qU.max;have hml:=qU.le;have bCY:=aJ9 (f+1) d hs (d.1,d.2.1.length,d.2.2) (bQ ..);have bCZ:bKI (d.1,d.2.1.length,d.2.2):=qL.1;obtain⟨j,hcb⟩:=hC.cb;have kU:=aD W (.cells #[.slice ta tn tc,.slice pa pn pc,.slice ba bn bc] 26);have bk:=kG.new W 26 #[.slice ta tn tc,.slice pa pn pc,.slice ba bn bc];obtain⟨j1,hj1⟩:=aC (IntKind.i64.wrap (j+1));obtain⟨j2,hj2⟩:=aC (IntKind.i64.wrap (j1 - 1));have hF1:=(hF.later kU).set (b:=N+6) aG (.int .i64 j1);have hC1:=(hC.later kU).set j1;have bKJ:=(hfl.mono kU);have hNW:N+7<W.heap.size:=hC.eb.lt;have b3P:=hcb.late kU;have c6:=b3P.cell (i:=0) rfl;have z6:=b3P.frozen 0;have bD1:aPL w (d.1,d.2.1.length,d.2.2) (.slice ta tn tc,.slice pa pn pc,.slice ba bn bc):=FN.flt (f:=f) (d:=d) ⟨ta,tn,tc,zs,pa,pn,pc,ds,ba,bn,bc,rfl,htg,hdt,qU,wG,vV,D9⟩;obtain⟨fn,tmps,assign,body,hy,hR⟩:=hr k _ j2 _ _ aG hF1 hC1 bD1 bCY bCZ;have q5:=hC1.yb.cell (i:=0) rfl;have q7:=hC1.eb.cell (i:=0) rfl;have bk1:kG ((W.alloc (.cells #[.slice ta tn tc,.slice pa pn pc,.slice ba bn bc] 26)).setCell ⟨N+6,0,none⟩ (.int .i64 j1)) W.heap.size 26 #[.slice ta tn tc,.slice pa pn pc,.slice ba bn bc]:=(eZ _ _ _ _ (show W.heap.size≠N+6 by omega)).trans bk;have d0:=bk1.cell (i:=0) rfl;have d1:=bk1.cell (i:=1) rfl;have d2:=bk1.cell (i:=2) rfl;have z5:=hC1.yb.frozen 0;obtain⟨KI,bD5,aBB,a7Z,yB,GK,BO,vE,aPO,e',c27,c29⟩:=aT hbW hfl htg hdt qU wG vV D9 hpn e bCY bCZ;obtain⟨c4Q,qR,bk',c4R,bKK,c2A,c2B,c2C,qM,bV4,hF',OO⟩:=aT hcb kU bk hF1 hC1 bKJ b3P bD1 hR bk1 hF hC;obtain⟨sK,vR⟩:=aJ hs qL;obtain⟨ih',sH,hN'⟩:=aK ih hr hN;clear hbW hfl htg hdt qU wG vV D9 hpn e bCY bCZ hcb kU bk hF1 hC1 bKJ b3P bD1 hR bk1 hF hC hs qL ih hr hN;obtain⟨okx,aIT⟩:∃b,okF (d.1,d.2.1.length,d.2.2)=b:=⟨_,rfl⟩;rw[aIT];rw[aIT]at qM;obtain⟨R,hRR⟩:=aC (okx&&(mD f d.2.1).all okF);rw[hRR];obtain⟨c2D,aP5⟩:=aJ aIT hRR;clear aIT hRR;refine callsIn_of_wp Tryz.func157 rfl trivial ?_ rfl;simp only[Tryz.ntmps157,fD,dO,iC,Nat.reduceAdd,Nat.reduceSub,iZ,iY,jI,j6,fG,jD];gi_wp2
 refine qM.o.mono ?_;rintro e3 W3 ⟨hC3,hK3,rfl,hF3⟩;have c1F:N+7<W.heap.size:=hNW;have b3Q:sD N W W3:=(sD.of_below qR.o).trans ((sD.set _ _).trans hK3);have bk3:=aPZ bV4.o hK3 c1F;clear hy qM c6 z6 q5 q7 d0 d1 d2 z5;cases okx
 case false=>
  obtain rfl:R=false:=aP5.o.symm;obtain⟨aBL,bD7,bD8,aUG,aPK⟩:=aM hC3 hK3 hF3 b3Q bk3;clear hC3 hK3 hF3 b3Q bk3;gi_wp2
  go_ret;exact⟨aBL.o,aUG.o,rfl,bD8.o⟩
 case true=>
 have hF3:FE w N o sa sn sc (rec .ready none) W3:=hF3;have d1:=bk3.cell (i:=1) rfl;have bKL:Below w.heap.size w W3:=hN'.o▸hF3.below;obtain⟨aBL,bD7,bD8,aUG,aPK,c2E⟩:=aN hC3 hK3 hF3 b3Q bk3 bKL;clear hC3 hK3 hF3 b3Q bk3 bKL;gi_wp2
 gi_loopw [19] (fun iv wr=>∃i:Nat,i≤pn∧iv= .int .i64 i∧Hid ((mD f (d.2.1.take i)).all okF=true)∧Hid (FE w N o sa sn sc (rec .ready none) wr)∧Hid (FC N wr)∧Hid (sD N W wr)) (fun iv _=>pn - (intOf iv).toNat)
 case atStart=>exact⟨0,by omega,rfl,aA rfl,bD8,aBL,aUG⟩
 case round=>
  obtain⟨i,hi,rfl,lY,hFr,hCr,hKr⟩:=hrel;by_cases kY:i<pn
  ·have nR:Below w.heap.size w wr:=hN'.o▸hFr.o.below;have hid:i<d.2.1.length:=by rw[aPO.o];exact kY
   have rC:i<ds.length:=by rw[GK.o];exact hid
   obtain⟨b,o2,rfl,xL,fe⟩:=(yB.o.mono nR).elem qV aH (0,(.slice none 0 0,.slice none 0 0,.slice none 0 0)) kY;rw[kF rC]at fe;obtain⟨hq1,rH⟩:=BO.o i rC hid;obtain⟨ua,un,uc,ra,rn,rc,xa,xn,xc,hv⟩:=rH.v;have g0:=fe 0 _ rfl;have g1:=fe 1 _ rfl;have g2:=fe 2 _ rfl;have g3:=fe 3 _ rfl;simp only[dB]at g0 g1 g2 g3;clear fe hq1;rw[hv]at rH g1 g2 g3;simp only at g0 g1 g2 g3;generalize ds[i].1=y at g0;have xR:IntKind.i64.wrap ((i:Int)+1)=i+1:=by rw[bJ];omega
   have hil:(i:Int)<(pn:Int):=by omega
   have JM:=aD wr (.cells #[.int .i64 y,.slice ua un uc,.slice ra rn rc,.slice xa xn xc] 28);have bs:=kG.new wr 28 #[.int .i64 y,.slice ua un uc,.slice ra rn rc,.slice xa xn xc];have W9:=hCr.o.later JM;have hFs:=hFr.o.later JM;have zN:=aQ0 f d.2.1 okF hid;have hI:=ih'.o k _ d.2.1[i].2 _ aG rH (sK.o.2.2.2 _ (bP hid)) (vR.o.2.1 _ (bP hid)) hFs W9;have sJ:=fun h=>aBK f d.2.1 okF (i:=i+1) h;have hR:=aP5.o;rw[dL]at hR;rw[hR]at sJ;rw[lY.o,dL]at zN;rw[←zN]at hI;have q7:=W9.eb.cell (i:=0) rfl;have z7:=W9.eb.frozen 0;have hKs:=hKr.o.trans (sD.of_below JM);obtain⟨bb,EI⟩:∃b,(mD f (d.2.1.take (i+1))).all okF=b:=⟨_,rfl⟩;rw[EI]at sJ zN hI;obtain⟨aB9,L9,U1,bs',aUH,bV5,Z4,hI',vT,qM,aUI,GA⟩:=aT nR rH JM bs W9 hFs zN hI sJ hR hKs hv;clear nR rH JM bs W9 hFs zN hI sJ hR hKs hv;cases bb
   case false=>
    obtain rfl:R=false:=vT.o rfl;have JK:=aA EI;clear EI;gi_wp2_with (refine⟨trivial,?_⟩;gi_at_call 157;refine hI'.o.mono ?_;rintro e4 W4 ⟨hC4,hK4,rfl,hF4⟩;obtain⟨HC4,HK4,HF4⟩:=aK hC4 (aUI.o.trans hK4) hF4;clear hC4 hK4 hF4)
    go_ret;exact⟨HC4.o,HK4.o,rfl,HF4.o⟩
   case true=>
    have JK:=aA EI;clear EI;gi_wp2_with (refine⟨trivial,?_⟩;gi_at_call 157;refine hI'.o.mono ?_;rintro e4 W4 ⟨hC4,hK4,rfl,hF4⟩;obtain⟨HC4,HK4,HF4⟩:=aK hC4 (aUI.o.trans hK4) hF4;clear hC4 hK4 hF4)
    go_roundw
    case rel=>exact⟨i+1,by omega,by go_num,JK,HF4,HC4,HK4⟩
    case measure=>simp[intOf];omega
  ·obtain rfl:i=pn:=by omega
   have KF:d.2.1.take i=d.2.1:=bW (by rw[aPO.o];omega);rw[KF]at lY;obtain rfl:R=true:=by rw[←aP5.o,lY.o];rfl
   gi_wp2
   go_ret;exact⟨hCr.o,hKr.o,rfl,hFr.o⟩
