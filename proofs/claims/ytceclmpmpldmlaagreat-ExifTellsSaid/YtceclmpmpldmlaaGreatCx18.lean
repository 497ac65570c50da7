import Derived.RangeFuncNested
import Derived.RangeFuncBound
import Derived.RangeFuncCalls
import Derived.RangeFuncLeaves
import Derived.RangeFuncBox
import Derived.Shelf.Abstract
import Derived.Shelf.RegionOpen
import Derived.OwnWalkIn
import Derived.TacticsInMore
import Derived.LoopNIn
import Derived.LoopIn
import Derived.Test.YtceclmpmpldmlaaGreatCx14
set_option linter.unusedSimpArgs false
set_option linter.unusedVariables false
namespace Tt
open Go Go.RowKit
variable {F:Fence} {n:Nat} {P:Program}
def M6 (fn:FuncId) (tmps:Array Value) (ps:Array Tmp) (assign body:Code) (D:Nat) (st:LoopState) (pe:Option Code):Loop:=
 {state:=st,pending:=pe,fn,tmps,params:=ps,assign,body,defers:=D}
def aH6 (F:Fence) (n:Nat) (P:Program) (Q:Exit→Act→World→Prop) (a:Act) (w:World) (rec:LoopState→Option Code→Loop) (e:Ending) (W2:World):Prop:=
 (∃v,e= .returned v)∧∃st c,st≠ .busy∧W2.heap[w.heap.size+1]? =some (.loop (rec st c))∧
  (match c with
   |none=>Q .normal {a with defers:={target:= .collected w.heap.size,args:=#[]}::a.defers} (W2.putObj (w.heap.size+1) (.loop (rec .exhausted c)))
   |some j=>j.wpIn F n P Q {a with defers:={target:= .collected w.heap.size,args:=#[]}::a.defers} (W2.putObj (w.heap.size+1) (.loop (rec .exhausted c))))
theorem b6M {g:Operand} {ps:Array Tmp} {assign body:Code} {Q:Exit→Act→World→Prop} {a:Act} {w:World}
  (hro:F.round=none) (h1:1≤n) {gf:Nat} {lb:Array Value} (hg:a.eval g= .func (.func gf) #[] lb) (hFg:F.fn gf) (eg:∀args w,(callFunc gf args).run P w= .ok (.enter gf args) w)
  (h:∀fn,F.fn fn→CallsIn F (n - 1) P gf (#[.func (.yield (w.heap.size+1)) #[] #[]]++lb)
   ((w.alloc (.deferred (some []))).alloc (.loop (M6 fn a.tmps ps assign body w.heap.size .ready none)))
   (aH6 F n P Q a w (M6 fn a.tmps ps assign body w.heap.size))):
  (Code.rangeFunc g ps assign body).wpIn F n P Q a w:=by
 refine wpIn_rangeFunc ?_;intro fn hfn;rw[hro];have hh:=h fn hfn;have hen:=run_enterLoop_outer (P:=P) (w:=w) fn a.tmps ps assign body;have a5W:({state:= .ready,pending:=none,fn,tmps:=a.tmps,params:=ps,assign,body,defers:=w.heap.size}:Loop)=M6 fn a.tmps ps assign body w.heap.size .ready none:=rfl;have hE:∀(W2:World) (st:LoopState) (c:Option Code),st≠ .busy→W2.heap[w.heap.size+1]? =some (.loop (M6 fn a.tmps ps assign body w.heap.size st c))→
   (Instr.endLoop (w.heap.size+1)).run P W2= .ok c (W2.putObj (w.heap.size+1) (.loop (M6 fn a.tmps ps assign body w.heap.size .exhausted c))):=fun W2 st c hs hl=>run_endLoop hl hs
 rw[a5W]at hen;clear a5W h;generalize M6 fn a.tmps ps assign body w.heap.size=rec at*;generalize (w.alloc (.deferred (some []))).alloc (.loop (rec .ready none))=W1 at*;refine⟨w.heap.size+1, [{target:= .collected w.heap.size,args:=#[]}],W1,{target:= .fn (.func gf) lb,args:=#[.func (.yield (w.heap.size+1)) #[] #[]]},W1,gf,#[.func (.yield (w.heap.size+1)) #[] #[]]++lb,W1,hen,?_,?_,?_,fun _=>h1,?_⟩
 ·simp only[resolve,hg];simp[go_sem]
 ·intro f' QJ;simp[Target.leads]at QJ;subst QJ;exact hFg
 ·simp[invoke,go_sem,eg]
 ·refine CallsIn.mono hh ?_;rintro e W2 ⟨⟨v,rfl⟩,st,c,hs,hl,hq⟩;have bSO:=hE W2 st c hs hl;exact⟨c,_,bSO,hq⟩
def aRZ (l:Nat) (rec:LoopState→Option Code→Loop) (R:Ending→World→Prop):Exit→Act→World→Prop
 | .normal,_,W3=>W3.heap[l]? =some (.loop (rec .busy none))∧R (.returned (.bool true)) (W3.putObj l (.loop (rec .ready none)))
 | .ret,_,W3=>W3.heap[l]? =some (.loop (rec .busy none))∧R (.returned (.bool false)) (W3.putObj l (.loop (rec .done (some .ret))))
 | .exit id,_,W3=>W3.heap[l]? =some (.loop (rec .busy none))∧R (.returned (.bool false)) (W3.putObj l (.loop (rec .done (some (.exit id)))))
 |_,_,_=>False
theorem aS0 {m:Nat} {l:Nat} {fn:FuncId} {tmps:Array Value} {ps:Array Tmp} {assign body:Code} {D:Nat} {W:World} {args:Array Value} {R:Ending→World→Prop}
  (hfn:F.fn fn) (hl:W.heap[l]? =some (.loop (M6 fn tmps ps assign body D .ready none))) (hps:args.size=ps.size)
  (h:assign.wpIn (F.inRound l) m P (Exit.then (fun a₁ w₁=>w₁.heap[l]? =some (.loop (M6 fn tmps ps assign body D .ready none))∧
    body.wpIn (F.inRound l) m P (aRZ l (M6 fn tmps ps assign body D) R) a₁ (w₁.putObj l (.loop (M6 fn tmps ps assign body D .busy none)))) (fun _ _ _=>False))
   {tmps:=(ps.zip args).foldl (fun t (p,v)=>t.setIfInBounds p v) tmps,defers:= []} W):YieldAt F m P l args W R:=by
 refine⟨fn,_,assign,body,run_yield hl hps,roundIn_of_wpIn hfn (wpIn_mono h ?_)⟩;intro e a1 w1 hq;cases e with
 |normal=>
  obtain⟨h1,h2⟩:=hq;refine⟨_,run_beginRound h1 rfl,wpIn_mono h2 ?_⟩;intro e a3 W3 hp;cases e with
  |normal=>obtain⟨h3,h4⟩:=hp;exact⟨_,_,run_endRound none h3,h4⟩
  |ret=>obtain⟨h3,h4⟩:=hp;exact⟨_,_,run_endRound (some .ret) h3,h4⟩
  |exit id=>obtain⟨h3,h4⟩:=hp;exact⟨_,_,run_endRound (some (.exit id)) h3,h4⟩
  |goto t=>exact hp.elim
  |panic c=>exact hp.elim
  |outgrown=>exact hp.elim
 |ret=>exact hq.elim
 |exit id=>exact hq.elim
 |goto t=>exact hq.elim
 |panic c=>exact hq.elim
 |outgrown=>exact hq.elim
theorem aYX {g:Operand} {ps:Array Tmp} {assign body:Code} {Q:Exit→Act→World→Prop} {a:Act} {w:World}
  (hro:F.round=none) (h1:1≤n) {gf:Nat} {lb:Array Value} (hg:a.eval g= .func (.func gf) #[] lb) (hFg:F.fn gf) (eg:∀args w,(callFunc gf args).run P w= .ok (.enter gf args) w)
  (h:∀fn rec,F.fn fn→Hid (rec=M6 fn a.tmps ps assign body w.heap.size)→CallsIn F (n - 1) P gf (#[.func (.yield (w.heap.size+1)) #[] #[]]++lb)
   ((w.alloc (.deferred (some []))).alloc (.loop (rec .ready none)))
   (aH6 F n P Q a w rec)):
  (Code.rangeFunc g ps assign body).wpIn F n P Q a w:=
 b6M hro h1 hg hFg eg fun fn hfn=>h fn _ hfn rfl
theorem aNI {m:Nat} {l:Nat} {fn:FuncId} {tmps:Array Value} {ps:Array Tmp} {assign body:Code} {D:Nat} {W:World} {args:Array Value} {R:Ending→World→Prop} {rec:LoopState→Option Code→Loop}
  (hfn:F.fn fn) (a5W:Hid (rec=M6 fn tmps ps assign body D)) (hl:W.heap[l]? =some (.loop (rec .ready none))) (hps:args.size=ps.size)
  (h:assign.wpIn (F.inRound l) m P (Exit.then (fun a₁ w₁=>w₁.heap[l]? =some (.loop (rec .ready none))∧
    body.wpIn (F.inRound l) m P (aRZ l rec R) a₁ (w₁.putObj l (.loop (rec .busy none)))) (fun _ _ _=>False))
   {tmps:=(ps.zip args).foldl (fun t (p,v)=>t.setIfInBounds p v) tmps,defers:= []} W):YieldAt F m P l args W R:=by
 have hr:=a5W.o;subst hr;exact aS0 hfn hl hps h
end Tt
namespace Go.Proofs.YtceclmpmpldmlaaGreat
open Go.RowKit Tt
attribute [local go_sem] Oper.semAt_some
theorem aH7 (o:Int) (a:Option Addr) (n c:Nat) (w:World):
  Calls Tryz.prog 99 #[.agg #[.int .i64 o,.slice a n c]] w fun e w'=>e= .returned (.func (.func 156) #[] #[.pointer (some ⟨w.heap.size,0,none⟩)])∧w'=w.alloc (.cells #[.int .i64 o,.slice a n c] 39):=by
 go_enter Tryz.func99,Tryz.ntmps99;go_wp2;go_ret;exact⟨rfl,rfl⟩
def bFK (x:Flt):Prop:=∀t∈x.1,tV t.2.2.2
def BJ:(f:Nat)→jR f→Prop
 |0,_=>True
 |f+1,d=>(∀t∈d.1,tV t.2.2.2)∧(∀s∈d.2.1,BJ f s.2)∧tV d.2.2
structure FE (w:World) (N:Nat) (o:Int) (sa:Option Addr) (sn sc:Nat) (l:Loop) (W:World):Prop where
 below:Below N w W
 rb:jW W (N+1) 4 #[.bool false]
 tb:jW W (N+2) 39 #[.int .i64 o,.slice sa sn sc]
 df:W.heap[N+3]? =some (.deferred (some []))
 lb:W.heap[N+4]? =some (.loop l)
theorem FE.later {w:World} {N:Nat} {o:Int} {sa:Option Addr} {sn sc:Nat} {l:Loop} {W W':World} (h:FE w N o sa sn sc l W) (hb:Below W.heap.size W W'):FE w N o sa sn sc l W':=by
 obtain⟨h1,h2,h3,h4,h5⟩:=h;have lt:∀{k o},W.heap[k]? =some o→k<W.heap.size:=fun h=>(bW.1 h).1;have e5:=lt h5;exact⟨h1.trans (hb.mono aG),h2.late hb,h3.late hb,(hb.block _ (lt h4)).trans h4,(hb.block _ e5).trans h5⟩
structure FC (N:Nat) (W:World):Prop where
 yb:jW W (N+5) 223 #[.func (.yield (N+4)) #[] #[]]
 cb:∃j:Int,jW W (N+6) 3 #[.int .i64 j]
 eb:jW W (N+7) 135 #[.func (.func 157) #[] #[.pointer (some ⟨N+6,0,none⟩),.pointer (some ⟨N+5,0,none⟩),.pointer (some ⟨N+7,0,none⟩)]]
theorem FC.later {N:Nat} {W W':World} (h:FC N W) (hb:Below W.heap.size W W'):FC N W':=by
 obtain⟨h1,⟨j,h2⟩,h3⟩:=h;exact⟨h1.late hb,⟨j,h2.late hb⟩,h3.late hb⟩
structure rH (N:Nat) (W W':World):Prop where
 size:W.heap.size≤W'.heap.size
 block:∀k,N+7<k→k<W.heap.size→W'.heap[k]? =W.heap[k]?
theorem rH.trans {N:Nat} {W W1 W2:World} (h:rH N W W1) (k:rH N W1 W2):rH N W W2:=⟨bQ h.size k.size,fun i h1 h2=>(k.block i h1 (cK h2 h.size)).trans (h.block i h1 h2)⟩
theorem rH.of_below {N:Nat} {W W':World} (h:Below W.heap.size W W'):rH N W W':=⟨h.size,fun k _ hk=>h.block k hk⟩
theorem rH.set {N:Nat} (W:World) (v:Value):rH N W (W.setCell ⟨N+6,0,none⟩ v):=⟨by simp,fun k h1 _=>eF _ _ _ _ (show k≠N+6 by omega)⟩
theorem aNJ {N:Nat} {W W':World} {g:Nat} {T:TypeId} {cs:Array Value} (h:jW W g T cs) (hk:rH N W W') (hg:N+7<g):jW W' g T cs:=(hk.block g hg h.lt).trans h
theorem FE.set {w:World} {N:Nat} {o:Int} {sa:Option Addr} {sn sc:Nat} {l:Loop} {W:World} (h:FE w N o sa sn sc l W) {b:Nat} (hb:N+4<b) (v:Value):FE w N o sa sn sc l (W.setCell ⟨b,0,none⟩ v):=by
 obtain⟨h1,h2,h3,h4,h5⟩:=h;have e:∀j,j≠b→(W.setCell ⟨b,0,none⟩ v).heap[j]? =W.heap[j]? :=fun j hj=>eF _ _ _ _ hj;exact⟨h1.setCell (by show N≤b;omega) v,(e _ aG).trans h2,(e _ aG).trans h3,(e _ aG).trans h4,(e _ aG).trans h5⟩
theorem FC.set {N:Nat} {W:World} (h:FC N W) (j:Int):FC N (W.setCell ⟨N+6,0,none⟩ (.int .i64 j)):=by
 obtain⟨h1,⟨i,h2⟩,h3⟩:=h;have e:∀k,k≠N+6→(W.setCell ⟨N+6,0,none⟩ (.int .i64 j)).heap[k]? =W.heap[k]? :=fun k hk=>eF _ _ _ _ hk;exact⟨(e _ aG).trans h1,⟨j,h2.set 0 _⟩,(e _ aG).trans h3⟩
def b6N (rec:LoopState→Option Code→Loop) (b:Bool):Loop:=if b=true then rec .ready none else rec .done (some .ret)
def aS1 (w:World) (N:Nat) (o:Int) (sa:Option Addr) (sn sc:Nat) (rec:LoopState→Option Code→Loop):Prop:=
 ∀(k:Nat) (W:World) (j:Int) (x:Flt) (v:Dz),9≤k→FE w N o sa sn sc (rec .ready none) W→FC N W→aC9 w x v→a9E x→bFK x→
  YieldAt Fence.wide k Tryz.prog (N+4) #[.int .i64 j,.agg #[v.1,v.2.1,v.2.2]] W fun e W'=>FC N W'∧rH N W W'∧e= .returned (.bool (okF x))∧FE w N o sa sn sc (b6N rec (okF x)) W'
def aS2 (w:World) (N:Nat) (o:Int) (sa:Option Addr) (sn sc:Nat) (rec:LoopState→Option Code→Loop) (f:Nat):Prop:=
 ∀(k:Nat) (W:World) (d:jR f) (dv:Dz),10+f≤k→wH w f d dv→lN f d→BJ f d→FE w N o sa sn sc (rec .ready none) W→FC N W→
  CallsIn Fence.wide k Tryz.prog 157 #[.agg #[dv.1,dv.2.1,dv.2.2],.pointer (some ⟨N+6,0,none⟩),.pointer (some ⟨N+5,0,none⟩),.pointer (some ⟨N+7,0,none⟩)] W fun e W'=>
   FC N W'∧rH N W W'∧e= .returned (.bool ((kQ f d).all okF))∧FE w N o sa sn sc (b6N rec ((kQ f d).all okF)) W'
theorem aNK (f:Nat) (ss:List (Int×jR f)) (p:Flt→Bool) {i:Nat} (hi:i<ss.length):(lH f (ss.take (i+1))).all p=((lH f (ss.take i)).all p&&(kQ f ss[i].2).all p):=by
 rw[a1W f ss hi,iU]
theorem a9M (f:Nat) (ss:List (Int×jR f)) (p:Flt→Bool) {i:Nat} (h:(lH f (ss.take i)).all p=false):(lH f ss).all p=false:=by
 have e:ss=ss.take i++ss.drop i:=(fF i ss).symm;rw[e];unfold lH at h ⊢;rw[dJ,iU,h];rfl
set_option maxRecDepth 100000 in
set_option maxHeartbeats 4000000 in
theorem aNL {w:World} {N:Nat} {o:Int} {sa:Option Addr} {sn sc:Nat} {rec:LoopState→Option Code→Loop} (hN:N=w.heap.size) (hr:aS1 w N o sa sn sc rec) (f:Nat) (ih:aS2 w N o sa sn sc rec f):aS2 w N o sa sn sc rec (f+1):=by
 intro k W d dv hk hd hs rU hF hC;have hbW:Below w.heap.size w W:=hN▸hF.below;have hfl:=hd.flt.mono hbW;obtain⟨ta,tn,tc,zs,pa,pn,pc,ds,ba,bn,bc,rfl,A8,G5,nL,oQ,nR,vF⟩:=hd;obtain⟨k,rfl⟩:∃k',k=k'+1:=⟨k - 1,by omega⟩;have hpn:d.2.1.length=pn:=by rw[←oQ];exact nL.rP mJ aH
 have e:(kQ (f+1) d).all okF=(okF (d.1,d.2.1.length,d.2.2)&&(lH f d.2.1).all okF):=rfl;rw[e];have LX:=nL.max;have hml:=nL.le;have b6O:=a2D (f+1) d hs (d.1,d.2.1.length,d.2.2) (dB ..);have b6P:bFK (d.1,d.2.1.length,d.2.2):=rU.1;obtain⟨j,hcb⟩:=hC.cb;have l9:=aD W (.cells #[.slice ta tn tc,.slice pa pn pc,.slice ba bn bc] 26);have bk:=jW.new W 26 #[.slice ta tn tc,.slice pa pn pc,.slice ba bn bc];obtain⟨j1,hj1⟩:=aC (IntKind.i64.wrap (j+1));obtain⟨j2,hj2⟩:=aC (IntKind.i64.wrap (j1 - 1));have hF1:=(hF.later l9).set (b:=N+6) aG (.int .i64 j1);have hC1:=(hC.later l9).set j1;have bFL:=(hfl.mono l9);have hNW:N+7<W.heap.size:=hC.eb.lt;have aYY:=hcb.late l9;have c6:=aYY.cell (i:=0) rfl;have z6:=aYY.frozen 0;have b6Q:aC9 w (d.1,d.2.1.length,d.2.2) (.slice ta tn tc,.slice pa pn pc,.slice ba bn bc):=wH.flt (f:=f) (d:=d) ⟨ta,tn,tc,zs,pa,pn,pc,ds,ba,bn,bc,rfl,A8,G5,nL,oQ,nR,vF⟩;obtain⟨fn,tmps,assign,body,hy,hR⟩:=hr k _ j2 _ _ aG hF1 hC1 b6Q b6O b6P;have q5:=hC1.yb.cell (i:=0) rfl;have q7:=hC1.eb.cell (i:=0) rfl;have bk1:jW ((W.alloc (.cells #[.slice ta tn tc,.slice pa pn pc,.slice ba bn bc] 26)).setCell ⟨N+6,0,none⟩ (.int .i64 j1)) W.heap.size 26 #[.slice ta tn tc,.slice pa pn pc,.slice ba bn bc]:=(eF _ _ _ _ (show W.heap.size≠N+6 by omega)).trans bk;have d0:=bk1.cell (i:=0) rfl;have d1:=bk1.cell (i:=1) rfl;have d2:=bk1.cell (i:=2) rfl;have z5:=hC1.yb.frozen 0;obtain⟨MH,a9N,D8,CW,tX,sH,oW,tL,aN6,e',bTD,bTE⟩:=aT hbW hfl A8 G5 nL oQ nR vF hpn e b6O b6P;obtain⟨bVB,oL,U2,bVC,aNM,bTF,bTG,bTH,vG,bOJ,hF',MC⟩:=aT hcb l9 bk hF1 hC1 bFL aYY b6Q hR bk1 hF hC;obtain⟨pX,wJ⟩:=aJ hs rU;obtain⟨ih',qX,YD⟩:=aK ih hr hN;clear hbW hfl A8 G5 nL oQ nR vF hpn e b6O b6P hcb l9 bk hF1 hC1 bFL aYY b6Q hR bk1 hF hC hs rU ih hr hN;obtain⟨okx,ZU⟩:∃b,okF (d.1,d.2.1.length,d.2.2)=b:=⟨_,rfl⟩;rw[ZU];rw[ZU]at vG;obtain⟨R,hRR⟩:=aC (okx&&(lH f d.2.1).all okF);rw[hRR];obtain⟨aKB,aGF⟩:=aJ ZU hRR;clear ZU hRR;refine callsIn_of_wp Tryz.func157 rfl trivial ?_ rfl;simp only[Tryz.ntmps157,gG,dP,iG,Nat.reduceAdd,Nat.reduceSub,Array.replicate_succ,Array.replicate_zero,List.push_toArray,List.append_toArray,eX,List.cons_append];gi_wp2
 refine vG.o.mono ?_;rintro e3 W3 ⟨hC3,hK3,rfl,hF3⟩;have bSP:N+7<W.heap.size:=hNW;have aYZ:rH N W W3:=(rH.of_below oL.o).trans ((rH.set _ _).trans hK3);have XE:=aNJ bOJ.o hK3 bSP;clear hy vG c6 z6 q5 q7 d0 d1 d2 z5;cases okx
 case false=>
  obtain rfl:R=false:=aGF.o.symm;obtain⟨a6O,b6R,b6S,aS3,a9B⟩:=aM hC3 hK3 hF3 aYZ XE;clear hC3 hK3 hF3 aYZ XE;gi_wp2
  go_ret;exact⟨a6O.o,aS3.o,rfl,b6S.o⟩
 case true=>
 have hF3:FE w N o sa sn sc (rec .ready none) W3:=hF3;have d1:=XE.cell (i:=1) rfl;have bFM:Below w.heap.size w W3:=YD.o▸hF3.below;obtain⟨a6O,b6R,b6S,aS3,a9B,bTI⟩:=aN hC3 hK3 hF3 aYZ XE bFM;clear hC3 hK3 hF3 aYZ XE bFM;gi_wp2
 gi_loopw [19] (fun iv wr=>∃i:Nat,i≤pn∧iv= .int .i64 i∧Hid ((lH f (d.2.1.take i)).all okF=true)∧Hid (FE w N o sa sn sc (rec .ready none) wr)∧Hid (FC N wr)∧Hid (rH N W wr)) (fun iv _=>pn - (intOf iv).toNat)
 case atStart=>exact⟨0,by omega,rfl,aA rfl,b6S,a6O,aS3⟩
 case round=>
  obtain⟨i,hi,rfl,kS,hFr,hCr,hKr⟩:=hrel;by_cases kD:i<pn
  ·have lI:Below w.heap.size w wr:=YD.o▸hFr.o.below;have hid:i<d.2.1.length:=by rw[aN6.o];exact kD
   have nV:i<ds.length:=by rw[sH.o];exact hid
   obtain⟨b,o2,rfl,lC,fe⟩:=(tX.o.mono lI).elem mJ aH (0,(.slice none 0 0,.slice none 0 0,.slice none 0 0)) kD;rw[jO nV]at fe;obtain⟨OV,nD⟩:=oW.o i nV hid;obtain⟨ua,un,uc,ra,rn,rc,xa,xn,xc,hv⟩:=nD.v;have g0:=fe 0 _ rfl;have g1:=fe 1 _ rfl;have g2:=fe 2 _ rfl;have g3:=fe 3 _ rfl;simp only[bU]at g0 g1 g2 g3;clear fe OV;rw[hv]at nD g1 g2 g3;simp only at g0 g1 g2 g3;generalize ds[i].1=y at g0;have sS:IntKind.i64.wrap ((i:Int)+1)=i+1:=by rw[bF];omega
   have I4:(i:Int)<(pn:Int):=by omega
   have KZ:=aD wr (.cells #[.int .i64 y,.slice ua un uc,.slice ra rn rc,.slice xa xn xc] 28);have bs:=jW.new wr 28 #[.int .i64 y,.slice ua un uc,.slice ra rn rc,.slice xa xn xc];have GQ:=hCr.o.later KZ;have hFs:=hFr.o.later KZ;have vI:=aNK f d.2.1 okF hid;have hI:=ih'.o k _ d.2.1[i].2 _ aG nD (pX.o.2.2.2 _ (bJ hid)) (wJ.o.2.1 _ (bJ hid)) hFs GQ;have qW:=fun h=>a9M f d.2.1 okF (i:=i+1) h;have hR:=aGF.o;rw[dD]at hR;rw[hR]at qW;rw[kS.o,dD]at vI;rw[←vI]at hI;have q7:=GQ.eb.cell (i:=0) rfl;have z7:=GQ.eb.frozen 0;have hKs:=hKr.o.trans (rH.of_below KZ);obtain⟨bb,yZ⟩:∃b,(lH f (d.2.1.take (i+1))).all okF=b:=⟨_,rfl⟩;rw[yZ]at qW vI hI;obtain⟨KY,zH,YT,bs',a2T,bOK,zN,MR,sW,vG,aH8,xE⟩:=aT lI nD KZ bs GQ hFs vI hI qW hR hKs hv;clear lI nD KZ bs GQ hFs vI hI qW hR hKs hv;cases bb
   case false=>
    obtain rfl:R=false:=sW.o rfl;have AZ:=aA yZ;clear yZ;gi_wp2_with (refine⟨trivial,?_⟩;gi_at_call 157;refine MR.o.mono ?_;rintro e4 W4 ⟨hC4,hK4,rfl,hF4⟩;obtain⟨HC4,HK4,HF4⟩:=aK hC4 (aH8.o.trans hK4) hF4;clear hC4 hK4 hF4)
    go_ret;exact⟨HC4.o,HK4.o,rfl,HF4.o⟩
   case true=>
    have AZ:=aA yZ;clear yZ;gi_wp2_with (refine⟨trivial,?_⟩;gi_at_call 157;refine MR.o.mono ?_;rintro e4 W4 ⟨hC4,hK4,rfl,hF4⟩;obtain⟨HC4,HK4,HF4⟩:=aK hC4 (aH8.o.trans hK4) hF4;clear hC4 hK4 hF4)
    go_roundw
    case rel=>exact⟨i+1,by omega,by go_num,AZ,HF4,HC4,HK4⟩
    case measure=>simp[intOf];omega
  ·obtain rfl:i=pn:=by omega
   have rY:d.2.1.take i=d.2.1:=bK (by rw[aN6.o];omega);rw[rY]at kS;obtain rfl:R=true:=by rw[←aGF.o,kS.o];rfl
   gi_wp2
   go_ret;exact⟨hCr.o,hKr.o,rfl,hFr.o⟩
