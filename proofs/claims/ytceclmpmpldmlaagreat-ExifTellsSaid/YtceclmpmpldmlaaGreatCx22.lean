import Derived.Test.YtceclmpmpldmlaaGreatCx18
import Derived.Test.YtceclmpmpldmlaaGreatCx15
set_option linter.unusedSimpArgs false
set_option linter.unusedVariables false
set_option maxRecDepth 100000
set_option maxHeartbeats 8000000
namespace Go.Proofs.YtceclmpmpldmlaaGreat
open Go.RowKit Tt
attribute [local go_sem] Oper.semAt_some
theorem aSL {w:World} {N:Nat} {o:Int} {sa:Option Addr} {sn sc:Nat} {rec:LoopState→Option Code→Loop} (hN:N=w.heap.size) (hr:aS1 w N o sa sn sc rec):∀f,aS2 w N o sa sn sc rec f:=by
 intro f;induction f with
 |zero=>intro k W d dv hk hd;exact hd.elim
 |succ f ih=>exact aNL hN hr f ih
theorem aNT (f:Nat) (ds:List (jR f)) (p:Flt→Bool) {i:Nat} (hi:i<ds.length):(lK f (ds.take (i+1))).all p=((lK f (ds.take i)).all p&&(kQ f ds[i]).all p):=by
 rw[a2C f ds hi,iU]
theorem a9W (f:Nat) (ds:List (jR f)) (p:Flt→Bool) {i:Nat} (h:(lK f (ds.take i)).all p=false):(lK f ds).all p=false:=by
 have e:ds=ds.take i++ds.drop i:=(fF i ds).symm;rw[e];unfold lK at h ⊢;rw[dJ,iU,h];rfl
theorem aSM {w:World} {N:Nat} {o:Int} {sa:Option Addr} {sn sc:Nat} {rec:LoopState→Option Code→Loop} (hN:N=w.heap.size) (hr:aS1 w N o sa sn sc rec) (f:Nat) (ds:List (jR f)) (hd:yP f w sa sn sc ds) (hs:∀d∈ds,lN f d) (rU:∀d∈ds,BJ f d)
  (W:World) (rX:W.heap.size=N+5) (h0:FE w N o sa sn sc (rec .ready none) W):
  CallsIn Fence.wide (f+12) Tryz.prog 156 #[.func (.yield (N+4)) #[] #[],.pointer (some ⟨N+2,0,none⟩)] W fun e W'=>(∃v,e= .returned v)∧FE w N o sa sn sc (b6N rec (QS f ds)) W':=by
 have hE:=aSL hN hr f;obtain⟨xC,oQ,nL,nR⟩:=hd;have sM:ds.length=sn:=by rw[←oQ];exact nL.rP mP aH
 have LX:=nL.max;have hml:=nL.le;obtain⟨R,hR⟩:=aC (QS f ds);rw[hR];have qW:∀i,(lK f (ds.take i)).all okF=false→R=false:=fun i h=>hR▸a9W f ds okF h;obtain⟨V,hV,v1,v2,v3,hbV,sV⟩:=wV W 223 #[.func (.yield (N+4)) #[] #[]] 3 #[.int .i64 0] 135 #[.func (.func 157) #[] #[.pointer (some ⟨N+5+1,0,none⟩),.pointer (some ⟨N+5,0,none⟩),.pointer (some ⟨N+5+1+1,0,none⟩)]];rw[rX]at v1 v2 v3;have F3:=h0.later hbV;have C3:FC N V:=⟨v1,⟨0,v2⟩,v3⟩;obtain⟨qX,tX,oW,pX,wJ⟩:=aM hr nL nR hs rU;obtain⟨h0',JA,YD,sH,wI,vG,sW,v1',v2',v3',bVO,hV'⟩:=aT h0 hE hN oQ sM hR qW v1 v2 v3 hbV hV;obtain⟨F3',C3'⟩:=aJ F3 C3;clear hr nL nR hs rU h0 hE hN oQ sM hR qW v1 v2 v3 hbV hV F3 C3;refine callsIn_of_wp Tryz.func156 rfl trivial ?_ rfl;simp only[Tryz.ntmps156,gG,dP,iG,Nat.reduceAdd,Nat.reduceSub,Array.replicate_succ,Array.replicate_zero,List.push_toArray,List.append_toArray,eX,List.cons_append];have t2:=h0'.o.tb.cell (i:=1) rfl;have t2l:=h0'.o.tb.lt;have hsf:=fun(a:Addr) (c:Array Value) (w:World)=>run_store Tryz.prog w a (.func (.func 157) #[] c) .plain rfl;gi_wp2
 clear hsf;rw[hV'.o];clear t2 t2l;gi_loopw [11] (fun iv wr=>∃i:Nat,i≤sn∧iv= .int .i64 i∧Hid ((lK f (ds.take i)).all okF=true)∧Hid (FE w N o sa sn sc (rec .ready none) wr)∧Hid (FC N wr)∧Hid (rH N V wr)) (fun iv _=>sn - (intOf iv).toNat)
 case atStart=>exact⟨0,by omega,rfl,aA rfl,F3',C3',aA ⟨aZ _,fun _ _ _=>rfl⟩⟩
 case round=>
  obtain⟨i,hi,rfl,kS,hFr,hCr,hKr⟩:=hrel;by_cases kD:i<sn
  ·have lI:Below w.heap.size w wr:=YD.o▸hFr.o.below;have hid:i<ds.length:=by rw[wI.o];exact kD
   have nV:i<xC.length:=by rw[sH.o];exact hid
   obtain⟨b,o2,rfl,lC,fe⟩:=(tX.o.mono lI).elem mP aH dzz kD;rw[jO nV]at fe;have nD:=oW.o i nV hid;obtain⟨ua,un,uc,ra,rn,rc,xa,xn,xc,hv⟩:=nD.v;have g0:=fe 0 _ rfl;have g1:=fe 1 _ rfl;have g2:=fe 2 _ rfl;clear fe;rw[hv]at nD g0 g1 g2;simp only[bU]at g0 g1 g2;have sS:IntKind.i64.wrap ((i:Int)+1)=i+1:=by rw[bF];omega
   have I4:(i:Int)<(sn:Int):=by omega
   have KZ:=aD wr (.cells #[.slice ua un uc,.slice ra rn rc,.slice xa xn xc] 26);have GQ:=hCr.o.later KZ;have hFs:=hFr.o.later KZ;have vI:=aNT f ds okF hid;have hI:=JA.o (f+11) _ ds[i] _ aG nD (pX.o _ (bJ hid)) (wJ.o _ (bJ hid)) hFs GQ;have qW:=sW.o (i+1);rw[kS.o,dD]at vI;rw[←vI]at hI;have q7:=GQ.eb.cell (i:=0) rfl;have z7:=GQ.eb.frozen 0;have hKs:=hKr.o.trans (rH.of_below KZ);obtain⟨bb,yZ⟩:∃b,(lK f (ds.take (i+1))).all okF=b:=⟨_,rfl⟩;rw[yZ]at qW vI hI;obtain⟨KY,zH,YT,a2T,bOK,zN,MR,sW,aH8,xE⟩:=aR lI nD KZ GQ hFs vI hI qW hKs hv;clear lI nD KZ GQ hFs vI hI qW hKs hv;cases bb
   case false=>
    obtain rfl:R=false:=sW.o rfl;have AZ:=aA yZ;clear yZ;gi_wp2_with (refine⟨trivial,?_⟩;gi_at_call 157;refine MR.o.mono ?_;rintro e4 W4 ⟨hC4,hK4,rfl,hF4⟩;obtain⟨HC4,HK4,HF4⟩:=aK hC4 (aH8.o.trans hK4) hF4;clear hC4 hK4 hF4)
    refine bodyPost_ret (results_none rfl _ _ _) rfl ?_;exact⟨⟨_,rfl⟩,HF4.o⟩
   case true=>
    have AZ:=aA yZ;clear yZ;gi_wp2_with (refine⟨trivial,?_⟩;gi_at_call 157;refine MR.o.mono ?_;rintro e4 W4 ⟨hC4,hK4,rfl,hF4⟩;obtain⟨HC4,HK4,HF4⟩:=aK hC4 (aH8.o.trans hK4) hF4;clear hC4 hK4 hF4)
    go_roundw
    case rel=>exact⟨i+1,by omega,by go_num,AZ,HF4,HC4,HK4⟩
    case measure=>simp[intOf];omega
  ·obtain rfl:i=sn:=by omega
   have rY:ds.take i=ds:=bK (by rw[wI.o];omega);rw[rY]at kS;obtain rfl:R=true:=by rw[←vG.o];exact kS.o
   gi_wp2
   go_end0
   exact⟨⟨_,rfl⟩,hFr.o⟩
end Go.Proofs.YtceclmpmpldmlaaGreat
namespace Go.Proofs.YtceclmpmpldmlaaGreat
open Go.RowKit Tt
attribute [local go_sem] Oper.semAt_some
theorem FE.put {w:World} {N:Nat} {o:Int} {sa:Option Addr} {sn sc:Nat} {l l':Loop} {W:World} (h:FE w N o sa sn sc l W):FE w N o sa sn sc l' (W.putObj (N+4) (.loop l')):=by
 obtain⟨h1,h2,h3,h4,h5⟩:=h;have hp:∀k,k≠N+4→(W.putObj (N+4) (.loop l')).heap[k]? =W.heap[k]? :=fun k hk=>World.putObj_heap_other hk;exact⟨h1.trans ⟨rfl,rfl,rfl,by simp,fun k hk=>hp k aG⟩,(hp _ aG).trans h2,(hp _ aG).trans h3,(hp _ aG).trans h4,World.putObj_heap_same (bW.1 h5).1⟩
theorem FC.put {N:Nat} {W:World} (h:FC N W) (l':Loop):FC N (W.putObj (N+4) (.loop l')):=by
 obtain⟨h1,⟨j,h2⟩,h3⟩:=h;have hp:∀k,k≠N+4→(W.putObj (N+4) (.loop l')).heap[k]? =W.heap[k]? :=fun k hk=>World.putObj_heap_other hk;exact⟨(hp _ aG).trans h1,⟨j,(hp _ aG).trans h2⟩,(hp _ aG).trans h3⟩
theorem rH.put {N:Nat} (W:World) (l':Loop):rH N W (W.putObj (N+4) (.loop l')):=⟨by simp,fun k h1 _=>World.putObj_heap_other aG⟩
theorem FE.no {w:World} {N:Nat} {o:Int} {sa:Option Addr} {sn sc:Nat} {l:Loop} {W:World} (h:FE w N o sa sn sc l W):FE w N o sa sn sc l (W.setCell ⟨N+1,0,none⟩ (.bool false)):=by
 obtain⟨h1,h2,h3,h4,h5⟩:=h;have e:∀j,j≠N+1→(W.setCell ⟨N+1,0,none⟩ (.bool false)).heap[j]? =W.heap[j]? :=fun j hj=>eF _ _ _ _ hj;exact⟨h1.setCell (by show N≤N+1;omega) _,h2.set 0 _,(e _ aG).trans h3,(e _ aG).trans h4,(e _ aG).trans h5⟩
theorem FC.no {N:Nat} {W:World} (h:FC N W):FC N (W.setCell ⟨N+1,0,none⟩ (.bool false)):=by
 obtain⟨h1,⟨j,h2⟩,h3⟩:=h;have e:∀j,j≠N+1→(W.setCell ⟨N+1,0,none⟩ (.bool false)).heap[j]? =W.heap[j]? :=fun j hj=>eF _ _ _ _ hj;exact⟨(e _ aG).trans h1,⟨j,(e _ aG).trans h2⟩,(e _ aG).trans h3⟩
theorem rH.no {N:Nat} (W:World):rH N W (W.setCell ⟨N+1,0,none⟩ (.bool false)):=⟨by simp,fun k h1 _=>eF _ _ _ _ (show k≠N+1 by omega)⟩
theorem aD6 (f:Nat) (o:Int) (sa:Option Addr) (sn sc:Nat) (ds:List (jR f)) (w:World) (h:yP f w sa sn sc ds) (hs:∀d∈ds,lN f d) (rU:∀d∈ds,BJ f d):
  Calls Tryz.prog 44 #[.agg #[.int .i64 o,.slice sa sn sc]] w fun e w'=>e= .returned (.bool (QS f ds))∧Below w.heap.size w w':=by
 have HI:=aA (fun(rec:LoopState→Option Code→Loop) hr W rX h0=>aSM (w:=w) (N:=w.heap.size) (o:=o) (sa:=sa) (sn:=sn) (sc:=sc) (rec:=rec) rfl hr f ds h hs rU W rX h0);clear h hs rU;obtain⟨R,hR⟩:=aC (QS f ds);rw[hR]at HI ⊢;clear hR;refine(callsIn_wide (n:=f+13)).1 ?_;refine callsIn_of_wp_marks Tryz.func44 rfl trivial ?_ rfl;simp only[Tryz.ntmps44,gG,dP,iG,Nat.reduceAdd,Nat.reduceSub,Array.replicate_succ,Array.replicate_zero,List.push_toArray,List.append_toArray,eX,List.cons_append];gi_wp2_with (refine⟨trivial,?_⟩;gi_at_call 99;refine(callsIn_wide.2 (aH7 _ _ _ _ _)).mono ?_;rintro e w' ⟨rfl,rfl⟩)
 refine aYX rfl aG rfl trivial (enters_of Tryz.func156 aF rfl) ?_;intro fn rec hfn a5W;simp only[World.size_alloc,Nat.add_assoc,Nat.reduceAdd];refine CallsIn.mono (HI.o rec ?round _ ?size ?init) ?done
 case size=>simp
 case init=>
  refine⟨?_,?_,?_,?_,?_⟩
  ·exact((((((aY _ _).alloc (aZ _) _).alloc (by simp) _).alloc (by simp <;> omega) _).alloc (by simp <;> omega) _).alloc (by simp <;> omega) _)
  ·exact(sG _ _ (by simp <;> omega)).trans ((sG _ _ (by simp <;> omega)).trans ((sG _ _ (by simp)).trans (wB _ _ (by simp))))
  ·exact(sG _ _ (by simp <;> omega)).trans ((sG _ _ (by simp)).trans (wB _ _ (by simp)))
  ·exact(sG _ _ (by simp)).trans (wB _ _ (by simp))
  ·exact wB _ _ (by simp)
 case round=>
  clear HI;intro k W j x v hk hF hC hfl tH rU;obtain⟨ta,tc,pa,pc,ba,bc,zs,hv,A8,hxt,vF⟩:=hfl;subst hv;obtain⟨hx1,TU,WR⟩:=tH;have hoF:=aK8 (x:=x) ⟨hx1,TU,WR⟩;have l9:=aD W (.cells #[.slice ta x.1.length tc,.slice pa x.2.1 pc,.slice ba x.2.2.length bc] 26);have bk:=jW.new W 26 #[.slice ta x.1.length tc,.slice pa x.2.1 pc,.slice ba x.2.2.length bc];have F1:=hF.later l9;have C1:=hC.later l9;have hNW:w.heap.size+7<W.heap.size:=hC.eb.lt;have aC5:=yY (b:=x.2.2.length) hx1 TU;have hE:=fun W=>UU ta pa ba x.1.length tc x.2.1 pc x.2.2.length bc W aG aG;have wR:∀z∈zs,tV z.2:=fun z hz=>by
   have:=rU (l8 z) (by rw[hxt];exact fP hz);exact this
  have hTC:=fun W (hb:Below (W.heap.size) W W)=>trivial;obtain⟨r,hr⟩:=aC (okF x);rw[hr]at hoF ⊢;obtain⟨q,hq⟩:=aC (x.1.all ZW);have hqz:(zs.map l8).all ZW=q:=by rw[←hxt];exact hq
  rw[hq]at hoF;generalize qM x.1.length x.2.1 x.2.2.length=m at*;generalize x.1.length=tn at*;generalize x.2.1=pn at*;generalize x.2.2.length=bn at*;clear hTC hr hq;obtain⟨b7I,U2,F1',C1',JA,zI,oL,tL,wJ⟩:=aQ hoF bk F1 C1 hE wR l9 vF rU;obtain⟨hF',MC,D8,bF5,bP6⟩:=aM hF hC A8 hxt hqz;clear hoF bk F1 C1 hE wR l9 vF rU hF hC A8 hxt hqz;refine aNI hfn a5W hF'.o.lb rfl ?_;gi_wp2
  refine⟨F1'.o.lb,?_⟩;have F2:=F1'.o.put (l':=rec .busy none);have C2:=C1'.o.put (rec .busy none);have K2:=(rH.of_below (N:=w.heap.size) oL.o).trans (rH.put _ (rec .busy none));obtain⟨Wb,hWb⟩:∃Wb,Wb=(W.alloc (.cells #[.slice ta tn tc,.slice pa pn pc,.slice ba bn bc] 26)).putObj (w.heap.size+4) (.loop (rec .busy none)):=⟨_,rfl⟩;have bkb:jW Wb W.heap.size 26 #[.slice ta tn tc,.slice pa pn pc,.slice ba bn bc]:=by rw[hWb];exact(World.putObj_heap_other aG).trans U2.o
  have jZ:Below w.heap.size w Wb:=by rw[hWb];exact F2.below
  rw[←hWb]at F2 C2 K2 ⊢;clear hWb;have d0:=bkb.cell (i:=0) rfl;have d1:=bkb.cell (i:=1) rfl;have d2:=bkb.cell (i:=2) rfl;obtain⟨F2',C2',K2',bP7,jM⟩:=aM F2 C2 K2 bkb jZ;clear F2 C2 K2 bkb jZ;gi_wp2_with fail
  refine⟨trivial,fun _=>by omega,?_⟩;refine CallsIn.mono (CallsIn.inRound _ (callsIn_wide.2 (JA.o _))) ?_;rintro e W3 ⟨rfl,jQ⟩;have F3:=F2'.o.later jQ;have C3:=C2'.o.later jQ;have K3:=K2'.o.trans (rH.of_below jQ);have XE:=bP7.o.late jQ;clear d0 d1 d2;have d0:=XE.cell (i:=0) rfl;have e65:decide ((65535:Int)<(m:Int))=false:=by simp;omega
  have r1:=F3.rb.cell (i:=0) rfl;have z1:=F3.rb.frozen 0;by_cases U8:m<1
  ·have e1:decide ((m:Int)<1)=true:=by simp;omega
   obtain rfl:r=false:=by rw[b7I.o,decide_eq_false (show ¬1≤m by omega)];rfl
   obtain⟨F3',C3',K3',a9B,qN⟩:=aM F3 C3 K3 XE jQ;clear F3 C3 K3 XE jQ;gi_wp2_with fail
   refine⟨trivial,?_⟩;gi_wp2_with fail
   exact⟨F3'.o.no.lb,C3'.o.no.put _,(K3'.o.trans (rH.no _)).trans (rH.put _ _),rfl,F3'.o.no.put⟩
  ·have e1:decide ((m:Int)<1)=false:=by simp;omega
   rw[decide_eq_true (show 1≤m by omega),dD]at b7I;have hT:=aRJ ta tn tc zs W3 (D8.o.mono F3.below) zI.o;rw[bP6.o]at hT;have hrq:r=q:=b7I.o;subst hrq;obtain⟨hT',F3',C3',K3',a9B,qN⟩:=aN hT F3 C3 K3 XE jQ;clear hT F3 C3 K3 XE jQ;gi_wp2_with fail
   refine⟨trivial,fun _=>by omega,?_⟩;refine CallsIn.mono (CallsIn.inRound _ (callsIn_wide.2 hT'.o)) ?_;rintro e W4 ⟨rfl,mF⟩;have F4:=F3'.o.later mF;have C4:=C3'.o.later mF;have K4:=K3'.o.trans (rH.of_below mF);clear r1 z1 d0;have r1:=F4.rb.cell (i:=0) rfl;have z1:=F4.rb.frozen 0;obtain⟨F4',C4',K4',rT⟩:=aL F4 C4 K4 mF;clear F4 C4 K4 mF;cases r
   ·gi_wp2_with fail
    exact⟨F4'.o.no.lb,C4'.o.no.put _,(K4'.o.trans (rH.no _)).trans (rH.put _ _),rfl,F4'.o.no.put⟩
   ·gi_wp2_with fail
    exact⟨F4'.o.lb,C4'.o.put _,K4'.o.trans (rH.put _ _),rfl,F4'.o.put⟩
 case done=>
  rintro e W2 ⟨hv,hF⟩;unfold aH6;simp only[World.size_alloc,Nat.add_assoc,Nat.reduceAdd];cases R with
  |true=>
   refine⟨hv,.ready,none,by decide,hF.lb,?_⟩;dsimp only
   have F2:=hF.put (l':=rec .exhausted none);obtain⟨W3,hW3⟩:∃W3,W3=W2.putObj (w.heap.size+4) (.loop (rec .exhausted none)):=⟨_,rfl⟩;rw[←hW3]at F2 ⊢;have p1:=F2.rb.cell (i:=0) rfl;have z1:=F2.rb.frozen 0;clear hW3 hF;have F2':=aA F2;clear F2;gi_wp2
   obtain⟨W7,U6⟩:∃W7,W7=W3.setCell ⟨w.heap.size+1,0,none⟩ (.bool true):=⟨_,rfl⟩;rw[←U6];have b7:jW W7 (w.heap.size+1) 4 #[.bool true]:=by rw[U6];exact F2'.o.rb.set 0 _
   have e5:W7.heap[w.heap.size+3]? =some (.deferred (some [])):=by rw[U6];exact(eF _ _ _ _ (show w.heap.size+3≠w.heap.size+1 by omega)).trans F2'.o.df
   have rE:Below w.heap.size w W7:=by rw[U6];exact F2'.o.below.setCell (p:=⟨w.heap.size+1,0,none⟩) (by show w.heap.size≤w.heap.size+1;omega) _
   refine⟨by simp,.inl ⟨_,_,rfl,run_takeDeferred e5,?_⟩⟩;have ho:∀k,k≠w.heap.size+3→(W7.putObj (w.heap.size+3) (.deferred none)).heap[k]? =W7.heap[k]? :=fun k hk=>World.putObj_heap_other hk;have b8:jW (W7.putObj (w.heap.size+3) (.deferred none)) (w.heap.size+1) 4 #[.bool true]:=(ho _ aG).trans b7;have q0:=b8.cell (i:=0) rfl;exact⟨.bool true,by simp[results,Tryz.results44,go_sem,q0],rfl,rE.trans ⟨rfl,rfl,rfl,by simp,fun k hk=>ho k aG⟩⟩
  |false=>
   refine⟨hv,.done,some .ret,by decide,hF.lb,?_⟩;dsimp only
   have F2:=hF.put (l':=rec .exhausted (some .ret));obtain⟨W3,hW3⟩:∃W3,W3=W2.putObj (w.heap.size+4) (.loop (rec .exhausted (some .ret))):=⟨_,rfl⟩;rw[←hW3]at F2 ⊢;have p1:=F2.rb.cell (i:=0) rfl;clear hW3 hF;have F2':=aA F2;clear F2;gi_wp2
   obtain⟨W7,U6⟩:∃W7,W7=W3:=⟨_,rfl⟩;rw[←U6];have b7:jW W7 (w.heap.size+1) 4 #[.bool false]:=by rw[U6];exact F2'.o.rb
   have e5:W7.heap[w.heap.size+3]? =some (.deferred (some [])):=by rw[U6];exact F2'.o.df
   have rE:Below w.heap.size w W7:=by rw[U6];exact F2'.o.below
   refine⟨by simp,.inl ⟨_,_,rfl,run_takeDeferred e5,?_⟩⟩;have ho:∀k,k≠w.heap.size+3→(W7.putObj (w.heap.size+3) (.deferred none)).heap[k]? =W7.heap[k]? :=fun k hk=>World.putObj_heap_other hk;have b8:jW (W7.putObj (w.heap.size+3) (.deferred none)) (w.heap.size+1) 4 #[.bool false]:=(ho _ aG).trans b7;have q0:=b8.cell (i:=0) rfl;exact⟨.bool false,by simp[results,Tryz.results44,go_sem,q0],rfl,rE.trans ⟨rfl,rfl,rfl,by simp,fun k hk=>ho k aG⟩⟩
