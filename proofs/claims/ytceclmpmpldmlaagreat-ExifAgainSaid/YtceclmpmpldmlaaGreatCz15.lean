import Derived.Test.YtceclmpmpldmlaaGreatCz11
set_option linter.unusedSimpArgs false
set_option linter.unusedVariables false
set_option maxRecDepth 100000
set_option maxHeartbeats 8000000
namespace Go.Proofs.YtceclmpmpldmlaaGreat
open Go.RowKit Tt
attribute [local go_sem] Oper.semAt_some
theorem aOP {w:World} {N:Nat} {o:Int} {sa:Option Addr} {sn sc:Nat} {rec:LoopState→Option Code→Loop} (hN:N=w.heap.size) (hr:aO4 w N o sa sn sc rec):∀f,aO5 w N o sa sn sc rec f:=by
 intro f;induction f with
 |zero=>intro k W d dv hk hd;exact hd.elim
 |succ f ih=>exact aKA hN hr f ih
theorem aKL (f:Nat) (ds:List (jD f)) (p:Flt→Bool) {i:Nat} (hi:i<ds.length):(lX f (ds.take (i+1))).all p=((lX f (ds.take i)).all p&&(jT f ds[i]).all p):=by
 rw[aDO f ds hi,j4]
theorem a5H (f:Nat) (ds:List (jD f)) (p:Flt→Bool) {i:Nat} (h:(lX f (ds.take i)).all p=false):(lX f ds).all p=false:=by
 have e:ds=ds.take i++ds.drop i:=(eY i ds).symm;rw[e];unfold lX at h ⊢;rw[dW,j4,h];rfl
theorem aOQ {w:World} {N:Nat} {o:Int} {sa:Option Addr} {sn sc:Nat} {rec:LoopState→Option Code→Loop} (hN:N=w.heap.size) (hr:aO4 w N o sa sn sc rec) (f:Nat) (ds:List (jD f)) (hd:DJ f w sa sn sc ds) (hs:∀d∈ds,lC f d) (hby:∀d∈ds,pU f d)
  (W:World) (hsz:W.heap.size=N+5) (h0:FE w N o sa sn sc (rec .ready none) W):
  CallsIn Fence.wide (f+12) Tryz.prog 156 #[.func (.yield (N+4)) #[] #[],.pointer (some ⟨N+2,0,none⟩)] W fun e W'=>(∃v,e= .returned v)∧FE w N o sa sn sc (b51 rec (ER f ds)) W':=by
 have hE:=aOP hN hr f;obtain⟨FW,hdl,hsl,hsub⟩:=hd;have hdn:ds.length=sn:=by rw[←hdl];exact hsl.uY qA (by decide)
 have hmx:=hsl.max;have hml:=hsl.le;obtain⟨R,hR⟩:=aC (ER f ds);rw[hR];have hno:∀i,(lX f (ds.take i)).all okF=false→R=false:=fun i h=>hR▸a5H f ds okF h;obtain⟨V,hV,v1,v2,v3,hbV,sV⟩:=yR W 223 #[.func (.yield (N+4)) #[] #[]] 3 #[.int .i64 0] 135 #[.func (.func 157) #[] #[.pointer (some ⟨N+5+1,0,none⟩),.pointer (some ⟨N+5,0,none⟩),.pointer (some ⟨N+5+1+1,0,none⟩)]];rw[hsz]at v1 v2 v3;have F3:=h0.later hbV;have C3:FC N V:=⟨v1,⟨0,v2⟩,v3⟩;obtain⟨hr',uE,wV,hs',rZ⟩:=aI hr hsl hsub hs hby;obtain⟨h0',hE',hN',AQ,zT,hR',hno',v1',v2',v3',bUK,hV'⟩:=aP h0 hE hN hdl hdn hR hno v1 v2 v3 hbV hV;obtain⟨F3',C3'⟩:=aF F3 C3;clear hr hsl hsub hs hby h0 hE hN hdl hdn hR hno v1 v2 v3 hbV hV F3 C3;refine callsIn_of_wp Tryz.func156 rfl trivial ?_ rfl;simp only[Tryz.ntmps156,fB,dF,gN,Nat.reduceAdd,Nat.reduceSub,iG,iF,iV,iJ,eG,iO];have t2:=h0'.o.tb.cell (i:=1) rfl;have t2l:=h0'.o.tb.lt;have hsf:=fun(a:Addr) (c:Array Value) (w:World)=>run_store Tryz.prog w a (.func (.func 157) #[] c) .plain rfl;gi_wp2
 clear hsf;rw[hV'.o];clear t2 t2l;gi_loopw [11] (fun iv wr=>∃i:Nat,i≤sn∧iv= .int .i64 i∧Hid ((lX f (ds.take i)).all okF=true)∧Hid (FE w N o sa sn sc (rec .ready none) wr)∧Hid (FC N wr)∧Hid (pV N V wr)) (fun iv _=>sn - (intOf iv).toNat)
 case atStart=>exact⟨0,by omega,rfl,aA rfl,F3',C3',aA ⟨aU _,fun _ _ _=>rfl⟩⟩
 case round=>
  obtain⟨i,hi,rfl,hall,hFr,hCr,hKr⟩:=hrel;by_cases hlt:i<sn
  ·have hbr:Below w.heap.size w wr:=hN'.o▸hFr.o.below;have hid:i<ds.length:=by rw[zT.o];exact hlt
   have p9:i<FW.length:=by rw[AQ.o];exact hid
   obtain⟨b,o2,rfl,hblt,fe⟩:=(uE.o.mono hbr).elem qA (by decide) dzz hlt;rw[jI p9]at fe;have hq2:=wV.o i p9 hid;obtain⟨ua,un,uc,ra,rn,rc,xa,xn,xc,hv⟩:=hq2.v;have g0:=fe 0 _ rfl;have g1:=fe 1 _ rfl;have g2:=fe 2 _ rfl;clear fe;rw[hv]at hq2 g0 g1 g2;simp only[cK]at g0 g1 g2;have hw1:IntKind.i64.wrap ((i:Int)+1)=i+1:=by rw[aY];omega
   have hil:(i:Int)<(sn:Int):=by omega
   have D6:=aD wr (.cells #[.slice ua un uc,.slice ra rn rc,.slice xa xn xc] 26);have hCs:=hCr.o.later D6;have hFs:=hFr.o.later D6;have hst:=aKL f ds okF hid;have hI:=hE'.o (f+11) _ ds[i] _ (by omega) hq2 (hs'.o _ (bL hid)) (rZ.o _ (bL hid)) hFs hCs;have hno:=hno'.o (i+1);rw[hall.o,dH]at hst;rw[←hst]at hI;have q7:=hCs.eb.cell (i:=0) rfl;have z7:=hCs.eb.frozen 0;have hKs:=hKr.o.trans (pV.of_below D6);obtain⟨bb,hbb⟩:∃b,(lX f (ds.take (i+1))).all okF=b:=⟨_,rfl⟩;rw[hbb]at hno hst hI;obtain⟨a4P,EQ,N7,aO7,bLA,hst',hI',hno',aO8,hv'⟩:=aN hbr hq2 D6 hCs hFs hst hI hno hKs hv;clear hbr hq2 D6 hCs hFs hst hI hno hKs hv;cases bb
   case false=>
    obtain rfl:R=false:=hno'.o rfl;have CZ:=aA hbb;clear hbb;gi_wp2_with (refine⟨trivial,?_⟩;gi_at_call 157;refine hI'.o.mono ?_;rintro e4 W4 ⟨hC4,hK4,rfl,hF4⟩;obtain⟨HC4,HK4,HF4⟩:=aG hC4 (aO8.o.trans hK4) hF4;clear hC4 hK4 hF4)
    refine bodyPost_ret (results_none rfl _ _ _) rfl ?_;exact⟨⟨_,rfl⟩,HF4.o⟩
   case true=>
    have CZ:=aA hbb;clear hbb;gi_wp2_with (refine⟨trivial,?_⟩;gi_at_call 157;refine hI'.o.mono ?_;rintro e4 W4 ⟨hC4,hK4,rfl,hF4⟩;obtain⟨HC4,HK4,HF4⟩:=aG hC4 (aO8.o.trans hK4) hF4;clear hC4 hK4 hF4)
    go_roundw
    case rel=>exact⟨i+1,by omega,by go_num,CZ,HF4,HC4,HK4⟩
    case measure=>simp[intOf];omega
  ·obtain rfl:i=sn:=by omega
   have hfull:ds.take i=ds:=bP (by rw[zT.o];omega);rw[hfull]at hall;obtain rfl:R=true:=by rw[←hR'.o];exact hall.o
   gi_wp2
   go_end0
   exact⟨⟨_,rfl⟩,hFr.o⟩
attribute [local go_sem] Oper.semAt_some
theorem FE.put {w:World} {N:Nat} {o:Int} {sa:Option Addr} {sn sc:Nat} {l l':Loop} {W:World} (h:FE w N o sa sn sc l W):FE w N o sa sn sc l' (W.putObj (N+4) (.loop l')):=by
 obtain⟨h1,h2,h3,h4,h5⟩:=h;have hp:∀k,k≠N+4→(W.putObj (N+4) (.loop l')).heap[k]? =W.heap[k]? :=fun k hk=>World.putObj_heap_other hk;exact⟨h1.trans ⟨rfl,rfl,rfl,by simp,fun k hk=>hp k (by omega)⟩,(hp _ (by omega)).trans h2,(hp _ (by omega)).trans h3,(hp _ (by omega)).trans h4,World.putObj_heap_same (bY.1 h5).1⟩
theorem FC.put {N:Nat} {W:World} (h:FC N W) (l':Loop):FC N (W.putObj (N+4) (.loop l')):=by
 obtain⟨h1,⟨j,h2⟩,h3⟩:=h;have hp:∀k,k≠N+4→(W.putObj (N+4) (.loop l')).heap[k]? =W.heap[k]? :=fun k hk=>World.putObj_heap_other hk;exact⟨(hp _ (by omega)).trans h1,⟨j,(hp _ (by omega)).trans h2⟩,(hp _ (by omega)).trans h3⟩
theorem pV.put {N:Nat} (W:World) (l':Loop):pV N W (W.putObj (N+4) (.loop l')):=⟨by simp,fun k h1 _=>World.putObj_heap_other (by omega)⟩
theorem FE.no {w:World} {N:Nat} {o:Int} {sa:Option Addr} {sn sc:Nat} {l:Loop} {W:World} (h:FE w N o sa sn sc l W):FE w N o sa sn sc l (W.setCell ⟨N+1,0,none⟩ (.bool false)):=by
 obtain⟨h1,h2,h3,h4,h5⟩:=h;have e:∀j,j≠N+1→(W.setCell ⟨N+1,0,none⟩ (.bool false)).heap[j]? =W.heap[j]? :=fun j hj=>eU _ _ _ _ hj;exact⟨h1.setCell (by show N≤N+1;omega) _,h2.set 0 _,(e _ (by omega)).trans h3,(e _ (by omega)).trans h4,(e _ (by omega)).trans h5⟩
theorem FC.no {N:Nat} {W:World} (h:FC N W):FC N (W.setCell ⟨N+1,0,none⟩ (.bool false)):=by
 obtain⟨h1,⟨j,h2⟩,h3⟩:=h;have e:∀j,j≠N+1→(W.setCell ⟨N+1,0,none⟩ (.bool false)).heap[j]? =W.heap[j]? :=fun j hj=>eU _ _ _ _ hj;exact⟨(e _ (by omega)).trans h1,⟨j,(e _ (by omega)).trans h2⟩,(e _ (by omega)).trans h3⟩
theorem pV.no {N:Nat} (W:World):pV N W (W.setCell ⟨N+1,0,none⟩ (.bool false)):=⟨by simp,fun k h1 _=>eU _ _ _ _ (show k≠N+1 by omega)⟩
theorem a9K (f:Nat) (o:Int) (sa:Option Addr) (sn sc:Nat) (ds:List (jD f)) (w:World) (h:DJ f w sa sn sc ds) (hs:∀d∈ds,lC f d) (hby:∀d∈ds,pU f d):
  Calls Tryz.prog 44 #[.agg #[.int .i64 o,.slice sa sn sc]] w fun e w'=>e= .returned (.bool (ER f ds))∧Below w.heap.size w w':=by
 have HI:=aA (fun(rec:LoopState→Option Code→Loop) hr W hsz h0=>aOQ (w:=w) (N:=w.heap.size) (o:=o) (sa:=sa) (sn:=sn) (sc:=sc) (rec:=rec) rfl hr f ds h hs hby W hsz h0);clear h hs hby;obtain⟨R,hR⟩:=aC (ER f ds);rw[hR]at HI ⊢;clear hR;refine(callsIn_wide (n:=f+13)).1 ?_;refine callsIn_of_wp_marks Tryz.func44 rfl trivial ?_ rfl;simp only[Tryz.ntmps44,fB,dF,gN,Nat.reduceAdd,Nat.reduceSub,iG,iF,iV,iJ,eG,iO];gi_wp2_with (refine⟨trivial,?_⟩;gi_at_call 99;refine(callsIn_wide.2 (aE0 _ _ _ _ _)).mono ?_;rintro e w' ⟨rfl,rfl⟩)
 refine aWS rfl (by omega) rfl trivial (enters_of Tryz.func156 (by kernel_rfl) rfl) ?_;intro fn rec hfn hrec;simp only[World.size_alloc,Nat.add_assoc,Nat.reduceAdd];refine CallsIn.mono (HI.o rec ?round _ ?size ?init) ?done
 case size=>simp
 case init=>
  refine⟨?_,?_,?_,?_,?_⟩
  ·exact((((((aW _ _).alloc (aU _) _).alloc (by simp) _).alloc (by simp <;> omega) _).alloc (by simp <;> omega) _).alloc (by simp <;> omega) _)
  ·exact(sN _ _ (by simp <;> omega)).trans ((sN _ _ (by simp <;> omega)).trans ((sN _ _ (by simp)).trans (sW _ _ (by simp))))
  ·exact(sN _ _ (by simp <;> omega)).trans ((sN _ _ (by simp)).trans (sW _ _ (by simp)))
  ·exact(sN _ _ (by simp)).trans (sW _ _ (by simp))
  ·exact sW _ _ (by simp)
 case round=>
  clear HI;intro k W j x v hk hF hC hfl hsm hby;obtain⟨ta,tc,pa,pc,ba,bc,zs,hv,WV,hxt,hbl⟩:=hfl;subst hv;obtain⟨hx1,hx2,hx3⟩:=hsm;have hoF:=aWE (x:=x) ⟨hx1,hx2,hx3⟩;have hal:=aD W (.cells #[.slice ta x.1.length tc,.slice pa x.2.1 pc,.slice ba x.2.2.length bc] 26);have bk:=jJ.new W 26 #[.slice ta x.1.length tc,.slice pa x.2.1 pc,.slice ba x.2.2.length bc];have F1:=hF.later hal;have C1:=hC.later hal;have hNW:w.heap.size+7<W.heap.size:=hC.eb.lt;have aWC:=DK (b:=x.2.2.length) hx1 hx2;have hE:=fun W=>PK ta pa ba x.1.length tc x.2.1 pc x.2.2.length bc W (by omega) (by omega);have hbz:∀z∈zs,mW z.2:=fun z hz=>by
   have:=hby (mE z) (by rw[hxt];exact gL hz);exact this
  have hTC:=fun W (hb:Below (W.heap.size) W W)=>trivial;obtain⟨r,hr⟩:=aC (okF x);rw[hr]at hoF ⊢;obtain⟨q,hq⟩:=aC (x.1.all II);have hqz:(zs.map mE).all II=q:=by rw[←hxt];exact hq
  rw[hq]at hoF;generalize mQ x.1.length x.2.1 x.2.2.length=m at*;generalize x.1.length=tn at*;generalize x.2.1=pn at*;generalize x.2.2.length=bn at*;clear hTC hr hq;obtain⟨b5U,bk',F1',C1',hE',zU,oM,qY,rZ⟩:=aM hoF bk F1 C1 hE hbz hal hbl hby;obtain⟨hF',hC',a4R,bUL,bM8⟩:=aI hF hC WV hxt hqz;clear hoF bk F1 C1 hE hbz hal hbl hby hF hC WV hxt hqz;refine aK7 hfn hrec hF'.o.lb rfl ?_;gi_wp2
  refine⟨F1'.o.lb,?_⟩;have F2:=F1'.o.put (l':=rec .busy none);have C2:=C1'.o.put (rec .busy none);have K2:=(pV.of_below (N:=w.heap.size) oM.o).trans (pV.put _ (rec .busy none));obtain⟨Wb,hWb⟩:∃Wb,Wb=(W.alloc (.cells #[.slice ta tn tc,.slice pa pn pc,.slice ba bn bc] 26)).putObj (w.heap.size+4) (.loop (rec .busy none)):=⟨_,rfl⟩;have bkb:jJ Wb W.heap.size 26 #[.slice ta tn tc,.slice pa pn pc,.slice ba bn bc]:=by rw[hWb];exact(World.putObj_heap_other (by omega)).trans bk'.o
  have hbw:Below w.heap.size w Wb:=by rw[hWb];exact F2.below
  rw[←hWb]at F2 C2 K2 ⊢;clear hWb;have d0:=bkb.cell (i:=0) rfl;have d1:=bkb.cell (i:=1) rfl;have d2:=bkb.cell (i:=2) rfl;obtain⟨F2',C2',K2',bM9,jW⟩:=aI F2 C2 K2 bkb hbw;clear F2 C2 K2 bkb hbw;gi_wp2_with fail
  refine⟨trivial,fun _=>by omega,?_⟩;refine CallsIn.mono (CallsIn.inRound _ (callsIn_wide.2 (hE'.o _))) ?_;rintro e W3 ⟨rfl,hb3⟩;have F3:=F2'.o.later hb3;have C3:=C2'.o.later hb3;have K3:=K2'.o.trans (pV.of_below hb3);have bk3:=bM9.o.late hb3;clear d0 d1 d2;have d0:W3.cell? ⟨W.heap.size,0,none⟩=some (.slice ta tn tc):=bk3.cell rfl;have e65:decide ((65535:Int)<(m:Int))=false:=by simp;omega
  have r1:W3.cell? ⟨w.heap.size+1,0,none⟩=some (.bool false):=F3.rb.cell rfl;have z1:=F3.rb.frozen 0;by_cases hm1:m<1
  ·have e1:decide ((m:Int)<1)=true:=by simp;omega
   obtain rfl:r=false:=by rw[b5U.o,decide_eq_false (show ¬1≤m by omega)];rfl
   obtain⟨F3',C3',K3',aJT,sO⟩:=aI F3 C3 K3 bk3 hb3;clear F3 C3 K3 bk3 hb3;gi_wp2_with fail
   refine⟨trivial,?_⟩;gi_wp2_with fail
   exact⟨F3'.o.no.lb,C3'.o.no.put _,(K3'.o.trans (pV.no _)).trans (pV.put _ _),rfl,F3'.o.no.put⟩
  ·have e1:decide ((m:Int)<1)=false:=by simp;omega
   rw[decide_eq_true (show 1≤m by omega),dH]at b5U;have hT:=aNK ta tn tc zs W3 (a4R.o.mono F3.below) zU.o;rw[bM8.o]at hT;have hrq:r=q:=b5U.o;subst hrq;obtain⟨hT',F3',C3',K3',aJT,sO⟩:=aJ hT F3 C3 K3 bk3 hb3;clear hT F3 C3 K3 bk3 hb3;gi_wp2_with fail
   refine⟨trivial,fun _=>by omega,?_⟩;refine CallsIn.mono (CallsIn.inRound _ (callsIn_wide.2 hT'.o)) ?_;rintro e W4 ⟨rfl,hb4⟩;have F4:=F3'.o.later hb4;have C4:=C3'.o.later hb4;have K4:=K3'.o.trans (pV.of_below hb4);clear r1 z1 d0;have r1:W4.cell? ⟨w.heap.size+1,0,none⟩=some (.bool false):=F4.rb.cell rfl;have z1:=F4.rb.frozen 0;obtain⟨F4',C4',K4',tC⟩:=aH F4 C4 K4 hb4;clear F4 C4 K4 hb4;cases r
   ·gi_wp2_with fail
    exact⟨F4'.o.no.lb,C4'.o.no.put _,(K4'.o.trans (pV.no _)).trans (pV.put _ _),rfl,F4'.o.no.put⟩
   ·gi_wp2_with fail
    exact⟨F4'.o.lb,C4'.o.put _,K4'.o.trans (pV.put _ _),rfl,F4'.o.put⟩
 case done=>
  rintro e W2 ⟨hv,hF⟩;unfold aDZ;simp only[World.size_alloc,Nat.add_assoc,Nat.reduceAdd];cases R with
  |true=>
   refine⟨hv,.ready,none,by decide,hF.lb,?_⟩;dsimp only
   have F2:=hF.put (l':=rec .exhausted none);obtain⟨W3,hW3⟩:∃W3,W3=W2.putObj (w.heap.size+4) (.loop (rec .exhausted none)):=⟨_,rfl⟩;rw[←hW3]at F2 ⊢;have p1:=F2.rb.cell (i:=0) rfl;have z1:=F2.rb.frozen 0;clear hW3 hF;have F2':=aA F2;clear F2;gi_wp2
   obtain⟨W7,hW7⟩:∃W7,W7=W3.setCell ⟨w.heap.size+1,0,none⟩ (.bool true):=⟨_,rfl⟩;rw[←hW7];have b7:jJ W7 (w.heap.size+1) 4 #[.bool true]:=by rw[hW7];exact F2'.o.rb.set 0 _
   have e5:W7.heap[w.heap.size+3]? =some (.deferred (some [])):=by rw[hW7];exact(eU _ _ _ _ (show w.heap.size+3≠w.heap.size+1 by omega)).trans F2'.o.df
   have rP:Below w.heap.size w W7:=by rw[hW7];exact F2'.o.below.setCell (p:=⟨w.heap.size+1,0,none⟩) (by show w.heap.size≤w.heap.size+1;omega) _
   refine⟨by simp,.inl ⟨_,_,rfl,run_takeDeferred e5,?_⟩⟩;have ho:∀k,k≠w.heap.size+3→(W7.putObj (w.heap.size+3) (.deferred none)).heap[k]? =W7.heap[k]? :=fun k hk=>World.putObj_heap_other hk;have b8:jJ (W7.putObj (w.heap.size+3) (.deferred none)) (w.heap.size+1) 4 #[.bool true]:=(ho _ (by omega)).trans b7;have q0:=b8.cell (i:=0) rfl;exact⟨.bool true,by simp[results,Tryz.results44,go_sem,q0],rfl,rP.trans ⟨rfl,rfl,rfl,by simp,fun k hk=>ho k (by omega)⟩⟩
  |false=>
   refine⟨hv,.done,some .ret,by decide,hF.lb,?_⟩;dsimp only
   have F2:=hF.put (l':=rec .exhausted (some .ret));obtain⟨W3,hW3⟩:∃W3,W3=W2.putObj (w.heap.size+4) (.loop (rec .exhausted (some .ret))):=⟨_,rfl⟩;rw[←hW3]at F2 ⊢;have p1:=F2.rb.cell (i:=0) rfl;clear hW3 hF;have F2':=aA F2;clear F2;gi_wp2
   obtain⟨W7,hW7⟩:∃W7,W7=W3:=⟨_,rfl⟩;rw[←hW7];have b7:jJ W7 (w.heap.size+1) 4 #[.bool false]:=by rw[hW7];exact F2'.o.rb
   have e5:W7.heap[w.heap.size+3]? =some (.deferred (some [])):=by rw[hW7];exact F2'.o.df
   have rP:Below w.heap.size w W7:=by rw[hW7];exact F2'.o.below
   refine⟨by simp,.inl ⟨_,_,rfl,run_takeDeferred e5,?_⟩⟩;have ho:∀k,k≠w.heap.size+3→(W7.putObj (w.heap.size+3) (.deferred none)).heap[k]? =W7.heap[k]? :=fun k hk=>World.putObj_heap_other hk;have b8:jJ (W7.putObj (w.heap.size+3) (.deferred none)) (w.heap.size+1) 4 #[.bool false]:=(ho _ (by omega)).trans b7;have q0:=b8.cell (i:=0) rfl;exact⟨.bool false,by simp[results,Tryz.results44,go_sem,q0],rfl,rP.trans ⟨rfl,rfl,rfl,by simp,fun k hk=>ho k (by omega)⟩⟩
