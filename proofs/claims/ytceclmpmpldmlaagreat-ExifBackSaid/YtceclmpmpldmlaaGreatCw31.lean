import Derived.Test.YtceclmpmpldmlaaGreatCw30
set_option linter.unusedSimpArgs false
set_option linter.unusedVariables false
set_option maxRecDepth 100000
set_option maxHeartbeats 8000000
namespace Go.Proofs.YtceclmpmpldmlaaGreat
open Go.RowKit Tt
theorem slB {W:World} {g:Nat} {T:TypeId} {cs:List Value} {n sz:Nat} (h:kG W g T cs.toArray) (hl:cs.length=n*sz) (hn:n≤9223372036854775807):Sl W (some ⟨g,0,none⟩) n n sz cs:=
 ⟨hl,aY _,hn,fun i hi=>⟨g,0,rfl,h.lt,fun j v hv=>by
  have:=h.cell (i:=j) (v:=v) (by simpa using hv);rw[eU];exact this⟩,fun h=>by cases h⟩
abbrev bM6 (g h:Nat):Array Value:=#[.slice (some ⟨g,0,none⟩) 2 2,.int .i64 0,.int .i64 0,.int .i64 1,.slice none 0 0,.int .i64 513,.int .i64 514,.int .i64 (-1),.slice (some ⟨h,0,none⟩) 1 1,.int .i64 0,.int .i64 0,.int .i64 (-1),.slice none 0 0,.int .i64 0,.int .i64 0,.int .i64 (-1),.slice none 0 0,.int .i64 0,.int .i64 0,.int .i64 (-1)]
abbrev bER (g h:Nat):List Shz:= [((some ⟨g,0,none⟩,2,2),([(34665,2),(34853,3)],0,0,1)),((none,0,0),([],513,514, -1)),((some ⟨h,0,none⟩,1,1),([(40965,4)],0,0, -1)),((none,0,0),([],0,0, -1)),((none,0,0),([],0,0, -1))]
theorem bES {W:World} {g h k:Nat} (b1:kG W g 32 #[.int .i64 34665,.int .i64 2,.int .i64 34853,.int .i64 3]) (b2:kG W h 32 #[.int .i64 40965,.int .i64 4]) (b3:kG W k 35 (bM6 g h)):ShR W (some ⟨k,0,none⟩) 5 5 (bER g h):=by
 refine⟨slB (T:=35) (cs:=fl shc (bER g h)) b3 rfl aH,fun z hz=>?_⟩;simp only[bER,cK,eG,or_false]at hz;rcases hz with rfl|rfl|rfl|rfl|rfl
 ·exact slB (T:=32) (cs:=fl lkc [(34665,2),(34853,3)]) b1 rfl (by show 2≤9223372036854775807;decide)
 ·exact Sl.nil _ _
 ·exact slB (T:=32) (cs:=fl lkc [(40965,4)]) b2 rfl (by show 1≤9223372036854775807;decide)
 ·exact Sl.nil _ _
 ·exact Sl.nil _ _
theorem AO (w:World):Calls Tryz.prog 38 #[] w fun e w'=>∃a zs,e= .returned (.slice a 5 5)∧ShR w' a 5 5 zs∧kK zs=vB∧Below w.heap.size w w':=by
 obtain⟨W,hW,b1,b2,b3,hb,s⟩:=F6 w 32 #[.int .i64 34665,.int .i64 2,.int .i64 34853,.int .i64 3] 32 #[.int .i64 40965,.int .i64 4] 35 (bM6 w.heap.size (w.heap.size+1));have hr:=bES b1 b2 b3;obtain⟨WH,b1',b2',b3',pW,s',sH⟩:=aO hW b1 b2 b3 hb s hr;clear hW b1 b2 b3 hb s hr;go_enter Tryz.func38,Tryz.ntmps38;go_wp2_with fail
 rw[WH.o];go_ret;exact⟨_,_,rfl,sH.o,rfl,pW.o⟩
theorem aWU (a:Option Addr) (n c:Nat) (l:List Int) (w:World) (hs:Sl w a n c 1 (ints .i64 l)) (h1:1≤n):
  Calls Tryz.prog 120 #[.slice a n c] w fun e w'=>∃m,e= .returned (.int .i64 m)∧m∈l∧(∀x∈l,x≤m)∧Below w.heap.size w w':=by
 have hl:=hs.p9;have hm:=hs.max;have FI:=hs.le;obtain⟨b,o,rfl,hb,hc⟩:=hs.lies 0 aG;have hcc:∀i,i<n→w.cell? ⟨b,o+i,none⟩=some (.int .i64 (l.getD i 0)):=fun i hi=>hc i _ (qN aG);have c0:=hcc 0 h1;rw[dB]at c0;have e0:decide ((n:Int)<1)=false:=by simp;omega
 have h1i:(1:Int)≤n:=by omega
 have h0i:(0:Int)<n:=by omega
 obtain⟨sK,FX,KU,bXC⟩:=aL hs hl hc hcc;clear hs hl hc hcc;go_enter Tryz.func120,Tryz.ntmps120;go_wp2_with fail
 go_loopw [3,4] (fun mv iv wr=>∃(i:Nat) (m:Int),1≤i∧i≤n∧mv= .int .i64 m∧iv= .int .i64 i∧Hid (m∈l.take i∧∀x∈l.take i,x≤m)∧Hid (Below w.heap.size w wr)) (fun _ iv _=>n - (intOf iv).toNat)
 case atStart=>
  have e:l.take 1= [l.getD 0 0]:=by
   cases l with
   |nil=>have:=FX.o;simp at this;omega
   |cons x r=>simp
  exact⟨1,l.getD 0 0,by omega,h1,rfl,rfl,aA ⟨by rw[e];exact dK.2 rfl,fun x hx=>by rw[e]at hx;rw[dK.1 hx];exact gX _⟩,aA (bF _ _)⟩
 case round=>
  obtain⟨i,m,hi1,CY,rfl,rfl,UC,nR⟩:=hrel;by_cases hi:i<n
  ·have hil:(i:Int)<(n:Int):=by omega
   have AY:(0:Int)≤(i:Int):=by omega
   have xR:IntKind.i64.wrap ((i:Int)+1)=i+1:=by rw[bJ];omega
   have ci:=late nR.o hb (bXC.o i hi);have KE:l.take (i+1)=l.take i++ [l.getD i 0]:=by
    have kY:i<l.length:=by have:=FX.o;omega
    rw[fC kY,aZ,bH kY];rfl
   have a8B:=aA KE;clear KE;go_wp2_with fail
   go_roundw
   case rel=>
    refine⟨i+1,max m (l.getD i 0),by omega,by omega,?_,by go_num,aA ⟨?_,fun x hx=>?_⟩,nR⟩
    ·first|rfl|(congr 1;omega)|simp
    ·rw[a8B.o];by_cases h:m≤l.getD i 0
     ·rw[Int.max_eq_right h];exact List.mem_append_right _ (dK.2 rfl)
     ·rw[Int.max_eq_left aG];exact List.mem_append_left _ UC.o.1
    ·rw[a8B.o]at hx;rcases bO.1 hx with hx|hx
     ·have:=UC.o.2 x hx;omega
     ·rw[dK.1 hx];omega
   case measure=>simp[intOf];omega
  ·obtain rfl:i=n:=by omega
   go_wp2_with fail
   go_ret;have lY:=UC.o;rw[bW (by rw[FX.o];exact aY _)]at lY;exact⟨m,rfl,lY.1,lY.2,nR.o⟩
theorem I8 (a:Option Addr) (n c:Nat) (l:List Int) (w:World) (hs:Sl w a n c 1 (ints .i64 l)) (h1:1≤n):
  Calls Tryz.prog 59 #[.slice a n c] w fun e w'=>e= .returned (.bool (l.any fun x=>decide (0<x)))∧Below w.heap.size w w':=by
 have hM:=aWU a n c l w hs h1;have hM':=aA hM;clear hM;go_enter Tryz.func59,Tryz.ntmps59;go_wp2_with fail
 refine hM'.o.mono ?_;rintro e w1 ⟨m,rfl,OL,T9,kV⟩;have e1:(l.any fun x=>decide (0<x))=decide (0<m):=by
  rw[dY,jP,decide_eq_true_eq];refine⟨fun⟨x,hx,h⟩=>?_,fun h=>⟨m,OL,by simpa using h⟩⟩;have:=T9 x hx;have h:=of_decide_eq_true h;omega
 obtain⟨lZ,MI,ZQ,e1'⟩:=aL kV OL T9 e1;clear kV OL T9 e1;go_wp2_with fail
 go_ret;exact⟨by rw[e1'.o];rfl,lZ.o⟩
theorem a0J (o:Int) (A:ExA) (w:World):
  Calls Tryz.prog 68 #[exV o A] w fun e w'=>e= .returned (.agg #[.int .i64 0,.slice A.za A.zn A.zc,.int .i64 2,.slice A.pa A.pn A.pc,.int .i64 3,.slice A.ga A.gn A.gc,.int .i64 4,.slice A.ia A.iN A.ic,.int .i64 1,.slice A.fa A.fn A.fc])∧Below w.heap.size w w':=by
 obtain⟨za,zn,zc,pa,pn,pc,ga,gn,gc,ia,iN,ic,fa,fn,fc,ma,mn,mc,ta,tn,tc⟩:=A;simp only[exV,VT];obtain⟨W,hW,bE,bR,hb,tC⟩:=sN w 61 #[.int .i64 o,.slice za zn zc,.slice pa pn pc,.slice ga gn gc,.slice ia iN ic,.slice fa fn fc,.slice ma mn mc,.slice ta tn tc] 125 #[.int .i64 0,.slice none 0 0,.int .i64 0,.slice none 0 0,.int .i64 0,.slice none 0 0,.int .i64 0,.slice none 0 0,.int .i64 0,.slice none 0 0];have q1:=bE.cell (i:=1) rfl;have q2:=bE.cell (i:=2) rfl;have q3:=bE.cell (i:=3) rfl;have q4:=bE.cell (i:=4) rfl;have q5:=bE.cell (i:=5) rfl;obtain⟨WH,bE',bR',pW,a8X⟩:=aM hW bE bR hb tC;clear hW bE bR hb tC;go_enter Tryz.func68,Tryz.ntmps68;go_upto_region 1 with fail
 rw[WH.o];go_wp2_with (refine wpList_store_row rfl 125 (.tmp 2) (.tmp 18) rfl (w.heap.size+1) #[.int .i64 0,.slice za zn zc,.int .i64 2,.slice pa pn pc,.int .i64 3,.slice ga gn gc,.int .i64 4,.slice ia iN ic,.int .i64 1,.slice fa fn fc] rfl rfl 125 _ bR'.o aF rfl aF ?_)
 refine bodyPost_ret (results_cell_row rfl _ _ (w.heap.size+1) 125 #[.int .i64 0,.slice za zn zc,.int .i64 2,.slice pa pn pc,.int .i64 3,.slice ga gn gc,.int .i64 4,.slice ia iN ic,.int .i64 1,.slice fa fn fc] (0,0) _ rfl (bR'.o.row _) Tryz.underlying125 rfl aF) rfl ?_;exact⟨rfl,kN pW.o (dX _ 1) _⟩
theorem Ow.bBZ {B B':Nat} {W:World} {z:Tz} (h:Ow B W z) {g n c m:Nat} {xs:List Value} (hr:W.ownsRow B' 74 4 (.slice (some ⟨g,0,none⟩) n c) m xs) (i:Nat) (x:Value):Ow B (W.setCell ⟨g,i,none⟩ x) z:=h.put hr i x
theorem b4Q {zs:List Tz} {i:Nat} {y t k:Int} {a a0:Option Addr} {n c n0 c0:Nat} {d:List Int} (hi:i<zs.length) (h:zs.getD i JL=((y,t,k,a0,n0,c0),d)):
  (zc zs).set (i*4+3) (.slice a n c)=zc (zs.set i ((y,t,k,a,n,c),d)):=by
 refine ZK aH ?_;show(zcl (zs.getD i JL)).set 3 _=_
 rw[h];rfl
theorem Ow.len {B:Nat} {W:World} {z:Tz} (h:Ow B W z):z.1.2.2.2.2.1=z.2.length:=by
 have:=h.1;unfold ints at this;rw[dF]at this;omega
theorem To.at_ {B:Nat} {W:World} {a:Option Addr} {n c:Nat} {zs:List Tz} {ts:List oZ} (h:To B W a n c zs) (e:zs.map tag=ts):lX QJ B W (.slice a n c) ts:=by
 have hn:=h.len;refine⟨zs,e.symm,⟨by rw[hn];exact h.row,fun _ _ h=>h⟩,fun z hz=>⟨?_,fun _ _ h=>h⟩⟩;have:=h.each z hz;rw[←this.len];exact this
theorem a6L (a:Option Addr) (n c:Nat) (zs:List Tz) (w:World) (hs:Tr w a n c zs) (hl:n≤1000000) (hd:∀z∈zs,z.1.2.2.2.2.1≤1000000):
  Calls Tryz.prog 58 #[.slice a n c] w fun e w'=>∃a' c' zs',e= .returned (.slice a' n c')∧To w.heap.size w' a' n c' zs'∧zs'.map tag=zs.map tag∧Below w.heap.size w w':=by
 have vO:=hs.len;have hC:=a3J a n c zs w hs.row hl;obtain⟨sK,hd',oC,OO⟩:=aL hs hd vO hC;clear hs hd vO hC;go_enter Tryz.func58,Tryz.ntmps58;go_wp2_with fail
 refine OO.o.mono ?_;rintro e w1 ⟨a5,c5,rfl,ho,hb⟩;obtain⟨JG,pW⟩:=aJ ho hb;clear ho hb;go_wp2;go_loopw [9] (fun iv wr=>∃(i:Nat) (zs':List Tz),i≤n∧iv= .int .i64 i∧zs'.length=n∧Hid (wr.ownsRow w.heap.size 74 4 (.slice a5 n c5) n (zc zs'))∧Hid (∀j,j<i→Ow w.heap.size wr (zs'.getD j JL))∧Hid (∀j,i≤j→zs'.getD j JL=zs.getD j JL)∧Hid (zs'.map tag=zs.map tag)∧Hid (Below w.heap.size w wr)) (fun iv _=>n - (intOf iv).toNat)
 case atStart=>exact⟨0,zs,by omega,rfl,oC.o,JG,aA (fun j hj=>by omega),aA (fun j _=>rfl),aA rfl,pW⟩
 case round=>
  obtain⟨i,zs',CY,rfl,hlz,mK,aIA,aIB,b1Y,nR⟩:=hrel;by_cases hi:i<n
  ·have hil:(i:Int)<(n:Int):=by omega
   have AY:(0:Int)≤(i:Int):=by omega
   have xR:IntKind.i64.wrap ((i:Int)+1)=i+1:=by rw[bJ];omega
   obtain⟨g,rfl,hBg,bJE,fz,hc⟩:=a3F mK.o hi;have qC:=aIB.o i (aY _);have DT:=(sK.o.each _ (IG (zs:=zs) (i:=i) (by rw[oC.o];exact hi))).mono nR.o;have AP:=hd'.o _ (IG (zs:=zs) (i:=i) (by rw[oC.o];exact hi));obtain⟨⟨⟨y,t,k,xa,xn,xc⟩,d⟩,hz⟩:∃z,zs.getD i JL=z:=⟨_,rfl⟩;rw[hz]at qC DT AP;have gg:=fun j hj=>MH (zs:=zs') (i:=i) (j:=j) aG hj;rw[qC]at gg;have f3:=hc _ _ (gg 3 aG);simp only[zcl,jB,jC]at f3;clear gg hc;have hD:=DT;change Sl wr xa xn xc 1 (ints .u8 d)at hD
   change xn≤1000000 at AP
   obtain⟨GX,KR,hD',fz'⟩:=aL hz qC hD fz;clear hz qC hD fz;clear DT;go_wp2_with fail
   refine(ET xa xn xc d _ hD'.o aG).mono ?_;rintro e w2 ⟨a6,c6,rfl,C9,kP⟩;have a7X:=l6 mK.o kP;have a3L:=fun j (hj:j<i)=>l6 (aIA.o j hj) kP;have lK:=nR.o.tm kP;obtain⟨g',UF,_,bJF,fz2,hc2⟩:=a3F a7X hi;injection UF with UF;injection UF with UF;subst UF;have gg:=MH (zs:=zs') (i:=i) (j:=3) aG aH;rw[KR.o]at gg;have p3:=hc2 _ _ gg;have y3:=fz2 (i*4+3);simp only[zcl,jB,jC]at p3;have ho3:=lN C9 nR.o.size;clear C9 f3 gg hc2 fz2 kP;obtain⟨UK,aAS,kX,KX⟩:=aL a7X a3L lK ho3;clear a7X a3L lK ho3
   go_wp2_with fail
   go_roundw
   case rel=>
    refine⟨i+1,zs'.set i ((y,t,k,a6,xn,c6),d),by omega,by go_num,by rw[List.length_set];exact hlz,aA ?_,aA (fun j hj=>?_),aA (fun j hj=>?_),aA ?_,aA ?_⟩
    ·rw[←b4Q aG KR.o];exact GH UK.o _ _
    ·by_cases IB:j=i
     ·subst IB;rw[show(zs'.set j ((y,t,k,a6,xn,c6),d)).getD j JL=((y,t,k,a6,xn,c6),d)from EU aG _];exact Ow.bBZ (show Ow w.heap.size w2 ((y,t,k,a6,xn,c6),d)from KX.o) UK.o _ _
     ·rw[show(zs'.set i ((y,t,k,a6,xn,c6),d)).getD j JL=zs'.getD j JL from getD_set_ne (fun e=>IB e.symm) _];exact Ow.bBZ (aAS.o j aG) UK.o _ _
    ·rw[show(zs'.set i ((y,t,k,a6,xn,c6),d)).getD j JL=zs'.getD j JL from getD_set_ne aG _];exact aIB.o j aG
    ·rw[←b1Y.o,List.map_set];apply gG (by simp);intro j h1 h2;by_cases IB:i=j
     ·subst IB;have h3:zs'[i]=((y,t,k,xa,xn,xc),d):=by
       have:=KR.o;rwa [aZ,bH aG]at this
      simp[h3,tag]
     ·simp[List.getElem_set_ne IB]
    ·exact kX.o.setCell (p:=⟨g,i*4+3,none⟩) hBg _
   case measure=>simp[intOf];omega
  ·obtain rfl:i=n:=by omega
   have hd:decide ((i:Int)<(i:Int))=false:=by simp
   go_wp2;go_ret;refine⟨_,_,zs',rfl,⟨mK.o,fun z hz=>?_⟩,b1Y.o,nR.o⟩;obtain⟨j,hj,rfl⟩:=fP hz;have:=aIA.o j aG;rwa [aZ,bH hj]at this
theorem zK (a:Option Addr) (n c:Nat) (ts:List oZ) (w:World) (hs:tL w a n c ts) (hl:n≤1000000) (hd:∀t∈ts,t.2.2.2.length≤1000000):
  Calls Tryz.prog 58 #[.slice a n c] w fun e w'=>∃a' c',e= .returned (.slice a' n c')∧lX QJ w.heap.size w' (.slice a' n c') ts∧Below w.heap.size w w':=by
 obtain⟨zs,h1,rfl⟩:=hs;refine(a6L a n c zs w h1.tr hl fun z hz=>?_).mono ?_
 ·have:=(h1.each z hz).p9;have h2:=hd (nO z) (iO hz);have e:(nO z).2.2.2=z.2:=rfl;rw[e]at h2;omega
 ·rintro e w' ⟨a',c',zs',rfl,ho,ht,hb⟩;exact⟨a',c',rfl,ho.at_ ht,hb⟩
theorem aRB (a:Option Addr) (n c:Nat) (b:List Int) (w:World) (hs:Sl w a n c 1 (ints .u8 b)) (hl:n≤1000000):
  Calls Tryz.prog 122 #[.slice a n c] w fun e w'=>∃a' c',e= .returned (.agg #[.int .i64 37500,.int .i64 7,.int .i64 n,.slice a' n c'])∧w'.ownsRow w.heap.size 5 1 (.slice a' n c') n (ints .u8 b)∧Below w.heap.size w w':=by
 have hb:=aD w (.cells #[.int .i64 0,.int .i64 0,.int .i64 0,.slice none 0 0] 74);have bT:=kG.new w 74 #[.int .i64 0,.int .i64 0,.int .i64 0,.slice none 0 0];obtain⟨W,hW⟩:=aC (w.alloc (.cells #[.int .i64 0,.int .i64 0,.int .i64 0,.slice none 0 0] 74));rw[hW]at hb bT;have hC:=ET a n c b W (hs.mono hb) aG;obtain⟨sK,pW,OO,WH,bT'⟩:=aM hs hb hC hW bT;clear hs hb hC hW bT;go_enter Tryz.func122,Tryz.ntmps122;go_upto_region 1 with fail
 rw[WH.o];go_wp2_with fail
 refine OO.o.mono ?_;rintro e w1 ⟨a1,c1,rfl,ho,kV⟩;have bT1:=bT'.o.late kV;have p0:=bT1.cell (i:=0) rfl;have p1:=bT1.cell (i:=1) rfl;have p2:=bT1.cell (i:=2) rfl;have p3:=bT1.cell (i:=3) rfl;have v0:=bT1.frozen 0;have v1:=bT1.frozen 1;have v2:=bT1.frozen 2;have v3:=bT1.frozen 3;have xS:=pW.o.tm kV;have hgt:w.heap.size<W.heap.size:=bT'.o.lt;obtain⟨JG,lZ,bXD,qP,V8⟩:=aM ho kV bT1 xS hgt;clear ho kV bT1 xS hgt;go_wp2_with fail
 refine bodyPost_ret (results_cell_row rfl _ _ w.heap.size 74 #[.int .i64 37500,.int .i64 7,.int .i64 n,.slice a1 n c1] (0,0) _ rfl (bXD.o.a3E _ _ _ _) Tryz.underlying74 rfl aF) rfl ?_;refine⟨a1,c1,rfl,?_,?_⟩
 ·refine lN ?_ (jO V8.o);exact lW (lW (lW (lW JG.o V8.o _ _) V8.o _ _) V8.o _ _) V8.o _ _
 ·exact IC qP.o (aY _) _ _ _ _
def rwB (x:pX):Nat→Bool
 |0=>tZ 0 x.z
 |1=>tZ 2 x.p
 |2=>tZ 3 x.g
 |3=>tZ 4 x.i
 |_=>tZ 1 x.f
theorem aNK {x:pX} (h:∀j,j<5→rwB x j=true):DL x=true:=by
 unfold DL;rw[show tZ 0 x.z=true from h 0 aH,show tZ 2 x.p=true from h 1 aH,show tZ 3 x.g=true from h 2 aH,show tZ 4 x.i=true from h 3 aH,show tZ 1 x.f=true from h 4 aH];rfl
theorem KO {x:pX} {j:Nat} (hj:j<5) (h:rwB x j=false):DL x=false:=by
 unfold DL;rcases(by omega:j=0∨j=1∨j=2∨j=3∨j=4)with rfl|rfl|rfl|rfl|rfl
 ·rw[show tZ 0 x.z=false from h];rfl
 ·rw[show tZ 2 x.p=false from h];simp
 ·rw[show tZ 3 x.g=false from h];simp
 ·rw[show tZ 4 x.i=false from h];simp
 ·rw[show tZ 1 x.f=false from h];simp
theorem aCH {x:pX} (h:¬(x.o=1∨x.o=2)):lU x=1:=if_neg h
theorem tN {x:pX} (h:x.o=1∨x.o=2) (h2:DL x=false):lU x=6:=by unfold lU;rw[if_pos h,if_neg (by rw[h2];decide)]
theorem a6M {x:pX} (h:x.o=1∨x.o=2) (h2:DL x=true):lU x=if x.mr.length≤65536∧0<a9R x then 0 else 6:=by unfold lU;rw[if_pos h,if_pos h2]
theorem b4R (a b c d e:Nat):([(a:Int),b,c,d,e].any fun x=>decide (0<x))=decide (0<a+b+c+d+e):=by
 rw[dY];simp;omega
structure WfE (x:pX):Prop where
 z:∀t∈x.z,a1R t
 p:∀t∈x.p,a1R t
 g:∀t∈x.g,a1R t
 i:∀t∈x.i,a1R t
 f:∀t∈x.f,a1R t
theorem yH (x:pX) (A:ExA) (w:World) (h:ExR w x A) (hk:WfE x):
  Calls Tryz.prog 27 #[exV x.o A] w fun e w'=>e= .returned (.int .i64 (lU x))∧Below w.heap.size w w':=by
 obtain⟨za,zn,zc,pa,pn,pc,ga,gn,gc,ia,iN,ic,fa,fn,fc,ma,mn,mc,ta,tn,tc⟩:=A;obtain⟨o,z,p,g,i,f,mk,th⟩:=x;obtain⟨kz,kp,kg,ki,kf⟩:=hk;have aWV:=fun W=>a0J o ⟨za,zn,zc,pa,pn,pc,ga,gn,gc,ia,iN,ic,fa,fn,fc,ma,mn,mc,ta,tn,tc⟩ W;simp only[exV,VT]at aWV;obtain⟨aWW,kz',kp',kg',ki',kf'⟩:=aN aWV kz kp kg ki kf;clear aWV kz kp kg ki kf;obtain⟨hz,hp,hg,hi,hf,hm,ht⟩:=h;simp only[exV,VT]at*;have lz:=hz.len;have lp:=hp.len;have lg:=hg.len;have li:=hi.len;have lm:=hm.p9;have mz:=hz.max;have mp:=hp.max;have mg:=hg.max;have mi:=hi.max;have mm:=hm.max;have bE:=kG.new w 61 #[.int .i64 o,.slice za zn zc,.slice pa pn pc,.slice ga gn gc,.slice ia iN ic,.slice fa fn fc,.slice ma mn mc,.slice ta tn tc];have hb:=aD w (.cells #[.int .i64 o,.slice za zn zc,.slice pa pn pc,.slice ga gn gc,.slice ia iN ic,.slice fa fn fc,.slice ma mn mc,.slice ta tn tc] 61);obtain⟨W,hW⟩:=aC (w.alloc (.cells #[.int .i64 o,.slice za zn zc,.slice pa pn pc,.slice ga gn gc,.slice ia iN ic,.slice fa fn fc,.slice ma mn mc,.slice ta tn tc] 61));rw[hW]at bE hb;have q0:=bE.cell (i:=0) rfl;have q1:=bE.cell (i:=1) rfl;have q2:=bE.cell (i:=2) rfl;have q3:=bE.cell (i:=3) rfl;have q4:=bE.cell (i:=4) rfl;have q5:=bE.cell (i:=5) rfl;have q6:=bE.cell (i:=6) rfl;have q7:=bE.cell (i:=7) rfl;obtain⟨GX,hp',hg',vN,hf',hm',KS,lz',lp',lg',li',lm'⟩:=aT hz hp hg hi hf hm ht lz lp lg li lm;obtain⟨bE',pW,WH⟩:=aK bE hb hW;clear hz hp hg hi hf hm ht lz lp lg li lm bE hb hW;go_enter Tryz.func27,Tryz.ntmps27;go_upto_region 1 with fail
 rw[WH.o];by_cases NM:o=1
 ·subst NM;go_wp2_with fail
  refine(aWW.o _).mono ?_;rintro e w1 ⟨rfl,kV⟩;obtain⟨hbE,lK⟩:=aJ (bE'.o.late kV) (pW.o.tm kV);clear kV q0 q1 q2 q3 q4 q5 q6 q7;go_wp2_with fail
  go_loopw [15] (fun iv wr=>∃(k:Nat) (ki:Int),k≤5∧ki=k∧iv= .int .i64 ki∧Hid (∀j,j<k→rwB ⟨1,z,p,g,i,f,mk,th⟩ j=true)∧Hid (Below w1.heap.size w1 wr)) (fun iv _=>5 - (intOf iv).toNat)
  case atStart=>exact⟨0,0,by omega,rfl,rfl,aA (fun j hj=>by omega),aA (bF _ _)⟩
  case round=>
   obtain⟨k,ki,hk,rF,rfl,AP,pY⟩:=hrel;have nR:=aA (lK.o.tm pY.o);by_cases kY:k<5
   ·rcases(by omega:k=0∨k=1∨k=2∨k=3∨k=4)with rfl|rfl|rfl|rfl|rfl
    ·obtain rfl:ki=0:=by omega
     have qJ:∀W,(Instr.index 125 (.agg #[.int .i64 0,.slice za zn zc,.int .i64 2,.slice pa pn pc,.int .i64 3,.slice ga gn gc,.int .i64 4,.slice ia iN ic,.int .i64 1,.slice fa fn fc]) (.int .i64 0)).run Tryz.prog W= .ok (.agg #[.int .i64 0,.slice za zn zc]) W:=fun W=>by kernel_rfl
     obtain⟨r,hr⟩:=aC (tZ 0 z);have hR:=fun W (h:Below w.heap.size w W)=>EK 0 za zn zc _ W (GX.o.mono h).ts aH kz'.o;rw[hr]at hR;obtain⟨qM,sH⟩:=aJ hR hr;clear hR hr;clear hk kY rF;go_wp2_with fail
     refine(qM.o _ (nR.o.alloc nR.o.size _)).mono ?_;rintro e w3 ⟨rfl,kT⟩;have wM:=(pY.o.alloc pY.o.size _).trans (kT.mono (pY.o.alloc pY.o.size _).size);have xJ:=lK.o.tm wM;clear kT;obtain⟨BX,zL⟩:=aJ wM xJ;clear wM xJ;cases r with
     |false=>
      have nC:DL ⟨1,z,p,g,i,f,mk,th⟩=false:=KO (j:=0) aH sH.o;have UE:=tN (x:=⟨1,z,p,g,i,f,mk,th⟩) (.inl rfl) nC;obtain⟨zO,NC⟩:=aJ nC UE;clear nC UE;go_wp2_with fail
      go_ret;exact⟨by rw[NC.o];rfl,zL.o⟩
     |true=>
      go_wp2_with fail
      go_roundw
      case rel=>exact⟨1,1,by omega,rfl,rfl,aA (fun j hj=>by
       rcases(by omega:j<0∨j=0)with h|h
       ·exact AP.o j h
       ·subst h;exact sH.o),BX⟩
      case measure=>simp[intOf]
    ·obtain rfl:ki=1:=by omega
     have qJ:∀W,(Instr.index 125 (.agg #[.int .i64 0,.slice za zn zc,.int .i64 2,.slice pa pn pc,.int .i64 3,.slice ga gn gc,.int .i64 4,.slice ia iN ic,.int .i64 1,.slice fa fn fc]) (.int .i64 1)).run Tryz.prog W= .ok (.agg #[.int .i64 2,.slice pa pn pc]) W:=fun W=>by kernel_rfl
     obtain⟨r,hr⟩:=aC (tZ 2 p);have hR:=fun W (h:Below w.heap.size w W)=>EK 2 pa pn pc _ W (hp'.o.mono h).ts aH kp'.o;rw[hr]at hR;obtain⟨qM,sH⟩:=aJ hR hr;clear hR hr;clear hk kY rF;go_wp2_with fail
     refine(qM.o _ (nR.o.alloc nR.o.size _)).mono ?_;rintro e w3 ⟨rfl,kT⟩;have wM:=(pY.o.alloc pY.o.size _).trans (kT.mono (pY.o.alloc pY.o.size _).size);have xJ:=lK.o.tm wM;clear kT;obtain⟨BX,zL⟩:=aJ wM xJ;clear wM xJ;cases r with
     |false=>
      have nC:DL ⟨1,z,p,g,i,f,mk,th⟩=false:=KO (j:=1) aH sH.o;have UE:=tN (x:=⟨1,z,p,g,i,f,mk,th⟩) (.inl rfl) nC;obtain⟨zO,NC⟩:=aJ nC UE;clear nC UE;go_wp2_with fail
      go_ret;exact⟨by rw[NC.o];rfl,zL.o⟩
     |true=>
      go_wp2_with fail
      go_roundw
      case rel=>exact⟨2,2,by omega,rfl,rfl,aA (fun j hj=>by
       rcases(by omega:j<1∨j=1)with h|h
       ·exact AP.o j h
       ·subst h;exact sH.o),BX⟩
      case measure=>simp[intOf]
    ·obtain rfl:ki=2:=by omega
     have qJ:∀W,(Instr.index 125 (.agg #[.int .i64 0,.slice za zn zc,.int .i64 2,.slice pa pn pc,.int .i64 3,.slice ga gn gc,.int .i64 4,.slice ia iN ic,.int .i64 1,.slice fa fn fc]) (.int .i64 2)).run Tryz.prog W= .ok (.agg #[.int .i64 3,.slice ga gn gc]) W:=fun W=>by kernel_rfl
     obtain⟨r,hr⟩:=aC (tZ 3 g);have hR:=fun W (h:Below w.heap.size w W)=>EK 3 ga gn gc _ W (hg'.o.mono h).ts aH kg'.o;rw[hr]at hR;obtain⟨qM,sH⟩:=aJ hR hr;clear hR hr;clear hk kY rF;go_wp2_with fail
     refine(qM.o _ (nR.o.alloc nR.o.size _)).mono ?_;rintro e w3 ⟨rfl,kT⟩;have wM:=(pY.o.alloc pY.o.size _).trans (kT.mono (pY.o.alloc pY.o.size _).size);have xJ:=lK.o.tm wM;clear kT;obtain⟨BX,zL⟩:=aJ wM xJ;clear wM xJ;cases r with
     |false=>
      have nC:DL ⟨1,z,p,g,i,f,mk,th⟩=false:=KO (j:=2) aH sH.o;have UE:=tN (x:=⟨1,z,p,g,i,f,mk,th⟩) (.inl rfl) nC;obtain⟨zO,NC⟩:=aJ nC UE;clear nC UE;go_wp2_with fail
      go_ret;exact⟨by rw[NC.o];rfl,zL.o⟩
     |true=>
      go_wp2_with fail
      go_roundw
      case rel=>exact⟨3,3,by omega,rfl,rfl,aA (fun j hj=>by
       rcases(by omega:j<2∨j=2)with h|h
       ·exact AP.o j h
       ·subst h;exact sH.o),BX⟩
      case measure=>simp[intOf]
    ·obtain rfl:ki=3:=by omega
     have qJ:∀W,(Instr.index 125 (.agg #[.int .i64 0,.slice za zn zc,.int .i64 2,.slice pa pn pc,.int .i64 3,.slice ga gn gc,.int .i64 4,.slice ia iN ic,.int .i64 1,.slice fa fn fc]) (.int .i64 3)).run Tryz.prog W= .ok (.agg #[.int .i64 4,.slice ia iN ic]) W:=fun W=>by kernel_rfl
     obtain⟨r,hr⟩:=aC (tZ 4 i);have hR:=fun W (h:Below w.heap.size w W)=>EK 4 ia iN ic _ W (vN.o.mono h).ts aH ki'.o;rw[hr]at hR;obtain⟨qM,sH⟩:=aJ hR hr;clear hR hr;clear hk kY rF;go_wp2_with fail
     refine(qM.o _ (nR.o.alloc nR.o.size _)).mono ?_;rintro e w3 ⟨rfl,kT⟩;have wM:=(pY.o.alloc pY.o.size _).trans (kT.mono (pY.o.alloc pY.o.size _).size);have xJ:=lK.o.tm wM;clear kT;obtain⟨BX,zL⟩:=aJ wM xJ;clear wM xJ;cases r with
     |false=>
      have nC:DL ⟨1,z,p,g,i,f,mk,th⟩=false:=KO (j:=3) aH sH.o;have UE:=tN (x:=⟨1,z,p,g,i,f,mk,th⟩) (.inl rfl) nC;obtain⟨zO,NC⟩:=aJ nC UE;clear nC UE;go_wp2_with fail
      go_ret;exact⟨by rw[NC.o];rfl,zL.o⟩
     |true=>
      go_wp2_with fail
      go_roundw
      case rel=>exact⟨4,4,by omega,rfl,rfl,aA (fun j hj=>by
       rcases(by omega:j<3∨j=3)with h|h
       ·exact AP.o j h
       ·subst h;exact sH.o),BX⟩
      case measure=>simp[intOf]
    ·obtain rfl:ki=4:=by omega
     have qJ:∀W,(Instr.index 125 (.agg #[.int .i64 0,.slice za zn zc,.int .i64 2,.slice pa pn pc,.int .i64 3,.slice ga gn gc,.int .i64 4,.slice ia iN ic,.int .i64 1,.slice fa fn fc]) (.int .i64 4)).run Tryz.prog W= .ok (.agg #[.int .i64 1,.slice fa fn fc]) W:=fun W=>by kernel_rfl
     obtain⟨r,hr⟩:=aC (tZ 1 f);have hR:=fun W (h:Below w.heap.size w W)=>EK 1 fa fn fc _ W (hf'.o.mono h).ts aH kf'.o;rw[hr]at hR;obtain⟨qM,sH⟩:=aJ hR hr;clear hR hr;clear hk kY rF;go_wp2_with fail
     refine(qM.o _ (nR.o.alloc nR.o.size _)).mono ?_;rintro e w3 ⟨rfl,kT⟩;have wM:=(pY.o.alloc pY.o.size _).trans (kT.mono (pY.o.alloc pY.o.size _).size);have xJ:=lK.o.tm wM;clear kT;obtain⟨BX,zL⟩:=aJ wM xJ;clear wM xJ;cases r with
     |false=>
      have nC:DL ⟨1,z,p,g,i,f,mk,th⟩=false:=KO (j:=4) aH sH.o;have UE:=tN (x:=⟨1,z,p,g,i,f,mk,th⟩) (.inl rfl) nC;obtain⟨zO,NC⟩:=aJ nC UE;clear nC UE;go_wp2_with fail
      go_ret;exact⟨by rw[NC.o];rfl,zL.o⟩
     |true=>
      go_wp2_with fail
      go_roundw
      case rel=>exact⟨5,5,by omega,rfl,rfl,aA (fun j hj=>by
       rcases(by omega:j<4∨j=4)with h|h
       ·exact AP.o j h
       ·subst h;exact sH.o),BX⟩
      case measure=>simp[intOf]
   ·obtain rfl:k=5:=by omega
    obtain rfl:ki=5:=by omega
    have nC:=aNK AP.o;have hl:=a6M (x:=⟨1,z,p,g,i,f,mk,th⟩) (.inl rfl) nC;have l1:=lz'.o;have l2:=lp'.o;have l3:=lg'.o;have l4:=li'.o;have l5:=lm'.o;have le:a9R ⟨1,z,p,g,i,f,mk,th⟩=zn+pn+gn+iN+mn:=by show z.length+p.length+g.length+i.length+mk.length=_;omega
    rw[le,show mk.length=mn from l5]at hl;have q0:=(hbE.o.late pY.o).cell (i:=0) rfl;have q1:=(hbE.o.late pY.o).cell (i:=1) rfl;have q2:=(hbE.o.late pY.o).cell (i:=2) rfl;have q3:=(hbE.o.late pY.o).cell (i:=3) rfl;have q4:=(hbE.o.late pY.o).cell (i:=4) rfl;have q5:=(hbE.o.late pY.o).cell (i:=5) rfl;have q6:=(hbE.o.late pY.o).cell (i:=6) rfl;clear hk kY rF;obtain⟨l1',l2',l3',l4',l5',le',zO⟩:=aO l1 l2 l3 l4 l5 le nC;clear l1 l2 l3 l4 l5 le nC;by_cases hm:mn≤65536
    ·have u1:decide ((65536:Int)<mn)=false:=by simp;omega
     by_cases KD:0<zn+pn+gn+iN+mn
     ·have a5:=b4R zn pn gn iN mn;rw[decide_eq_true KD]at a5;rw[if_pos ⟨hm,KD⟩]at hl;obtain⟨hm',aWX,FX⟩:=aK hm KD hl;clear hm KD hl;have hbS:=nR.o.alloc nR.o.size (.cells #[.int .i64 zn,.int .i64 pn,.int .i64 gn,.int .i64 iN,.int .i64 mn] 3);have bS:=kG.new wr 3 #[.int .i64 zn,.int .i64 pn,.int .i64 gn,.int .i64 iN,.int .i64 mn];have hS:=I8 _ 5 5 [(zn:Int),pn,gn,iN,mn] _ (slB (T:=3) (cs:=ints .i64 [(zn:Int),pn,gn,iN,mn]) bS rfl aH) aH;rw[a5]at hS;clear a5;obtain⟨ND,bS',hS'⟩:=aK hbS bS hS;clear hbS bS hS;go_wp2_with fail
      refine hS'.o.mono ?_;rintro e w4 ⟨rfl,mX⟩;have yV:=ND.o.tm mX;obtain⟨xG,FR⟩:=aJ mX yV;clear mX yV;go_wp2_with fail
      go_ret;exact⟨by rw[FX.o];rfl,FR.o⟩
     ·have a5:=b4R zn pn gn iN mn;rw[decide_eq_false KD]at a5;rw[if_neg (fun h=>KD h.2)]at hl;obtain⟨hm',aWX,FX⟩:=aK hm KD hl;clear hm KD hl;have hbS:=nR.o.alloc nR.o.size (.cells #[.int .i64 zn,.int .i64 pn,.int .i64 gn,.int .i64 iN,.int .i64 mn] 3);have bS:=kG.new wr 3 #[.int .i64 zn,.int .i64 pn,.int .i64 gn,.int .i64 iN,.int .i64 mn];have hS:=I8 _ 5 5 [(zn:Int),pn,gn,iN,mn] _ (slB (T:=3) (cs:=ints .i64 [(zn:Int),pn,gn,iN,mn]) bS rfl aH) aH;rw[a5]at hS;clear a5;obtain⟨ND,bS',hS'⟩:=aK hbS bS hS;clear hbS bS hS;go_wp2_with fail
      refine hS'.o.mono ?_;rintro e w4 ⟨rfl,mX⟩;have yV:=ND.o.tm mX;obtain⟨xG,FR⟩:=aJ mX yV;clear mX yV;go_wp2_with fail
      go_ret;exact⟨by rw[FX.o];rfl,FR.o⟩
    ·have u1:decide ((65536:Int)<mn)=true:=by simp;omega
     rw[if_neg (fun h=>hm h.1)]at hl;obtain⟨hm',FX⟩:=aJ hm hl;clear hm hl;go_wp2_with fail
     go_ret;exact⟨by rw[FX.o];rfl,nR.o⟩
 by_cases C9:o=2
 ·subst C9;go_wp2_with fail
  refine(aWW.o _).mono ?_;rintro e w1 ⟨rfl,kV⟩;obtain⟨hbE,lK⟩:=aJ (bE'.o.late kV) (pW.o.tm kV);clear kV q0 q1 q2 q3 q4 q5 q6 q7;go_wp2_with fail
  go_loopw [15] (fun iv wr=>∃(k:Nat) (ki:Int),k≤5∧ki=k∧iv= .int .i64 ki∧Hid (∀j,j<k→rwB ⟨2,z,p,g,i,f,mk,th⟩ j=true)∧Hid (Below w1.heap.size w1 wr)) (fun iv _=>5 - (intOf iv).toNat)
  case atStart=>exact⟨0,0,by omega,rfl,rfl,aA (fun j hj=>by omega),aA (bF _ _)⟩
  case round=>
   obtain⟨k,ki,hk,rF,rfl,AP,pY⟩:=hrel;have nR:=aA (lK.o.tm pY.o);by_cases kY:k<5
   ·rcases(by omega:k=0∨k=1∨k=2∨k=3∨k=4)with rfl|rfl|rfl|rfl|rfl
    ·obtain rfl:ki=0:=by omega
     have qJ:∀W,(Instr.index 125 (.agg #[.int .i64 0,.slice za zn zc,.int .i64 2,.slice pa pn pc,.int .i64 3,.slice ga gn gc,.int .i64 4,.slice ia iN ic,.int .i64 1,.slice fa fn fc]) (.int .i64 0)).run Tryz.prog W= .ok (.agg #[.int .i64 0,.slice za zn zc]) W:=fun W=>by kernel_rfl
     obtain⟨r,hr⟩:=aC (tZ 0 z);have hR:=fun W (h:Below w.heap.size w W)=>EK 0 za zn zc _ W (GX.o.mono h).ts aH kz'.o;rw[hr]at hR;obtain⟨qM,sH⟩:=aJ hR hr;clear hR hr;clear hk kY rF;go_wp2_with fail
     refine(qM.o _ (nR.o.alloc nR.o.size _)).mono ?_;rintro e w3 ⟨rfl,kT⟩;have wM:=(pY.o.alloc pY.o.size _).trans (kT.mono (pY.o.alloc pY.o.size _).size);have xJ:=lK.o.tm wM;clear kT;obtain⟨BX,zL⟩:=aJ wM xJ;clear wM xJ;cases r with
     |false=>
      have nC:DL ⟨2,z,p,g,i,f,mk,th⟩=false:=KO (j:=0) aH sH.o;have UE:=tN (x:=⟨2,z,p,g,i,f,mk,th⟩) (.inr rfl) nC;obtain⟨zO,NC⟩:=aJ nC UE;clear nC UE;go_wp2_with fail
      go_ret;exact⟨by rw[NC.o];rfl,zL.o⟩
     |true=>
      go_wp2_with fail
      go_roundw
      case rel=>exact⟨1,1,by omega,rfl,rfl,aA (fun j hj=>by
       rcases(by omega:j<0∨j=0)with h|h
       ·exact AP.o j h
       ·subst h;exact sH.o),BX⟩
      case measure=>simp[intOf]
    ·obtain rfl:ki=1:=by omega
     have qJ:∀W,(Instr.index 125 (.agg #[.int .i64 0,.slice za zn zc,.int .i64 2,.slice pa pn pc,.int .i64 3,.slice ga gn gc,.int .i64 4,.slice ia iN ic,.int .i64 1,.slice fa fn fc]) (.int .i64 1)).run Tryz.prog W= .ok (.agg #[.int .i64 2,.slice pa pn pc]) W:=fun W=>by kernel_rfl
     obtain⟨r,hr⟩:=aC (tZ 2 p);have hR:=fun W (h:Below w.heap.size w W)=>EK 2 pa pn pc _ W (hp'.o.mono h).ts aH kp'.o;rw[hr]at hR;obtain⟨qM,sH⟩:=aJ hR hr;clear hR hr;clear hk kY rF;go_wp2_with fail
     refine(qM.o _ (nR.o.alloc nR.o.size _)).mono ?_;rintro e w3 ⟨rfl,kT⟩;have wM:=(pY.o.alloc pY.o.size _).trans (kT.mono (pY.o.alloc pY.o.size _).size);have xJ:=lK.o.tm wM;clear kT;obtain⟨BX,zL⟩:=aJ wM xJ;clear wM xJ;cases r with
     |false=>
      have nC:DL ⟨2,z,p,g,i,f,mk,th⟩=false:=KO (j:=1) aH sH.o;have UE:=tN (x:=⟨2,z,p,g,i,f,mk,th⟩) (.inr rfl) nC;obtain⟨zO,NC⟩:=aJ nC UE;clear nC UE;go_wp2_with fail
      go_ret;exact⟨by rw[NC.o];rfl,zL.o⟩
     |true=>
      go_wp2_with fail
      go_roundw
      case rel=>exact⟨2,2,by omega,rfl,rfl,aA (fun j hj=>by
       rcases(by omega:j<1∨j=1)with h|h
       ·exact AP.o j h
       ·subst h;exact sH.o),BX⟩
      case measure=>simp[intOf]
    ·obtain rfl:ki=2:=by omega
     have qJ:∀W,(Instr.index 125 (.agg #[.int .i64 0,.slice za zn zc,.int .i64 2,.slice pa pn pc,.int .i64 3,.slice ga gn gc,.int .i64 4,.slice ia iN ic,.int .i64 1,.slice fa fn fc]) (.int .i64 2)).run Tryz.prog W= .ok (.agg #[.int .i64 3,.slice ga gn gc]) W:=fun W=>by kernel_rfl
     obtain⟨r,hr⟩:=aC (tZ 3 g);have hR:=fun W (h:Below w.heap.size w W)=>EK 3 ga gn gc _ W (hg'.o.mono h).ts aH kg'.o;rw[hr]at hR;obtain⟨qM,sH⟩:=aJ hR hr;clear hR hr;clear hk kY rF;go_wp2_with fail
     refine(qM.o _ (nR.o.alloc nR.o.size _)).mono ?_;rintro e w3 ⟨rfl,kT⟩;have wM:=(pY.o.alloc pY.o.size _).trans (kT.mono (pY.o.alloc pY.o.size _).size);have xJ:=lK.o.tm wM;clear kT;obtain⟨BX,zL⟩:=aJ wM xJ;clear wM xJ;cases r with
     |false=>
      have nC:DL ⟨2,z,p,g,i,f,mk,th⟩=false:=KO (j:=2) aH sH.o;have UE:=tN (x:=⟨2,z,p,g,i,f,mk,th⟩) (.inr rfl) nC;obtain⟨zO,NC⟩:=aJ nC UE;clear nC UE;go_wp2_with fail
      go_ret;exact⟨by rw[NC.o];rfl,zL.o⟩
     |true=>
      go_wp2_with fail
      go_roundw
      case rel=>exact⟨3,3,by omega,rfl,rfl,aA (fun j hj=>by
       rcases(by omega:j<2∨j=2)with h|h
       ·exact AP.o j h
       ·subst h;exact sH.o),BX⟩
      case measure=>simp[intOf]
    ·obtain rfl:ki=3:=by omega
     have qJ:∀W,(Instr.index 125 (.agg #[.int .i64 0,.slice za zn zc,.int .i64 2,.slice pa pn pc,.int .i64 3,.slice ga gn gc,.int .i64 4,.slice ia iN ic,.int .i64 1,.slice fa fn fc]) (.int .i64 3)).run Tryz.prog W= .ok (.agg #[.int .i64 4,.slice ia iN ic]) W:=fun W=>by kernel_rfl
     obtain⟨r,hr⟩:=aC (tZ 4 i);have hR:=fun W (h:Below w.heap.size w W)=>EK 4 ia iN ic _ W (vN.o.mono h).ts aH ki'.o;rw[hr]at hR;obtain⟨qM,sH⟩:=aJ hR hr;clear hR hr;clear hk kY rF;go_wp2_with fail
     refine(qM.o _ (nR.o.alloc nR.o.size _)).mono ?_;rintro e w3 ⟨rfl,kT⟩;have wM:=(pY.o.alloc pY.o.size _).trans (kT.mono (pY.o.alloc pY.o.size _).size);have xJ:=lK.o.tm wM;clear kT;obtain⟨BX,zL⟩:=aJ wM xJ;clear wM xJ;cases r with
     |false=>
      have nC:DL ⟨2,z,p,g,i,f,mk,th⟩=false:=KO (j:=3) aH sH.o;have UE:=tN (x:=⟨2,z,p,g,i,f,mk,th⟩) (.inr rfl) nC;obtain⟨zO,NC⟩:=aJ nC UE;clear nC UE;go_wp2_with fail
      go_ret;exact⟨by rw[NC.o];rfl,zL.o⟩
     |true=>
      go_wp2_with fail
      go_roundw
      case rel=>exact⟨4,4,by omega,rfl,rfl,aA (fun j hj=>by
       rcases(by omega:j<3∨j=3)with h|h
       ·exact AP.o j h
       ·subst h;exact sH.o),BX⟩
      case measure=>simp[intOf]
    ·obtain rfl:ki=4:=by omega
     have qJ:∀W,(Instr.index 125 (.agg #[.int .i64 0,.slice za zn zc,.int .i64 2,.slice pa pn pc,.int .i64 3,.slice ga gn gc,.int .i64 4,.slice ia iN ic,.int .i64 1,.slice fa fn fc]) (.int .i64 4)).run Tryz.prog W= .ok (.agg #[.int .i64 1,.slice fa fn fc]) W:=fun W=>by kernel_rfl
     obtain⟨r,hr⟩:=aC (tZ 1 f);have hR:=fun W (h:Below w.heap.size w W)=>EK 1 fa fn fc _ W (hf'.o.mono h).ts aH kf'.o;rw[hr]at hR;obtain⟨qM,sH⟩:=aJ hR hr;clear hR hr;clear hk kY rF;go_wp2_with fail
     refine(qM.o _ (nR.o.alloc nR.o.size _)).mono ?_;rintro e w3 ⟨rfl,kT⟩;have wM:=(pY.o.alloc pY.o.size _).trans (kT.mono (pY.o.alloc pY.o.size _).size);have xJ:=lK.o.tm wM;clear kT;obtain⟨BX,zL⟩:=aJ wM xJ;clear wM xJ;cases r with
     |false=>
      have nC:DL ⟨2,z,p,g,i,f,mk,th⟩=false:=KO (j:=4) aH sH.o;have UE:=tN (x:=⟨2,z,p,g,i,f,mk,th⟩) (.inr rfl) nC;obtain⟨zO,NC⟩:=aJ nC UE;clear nC UE;go_wp2_with fail
      go_ret;exact⟨by rw[NC.o];rfl,zL.o⟩
     |true=>
      go_wp2_with fail
      go_roundw
      case rel=>exact⟨5,5,by omega,rfl,rfl,aA (fun j hj=>by
       rcases(by omega:j<4∨j=4)with h|h
       ·exact AP.o j h
       ·subst h;exact sH.o),BX⟩
      case measure=>simp[intOf]
   ·obtain rfl:k=5:=by omega
    obtain rfl:ki=5:=by omega
    have nC:=aNK AP.o;have hl:=a6M (x:=⟨2,z,p,g,i,f,mk,th⟩) (.inr rfl) nC;have l1:=lz'.o;have l2:=lp'.o;have l3:=lg'.o;have l4:=li'.o;have l5:=lm'.o;have le:a9R ⟨2,z,p,g,i,f,mk,th⟩=zn+pn+gn+iN+mn:=by show z.length+p.length+g.length+i.length+mk.length=_;omega
    rw[le,show mk.length=mn from l5]at hl;have q0:=(hbE.o.late pY.o).cell (i:=0) rfl;have q1:=(hbE.o.late pY.o).cell (i:=1) rfl;have q2:=(hbE.o.late pY.o).cell (i:=2) rfl;have q3:=(hbE.o.late pY.o).cell (i:=3) rfl;have q4:=(hbE.o.late pY.o).cell (i:=4) rfl;have q5:=(hbE.o.late pY.o).cell (i:=5) rfl;have q6:=(hbE.o.late pY.o).cell (i:=6) rfl;clear hk kY rF;obtain⟨l1',l2',l3',l4',l5',le',zO⟩:=aO l1 l2 l3 l4 l5 le nC;clear l1 l2 l3 l4 l5 le nC;by_cases hm:mn≤65536
    ·have u1:decide ((65536:Int)<mn)=false:=by simp;omega
     by_cases KD:0<zn+pn+gn+iN+mn
     ·have a5:=b4R zn pn gn iN mn;rw[decide_eq_true KD]at a5;rw[if_pos ⟨hm,KD⟩]at hl;obtain⟨hm',aWX,FX⟩:=aK hm KD hl;clear hm KD hl;have hbS:=nR.o.alloc nR.o.size (.cells #[.int .i64 zn,.int .i64 pn,.int .i64 gn,.int .i64 iN,.int .i64 mn] 3);have bS:=kG.new wr 3 #[.int .i64 zn,.int .i64 pn,.int .i64 gn,.int .i64 iN,.int .i64 mn];have hS:=I8 _ 5 5 [(zn:Int),pn,gn,iN,mn] _ (slB (T:=3) (cs:=ints .i64 [(zn:Int),pn,gn,iN,mn]) bS rfl aH) aH;rw[a5]at hS;clear a5;obtain⟨ND,bS',hS'⟩:=aK hbS bS hS;clear hbS bS hS;go_wp2_with fail
      refine hS'.o.mono ?_;rintro e w4 ⟨rfl,mX⟩;have yV:=ND.o.tm mX;obtain⟨xG,FR⟩:=aJ mX yV;clear mX yV;go_wp2_with fail
      go_ret;exact⟨by rw[FX.o];rfl,FR.o⟩
     ·have a5:=b4R zn pn gn iN mn;rw[decide_eq_false KD]at a5;rw[if_neg (fun h=>KD h.2)]at hl;obtain⟨hm',aWX,FX⟩:=aK hm KD hl;clear hm KD hl;have hbS:=nR.o.alloc nR.o.size (.cells #[.int .i64 zn,.int .i64 pn,.int .i64 gn,.int .i64 iN,.int .i64 mn] 3);have bS:=kG.new wr 3 #[.int .i64 zn,.int .i64 pn,.int .i64 gn,.int .i64 iN,.int .i64 mn];have hS:=I8 _ 5 5 [(zn:Int),pn,gn,iN,mn] _ (slB (T:=3) (cs:=ints .i64 [(zn:Int),pn,gn,iN,mn]) bS rfl aH) aH;rw[a5]at hS;clear a5;obtain⟨ND,bS',hS'⟩:=aK hbS bS hS;clear hbS bS hS;go_wp2_with fail
      refine hS'.o.mono ?_;rintro e w4 ⟨rfl,mX⟩;have yV:=ND.o.tm mX;obtain⟨xG,FR⟩:=aJ mX yV;clear mX yV;go_wp2_with fail
      go_ret;exact⟨by rw[FX.o];rfl,FR.o⟩
    ·have u1:decide ((65536:Int)<mn)=true:=by simp;omega
     rw[if_neg (fun h=>hm h.1)]at hl;obtain⟨hm',FX⟩:=aJ hm hl;clear hm hl;go_wp2_with fail
     go_ret;exact⟨by rw[FX.o];rfl,nR.o⟩
 ·have t1:(o != 1)=true:=by simpa using NM
  have t2:(o != 2)=true:=by simpa using C9
  have hl:=aCH (x:=⟨o,z,p,g,i,f,mk,th⟩) (by simp;omega);obtain⟨aDT,KH,FX⟩:=aK NM C9 hl;clear NM C9 hl;go_wp2_with fail
  go_ret;exact⟨by rw[FX.o];rfl,pW.o⟩
