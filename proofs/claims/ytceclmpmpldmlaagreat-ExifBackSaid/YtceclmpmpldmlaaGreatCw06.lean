import Derived.Test.YtceclmpmpldmlaaGreatCw05
set_option linter.unusedSimpArgs false
set_option linter.unusedVariables false
set_option maxRecDepth 100000
set_option maxHeartbeats 8000000
namespace Go.Proofs.YtceclmpmpldmlaaGreat
open Go.RowKit Tt
theorem To.le {B B':Nat} {W:World} {a:Option Addr} {n c:Nat} {zs:List yK} (h:To B W a n c zs) (hB:B'≤B):To B' W a n c zs:=⟨lN h.row hB,fun z hz=>lN (h.each z hz) hB⟩
theorem To.len {B:Nat} {W:World} {a:Option Addr} {n c:Nat} {zs:List yK} (h:To B W a n c zs):zs.length=n:=h.tr.len
theorem Ow.put {B B':Nat} {W:World} {z:yK} (h:Ow B W z) {g n c m:Nat} {xs:List Value} (hr:W.ownsRow B' 74 4 (.slice (some ⟨g,0,none⟩) n c) m xs) (i:Nat) (u:Value):Ow B (W.setCell ⟨g,i,none⟩ u) z:=aS9 h hr aH rfl i [u]
theorem EU {zs:List yK} {i:Nat} (hi:i<zs.length) (z:yK):(zs.set i z).getD i tY=z:=by simp[aZ,hi]
theorem getD_set_ne {zs:List yK} {i j:Nat} (h:i≠j) (z:yK):(zs.set i z).getD j tY=zs.getD j tY:=by simp[aZ,List.getElem?_set_ne h]
theorem aMI {zs:List yK} {i:Nat} {y t k t0 k0:Int} {a a0:Option Addr} {n c n0 c0:Nat} {d d0:List Int} (hi:i<zs.length) (h:zs.getD i tY=((y,t0,k0,a0,n0,c0),d0)):
  (((zc zs).set (i*4+1) (.int .i64 t)).set (i*4+2) (.int .i64 k)).set (i*4+3) (.slice a n c)=zc (zs.set i ((y,t,k,a,n,c),d)):=by
 rw[ZK (z':=((y,t,k0,a0,n0,c0),d)) aG (by rw[h];rfl),
  ZK (z':=((y,t,k,a0,n0,c0),d)) aG (by rw[EU hi];rfl),List.set_set,
  ZK (z':=((y,t,k,a,n,c),d)) aG (by rw[EU hi];rfl),List.set_set]
theorem b2L {zs:List yK} {i:Nat} {y t k:Int} {a:Option Addr} {n c:Nat} {d:List Int} (hi:i<zs.length):
  ((((zc zs).set (i*4) (.int .i64 y)).set (i*4+1) (.int .i64 t)).set (i*4+2) (.int .i64 k)).set (i*4+3) (.slice a n c)=zc (zs.set i ((y,t,k,a,n,c),d)):=by
 obtain⟨⟨⟨y0,t0,k0,a0,n0,c0⟩,d0⟩,hz⟩:∃z,zs.getD i tY=z:=⟨_,rfl⟩;rw[show(zc zs).set (i*4) (.int .i64 y)=(zc zs).set (i*4+0) (.int .i64 y)from rfl,ZK (z':=((y,t0,k0,a0,n0,c0),d)) aG (by rw[hz];rfl),
  aMI (d:=d) (by simpa using hi) (EU hi _),List.set_set]
theorem aDS {W:World} {B g n c m:Nat} {xs:List Value} {E:TypeId} {sz:Nat} (h:W.ownsRow B E sz (.slice (some ⟨g,0,none⟩) n c) m xs) (i j k:Nat) (x y z:Value):
  (((W.setCell ⟨g,i,none⟩ x).setCell ⟨g,j,none⟩ y).setCell ⟨g,k,none⟩ z).ownsRow B E sz (.slice (some ⟨g,0,none⟩) n c) m (((xs.set i x).set j y).set k z):=GH (GH (GH h i x) j y) k z
theorem Ow.aST {B B':Nat} {W:World} {z:yK} (h:Ow B W z) {g n c m:Nat} {xs:List Value} (hr:W.ownsRow B' 74 4 (.slice (some ⟨g,0,none⟩) n c) m xs) (i j k:Nat) (x y u:Value):
  Ow B (((W.setCell ⟨g,i,none⟩ x).setCell ⟨g,j,none⟩ y).setCell ⟨g,k,none⟩ u) z:=((h.put hr i x).put (GH hr i x) j y).put (GH (GH hr i x) j y) k u
theorem a96 (a:Option Addr) (n c:Nat) (zs:List yK) (w:World) (hs:Tr w a n c zs) (hl:n≤1000000) (hd:∀z∈zs,z.1.2.2.2.2.1≤1000000):
  Calls Tryz.prog 168 #[.slice a n c] w fun e w'=>∃a' c' zs',e= .returned (.slice a' n c')∧To w.heap.size w' a' n c' zs'∧zs'.map tag=zs.map tag∧Below w.heap.size w w':=by
 have vO:=hs.len;have hC:=a3J a n c zs w hs.row hl;obtain⟨sK,hd',oC,OO⟩:=aL hs hd vO hC;clear hs hd vO hC;go_enter Tryz.func168,Tryz.ntmps168;go_wp2_with fail
 refine OO.o.mono ?_;rintro e w1 ⟨a5,c5,rfl,ho,hb⟩;obtain⟨JG,pW⟩:=aJ ho hb;clear ho hb;go_wp2;go_loopw [10] (fun iv wr=>∃(i:Nat) (zs':List yK),i≤n∧iv= .int .i64 i∧zs'.length=n∧Hid (wr.ownsRow w.heap.size 74 4 (.slice a5 n c5) n (zc zs'))∧Hid (∀j,j<i→Ow w.heap.size wr (zs'.getD j tY))∧Hid (∀j,i≤j→zs'.getD j tY=zs.getD j tY)∧Hid (zs'.map tag=zs.map tag)∧Hid (Below w.heap.size w wr)) (fun iv _=>n - (intOf iv).toNat)
 case atStart=>exact⟨0,zs,by omega,rfl,oC.o,JG,aA (fun j hj=>by omega),aA (fun j _=>rfl),aA rfl,pW⟩
 case round=>
  obtain⟨i,zs',CY,rfl,hlz,mK,aIA,aIB,b1Y,nR⟩:=hrel;by_cases hi:i<n
  ·have hil:(i:Int)<(n:Int):=by omega
   have xR:IntKind.i64.wrap ((i:Int)+1)=i+1:=by rw[bJ];omega
   obtain⟨g,rfl,hBg,bJE,fz,hc⟩:=a3F mK.o hi;have qC:=aIB.o i (aY _);have DT:=(sK.o.each _ (IG (zs:=zs) (i:=i) (by rw[oC.o];exact hi))).mono nR.o;have AP:=hd'.o _ (IG (zs:=zs) (i:=i) (by rw[oC.o];exact hi));obtain⟨⟨⟨y,t,k,xa,xn,xc⟩,d⟩,hz⟩:∃z,zs.getD i tY=z:=⟨_,rfl⟩;rw[hz]at qC DT AP;have gg:=fun j hj=>MH (zs:=zs') (i:=i) (j:=j) aG hj;rw[qC]at gg;have f0:=hc _ _ (gg 0 aG);have f1:=hc _ _ (gg 1 aG);have f2:=hc _ _ (gg 2 aG);have f3:=hc _ _ (gg 3 aG);simp only[zcl,jB,jC]at f0 f1 f2 f3;rw[dB]at f0;clear gg hc;have hD:=DT;change Sl wr xa xn xc 1 (ints .u8 d)at hD
   change xn≤1000000 at AP
   obtain⟨GX,KR,hD',fz'⟩:=aL hz qC hD fz;clear hz qC hD fz;clear DT;go_wp2_with fail
   have kV:=aD wr (.cells #[.int .i64 y,.int .i64 t,.int .i64 k,.slice xa xn xc] 74);refine(a3K t k xa xn xc d _ (hD'.o.mono kV) AP).mono ?_;rintro e w2 ⟨a6,c6,rfl,C9,kP⟩;have TI:=kV.tm kP;have a7X:=l6 mK.o TI;have a3L:=fun j (hj:j<i)=>l6 (aIA.o j hj) TI;have lK:=nR.o.tm TI;obtain⟨g',UF,_,bJF,fz2,hc2⟩:=a3F a7X hi;injection UF with UF;injection UF with UF;subst UF;have gg:=fun j hj=>MH (zs:=zs') (i:=i) (j:=j) aG hj;rw[KR.o]at gg;have p1:=hc2 _ _ (gg 1 aG);have p2:=hc2 _ _ (gg 2 aG);have p3:=hc2 _ _ (gg 3 aG);have y1:=fz2 (i*4+1);have y2:=fz2 (i*4+2);have y3:=fz2 (i*4+3);simp only[zcl,jB,jC]at p1 p2 p3;have ho3:=lN C9 (show w.heap.size≤_ from bU nR.o.size (by simp));clear C9 f0 f1 f2 f3 gg hc2 fz2 kP TI kV;obtain⟨UK,aAS,kX,KX⟩:=aL a7X a3L lK ho3;clear a7X a3L lK ho3
   go_wp2_with fail
   go_roundw
   case rel=>
    refine⟨i+1,zs'.set i ((y,t,k,a6,xn,c6),d),by omega,by go_num,by rw[List.length_set];exact hlz,aA ?_,aA (fun j hj=>?_),aA (fun j hj=>?_),aA ?_,aA ?_⟩
    ·rw[←aMI aG KR.o];exact aDS UK.o _ _ _ _ _ _
    ·by_cases IB:j=i
     ·subst IB;rw[EU aG];exact Ow.aST (show Ow w.heap.size w2 ((y,t,k,a6,xn,c6),d)from KX.o) UK.o _ _ _ _ _ _
     ·rw[getD_set_ne (fun e=>IB e.symm)];exact Ow.aST (aAS.o j aG) UK.o _ _ _ _ _ _
    ·rw[getD_set_ne aG];exact aIB.o j aG
    ·rw[←b1Y.o,List.map_set];apply gG (by simp);intro j h1 h2;by_cases IB:i=j
     ·subst IB;have h3:zs'[i]=((y,t,k,xa,xn,xc),d):=by
       have:=KR.o;rwa [aZ,bH aG]at this
      simp[h3,tag]
     ·simp[List.getElem_set_ne IB]
    ·exact((kX.o.setCell (p:=⟨g,i*4+1,none⟩) hBg _).setCell (p:=⟨g,i*4+2,none⟩) hBg _).setCell (p:=⟨g,i*4+3,none⟩) hBg _
   case measure=>simp[intOf];omega
  ·obtain rfl:i=n:=by omega
   have hd:decide ((i:Int)<(i:Int))=false:=by simp
   go_wp2;go_ret;refine⟨_,_,zs',rfl,⟨mK.o,fun z hz=>?_⟩,b1Y.o,nR.o⟩;obtain⟨j,hj,rfl⟩:=fP hz;have:=aIA.o j aG;rwa [aZ,bH hj]at this
theorem aOU (a:Option Addr) (n c:Nat) (zs:List yK) (t:Int) (w:World) (hs:Tr w a n c zs) (hr:∀i,i+1<n→key zs i<key zs (i+1)) (hl:n≤1000000) (hd:∀z∈zs,z.1.2.2.2.2.1≤1000000):
  Calls Tryz.prog 137 #[.slice a n c,.int .i64 t] w fun e w'=>∃(k:Nat) (y2 y3:Int) (a':Option Addr) (n' c':Nat) (d:List Int),Pos zs t k∧e= .returned (.tuple #[.agg #[.int .i64 y2,.int .i64 y3,.slice a' n' c'],.bool (ZL zs t k)])∧
   w'.ownsRow w.heap.size 5 1 (.slice a' n' c') n' (ints .u8 d)∧((y2,y3,d)=if ZL zs t k=true then(tag (zs.getD k tY)).2 else(0,0, []))∧Below w.heap.size w w':=by
 have vO:=hs.len;have AX:=aD w (.cells #[.int .i64 0,.int .i64 0,.slice none 0 0] 72);have hB:=aIP a n c zs t _ (hs.mono AX) hr hl;obtain⟨hB',sK,hd',oC,r9⟩:=aM hB hs hd vO AX;clear hB hs hd vO AX;go_enter Tryz.func137,Tryz.ntmps137;go_wp2_with fail
 refine hB'.o.mono ?_;rintro e w1 ⟨k,hp,rfl,hb⟩;have kV:=r9.o.tm hb;have b0:kG w1 w.heap.size 72 #[.int .i64 0,.int .i64 0,.slice none 0 0]:=kG.late (nS _ _) hb;cases his:ZL zs t k with
 |false=>
  have p0:=b0.cell (i:=0) rfl;have p1:=b0.cell (i:=1) rfl;have p2:=b0.cell (i:=2) rfl;have y0:=b0.frozen 0;have y1:=b0.frozen 1;have y2:=b0.frozen 2;obtain⟨hp',pW,lZ,b0',a3M⟩:=aM hp hb kV b0 his;clear hp hb kV b0 his;go_wp2_with fail
  refine bodyPost_ret (kJ rfl _ _ w.heap.size 72 #[.int .i64 0,.int .i64 0,.slice none 0 0] _ rfl (b0'.o.D5 _ _ _) Tryz.underlying72 rfl aF) rfl ?_;exact⟨k,0,0,none,0,0, [],hp'.o,by rw[a3M.o];rfl,lC _ _ _ _,by rw[a3M.o];rfl,lT lZ.o (aY _) _ _ _⟩
 |true=>
  have hkn:k<n:=by
   have:=his;unfold ZL at this;simp only[bK,decide_eq_true_eq]at this;rw[←oC.o];exact this.1
  obtain⟨b,o,rfl,xL,f0,f1,f2,f3,DT⟩:=(sK.o.mono kV).at hkn;have AP:=hd'.o _ (IG (zs:=zs) (i:=k) (by rw[oC.o];exact hkn));obtain⟨⟨⟨y,t2,k2,xa,xn,xc⟩,d⟩,hz⟩:∃z,zs.getD k tY=z:=⟨_,rfl⟩;rw[hz]at f0 f1 f2 f3 DT AP;change Sl w1 xa xn xc 1 (ints .u8 d)at DT
  change xn≤1000000 at AP
  simp only at f0 f1 f2 f3;obtain⟨hp',pW,lZ,b0',a3M,GX,a3N⟩:=aO hp hb kV b0 his hz DT;clear hp hb kV b0 his hz DT;go_wp2_with fail
  refine(a3K t2 k2 xa xn xc d _ a3N.o AP).mono ?_;rintro e w2 ⟨a6,c6,rfl,C9,kP⟩;have TI:=lZ.o.tm kP;have b0:=b0'.o.late kP;have p0:=b0.cell (i:=0) rfl;have p1:=b0.cell (i:=1) rfl;have p2:=b0.cell (i:=2) rfl;have y0:=b0.frozen 0;have y1:=b0.frozen 1;have y2:=b0.frozen 2;have kY:=b0'.o.lt;clear b0';obtain⟨a97,pG,b0',KH⟩:=aL TI kP b0 C9;clear TI kP b0 C9;go_wp2_with fail
  refine bodyPost_ret (kJ rfl _ _ w.heap.size 72 #[.int .i64 t2,.int .i64 k2,.slice a6 xn c6] _ rfl (b0'.o.D5 _ _ _) Tryz.underlying72 rfl aF) rfl ?_;exact⟨k,t2,k2,a6,xn,c6,d,hp'.o,by rw[a3M.o];rfl,lN (OT KH.o kY _ _ _) (jO kY),by rw[a3M.o,GX.o];rfl,lT a97.o (aY _) _ _ _⟩
def EW (ts:List Tg) (x:Tg):List Tg:=ts.takeWhile (fun y=>decide (y.1<x.1))++x::ts.filter (fun y=>decide (x.1<y.1))
def vD (ts:List Tg) (t:Int):List Tg:=ts.filter (fun y=>decide (y.1≠t))
theorem aAT {zs:List yK} {i:Nat} (hi:i<zs.length):(zs[i]).1.1=key zs i:=by
 unfold key;rw[aZ,bH hi];rfl
theorem KY {zs:List yK} {t:Int} {k:Nat} (hp:Pos zs t k):∀y∈(zs.map tag).take k,y.1<t:=fun y hy=>by
 rw[←j3]at hy;obtain⟨z,hz,rfl⟩:=dH.1 hy;obtain⟨j,hj,rfl⟩:=fP hz;rw[eX]at hj;have:=hp.lo j aG;rw[←aAT aG]at this;simpa [tag] using this
theorem aSU {zs:List yK} {t:Int} {k:Nat} (hp:Pos zs t k):∀y∈(zs.map tag).drop k,t≤y.1:=fun y hy=>by
 rw[←List.map_drop]at hy;obtain⟨z,hz,rfl⟩:=dH.1 hy;obtain⟨j,hj,rfl⟩:=fP hz;rw[gF]at hj;have:=hp.hi (k+j) aG aG;rw[←aAT aG]at this;simpa [tag] using this
theorem a3O {zs:List yK} {t:Int} {k:Nat} (hr:∀i,i+1<zs.length→key zs i<key zs (i+1)) (hp:Pos zs t k):∀y∈(zs.map tag).drop (k+1),t<y.1:=fun y hy=>by
 rw[←List.map_drop]at hy;obtain⟨z,hz,rfl⟩:=dH.1 hy;obtain⟨j,hj,rfl⟩:=fP hz;rw[gF]at hj;have h1:=hp.hi k (aY _) aG;have h2:=a2O hr (show k<k+1+j by omega) aG;rw[←aAT (i:=k+1+j) aG]at h2;have h3:(tag ((zs.drop (k+1))[j])).1=(zs[k+1+j]'aG).1.1:=by simp[tag]
 omega
theorem P7 {zs:List yK} {t:Int} {k:Nat} (h:ZL zs t k=true):k<zs.length∧key zs k=t:=by
 unfold ZL at h;simpa using h
theorem WM {zs:List yK} {k:Nat} (h:k<zs.length):(zs.map tag).drop k=tag (zs.getD k tY)::(zs.map tag).drop (k+1):=by
 rw[List.drop_eq_getElem_cons (by simpa using h),fI,aZ,bH h];rfl
theorem ZM {zs:List yK} {t:Int} {k:Nat} (hp:Pos zs t k) (hr:∀i,i+1<zs.length→key zs i<key zs (i+1)) (h:ZL zs t k=false):∀y∈(zs.map tag).drop k,t<y.1:=fun y hy=>by
 by_cases hk:k<zs.length
 ·rw[WM hk]at hy;rcases cK.1 hy with rfl|hy
  ·have h1:=hp.hi k (aY _) hk;have h2:key zs k≠t:=fun e=>by unfold ZL at h;simp[hk,e]at h
   show t<key zs k
   omega
  ·exact a3O hr hp y hy
 ·rw[iB (by simp;omega)]at hy;cases hy
theorem aSV {l:List Tg} {k:Nat} {p:Tg→Bool} (h1:∀y∈l.take k,p y=true) (h2:∀y∈l.drop k,p y=false):l.takeWhile p=l.take k:=by
 conv=>lhs;rw[←fA k l]
 rw[List.takeWhile_append_of_pos h1];cases hd:l.drop k with
 |nil=>simp
 |cons y r=>rw[List.takeWhile_cons_of_neg (by rw[h2 y (by rw[hd];exact bQ)];simp)];simp
theorem ZN {l:List Tg} {k:Nat} {p:Tg→Bool}:l.filter p=(l.take k).filter p++(l.drop k).filter p:=by rw[←eT,fA]
theorem WN {l:List Tg} {p:Tg→Bool} (h:∀y∈l,p y=false):l.filter p= []:=List.filter_eq_nil_iff.2 fun y hy=>by simp[h y hy]
theorem GL {l:List Tg} {p:Tg→Bool} (h:∀y∈l,p y=true):l.filter p=l:=List.filter_eq_self.2 h
theorem bBT {zs:List yK} {x:Tg} {k:Nat} (hp:Pos zs x.1 k) (hr:∀i,i+1<zs.length→key zs i<key zs (i+1)):
  EW (zs.map tag) x=(zs.map tag).take k++x::(zs.map tag).drop (if ZL zs x.1 k=true then k+1 else k):=by
 unfold EW;rw[aSV (k:=k) (fun y hy=>by simpa using KY hp y hy) (fun y hy=>by have:=aSU hp y hy;simpa using this),
  ZN (k:=k),WN (fun y hy=>by have:=KY hp y hy;simp;omega),fG]
 congr 2
 by_cases hb:ZL zs x.1 k=true
 ·obtain⟨h1,h2⟩:=P7 hb;rw[if_pos hb,WM h1,gW (by have h3:(tag (zs.getD k tY)).1=x.1:=h2;rw[h3];simp)];exact GL fun y hy=>by have:=a3O hr hp y hy;simpa using this
 ·rw[if_neg hb];exact GL fun y hy=>by have:=ZM hp hr (by simpa using hb) y hy;simpa using this
theorem drop_at {zs:List yK} {t:Int} {k:Nat} (hp:Pos zs t k) (hr:∀i,i+1<zs.length→key zs i<key zs (i+1)):
  vD (zs.map tag) t=if ZL zs t k=true then(zs.map tag).take k++(zs.map tag).drop (k+1)else zs.map tag:=by
 unfold vD;by_cases hb:ZL zs t k=true
 ·obtain⟨h1,h2⟩:=P7 hb;rw[if_pos hb,ZN (k:=k),GL (fun y hy=>by have:=KY hp y hy;simp;omega),WM h1,gW (by have h3:(tag (zs.getD k tY)).1=t:=h2;rw[h3];simp)];congr 1
  exact GL fun y hy=>by have:=a3O hr hp y hy;simp;omega
 ·rw[if_neg hb,ZN (k:=k),GL (fun y hy=>by have:=KY hp y hy;simp;omega),GL (fun y hy=>by have:=ZM hp hr (by simpa using hb) y hy;simp;omega),fA]
theorem a2P {zs zs':List yK} (h:zs'.map tag=zs.map tag) (i:Nat):key zs' i=key zs i:=by
 have hl:zs'.length=zs.length:=by simpa using congrArg List.length h
 unfold key;by_cases hi:i<zs.length
 ·have h1:(zs'.map tag)[i]'(by simp;omega)=(zs.map tag)[i]'(by simp;omega):=by simp only[h]
  rw[aZ,aZ,bH hi,bH (by omega:i<zs'.length)];simp only[fI,tag,iF]at h1;exact h1.1
 ·rw[aZ,fE aG,aZ,fE aG]
theorem aIQ {zs:List yK} {k:Nat} (h:k<zs.length) (z:yK):(zs.set k z).map tag=(zs.map tag).take k++tag z::(zs.map tag).drop (k+1):=by
 rw[List.map_set,List.set_eq_take_append_cons_drop,if_pos (by simpa using h)]
theorem To.mO {B:Nat} {W:World} {a:Option Addr} {n c:Nat} {zs:List yK} (h:To B W a n c zs) {g:Nat} (hg:g<B) (i:Nat) (u:Value):To B (W.setCell ⟨g,i,none⟩ u) a n c zs:=
 ⟨lW h.row hg i u,fun z hz=>lW (h.each z hz) hg i u⟩
theorem To.aIR {B:Nat} {W:World} {a:Option Addr} {n c:Nat} {zs:List yK} (h:To B W a n c zs) {g:Nat} (hg:g<B) (i j k:Nat) (x y u:Value):
  To B (((W.setCell ⟨g,i,none⟩ x).setCell ⟨g,j,none⟩ y).setCell ⟨g,k,none⟩ u) a n c zs:=((h.mO hg i x).mO hg j y).mO hg k u
theorem aIS {w:World} {B:Nat} {E:TypeId} {sz:Nat} {v:Value} {n:Nat} {xs:List Value} (h:w.ownsRow B E sz v n xs) {g:Nat} (hg:g<B) (i j k:Nat) (x y u:Value):
  (((w.setCell ⟨g,i,none⟩ x).setCell ⟨g,j,none⟩ y).setCell ⟨g,k,none⟩ u).ownsRow B E sz v n xs:=lW (lW (lW h hg i x) hg j y) hg k u
theorem To.put {B:Nat} {W:World} {g n c:Nat} {zs:List yK} (h:To B W (some ⟨g,0,none⟩) n c zs) {k:Nat} (hk:k<zs.length) {y t q:Int} {a:Option Addr} {m p:Nat} {d:List Int} (hx:Ow B W ((y,t,q,a,m,p),d)):
  To B ((((W.setCell ⟨g,k*4,none⟩ (.int .i64 y)).setCell ⟨g,k*4+1,none⟩ (.int .i64 t)).setCell ⟨g,k*4+2,none⟩ (.int .i64 q)).setCell ⟨g,k*4+3,none⟩ (.slice a m p)) (some ⟨g,0,none⟩) n c (zs.set k ((y,t,q,a,m,p),d)):=by
 refine⟨by rw[←b2L hk];exact aDS (GH h.row _ _) _ _ _ _ _ _,fun z hz=>?_⟩;have WG:∀z,Ow B W z→Ow B ((((W.setCell ⟨g,k*4,none⟩ (.int .i64 y)).setCell ⟨g,k*4+1,none⟩ (.int .i64 t)).setCell ⟨g,k*4+2,none⟩ (.int .i64 q)).setCell ⟨g,k*4+3,none⟩ (.slice a m p)) z:=fun z hz=>(hz.put h.row _ _).aST (GH h.row _ _) _ _ _ _ _ _;rcases List.mem_or_eq_of_mem_set hz with hz|rfl
 ·exact WG z (h.each z hz)
 ·exact WG _ hx
theorem To.ins {B:Nat} {W W':World} {a a':Option Addr} {n c c':Nat} {zs:List yK} (h:To B W a n c zs) {z:yK} (hz:Ow B W z) {k:Nat} (hr:W'.ownsRow B 74 4 (.slice a' (n+1) c') (n+1) (zc (zs.take k++z::zs.drop k))) (hg:W.grownBy W' (Value.slice a n c).ownBlock):
  To B W' a' (n+1) c' (zs.take k++z::zs.drop k):=⟨hr,fun u hu=>by
 rcases bO.1 hu with hu|hu
 ·exact(h.each u (gQ hu)).grown h.row hg
 ·rcases cK.1 hu with rfl|hu
  ·exact hz.grown h.row hg
  ·exact(h.each u (gT hu)).grown h.row hg⟩
theorem To.del {B:Nat} {W W':World} {a a':Option Addr} {n c c':Nat} {zs:List yK} (h:To B W a n c zs) {k:Nat} (hr:W'.ownsRow B 74 4 (.slice a' (n - 1) c') (n - 1) (zc (zs.take k++zs.drop (k+1)))) (hg:W.grownBy W' (Value.slice a n c).ownBlock):
  To B W' a' (n - 1) c' (zs.take k++zs.drop (k+1)):=⟨hr,fun u hu=>by
 rcases bO.1 hu with hu|hu
 ·exact(h.each u (gQ hu)).grown h.row hg
 ·exact(h.each u (gT hu)).grown h.row hg⟩
theorem aSW (a:Option Addr) (n c:Nat) (zs:List yK) (t:Int) (w:World) (hs:Tr w a n c zs) (hr:∀i,i+1<n→key zs i<key zs (i+1)) (hl:n≤1000000) (hd:∀z∈zs,z.1.2.2.2.2.1≤1000000):
  Calls Tryz.prog 138 #[.slice a n c,.int .i64 t] w fun e w'=>∃a' n' c' zs',e= .returned (.slice a' n' c')∧To w.heap.size w' a' n' c' zs'∧zs'.map tag=vD (zs.map tag) t∧Below w.heap.size w w':=by
 have vO:=hs.len;have hO:=a96 a n c zs w hs hl hd;obtain⟨hO',sK,hd',oC,sH⟩:=aM hO hs hd vO hr;clear hO hs hd vO hr;go_enter Tryz.func138,Tryz.ntmps138;go_wp2_with fail
 refine hO'.o.mono ?_;rintro e w1 ⟨a1,c1,zs1,rfl,NM,OL,kV⟩;have hr1:∀i,i+1<n→key zs1 i<key zs1 (i+1):=fun i hi=>by rw[a2P OL,a2P OL];exact sH.o i hi
 have hB:=aIP a1 n c1 zs1 t w1 NM.tr hr1 hl;obtain⟨aDT,MI,lZ,hB',aD7⟩:=aM NM OL kV hB hr1;clear NM OL kV hB hr1;go_wp2_with fail
 refine hB'.o.mono ?_;rintro e w2 ⟨k,hp,rfl,kP⟩;have C9:=aDT.o.later kP;have TI:=lZ.o.tm kP;clear kP;cases his:ZL zs1 t k with
 |false=>
  obtain⟨hp',a3M,KH,a97⟩:=aL hp his C9 TI;clear hp his C9 TI;go_wp2_with fail
  go_ret;exact⟨_,_,_,zs1,rfl,KH.o,by rw[←MI.o,drop_at hp'.o (by rw[KH.o.len];exact aD7.o),a3M.o];rfl,a97.o⟩
 |true=>
  have hkn:k<n:=by have:=(P7 his).1;rw[C9.len]at this;exact this
  have hD:=aIM w.heap.size a1 n c1 (zc zs1) k ((k:Int)+1) w2 C9.row hkn rfl aIO hl;have xR:IntKind.i64.wrap ((k:Int)+1)=k+1:=by rw[bJ];omega
  obtain⟨hp',a3M,KH,a97,hD'⟩:=aM hp his C9 TI hD;clear hp his C9 TI hD;go_wp2_with fail
  refine hD'.o.mono ?_;rintro e w3 ⟨a3,c3,rfl,ho3,Z0⟩;obtain⟨KX,aD8⟩:=aJ ho3 Z0;clear ho3 Z0;go_wp2_with fail
  go_ret;have h3:=KX.o;rw[aAQ,aAR,←a95]at h3;refine⟨_,_,_,_,rfl,KH.o.del h3 aD8.o,?_,below_grown a97.o aD8.o a97.o.size KH.o.row⟩;rw[←MI.o,drop_at hp'.o (by rw[KH.o.len];exact aD7.o),if_pos a3M.o,eO,j3,List.map_drop]
theorem b2M (a:Option Addr) (n c:Nat) (zs:List yK) (x1 x2 x3:Int) (xa:Option Addr) (xn xc:Nat) (d:List Int) (w:World) (hs:Tr w a n c zs) (hr:∀i,i+1<n→key zs i<key zs (i+1)) (hl:n≤1000000 - 1) (hd:∀z∈zs,z.1.2.2.2.2.1≤1000000)
  (hx:Sl w xa xn xc 1 (ints .u8 d)) (hxn:xn≤1000000):
  Calls Tryz.prog 121 #[.slice a n c,.agg #[.int .i64 x1,.int .i64 x2,.int .i64 x3,.slice xa xn xc]] w fun e w'=>∃a' n' c' zs',e= .returned (.slice a' n' c')∧To w.heap.size w' a' n' c' zs'∧zs'.map tag=EW (zs.map tag) (x1,x2,x3,d)∧Below w.heap.size w w':=by
 have vO:=hs.len;have AX:=aD w (.cells #[.int .i64 x1,.int .i64 x2,.int .i64 x3,.slice xa xn xc] 74);have hO:=a96 a n c zs _ (hs.mono AX) aG hd;obtain⟨hO',sK,hd',oC,sH,TV,r9⟩:=aO hO hs hd vO hr hx AX;clear hO hs hd vO hr hx AX;go_enter Tryz.func121,Tryz.ntmps121;go_wp2_with fail
 refine hO'.o.mono ?_;rintro e w1 ⟨a1,c1,zs1,rfl,NM,OL,kV⟩;have hr1:∀i,i+1<n→key zs1 i<key zs1 (i+1):=fun i hi=>by rw[a2P OL,a2P OL];exact sH.o i hi
 have b0:kG w1 w.heap.size 74 #[.int .i64 x1,.int .i64 x2,.int .i64 x3,.slice xa xn xc]:=kG.late (nS _ _) kV;have xS:=r9.o.tm kV;have hX:=a3K x2 x3 xa xn xc d w1 (TV.o.mono xS) hxn;have p1:=b0.cell (i:=1) rfl;have p2:=b0.cell (i:=2) rfl;have p3:=b0.cell (i:=3) rfl;simp only[World.size_alloc]at NM;clear kV;obtain⟨aDT,MI,aD7,b0',qP,hX'⟩:=aN NM OL hr1 b0 xS hX;clear NM OL hr1 b0 xS hX;go_wp2_with fail
 refine hX'.o.mono ?_;rintro e w2 ⟨a2,c2,rfl,C9,kP⟩;have P8:=qP.o.tm kP;have b1:=b0'.o.late kP;have ht2:=aDT.o.later kP;have kY:w.heap.size<w1.heap.size:=b0'.o.lt;have q0:=b1.cell (i:=0) rfl;have q1:=b1.cell (i:=1) rfl;have q2:=b1.cell (i:=2) rfl;have q3:=b1.cell (i:=3) rfl;have y1:=b1.frozen 1;have y2:=b1.frozen 2;have y3:=b1.frozen 3;clear p1 p2 p3 kP;obtain⟨KH,vY,b1',b2N⟩:=aL C9 P8 b1 ht2;clear C9 P8 b1 ht2;go_wp2_with fail
 have hT3:=b2N.o.aIR (show w.heap.size<w.heap.size+1 by omega) 1 2 3 (.int .i64 x2) (.int .i64 x3) (.slice a2 xn c2);have hX3:=aIS KH.o kY 1 2 3 (.int .i64 x2) (.int .i64 x3) (.slice a2 xn c2);have hB3:=((vY.o.setCell (p:=⟨w.heap.size,1,none⟩) (aY _) (.int .i64 x2)).setCell (p:=⟨w.heap.size,2,none⟩) (aY _) (.int .i64 x3)).setCell (p:=⟨w.heap.size,3,none⟩) (aY _) (.slice a2 xn c2);have b3:=((b1'.o.set 1 (.int .i64 x2)).set 2 (.int .i64 x3)).set 3 (.slice a2 xn c2);clear q0 q1 q2 q3 y1 y2 y3;generalize ((w2.setCell ⟨w.heap.size,1,none⟩ (.int .i64 x2)).setCell ⟨w.heap.size,2,none⟩ (.int .i64 x3)).setCell ⟨w.heap.size,3,none⟩ (.slice a2 xn c2)=w3 at*;refine(aIP a1 n c1 zs1 x1 w3 hT3.tr aD7.o aG).mono ?_;rintro e w4 ⟨k,hp,rfl,mX⟩;have hT4:=(hT3.later mX).le (show w.heap.size≤w.heap.size+1 by omega);have hX4:=lN (l6 hX3 mX) (jO kY);have hB4:=hB3.tm mX;have b4:kG w4 w.heap.size 74 #[.int .i64 x1,.int .i64 x2,.int .i64 x3,.slice a2 xn c2]:=b3.late mX;have q0:=b4.cell (i:=0) rfl;have q1:=b4.cell (i:=1) rfl;have q2:=b4.cell (i:=2) rfl;have q3:=b4.cell (i:=3) rfl;have xM:zs1.length=n:=hT4.len;have SX:=bBT (x:=(x1,x2,x3,d)) hp (by rw[xM];exact aD7.o);have FI:=hp.le;cases his:ZL zs1 x1 k with
 |true=>
  have hkn:k<n:=by have:=(P7 his).1;omega
  rw[his,if_pos rfl]at SX;obtain⟨g,rfl,hBg,bJE,fz,hc⟩:=a3F hT4.row hkn;have gg:=fun j hj=>MH (zs:=zs1) (i:=k) (j:=j) aG hj;have f0:=hc _ _ (gg 0 aG);have f1:=hc _ _ (gg 1 aG);have f2:=hc _ _ (gg 2 aG);have f3:=hc _ _ (gg 3 aG);rw[dB]at f0;have y0:=fz (k*4);have y1:=fz (k*4+1);have y2:=fz (k*4+2);have y3:=fz (k*4+3);clear gg hc fz b3 mX hT3 hX3 hB3;obtain⟨hp',a3M,aOV,bBU,aOW,b4',aIC⟩:=aO hp his hT4 hX4 hB4 b4 SX;clear hp his hT4 hX4 hB4 b4 SX;go_wp2_with fail
  go_ret;refine⟨_,_,_,_,rfl,aOV.o.put aG (show Ow w.heap.size w4 ((x1,x2,x3,a2,xn,c2),d)from bBU.o),?_,(((aOW.o.setCell (p:=⟨g,k*4,none⟩) hBg _).setCell (p:=⟨g,k*4+1,none⟩) hBg _).setCell (p:=⟨g,k*4+2,none⟩) hBg _).setCell (p:=⟨g,k*4+3,none⟩) hBg _⟩;rw[←MI.o,aIC.o,aIQ aG];rfl
 |false=>
  rw[his,if_neg (by simp)]at SX;clear b3 mX hT3 hX3 hB3;obtain⟨hp',a3M,aOV,bBU,aOW,b4',aIC⟩:=aO hp his hT4 hX4 hB4 b4 SX;clear hp his hT4 hX4 hB4 b4 SX;go_wp2_with fail
  have ha:=aD w4 (.cells #[.int .i64 x1,.int .i64 x2,.int .i64 x3,.slice a2 xn c2] 74);have hT5:=aOV.o.later ha;have hX5:=l6 bBU.o ha;have hB5:=aOW.o.tm ha;have pQ:(Value.slice a1 n c1).ownBlock≠some w4.heap.size:=fun e=>by
   have:=(aOV.o.row.lt _ e).2;omega
  have bn:kG (w4.alloc (.cells #[.int .i64 x1,.int .i64 x2,.int .i64 x3,.slice a2 xn c2] 74)) w4.heap.size 74 #[.int .i64 x1,.int .i64 x2,.int .i64 x3,.slice a2 xn c2]:=nS _ _;generalize w4.alloc (.cells #[.int .i64 x1,.int .i64 x2,.int .i64 x3,.slice a2 xn c2] 74)=w5 at*;refine(aIL w.heap.size a1 n c1 (zc zs1) k w4.heap.size _ w5 hT5.row hB5.size aG aG bn rfl pQ aIO (by intro v hv;simp at hv;rcases hv with rfl|rfl|rfl|rfl <;> rfl)).mono ?_;rintro e w6 ⟨a6,c6,rfl,ho6,vQ⟩;have hz:(#[.int .i64 x1,.int .i64 x2,.int .i64 x3,.slice a2 xn c2]:Array Value).toList=zcl ((x1,x2,x3,a2,xn,c2),d):=rfl;rw[hz,aAQ,aAR,dJ,←BH,←a95]at ho6;have hT6:=hT5.ins (show Ow w.heap.size w5 ((x1,x2,x3,a2,xn,c2),d)from hX5) ho6 vQ;have Z8:=below_grown hB5 vQ hB5.size hT5.row;clear ho6 vQ hT5 hX5 hB5 bn;obtain⟨aDU,bBV⟩:=aJ hT6 Z8;clear hT6 Z8;go_wp2_with fail
  go_ret;refine⟨_,_,_,_,rfl,aDU.o,?_,bBV.o⟩;rw[←MI.o,aIC.o,eO,aW,j3,List.map_drop];rfl
def pI (ts:List Tg) (t:Int):Bool×Int×Int×List Int:=match ts.find? (fun y=>decide (y.1=t))with
 |some y=>(true,y.2)
 |none=>(false,0,0, [])
theorem RQ {ts:List Tg} {t:Int} (h:∀y∈ts,y.1≠t):pI ts t=(false,0,0, []):=by
 unfold pI;rw[List.find?_eq_none.2 (fun y hy=>by simp[h y hy])]
theorem ZO {A C:List Tg} {t:Int} {y:Tg} (h:∀y∈A,y.1≠t) (hy:y.1=t):pI (A++y::C) t=(true,y.2):=by
 unfold pI;rw[List.find?_append,List.find?_eq_none.2 (fun y hy=>by simp[h y hy]),List.find?_cons_of_pos (by simp[hy])];rfl
theorem aSX {zs:List yK} {t:Int} {k:Nat} (hp:Pos zs t k) (hr:∀i,i+1<zs.length→key zs i<key zs (i+1)):
  pI (zs.map tag) t=if ZL zs t k=true then(true,(tag (zs.getD k tY)).2)else(false,0,0, []):=by
 by_cases hb:ZL zs t k=true
 ·obtain⟨h1,h2⟩:=P7 hb;rw[if_pos hb,←fA k (zs.map tag),WM h1];exact ZO (fun y hy=>by have:=KY hp y hy;omega) h2
 ·rw[if_neg hb];refine RQ fun y hy=>?_;rw[←fA k (zs.map tag)]at hy;rcases bO.1 hy with hy|hy
  ·have:=KY hp y hy;omega
  ·have:=ZM hp hr (by simpa using hb) y hy;omega
def xW (ts:List Tg):Bool:=ts.any (fun x=>decide (600<x.2.2.2.length))||decide (60<ts.length)
def UL (ts:List Tg):Bool:=decide (∀i,i<ts.length - 1→(ts.getD i (0,0,0, [])).1<(ts.getD (i+1) (0,0,0, [])).1)
theorem UM {ts:List Tg}:UL ts=true↔∀i,i+1<ts.length→(ts.getD i (0,0,0, [])).1<(ts.getD (i+1) (0,0,0, [])).1:=by
 unfold UL;rw[decide_eq_true_iff];exact⟨fun h i hi=>h i aG,fun h i hi=>h i aG⟩
theorem aOX {ts:List Tg} {i:Nat} (hi:i+1<ts.length) (h:(ts.getD (i+1) (0,0,0, [])).1≤(ts.getD i (0,0,0, [])).1):UL ts=false:=by
 cases hb:UL ts
 ·rfl
 ·have:=UM.1 hb i hi;omega
def tZ (dir:Int) (ts:List Tg):Bool:=ts.all (P5 dir)&&UL ts&&decide (0≤dir)&&decide (dir≤5)
theorem aSY {ts:List Tg} {n k:Nat} (hl:ts.length=n) (hk:k<n):ts.getD k (0,0,0, [])∈ts:=by
 rw[aZ,bH aG];exact bP _
theorem bBW {ts:List Tg} {n:Nat} {dir:Int} (hl:ts.length=n) (h:∀j,j<n→P5 dir (ts.getD j (0,0,0, []))=true):ts.all (P5 dir)=true:=by
 rw[dI];intro x hx;obtain⟨i,hi,rfl⟩:=gU.1 hx;have:=h i aG;rwa [aZ,bH hi]at this
theorem bBX {ts:List Tg} {n k:Nat} {dir:Int} (hl:ts.length=n) (hk:k<n) (h:P5 dir (ts.getD k (0,0,0, []))=false):ts.all (P5 dir)=false:=by
 cases hb:ts.all (P5 dir)
 ·rfl
 ·have:=dI.1 hb _ (aSY hl hk);rw[h]at this;cases this
theorem EK (dir:Int) (a:Option Addr) (n c:Nat) (ts:List Tg) (w:World) (h:Ts w a n c ts) (hd:(Lit.int .i64 dir).wf=true) (wP:∀x∈ts,a1R x):
  Calls Tryz.prog 69 #[.int .i64 dir,.slice a n c] w fun e w'=>e= .returned (.bool (tZ dir ts))∧Below w.heap.size w w':=by
 have hm:=h.max;have hl:=h.len;obtain⟨H,Hl,Hd,Hok⟩:=aL h hl hd wP;clear h hl hd wP;obtain⟨r,hr⟩:=aC (tZ dir ts);rw[hr];have Hr:=aA hr;clear hr;go_enter Tryz.func69,Tryz.ntmps69;go_wp2_with fail
 refine(aOP w).mono ?_;rintro e w1 ⟨mb,rfl,hmb,hr1,kV⟩;obtain⟨Hr1,HB1⟩:=aJ hr1 kV;clear hr1 kV hmb;go_wp2;go_loopw [11] (fun i wr=>∃k:Nat,k≤n∧i= .int .i64 k∧Hid (∀j,j<k→P5 dir (ts.getD j (0,0,0, []))=true)∧Hid (∀j,j+1<k→(ts.getD j (0,0,0, [])).1<(ts.getD (j+1) (0,0,0, [])).1)∧Hid (Below w1.heap.size w1 wr)) (fun i _=>n - (intOf i).toNat)
 case atStart=>exact⟨0,by omega,rfl,aA (fun j hj=>by omega),aA (fun j hj=>by omega),aA (bF _ _)⟩
 case round=>
  obtain⟨k,hk,rfl,lY,aM8,hb⟩:=hrel;have HBw:=aA (HB1.o.tm hb.o);by_cases kY:k<n
  ·obtain⟨b,o,a1,n1,c1,rfl,OM,e0,e1,e2,e3,hs⟩:=(H.o.mono HBw.o).at kY;obtain⟨⟨tg,ty,ct,d⟩,hx⟩:∃x,ts.getD k (0,0,0, [])=x:=⟨_,rfl⟩;rw[hx]at e0 e1 e2 hs;simp only at e0 e1 e2 hs;have aIT:a1R (tg,ty,ct,d):=hx▸Hok.o _ (aSY Hl.o kY);obtain⟨Hx,bUC,Hs⟩:=aK hx aIT hs;clear hx aIT hs;obtain⟨m,hmm⟩:=aC (KW dir tg ty ct d);have Hmm:Hid (KW dir tg ty ct d=m):=aA hmm;have bJG:Hid (P5 dir (tg,ty,ct,d)=m):=aA hmm;clear hmm;obtain⟨w2,hw2⟩:∃w2,w2=wr.alloc (.cells #[.int .i64 tg,.int .i64 ty,.int .i64 ct,.slice a1 n1 c1] 74):=⟨_,rfl⟩;obtain⟨g,hg⟩:∃g,g=wr.heap.size:=⟨_,rfl⟩;have kP:Below wr.heap.size wr w2:=by rw[hw2];exact(bF _ _).alloc (aY _) _
   have ht2:OZ w2 g tg ty ct a1 n1 c1:=by rw[hg,hw2];exact OZ.new ..
   have TI:=hb.o.tm kP;obtain⟨bBY,Hs2,Hr2⟩:=aK TI (Hs.o.mono kP) (Hr1.o.mono TI);have HQ:Hid (Below w2.heap.size w2 w2.drew):=aA ((bF _ _).drew);obtain⟨bd,FJ⟩:=aC (decide (0<k)&&decide (tg≤(ts.getD (k - 1) (0,0,0, [])).1)|| !m);have Hbd:=aA FJ;clear FJ;obtain⟨Hkn,Hlt,HDW⟩:=aK hk kY Hd.o;obtain⟨ok1,ok4⟩:=bUC.o;obtain⟨Htw,Hby⟩:=aJ ok1 ok4;clear ok1 ok4;have HC:Hid (Calls Tryz.prog 133 #[.map (some mb),.int .i64 dir,.agg #[.int .i64 tg,.int .i64 ty,.int .i64 ct,.slice a1 n1 c1]] w2.drew fun e w'=>e= .returned (.bool m)∧Below w2.drew.heap.size w2.drew w'):=
    aA (by have:=aSR mb dir tg ty ct a1 n1 c1 d w2.drew (Hr2.o.mono HQ.o) (Hs2.o.mono HQ.o) Hby.o Hd.o Htw.o;rwa [Hmm.o]at this)
   go_wp2_with fail
   rw[←hw2,←hg];have aS2:=ht2.lt;obtain⟨q0,q1,q2,q3,_⟩:=ht2;have Hat:Hid (∀j,j<n→w2.cell? ⟨b,o+j*4,none⟩=some (.int .i64 (ts.getD j (0,0,0, [])).1)):=aA (fun j hj=>by
    obtain⟨b',o',a2,n2,c2,EI,_,y0,_⟩:=(H.o.mono (HB1.o.tm bBY.o)).at hj;cases EI
    exact y0)
   clear hw2 hg kP TI hb e0 e1 e2 e3;go_cut [11,35]from 11 to 36 (fun u v wx=>u= .int .i64 k∧v= .bool bd∧Below w2.heap.size w2 wx)
   case first=>
    rcases iE k with SY|SY
    ·have f1:decide ((0:Int)<(k:Int))=false:=by simp;omega
     have f2:decide (0<k)=false:=by simp;omega
     have hbm:bd= !m:=by
      have f2:decide (0<k)=false:=by simp;omega
      rw[←Hbd.o,f2];simp
     have Hbm:=aA hbm;clear SY hbm hk kY;refine KG 17 aF aF _ _ (by simp only[iL,List.take_zero];rfl) (by simp only[List.drop_succ_cons,gL];rfl) ?_;iterate 17 (go_big_quiet_step (fail))
     refine wpQuiet_nil ?_;obtain⟨Hr3,Hs3⟩:=aJ (Hr2.o.mono HQ.o) (Hs2.o.mono HQ.o);go_wp2_with fail
     refine HC.o.mono ?_;rintro e w3 ⟨rfl,kT⟩;have Hb3:=aA (HQ.o.trans kT);clear kT;go_wp2_with fail
     go_meet
     exact⟨rfl,by rw[Hbm.o],Hb3.o⟩
    ·obtain⟨k',WG⟩:∃k':Nat,k'+1=k:=⟨k - 1,by omega⟩;have f1:decide ((0:Int)<(k:Int))=true:=by simp;omega
     have f2:decide (0<k)=true:=by simp;omega
     have wk:IntKind.i64.wrap ((k:Int) - 1)=(k':Int):=by rw[bJ];omega
     obtain⟨tp,htp⟩:∃tp,(ts.getD k' (0,0,0, [])).1=tp:=⟨_,rfl⟩;have q4:=Hat.o k' aG;rw[htp]at q4;have OC:(k':Int)<(n:Int):=by omega
     have aOY:k'<n:=by omega
     have FJ:bd=(decide (tg≤tp)|| !m):=by
      have f2:decide (0<k)=true:=by simp;omega
      rw[←Hbd.o,f2,show k - 1=k' by omega,htp];simp
     have bJH:=aA FJ;clear SY FJ hk kY WG htp;have hpn:(0:Int)≤(k':Int):=by omega
     by_cases hge:tg≤tp
     ·have g1:decide (tg≤tp)=true:=by simpa using hge
      have mQ:bd=true:=by rw[bJH.o,g1];rfl
      have Hbt:=aA mQ;clear mQ;refine KG 17 aF aF _ _ (by simp only[iL,List.take_zero];rfl) (by simp only[List.drop_succ_cons,gL];rfl) ?_;iterate 17 (go_big_quiet_step (fail))
      refine wpQuiet_nil ?_;go_wp2_with fail
      go_meet
      exact⟨rfl,by rw[Hbt.o],HQ.o⟩
     ·have g1:decide (tg≤tp)=false:=by simpa using hge
      have mQ:bd= !m:=by rw[bJH.o,g1];rfl
      have Hbt:=aA mQ;clear mQ;refine KG 17 aF aF _ _ (by simp only[iL,List.take_zero];rfl) (by simp only[List.drop_succ_cons,gL];rfl) ?_;iterate 17 (go_big_quiet_step (fail))
      refine wpQuiet_nil ?_;go_wp2_with fail
      refine HC.o.mono ?_;rintro e w3 ⟨rfl,kT⟩;have Hb3:=aA (HQ.o.trans kT);clear kT;go_wp2_with fail
      go_meet
      exact⟨rfl,by rw[Hbt.o],Hb3.o⟩
   case rest=>
    obtain⟨rfl,rfl,mX⟩:=hcut;rename World=>w4
    have HB4:Hid (Below w1.heap.size w1 w4):=aA (bBY.o.tm mX);clear mX;cases bd
    ·have hmt:m=true:=by have:=Hbd.o;simp at this;exact this.2
     have b70:∀j,j+1<k+1→(ts.getD j (0,0,0, [])).1<(ts.getD (j+1) (0,0,0, [])).1:=fun j hj=>by
      rcases eB (j+1) k with h1|h1
      ·exact aM8.o j h1
      ·obtain rfl:k=j+1:=by omega
       have h2:=Hbd.o;rw[Hx.o];simp at h2;have:=h2.1;simpa using this
     have a98:∀j,j<k+1→P5 dir (ts.getD j (0,0,0, []))=true:=fun j hj=>by
      rcases eB j k with h1|h1
      ·exact lY.o j h1
      ·obtain rfl:j=k:=by omega
       rw[Hx.o,bJG.o,hmt]
     obtain⟨bJI,bJJ⟩:=aJ b70 a98;clear b70 a98 hmt;go_wp2_with fail
     go_roundw
     case rel=>
      exact⟨k+1,by omega,by go_num,bJJ,bJI,HB4⟩
     case measure=>
      simp[intOf];omega
    ·have hf:tZ dir ts=false:=by
      unfold tZ;cases hmc:m
      ·rw[bBX Hl.o kY (by rw[Hx.o,bJG.o,hmc])];rfl
      ·have h2:=Hbd.o;rw[hmc]at h2;simp at h2;have hr0:UL ts=false:=aOX (i:=k - 1) (by rw[Hl.o];omega) (by rw[show k - 1+1=k by omega,Hx.o];exact h2.2);rw[hr0];simp
     obtain rfl:r=false:=by rw[←Hr.o,hf]
     clear hf;have HE:=aA (HB1.o.tm HB4.o);go_wp2;go_ret;exact⟨rfl,HE.o⟩
  ·have ha:ts.all (P5 dir)=true:=bBW Hl.o (fun j hj=>lY.o j aG);have hri:UL ts=true:=UM.2 (fun i hi=>aM8.o i (by rw[Hl.o]at hi;omega));have KT:r=(decide (0≤dir)&&decide (dir≤5)):=by rw[←Hr.o];unfold tZ;rw[ha,hri];simp
   have Hr2:=aA KT;clear ha hri KT lY aM8;by_cases t1:0≤dir
   ·by_cases t2:dir<6
    ·obtain rfl:r=true:=by rw[Hr2.o,decide_eq_true t1,decide_eq_true (show dir≤5 by omega)];rfl
     go_wp2;go_ret;exact⟨rfl,HBw.o⟩
    ·obtain rfl:r=false:=by rw[Hr2.o,decide_eq_false (show ¬dir≤5 by omega)];simp
     go_wp2;go_ret;exact⟨EP (by simp;try omega),HBw.o⟩
   ·obtain rfl:r=false:=by rw[Hr2.o,decide_eq_false t1];simp
    go_wp2;go_ret;exact⟨rfl,HBw.o⟩
