import Derived.Test.YtceclmpmpldmlaaGreatCz25
set_option linter.unusedSimpArgs false
set_option linter.unusedVariables false
set_option maxRecDepth 100000
set_option maxHeartbeats 8000000
namespace Go.Proofs.YtceclmpmpldmlaaGreat
open Go.RowKit Tt
theorem To.le {B B':Nat} {W:World} {a:Option Addr} {n c:Nat} {zs:List uM} (h:To B W a n c zs) (hB:B'≤B):To B' W a n c zs:=⟨kK h.row hB,fun z hz=>kK (h.each z hz) hB⟩
theorem To.len {B:Nat} {W:World} {a:Option Addr} {n c:Nat} {zs:List uM} (h:To B W a n c zs):zs.length=n:=h.tr.len
theorem Ow.put {B B':Nat} {W:World} {z:uM} (h:Ow B W z) {g n c m:Nat} {xs:List Value} (hr:W.ownsRow B' 74 4 (.slice (some ⟨g,0,none⟩) n c) m xs) (i:Nat) (u:Value):Ow B (W.setCell ⟨g,i,none⟩ u) z:=aML h hr (by decide) rfl i [u]
theorem yZ {zs:List uM} {i:Nat} (hi:i<zs.length) (z:uM):(zs.set i z).getD i rA=z:=by simp[aV,hi]
theorem getD_set_ne {zs:List uM} {i j:Nat} (h:i≠j) (z:uM):(zs.set i z).getD j rA=zs.getD j rA:=by simp[aV,List.getElem?_set_ne h]
theorem aHS {zs:List uM} {i:Nat} {y t k t0 k0:Int} {a a0:Option Addr} {n c n0 c0:Nat} {d d0:List Int} (hi:i<zs.length) (h:zs.getD i rA=((y,t0,k0,a0,n0,c0),d0)):
  (((zc zs).set (i*4+1) (.int .i64 t)).set (i*4+2) (.int .i64 k)).set (i*4+3) (.slice a n c)=zc (zs.set i ((y,t,k,a,n,c),d)):=by
 rw[TU (z':=((y,t,k0,a0,n0,c0),d)) (by omega) (by rw[h];rfl),
  TU (z':=((y,t,k,a0,n0,c0),d)) (by omega) (by rw[yZ hi];rfl),List.set_set,
  TU (z':=((y,t,k,a,n,c),d)) (by omega) (by rw[yZ hi];rfl),List.set_set]
theorem aXO {zs:List uM} {i:Nat} {y t k:Int} {a:Option Addr} {n c:Nat} {d:List Int} (hi:i<zs.length):
  ((((zc zs).set (i*4) (.int .i64 y)).set (i*4+1) (.int .i64 t)).set (i*4+2) (.int .i64 k)).set (i*4+3) (.slice a n c)=zc (zs.set i ((y,t,k,a,n,c),d)):=by
 obtain⟨⟨⟨y0,t0,k0,a0,n0,c0⟩,d0⟩,hz⟩:∃z,zs.getD i rA=z:=⟨_,rfl⟩;rw[show(zc zs).set (i*4) (.int .i64 y)=(zc zs).set (i*4+0) (.int .i64 y)from rfl,TU (z':=((y,t0,k0,a0,n0,c0),d)) (by omega) (by rw[hz];rfl),
  aHS (d:=d) (by simpa using hi) (yZ hi _),List.set_set]
theorem aAY {W:World} {B g n c m:Nat} {xs:List Value} {E:TypeId} {sz:Nat} (h:W.ownsRow B E sz (.slice (some ⟨g,0,none⟩) n c) m xs) (i j k:Nat) (x y z:Value):
  (((W.setCell ⟨g,i,none⟩ x).setCell ⟨g,j,none⟩ y).setCell ⟨g,k,none⟩ z).ownsRow B E sz (.slice (some ⟨g,0,none⟩) n c) m (((xs.set i x).set j y).set k z):=AJ (AJ (AJ h i x) j y) k z
theorem Ow.aPR {B B':Nat} {W:World} {z:uM} (h:Ow B W z) {g n c m:Nat} {xs:List Value} (hr:W.ownsRow B' 74 4 (.slice (some ⟨g,0,none⟩) n c) m xs) (i j k:Nat) (x y u:Value):
  Ow B (((W.setCell ⟨g,i,none⟩ x).setCell ⟨g,j,none⟩ y).setCell ⟨g,k,none⟩ u) z:=((h.put hr i x).put (AJ hr i x) j y).put (AJ (AJ hr i x) j y) k u
theorem a3E (a:Option Addr) (n c:Nat) (zs:List uM) (w:World) (hs:Tr w a n c zs) (hl:n≤1000000) (hd:∀z∈zs,z.1.2.2.2.2.1≤1000000):
  Calls Tryz.prog 168 #[.slice a n c] w fun e w'=>∃a' c' zs',e= .returned (.slice a' n c')∧To w.heap.size w' a' n c' zs'∧zs'.map tag=zs.map tag∧Below w.heap.size w w':=by
 have hzl:=hs.len;have hC:=ZJ a n c zs w hs.row hl;obtain⟨hs',hd',mV,hC'⟩:=aH hs hd hzl hC;clear hs hd hzl hC;go_enter Tryz.func168,Tryz.ntmps168;go_wp2_with fail
 refine hC'.o.mono ?_;rintro e w1 ⟨a5,c5,rfl,ho,hb⟩;obtain⟨ho',hb'⟩:=aF ho hb;clear ho hb;go_wp2;go_loopw [10] (fun iv wr=>∃(i:Nat) (zs':List uM),i≤n∧iv= .int .i64 i∧zs'.length=n∧Hid (wr.ownsRow w.heap.size 74 4 (.slice a5 n c5) n (zc zs'))∧Hid (∀j,j<i→Ow w.heap.size wr (zs'.getD j rA))∧Hid (∀j,i≤j→zs'.getD j rA=zs.getD j rA)∧Hid (zs'.map tag=zs.map tag)∧Hid (Below w.heap.size w wr)) (fun iv _=>n - (intOf iv).toNat)
 case atStart=>exact⟨0,zs,by omega,rfl,mV.o,ho',aA (fun j hj=>by omega),aA (fun j _=>rfl),aA rfl,hb'⟩
 case round=>
  obtain⟨i,zs',hin,rfl,hlz,hown,hdone,hrest,htag,hbr⟩:=hrel;by_cases hi:i<n
  ·have hil:(i:Int)<(n:Int):=by omega
   have hw1:IntKind.i64.wrap ((i:Int)+1)=i+1:=by rw[aY];omega
   obtain⟨g,rfl,hBg,bDW,fz,hc⟩:=XE hown.o hi;have hz1:=hrest.o i (aU _);have hrd:=(hs'.o.each _ (CJ (zs:=zs) (i:=i) (by rw[mV.o];exact hi))).mono hbr.o;have hdn:=hd'.o _ (CJ (zs:=zs) (i:=i) (by rw[mV.o];exact hi));obtain⟨⟨⟨y,t,k,xa,xn,xc⟩,d⟩,hz⟩:∃z,zs.getD i rA=z:=⟨_,rfl⟩;rw[hz]at hz1 hrd hdn;have gg:=fun j hj=>KD (zs:=zs') (i:=i) (j:=j) (by omega) hj;rw[hz1]at gg;have f0:=hc _ _ (gg 0 (by omega));have f1:=hc _ _ (gg 1 (by omega));have f2:=hc _ _ (gg 2 (by omega));have f3:=hc _ _ (gg 3 (by omega));simp only[zcl,iL,iM]at f0 f1 f2 f3;rw[cK]at f0;clear gg hc;have hD:=hrd;change Sl wr xa xn xc 1 (ints .u8 d)at hD
   change xn≤1000000 at hdn
   obtain⟨hz',hz1',hD',fz'⟩:=aH hz hz1 hD fz;clear hz hz1 hD fz;clear hrd;go_wp2_with fail
   have hb1:=aD wr (.cells #[.int .i64 y,.int .i64 t,.int .i64 k,.slice xa xn xc] 74);refine(ZK t k xa xn xc d _ (hD'.o.mono hb1) hdn).mono ?_;rintro e w2 ⟨a6,c6,rfl,ho2,hb2⟩;have MS:=hb1.tm hb2;have hown2:=jY hown.o MS;have ZL:=fun j (hj:j<i)=>jY (hdone.o j hj) MS;have hbw:=hbr.o.tm MS;obtain⟨g',hgg,_,bDX,fz2,hc2⟩:=XE hown2 hi;injection hgg with hgg;injection hgg with hgg;subst hgg;have gg:=fun j hj=>KD (zs:=zs') (i:=i) (j:=j) (by omega) hj;rw[hz1'.o]at gg;have p1:=hc2 _ _ (gg 1 (by omega));have p2:=hc2 _ _ (gg 2 (by omega));have p3:=hc2 _ _ (gg 3 (by omega));have y1:=fz2 (i*4+1);have y2:=fz2 (i*4+2);have y3:=fz2 (i*4+3);simp only[zcl,iL,iM]at p1 p2 p3;have ho3:=kK ho2 (show w.heap.size≤_ from bK hbr.o.size (by simp));clear ho2 f0 f1 f2 f3 gg hc2 fz2 hb2 MS hb1;obtain⟨OE,a6I,jW,EO⟩:=aH hown2 ZL hbw ho3;clear hown2 ZL hbw ho3
   go_wp2_with fail
   go_roundw
   case rel=>
    refine⟨i+1,zs'.set i ((y,t,k,a6,xn,c6),d),by omega,by go_num,by rw[List.length_set];exact hlz,aA ?_,aA (fun j hj=>?_),aA (fun j hj=>?_),aA ?_,aA ?_⟩
    ·rw[←aHS (by omega) hz1'.o];exact aAY OE.o _ _ _ _ _ _
    ·by_cases hji:j=i
     ·subst hji;rw[yZ (by omega)];exact Ow.aPR (show Ow w.heap.size w2 ((y,t,k,a6,xn,c6),d)from EO.o) OE.o _ _ _ _ _ _
     ·rw[getD_set_ne (fun e=>hji e.symm)];exact Ow.aPR (a6I.o j (by omega)) OE.o _ _ _ _ _ _
    ·rw[getD_set_ne (by omega)];exact hrest.o j (by omega)
    ·rw[←htag.o,List.map_set];apply gH (by simp);intro j h1 h2;by_cases hji:i=j
     ·subst hji;have h3:zs'[i]=((y,t,k,xa,xn,xc),d):=by
       have:=hz1'.o;rwa [aV,aX (by omega)]at this
      simp[h3,tag]
     ·simp[List.getElem_set_ne hji]
    ·exact((jW.o.setCell (p:=⟨g,i*4+1,none⟩) hBg _).setCell (p:=⟨g,i*4+2,none⟩) hBg _).setCell (p:=⟨g,i*4+3,none⟩) hBg _
   case measure=>simp[intOf];omega
  ·obtain rfl:i=n:=by omega
   have hd:decide ((i:Int)<(i:Int))=false:=by simp
   go_wp2;go_ret;refine⟨_,_,zs',rfl,⟨hown.o,fun z hz=>?_⟩,htag.o,hbr.o⟩;obtain⟨j,hj,rfl⟩:=fI hz;have:=hdone.o j (by omega);rwa [aV,aX hj]at this
theorem aLA (a:Option Addr) (n c:Nat) (zs:List uM) (t:Int) (w:World) (hs:Tr w a n c zs) (hr:∀i,i+1<n→key zs i<key zs (i+1)) (hl:n≤1000000) (hd:∀z∈zs,z.1.2.2.2.2.1≤1000000):
  Calls Tryz.prog 137 #[.slice a n c,.int .i64 t] w fun e w'=>∃(k:Nat) (y2 y3:Int) (a':Option Addr) (n' c':Nat) (d:List Int),Pos zs t k∧e= .returned (.tuple #[.agg #[.int .i64 y2,.int .i64 y3,.slice a' n' c'],.bool (TV zs t k)])∧
   w'.ownsRow w.heap.size 5 1 (.slice a' n' c') n' (ints .u8 d)∧((y2,y3,d)=if TV zs t k=true then(tag (zs.getD k rA)).2 else(0,0, []))∧Below w.heap.size w w':=by
 have hzl:=hs.len;have hb0:=aD w (.cells #[.int .i64 0,.int .i64 0,.slice none 0 0] 72);have hB:=aF7 a n c zs t _ (hs.mono hb0) hr hl;obtain⟨hB',hs',hd',mV,oU⟩:=aI hB hs hd hzl hb0;clear hB hs hd hzl hb0;go_enter Tryz.func137,Tryz.ntmps137;go_wp2_with fail
 refine hB'.o.mono ?_;rintro e w1 ⟨k,hp,rfl,hb⟩;have hb1:=oU.o.tm hb;have b0:jJ w1 w.heap.size 72 #[.int .i64 0,.int .i64 0,.slice none 0 0]:=jJ.late (mF _ _) hb;cases his:TV zs t k with
 |false=>
  have p0:w1.cell? ⟨w.heap.size,0,none⟩=some (.int .i64 0):=b0.cell rfl;have p1:w1.cell? ⟨w.heap.size,1,none⟩=some (.int .i64 0):=b0.cell rfl;have p2:w1.cell? ⟨w.heap.size,2,none⟩=some (.slice none 0 0):=b0.cell rfl;have y0:=b0.frozen 0;have y1:=b0.frozen 1;have y2:=b0.frozen 2;obtain⟨hp',hb',hb1',b0',ZM⟩:=aI hp hb hb1 b0 his;clear hp hb hb1 b0 his;go_wp2_with fail
  refine bodyPost_ret (jL rfl _ _ w.heap.size 72 #[.int .i64 0,.int .i64 0,.slice none 0 0] _ rfl (b0'.o.xK _ _ _) Tryz.underlying72 rfl (by kernel_rfl)) rfl ?_;exact⟨k,0,0,none,0,0, [],hp'.o,by rw[ZM.o];rfl,kC _ _ _ _,by rw[ZM.o];rfl,kM hb1'.o (aU _) _ _ _⟩
 |true=>
  have hkn:k<n:=by
   have:=his;unfold TV at this;simp only[bF,decide_eq_true_eq]at this;rw[←mV.o];exact this.1
  obtain⟨b,o,rfl,hblt,f0,f1,f2,f3,hrd⟩:=(hs'.o.mono hb1).at hkn;have hdn:=hd'.o _ (CJ (zs:=zs) (i:=k) (by rw[mV.o];exact hkn));obtain⟨⟨⟨y,t2,k2,xa,xn,xc⟩,d⟩,hz⟩:∃z,zs.getD k rA=z:=⟨_,rfl⟩;rw[hz]at f0 f1 f2 f3 hrd hdn;change Sl w1 xa xn xc 1 (ints .u8 d)at hrd
  change xn≤1000000 at hdn
  simp only at f0 f1 f2 f3;obtain⟨hp',hb',hb1',b0',ZM,hz',a4J⟩:=aK hp hb hb1 b0 his hz hrd;clear hp hb hb1 b0 his hz hrd;go_wp2_with fail
  refine(ZK t2 k2 xa xn xc d _ a4J.o hdn).mono ?_;rintro e w2 ⟨a6,c6,rfl,ho2,hb2⟩;have MS:=hb1'.o.tm hb2;have b0:=b0'.o.late hb2;have p0:w2.cell? ⟨w.heap.size,0,none⟩=some (.int .i64 0):=b0.cell rfl;have p1:w2.cell? ⟨w.heap.size,1,none⟩=some (.int .i64 0):=b0.cell rfl;have p2:w2.cell? ⟨w.heap.size,2,none⟩=some (.slice none 0 0):=b0.cell rfl;have y0:=b0.frozen 0;have y1:=b0.frozen 1;have y2:=b0.frozen 2;have hlt:=b0'.o.lt;clear b0';obtain⟨a3F,hb2',b0',ED⟩:=aH MS hb2 b0 ho2;clear MS hb2 b0 ho2;go_wp2_with fail
  refine bodyPost_ret (jL rfl _ _ w.heap.size 72 #[.int .i64 t2,.int .i64 k2,.slice a6 xn c6] _ rfl (b0'.o.xK _ _ _) Tryz.underlying72 rfl (by kernel_rfl)) rfl ?_;exact⟨k,t2,k2,a6,xn,c6,d,hp'.o,by rw[ZM.o];rfl,kK (J5 ED.o hlt _ _ _) (iZ hlt),by rw[ZM.o,hz'.o];rfl,kM a3F.o (aU _) _ _ _⟩
def z8 (ts:List Tg) (x:Tg):List Tg:=ts.takeWhile (fun y=>decide (y.1<x.1))++x::ts.filter (fun y=>decide (x.1<y.1))
def qL (ts:List Tg) (t:Int):List Tg:=ts.filter (fun y=>decide (y.1≠t))
theorem a6J {zs:List uM} {i:Nat} (hi:i<zs.length):(zs[i]).1.1=key zs i:=by
 unfold key;rw[aV,aX hi];rfl
theorem FI {zs:List uM} {t:Int} {k:Nat} (hp:Pos zs t k):∀y∈(zs.map tag).take k,y.1<t:=fun y hy=>by
 rw[←iH]at hy;obtain⟨z,hz,rfl⟩:=cB.1 hy;obtain⟨j,hj,rfl⟩:=fI hz;rw[eO]at hj;have:=hp.lo j (by omega);rw[←a6J (by omega)]at this;simpa [tag] using this
theorem aQ9 {zs:List uM} {t:Int} {k:Nat} (hp:Pos zs t k):∀y∈(zs.map tag).drop k,t≤y.1:=fun y hy=>by
 rw[←List.map_drop]at hy;obtain⟨z,hz,rfl⟩:=cB.1 hy;obtain⟨j,hj,rfl⟩:=fI hz;rw[fH]at hj;have:=hp.hi (k+j) (by omega) (by omega);rw[←a6J (by omega)]at this;simpa [tag] using this
theorem ZN {zs:List uM} {t:Int} {k:Nat} (hr:∀i,i+1<zs.length→key zs i<key zs (i+1)) (hp:Pos zs t k):∀y∈(zs.map tag).drop (k+1),t<y.1:=fun y hy=>by
 rw[←List.map_drop]at hy;obtain⟨z,hz,rfl⟩:=cB.1 hy;obtain⟨j,hj,rfl⟩:=fI hz;rw[fH]at hj;have h1:=hp.hi k (aU _) (by omega);have h2:=X5 hr (show k<k+1+j by omega) (by omega);rw[←a6J (i:=k+1+j) (by omega)]at h2;have h3:(tag ((zs.drop (k+1))[j])).1=(zs[k+1+j]'(by omega)).1.1:=by simp[tag]
 omega
theorem KF {zs:List uM} {t:Int} {k:Nat} (h:TV zs t k=true):k<zs.length∧key zs k=t:=by
 unfold TV at h;simpa using h
theorem R8 {zs:List uM} {k:Nat} (h:k<zs.length):(zs.map tag).drop k=tag (zs.getD k rA)::(zs.map tag).drop (k+1):=by
 rw[List.drop_eq_getElem_cons (by simpa using h),fD,aV,aX h];rfl
theorem TW {zs:List uM} {t:Int} {k:Nat} (hp:Pos zs t k) (hr:∀i,i+1<zs.length→key zs i<key zs (i+1)) (h:TV zs t k=false):∀y∈(zs.map tag).drop k,t<y.1:=fun y hy=>by
 by_cases hk:k<zs.length
 ·rw[R8 hk]at hy;rcases bQ.1 hy with rfl|hy
  ·have h1:=hp.hi k (aU _) hk;have h2:key zs k≠t:=fun e=>by unfold TV at h;simp[hk,e]at h
   show t<key zs k
   omega
  ·exact ZN hr hp y hy
 ·rw[gK (by simp;omega)]at hy;cases hy
theorem aQA {l:List Tg} {k:Nat} {p:Tg→Bool} (h1:∀y∈l.take k,p y=true) (h2:∀y∈l.drop k,p y=false):l.takeWhile p=l.take k:=by
 conv=>lhs;rw[←eY k l]
 rw[List.takeWhile_append_of_pos h1];cases hd:l.drop k with
 |nil=>simp
 |cons y r=>rw[List.takeWhile_cons_of_neg (by rw[h2 y (by rw[hd];exact bJ)];simp)];simp
theorem TY {l:List Tg} {k:Nat} {p:Tg→Bool}:l.filter p=(l.take k).filter p++(l.drop k).filter p:=by rw[←eF,eY]
theorem R9 {l:List Tg} {p:Tg→Bool} (h:∀y∈l,p y=false):l.filter p= []:=List.filter_eq_nil_iff.2 fun y hy=>by simp[h y hy]
theorem AX {l:List Tg} {p:Tg→Bool} (h:∀y∈l,p y=true):l.filter p=l:=List.filter_eq_self.2 h
theorem b6M {zs:List uM} {x:Tg} {k:Nat} (hp:Pos zs x.1 k) (hr:∀i,i+1<zs.length→key zs i<key zs (i+1)):
  z8 (zs.map tag) x=(zs.map tag).take k++x::(zs.map tag).drop (if TV zs x.1 k=true then k+1 else k):=by
 unfold z8;rw[aQA (k:=k) (fun y hy=>by simpa using FI hp y hy) (fun y hy=>by have:=aQ9 hp y hy;simpa using this),
  TY (k:=k),R9 (fun y hy=>by have:=FI hp y hy;simp;omega),eG]
 congr 2
 by_cases hb:TV zs x.1 k=true
 ·obtain⟨h1,h2⟩:=KF hb;rw[if_pos hb,R8 h1,dJ (by have h3:(tag (zs.getD k rA)).1=x.1:=h2;rw[h3];simp)];exact AX fun y hy=>by have:=ZN hr hp y hy;simpa using this
 ·rw[if_neg hb];exact AX fun y hy=>by have:=TW hp hr (by simpa using hb) y hy;simpa using this
theorem drop_at {zs:List uM} {t:Int} {k:Nat} (hp:Pos zs t k) (hr:∀i,i+1<zs.length→key zs i<key zs (i+1)):
  qL (zs.map tag) t=if TV zs t k=true then(zs.map tag).take k++(zs.map tag).drop (k+1)else zs.map tag:=by
 unfold qL;by_cases hb:TV zs t k=true
 ·obtain⟨h1,h2⟩:=KF hb;rw[if_pos hb,TY (k:=k),AX (fun y hy=>by have:=FI hp y hy;simp;omega),R8 h1,dJ (by have h3:(tag (zs.getD k rA)).1=t:=h2;rw[h3];simp)];congr 1
  exact AX fun y hy=>by have:=ZN hr hp y hy;simp;omega
 ·rw[if_neg hb,TY (k:=k),AX (fun y hy=>by have:=FI hp y hy;simp;omega),AX (fun y hy=>by have:=TW hp hr (by simpa using hb) y hy;simp;omega),eY]
theorem X6 {zs zs':List uM} (h:zs'.map tag=zs.map tag) (i:Nat):key zs' i=key zs i:=by
 have hl:zs'.length=zs.length:=by simpa using congrArg List.length h
 unfold key;by_cases hi:i<zs.length
 ·have h1:(zs'.map tag)[i]'(by simp;omega)=(zs.map tag)[i]'(by simp;omega):=by simp only[h]
  rw[aV,aV,aX hi,aX (by omega:i<zs'.length)];simp only[fD,tag,Prod.mk.injEq]at h1;exact h1.1
 ·rw[aV,fZ (by omega),aV,fZ (by omega)]
theorem aF8 {zs:List uM} {k:Nat} (h:k<zs.length) (z:uM):(zs.set k z).map tag=(zs.map tag).take k++tag z::(zs.map tag).drop (k+1):=by
 rw[List.map_set,List.set_eq_take_append_cons_drop,if_pos (by simpa using h)]
theorem To.lF {B:Nat} {W:World} {a:Option Addr} {n c:Nat} {zs:List uM} (h:To B W a n c zs) {g:Nat} (hg:g<B) (i:Nat) (u:Value):To B (W.setCell ⟨g,i,none⟩ u) a n c zs:=
 ⟨kQ h.row hg i u,fun z hz=>kQ (h.each z hz) hg i u⟩
theorem To.aF9 {B:Nat} {W:World} {a:Option Addr} {n c:Nat} {zs:List uM} (h:To B W a n c zs) {g:Nat} (hg:g<B) (i j k:Nat) (x y u:Value):
  To B (((W.setCell ⟨g,i,none⟩ x).setCell ⟨g,j,none⟩ y).setCell ⟨g,k,none⟩ u) a n c zs:=((h.lF hg i x).lF hg j y).lF hg k u
theorem aFA {w:World} {B:Nat} {E:TypeId} {sz:Nat} {v:Value} {n:Nat} {xs:List Value} (h:w.ownsRow B E sz v n xs) {g:Nat} (hg:g<B) (i j k:Nat) (x y u:Value):
  (((w.setCell ⟨g,i,none⟩ x).setCell ⟨g,j,none⟩ y).setCell ⟨g,k,none⟩ u).ownsRow B E sz v n xs:=kQ (kQ (kQ h hg i x) hg j y) hg k u
theorem To.put {B:Nat} {W:World} {g n c:Nat} {zs:List uM} (h:To B W (some ⟨g,0,none⟩) n c zs) {k:Nat} (hk:k<zs.length) {y t q:Int} {a:Option Addr} {m p:Nat} {d:List Int} (hx:Ow B W ((y,t,q,a,m,p),d)):
  To B ((((W.setCell ⟨g,k*4,none⟩ (.int .i64 y)).setCell ⟨g,k*4+1,none⟩ (.int .i64 t)).setCell ⟨g,k*4+2,none⟩ (.int .i64 q)).setCell ⟨g,k*4+3,none⟩ (.slice a m p)) (some ⟨g,0,none⟩) n c (zs.set k ((y,t,q,a,m,p),d)):=by
 refine⟨by rw[←aXO hk];exact aAY (AJ h.row _ _) _ _ _ _ _ _,fun z hz=>?_⟩;have hk':∀z,Ow B W z→Ow B ((((W.setCell ⟨g,k*4,none⟩ (.int .i64 y)).setCell ⟨g,k*4+1,none⟩ (.int .i64 t)).setCell ⟨g,k*4+2,none⟩ (.int .i64 q)).setCell ⟨g,k*4+3,none⟩ (.slice a m p)) z:=fun z hz=>(hz.put h.row _ _).aPR (AJ h.row _ _) _ _ _ _ _ _;rcases List.mem_or_eq_of_mem_set hz with hz|rfl
 ·exact hk' z (h.each z hz)
 ·exact hk' _ hx
theorem To.ins {B:Nat} {W W':World} {a a':Option Addr} {n c c':Nat} {zs:List uM} (h:To B W a n c zs) {z:uM} (hz:Ow B W z) {k:Nat} (hr:W'.ownsRow B 74 4 (.slice a' (n+1) c') (n+1) (zc (zs.take k++z::zs.drop k))) (hg:W.grownBy W' (Value.slice a n c).ownBlock):
  To B W' a' (n+1) c' (zs.take k++z::zs.drop k):=⟨hr,fun u hu=>by
 rcases bH.1 hu with hu|hu
 ·exact(h.each u (fO hu)).grown h.row hg
 ·rcases bQ.1 hu with rfl|hu
  ·exact hz.grown h.row hg
  ·exact(h.each u (fF hu)).grown h.row hg⟩
theorem To.del {B:Nat} {W W':World} {a a':Option Addr} {n c c':Nat} {zs:List uM} (h:To B W a n c zs) {k:Nat} (hr:W'.ownsRow B 74 4 (.slice a' (n - 1) c') (n - 1) (zc (zs.take k++zs.drop (k+1)))) (hg:W.grownBy W' (Value.slice a n c).ownBlock):
  To B W' a' (n - 1) c' (zs.take k++zs.drop (k+1)):=⟨hr,fun u hu=>by
 rcases bH.1 hu with hu|hu
 ·exact(h.each u (fO hu)).grown h.row hg
 ·exact(h.each u (fF hu)).grown h.row hg⟩
theorem aQB (a:Option Addr) (n c:Nat) (zs:List uM) (t:Int) (w:World) (hs:Tr w a n c zs) (hr:∀i,i+1<n→key zs i<key zs (i+1)) (hl:n≤1000000) (hd:∀z∈zs,z.1.2.2.2.2.1≤1000000):
  Calls Tryz.prog 138 #[.slice a n c,.int .i64 t] w fun e w'=>∃a' n' c' zs',e= .returned (.slice a' n' c')∧To w.heap.size w' a' n' c' zs'∧zs'.map tag=qL (zs.map tag) t∧Below w.heap.size w w':=by
 have hzl:=hs.len;have hO:=a3E a n c zs w hs hl hd;obtain⟨UR,hs',hd',mV,hr'⟩:=aI hO hs hd hzl hr;clear hO hs hd hzl hr;go_enter Tryz.func138,Tryz.ntmps138;go_wp2_with fail
 refine UR.o.mono ?_;rintro e w1 ⟨a1,c1,zs1,rfl,ho1,hm1,hb1⟩;have hr1:∀i,i+1<n→key zs1 i<key zs1 (i+1):=fun i hi=>by rw[X6 hm1,X6 hm1];exact hr'.o i hi
 have hB:=aF7 a1 n c1 zs1 t w1 ho1.tr hr1 hl;obtain⟨a8K,G6,hb1',hB',hr1'⟩:=aI ho1 hm1 hb1 hB hr1;clear ho1 hm1 hb1 hB hr1;go_wp2_with fail
 refine hB'.o.mono ?_;rintro e w2 ⟨k,hp,rfl,hb2⟩;have ho2:=a8K.o.later hb2;have MS:=hb1'.o.tm hb2;clear hb2;cases his:TV zs1 t k with
 |false=>
  obtain⟨hp',ZM,ED,a3F⟩:=aH hp his ho2 MS;clear hp his ho2 MS;go_wp2_with fail
  go_ret;exact⟨_,_,_,zs1,rfl,ED.o,by rw[←G6.o,drop_at hp'.o (by rw[ED.o.len];exact hr1'.o),ZM.o];rfl,a3F.o⟩
 |true=>
  have hkn:k<n:=by have:=(KF his).1;rw[ho2.len]at this;exact this
  have hD:=aF3 w.heap.size a1 n c1 (zc zs1) k ((k:Int)+1) w2 ho2.row hkn rfl aF6 hl;have hw1:IntKind.i64.wrap ((k:Int)+1)=k+1:=by rw[aY];omega
  obtain⟨hp',ZM,ED,a3F,hD'⟩:=aI hp his ho2 MS hD;clear hp his ho2 MS hD;go_wp2_with fail
  refine hD'.o.mono ?_;rintro e w3 ⟨a3,c3,rfl,ho3,hg3⟩;obtain⟨EO,hg3'⟩:=aF ho3 hg3;clear ho3 hg3;go_wp2_with fail
  go_ret;have h3:=EO.o;rw[a6G,a6H,←a3D]at h3;refine⟨_,_,_,_,rfl,ED.o.del h3 hg3'.o,?_,below_grown a3F.o hg3'.o a3F.o.size ED.o.row⟩;rw[←G6.o,drop_at hp'.o (by rw[ED.o.len];exact hr1'.o),if_pos ZM.o,dL,iH,List.map_drop]
theorem aXP (a:Option Addr) (n c:Nat) (zs:List uM) (x1 x2 x3:Int) (xa:Option Addr) (xn xc:Nat) (d:List Int) (w:World) (hs:Tr w a n c zs) (hr:∀i,i+1<n→key zs i<key zs (i+1)) (hl:n≤1000000 - 1) (hd:∀z∈zs,z.1.2.2.2.2.1≤1000000)
  (hx:Sl w xa xn xc 1 (ints .u8 d)) (hxn:xn≤1000000):
  Calls Tryz.prog 121 #[.slice a n c,.agg #[.int .i64 x1,.int .i64 x2,.int .i64 x3,.slice xa xn xc]] w fun e w'=>∃a' n' c' zs',e= .returned (.slice a' n' c')∧To w.heap.size w' a' n' c' zs'∧zs'.map tag=z8 (zs.map tag) (x1,x2,x3,d)∧Below w.heap.size w w':=by
 have hzl:=hs.len;have hb0:=aD w (.cells #[.int .i64 x1,.int .i64 x2,.int .i64 x3,.slice xa xn xc] 74);have hO:=a3E a n c zs _ (hs.mono hb0) (by omega) hd;obtain⟨UR,hs',hd',mV,hr',hx',oU⟩:=aK hO hs hd hzl hr hx hb0;clear hO hs hd hzl hr hx hb0;go_enter Tryz.func121,Tryz.ntmps121;go_wp2_with fail
 refine UR.o.mono ?_;rintro e w1 ⟨a1,c1,zs1,rfl,ho1,hm1,hb1⟩;have hr1:∀i,i+1<n→key zs1 i<key zs1 (i+1):=fun i hi=>by rw[X6 hm1,X6 hm1];exact hr'.o i hi
 have b0:jJ w1 w.heap.size 74 #[.int .i64 x1,.int .i64 x2,.int .i64 x3,.slice xa xn xc]:=jJ.late (mF _ _) hb1;have wI:=oU.o.tm hb1;have hX:=ZK x2 x3 xa xn xc d w1 (hx'.o.mono wI) hxn;have p1:w1.cell? ⟨w.heap.size,1,none⟩=some (.int .i64 x2):=b0.cell rfl;have p2:w1.cell? ⟨w.heap.size,2,none⟩=some (.int .i64 x3):=b0.cell rfl;have p3:w1.cell? ⟨w.heap.size,3,none⟩=some (.slice xa xn xc):=b0.cell rfl;simp only[World.size_alloc]at ho1;clear hb1;obtain⟨a8K,G6,hr1',b0',qC,hX'⟩:=aJ ho1 hm1 hr1 b0 wI hX;clear ho1 hm1 hr1 b0 wI hX;go_wp2_with fail
 refine hX'.o.mono ?_;rintro e w2 ⟨a2,c2,rfl,ho2,hb2⟩;have RA:=qC.o.tm hb2;have b1:=b0'.o.late hb2;have ht2:=a8K.o.later hb2;have hlt:w.heap.size<w1.heap.size:=b0'.o.lt;have q0:w2.cell? ⟨w.heap.size,0,none⟩=some (.int .i64 x1):=b1.cell rfl;have q1:w2.cell? ⟨w.heap.size,1,none⟩=some (.int .i64 x2):=b1.cell rfl;have q2:w2.cell? ⟨w.heap.size,2,none⟩=some (.int .i64 x3):=b1.cell rfl;have q3:w2.cell? ⟨w.heap.size,3,none⟩=some (.slice xa xn xc):=b1.cell rfl;have y1:=b1.frozen 1;have y2:=b1.frozen 2;have y3:=b1.frozen 3;clear p1 p2 p3 hb2;obtain⟨ED,rW,b1',b6N⟩:=aH ho2 RA b1 ht2;clear ho2 RA b1 ht2;go_wp2_with fail
 have hT3:=b6N.o.aF9 (show w.heap.size<w.heap.size+1 by omega) 1 2 3 (.int .i64 x2) (.int .i64 x3) (.slice a2 xn c2);have hX3:=aFA ED.o hlt 1 2 3 (.int .i64 x2) (.int .i64 x3) (.slice a2 xn c2);have hB3:=((rW.o.setCell (p:=⟨w.heap.size,1,none⟩) (aU _) (.int .i64 x2)).setCell (p:=⟨w.heap.size,2,none⟩) (aU _) (.int .i64 x3)).setCell (p:=⟨w.heap.size,3,none⟩) (aU _) (.slice a2 xn c2);have b3:=((b1'.o.set 1 (.int .i64 x2)).set 2 (.int .i64 x3)).set 3 (.slice a2 xn c2);clear q0 q1 q2 q3 y1 y2 y3;generalize ((w2.setCell ⟨w.heap.size,1,none⟩ (.int .i64 x2)).setCell ⟨w.heap.size,2,none⟩ (.int .i64 x3)).setCell ⟨w.heap.size,3,none⟩ (.slice a2 xn c2)=w3 at*;refine(aF7 a1 n c1 zs1 x1 w3 hT3.tr hr1'.o (by omega)).mono ?_;rintro e w4 ⟨k,hp,rfl,hb4⟩;have hT4:=(hT3.later hb4).le (show w.heap.size≤w.heap.size+1 by omega);have hX4:=kK (jY hX3 hb4) (iZ hlt);have hB4:=hB3.tm hb4;have b4:jJ w4 w.heap.size 74 #[.int .i64 x1,.int .i64 x2,.int .i64 x3,.slice a2 xn c2]:=b3.late hb4;have q0:w4.cell? ⟨w.heap.size,0,none⟩=some (.int .i64 x1):=b4.cell rfl;have q1:w4.cell? ⟨w.heap.size,1,none⟩=some (.int .i64 x2):=b4.cell rfl;have q2:w4.cell? ⟨w.heap.size,2,none⟩=some (.int .i64 x3):=b4.cell rfl;have q3:w4.cell? ⟨w.heap.size,3,none⟩=some (.slice a2 xn c2):=b4.cell rfl;have hlen:zs1.length=n:=hT4.len;have hat:=b6M (x:=(x1,x2,x3,d)) hp (by rw[hlen];exact hr1'.o);have hle:=hp.le;cases his:TV zs1 x1 k with
 |true=>
  have hkn:k<n:=by have:=(KF his).1;omega
  rw[his,if_pos rfl]at hat;obtain⟨g,rfl,hBg,bDW,fz,hc⟩:=XE hT4.row hkn;have gg:=fun j hj=>KD (zs:=zs1) (i:=k) (j:=j) (by omega) hj;have f0:=hc _ _ (gg 0 (by omega));have f1:=hc _ _ (gg 1 (by omega));have f2:=hc _ _ (gg 2 (by omega));have f3:=hc _ _ (gg 3 (by omega));rw[cK]at f0;have y0:=fz (k*4);have y1:=fz (k*4+1);have y2:=fz (k*4+2);have y3:=fz (k*4+3);clear gg hc fz b3 hb4 hT3 hX3 hB3;obtain⟨hp',ZM,aLB,b6O,aLC,b4',hat'⟩:=aK hp his hT4 hX4 hB4 b4 hat;clear hp his hT4 hX4 hB4 b4 hat;go_wp2_with fail
  go_ret;refine⟨_,_,_,_,rfl,aLB.o.put (by omega) (show Ow w.heap.size w4 ((x1,x2,x3,a2,xn,c2),d)from b6O.o),?_,(((aLC.o.setCell (p:=⟨g,k*4,none⟩) hBg _).setCell (p:=⟨g,k*4+1,none⟩) hBg _).setCell (p:=⟨g,k*4+2,none⟩) hBg _).setCell (p:=⟨g,k*4+3,none⟩) hBg _⟩;rw[←G6.o,hat'.o,aF8 (by omega)];rfl
 |false=>
  rw[his,if_neg (by simp)]at hat;clear b3 hb4 hT3 hX3 hB3;obtain⟨hp',ZM,aLB,b6O,aLC,b4',hat'⟩:=aK hp his hT4 hX4 hB4 b4 hat;clear hp his hT4 hX4 hB4 b4 hat;go_wp2_with fail
  have ha:=aD w4 (.cells #[.int .i64 x1,.int .i64 x2,.int .i64 x3,.slice a2 xn c2] 74);have hT5:=aLB.o.later ha;have hX5:=jY b6O.o ha;have XQ:=aLC.o.tm ha;have hne:(Value.slice a1 n c1).ownBlock≠some w4.heap.size:=fun e=>by
   have:=(aLB.o.row.lt _ e).2;omega
  have bn:jJ (w4.alloc (.cells #[.int .i64 x1,.int .i64 x2,.int .i64 x3,.slice a2 xn c2] 74)) w4.heap.size 74 #[.int .i64 x1,.int .i64 x2,.int .i64 x3,.slice a2 xn c2]:=mF _ _;generalize w4.alloc (.cells #[.int .i64 x1,.int .i64 x2,.int .i64 x3,.slice a2 xn c2] 74)=w5 at*;refine(aF2 w.heap.size a1 n c1 (zc zs1) k w4.heap.size _ w5 hT5.row XQ.size (by omega) (by omega) bn rfl hne aF6 (by intro v hv;simp at hv;rcases hv with rfl|rfl|rfl|rfl <;> rfl)).mono ?_;rintro e w6 ⟨a6,c6,rfl,ho6,rQ⟩;have hz:(#[.int .i64 x1,.int .i64 x2,.int .i64 x3,.slice a2 xn c2]:Array Value).toList=zcl ((x1,x2,x3,a2,xn,c2),d):=rfl;rw[hz,a6G,a6H,dB,←xE,←a3D]at ho6;have hT6:=hT5.ins (show Ow w.heap.size w5 ((x1,x2,x3,a2,xn,c2),d)from hX5) ho6 rQ;have SH:=below_grown XQ rQ XQ.size hT5.row;clear ho6 rQ hT5 hX5 XQ bn;obtain⟨aAZ,b6P⟩:=aF hT6 SH;clear hT6 SH;go_wp2_with fail
  go_ret;refine⟨_,_,_,_,rfl,aAZ.o,?_,b6P.o⟩;rw[←G6.o,hat'.o,dL,aS,iH,List.map_drop];rfl
def nO (ts:List Tg) (t:Int):Bool×Int×Int×List Int:=match ts.find? (fun y=>decide (y.1=t))with
 |some y=>(true,y.2)
 |none=>(false,0,0, [])
theorem M8 {ts:List Tg} {t:Int} (h:∀y∈ts,y.1≠t):nO ts t=(false,0,0, []):=by
 unfold nO;rw[List.find?_eq_none.2 (fun y hy=>by simp[h y hy])]
theorem U0 {A C:List Tg} {t:Int} {y:Tg} (h:∀y∈A,y.1≠t) (hy:y.1=t):nO (A++y::C) t=(true,y.2):=by
 unfold nO;rw[List.find?_append,List.find?_eq_none.2 (fun y hy=>by simp[h y hy]),List.find?_cons_of_pos (by simp[hy])];rfl
theorem aQC {zs:List uM} {t:Int} {k:Nat} (hp:Pos zs t k) (hr:∀i,i+1<zs.length→key zs i<key zs (i+1)):
  nO (zs.map tag) t=if TV zs t k=true then(true,(tag (zs.getD k rA)).2)else(false,0,0, []):=by
 by_cases hb:TV zs t k=true
 ·obtain⟨h1,h2⟩:=KF hb;rw[if_pos hb,←eY k (zs.map tag),R8 h1];exact U0 (fun y hy=>by have:=FI hp y hy;omega) h2
 ·rw[if_neg hb];refine M8 fun y hy=>?_;rw[←eY k (zs.map tag)]at hy;rcases bH.1 hy with hy|hy
  ·have:=FI hp y hy;omega
  ·have:=TW hp hr (by simpa using hb) y hy;omega
def OG (ts:List Tg):Bool:=decide (∀i,i<ts.length - 1→(ts.getD i (0,0,0, [])).1<(ts.getD (i+1) (0,0,0, [])).1)
theorem OH {ts:List Tg}:OG ts=true↔∀i,i+1<ts.length→(ts.getD i (0,0,0, [])).1<(ts.getD (i+1) (0,0,0, [])).1:=by
 unfold OG;rw[decide_eq_true_iff];exact⟨fun h i hi=>h i (by omega),fun h i hi=>h i (by omega)⟩
theorem aLD {ts:List Tg} {i:Nat} (hi:i+1<ts.length) (h:(ts.getD (i+1) (0,0,0, [])).1≤(ts.getD i (0,0,0, [])).1):OG ts=false:=by
 cases hb:OG ts
 ·rfl
 ·have:=OH.1 hb i hi;omega
def qV (dir:Int) (ts:List Tg):Bool:=ts.all (KC dir)&&OG ts&&decide (0≤dir)&&decide (dir≤5)
theorem aQD {ts:List Tg} {n k:Nat} (hl:ts.length=n) (hk:k<n):ts.getD k (0,0,0, [])∈ts:=by
 rw[aV,aX (by omega)];exact bL _
theorem b6Q {ts:List Tg} {n:Nat} {dir:Int} (hl:ts.length=n) (h:∀j,j<n→KC dir (ts.getD j (0,0,0, []))=true):ts.all (KC dir)=true:=by
 rw[cZ];intro x hx;obtain⟨i,hi,rfl⟩:=gV.1 hx;have:=h i (by omega);rwa [aV,aX hi]at this
theorem b6R {ts:List Tg} {n k:Nat} {dir:Int} (hl:ts.length=n) (hk:k<n) (h:KC dir (ts.getD k (0,0,0, []))=false):ts.all (KC dir)=false:=by
 cases hb:ts.all (KC dir)
 ·rfl
 ·have:=cZ.1 hb _ (aQD hl hk);rw[h]at this;cases this
theorem yJ (dir:Int) (a:Option Addr) (n c:Nat) (ts:List Tg) (w:World) (h:Ts w a n c ts) (hd:(Lit.int .i64 dir).wf=true) (hok:∀x∈ts,a1P x):
  Calls Tryz.prog 69 #[.int .i64 dir,.slice a n c] w fun e w'=>e= .returned (.bool (qV dir ts))∧Below w.heap.size w w':=by
 have hm:=h.max;have hl:=h.len;obtain⟨H,Hl,Hd,Hok⟩:=aH h hl hd hok;clear h hl hd hok;obtain⟨r,hr⟩:=aC (qV dir ts);rw[hr];have Hr:=aA hr;clear hr;go_enter Tryz.func69,Tryz.ntmps69;go_wp2_with fail
 refine(aL6 w).mono ?_;rintro e w1 ⟨mb,rfl,hmb,hr1,hb1⟩;obtain⟨Hr1,HB1⟩:=aF hr1 hb1;clear hr1 hb1 hmb;go_wp2;go_loopw [11] (fun i wr=>∃k:Nat,k≤n∧i= .int .i64 k∧Hid (∀j,j<k→KC dir (ts.getD j (0,0,0, []))=true)∧Hid (∀j,j+1<k→(ts.getD j (0,0,0, [])).1<(ts.getD (j+1) (0,0,0, [])).1)∧Hid (Below w1.heap.size w1 wr)) (fun i _=>n - (intOf i).toNat)
 case atStart=>exact⟨0,by omega,rfl,aA (fun j hj=>by omega),aA (fun j hj=>by omega),aA (aW _ _)⟩
 case round=>
  obtain⟨k,hk,rfl,hall,hris,hb⟩:=hrel;have HBw:=aA (HB1.o.tm hb.o);by_cases hlt:k<n
  ·obtain⟨b,o,a1,n1,c1,rfl,hbx,e0,e1,e2,e3,hs⟩:=(H.o.mono HBw.o).at hlt;obtain⟨⟨tg,ty,ct,d⟩,hx⟩:∃x,ts.getD k (0,0,0, [])=x:=⟨_,rfl⟩;rw[hx]at e0 e1 e2 hs;simp only at e0 e1 e2 hs;have aE1:a1P (tg,ty,ct,d):=hx▸Hok.o _ (aQD Hl.o hlt);obtain⟨Hx,bNE,Hs⟩:=aG hx aE1 hs;clear hx aE1 hs;obtain⟨m,hmm⟩:=aC (FH dir tg ty ct d);have Hmm:Hid (FH dir tg ty ct d=m):=aA hmm;have bDY:Hid (KC dir (tg,ty,ct,d)=m):=aA hmm;clear hmm;obtain⟨w2,hw2⟩:∃w2,w2=wr.alloc (.cells #[.int .i64 tg,.int .i64 ty,.int .i64 ct,.slice a1 n1 c1] 74):=⟨_,rfl⟩;obtain⟨g,hg⟩:∃g,g=wr.heap.size:=⟨_,rfl⟩;have hb2:Below wr.heap.size wr w2:=by rw[hw2];exact(aW _ _).alloc (aU _) _
   have ht2:KA w2 g tg ty ct a1 n1 c1:=by rw[hg,hw2];exact KA.new ..
   have MS:=hb.o.tm hb2;obtain⟨b6S,Hs2,Hr2⟩:=aG MS (Hs.o.mono hb2) (Hr1.o.mono MS);have HQ:Hid (Below w2.heap.size w2 w2.drew):=aA ((aW _ _).drew);obtain⟨bd,hbd⟩:=aC (decide (0<k)&&decide (tg≤(ts.getD (k - 1) (0,0,0, [])).1)|| !m);have Hbd:=aA hbd;clear hbd;obtain⟨Hkn,Hlt,HDW⟩:=aG hk hlt Hd.o;obtain⟨ok1,ok4⟩:=bNE.o;obtain⟨Htw,Hby⟩:=aF ok1 ok4;clear ok1 ok4;have HC:Hid (Calls Tryz.prog 133 #[.map (some mb),.int .i64 dir,.agg #[.int .i64 tg,.int .i64 ty,.int .i64 ct,.slice a1 n1 c1]] w2.drew fun e w'=>e= .returned (.bool m)∧Below w2.drew.heap.size w2.drew w'):=
    aA (by have:=aQ7 mb dir tg ty ct a1 n1 c1 d w2.drew (Hr2.o.mono HQ.o) (Hs2.o.mono HQ.o) Hby.o Hd.o Htw.o;rwa [Hmm.o]at this)
   go_wp2_with fail
   rw[←hw2,←hg];have hlt2:=ht2.lt;obtain⟨q0,q1,q2,q3,_⟩:=ht2;have Hat:Hid (∀j,j<n→w2.cell? ⟨b,o+j*4,none⟩=some (.int .i64 (ts.getD j (0,0,0, [])).1)):=aA (fun j hj=>by
    obtain⟨b',o',a2,n2,c2,hbb,_,y0,_⟩:=(H.o.mono (HB1.o.tm b6S.o)).at hj;cases hbb
    exact y0)
   clear hw2 hg hb2 MS hb e0 e1 e2 e3;go_cut [11,35]from 11 to 36 (fun u v wx=>u= .int .i64 k∧v= .bool bd∧Below w2.heap.size w2 wx)
   case first=>
    rcases gQ k with hk0|hk0
    ·have f1:decide ((0:Int)<(k:Int))=false:=by simp;omega
     have f2:decide (0<k)=false:=by simp;omega
     have hbm:bd= !m:=by
      have f2:decide (0<k)=false:=by simp;omega
      rw[←Hbd.o,f2];simp
     have Hbm:=aA hbm;clear hk0 hbm hk hlt;refine EA 17 (by kernel_rfl) (by kernel_rfl) _ _ (by simp only[gX,List.take_zero];rfl) (by simp only[List.drop_succ_cons,gG];rfl) ?_;iterate 17 (go_big_quiet_step (fail))
     refine wpQuiet_nil ?_;obtain⟨Hr3,Hs3⟩:=aF (Hr2.o.mono HQ.o) (Hs2.o.mono HQ.o);go_wp2_with fail
     refine HC.o.mono ?_;rintro e w3 ⟨rfl,hb3⟩;have Hb3:=aA (HQ.o.trans hb3);clear hb3;go_wp2_with fail
     go_meet
     exact⟨rfl,by rw[Hbm.o],Hb3.o⟩
    ·obtain⟨k',hk'⟩:∃k':Nat,k'+1=k:=⟨k - 1,by omega⟩;have f1:decide ((0:Int)<(k:Int))=true:=by simp;omega
     have f2:decide (0<k)=true:=by simp;omega
     have wk:IntKind.i64.wrap ((k:Int) - 1)=(k':Int):=by rw[aY];omega
     obtain⟨tp,htp⟩:∃tp,(ts.getD k' (0,0,0, [])).1=tp:=⟨_,rfl⟩;have q4:=Hat.o k' (by omega);rw[htp]at q4;have hlk:(k':Int)<(n:Int):=by omega
     have aJK:k'<n:=by omega
     have hbd:bd=(decide (tg≤tp)|| !m):=by
      have f2:decide (0<k)=true:=by simp;omega
      rw[←Hbd.o,f2,show k - 1=k' by omega,htp];simp
     have bDZ:=aA hbd;clear hk0 hbd hk hlt hk' htp;have hpn:(0:Int)≤(k':Int):=by omega
     by_cases hge:tg≤tp
     ·have g1:decide (tg≤tp)=true:=by simpa using hge
      have hbt:bd=true:=by rw[bDZ.o,g1];rfl
      have Hbt:=aA hbt;clear hbt;refine EA 17 (by kernel_rfl) (by kernel_rfl) _ _ (by simp only[gX,List.take_zero];rfl) (by simp only[List.drop_succ_cons,gG];rfl) ?_;iterate 17 (go_big_quiet_step (fail))
      refine wpQuiet_nil ?_;go_wp2_with fail
      go_meet
      exact⟨rfl,by rw[Hbt.o],HQ.o⟩
     ·have g1:decide (tg≤tp)=false:=by simpa using hge
      have hbt:bd= !m:=by rw[bDZ.o,g1];rfl
      have Hbt:=aA hbt;clear hbt;refine EA 17 (by kernel_rfl) (by kernel_rfl) _ _ (by simp only[gX,List.take_zero];rfl) (by simp only[List.drop_succ_cons,gG];rfl) ?_;iterate 17 (go_big_quiet_step (fail))
      refine wpQuiet_nil ?_;go_wp2_with fail
      refine HC.o.mono ?_;rintro e w3 ⟨rfl,hb3⟩;have Hb3:=aA (HQ.o.trans hb3);clear hb3;go_wp2_with fail
      go_meet
      exact⟨rfl,by rw[Hbt.o],Hb3.o⟩
   case rest=>
    obtain⟨rfl,rfl,hb4⟩:=hcut;rename World=>w4
    have HB4:Hid (Below w1.heap.size w1 w4):=aA (b6S.o.tm hb4);clear hb4;cases bd
    ·have hmt:m=true:=by have:=Hbd.o;simp at this;exact this.2
     have b0L:∀j,j+1<k+1→(ts.getD j (0,0,0, [])).1<(ts.getD (j+1) (0,0,0, [])).1:=fun j hj=>by
      rcases eH (j+1) k with h1|h1
      ·exact hris.o j h1
      ·obtain rfl:k=j+1:=by omega
       have h2:=Hbd.o;rw[Hx.o];simp at h2;have:=h2.1;simpa using this
     have a3G:∀j,j<k+1→KC dir (ts.getD j (0,0,0, []))=true:=fun j hj=>by
      rcases eH j k with h1|h1
      ·exact hall.o j h1
      ·obtain rfl:j=k:=by omega
       rw[Hx.o,bDY.o,hmt]
     obtain⟨bE0,bE5⟩:=aF b0L a3G;clear b0L a3G hmt;go_wp2_with fail
     go_roundw
     case rel=>
      exact⟨k+1,by omega,by go_num,bE5,bE0,HB4⟩
     case measure=>
      simp[intOf];omega
    ·have hf:qV dir ts=false:=by
      unfold qV;cases hmc:m
      ·rw[b6R Hl.o hlt (by rw[Hx.o,bDY.o,hmc])];rfl
      ·have h2:=Hbd.o;rw[hmc]at h2;simp at h2;have hr0:OG ts=false:=aLD (i:=k - 1) (by rw[Hl.o];omega) (by rw[show k - 1+1=k by omega,Hx.o];exact h2.2);rw[hr0];simp
     obtain rfl:r=false:=by rw[←Hr.o,hf]
     clear hf;have HE:=aA (HB1.o.tm HB4.o);go_wp2;go_ret;exact⟨rfl,HE.o⟩
  ·have ha:ts.all (KC dir)=true:=b6Q Hl.o (fun j hj=>hall.o j (by omega));have hri:OG ts=true:=OH.2 (fun i hi=>hris.o i (by rw[Hl.o]at hi;omega));have hr2:r=(decide (0≤dir)&&decide (dir≤5)):=by rw[←Hr.o];unfold qV;rw[ha,hri];simp
   have Hr2:=aA hr2;clear ha hri hr2 hall hris;by_cases t1:0≤dir
   ·by_cases t2:dir<6
    ·obtain rfl:r=true:=by rw[Hr2.o,decide_eq_true t1,decide_eq_true (show dir≤5 by omega)];rfl
     go_wp2;go_ret;exact⟨rfl,HBw.o⟩
    ·obtain rfl:r=false:=by rw[Hr2.o,decide_eq_false (show ¬dir≤5 by omega)];simp
     go_wp2;go_ret;exact⟨BK (by simp;try omega),HBw.o⟩
   ·obtain rfl:r=false:=by rw[Hr2.o,decide_eq_false t1];simp
    go_wp2;go_ret;exact⟨rfl,HBw.o⟩
theorem b6T (w:World):Calls Tryz.prog 188 #[.int .i64 1,.int .i64 1,.int .i64 2] w fun e w'=>∃a c,e= .returned (.tuple #[.slice a 1 c,.bool true])∧Sl w' a 1 c 1 (ints .u8 [1])∧Below w.heap.size w w':=by
 refine(a2C _ _ _ _).mono ?_;rintro e w' ⟨a,m,c,rfl,ho,hb⟩;rw[show kL 1 1 2= [1] by decide]at ho;have hs:=(Sl.jX ho).1;obtain rfl:m=1:=by have:=hs.nV;simpa using this.symm
 exact⟨a,c,by rw[show kX 1 1 2=true by decide],hs,hb⟩
def aFB (dir tag count:Int) (types:List Int):Bool:=(max (xB dir tag).2 0==count)&&(decide (0≤(xB dir tag).2)==decide (0<types.length))&&((xB dir tag).1==types)
def s1:ByteArray:=⟨#[50,48,50,48,58,48,49,58,48,50,32,48,51,58,48,52,58,48,53]⟩
def s2:ByteArray:=⟨#[50,48,50,48,58,48,49,58,48,50,32,48,51,58,48,52,58,48]⟩
theorem k1:aFB 0 274 1 [3]=true:=by decide+kernel
theorem k2:aFB 1 256 1 [3,4]=true:=by decide+kernel
theorem k3:aFB 3 274 0 []=true:=by decide+kernel
theorem r1:QZ 0 34665=true:=by decide+kernel
theorem r2:QZ 2 34665=false:=by decide+kernel
theorem m1:FH 2 36867 2 20 (aW3 s1++ [0])=true:=by decide+kernel
theorem m2:FH 2 36867 2 19 (aW3 s2++ [0])=false:=by decide+kernel
theorem m3:FH 2 4660 1 1 [1]=true:=by decide+kernel
theorem t1:rM 2 (s1.size+1) (aW3 s1++ [0])=true:=by decide+kernel
theorem t2:rM 2 (s2.size+1) (aW3 s2++ [0])=true:=by decide+kernel
theorem bnd {W:World} {a:Option Addr} {n c:Nat} {zs:List uM} {ts:List Tg} (h:Tr W a n c zs) (hm:zs.map tag=ts) (hb:∀x∈ts,x.2.2.2.length≤600):∀z∈zs,z.1.2.2.2.2.1≤1000000:=fun z hz=>by
 have h1:=hb (tag z) (by rw[←hm];exact gL hz);have h2:z.2.length=z.1.2.2.2.2.1:=(h.each z hz).nV;have h3:(tag z).2.2.2=z.2:=rfl;rw[h3]at h1;omega
