import Derived.Test.YtceclmpmpldmlaaGreatCz36
set_option linter.unusedSimpArgs false
set_option linter.unusedVariables false
namespace Go.Proofs.YtceclmpmpldmlaaGreat
open Go.RowKit Tt
theorem aYH {t:nC} (h:xM t.1=true) (hb:mW t.2.2.2):a1P t:=by
 unfold xM at h;simp only[bF,decide_eq_true_eq]at h;refine⟨?_,hb⟩;simp[Lit.wf,IntKind.min,IntKind.max,IntKind.signed,IntKind.bits];omega
theorem aSB {t:nC} (h:II t=true):t.2.2.2.length≤524288:=(a1N (o:=1) (show rM t.2.1 t.2.2.1 t.2.2.2=true from h) (.inl rfl)).small
structure OfK (o:Int) (ds:List (jD 16)):Prop where
 ord:o=1∨o=2
 len:ds.length=1∨ds.length=2
 h0:F7 qW 15 (ds.getD 0 (jS 16)) 0
 h1:ds.length=2→F7 qW 15 (ds.getD 1 (jS 16)) 1
theorem aSC {o:Int} {ds:List (jD 16)} (h:mJ 16 o ds qW=0):OfK o ds:=by
 unfold mJ at h;split at h
 ·rename_i h1;split at h
  ·rename_i h2;split at h
   ·rename_i h3;simp only[bF,dG,dS,decide_eq_true_eq,decide_eq_false_iff_not]at h1;have hall:∀k,k<ds.length→lQ qW 16 (ds.getD k (jS 16)) (mI qW k)=true:=fun k hk=>cZ.1 h3 k (bW.2 hk);have hch:∀k,k<ds.length→0≤mI qW k:=fun k hk=>of_decide_eq_true (cZ.1 h2 k (bW.2 hk));have hl:ds.length=1∨ds.length=2:=by
     by_cases h3:2<ds.length
     ·have:=hch 2 h3;rw[show mI qW 2= -1 by decide+kernel]at this;omega
     ·have:=h1.2;omega
    refine⟨h1.1.2,hl,?_,fun h2=>?_⟩
    ·have:=hall 0 (by omega);rw[GZ.1]at this;exact nS.1 this
    ·have:=hall 1 (by omega);rw[GZ.2]at this;exact nS.1 this
   ·cases h
  ·cases h
 ·cases h
theorem a0L {f:Nat} {a b:Int} (hab:a<b) {l:List (Int×jD f)} (h:∀s∈l,s.1=a∨s.1=b) (hp:l.Pairwise fun x y=>x.1<y.1):
  l= []∨(∃p,l= [(a,p)])∨(∃g,l= [(b,g)])∨∃p g,l= [(a,p),(b,g)]:=by
 match l,h,hp with
 | [],_,_=>exact .inl rfl
 | [(t,d)],h,_=>
  rcases h _ (dD.2 rfl)with e|e
  ·have e:t=a:=e;subst e;exact .inr (.inl ⟨d,rfl⟩)
  ·have e:t=b:=e;subst e;exact .inr (.inr (.inl ⟨d,rfl⟩))
 |(t,d)::(u,e)::r,h,hp=>
  have h1:t=a∨t=b:=h (t,d) (by simp);have h2:u=a∨u=b:=h (u,e) (by simp);have h3:t<u:=(dR.1 hp).1 (u,e) (by simp);obtain rfl:t=a:=by omega
  obtain rfl:u=b:=by omega
  match r,h,hp with
  | [],_,_=>exact .inr (.inr (.inr ⟨d,e,rfl⟩))
  |(v,k)::r',h,hp=>
   exfalso
   have h4:v=t∨v=u:=h (v,k) (by simp);have h5:u<v:=(dR.1 (dR.1 hp).2).1 (v,k) (by simp);omega
theorem aSD {f:Nat} {a:Int} {l:List (Int×jD f)} (h:∀s∈l,s.1=a) (hp:l.Pairwise fun x y=>x.1<y.1):l= []∨∃p,l= [(a,p)]:=by
 rcases a0L (a:=a) (b:=a+1) (by omega) (fun s hs=> .inl (h s hs)) hp with e|⟨p,e⟩|⟨g,e⟩|⟨p,g,e⟩
 ·exact .inl e
 ·exact .inr ⟨p,e⟩
 ·have k:a+1=a:=h (a+1,g) (by rw[e];simp);omega
 ·have k:a+1=a:=h (a+1,g) (by rw[e];simp);omega
theorem a7I {f:Nat} {d:jD (f+1)} {i:Int} (h:F7 qW f d i) {s:Int×jD f} (hs:s∈d.2.1):kT (qW.getD i.toNat jM) s.1=true∧lQ qW f s.2 (qH (qW.getD i.toNat jM) s.1)=true:=by
 obtain⟨j,hj,e⟩:=qJ hs (0,jS f);have:=h.sb j hj;rw[e]at this;exact this
theorem MF {d:jD 16} (h:F7 qW 15 d 0):∀s∈d.2.1,(s.1=34665∧F7 qW 14 s.2 2)∨(s.1=34853∧F7 qW 14 s.2 3):=fun s hs=>by
 obtain⟨h1,h2⟩:=a7I (i:=0) h hs;have h1:((34665:Int)==s.1||((34853:Int)==s.1||false))=true:=h1;simp only[dG,beq_iff_eq,Bool.or_false]at h1;rcases h1 with e|e
 ·left
  rw[←e,show qH (qW.getD (0:Int).toNat jM) 34665=2 by decide+kernel]at h2;exact⟨e.symm,nS.1 h2⟩
 ·right
  rw[←e,show qH (qW.getD (0:Int).toNat jM) 34853=3 by decide+kernel]at h2;exact⟨e.symm,nS.1 h2⟩
theorem HZ {d:jD 15} (h:F7 qW 14 d 2):∀s∈d.2.1,s.1=40965∧F7 qW 13 s.2 4:=fun s hs=>by
 obtain⟨h1,h2⟩:=a7I (i:=2) h hs;have h1:((40965:Int)==s.1||false)=true:=h1;simp only[dG,beq_iff_eq,Bool.or_false]at h1;rw[←h1,show qH (qW.getD (2:Int).toNat jM) 40965=4 by decide+kernel]at h2;exact⟨h1.symm,nS.1 h2⟩
theorem aM5 {f:Nat} {d:jD (f+1)} {i:Int} (hi:i=3∨i=4∨i=1) (h:F7 qW f d i):d.2.1= []:=by
 cases hd:d.2.1 with
 |nil=>rfl
 |cons s r=>
  exfalso
  have:=(a7I h (s:=s) (by rw[hd];simp)).1;rcases hi with rfl|rfl|rfl <;> cases this
def a0M (x:oN) (f:Nat) (d:jD (f+1)):oN:=⟨x.o,x.z,qL d.1 37500,x.g,d.2.1.foldl (fun _ u=>rX f u.2) x.i,x.f,(nO d.1 37500).2.2.2,x.th⟩
def IG (x:oN) (s:Int×jD 15):oN:=if s.1=34853 then {x with g:=rX 15 s.2}else a0M x 14 s.2
def x0O (o:Int) (ds:List (jD 16)):oN:=⟨o,rX 16 (ds.getD 0 (jS 16)), [], [], [], [], [], []⟩
def pK (ds:List (jD 16)):List (Int×jD 15):=(ds.getD 0 (jS 16)).2.1
def xkO (o:Int) (ds:List (jD 16)) (k:Nat):oN:=((pK ds).take k).foldl IG (x0O o ds)
theorem aBT {o:Int} {ds:List (jD 16)} {k:Nat} (h:k<(pK ds).length):xkO o ds (k+1)=IG (xkO o ds k) ((pK ds).getD k (0,jS 15)):=by
 unfold xkO;rw[dN,aX h,fM,jI h];rfl
theorem VD {o:Int} {ds:List (jD 16)} (h:OfK o ds):pK ds= []∨(∃p,pK ds= [(34665,p)])∨(∃g,pK ds= [(34853,g)])∨∃p g,pK ds= [(34665,p),(34853,g)]:=
 a0L (by decide) (fun s hs=>(MF h.h0 s hs).elim (fun e=> .inl e.1) (fun e=> .inr e.1)) h.h0.rs
theorem a0N {d:jD 15} (h:F7 qW 14 d 2) (x:oN) (hi:x.i= []):(a0M x 14 d).i=rE 15 d 40965:=by
 have e:(a0M x 14 d).i=d.2.1.foldl (fun _ u=>rX 14 u.2) x.i:=rfl;rw[e,xH (f:=14) (d:=d) rfl];rcases aSD (fun s hs=>(HZ h s hs).1) h.rs with e|⟨p,e⟩
 ·rw[e];exact hi
 ·rw[e];rfl
theorem aSE {o:Int} {ds:List (jD 16)} (h:OfK o ds):rY 16 o ds={xkO o ds (pK ds).length with f:=rX 16 (ds.getD 1 (jS 16)),th:=aB3 16 (ds.getD 1 (jS 16))}:=by
 have hz:=MF h.h0;have e1:∀t,rE 16 (ds.getD 0 (jS 16)) t=RB 15 ((pK ds).find? (fun s=>s.1==t)):=fun t=>xH (f:=15) (d:=ds.getD 0 (jS 16)) rfl t;have e2:KH 16 (ds.getD 0 (jS 16)) 34665 40965=U1 15 40965 ((pK ds).find? (fun s=>s.1==34665)):=U7 (f:=15) (d:=ds.getD 0 (jS 16)) rfl _ _;unfold rY xkO;rw[e1,e1,e2,List.take_length];rcases VD h with e|⟨p,e⟩|⟨g,e⟩|⟨p,g,e⟩
 ·rw[e];rfl
 ·have hp:F7 qW 14 p 2:=by
   rcases hz (34665,p) (by rw[show(ds.getD 0 (jS 16)).2.1=pK ds from rfl,e];simp)with k|k
   ·exact k.2
   ·have k1:(34665:Int)=34853:=k.1;omega
  rw[e];have k:=a0N hp (x0O o ds) rfl;show(⟨o,_,qL p.1 37500, [],rE 15 p 40965,_,_,_⟩:oN)=⟨o,_,qL p.1 37500, [],(a0M (x0O o ds) 14 p).i,_,_,_⟩
  rw[k];rfl
 ·rw[e];rfl
 ·have hp:F7 qW 14 p 2:=by
   rcases hz (34665,p) (by rw[show(ds.getD 0 (jS 16)).2.1=pK ds from rfl,e];simp)with k|k
   ·exact k.2
   ·have k1:(34665:Int)=34853:=k.1;omega
  rw[e];have k:=a0N hp (x0O o ds) rfl;show(⟨o,_,qL p.1 37500,g.1,rE 15 p 40965,_,_,_⟩:oN)=⟨o,_,qL p.1 37500,g.1,(a0M (x0O o ds) 14 p).i,_,_,_⟩
  rw[k];rfl
theorem aM6 (a:Option Addr) (n c:Nat) (ts:List nC) (t:Int) (w:World) (hs:qB w a n c ts) (hp:Pw ts) (hl:n≤1000000) (hd:∀y∈ts,y.2.2.2.length≤1000000):
  Calls Tryz.prog 137 #[.slice a n c,.int .i64 t] w fun e w'=>∃(b:Bool) (y2 y3:Int) (a':Option Addr) (n' c':Nat) (d:List Int),e= .returned (.tuple #[.agg #[.int .i64 y2,.int .i64 y3,.slice a' n' c'],.bool b])∧
   w'.ownsRow w.heap.size 5 1 (.slice a' n' c') n' (ints .u8 d)∧nO ts t=(b,y2,y3,d)∧Below w.heap.size w w':=by
 obtain⟨zs,h1,rfl⟩:=hs;have hr:=aFE (h1.tr.len) hp;refine(aLA a n c zs t w h1.tr hr hl (a6N h1.tr hd)).mono ?_;rintro e w' ⟨k,y2,y3,a',n',c',d,hpos,rfl,ho,hv,hb⟩;refine⟨TV zs t k,y2,y3,a',n',c',d,rfl,ho,?_,hb⟩;rw[←FJ,aQC hpos (by rw[h1.tr.len];exact hr)];cases hq:TV zs t k with
 |true=>rw[hq,if_pos rfl]at hv;rw[if_pos rfl,←hv]
 |false=>rw[hq,if_neg (by decide)]at hv;rw[if_neg (by decide),←hv]
theorem aM7 (a:Option Addr) (n c:Nat) (ts:List nC) (t:Int) (w:World) (hs:qB w a n c ts) (hp:Pw ts) (hl:n≤1000000) (hd:∀y∈ts,y.2.2.2.length≤1000000):
  Calls Tryz.prog 138 #[.slice a n c,.int .i64 t] w fun e w'=>∃a' n' c',e= .returned (.slice a' n' c')∧kR K5 w.heap.size w' (.slice a' n' c') (qL ts t)∧Below w.heap.size w w':=by
 obtain⟨zs,h1,rfl⟩:=hs;refine(aQB a n c zs t w h1.tr (aFE (h1.tr.len) hp) hl (a6N h1.tr hd)).mono ?_;rintro e w' ⟨a',n',c',zs',rfl,ho,hv,hb⟩;exact⟨a',n',c',rfl,ho.at_ hv,hb⟩
def phK (x:oN) (d:jD 15) (k:Nat):oN:=⟨x.o,x.z,qL d.1 37500,x.g,(d.2.1.take k).foldl (fun _ u=>rX 14 u.2) x.i,x.f,(nO d.1 37500).2.2.2,x.th⟩
theorem aBU (x:oN) (d:jD 15) {k:Nat} (h:k<d.2.1.length):phK x d (k+1)={phK x d k with i:=rX 14 (d.2.1.getD k (0,jS 14)).2}:=by
 unfold phK;rw[dN,aX h,fM,jI h];rfl
theorem aIB (x:oN) (d:jD 15):phK x d d.2.1.length=a0M x 14 d:=by
 unfold phK;rw[List.take_length];rfl
theorem zS.row {w:World} {f:Nat} {d:jD (f+1)} {a1 a2 a3:Option Addr} {n1 n2 n3 c1 c2 c3:Nat} (h:zS w (f+1) d (.slice a1 n1 c1,.slice a2 n2 c2,.slice a3 n3 c3)):qB w a1 n1 c1 d.1:=by
 obtain⟨ta,tn,tc,zs,sa,sn,sc,ds,ba,bn,bc,e,hT,hd,_⟩:=h;injection e with e1 e2;injection e1 with e1 e3 e4;subst e1 e3 e4;exact⟨zs,hT,hd⟩
set_option maxRecDepth 20000 in
set_option maxHeartbeats 8000000 in
theorem aG4 (w0 w:World) (g:Nat) (x:oN) (A:ExA) (d:jD 15) (v:Dz) (h0:Below w0.heap.size w0 w) (hg:w0.heap.size≤g) (hB:jJ w g 134 (OI x.o A)) (hO:GY w0.heap.size w x A)
  (hD:zS w0 15 d v) (hpw:Pw d.1) (hl:d.1.length≤65535) (hdt:∀t∈d.1,t.2.2.2.length≤1000000) (hsub:∀s∈d.2.1,(rX 14 s.2).length≤65535∧∀t∈rX 14 s.2,t.2.2.2.length≤1000000):
  Calls Tryz.prog 77 #[.pointer (some ⟨g,0,none⟩),.agg #[v.1,v.2.1,v.2.2]] w fun e w'=>
   Below w0.heap.size w0 w'∧But g w w'∧(if uS (nO d.1 37500)=true then e= .returned (.bool false)else e= .returned (.bool true)∧∃A',jJ w' g 134 (OI x.o A')∧GY w0.heap.size w' (a0M x 14 d) A'):=by
 obtain⟨za,zn,zc,pa,pn,pc,ga,gn,gc,ia,iN,ic,fa,fn,fc,ma,mn,mc,ta,tn,tc⟩:=A;obtain⟨qa,qn,qc,zs,sa,sn,sc,ds,ba,bn,bc,rfl,hT,hd1,hS,hdl,hDs,hbl⟩:=hD;simp only[OI]at*;obtain⟨nb,hnb⟩:∃q,uS (nO d.1 37500)=q:=⟨_,rfl⟩;rw[hnb];have htl:=hT.len;have hsl:=hS.uY oO (by decide);have aSF:qB w0 qa qn qc d.1:=⟨zs,hT,hd1⟩;have hqn:qn≤1000000:=by have:=aSF.len;omega
 have hF:=fun W (hb:Below w0.heap.size w0 W)=>aM6 qa qn qc d.1 37500 W (aSF.mono hb) hpw hqn hdt;have hDr:=fun W (hb:Below w0.heap.size w0 W)=>aM7 qa qn qc d.1 37500 W (aSF.mono hb) hpw hqn hdt;have hgw:=hB.lt;have bD:=jJ.new w 26 #[.slice qa qn qc,.slice sa sn sc,.slice ba bn bc];have hal:=aD w (.cells #[.slice qa qn qc,.slice sa sn sc,.slice ba bn bc] 26);obtain⟨w1,hw1⟩:∃W,w.alloc (.cells #[.slice qa qn qc,.slice sa sn sc,.slice ba bn bc] 26)=W:=⟨_,rfl⟩;rw[hw1]at bD hal;have hO1:=hO.later hal;have hB1:=hB.late hal;have h01:=h0.tm hal;have aJF:=But.of_below (b:=g) hal;have hgd:g<w.heap.size:=hgw;obtain⟨gd,b81⟩:∃k,w.heap.size=k:=⟨_,rfl⟩;rw[b81]at bD hgd;have d0:w1.cell? ⟨gd,0,none⟩=some (.slice qa qn qc):=bD.cell rfl;have d1:w1.cell? ⟨gd,1,none⟩=some (.slice sa sn sc):=bD.cell rfl;have d2:w1.cell? ⟨gd,2,none⟩=some (.slice ba bn bc):=bD.cell rfl;clear hal hgw hB hO htl hbl hT;obtain⟨hnb',h0',hg',b71,hl',hdt',wV,hS',aYI,bOA,AQ,uE⟩:=aP hnb h0 hg hpw hl hdt hsub hS hDs hd1 hdl hsl;obtain⟨bSR,bVA,hF',aYG,WZ,aWY,bG5,aDG,aSG,b1G,hgd',bG6⟩:=aP aSF hqn hF hDr bD hw1 hO1 hB1 h01 aJF hgd b81;clear hnb h0 hg hpw hl hdt hsub hS hDs hd1 hdl hsl aSF hqn hF hDr bD hw1 hO1 hB1 h01 aJF hgd b81;go_enter Tryz.func77,Tryz.ntmps77;go_upto_region 1 with fail
 try rw[bG6.o]
 try rw[aWY.o]
 go_wp2_with fail
 refine(hF'.o _ aSG.o).mono ?_;rintro e w2 ⟨b,y2,y3,a5,n5,c5,dd,rfl,how,hfi,hb2⟩;have bV:=jJ.new w2 72 #[.int .i64 y2,.int .i64 y3,.slice a5 n5 c5];have hal:=aD w2 (.cells #[.int .i64 y2,.int .i64 y3,.slice a5 n5 c5] 72);obtain⟨w3,hw3⟩:∃W,w2.alloc (.cells #[.int .i64 y2,.int .i64 y3,.slice a5 n5 c5] 72)=W:=⟨_,rfl⟩;rw[hw3]at bV hal;have h13:=hb2.tm hal;have hwg:g<w2.heap.size:=by have:=hgd'.o;have:=WZ.o.lt;have:=hb2.size;omega
 have hwd:gd<w2.heap.size:=by have:=WZ.o.lt;have:=hb2.size;omega
 have hO3:=bG5.o.later h13;have hB3:=aDG.o.late h13;have hD3:=WZ.o.late h13;have h03:=aSG.o.tm h13;have aJG:=b1G.o.later h13;have bG7:w3.ownsRow w0.heap.size 5 1 (.slice a5 n5 c5) n5 (ints .u8 dd):=jY (kK how aSG.o.size) hal;obtain⟨gv,hgv⟩:∃k,w2.heap.size=k:=⟨_,rfl⟩;rw[hgv]at bV hwg hwd;have e0:w3.cell? ⟨gv,0,none⟩=some (.int .i64 y2):=bV.cell rfl;clear hal h13 hb2 how bG5 aDG WZ aSG b1G d0 d1 d2;obtain⟨b82,bV',WE,hwg',bG8,bG9,aDH,b83,a0O,aSH,b1H,b4S⟩:=aP hfi bV hw3 hwg hwd hO3 hB3 hD3 h03 aJG bG7 hgv;clear hfi bV hw3 hwg hwd hO3 hB3 hD3 h03 aJG bG7 hgv;go_upto_region 2 with fail
 try rw[b4S.o]
 try rw[WE.o]
 have hnb:=hnb'.o;rw[b82.o]at hnb;unfold uS at hnb;simp only at hnb;have key:(b=true∧y2≠7∧nb=true)∨((b=false∨(b=true∧y2=7))∧nb=false):=by
  cases b with
  |false=>right;simp at hnb;exact⟨.inl rfl,by simpa using hnb.symm⟩
  |true=>
   by_cases hy:y2=7
   ·right;rw[hy]at hnb;simp at hnb;exact⟨.inr ⟨rfl,hy⟩,by simpa using hnb.symm⟩
   ·left;simp[hy]at hnb;exact⟨rfl,hy,by simpa using hnb.symm⟩
 clear hnb;rcases key with ⟨rfl,hy,rfl⟩|⟨hy,rfl⟩
 ·have hyb:(y2 != 7)=true:=by simpa using hy
  go_wp2_with fail
  go_ret;exact⟨a0O.o,aSH.o,rfl⟩
 ·obtain⟨Ty,ff,hne,tX,jH⟩:=NV g w3;have HD:=aA ((aW w3.heap.size w3).drew);have HS:=aA (jH _ (But.of_below HD.o));have aSI:gd≠g:=by have:=hgd'.o;omega
  have aSJ:gv≠g:=by have:=hwg'.o;omega
  have c0:∀s,(ff s).cell? ⟨gd,0,none⟩=some (.slice qa qn qc):=fun s=>(b83.o.but (tX s) aSI).cell rfl;have c2:∀s,(ff s).cell? ⟨gv,2,none⟩=some (.slice a5 n5 c5):=fun s=>(bV'.o.but (tX s) aSJ).cell rfl;obtain⟨aHA,jA,aSK,bOB⟩:=aH tX jH aSI aSJ;clear tX jH aSI aSJ;have step:Hid True:=aA trivial;rcases hy with rfl|⟨rfl,rfl⟩
  ·skip
   go_upto_region 4 with fail
   refine jU (S:=fun W=>∃s,W=ff s) (by kernel_rfl) 15 rfl ?_;obtain⟨wD,tQ⟩:∃X,w3.drew=X:=⟨_,rfl⟩;rw[tQ]at HS HD ⊢;clear tQ;refine jF [0,1,2,3,5,6] 9 (by kernel_rfl) (fun d _ _ _ _ h=>by cases d <;> exact h) (by kernel_rfl) (by kernel_rfl) (by kernel_rfl) HS.o ?_;simp only[jB,aS,aT,aQ,aR];iterate 6 (go_big_quiet_step (fail))
   refine wpQuiet_nil ?_;refine jC 4 8 (by kernel_rfl) (by kernel_rfl) ?_;simp only[jB,aS,aT,aQ,aR];go_wp2_with fail
   refine(aYG.o _ (a0O.o.tm HD.o)).mono ?_;rintro e w5 ⟨a6,n6,c6,rfl,hTd,hb5⟩;have RU:=HD.o.tm hb5;have HS5:=aA (jA.o _ (But.of_below RU));have XQ:=aDH.o.late RU;have hO5:=bG9.o.later RU;have hT5:=hTd.mono (bK a0O.o.size HD.o.size);have a1W:=jY b1H.o RU;have h05:=a0O.o.tm RU;have Q8:=aSH.o.later RU;have SH:=XQ.set 2 (.slice a6 n6 c6);have hB7:=SH.set 6 (.slice a5 n5 c5);have aG5:=(But.refl g w5).set 2 (.slice a6 n6 c6);have I4:=aG5.set 6 (.slice a5 n5 c5);obtain⟨HS6,HS7⟩:=aF (jA.o _ ((But.of_below RU).trans aG5)) (jA.o _ ((But.of_below RU).trans I4));have hB7:jJ ((w5.setCell ⟨g,2,none⟩ (.slice a6 n6 c6)).setCell ⟨g,6,none⟩ (.slice a5 n5 c5)) g 134 #[.int .i64 x.o,.slice za zn zc,.slice a6 n6 c6,.slice ga gn gc,.slice ia iN ic,.slice fa fn fc,.slice a5 n5 c5,.slice ta tn tc]:=hB7;have hD7:=b83.o.but ((But.of_below RU).trans I4) aSK.o;have hO7:=hO5.but I4 XQ (by decide) (by decide);have hT7:=rF hT5 I4 XQ (by decide) (by decide);have aSL:=lJ a1W I4 (kE a1W XQ (by decide));have h07:=(h05.setCell (p:=⟨g,2,none⟩) hg'.o (.slice a6 n6 c6)).setCell (p:=⟨g,6,none⟩) hg'.o (.slice a5 n5 c5);have aSM:=Q8.trans I4;have p2:=XQ.cell (i:=2) rfl;have u2:=XQ.frozen 2;have p6:=SH.cell (i:=6) rfl;have u6:=SH.frozen 6;clear hTd hb5 XQ hO5 hT5 a1W h05 Q8 SH aG5 I4;have hE7:GY w0.heap.size ((w5.setCell ⟨g,2,none⟩ (.slice a6 n6 c6)).setCell ⟨g,6,none⟩ (.slice a5 n5 c5)) (phK x d 0) ⟨za,zn,zc,a6,n6,c6,ga,gn,gc,ia,iN,ic,fa,fn,fc,a5,n5,c5,ta,tn,tc⟩:=
    ⟨hO7.z,hT7,hO7.g,hO7.i,hO7.f,by show World.ownsRow _ _ _ _ _ _ (ints .u8 (nO d.1 37500).2.2.2);rw[b82.o];exact aSL,hO7.th⟩
   clear hO7 hT7 aSL;obtain⟨bOC,aSN,aSO,b84,aSP,aBV⟩:=aJ RU hB7 hE7 hD7 h07 aSM;clear RU hB7 hE7 hD7 h07 aSM;go_wp2_with fail
   first|refine Mid.mk ⟨HS5.o,?_⟩|refine Mid.mk ?_
   have HS:=HS5;refine jF [7,8,9] 5 (by kernel_rfl) (fun d _ _ _ _ h=>by cases d <;> exact h) (by kernel_rfl) (by kernel_rfl) (by kernel_rfl) HS.o ?_;simp only[jB,aS,aT,aQ,aR];iterate 3 (go_big_quiet_step (fail))
   refine wpQuiet_nil ?_;refine jC 10 4 (by kernel_rfl) (by kernel_rfl) ?_;simp only[jB,aS,aT,aQ,aR];go_wp2_with fail
   first|refine Mid.mk ⟨HS6.o,?_⟩|refine Mid.mk ?_
   have HS:=HS6;refine jF [11,12,13] 1 (by kernel_rfl) (fun d _ _ _ _ h=>by cases d <;> exact h) (by kernel_rfl) (by kernel_rfl) (by kernel_rfl) HS.o ?_;simp only[jB,aS,aT,aQ,aR];iterate 3 (go_big_quiet_step (fail))
   refine wpQuiet_nil ?_;refine jC 14 0 (by kernel_rfl) (by kernel_rfl) ?_;simp only[jB,aS,aT,aQ,aR];go_wp2_with fail
   refine Mid.mk ⟨HS7.o,?_⟩;refine jK (by kernel_rfl) ?_;clear c0 c2 p2 u2 p6 u6 HD HS HS5 HS6 HS7 e0;generalize (w5.setCell ⟨g,2,none⟩ (.slice a6 n6 c6)).setCell ⟨g,6,none⟩ (.slice a5 n5 c5)=w7 at*;have d1:w7.cell? ⟨gd,1,none⟩=some (.slice sa sn sc):=b84.o.cell rfl;go_wp2_with fail
   go_loopw [37] (fun iv wr=>∃(i:Nat) (ja:Option Addr) (jn jc:Nat),i≤sn∧iv= .int .i64 i∧Hid (jJ wr g 134 #[.int .i64 x.o,.slice za zn zc,.slice a6 n6 c6,.slice ga gn gc,.slice ja jn jc,.slice fa fn fc,.slice a5 n5 c5,.slice ta tn tc])∧
    Hid (GY w0.heap.size wr (phK x d i) ⟨za,zn,zc,a6,n6,c6,ga,gn,gc,ja,jn,jc,fa,fn,fc,a5,n5,c5,ta,tn,tc⟩)∧Hid (Below w0.heap.size w0 wr)∧Hid (But g w wr)) (fun iv _=>sn - (intOf iv).toNat)
   case atStart=>exact⟨0,ia,iN,ic,by omega,rfl,aSN,aSO,aSP,aBV⟩
   case round=>
    clear aSN aSO aSP aBV d1;obtain⟨i,ja,jn,jc,hi,rfl,hBr,hEr,h0r,hbr⟩:=hrel;have hmx:sn≤9223372036854775807:=bK hS'.o.le hS'.o.max;by_cases hlt:i<sn
    ·have hin:(i:Int)<sn:=by omega
     have hww:IntKind.i64.wrap ((i:Int)+1)=i+1:=by rw[aY];omega
     have p9:i<ds.length:=by rw[uE.o];exact hlt
     have hid:i<d.2.1.length:=by rw[←AQ.o];exact p9
     obtain⟨xb,xo,rfl,hblt,fe⟩:=(hS'.o.mono h0r.o).elem oO (by decide) (0,dzz) hlt;rw[jI p9]at fe;obtain⟨hq1,hq2⟩:=aYI.o i p9 hid;obtain⟨ua,un,uc,ra,rn,rc,xa,xn,xc,hv⟩:=hq2.v;have g0:=fe 0 _ rfl;have g1:=fe 1 _ rfl;have g2:=fe 2 _ rfl;have g3:=fe 3 _ rfl;simp only[cK]at g0 g1 g2 g3;clear fe;rw[hv]at hq2 g1 g2 g3;rw[hq1]at g0;simp only at g0 g1 g2 g3;obtain⟨yt,hyt⟩:∃y,d.2.1[i].1=y:=⟨_,rfl⟩;rw[hyt]at g0;have hrow:=hq2.row;obtain⟨su,hsu⟩:∃s,d.2.1[i]=s:=⟨_,rfl⟩;obtain⟨hul,hud⟩:=wV.o d.2.1[i] (bL _);have KW:d.2.1.getD i (0,jS 14)=d.2.1[i]:=jI hid _;rw[hsu]at hrow hul hud KW;have bS:=jJ.new wr 28 #[.int .i64 yt,.slice ua un uc,.slice ra rn rc,.slice xa xn xc];have hal:=aD wr (.cells #[.int .i64 yt,.slice ua un uc,.slice ra rn rc,.slice xa xn xc] 28);obtain⟨ws,hws⟩:∃X,wr.alloc (.cells #[.int .i64 yt,.slice ua un uc,.slice ra rn rc,.slice xa xn xc] 28)=X:=⟨_,rfl⟩;rw[hws]at bS hal;obtain⟨gs,hgs⟩:∃k,wr.heap.size=k:=⟨_,rfl⟩;rw[hgs]at bS;have s1:ws.cell? ⟨gs,1,none⟩=some (.slice ua un uc):=bS.cell rfl;have h0s:=h0r.o.tm hal;have hOw:=vJ ua un uc (rX 14 su.2) ws (hrow.mono h0s) (by have:=hrow.len;have:(rX 14 su.2).length=un:=hrow.len;omega) hud;have hBs:=hBr.o.late hal;have BV:=hEr.o.later hal;have hbs:=hbr.o.later hal;clear hq1 hq2 hv hblt hrow hul hud hal bS hyt hsu;obtain⟨aG6,aG7,hgs',D9,aG8,aBW,TH,qG,b1I,aYJ⟩:=aN KW hws hgs h0s hOw hBs BV hbs p9 hid;clear KW hws hgs h0s hOw hBs BV hbs p9 hid;go_upto_region 8 with fail
     try rw[hgs'.o]
     try rw[aG7.o]
     go_wp2_with fail
     refine aG8.o.mono ?_;rintro e w8 ⟨a8,c8,rfl,hT8,oV⟩;have VE:=aBW.o.late oV;have hE8:=TH.o.later oV;have h08:=D9.o.tm oV;have a7J:=qG.o.later oV;have hT8:=hT8.mono D9.o.size;have p4:=VE.cell (i:=4) rfl;have u4:=VE.frozen 4;have hB9:jJ (w8.setCell ⟨g,4,none⟩ (.slice a8 un c8)) g 134 #[.int .i64 x.o,.slice za zn zc,.slice a6 n6 c6,.slice ga gn gc,.slice a8 un c8,.slice fa fn fc,.slice a5 n5 c5,.slice ta tn tc]:=VE.set 4 _;have OV:=(But.refl g w8).set 4 (.slice a8 un c8);have VF:=hE8.but OV VE (by decide) (by decide);have hT9:=rF hT8 OV VE (by decide) (by decide);have a0P:GY w0.heap.size (w8.setCell ⟨g,4,none⟩ (.slice a8 un c8)) (phK x d (i+1)) ⟨za,zn,zc,a6,n6,c6,ga,gn,gc,a8,un,c8,fa,fn,fc,a5,n5,c5,ta,tn,tc⟩:=by
      rw[aBU x d aYJ.o,aG6.o];exact⟨VF.z,VF.p,VF.g,hT9,VF.f,VF.mr,VF.th⟩
     have h09:=h08.setCell (p:=⟨g,4,none⟩) hg'.o (.slice a8 un c8);have YM:=a7J.trans OV;clear hE8 VF hT9 hT8 oV VE h08 a7J OV;obtain⟨aSQ,a0Q,aSR,a9J⟩:=aH hB9 a0P h09 YM;clear hB9 a0P h09 YM;go_wp2_with fail
     go_roundw
     case rel=>exact⟨i+1,a8,un,c8,by omega,by go_num,aSQ,a0Q,aSR,a9J⟩
     case measure=>simp[intOf];omega
    ·obtain rfl:i=sn:=by omega
     have hdi:decide ((i:Int)<(i:Int))=false:=by simp
     go_wp2_with fail
     go_ret;refine⟨h0r.o,hbr.o,rfl,⟨za,zn,zc,a6,n6,c6,ga,gn,gc,ja,jn,jc,fa,fn,fc,a5,n5,c5,ta,tn,tc⟩,hBr.o,?_⟩;have:=hEr.o;rw[show i=d.2.1.length by rw[←AQ.o];exact uE.o.symm,aIB]at this;exact this
  ·skip
   go_upto_region 4 with fail
   refine jU (S:=fun W=>∃s,W=ff s) (by kernel_rfl) 15 rfl ?_;obtain⟨wD,tQ⟩:∃X,w3.drew=X:=⟨_,rfl⟩;rw[tQ]at HS HD ⊢;clear tQ;refine jF [0,1,2,3,5,6] 9 (by kernel_rfl) (fun d _ _ _ _ h=>by cases d <;> exact h) (by kernel_rfl) (by kernel_rfl) (by kernel_rfl) HS.o ?_;simp only[jB,aS,aT,aQ,aR];iterate 6 (go_big_quiet_step (fail))
   refine wpQuiet_nil ?_;refine jC 4 8 (by kernel_rfl) (by kernel_rfl) ?_;simp only[jB,aS,aT,aQ,aR];go_wp2_with fail
   refine(aYG.o _ (a0O.o.tm HD.o)).mono ?_;rintro e w5 ⟨a6,n6,c6,rfl,hTd,hb5⟩;have RU:=HD.o.tm hb5;have HS5:=aA (jA.o _ (But.of_below RU));have XQ:=aDH.o.late RU;have hO5:=bG9.o.later RU;have hT5:=hTd.mono (bK a0O.o.size HD.o.size);have a1W:=jY b1H.o RU;have h05:=a0O.o.tm RU;have Q8:=aSH.o.later RU;have SH:=XQ.set 2 (.slice a6 n6 c6);have hB7:=SH.set 6 (.slice a5 n5 c5);have aG5:=(But.refl g w5).set 2 (.slice a6 n6 c6);have I4:=aG5.set 6 (.slice a5 n5 c5);obtain⟨HS6,HS7⟩:=aF (jA.o _ ((But.of_below RU).trans aG5)) (jA.o _ ((But.of_below RU).trans I4));have hB7:jJ ((w5.setCell ⟨g,2,none⟩ (.slice a6 n6 c6)).setCell ⟨g,6,none⟩ (.slice a5 n5 c5)) g 134 #[.int .i64 x.o,.slice za zn zc,.slice a6 n6 c6,.slice ga gn gc,.slice ia iN ic,.slice fa fn fc,.slice a5 n5 c5,.slice ta tn tc]:=hB7;have hD7:=b83.o.but ((But.of_below RU).trans I4) aSK.o;have hO7:=hO5.but I4 XQ (by decide) (by decide);have hT7:=rF hT5 I4 XQ (by decide) (by decide);have aSL:=lJ a1W I4 (kE a1W XQ (by decide));have h07:=(h05.setCell (p:=⟨g,2,none⟩) hg'.o (.slice a6 n6 c6)).setCell (p:=⟨g,6,none⟩) hg'.o (.slice a5 n5 c5);have aSM:=Q8.trans I4;have p2:=XQ.cell (i:=2) rfl;have u2:=XQ.frozen 2;have p6:=SH.cell (i:=6) rfl;have u6:=SH.frozen 6;clear hTd hb5 XQ hO5 hT5 a1W h05 Q8 SH aG5 I4;have hE7:GY w0.heap.size ((w5.setCell ⟨g,2,none⟩ (.slice a6 n6 c6)).setCell ⟨g,6,none⟩ (.slice a5 n5 c5)) (phK x d 0) ⟨za,zn,zc,a6,n6,c6,ga,gn,gc,ia,iN,ic,fa,fn,fc,a5,n5,c5,ta,tn,tc⟩:=
    ⟨hO7.z,hT7,hO7.g,hO7.i,hO7.f,by show World.ownsRow _ _ _ _ _ _ (ints .u8 (nO d.1 37500).2.2.2);rw[b82.o];exact aSL,hO7.th⟩
   clear hO7 hT7 aSL;obtain⟨bOC,aSN,aSO,b84,aSP,aBV⟩:=aJ RU hB7 hE7 hD7 h07 aSM;clear RU hB7 hE7 hD7 h07 aSM;go_wp2_with fail
   first|refine Mid.mk ⟨HS5.o,?_⟩|refine Mid.mk ?_
   have HS:=HS5;refine jF [7,8,9] 5 (by kernel_rfl) (fun d _ _ _ _ h=>by cases d <;> exact h) (by kernel_rfl) (by kernel_rfl) (by kernel_rfl) HS.o ?_;simp only[jB,aS,aT,aQ,aR];iterate 3 (go_big_quiet_step (fail))
   refine wpQuiet_nil ?_;refine jC 10 4 (by kernel_rfl) (by kernel_rfl) ?_;simp only[jB,aS,aT,aQ,aR];go_wp2_with fail
   first|refine Mid.mk ⟨HS6.o,?_⟩|refine Mid.mk ?_
   have HS:=HS6;refine jF [11,12,13] 1 (by kernel_rfl) (fun d _ _ _ _ h=>by cases d <;> exact h) (by kernel_rfl) (by kernel_rfl) (by kernel_rfl) HS.o ?_;simp only[jB,aS,aT,aQ,aR];iterate 3 (go_big_quiet_step (fail))
   refine wpQuiet_nil ?_;refine jC 14 0 (by kernel_rfl) (by kernel_rfl) ?_;simp only[jB,aS,aT,aQ,aR];go_wp2_with fail
   refine Mid.mk ⟨HS7.o,?_⟩;refine jK (by kernel_rfl) ?_;clear c0 c2 p2 u2 p6 u6 HD HS HS5 HS6 HS7 e0;generalize (w5.setCell ⟨g,2,none⟩ (.slice a6 n6 c6)).setCell ⟨g,6,none⟩ (.slice a5 n5 c5)=w7 at*;have d1:w7.cell? ⟨gd,1,none⟩=some (.slice sa sn sc):=b84.o.cell rfl;go_wp2_with fail
   go_loopw [37] (fun iv wr=>∃(i:Nat) (ja:Option Addr) (jn jc:Nat),i≤sn∧iv= .int .i64 i∧Hid (jJ wr g 134 #[.int .i64 x.o,.slice za zn zc,.slice a6 n6 c6,.slice ga gn gc,.slice ja jn jc,.slice fa fn fc,.slice a5 n5 c5,.slice ta tn tc])∧
    Hid (GY w0.heap.size wr (phK x d i) ⟨za,zn,zc,a6,n6,c6,ga,gn,gc,ja,jn,jc,fa,fn,fc,a5,n5,c5,ta,tn,tc⟩)∧Hid (Below w0.heap.size w0 wr)∧Hid (But g w wr)) (fun iv _=>sn - (intOf iv).toNat)
   case atStart=>exact⟨0,ia,iN,ic,by omega,rfl,aSN,aSO,aSP,aBV⟩
   case round=>
    clear aSN aSO aSP aBV d1;obtain⟨i,ja,jn,jc,hi,rfl,hBr,hEr,h0r,hbr⟩:=hrel;have hmx:sn≤9223372036854775807:=bK hS'.o.le hS'.o.max;by_cases hlt:i<sn
    ·have hin:(i:Int)<sn:=by omega
     have hww:IntKind.i64.wrap ((i:Int)+1)=i+1:=by rw[aY];omega
     have p9:i<ds.length:=by rw[uE.o];exact hlt
     have hid:i<d.2.1.length:=by rw[←AQ.o];exact p9
     obtain⟨xb,xo,rfl,hblt,fe⟩:=(hS'.o.mono h0r.o).elem oO (by decide) (0,dzz) hlt;rw[jI p9]at fe;obtain⟨hq1,hq2⟩:=aYI.o i p9 hid;obtain⟨ua,un,uc,ra,rn,rc,xa,xn,xc,hv⟩:=hq2.v;have g0:=fe 0 _ rfl;have g1:=fe 1 _ rfl;have g2:=fe 2 _ rfl;have g3:=fe 3 _ rfl;simp only[cK]at g0 g1 g2 g3;clear fe;rw[hv]at hq2 g1 g2 g3;rw[hq1]at g0;simp only at g0 g1 g2 g3;obtain⟨yt,hyt⟩:∃y,d.2.1[i].1=y:=⟨_,rfl⟩;rw[hyt]at g0;have hrow:=hq2.row;obtain⟨su,hsu⟩:∃s,d.2.1[i]=s:=⟨_,rfl⟩;obtain⟨hul,hud⟩:=wV.o d.2.1[i] (bL _);have KW:d.2.1.getD i (0,jS 14)=d.2.1[i]:=jI hid _;rw[hsu]at hrow hul hud KW;have bS:=jJ.new wr 28 #[.int .i64 yt,.slice ua un uc,.slice ra rn rc,.slice xa xn xc];have hal:=aD wr (.cells #[.int .i64 yt,.slice ua un uc,.slice ra rn rc,.slice xa xn xc] 28);obtain⟨ws,hws⟩:∃X,wr.alloc (.cells #[.int .i64 yt,.slice ua un uc,.slice ra rn rc,.slice xa xn xc] 28)=X:=⟨_,rfl⟩;rw[hws]at bS hal;obtain⟨gs,hgs⟩:∃k,wr.heap.size=k:=⟨_,rfl⟩;rw[hgs]at bS;have s1:ws.cell? ⟨gs,1,none⟩=some (.slice ua un uc):=bS.cell rfl;have h0s:=h0r.o.tm hal;have hOw:=vJ ua un uc (rX 14 su.2) ws (hrow.mono h0s) (by have:=hrow.len;have:(rX 14 su.2).length=un:=hrow.len;omega) hud;have hBs:=hBr.o.late hal;have BV:=hEr.o.later hal;have hbs:=hbr.o.later hal;clear hq1 hq2 hv hblt hrow hul hud hal bS hyt hsu;obtain⟨aG6,aG7,hgs',D9,aG8,aBW,TH,qG,b1I,aYJ⟩:=aN KW hws hgs h0s hOw hBs BV hbs p9 hid;clear KW hws hgs h0s hOw hBs BV hbs p9 hid;go_upto_region 8 with fail
     try rw[hgs'.o]
     try rw[aG7.o]
     go_wp2_with fail
     refine aG8.o.mono ?_;rintro e w8 ⟨a8,c8,rfl,hT8,oV⟩;have VE:=aBW.o.late oV;have hE8:=TH.o.later oV;have h08:=D9.o.tm oV;have a7J:=qG.o.later oV;have hT8:=hT8.mono D9.o.size;have p4:=VE.cell (i:=4) rfl;have u4:=VE.frozen 4;have hB9:jJ (w8.setCell ⟨g,4,none⟩ (.slice a8 un c8)) g 134 #[.int .i64 x.o,.slice za zn zc,.slice a6 n6 c6,.slice ga gn gc,.slice a8 un c8,.slice fa fn fc,.slice a5 n5 c5,.slice ta tn tc]:=VE.set 4 _;have OV:=(But.refl g w8).set 4 (.slice a8 un c8);have VF:=hE8.but OV VE (by decide) (by decide);have hT9:=rF hT8 OV VE (by decide) (by decide);have a0P:GY w0.heap.size (w8.setCell ⟨g,4,none⟩ (.slice a8 un c8)) (phK x d (i+1)) ⟨za,zn,zc,a6,n6,c6,ga,gn,gc,a8,un,c8,fa,fn,fc,a5,n5,c5,ta,tn,tc⟩:=by
      rw[aBU x d aYJ.o,aG6.o];exact⟨VF.z,VF.p,VF.g,hT9,VF.f,VF.mr,VF.th⟩
     have h09:=h08.setCell (p:=⟨g,4,none⟩) hg'.o (.slice a8 un c8);have YM:=a7J.trans OV;clear hE8 VF hT9 hT8 oV VE h08 a7J OV;obtain⟨aSQ,a0Q,aSR,a9J⟩:=aH hB9 a0P h09 YM;clear hB9 a0P h09 YM;go_wp2_with fail
     go_roundw
     case rel=>exact⟨i+1,a8,un,c8,by omega,by go_num,aSQ,a0Q,aSR,a9J⟩
     case measure=>simp[intOf];omega
    ·obtain rfl:i=sn:=by omega
     have hdi:decide ((i:Int)<(i:Int))=false:=by simp
     go_wp2_with fail
     go_ret;refine⟨h0r.o,hbr.o,rfl,⟨za,zn,zc,a6,n6,c6,ga,gn,gc,ja,jn,jc,fa,fn,fc,a5,n5,c5,ta,tn,tc⟩,hBr.o,?_⟩;have:=hEr.o;rw[show i=d.2.1.length by rw[←AQ.o];exact uE.o.symm,aIB]at this;exact this
theorem RX {f:Nat} {d:jD (f+1)} {i:Int} (h:F7 qW f d i):d.1.length≤65535:=by
 have:=h.e2;unfold mQ at this;omega
theorem KX {f:Nat} {d:jD (f+1)} {i:Int} (h:F7 qW f d i):∀t∈d.1,t.2.2.2.length≤1000000:=fun t ht=>by
 have:=aSB (h.tg t ht).2.2;omega
theorem a3Q {o:Int} {ds:List (jD 16)} (h:OfK o ds) {s:Int×jD 15} (hs:s∈pK ds) (h1:s.1=34665):rE 16 (ds.getD 0 (jS 16)) 34665=rX 15 s.2:=by
 rw[show rE 16 (ds.getD 0 (jS 16)) 34665=RB 15 ((pK ds).find? (fun s=>s.1==34665))from xH (f:=15) (d:=ds.getD 0 (jS 16)) rfl _];rcases VD h with e|⟨p,e⟩|⟨g,e⟩|⟨p,g,e⟩
 ·rw[e]at hs;cases hs
 ·rw[e]at hs ⊢;rw[dD.1 hs];rfl
 ·rw[e]at hs;rw[dD.1 hs]at h1;have k:(34853:Int)=34665:=h1;omega
 ·rw[e]at hs ⊢;rcases bQ.1 hs with rfl|hs
  ·rfl
  ·rw[dD.1 hs]at h1;have k:(34853:Int)=34665:=h1;omega
theorem bGA {o:Int} {ds:List (jD 16)} (h:OfK o ds) (hno:∀s∈pK ds,s.1=34853∨uS (nO (rX 15 s.2) 37500)=false):uS (nO (rE 16 (ds.getD 0 (jS 16)) 34665) 37500)=false:=by
 have e0:(∀s∈pK ds,s.1≠34665)→uS (nO (rE 16 (ds.getD 0 (jS 16)) 34665) 37500)=false:=fun hn=>by
  rw[show rE 16 (ds.getD 0 (jS 16)) 34665=RB 15 ((pK ds).find? (fun s=>s.1==34665))from xH (f:=15) (d:=ds.getD 0 (jS 16)) rfl _];rw[List.find?_eq_none.2 (fun s hs=>by simpa using hn s hs)];rfl
 by_cases hx:∃s∈pK ds,s.1=34665
 ·obtain⟨s,hs,h1⟩:=hx;rw[a3Q h hs h1];rcases hno s hs with h2|h2
  ·rw[h1]at h2;exact absurd h2 (by decide)
  ·exact h2
 ·exact e0 fun s hs h1=>hx ⟨s,hs,h1⟩
theorem aYK {o:Int} {ds:List (jD 16)} (h:mJ 16 o ds qW≠0):ZP 16 o ds=1∧ofE 16 o ds=exZ:=by
 have e:ZP 16 o ds=1:=by unfold ZP;rw[if_neg h]
 exact⟨e,by unfold ofE;rw[if_neg (by rw[e];decide)]⟩
theorem aYL {o:Int} {ds:List (jD 16)} (h:mJ 16 o ds qW=0) (hb:uS (nO (rE 16 (ds.getD 0 (jS 16)) 34665) 37500)=true):ZP 16 o ds=6∧ofE 16 o ds=exZ:=by
 have e:ZP 16 o ds=6:=by unfold ZP;rw[if_pos h,if_pos hb]
 exact⟨e,by unfold ofE;rw[if_neg (by rw[e];decide)]⟩
theorem a7K {o:Int} {ds:List (jD 16)} (h:mJ 16 o ds qW=0) (hb:kY (rY 16 o ds)≠0):ZP 16 o ds=6∧ofE 16 o ds=exZ:=by
 have e:ZP 16 o ds=6:=by
  unfold ZP;rw[if_pos h];by_cases hn:uS (nO (rE 16 (ds.getD 0 (jS 16)) 34665) 37500)=true
  ·rw[if_pos hn]
  ·rw[if_neg hn,if_neg hb]
 exact⟨e,by unfold ofE;rw[if_neg (by rw[e];decide)]⟩
theorem a0R {o:Int} {ds:List (jD 16)} (h:mJ 16 o ds qW=0) (hb:uS (nO (rE 16 (ds.getD 0 (jS 16)) 34665) 37500)=false) (h2:kY (rY 16 o ds)=0):ZP 16 o ds=0∧ofE 16 o ds=rY 16 o ds:=by
 have e:ZP 16 o ds=0:=by unfold ZP;rw[if_pos h,if_neg (by rw[hb];decide),if_pos h2]
 exact⟨e,by unfold ofE;rw[if_pos e]⟩
theorem X9 {f:Nat} {d:jD (f+1)} (h:pU (f+1) d):(∀t∈d.1,mW t.2.2.2)∧(∀s∈d.2.1,pU f s.2)∧mW d.2.2:=h
theorem aSS:∀f,pU f (jS f)
 |0=>trivial
 |f+1=>⟨fun t ht=>(by cases ht),fun s hs=>(by cases hs),fun x hx=>by cases hx⟩
theorem a7L {ds:List (jD 16)} (h:∀d∈ds,pU 16 d) (k:Nat):pU 16 (ds.getD k (jS 16)):=by
 by_cases hk:k<ds.length
 ·rw[jI hk];exact h _ (bL hk)
 ·rw[aV,fZ (by omega)];exact aSS 16
structure bGB (o:Int) (ds:List (jD 16)):Prop where
 wf:WfE (rY 16 o ds)
 SI:a1Q (rY 16 o ds)
 dat:aQO (rY 16 o ds)
theorem a0S {ts:List nC} {u:Int} {t:nC} (h:t∈qL ts u):t∈ts:=(eZ.1 h).1
theorem aST {P:nC→Prop} {ts:List nC} {u:Int} (h:∀t∈ts,P t) (Q:List Int→Prop) (hQ:∀t,P t→Q t.2.2.2) (h0:Q []):Q (nO ts u).2.2.2:=by
 unfold nO;split
 ·rename_i y e;exact hQ y (h y (List.mem_of_find?_eq_some e))
 ·exact h0
def VG (t:nC):Prop:=a1P t∧t.2.2.2.length≤524288
theorem KY {f:Nat} {d:jD (f+1)} {i:Int} (h:F7 qW f d i) (hb:pU (f+1) d):∀t∈d.1,VG t:=fun t ht=>⟨aYH (h.tg t ht).1 ((X9 hb).1 t ht),aSB (h.tg t ht).2.2⟩
theorem a3R {o:Int} {ds:List (jD 16)} (h:OfK o ds) (hb:∀d∈ds,pU 16 d):∀s∈pK ds,(∀t∈rX 15 s.2,VG t)∧(∀t u,t∈rE 15 s.2 u→VG t):=fun s hs=>by
 have hb0:=(X9 (a7L hb 0)).2.1 s hs;rcases MF h.h0 s hs with ⟨e,k⟩|⟨e,k⟩
 ·refine⟨fun t ht=>KY k hb0 t ht,fun t u ht=>?_⟩;rw[xH (f:=14) (d:=s.2) rfl]at ht;cases hq:s.2.2.1.find? (fun s=>s.1==u)with
  |none=>rw[hq]at ht;cases ht
  |some y=>
   rw[hq]at ht;have hm:=List.mem_of_find?_eq_some hq;exact KY (HZ k y hm).2 ((X9 hb0).2.1 y hm) t ht
 ·refine⟨fun t ht=>KY k hb0 t ht,fun t u ht=>?_⟩;rw[xH (f:=14) (d:=s.2) rfl,aM5 (.inl rfl) k]at ht;cases ht
theorem a0T {o:Int} {ds:List (jD 16)} (h:OfK o ds) (hb:∀d∈ds,pU 16 d) (u:Int):∀t∈rE 16 (ds.getD 0 (jS 16)) u,VG t:=fun t ht=>by
 rw[show rE 16 (ds.getD 0 (jS 16)) u=RB 15 ((pK ds).find? (fun s=>s.1==u))from xH (f:=15) (d:=ds.getD 0 (jS 16)) rfl _]at ht;cases hq:(pK ds).find? (fun s=>s.1==u)with
 |none=>rw[hq]at ht;cases ht
 |some y=>
  rw[hq]at ht;exact(a3R h hb y (List.mem_of_find?_eq_some hq)).1 t ht
theorem aBX {o:Int} {ds:List (jD 16)} (h:OfK o ds) (hb:∀d∈ds,pU 16 d) (u v:Int):∀t∈KH 16 (ds.getD 0 (jS 16)) u v,VG t:=fun t ht=>by
 rw[show KH 16 (ds.getD 0 (jS 16)) u v=U1 15 v ((pK ds).find? (fun s=>s.1==u))from U7 (f:=15) (d:=ds.getD 0 (jS 16)) rfl _ _]at ht;cases hq:(pK ds).find? (fun s=>s.1==u)with
 |none=>rw[hq]at ht;cases ht
 |some y=>
  rw[hq]at ht;exact(a3R h hb y (List.mem_of_find?_eq_some hq)).2 t v ht
theorem aG9 {o:Int} {ds:List (jD 16)} (h:OfK o ds) (hb:∀d∈ds,pU 16 d):∀t∈rX 16 (ds.getD 1 (jS 16)),VG t:=fun t ht=>by
 rcases h.len with e|e
 ·rw[aV,fZ (by omega)]at ht;cases ht
 ·exact KY (h.h1 e) (a7L hb 1) t ht
theorem aIC {o:Int} {ds:List (jD 16)} (h:OfK o ds) (hb:∀d∈ds,pU 16 d):bGB o ds:=by
 have hz:∀t∈rX 16 (ds.getD 0 (jS 16)),VG t:=fun t ht=>KY h.h0 (a7L hb 0) t ht;have hp:=a0T h hb 34665;have hg:=a0T h hb 34853;have hi:=aBX h hb 34665 40965;have hf:=aG9 h hb;refine⟨⟨fun t ht=>(hz t ht).1,fun t ht=>(hp t (a0S ht)).1,fun t ht=>(hg t ht).1,fun t ht=>(hi t ht).1,fun t ht=>(hf t ht).1⟩,
  ⟨fun t ht=>(hz t ht).1.2,fun t ht=>(hp t (a0S ht)).1.2,fun t ht=>(hg t ht).1.2,fun t ht=>(hi t ht).1.2,fun t ht=>(hf t ht).1.2,?_,?_⟩,
  ⟨fun t ht=>?_,fun t ht=>?_,fun t ht=>?_,fun t ht=>?_,fun t ht=>?_⟩⟩
 ·exact aST (P:=VG) hp mW (fun t k=>k.1.2) (fun x hx=>by cases hx)
 ·exact(X9 (f:=15) (a7L hb 1)).2.2
 ·have:=(hz t ht).2;omega
 ·have:=(hp t (a0S ht)).2;omega
 ·have:=(hg t ht).2;omega
 ·have:=(hi t ht).2;omega
 ·have:=(hf t ht).2;omega
