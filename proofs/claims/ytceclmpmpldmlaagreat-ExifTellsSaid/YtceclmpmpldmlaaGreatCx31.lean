import Derived.Test.YtceclmpmpldmlaaGreatCx29
import Derived.Test.YtceclmpmpldmlaaGreatCx30
set_option linter.unusedSimpArgs false
set_option linter.unusedVariables false
namespace Go.Proofs.YtceclmpmpldmlaaGreat
open Go.RowKit Tt
theorem kX.aDN {X:Nat→Prop} {B:Nat} {w:World} {a:Option Addr} {n c:Nat} {ts:List rM} (h:kX X B w (.slice a n c) ts):rA w a n c ts:=by
 obtain⟨zs,rfl,h2,h3⟩:=h;have hm:=(Sl.jU h2.1).2;have hs:=(Sl.jU h2.1).1;exact⟨zs,⟨hs,fun z hz=>(h3 z hz).sl⟩,rfl⟩
theorem ExO.rd {B:Nat} {w:World} {x:wP} {A:ExA} (h:ExO B w x A):ExR w x A:=
 ⟨h.z.aDN,h.p.aDN,h.g.aDN,h.i.aDN,h.f.aDN,(Sl.jU h.mr).1,(Sl.jU h.th).1⟩
theorem ExO.later {B:Nat} {w w':World} {x:wP} {A:ExA} (h:ExO B w x A) (hb:Below w.heap.size w w'):ExO B w' x A:=
 ⟨h.z.keep (Kp.later hb),h.p.keep (Kp.later hb),h.g.keep (Kp.later hb),h.i.keep (Kp.later hb),h.f.keep (Kp.later hb),kC h.mr hb,kC h.th hb⟩
theorem K9 {X:Nat→Prop} {B g:Nat} {w w':World} {v:Value} {ts:List rM} {T:TypeId} {cs:Array Value} (h:kX X B w v ts) (b:But g w w') (hb:jW w g T cs) (h1:74≠T) (h2:5≠T):kX X B w' v ts:=by
 obtain⟨zs,e,h3,h4⟩:=h;exact⟨zs,e,tT h3 b hb h1,fun z hz=>tT (h4 z hz) b hb h2⟩
theorem ExO.but {B g:Nat} {w w':World} {x:wP} {A:ExA} {T:TypeId} {cs:Array Value} (h:ExO B w x A) (b:But g w w') (hb:jW w g T cs) (h1:74≠T) (h2:5≠T):ExO B w' x A:=
 ⟨K9 h.z b hb h1 h2,K9 h.p b hb h1 h2,K9 h.g b hb h1 h2,K9 h.i b hb h1 h2,K9 h.f b hb h1 h2,KP h.mr b (mY h.mr hb h2),KP h.th b (mY h.th hb h2)⟩
theorem aZZ {b:Nat} (w:World) (cs:Array Value):But b w (w.setRow b cs):=
 ⟨rfl,rfl,rfl,by rw[show(w.setRow b cs).heap.size=w.heap.size by simp[World.setRow]];exact aZ _,fun k hk oJ=>setRow_other w b k cs oJ⟩
theorem OG (a:Option Addr) (n c:Nat) (ts:List rM) (w:World) (hs:rA w a n c ts) (hl:n≤1000000) (hd:∀t∈ts,t.2.2.2.length≤1000000):
  Calls Tryz.prog 57 #[.slice a n c] w fun e w'=>∃a' c',e= .returned (.slice a' n c')∧kX DT w.heap.size w' (.slice a' n c') ts∧Below w.heap.size w w':=by
 obtain⟨zs,h1,rfl⟩:=hs;exact LK a n c zs w h1 hl (fun z hz=>hd _ (fP hz))
abbrev exN:Array Value:=#[.int .i64 0,.slice none 0 0,.slice none 0 0,.slice none 0 0,.slice none 0 0,.slice none 0 0,.slice none 0 0,.slice none 0 0]
set_option maxRecDepth 20000 in
set_option maxHeartbeats 8000000 in
theorem aIH (x:wP) (A:ExA) (w:World) (h:ExR w x A) (hs:IQ x) (hd:aDV x):
  Calls Tryz.prog 20 #[exV x.o A] w fun e w'=>∃A':ExA,e= .returned (exV x.o A')∧ExO w.heap.size w' x A'∧Below w.heap.size w w':=by
 obtain⟨za,zn,zc,pa,pn,pc,ga,gn,gc,ia,iN,ic,fa,fn,fc,ma,mn,mc,ta,tn,tc⟩:=A;obtain⟨o,z,p,g,i,f,mk,th⟩:=x;obtain⟨sz,sp,sg,si,sf,sm,st⟩:=hs;obtain⟨dz,dp,dg,di,df⟩:=hd;simp only[exV,R9]at*;obtain⟨hz,hp,hg,hi,hf,hm,ht⟩:=h;have lz:z.length=zn:=hz.len;have lp:p.length=pn:=hp.len;have lg:g.length=gn:=hg.len;have li:i.length=iN:=hi.len;have lf:f.length=fn:=hf.len;have lm:mk.length=mn:=hm.nU;have lt:th.length=tn:=ht.nU;obtain⟨W,hW,bE,bR,hb,rX⟩:=nM w 61 #[.int .i64 o,.slice za zn zc,.slice pa pn pc,.slice ga gn gc,.slice ia iN ic,.slice fa fn fc,.slice ma mn mc,.slice ta tn tc] 61 exN;have hC0:=fun W (hb:Below w.heap.size w W)=>OG za zn zc z W (hz.mono hb) aG dz;have hC1:=fun W (hb:Below w.heap.size w W)=>OG pa pn pc p W (hp.mono hb) aG dp;have hC2:=fun W (hb:Below w.heap.size w W)=>OG ga gn gc g W (hg.mono hb) aG dg;have hC3:=fun W (hb:Below w.heap.size w W)=>OG ia iN ic i W (hi.mono hb) aG di;have hC4:=fun W (hb:Below w.heap.size w W)=>OG fa fn fc f W (hf.mono hb) aG df;have hC5:=fun W (hb:Below w.heap.size w W)=>EG ma mn mc mk W (hm.mono hb) aG;have hC6:=fun W (hb:Below w.heap.size w W)=>EG ta tn tc th W (ht.mono hb) aG;obtain⟨Ty,ff,oJ,jN,jK⟩:=kE W;have HD:=aA ((aY W.heap.size W).drew);have HS:=aA (jK W.drew HD.o);have q0:=fun s=>(bE.late (jN s)).cell (i:=0) rfl;have q1:=fun s=>(bE.late (jN s)).cell (i:=1) rfl;have q2:=fun s=>(bE.late (jN s)).cell (i:=2) rfl;have q3:=fun s=>(bE.late (jN s)).cell (i:=3) rfl;have q4:=fun s=>(bE.late (jN s)).cell (i:=4) rfl;have q5:=fun s=>(bE.late (jN s)).cell (i:=5) rfl;have q6:=fun s=>(bE.late (jN s)).cell (i:=6) rfl;have q7:=fun s=>(bE.late (jN s)).cell (i:=7) rfl;obtain⟨AQ,hp',TQ,xG,QJ,EN,TV,lz',lp',lg',li',lf'⟩:=aT hz hp hg hi hf hm ht lz lp lg li lf;obtain⟨lm',lt',LM,bR',mO,I5,zL,sz',sp',sg',si',sf'⟩:=aT lm lt bE bR hb hW rX sz sp sg si sf;obtain⟨sm',st',dz',dp',dg',di',df',aU4,aNM,aU5,a6O,aU6⟩:=aT sm st dz dp dg di df hC0 hC1 hC2 hC3 hC4;obtain⟨aSC,aZ9,jH,jF⟩:=aL hC5 hC6 jN jK;clear hz hp hg hi hf hm ht lz lp lg li lf lm lt bE bR hb hW rX sz sp sg si sf sm st dz dp dg di df hC0 hC1 hC2 hC3 hC4 hC5 hC6 jN jK;go_enter Tryz.func20,Tryz.ntmps20;go_upto_region 1 with fail
 rw[I5.o];go_wp2_with fail
 refine NE ?_;refine vN (t:=24) (C:=fun W=>∃s,W=ff s) aF 25 rfl ?_;obtain⟨wD,qF⟩:=aC W.drew;rw[qF]at HS HD ⊢;clear qF;refine nC [0,1,2,3,5,6,8,9,11,12,14,15,17,18,20,21] 9 aF pU aF aF aF HS.o ?_;simp only[jI,aW,aX,aU,aV];iterate 16 (go_big_quiet_step (fail))
 refine wpQuiet_nil ?_;refine kV 4 8 aF aF ?_;simp only[jI,aW,aX,aU,aV];go_wp2_with fail
 refine(aU4.o wD (mO.o.tm HD.o)).mono ?_;rintro e v0 ⟨a0,c0,rfl,t0,RU⟩;have b8M:=HD.o.tm RU;have HS:=aA (jF.o v0 b8M);have r0:=t0.mono (bQ mO.o.size HD.o.size);clear t0;obtain⟨bU1,aKW,r0'⟩:=aK RU b8M r0;clear RU b8M r0;go_wp2_with fail
 refine Mid.mk ⟨fun _=>HS.o,?_⟩;refine kV 7 7 aF aF ?_;simp only[jI,aW,aX,aU,aV];go_wp2_with fail
 refine(aNM.o v0 (mO.o.tm aKW.o)).mono ?_;rintro e v1 ⟨a1,c1,rfl,t1,a0D⟩;have aFT:=aKW.o.tm a0D;have HS:=aA (jF.o v1 aFT);have r1:=t1.mono (bQ mO.o.size aKW.o.size);have r0:=r0'.o.keep (Kp.later a0D);clear r0';clear t1;obtain⟨bI8,aB2,r0',r1'⟩:=aL a0D aFT r0 r1;clear a0D aFT r0 r1;go_wp2_with fail
 refine Mid.mk ⟨fun _=>HS.o,?_⟩;refine kV 10 6 aF aF ?_;simp only[jI,aW,aX,aU,aV];go_wp2_with fail
 refine(aU5.o v1 (mO.o.tm aB2.o)).mono ?_;rintro e v2 ⟨a2,c2,rfl,t2,aAA⟩;have b8N:=aB2.o.tm aAA;have HS:=aA (jF.o v2 b8N);have r2:=t2.mono (bQ mO.o.size aB2.o.size);have r0:=r0'.o.keep (Kp.later aAA);have r1:=r1'.o.keep (Kp.later aAA);clear r0' r1';clear t2;obtain⟨bI9,aKX,r0',r1',r2'⟩:=aM aAA b8N r0 r1 r2;clear aAA b8N r0 r1 r2;go_wp2_with fail
 refine Mid.mk ⟨fun _=>HS.o,?_⟩;refine kV 13 5 aF aF ?_;simp only[jI,aW,aX,aU,aV];go_wp2_with fail
 refine(a6O.o v2 (mO.o.tm aKX.o)).mono ?_;rintro e v3 ⟨a3,c3,rfl,t3,aOH⟩;have b8O:=aKX.o.tm aOH;have HS:=aA (jF.o v3 b8O);have r3:=t3.mono (bQ mO.o.size aKX.o.size);have r0:=r0'.o.keep (Kp.later aOH);have r1:=r1'.o.keep (Kp.later aOH);have r2:=r2'.o.keep (Kp.later aOH);clear r0' r1' r2';clear t3;obtain⟨bU2,aKY,r0',r1',r2',r3'⟩:=aN aOH b8O r0 r1 r2 r3;clear aOH b8O r0 r1 r2 r3;go_wp2_with fail
 refine Mid.mk ⟨fun _=>HS.o,?_⟩;refine kV 16 4 aF aF ?_;simp only[jI,aW,aX,aU,aV];go_wp2_with fail
 refine(aU6.o v3 (mO.o.tm aKY.o)).mono ?_;rintro e v4 ⟨a4,c4,rfl,t4,aII⟩;have b8P:=aKY.o.tm aII;have HS:=aA (jF.o v4 b8P);have r4:=t4.mono (bQ mO.o.size aKY.o.size);have r0:=r0'.o.keep (Kp.later aII);have r1:=r1'.o.keep (Kp.later aII);have r2:=r2'.o.keep (Kp.later aII);have r3:=r3'.o.keep (Kp.later aII);clear r0' r1' r2' r3';clear t4;obtain⟨bU3,aKZ,r0',r1',r2',r3',r4'⟩:=aO aII b8P r0 r1 r2 r3 r4;clear aII b8P r0 r1 r2 r3 r4;go_wp2_with fail
 refine Mid.mk ⟨fun _=>HS.o,?_⟩;refine kV 19 3 aF aF ?_;simp only[jI,aW,aX,aU,aV];go_wp2_with fail
 refine(aSC.o v4 (mO.o.tm aKZ.o)).mono ?_;rintro e v5 ⟨a5,c5,rfl,t5,aE7⟩;have b8Q:=aKZ.o.tm aE7;have HS:=aA (jF.o v5 b8Q);have r5:=kI t5 (bQ mO.o.size aKZ.o.size);have r0:=r0'.o.keep (Kp.later aE7);have r1:=r1'.o.keep (Kp.later aE7);have r2:=r2'.o.keep (Kp.later aE7);have r3:=r3'.o.keep (Kp.later aE7);have r4:=r4'.o.keep (Kp.later aE7);clear r0' r1' r2' r3' r4';clear t5;obtain⟨bU4,aL0,r0',r1',r2',r3',r4',r5'⟩:=aP aE7 b8Q r0 r1 r2 r3 r4 r5;clear aE7 b8Q r0 r1 r2 r3 r4 r5;go_wp2_with fail
 refine Mid.mk ⟨fun _=>HS.o,?_⟩;refine kV 22 2 aF aF ?_;simp only[jI,aW,aX,aU,aV];go_wp2_with fail
 refine(aZ9.o v5 (mO.o.tm aL0.o)).mono ?_;rintro e v6 ⟨a6,c6,rfl,t6,aAB⟩;have b8R:=aL0.o.tm aAB;have HS:=aA (jF.o v6 b8R);have r6:=kI t6 (bQ mO.o.size aL0.o.size);have r0:=r0'.o.keep (Kp.later aAB);have r1:=r1'.o.keep (Kp.later aAB);have r2:=r2'.o.keep (Kp.later aAB);have r3:=r3'.o.keep (Kp.later aAB);have r4:=r4'.o.keep (Kp.later aAB);have r5:=kC r5'.o aAB;clear r0' r1' r2' r3' r4' r5';clear t6;obtain⟨bU5,b26,r0',r1',r2',r3',r4',r5',r6'⟩:=aQ aAB b8R r0 r1 r2 r3 r4 r5 r6;clear aAB b8R r0 r1 r2 r3 r4 r5 r6;go_wp2_with fail
 refine Mid.mk ⟨fun _=>HS.o,?_⟩;have bR9:=bR'.o.late b26.o;have yB:=mO.o.tm b26.o;obtain⟨a4F,tN⟩:=aJ bR9 yB;clear bR9 yB;refine nC [23] 1 aF pU aF aF aF HS.o ?_;simp only[jI,aW,aX,aU,aV];iterate 1 (go_big_quiet_step (fail))
 refine wpQuiet_nil ?_;refine kV 24 0 aF aF ?_;simp only[jI,aW,aX,aU,aV];go_wp2_with (refine wpList_store_row rfl 61 (.tmp 2) (.tmp 26) rfl (w.heap.size+1) #[.int .i64 o,.slice a0 zn c0,.slice a1 pn c1,.slice a2 gn c2,.slice a3 iN c3,.slice a4 fn c4,.slice a5 mn c5,.slice a6 tn c6] rfl rfl 61 _ a4F.o aF rfl aF ?_)
 have oU:=aZZ (b:=w.heap.size+1) v6 #[.int .i64 o,.slice a0 zn c0,.slice a1 pn c1,.slice a2 gn c2,.slice a3 iN c3,.slice a4 fn c4,.slice a5 mn c5,.slice a6 tn c6];have hO:ExO w.heap.size v6 ⟨o,z,p,g,i,f,mk,th⟩ ⟨a0,zn,c0,a1,pn,c1,a2,gn,c2,a3,iN,c3,a4,fn,c4,a5,mn,c5,a6,tn,c6⟩:=⟨r0'.o,r1'.o,r2'.o,r3'.o,r4'.o,r5'.o,r6'.o⟩;have hO2:=ExO.but hO oU a4F.o aH aH;have bIA:=a4F.o.row #[.int .i64 o,.slice a0 zn c0,.slice a1 pn c1,.slice a2 gn c2,.slice a3 iN c3,.slice a4 fn c4,.slice a5 mn c5,.slice a6 tn c6];have CQ:=kH tN.o (dY _ 1) #[.int .i64 o,.slice a0 zn c0,.slice a1 pn c1,.slice a2 gn c2,.slice a3 iN c3,.slice a4 fn c4,.slice a5 mn c5,.slice a6 tn c6];obtain⟨a2H,zZ,bPY,bIB,a8K⟩:=aM oU hO hO2 bIA CQ;clear oU hO hO2 bIA CQ;refine⟨by kernel_rfl,wT ?_⟩;go_wp2_with fail
 refine bodyPost_ret (results_cell_row rfl _ _ (w.heap.size+1) 61 #[.int .i64 o,.slice a0 zn c0,.slice a1 pn c1,.slice a2 gn c2,.slice a3 iN c3,.slice a4 fn c4,.slice a5 mn c5,.slice a6 tn c6] (0,0) _ rfl bIB.o Tryz.underlying61 rfl aF) rfl ?_;exact⟨⟨a0,zn,c0,a1,pn,c1,a2,gn,c2,a3,iN,c3,a4,fn,c4,a5,mn,c5,a6,tn,c6⟩,rfl,bPY.o,a8K.o⟩
theorem VT {w:World} {f:Nat} {ta:Option Addr} {tn tc:Nat} {ts:List rM} {sa:Option Addr} {sn sc:Nat} {ds:List (Int×Dz)} {subs:List (Int×jR f)} {ba:Option Addr} {bn bc:Nat} {b:List Int} (ht:rA w ta tn tc ts) (hs:Sl w sa sn sc 4 (fl sbC ds)) (hl:ds.length=subs.length)
  (h:∀i (h:i<ds.length) (h':i<subs.length),ds[i].1=subs[i].1∧wH w f subs[i].2 ds[i].2) (hb:Sl w ba bn bc 1 (ints .u8 b)):wH w (f+1) (ts,subs,b) (.slice ta tn tc,.slice sa sn sc,.slice ba bn bc):=by
 obtain⟨zs,hz,rfl⟩:=ht;exact⟨ta,tn,tc,zs,sa,sn,sc,ds,ba,bn,bc,rfl,hz,rfl,hs,hl,h,hb⟩
theorem b27 {w:World} {f:Nat} {a:Option Addr} {n c:Nat} {ts:List rM} (h:rA w a n c ts):wH w (f+1) (tC f ts) (.slice a n c,.slice none 0 0,.slice none 0 0):=
 VT (ds:= []) (b:= []) h (Sl.nil _ _) rfl (fun i hi=>by cases hi) (Sl.nil _ _)
def HV (w0 w:World) (f:Nat) (v:Value) (n:Nat) (subs:List (Int×jR f)):Prop:=
 ∃ds:List (Int×Dz),ds.length=subs.length∧subs.length=n∧w.ownsRow w0.heap.size 28 4 v n (fl sbC ds)∧∀i (h:i<ds.length) (h':i<subs.length),ds[i].1=subs[i].1∧wH w0 f subs[i].2 ds[i].2
theorem HV.later {w0 w w':World} {f n:Nat} {v:Value} {subs:List (Int×jR f)} (h:HV w0 w f v n subs) (hb:Below w.heap.size w w'):HV w0 w' f v n subs:=by
 obtain⟨ds,h1,h2,h3,h4⟩:=h;exact⟨ds,h1,h2,kC h3 hb,h4⟩
theorem HV.but {w0 w w':World} {f n g:Nat} {v:Value} {T:TypeId} {cs:Array Value} {subs:List (Int×jR f)} (h:HV w0 w f v n subs) (b:But g w w') (hb:jW w g T cs) (hT:28≠T):HV w0 w' f v n subs:=by
 obtain⟨ds,h1,h2,h3,h4⟩:=h;exact⟨ds,h1,h2,KP h3 b (mY h3 hb hT),h4⟩
theorem HV.snoc {w0 w w':World} {f n:Nat} {v v':Value} {subs:List (Int×jR f)} {t:Int} {d:jR f} {dz:Dz} (h:HV w0 w f v n subs)
  (ob:∀ds:List (Int×Dz),w.ownsRow w0.heap.size 28 4 v n (fl sbC ds)→w'.ownsRow w0.heap.size 28 4 v' (n+1) (fl sbC ds++sbC (t,dz))) (hd:wH w0 f d dz):HV w0 w' f v' (n+1) (subs++ [(t,d)]):=by
 obtain⟨ds,h1,h2,h3,h4⟩:=h;refine⟨ds++ [(t,dz)],by simp[h1],by simp[h2],?_,fun i hi xG=>?_⟩
 ·rw[BV];exact ob ds h3
 ·by_cases hi2:i<ds.length
  ·rw[eU hi2,eU aG];exact h4 i hi2 aG
  ·have hie:i=ds.length:=by simp at hi;omega
   subst hie;rw[fC (aZ _),fC aG];simp only[iP,gU,h1];exact⟨trivial,hd⟩
def b28 (w0 w:World) (f:Nat) (v:Value) (n:Nat) (ds:List (jR f)):Prop:=
 ∃xC:List Dz,xC.length=ds.length∧ds.length=n∧w.ownsRow w0.heap.size 26 3 v n (fl YR xC)∧∀i (h:i<xC.length) (h':i<ds.length),wH w0 f ds[i] xC[i]
theorem bIC {x:wP} (hd:aDV x) (hm:x.mr.length≤1000000):∀d∈mI x,VQ 16 d:=by
 obtain⟨hz,hp,hg,hi,hf⟩:=hd;have si:VQ 14 (tC 13 x.i):=⟨hi,fun s hs=>(by cases hs)⟩;have sg:VQ 15 (tC 14 x.g):=⟨hg,fun s hs=>(by cases hs)⟩;have sp:VQ 15 (sF x):=by
  refine⟨fun t ht=>?_,fun s hs=>?_⟩
  ·have ht:t∈qV x:=ht;unfold qV at ht;split at ht
   ·rcases mem_set ht with rfl|ht
    ·exact hm
    ·exact hp t ht
   ·exact hp t ht
  ·have hs:s∈qI x:=hs;unfold qI at hs;split at hs
   ·rw[dL.1 hs];exact si
   ·cases hs
 have sz:VQ 16 (yD x):=by
  refine⟨hz,fun s hs=>?_⟩;rcases a3S hs with ⟨e,_⟩|⟨e,_⟩
  ·rw[e];exact sp
  ·rw[e];exact sg
 have sf:VQ 16 (LJ x):=⟨hf,fun s hs=>(by cases hs)⟩;intro d hd;unfold mI at hd;rcases cB.1 hd with rfl|hd
 ·exact sz
 ·split at hd
  ·rw[dL.1 hd];exact sf
  ·cases hd
def aE8 (gd:Nat) (w:World) (a:Option Addr) (n c:Nat) (ts:List rM):Prop:=∀w',But gd w w'→rA w' a n c ts
theorem aE8.rd {gd:Nat} {w:World} {a:Option Addr} {n c:Nat} {ts:List rM} (h:aE8 gd w a n c ts):rA w a n c ts:=h w (But.refl _ _)
theorem aE8.step {gd:Nat} {w w':World} {a:Option Addr} {n c:Nat} {ts:List rM} (h:aE8 gd w a n c ts) (b:But gd w w'):aE8 gd w' a n c ts:=fun w2 b2=>h w2 (b.trans b2)
theorem aOI {gd:Nat} {w wx w':World} (hb:Below w.heap.size w wx) (b:But gd wx w') (h:w.heap.size≤gd):Below w.heap.size w w':=
 ⟨b.os.trans hb.os,b.tape.trans hb.tape,b.output.trans hb.output,bQ hb.size b.size,fun k hk=>(b.block k (cK hk hb.size) aG).trans (hb.block k hk)⟩
theorem rA.b8S {gd:Nat} {w wx:World} {a:Option Addr} {n c:Nat} {ts:List rM} (h:rA w a n c ts) (hb:Below w.heap.size w wx) (hg:w.heap.size≤gd):aE8 gd wx a n c ts:=fun w' b=>h.mono (aOI hb b hg)
theorem kX.b8S {X:Nat→Prop} {B gd:Nat} {w:World} {a:Option Addr} {n c:Nat} {ts:List rM} {cs:Array Value} (h:kX X B w (.slice a n c) ts) (hb:jW w gd 26 cs):aE8 gd w a n c ts:=fun w' b=>(h.zK b hb).aDN
