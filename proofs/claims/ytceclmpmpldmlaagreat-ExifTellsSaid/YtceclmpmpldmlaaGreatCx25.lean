import Derived.Test.YtceclmpmpldmlaaGreatCx24
set_option linter.unusedSimpArgs false
set_option linter.unusedVariables false
set_option maxRecDepth 100000
set_option maxHeartbeats 8000000
namespace Go.Proofs.YtceclmpmpldmlaaGreat
open Go.RowKit Tt
theorem qA.ne {X:Nat→Prop} {B B2:Nat} {w w':World} {u:Value} {n:Nat} {xs:List Value} (hu:w.ownsRow B2 26 3 u n xs) (hg:w.grownBy w' u.ownBlock):∀{f:Nat} {d:jR f} {v:Dz},qA X B w f d v→qA X B w' f d v
 |0,_,_,h=>h.elim
 |f+1,d,v,h=>by
  have key:∀{T:TypeId} {v':Value} {s n:Nat} {ys:List Value},Ck X B w v' T s n ys→T≠26→Ck X B w' v' T s n ys:=fun h hT=>⟨PN h.1 hg (fun k hk hk2=>by
   rcases EF h.1 hu hT with h5|h5
   ·rw[h5]at hk;cases hk
   ·exact h5 (hk.trans hk2.symm)),h.2⟩
  obtain⟨h0,⟨zs,g1,g2,g3⟩,⟨ds,h2,h3,h4⟩,h5⟩:=h;exact⟨h0,⟨zs,g1,key g2 aH,fun z hz=>key (g3 z hz) aH⟩,⟨ds,h2,key h3 aH,fun i hi xG=>⟨(h4 i hi xG).1,(h4 i hi xG).2.ne hu hg⟩⟩,key h5 aH⟩
theorem qA.aDM {X:Nat→Prop} {B g:Nat} {w w':World} {cs:Array Value} (b:But g w w') (hb:jW w g 39 cs):∀{f:Nat} {d:jR f} {v:Dz},qA X B w f d v→qA X B w' f d v
 |0,_,_,h=>h.elim
 |f+1,d,v,h=>by
  obtain⟨h0,⟨zs,g1,g2,g3⟩,⟨ds,h2,h3,h4⟩,h5⟩:=h;exact⟨h0,⟨zs,g1,tT g2 b hb aH,fun z hz=>tT (g3 z hz) b hb aH⟩,⟨ds,h2,tT h3 b hb aH,fun i hi xG=>⟨(h4 i hi xG).1,(h4 i hi xG).2.aDM b hb⟩⟩,tT h5 b hb aH⟩
def vD (B:Nat) (w:World) (f:Nat) (v:Value) (ds:List (jR f)):Prop:=
 ∃xC:List Dz,xC.length=ds.length∧w.ownsRow B 26 3 v xC.length (fl YR xC)∧∀i (h:i<xC.length) (h':i<ds.length),qA DT B w f ds[i] xC[i]
theorem vD.later {B f:Nat} {w w':World} {v:Value} {ds:List (jR f)} (h:vD B w f v ds) (hb:Below w.heap.size w w'):vD B w' f v ds:=by
 obtain⟨xC,h1,h2,h3⟩:=h;exact⟨xC,h1,kC h2 hb,fun i hi xG=>(h3 i hi xG).keep (Kp.later hb)⟩
theorem vD.aDM {B g f:Nat} {w w':World} {v:Value} {ds:List (jR f)} {cs:Array Value} (h:vD B w f v ds) (b:But g w w') (hb:jW w g 39 cs):vD B w' f v ds:=by
 obtain⟨xC,h1,h2,h3⟩:=h;exact⟨xC,h1,KP h2 b (mY h2 hb aH),fun i hi xG=>(h3 i hi xG).aDM b hb⟩
theorem vD.rd {B f:Nat} {w:World} {a:Option Addr} {n c:Nat} {ds:List (jR f)} (h:vD B w f (.slice a n c) ds):yP f w a n c ds:=by
 obtain⟨xC,h1,h2,h3⟩:=h;exact⟨xC,h1,(Sl.jU h2).1,fun i hi xG=>(h3 i hi xG).rd⟩
theorem vD.snoc {B f:Nat} {w w':World} {v v':Value} {ds:List (jR f)} {d:jR f} {dz:Dz} {n:Nat} (h:vD B w f v ds) (hn:ds.length=n) (hg:w.grownBy w' v.ownBlock)
  (ob:∀xC:List Dz,w.ownsRow B 26 3 v n (fl YR xC)→w'.ownsRow B 26 3 v' (n+1) (fl YR xC++YR dz)) (hd:qA DT B w f d dz):vD B w' f v' (ds++ [d]):=by
 obtain⟨xC,h2,h3,h4⟩:=h;have sM:xC.length=n:=h2.trans hn;refine⟨xC++ [dz],by simp[h2],?_,fun i hi xG=>?_⟩
 ·rw[cO,BV,iV,sM];exact ob xC (by rw[←sM];exact h3)
 ·by_cases hi2:i<xC.length
  ·rw[eU hi2,eU aG];exact(h4 i hi2 aG).ne h3 hg
  ·have hie:i=xC.length:=by simp at hi;omega
   subst hie;rw[fC (aZ _),fC aG];simp only[iP,gU,h2];exact hd.ne h3 hg
theorem aA3 (a1 a2 a3:Option Addr) (n1 n2 n3 c1 c2 c3:Nat):∀u∈YR (.slice a1 n1 c1,.slice a2 n2 c2,.slice a3 n3 c3),u.oneCell'=true:=by
 intro u hu;simp only[YR,cB,dK,or_false]at hu;rcases hu with rfl|rfl|rfl <;> rfl
def rA (w:World) (a:Option Addr) (n c:Nat) (ts:List rM):Prop:=∃zs:List Tz,Tgr w a n c zs∧ts=zs.map l8
theorem rA.mono {w w':World} {a:Option Addr} {n c:Nat} {ts:List rM} (h:rA w a n c ts) (hb:Below w.heap.size w w'):rA w' a n c ts:=by
 obtain⟨zs,h1,h2⟩:=h;exact⟨zs,h1.mono hb,h2⟩
theorem rA.len {w:World} {a:Option Addr} {n c:Nat} {ts:List rM} (h:rA w a n c ts):ts.length=n:=by
 obtain⟨zs,h1,rfl⟩:=h;rw[bL];exact h1.len
theorem FK (zs:List Tz):zs.map tag=zs.map l8:=rfl
theorem Tgr.tr {w:World} {a:Option Addr} {n c:Nat} {zs:List Tz} (h:Tgr w a n c zs):Tr w a n c zs:=⟨h.row,h.each⟩
theorem Tr.tgr {w:World} {a:Option Addr} {n c:Nat} {zs:List Tz} (h:Tr w a n c zs):Tgr w a n c zs:=⟨h.row,h.each⟩
theorem rA.ts {w:World} {a:Option Addr} {n c:Nat} {ts:List rM} (h:rA w a n c ts):Ts w a n c ts:=by
 obtain⟨zs,h1,rfl⟩:=h;exact h1.tr.ts
theorem Ts.aDN {w:World} {a:Option Addr} {n c:Nat} {ts:List rM} (h:Ts w a n c ts):rA w a n c ts:=by
 obtain⟨zs,h1,rfl⟩:=h.tr;exact⟨zs,h1.tgr,rfl⟩
theorem rA.max {w:World} {a:Option Addr} {n c:Nat} {ts:List rM} (h:rA w a n c ts):n≤9223372036854775807:=by
 obtain⟨zs,h1,rfl⟩:=h;exact bQ h1.row.le h1.row.max
structure ExA where
 za:Option Addr
 zn:Nat
 zc:Nat
 pa:Option Addr
 pn:Nat
 pc:Nat
 ga:Option Addr
 gn:Nat
 gc:Nat
 ia:Option Addr
 iN:Nat
 ic:Nat
 fa:Option Addr
 fn:Nat
 fc:Nat
 ma:Option Addr
 mn:Nat
 mc:Nat
 ta:Option Addr
 tn:Nat
 tc:Nat
abbrev R9 (o:Int) (A:ExA):Array Value:=#[.int .i64 o,.slice A.za A.zn A.zc,.slice A.pa A.pn A.pc,.slice A.ga A.gn A.gc,.slice A.ia A.iN A.ic,.slice A.fa A.fn A.fc,.slice A.ma A.mn A.mc,.slice A.ta A.tn A.tc]
abbrev exV (o:Int) (A:ExA):Value:= .agg (R9 o A)
structure ExR (w:World) (x:wP) (A:ExA):Prop where
 z:rA w A.za A.zn A.zc x.z
 p:rA w A.pa A.pn A.pc x.p
 g:rA w A.ga A.gn A.gc x.g
 i:rA w A.ia A.iN A.ic x.i
 f:rA w A.fa A.fn A.fc x.f
 mr:Sl w A.ma A.mn A.mc 1 (ints .u8 x.mr)
 th:Sl w A.ta A.tn A.tc 1 (ints .u8 x.th)
theorem ExR.mono {w w':World} {x:wP} {A:ExA} (h:ExR w x A) (hb:Below w.heap.size w w'):ExR w' x A:=
 ⟨h.z.mono hb,h.p.mono hb,h.g.mono hb,h.i.mono hb,h.f.mono hb,h.mr.mono hb,h.th.mono hb⟩
theorem rA.nil (w:World):rA w none 0 0 []:=⟨[],⟨Sl.nil _ _,fun z hz=>by cases hz⟩,rfl⟩
structure ExO (B:Nat) (w:World) (x:wP) (A:ExA):Prop where
 z:kX DT B w (.slice A.za A.zn A.zc) x.z
 p:kX DT B w (.slice A.pa A.pn A.pc) x.p
 g:kX DT B w (.slice A.ga A.gn A.gc) x.g
 i:kX DT B w (.slice A.ia A.iN A.ic) x.i
 f:kX DT B w (.slice A.fa A.fn A.fc) x.f
 mr:w.ownsRow B 5 1 (.slice A.ma A.mn A.mc) A.mn (ints .u8 x.mr)
 th:w.ownsRow B 5 1 (.slice A.ta A.tn A.tc) A.tn (ints .u8 x.th)
theorem slB {W:World} {g:Nat} {T:TypeId} {cs:List Value} {n sz:Nat} (h:jW W g T cs.toArray) (hl:cs.length=n*sz) (hn:n≤9223372036854775807):Sl W (some ⟨g,0,none⟩) n n sz cs:=
 ⟨hl,aZ _,hn,fun i hi=>⟨g,0,rfl,h.lt,fun j v hv=>by
  have:=h.cell (i:=j) (v:=v) (by simpa using hv);rw[dU];exact this⟩,fun h=>by cases h⟩
abbrev b7N (g h:Nat):Array Value:=#[.slice (some ⟨g,0,none⟩) 2 2,.int .i64 0,.int .i64 0,.int .i64 1,.slice none 0 0,.int .i64 513,.int .i64 514,.int .i64 (-1),.slice (some ⟨h,0,none⟩) 1 1,.int .i64 0,.int .i64 0,.int .i64 (-1),.slice none 0 0,.int .i64 0,.int .i64 0,.int .i64 (-1),.slice none 0 0,.int .i64 0,.int .i64 0,.int .i64 (-1)]
abbrev b7O (g h:Nat):List QN:= [((some ⟨g,0,none⟩,2,2),([(34665,2),(34853,3)],0,0,1)),((none,0,0),([],513,514, -1)),((some ⟨h,0,none⟩,1,1),([(40965,4)],0,0, -1)),((none,0,0),([],0,0, -1)),((none,0,0),([],0,0, -1))]
theorem aSX {W:World} {g h k:Nat} (b1:jW W g 32 #[.int .i64 34665,.int .i64 2,.int .i64 34853,.int .i64 3]) (b2:jW W h 32 #[.int .i64 40965,.int .i64 4]) (b3:jW W k 35 (b7N g h)):ShR W (some ⟨k,0,none⟩) 5 5 (b7O g h):=by
 refine⟨slB (T:=35) (cs:=fl shc (b7O g h)) b3 rfl aH,fun z hz=>?_⟩;simp only[b7O,cB,dK,or_false]at hz;rcases hz with rfl|rfl|rfl|rfl|rfl
 ·exact slB (T:=32) (cs:=fl lkc [(34665,2),(34853,3)]) b1 rfl (by show 2≤9223372036854775807;decide)
 ·exact Sl.nil _ _
 ·exact slB (T:=32) (cs:=fl lkc [(40965,4)]) b2 rfl (by show 1≤9223372036854775807;decide)
 ·exact Sl.nil _ _
 ·exact Sl.nil _ _
theorem Z5 (w:World):Calls Tryz.prog 38 #[] w fun e w'=>∃a zs,e= .returned (.slice a 5 5)∧ShR w' a 5 5 zs∧jP zs=exL∧Below w.heap.size w w':=by
 obtain⟨W,hW,b1,b2,b3,hb,s⟩:=wV w 32 #[.int .i64 34665,.int .i64 2,.int .i64 34853,.int .i64 3] 32 #[.int .i64 40965,.int .i64 4] 35 (b7N w.heap.size (w.heap.size+1));have hr:=aSX b1 b2 b3;obtain⟨I5,b1',b2',b3',mO,s',qX⟩:=aO hW b1 b2 b3 hb s hr;clear hW b1 b2 b3 hb s hr;go_enter Tryz.func38,Tryz.ntmps38;go_wp2_with fail
 rw[I5.o];go_ret;exact⟨_,_,rfl,qX.o,rfl,mO.o⟩
theorem a6Q (w:World):Calls Tryz.prog 66 #[] w fun e w'=>∃a zs,e= .returned (.slice a 5 5)∧ShR w' a 5 5 zs∧jP zs=exL∧Below w.heap.size w w':=by
 obtain⟨W,hW,b1,b2,b3,hb,s⟩:=wV w 32 #[.int .i64 34665,.int .i64 2,.int .i64 34853,.int .i64 3] 32 #[.int .i64 40965,.int .i64 4] 35 (b7N w.heap.size (w.heap.size+1));have hr:=aSX b1 b2 b3;obtain⟨I5,b1',b2',b3',mO,s',qX⟩:=aO hW b1 b2 b3 hb s hr;clear hW b1 b2 b3 hb s hr;go_enter Tryz.func66,Tryz.ntmps66;go_wp2_with fail
 rw[I5.o];go_ret;exact⟨_,_,rfl,qX.o,rfl,mO.o⟩
theorem aSY (a:Option Addr) (n c:Nat) (l:List Int) (w:World) (hs:Sl w a n c 1 (ints .i64 l)) (h1:1≤n):
  Calls Tryz.prog 120 #[.slice a n c] w fun e w'=>∃m,e= .returned (.int .i64 m)∧m∈l∧(∀x∈l,x≤m)∧Below w.heap.size w w':=by
 have hl:=hs.nU;have hm:=hs.max;have BX:=hs.le;obtain⟨b,o,rfl,hb,hc⟩:=hs.lies 0 aG;have hcc:∀i,i<n→w.cell? ⟨b,o+i,none⟩=some (.int .i64 (l.getD i 0)):=fun i hi=>hc i _ (oP aG);have c0:=hcc 0 h1;rw[bU]at c0;have e0:decide ((n:Int)<1)=false:=by simp;omega
 have h1i:(1:Int)≤n:=by omega
 have h0i:(0:Int)<n:=by omega
 obtain⟨pX,yI,hc',bPH⟩:=aL hs hl hc hcc;clear hs hl hc hcc;go_enter Tryz.func120,Tryz.ntmps120;go_wp2_with fail
 go_loopw [3,4] (fun mv iv wr=>∃(i:Nat) (m:Int),1≤i∧i≤n∧mv= .int .i64 m∧iv= .int .i64 i∧Hid (m∈l.take i∧∀x∈l.take i,x≤m)∧Hid (Below w.heap.size w wr)) (fun _ iv _=>n - (intOf iv).toNat)
 case atStart=>
  have e:l.take 1= [l.getD 0 0]:=by
   cases l with
   |nil=>have:=yI.o;simp at this;omega
   |cons x r=>simp
  exact⟨1,l.getD 0 0,by omega,h1,rfl,rfl,aA ⟨by rw[e];exact dL.2 rfl,fun x hx=>by rw[e]at hx;rw[dL.1 hx];exact iY _⟩,aA (aY _ _)⟩
 case round=>
  obtain⟨i,m,hi1,yJ,rfl,rfl,LX,lI⟩:=hrel;by_cases hi:i<n
  ·have I4:(i:Int)<(n:Int):=by omega
   have xH:(0:Int)≤(i:Int):=by omega
   have sS:IntKind.i64.wrap ((i:Int)+1)=i+1:=by rw[bF];omega
   have ci:=late lI.o hb (bPH.o i hi);have zM:l.take (i+1)=l.take i++ [l.getD i 0]:=by
    have kD:i<l.length:=by have:=yI.o;omega
    rw[eP kD,bH,bI kD];rfl
   have I7:=aA zM;clear zM;go_wp2_with fail
   go_roundw
   case rel=>
    refine⟨i+1,max m (l.getD i 0),by omega,by omega,?_,by go_num,aA ⟨?_,fun x hx=>?_⟩,lI⟩
    ·first|rfl|(congr 1;omega)|simp
    ·rw[I7.o];by_cases h:m≤l.getD i 0
     ·rw[Int.max_eq_right h];exact List.mem_append_right _ (dL.2 rfl)
     ·rw[Int.max_eq_left aG];exact List.mem_append_left _ LX.o.1
    ·rw[I7.o]at hx;rcases bP.1 hx with hx|hx
     ·have:=LX.o.2 x hx;omega
     ·rw[dL.1 hx];omega
   case measure=>simp[intOf];omega
  ·obtain rfl:i=n:=by omega
   go_wp2_with fail
   go_ret;have kS:=LX.o;rw[bK (by rw[yI.o];exact aZ _)]at kS;exact⟨m,rfl,kS.1,kS.2,lI.o⟩
theorem EJ (a:Option Addr) (n c:Nat) (l:List Int) (w:World) (hs:Sl w a n c 1 (ints .i64 l)) (h1:1≤n):
  Calls Tryz.prog 59 #[.slice a n c] w fun e w'=>e= .returned (.bool (l.any fun x=>decide (0<x)))∧Below w.heap.size w w':=by
 have hM:=aSY a n c l w hs h1;have hM':=aA hM;clear hM;go_enter Tryz.func59,Tryz.ntmps59;go_wp2_with fail
 refine hM'.o.mono ?_;rintro e w1 ⟨m,rfl,U8,MV,jY⟩;have e1:(l.any fun x=>decide (0<x))=decide (0<m):=by
  rw[eD,List.any_eq_true,decide_eq_true_eq];refine⟨fun⟨x,hx,h⟩=>?_,fun h=>⟨m,U8,by simpa using h⟩⟩;have:=MV x hx;have h:=of_decide_eq_true h;omega
 obtain⟨kR,aBG,a1V,e1'⟩:=aL jY U8 MV e1;clear jY U8 MV e1;go_wp2_with fail
 go_ret;exact⟨by rw[e1'.o];rfl,kR.o⟩
theorem XP (o:Int) (A:ExA) (w:World):
  Calls Tryz.prog 68 #[exV o A] w fun e w'=>e= .returned (.agg #[.int .i64 0,.slice A.za A.zn A.zc,.int .i64 2,.slice A.pa A.pn A.pc,.int .i64 3,.slice A.ga A.gn A.gc,.int .i64 4,.slice A.ia A.iN A.ic,.int .i64 1,.slice A.fa A.fn A.fc])∧Below w.heap.size w w':=by
 obtain⟨za,zn,zc,pa,pn,pc,ga,gn,gc,ia,iN,ic,fa,fn,fc,ma,mn,mc,ta,tn,tc⟩:=A;simp only[exV,R9];obtain⟨W,hW,bE,bR,hb,rX⟩:=nM w 61 #[.int .i64 o,.slice za zn zc,.slice pa pn pc,.slice ga gn gc,.slice ia iN ic,.slice fa fn fc,.slice ma mn mc,.slice ta tn tc] 125 #[.int .i64 0,.slice none 0 0,.int .i64 0,.slice none 0 0,.int .i64 0,.slice none 0 0,.int .i64 0,.slice none 0 0,.int .i64 0,.slice none 0 0];have q1:=bE.cell (i:=1) rfl;have q2:=bE.cell (i:=2) rfl;have q3:=bE.cell (i:=3) rfl;have q4:=bE.cell (i:=4) rfl;have q5:=bE.cell (i:=5) rfl;obtain⟨I5,LM,bR',mO,zL⟩:=aM hW bE bR hb rX;clear hW bE bR hb rX;go_enter Tryz.func68,Tryz.ntmps68;go_upto_region 1 with fail
 rw[I5.o];go_wp2_with (refine wpList_store_row rfl 125 (.tmp 2) (.tmp 18) rfl (w.heap.size+1) #[.int .i64 0,.slice za zn zc,.int .i64 2,.slice pa pn pc,.int .i64 3,.slice ga gn gc,.int .i64 4,.slice ia iN ic,.int .i64 1,.slice fa fn fc] rfl rfl 125 _ bR'.o aF rfl aF ?_)
 refine bodyPost_ret (results_cell_row rfl _ _ (w.heap.size+1) 125 #[.int .i64 0,.slice za zn zc,.int .i64 2,.slice pa pn pc,.int .i64 3,.slice ga gn gc,.int .i64 4,.slice ia iN ic,.int .i64 1,.slice fa fn fc] (0,0) _ rfl (bR'.o.row _) Tryz.underlying125 rfl aF) rfl ?_;exact⟨rfl,kH mO.o (dY _ 1) _⟩
theorem Ow.b5P {B B':Nat} {W:World} {z:Tz} (h:Ow B W z) {g n c m:Nat} {xs:List Value} (hr:W.ownsRow B' 74 4 (.slice (some ⟨g,0,none⟩) n c) m xs) (i:Nat) (x:Value):Ow B (W.setCell ⟨g,i,none⟩ x) z:=h.put hr i x
theorem aZH {zs:List Tz} {i:Nat} {y t k:Int} {a a0:Option Addr} {n c n0 c0:Nat} {d:List Int} (hi:i<zs.length) (h:zs.getD i yL=((y,t,k,a0,n0,c0),d)):
  (zc zs).set (i*4+3) (.slice a n c)=zc (zs.set i ((y,t,k,a,n,c),d)):=by
 refine X5 aH ?_;show(zcl (zs.getD i yL)).set 3 _=_
 rw[h];rfl
theorem Ow.len {B:Nat} {W:World} {z:Tz} (h:Ow B W z):z.1.2.2.2.2.1=z.2.length:=by
 have:=h.1;unfold ints at this;rw[bL]at this;omega
theorem To.at_ {B:Nat} {W:World} {a:Option Addr} {n c:Nat} {zs:List Tz} {ts:List rM} (h:To B W a n c zs) (e:zs.map tag=ts):kX DT B W (.slice a n c) ts:=by
 have hn:=h.len;refine⟨zs,e.symm,⟨by rw[hn];exact h.row,fun _ _ h=>h⟩,fun z hz=>⟨?_,fun _ _ h=>h⟩⟩;have:=h.each z hz;rw[←this.len];exact this
theorem a3O (a:Option Addr) (n c:Nat) (zs:List Tz) (w:World) (hs:Tr w a n c zs) (hl:n≤1000000) (hd:∀z∈zs,z.1.2.2.2.2.1≤1000000):
  Calls Tryz.prog 58 #[.slice a n c] w fun e w'=>∃a' c' zs',e= .returned (.slice a' n c')∧To w.heap.size w' a' n c' zs'∧zs'.map tag=zs.map tag∧Below w.heap.size w w':=by
 have qJ:=hs.len;have hC:=a14 a n c zs w hs.row hl;obtain⟨pX,UB,mX,MC⟩:=aL hs hd qJ hC;clear hs hd qJ hC;go_enter Tryz.func58,Tryz.ntmps58;go_wp2_with fail
 refine MC.o.mono ?_;rintro e w1 ⟨a5,c5,rfl,ho,hb⟩;obtain⟨J8,mO⟩:=aJ ho hb;clear ho hb;go_wp2;go_loopw [9] (fun iv wr=>∃(i:Nat) (zs':List Tz),i≤n∧iv= .int .i64 i∧zs'.length=n∧Hid (wr.ownsRow w.heap.size 74 4 (.slice a5 n c5) n (zc zs'))∧Hid (∀j,j<i→Ow w.heap.size wr (zs'.getD j yL))∧Hid (∀j,i≤j→zs'.getD j yL=zs.getD j yL)∧Hid (zs'.map tag=zs.map tag)∧Hid (Below w.heap.size w wr)) (fun iv _=>n - (intOf iv).toNat)
 case atStart=>exact⟨0,zs,by omega,rfl,mX.o,J8,aA (fun j hj=>by omega),aA (fun j _=>rfl),aA rfl,mO⟩
 case round=>
  obtain⟨i,zs',yJ,rfl,hlz,kY,aFH,aFI,aFJ,lI⟩:=hrel;by_cases hi:i<n
  ·have I4:(i:Int)<(n:Int):=by omega
   have xH:(0:Int)≤(i:Int):=by omega
   have sS:IntKind.i64.wrap ((i:Int)+1)=i+1:=by rw[bF];omega
   obtain⟨g,rfl,hBg,bD5,fz,hc⟩:=a0Q kY.o hi;have oG:=aFI.o i (aZ _);have rV:=(pX.o.each _ (ES (zs:=zs) (i:=i) (by rw[mX.o];exact hi))).mono lI.o;have sM:=UB.o _ (ES (zs:=zs) (i:=i) (by rw[mX.o];exact hi));obtain⟨⟨⟨y,t,k,xa,xn,xc⟩,d⟩,hz⟩:∃z,zs.getD i yL=z:=⟨_,rfl⟩;rw[hz]at oG rV sM;have gg:=fun j hj=>KT (zs:=zs') (i:=i) (j:=j) aG hj;rw[oG]at gg;have f3:=hc _ _ (gg 3 aG);simp only[zcl,iL,iM]at f3;clear gg hc;have hD:=rV;change Sl wr xa xn xc 1 (ints .u8 d)at hD
   change xn≤1000000 at sM
   obtain⟨AQ,a0G,hD',fz'⟩:=aL hz oG hD fz;clear hz oG hD fz;clear rV;go_wp2_with fail
   refine(GY xa xn xc d _ hD'.o aG).mono ?_;rintro e w2 ⟨a6,c6,rfl,vS,jT⟩;have FY:=kC kY.o jT;have a15:=fun j (hj:j<i)=>kC (aFH.o j hj) jT;have jZ:=lI.o.tm jT;obtain⟨g',hgg,_,bD7,fz2,hc2⟩:=a0Q FY hi;injection hgg with hgg;injection hgg with hgg;subst hgg;have gg:=KT (zs:=zs') (i:=i) (j:=3) aG aH;rw[a0G.o]at gg;have p3:=hc2 _ _ gg;have y3:=fz2 (i*4+3);simp only[zcl,iL,iM]at p3;have PZ:=kI vS lI.o.size;clear vS f3 gg hc2 fz2 jT;obtain⟨RI,a8V,jM,NA⟩:=aL FY a15 jZ PZ;clear FY a15 jZ PZ
   go_wp2_with fail
   go_roundw
   case rel=>
    refine⟨i+1,zs'.set i ((y,t,k,a6,xn,c6),d),by omega,by go_num,by rw[List.length_set];exact hlz,aA ?_,aA (fun j hj=>?_),aA (fun j hj=>?_),aA ?_,aA ?_⟩
    ·rw[←aZH aG a0G.o];exact DV RI.o _ _
    ·by_cases J9:j=i
     ·subst J9;rw[show(zs'.set j ((y,t,k,a6,xn,c6),d)).getD j yL=((y,t,k,a6,xn,c6),d)from C8 aG _];exact Ow.b5P (show Ow w.heap.size w2 ((y,t,k,a6,xn,c6),d)from NA.o) RI.o _ _
     ·rw[show(zs'.set i ((y,t,k,a6,xn,c6),d)).getD j yL=zs'.getD j yL from getD_set_ne (fun e=>J9 e.symm) _];exact Ow.b5P (a8V.o j aG) RI.o _ _
    ·rw[show(zs'.set i ((y,t,k,a6,xn,c6),d)).getD j yL=zs'.getD j yL from getD_set_ne aG _];exact aFI.o j aG
    ·rw[←aFJ.o,List.map_set];apply fE (by simp);intro j h1 h2;by_cases J9:i=j
     ·subst J9;have h3:zs'[i]=((y,t,k,xa,xn,xc),d):=by
       have:=a0G.o;rwa [bH,bI aG]at this
      simp[h3,tag]
     ·simp[List.getElem_set_ne J9]
    ·exact jM.o.setCell (p:=⟨g,i*4+3,none⟩) hBg _
   case measure=>simp[intOf];omega
  ·obtain rfl:i=n:=by omega
   have hd:decide ((i:Int)<(i:Int))=false:=by simp
   go_wp2;go_ret;refine⟨_,_,zs',rfl,⟨kY.o,fun z hz=>?_⟩,aFJ.o,lI.o⟩;obtain⟨j,hj,rfl⟩:=eH hz;have:=aFH.o j aG;rwa [bH,bI hj]at this
theorem O9 (a:Option Addr) (n c:Nat) (ts:List rM) (w:World) (hs:rA w a n c ts) (hl:n≤1000000) (hd:∀t∈ts,t.2.2.2.length≤1000000):
  Calls Tryz.prog 58 #[.slice a n c] w fun e w'=>∃a' c',e= .returned (.slice a' n c')∧kX DT w.heap.size w' (.slice a' n c') ts∧Below w.heap.size w w':=by
 obtain⟨zs,h1,rfl⟩:=hs;refine(a3O a n c zs w h1.tr hl fun z hz=>?_).mono ?_
 ·have:=(h1.each z hz).nU;have h2:=hd (l8 z) (fP hz);have e:(l8 z).2.2.2=z.2:=rfl;rw[e]at h2;omega
 ·rintro e w' ⟨a',c',zs',rfl,ho,ht,hb⟩;exact⟨a',c',rfl,ho.at_ ht,hb⟩
theorem aO0 (a:Option Addr) (n c:Nat) (b:List Int) (w:World) (hs:Sl w a n c 1 (ints .u8 b)) (hl:n≤1000000):
  Calls Tryz.prog 122 #[.slice a n c] w fun e w'=>∃a' c',e= .returned (.agg #[.int .i64 37500,.int .i64 7,.int .i64 n,.slice a' n c'])∧w'.ownsRow w.heap.size 5 1 (.slice a' n c') n (ints .u8 b)∧Below w.heap.size w w':=by
 have hb:=aD w (.cells #[.int .i64 0,.int .i64 0,.int .i64 0,.slice none 0 0] 74);have bT:=jW.new w 74 #[.int .i64 0,.int .i64 0,.int .i64 0,.slice none 0 0];obtain⟨W,hW⟩:=aC (w.alloc (.cells #[.int .i64 0,.int .i64 0,.int .i64 0,.slice none 0 0] 74));rw[hW]at hb bT;have hC:=GY a n c b W (hs.mono hb) aG;obtain⟨pX,mO,MC,I5,bT'⟩:=aM hs hb hC hW bT;clear hs hb hC hW bT;go_enter Tryz.func122,Tryz.ntmps122;go_upto_region 1 with fail
 rw[I5.o];go_wp2_with fail
 refine MC.o.mono ?_;rintro e w1 ⟨a1,c1,rfl,ho,jY⟩;have bT1:=bT'.o.late jY;have p0:=bT1.cell (i:=0) rfl;have p1:=bT1.cell (i:=1) rfl;have p2:=bT1.cell (i:=2) rfl;have p3:=bT1.cell (i:=3) rfl;have v0:=bT1.frozen 0;have v1:=bT1.frozen 1;have v2:=bT1.frozen 2;have v3:=bT1.frozen 3;have qC:=mO.o.tm jY;have QI:w.heap.size<W.heap.size:=bT'.o.lt;obtain⟨J8,kR,bPI,oD,EU⟩:=aM ho jY bT1 qC QI;clear ho jY bT1 qC QI;go_wp2_with fail
 refine bodyPost_ret (results_cell_row rfl _ _ w.heap.size 74 #[.int .i64 37500,.int .i64 7,.int .i64 n,.slice a1 n c1] (0,0) _ rfl (bPI.o.bMP _ _ _ _) Tryz.underlying74 rfl aF) rfl ?_;refine⟨a1,c1,rfl,?_,?_⟩
 ·refine kI ?_ (iI EU.o);exact lD (lD (lD (lD J8.o EU.o _ _) EU.o _ _) EU.o _ _) EU.o _ _
 ·exact aFP oD.o (aZ _) _ _ _ _
def vE (es:List xB) (x:xB):Nat:=(es.filter fun y=>decide (y.1<x.1)).length
def JZ (q:Nat) (o:Int) (es:List xB) (n:Nat):List Pt:=(List.range n).map fun i=>(q+2+12*vE es (es.getD i yH),MI (es.getD i yH) o)
def a3P (f:Nat) (l:List nY) (o no:Int) (s:rQ) (d:jR (f+1)):List Pt:=
 d.1.flatMap (AA l o no)++zV l d.2.2 no++(((oV l 2 no 0).toNat,kZ (pE f l o no s d).length 2 o)::JZ (oV l 2 no 0).toNat o (pE f l o no s d) (pE f l o no s d).length)
theorem a8G (q:Nat) (o:Int) (es:List xB) (n:Nat):JZ q o es (n+1)=JZ q o es n++ [(q+2+12*vE es (es.getD n yH),MI (es.getD n yH) o)]:=by
 unfold JZ;rw[eO,dI];rfl
theorem XQ {es:List xB} {i:Nat} (h:i<es.length):vE es (es.getD i yH)<es.length:=by
 unfold vE;rw[List.length_filter_lt_length_iff_exists];refine⟨es.getD i yH,by rw[jO h];exact bJ h,by simp⟩
theorem K5 {es:List xB} {p:xB→Bool} {k:Nat} (h:k<es.length):((es.take (k+1)).filter p).length=((es.take k).filter p).length+(if p (es.getD k yH)=true then 1 else 0):=by
 rw[dS,bI h,fJ,fD,cO,jO h];cases hp:p es[k] <;> simp[hp]
theorem aKJ {α:Type} {p q:α→Bool}:∀{l:List α},(∀z∈l,p z=true→q z=true)→∀{x:α},x∈l→q x=true→p x=false→(l.filter p).length<(l.filter q).length
 | [],_,_,h,_,_=>by cases h
 |a::l,hpq,x,hx,hq,hp=>by
  have BX:(l.filter p).length≤(l.filter q).length:=by
   rw[←List.countP_eq_length_filter,←List.countP_eq_length_filter];exact List.countP_mono_left fun z hz=>hpq z (cZ _ hz)
  rcases cB.1 hx with rfl|hx
  ·rw[fI hq,fZ (by simp[hp]),dP];omega
  ·have ih:=aKJ (fun z hz=>hpq z (cZ _ hz)) hx hq hp;cases ha:p a with
   |true=>
    rw[fI ha,fI (hpq a (dB ..) ha),dP,dP];omega
   |false=>
    rw[fZ (by simp[ha])];cases hb:q a with
    |true=>rw[fI hb,dP];omega
    |false=>rw[fZ (by simp[hb])];exact ih
theorem aDO {es:List xB} {x y:xB} (hx:x∈es) (h:x.1<y.1):vE es x<vE es y:=by
 unfold vE;refine aKJ (fun z _ hz=>?_) hx (by simpa using h) (by simp);simp only[decide_eq_true_eq]at hz ⊢;omega
theorem VK:∀{l:List xB},(l.Pairwise fun x y=>x.1<y.1)→∀{i:Nat} (h:i<l.length),(l.filter fun y=>decide (y.1<(l[i]).1)).length=i
 | [],_,_,h=>by simp at h
 |a::l,hp,0,_=>by
  obtain⟨h1,_⟩:=fU.1 hp;have:(a::l).filter (fun y=>decide (y.1<a.1))= []:=by
   rw[List.filter_eq_nil_iff];intro y hy;rcases cB.1 hy with rfl|hy
   ·simp
   ·have:=h1 y hy;simp;omega
  show((a::l).filter fun y=>decide (y.1<a.1)).length=0
  rw[this];rfl
 |a::l,hp,i+1,h=>by
  obtain⟨h1,h2⟩:=fU.1 hp;have hi:i<l.length:=by simpa using h
  have:=VK h2 hi;show((a::l).filter fun y=>decide (y.1<(l[i]).1)).length=i+1
  rw[fI (by simpa using h1 _ (bJ hi)),dP,this]
theorem OA {α β:Type} (g:α→β) (z:α) (l:List α):(List.range l.length).map (fun i=>g (l.getD i z))=l.map g:=by
 refine fE (by simp) fun i h1 h2=>?_;have h3:i<l.length:=by simpa using h1
 rw[dZ,List.getElem_range,dZ,jO h3]
theorem SL (l:List xB):(sortE l).Perm l:=gQ _ _
theorem aSZ {l:List xB} (hd:l.Pairwise fun x y=>x.1≠y.1):(sortE l).Pairwise fun x y=>x.1<y.1:=by
 have h1:(sortE l).Pairwise fun x y=>x.1≠y.1:=((SL l).pairwise_iff (fun {_ _} h=>Ne.symm h)).2 hd;have h2:(sortE l).Pairwise fun x y=>(!Go.Proofs.ltOf cfE y x)=true:=by
  refine List.pairwise_mergeSort ?_ ?_ _
  ·intro a b c h1 h2;simp only[ltE,eB,decide_eq_false_iff_not]at h1 h2 ⊢;omega
  ·intro a b;simp only[ltE,eY,eB,decide_eq_false_iff_not];omega
 refine(h1.and h2).imp fun {a b} h=>?_;obtain⟨h3,h4⟩:=h;simp only[ltE,eB,decide_eq_false_iff_not]at h4;omega
def aO1 (q:Nat) (o:Int) (es:List xB) (x:xB):Pt:=(q+2+12*vE es x,MI x o)
theorem aKK (q:Nat) (o:Int) (es:List xB):JZ q o es es.length=es.map (aO1 q o es):=OA (aO1 q o es) yH es
theorem aZI {q:Nat} {o:Int} {es:List xB} (hd:es.Pairwise fun x y=>x.1≠y.1):rowP q o (sortE es) es.length=(sortE es).map (aO1 q o es):=by
 rw[←OA (aO1 q o es) yH,BI];unfold rowP;refine List.map_congr_left fun i hi=>?_;have hi:i<(sortE es).length:=by rw[BI];exact dF.1 hi
 have h1:=VK (aSZ hd) hi;have h2:vE es ((sortE es).getD i yH)=i:=by
  rw[jO hi];unfold vE;rw[←((SL es).filter _).length_eq];exact h1
 unfold aO1;rw[h2]
theorem aT0 {q:Nat} {o:Int} {es:List xB} (hd:es.Pairwise fun x y=>x.1≠y.1):(rowP q o (sortE es) es.length).Perm (JZ q o es es.length):=by
 rw[aZI hd,aKK];exact(SL es).map _
def FL (L:List rQ) (l:List nY) (o:Int):(f:Nat)→jR f→Int→Int→List Pt
 |0,_,_,_=> []
 |f+1,d,no,i=>GI (FL L l o f) (L.getD i.toNat mD) d.2.1 no d.2.1.length++a3P f l o no (L.getD i.toNat mD) d
theorem XR (L:List rQ) (l:List nY) (o:Int) (f:Nat) (d:jR (f+1)) (no i:Int):FL L l o (f+1) d no i=
  GI (FL L l o f) (L.getD i.toNat mD) d.2.1 no d.2.1.length++a3P f l o no (L.getD i.toNat mD) d:=rfl
theorem aDP {L:List rQ} {l:List nY} {n:Nat} {o:Int}:∀(f:Nat) (d:jR f) (no i:Int),okW L l n o f d no i→(ML L l o f d no i).Perm (FL L l o f d no i)
 |0,_,_,_,_=>gL _
 |f+1,d,no,i,h=>by
  obtain⟨_,hs,_,_,_,_,_,hk,_⟩:=VD h;rw[a7V,XR];unfold a3P QY;have h1:(GI (ML L l o f) (L.getD i.toNat mD) d.2.1 no d.2.1.length).Perm (GI (FL L l o f) (L.getD i.toNat mD) d.2.1 no d.2.1.length):=
   LA _ fun j hj=>aDP f _ _ _ (hs j (dF.1 hj)).2
  have h2:=(aT0 (q:=(oV l 2 no 0).toNat) (o:=o) hk).cons ((oV l 2 no 0).toNat,kZ ((pE f l o no (L.getD i.toNat mD) d).length:Nat) 2 o);have h3:(d.1.flatMap (AA l o no)++GI (ML L l o f) (L.getD i.toNat mD) d.2.1 no d.2.1.length).Perm (GI (FL L l o f) (L.getD i.toNat mD) d.2.1 no d.2.1.length++d.1.flatMap (AA l o no)):=
   List.perm_append_comm.trans (h1.append (gL _))
  rw[←dH,←dH];exact(h3.append (gL _)).append h2
theorem OB {α β:Type} (f g:α→List β):∀l:List α,(l.flatMap fun x=>f x++g x).Perm (l.flatMap f++l.flatMap g)
 | []=>gL _
 |x::l=>by
  rw[fA,fA,fA];refine((gL (f x++g x)).append (OB f g l)).trans ?_;rw[dH,dH];refine(gL (f x)).append ?_;rw[←dH,←dH];exact List.perm_append_comm.append (gL _)
def wY (l:List nY) (o:Int) (f:Nat) (ds:List (jR f)) (k:Nat):Pt:=((IK l f ds k).toNat,kZ (oV l 2 (noT f ds k) 0) 4 o)
def nextQ (l:List nY) (o:Int) (f:Nat) (ds:List (jR f)) (k:Nat):List Pt:=if k+1<ds.length then [wY l o f ds (k+1)]else []
def chQ (L:List rQ) (l:List nY) (o:Int) (f:Nat) (ds:List (jR f)) (n:Nat):List Pt:=
 (List.range n).flatMap fun k=>FL L l o f (ds.getD k (lY f)) (noT f ds k) (nA L k)++nextQ l o f ds k
theorem aDQ (L:List rQ) (l:List nY) (o:Int) (f:Nat) (ds:List (jR f)) (k:Nat):chQ L l o f ds (k+1)=chQ L l o f ds k++(FL L l o f (ds.getD k (lY f)) (noT f ds k) (nA L k)++nextQ l o f ds k):=by
 unfold chQ;rw[eO,dJ];simp
theorem aHQ {β:Type} (B:Nat→β) (m:Nat):((List.range (m+1)).flatMap fun k=>if k+1<m+1 then [B (k+1)]else [])=(List.range m).map fun k=>B (k+1):=by
 rw[eO,dJ];have h1:([m].flatMap fun k=>if k+1<m+1 then [B (k+1)]else [])= []:=by simp
 rw[h1,dR];have h2:∀q,q≤m→((List.range q).flatMap fun k=>if k+1<m+1 then [B (k+1)]else [])=(List.range q).map fun k=>B (k+1):=by
  intro q;induction q with
  |zero=>intro _;rfl
  |succ q ih=>
   intro hq;rw[eO,dJ,dI,ih aG];simp;omega
 exact h2 m (aZ _)
theorem aZJ {L:List rQ} {l:List nY} {n:Nat} {o:Int} {f:Nat} {ds:List (jR f)} (h0:ds.length≠0) (h:∀k,k<ds.length→okW L l n o f (ds.getD k (lY f)) (noT f ds k) (nA L k)):
  (chW L l o f ds ds.length).Perm (wY l o f ds 0::chQ L l o f ds ds.length):=by
 obtain⟨m,hm⟩:∃m,ds.length=m+1:=⟨ds.length - 1,by omega⟩;have e1:chW L l o f ds ds.length=(List.range ds.length).flatMap fun k=>ML L l o f (ds.getD k (lY f)) (noT f ds k) (nA L k)++ [wY l o f ds k]:=rfl;have e2:((List.range ds.length).flatMap fun k=> [wY l o f ds k])=(List.range ds.length).map (wY l o f ds):=by
  induction (List.range ds.length)with
  |nil=>rfl
  |cons a r ih=>rw[fA,ih];rfl
 have e3:((List.range ds.length).flatMap (nextQ l o f ds))=(List.range m).map fun k=>wY l o f ds (k+1):=by
  have:=aHQ (wY l o f ds) m;unfold nextQ;rw[hm];exact this
 have e4:(List.range ds.length).map (wY l o f ds)=wY l o f ds 0::(List.range m).map fun k=>wY l o f ds (k+1):=by
  rw[hm,List.range_succ_eq_map,aW,List.map_map];rfl
 rw[e1];refine(OB _ _ _).trans ?_;rw[e2,e4];refine List.perm_middle.trans (List.Perm.cons _ ?_);unfold chQ;refine List.Perm.trans ?_ (OB _ _ _).symm;have e5:((List.range ds.length).flatMap fun k=>nextQ l o f ds k)=(List.range m).map fun k=>wY l o f ds (k+1):=e3;rw[e5];exact(LA _ fun k hk=>aDP f _ _ _ (h k (dF.1 hk))).append (gL _)
def CP (o:Int):List Int:=if o=2 then [77,77]else [73,73]
def a8H (f:Nat) (o:Int) (ds:List (jR f)) (L:List rQ):List Pt:=(0,CP o)::(2,kZ 42 2 o)::(4,kZ 8 4 o)::chQ L (jX f ds) o f ds ds.length
