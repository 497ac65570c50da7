import Derived.Test.YtceclmpmpldmlaaGreatCw24
import Derived.Test.YtceclmpmpldmlaaGreatCw25
set_option linter.unusedSimpArgs false
set_option linter.unusedVariables false
namespace Tt
open Go Go.RowKit
theorem yQ {w w':World} {row:Option Nat} {B:Nat} {E:TypeId} {sz:Nat} {v:Value} {n:Nat} {xs:List Value} (h:w.ownsRow B E sz v n xs) (hg:w.grownBy w' row) (pQ:∀k,v.ownBlock=some k→row≠some k):w'.ownsRow B E sz v n xs:=by
 obtain⟨hl,hr⟩:=h;refine⟨hl,?_⟩;rcases hr with hn|⟨g,cap,cur,rfl,hB,UF,r⟩
 ·exact .inl hn
 ·exact .inr ⟨g,cap,cur,rfl,hB,(hg.block g (dA.1 UF).1 (Ne.symm (pQ g rfl))).trans UF,r⟩
theorem lF {w:World} {B:Nat} {E T:TypeId} {sz:Nat} {v:Value} {n g:Nat} {xs:List Value} {cs:Array Value} (h:w.ownsRow B E sz v n xs) (hb:kG w g T cs) (hE:E≠T):v.ownBlock≠some g:=fun e=>by
 rcases h.2 with ⟨rfl,_⟩|⟨g',cap,cur,rfl,_,hg,_⟩
 ·cases e
 ·obtain rfl:g'=g:=by injection e
  unfold kG at hb;rw[hb]at hg;injection hg with hg;injection hg with h1 h2;exact hE h2.symm
theorem FV {w:World} {B:Nat} {E:TypeId} {sz:Nat} {v:Value} {n:Nat} {xs:List Value} (h:w.ownsRow B E sz v n xs):∃a c,v= .slice a n c:=by
 rcases h.2 with ⟨rfl,h0⟩|⟨g,cap,cur,rfl,_⟩
 ·exact⟨none,0,by rw[h0]⟩
 ·exact⟨_,_,rfl⟩
theorem SI {w:World} {B B':Nat} {E:TypeId} {sz:Nat} {v:Value} {n:Nat} {xs ys:List Value} (h:w.ownsRow B E sz v n xs) (k:w.ownsRow B' E sz v n ys):xs=ys:=by
 have e:xs.length=ys.length:=h.1.trans k.1.symm;obtain⟨a,c,rfl⟩:=FV h;have hs:=(Sl.kZ h).1;have ks:=(Sl.kZ k).1;refine gG e (fun j h1 h2=>?_);have hn:0<n:=by
  rcases iE n with h0|h0
  ·have:=h.1;rw[h0]at this;omega
  ·exact h0
 obtain⟨g,off,e1,_,hc⟩:=hs.lies 0 hn;obtain⟨g',off',e2,_,kc⟩:=ks.lies 0 hn;rw[e1]at e2;injection e2 with e2;injection e2 with e3 e4 _;subst e3 e4;have q1:=hc j _ (bH h1);have q2:=kc j _ (bH h2);rw[q1]at q2;injection q2
end Tt
namespace Go.Proofs.YtceclmpmpldmlaaGreat
open Go.RowKit Tt
theorem bLN {X X' Y:Nat→Prop} {B:Nat} {w w':World} (h:Kp X X' B w w'):Kp (fun k=>X k∨Y k) (fun k=>X' k∨Y k) B w w':=
 ⟨h.size,fun k hB hk hx=>⟨(h.block k hB hk (fun e=>hx (.inl e))).1,fun e=>e.elim (h.block k hB hk (fun e=>hx (.inl e))).2 (fun e=>hx (.inr e))⟩⟩
theorem QH {X:Nat→Prop} {B B2:Nat} {w w':World} {v u:Value} {ts:List oZ} {E:TypeId} {sz n:Nat} {xs:List Value} (h:lX X B w v ts) (hu:w.ownsRow B2 E sz u n xs) (hg:w.grownBy w' u.ownBlock) (h1:74≠E) (h2:5≠E):lX X B w' v ts:=by
 obtain⟨zs,e,h3,h4⟩:=h;have key:∀{T:TypeId} {v':Value} {s n:Nat} {ys:List Value},w.ownsRow B T s v' n ys→T≠E→w'.ownsRow B T s v' n ys:=fun h hT=>yQ h hg (fun k hk hk2=>by
  rcases KV h hu hT with h5|h5
  ·rw[h5]at hk;cases hk
  ·exact h5 (hk.trans hk2.symm))
 exact⟨zs,e,⟨key h3.1 h1,h3.2⟩,fun z hz=>⟨key (h4 z hz).1 h2,(h4 z hz).2⟩⟩
def oP (X:Nat→Prop) (B:Nat) (w:World) (f:Nat) (v:Value) (subs:List (Int×jY f)):Prop:=
 ∃ds:List (Int×Dz),ds.length=subs.length∧Ck X B w v 28 4 ds.length (fl sbC ds)∧(∀d∈ds,b30 d.2)∧∀i (h:i<ds.length) (h':i<subs.length),ds[i].1=subs[i].1∧nX (fun k=>X k∨v.ownBlock=some k) B w f subs[i].2 ds[i].2
theorem oP.keep {X X':Nat→Prop} {B f:Nat} {w w':World} {v:Value} {subs:List (Int×jY f)} (h:oP X B w f v subs) (k:Kp X X' B w w'):oP X' B w' f v subs:=by
 obtain⟨ds,h1,h2,h0,h3⟩:=h;exact⟨ds,h1,h2.keep k,h0,fun i hi vN=>⟨(h3 i hi vN).1,(h3 i hi vN).2.keep (bLN k)⟩⟩
theorem oP.snoc {X:Nat→Prop} {B f:Nat} {w w':World} {v v':Value} {subs:List (Int×jY f)} {t:Int} {d:jY f} {dz:Dz} {n:Nat} (h:oP X B w f v subs) (hn:subs.length=n) (hg:w.grownBy w' v.ownBlock) (ho:∀k,v'.ownBlock=some k→v.ownBlock=some k∨w.heap.size≤k)
  (ob:∀ds:List (Int×Dz),w.ownsRow B 28 4 v n (fl sbC ds)→w'.ownsRow B 28 4 v' (n+1) (fl sbC ds++sbC (t,dz))) (hX:∀k,v'.ownBlock=some k→¬X k) (h1:b30 dz) (hd:nX (fun k=>X k∨v.ownBlock=some k) B w f d dz):oP X B w' f v' (subs++ [(t,d)]):=by
 obtain⟨ds,h2,h3,h0,h4⟩:=h;have hk:Kp (fun k=>X k∨v.ownBlock=some k) (fun k=>X k∨v'.ownBlock=some k) B w w':=⟨hg.size,fun k hB hk hx=>⟨hg.block k hk (fun e=>hx (.inr e.symm)),fun e=>e.elim (fun e=>hx (.inl e)) (fun e=>by rcases ho k e with e'|e' <;> first|exact hx (.inr e')|omega)⟩⟩;have AP:ds.length=n:=h2.trans hn;refine⟨ds++ [(t,dz)],by simp[h2],⟨?_,hX⟩,?_,fun i hi vN=>?_⟩
 ·rw[cO,yM,iT,AP];exact ob ds (by rw[←AP];exact h3.1)
 ·intro d' hd';rcases bO.1 hd' with h|h
  ·exact h0 d' h
  ·rw[dK.1 h];exact h1
 ·by_cases hi2:i<ds.length
  ·rw[gK hi2,gK aG];exact⟨(h4 i hi2 aG).1,(h4 i hi2 aG).2.keep hk⟩
  ·have hie:i=ds.length:=by simp at hi;omega
   subst hie;rw[gI (aY _),gI aG];simp only[iP,jE,h2];exact⟨trivial,hd.keep hk⟩
theorem lX.own {X:Nat→Prop} {B:Nat} {w:World} {v:Value} {ts:List oZ} (h:lX X B w v ts):∃zs:List Tz,ts=zs.map nO∧w.ownsRow B 74 4 v ts.length (fl tzc zs):=by
 obtain⟨zs,h1,h2,_⟩:=h;exact⟨zs,h1,by rw[h1,dF];exact h2.1⟩
theorem aKL (t:Int) (a1 a2 a3:Option Addr) (n1 n2 n3 c1 c2 c3:Nat):∀u∈sbC (t,(.slice a1 n1 c1,.slice a2 n2 c2,.slice a3 n3 c3)),u.oneCell'=true:=by
 intro u hu;simp only[sbC,cK,eG,or_false]at hu;rcases hu with rfl|rfl|rfl|rfl <;> rfl
theorem a0D (a1 a2 a3:Option Addr) (n1 n2 n3 c1 c2 c3:Nat):b30 (.slice a1 n1 c1,.slice a2 n2 c2,.slice a3 n3 c3):=by
 intro u hu;simp only[dvC,cK,eG,or_false]at hu;rcases hu with rfl|rfl|rfl <;> rfl
theorem QI {X:Nat→Prop} {A B2 B3 f:Nat} {w:World} {vt vs vb:Value} {tags:List oZ} {subs:List (Int×jY f)} {blob:List Int} (ht:lX X B2 w vt tags) (hs:oP X B2 w f vs subs) (hb:Ck X B3 w vb 5 1 blob.length (ints .u8 blob)) (h1:A≤B2) (h2:A≤B3):nX X A w (f+1) (tags,subs,blob) (vt,vs,vb):=by
 obtain⟨ds,e1,e2,_,e3⟩:=hs;refine⟨?_,ht.mono h1,⟨ds,e1,e2.mono h1,fun i hi vN=>⟨(e3 i hi vN).1,((e3 i hi vN).2.keep (Kp.same (fun k _ _ hx e=>hx (.inl e)))).mono h1⟩⟩,hb.mono h2⟩;obtain⟨zs,_,h5⟩:=ht.own;obtain⟨a1,c1,rfl⟩:=FV h5;obtain⟨a2,c2,rfl⟩:=FV e2.1;obtain⟨a3,c3,rfl⟩:=FV hb.1;exact a0D _ _ _ _ _ _ _ _ _
theorem zR {X:Nat→Prop} {B:Nat} {w w':World} {v:Value} {E T:TypeId} {sz n g:Nat} {xs:List Value} {cs:Array Value} (h:Ck X B w v E sz n xs) (b:But g w w') (hb:kG w g T cs) (hE:E≠T):Ck X B w' v E sz n xs:=⟨mV h.1 b (lF h.1 hb hE),h.2⟩
theorem lX.nil (X:Nat→Prop) (B:Nat) (w:World):lX X B w (.slice none 0 0) []:=⟨[],rfl,⟨lC _ _ _ _,fun k e=>by cases e⟩,fun z hz=>by cases hz⟩
theorem lX.snoc {X:Nat→Prop} {B:Nat} {w w':World} {v v':Value} {ts:List oZ} {t:oZ} {z:Tz} (h:lX X B w v ts) (hz:nO z=t) (hg:w.grownBy w' v.ownBlock) (hX:∀k,v'.ownBlock=some k→¬X k)
  (ob:∀zs:List Tz,w.ownsRow B 74 4 v ts.length (fl tzc zs)→w'.ownsRow B 74 4 v' (ts.length+1) (fl tzc zs++tzc z)) (hd:Ck X B w (tzd z) 5 1 z.2.length (ints .u8 z.2)):lX X B w' v' (ts++ [t]):=by
 obtain⟨zs,h1,h2,h3⟩:=h;have hn:zs.length=ts.length:=by rw[h1,dF]
 have key:∀z',Ck X B w (tzd z') 5 1 z'.2.length (ints .u8 z'.2)→Ck X B w' (tzd z') 5 1 z'.2.length (ints .u8 z'.2):=fun z' hc=>⟨yQ hc.1 hg (fun k hk hk2=>by
  rcases KV hc.1 h2.1 aH with h5|h5
  ·rw[h5]at hk;cases hk
  ·exact h5 (hk.trans hk2.symm)),hc.2⟩
 refine⟨zs++ [z],by rw[eO,h1,←hz];rfl,⟨?_,hX⟩,fun z' GX=>?_⟩
 ·rw[cO,yM,iT,hn];exact ob zs (by rw[←hn];exact h2.1)
 ·rcases bO.1 GX with h|h
  ·exact key z' (h3 z' h)
  ·rw[dK.1 h];exact key z hd
theorem lX.D7 {X:Nat→Prop} {B g:Nat} {w w':World} {v:Value} {ts:List oZ} {cs:Array Value} (h:lX X B w v ts) (b:But g w w') (hb:kG w g 26 cs):lX X B w' v ts:=by
 obtain⟨zs,h1,h2,h3⟩:=h;exact⟨zs,h1,zR h2 b hb aH,fun z hz=>zR (h3 z hz) b hb aH⟩
theorem nX.D7 {X:Nat→Prop} {B g:Nat} {w w':World} {cs:Array Value} (b:But g w w') (hb:kG w g 26 cs):∀{f:Nat} {d:jY f} {v:Dz},nX X B w f d v→nX X B w' f d v
 |0,_,_,h=>h.elim
 |f+1,d,v,h=>by
  obtain⟨h0,h1,⟨ds,h2,h3,h4⟩,h5⟩:=h;exact⟨h0,h1.D7 b hb,⟨ds,h2,zR h3 b hb aH,fun i hi vN=>⟨(h4 i hi vN).1,(h4 i hi vN).2.D7 b hb⟩⟩,zR h5 b hb aH⟩
theorem oP.D7 {X:Nat→Prop} {B g f:Nat} {w w':World} {v:Value} {subs:List (Int×jY f)} {cs:Array Value} (h:oP X B w f v subs) (b:But g w w') (hb:kG w g 26 cs):oP X B w' f v subs:=by
 obtain⟨ds,h1,h2,h0,h3⟩:=h;exact⟨ds,h1,zR h2 b hb aH,h0,fun i hi vN=>⟨(h3 i hi vN).1,(h3 i hi vN).2.D7 b hb⟩⟩
theorem b7J:(Tryz.prog.info? 28).map (fun i=>(i.size,i.bytes))=some (4,80):=by kernel_rfl
theorem b7K:(Tryz.prog.info? 28).map (fun i=>i.zero.map (fun z=>z.cells.size))=some (some 4):=by kernel_rfl
def QJ:Nat→Prop:=fun _=>False
theorem nX.ne {X:Nat→Prop} {B B2:Nat} {w w':World} {u:Value} {n:Nat} {xs:List Value} (hu:w.ownsRow B2 26 3 u n xs) (hg:w.grownBy w' u.ownBlock):∀{f:Nat} {d:jY f} {v:Dz},nX X B w f d v→nX X B w' f d v
 |0,_,_,h=>h.elim
 |f+1,d,v,h=>by
  have key:∀{T:TypeId} {v':Value} {s n:Nat} {ys:List Value},Ck X B w v' T s n ys→T≠26→Ck X B w' v' T s n ys:=fun h hT=>⟨yQ h.1 hg (fun k hk hk2=>by
   rcases KV h.1 hu hT with h5|h5
   ·rw[h5]at hk;cases hk
   ·exact h5 (hk.trans hk2.symm)),h.2⟩
  obtain⟨h0,⟨zs,g1,g2,g3⟩,⟨ds,h2,h3,h4⟩,h5⟩:=h;exact⟨h0,⟨zs,g1,key g2 aH,fun z hz=>key (g3 z hz) aH⟩,⟨ds,h2,key h3 aH,fun i hi vN=>⟨(h4 i hi vN).1,(h4 i hi vN).2.ne hu hg⟩⟩,key h5 aH⟩
theorem nX.aW4 {X:Nat→Prop} {B g:Nat} {w w':World} {cs:Array Value} (b:But g w w') (hb:kG w g 39 cs):∀{f:Nat} {d:jY f} {v:Dz},nX X B w f d v→nX X B w' f d v
 |0,_,_,h=>h.elim
 |f+1,d,v,h=>by
  obtain⟨h0,⟨zs,g1,g2,g3⟩,⟨ds,h2,h3,h4⟩,h5⟩:=h;exact⟨h0,⟨zs,g1,zR g2 b hb aH,fun z hz=>zR (g3 z hz) b hb aH⟩,⟨ds,h2,zR h3 b hb aH,fun i hi vN=>⟨(h4 i hi vN).1,(h4 i hi vN).2.aW4 b hb⟩⟩,zR h5 b hb aH⟩
def AL (B:Nat) (w:World) (f:Nat) (v:Value) (ds:List (jY f)):Prop:=
 ∃ME:List Dz,ME.length=ds.length∧w.ownsRow B 26 3 v ME.length (fl dvC ME)∧∀i (h:i<ME.length) (h':i<ds.length),nX QJ B w f ds[i] ME[i]
theorem AL.later {B f:Nat} {w w':World} {v:Value} {ds:List (jY f)} (h:AL B w f v ds) (hb:Below w.heap.size w w'):AL B w' f v ds:=by
 obtain⟨ME,h1,h2,h3⟩:=h;exact⟨ME,h1,l6 h2 hb,fun i hi vN=>(h3 i hi vN).keep (Kp.later hb)⟩
theorem AL.aW4 {B g f:Nat} {w w':World} {v:Value} {ds:List (jY f)} {cs:Array Value} (h:AL B w f v ds) (b:But g w w') (hb:kG w g 39 cs):AL B w' f v ds:=by
 obtain⟨ME,h1,h2,h3⟩:=h;exact⟨ME,h1,mV h2 b (lF h2 hb aH),fun i hi vN=>(h3 i hi vN).aW4 b hb⟩
theorem AL.rd {B f:Nat} {w:World} {a:Option Addr} {n c:Nat} {ds:List (jY f)} (h:AL B w f (.slice a n c) ds):JX f w a n c ds:=by
 obtain⟨ME,h1,h2,h3⟩:=h;exact⟨ME,h1,(Sl.kZ h2).1,fun i hi vN=>(h3 i hi vN).rd⟩
theorem AL.snoc {B f:Nat} {w w':World} {v v':Value} {ds:List (jY f)} {d:jY f} {dz:Dz} {n:Nat} (h:AL B w f v ds) (hn:ds.length=n) (hg:w.grownBy w' v.ownBlock)
  (ob:∀ME:List Dz,w.ownsRow B 26 3 v n (fl dvC ME)→w'.ownsRow B 26 3 v' (n+1) (fl dvC ME++dvC dz)) (hd:nX QJ B w f d dz):AL B w' f v' (ds++ [d]):=by
 obtain⟨ME,h2,h3,h4⟩:=h;have AP:ME.length=n:=h2.trans hn;refine⟨ME++ [dz],by simp[h2],?_,fun i hi vN=>?_⟩
 ·rw[cO,yM,iT,AP];exact ob ME (by rw[←AP];exact h3)
 ·by_cases hi2:i<ME.length
  ·rw[gK hi2,gK aG];exact(h4 i hi2 aG).ne h3 hg
  ·have hie:i=ME.length:=by simp at hi;omega
   subst hie;rw[gI (aY _),gI aG];simp only[iP,jE,h2];exact hd.ne h3 hg
theorem b4I (a1 a2 a3:Option Addr) (n1 n2 n3 c1 c2 c3:Nat):∀u∈dvC (.slice a1 n1 c1,.slice a2 n2 c2,.slice a3 n3 c3),u.oneCell'=true:=by
 intro u hu;simp only[dvC,cK,eG,or_false]at hu;rcases hu with rfl|rfl|rfl <;> rfl
theorem VL (a a':Option Addr) (n n' c c':Nat) (x y:List Int) (w:World) (hx:Sl w a n c 1 (ints .u8 x)) (hy:Sl w a' n' c' 1 (ints .u8 y)) (OM:pF x) (qL:pF y):
  Calls Tryz.prog 73 #[.slice a n c,.slice a' n' c'] w fun e w'=>e= .returned (.bool (x==y))∧w=w':=by
 have e1:=a3C (P:=Tryz.prog) hx 24 5 9 Tryz.underlying24 Tryz.underlying5 Tryz.underlying9;have e2:=a3C (P:=Tryz.prog) hy 24 5 9 Tryz.underlying24 Tryz.underlying5 Tryz.underlying9;have e3:=aME OM qL;generalize (x==y)=r at*;obtain⟨TV,hy',aTT,vR⟩:=aL hx hy OM qL;clear hx hy OM qL;go_enter Tryz.func73,Tryz.ntmps73;go_wp2;go_ret;exact⟨rfl,rfl⟩
set_option maxHeartbeats 1000000 in
theorem aQZ (y k y2 k2:Int) (a a':Option Addr) (n c n' c':Nat) (d d2:List Int) (w:World) (hs:Sl w a n c 1 (ints .u8 d)) (xV:Sl w a' n' c' 1 (ints .u8 d2)) (hd:pF d) (hd2:pF d2):
  Calls Tryz.prog 52 #[.agg #[.int .i64 y,.int .i64 k,.slice a n c],.agg #[.int .i64 y2,.int .i64 k2,.slice a' n' c']] w fun e w'=>e= .returned (.bool (y==y2&&k==k2&&d==d2))∧Below w.heap.size w w':=by
 have AX:=(aD w (.cells #[.int .i64 y,.int .i64 k,.slice a n c] 72)).alloc (by simp) (.cells #[.int .i64 y2,.int .i64 k2,.slice a' n' c'] 72);have HC:=VL a a' n n' c c' d d2 _ (hs.mono AX) (xV.mono AX) hd hd2;obtain⟨b3,h3⟩:∃b,(d==d2)=b:=⟨_,rfl⟩;rw[h3]at HC;rw[h3];obtain⟨sK,a1T,WO,h3',r9,hd',bLO⟩:=aO hs xV HC h3 AX hd hd2;clear hs xV HC h3 AX hd hd2;go_enter Tryz.func52,Tryz.ntmps52;cases h1:(y==y2)with
 |false=>
  go_wp2_with fail
  go_ret;exact⟨rfl,r9.o⟩
 |true=>
  cases h2:(k==k2)with
  |false=>
   go_wp2_with fail
   go_ret;exact⟨rfl,r9.o⟩
  |true=>
   go_wp2_with fail
   refine WO.o.mono ?_;rintro e w2 ⟨rfl,rfl⟩;go_wp2_with fail
   go_ret;exact⟨by cases b3 <;> rfl,r9.o⟩
theorem aNA:∀(ps:List Pt) (b:List Int),pF b→(∀p∈ps,pF p.2)→pF (FL ps b)
 | [],_,h,_=>h
 |p::ps,b,h,hp=>by
  rw[yC];refine aNA ps _ ?_ fun q hq=>hp q (bL _ hq);have hpp:=hp p (bQ ..);unfold splice;intro x hx;rcases bO.1 hx with hx|hx
  ·exact h x (gQ hx)
  ·rcases bO.1 hx with hx|hx
   ·exact hpp x hx
   ·exact h x (gT hx)
theorem aW5 (x:oJ) (o:Int):pF (JO x o):=by
 unfold JO;exact(((BI _ _ _).append (BI _ _ _)).append (BI _ _ _)).append (BI _ _ _)
theorem aGA {L:List nP} {l:List mZ} {o:Int}:∀(f:Nat) (d:jY f) (no i:Int),tJ f d→∀p∈O7 L l o f d no i,pF p.2
 |0,_,_,_,_,p,hp=>by cases hp
 |f+1,d,no,i,hb,p,hp=>by
  rw[LQ,aC3]at hp;rcases bO.1 hp with hp|hp
  ·obtain⟨j,hj,hp⟩:=aFI hp;exact aGA f _ _ _ (hb.2.1 _ (by rw[kF hj];exact bP hj)) p hp
  rcases bO.1 hp with hp|hp
  ·rcases bO.1 hp with hp|hp
   ·obtain⟨x,hx,hp⟩:=eH.1 hp;unfold FT at hp;split at hp
    ·cases hp
    ·obtain rfl:p=_:=by simpa using hp
     exact a4R (hb.1 x hx)
   ·unfold DI at hp;split at hp
    ·obtain rfl:p=_:=by simpa using hp
     exact hb.2.2
    ·cases hp
  ·unfold LU at hp;rcases cK.1 hp with rfl|hp
   ·exact BI _ _ _
   ·obtain⟨x,_,rfl⟩:=dH.1 hp;exact aW5 x o
theorem aR0 {f:Nat} {o:Int} {ds:List (jY f)} {L:List nP} (h:oD f o ds L=0) (hb:∀d∈ds,tJ f d):pF (yD f o ds L):=by
 rw[Y7 h hb];refine aNA _ _ (fun x hx=>by rw[List.eq_of_mem_replicate hx];decide) fun p hp=>?_;rcases cK.1 hp with rfl|hp
 ·show pF (G8 o)
  unfold G8;split <;> ·intro x hx;simp at hx;omega
 rcases cK.1 hp with rfl|hp
 ·exact BI _ _ _
 rcases cK.1 hp with rfl|hp
 ·exact BI _ _ _
 obtain⟨k,hk,hp⟩:=eH.1 hp;have hk:=cZ.1 hk;rcases bO.1 hp with hp|hp
 ·exact aGA f _ _ _ (hb _ (by rw[kF hk];exact bP hk)) p hp
 ·unfold nextQ at hp;split at hp
  ·obtain rfl:p=_:=by simpa using hp
   exact BI _ _ _
  ·cases hp
def J3 (is:List LB):Int:=(is.map fun x=>x.2.2.2+1).sum
theorem a5Y (a b:List LB):J3 (a++b)=J3 a+J3 b:=by unfold J3;rw[eO,List.sum_append]
theorem aGB:∀(is:List LB) (e:Int),0≤e→(∀x∈is,0≤x.2.2.2)→endP e is≤e+J3 is
 | [],e,_,_=>by simp[endP,J3]
 |x::is,e,h,hx=>by
  have h1:=BN h;have h2:=hx x (bQ ..);have:=aGB is (qQ e+x.2.2.2) aG fun y hy=>hx y (bL _ hy);have e1:J3 (x::is)=x.2.2.2+1+J3 is:=rfl;show endP (qQ e+x.2.2.2) is≤_
  omega
theorem aNB {c:Int}:∀(is:List LB),(∀x∈is,x.2.2.2≤c)→0≤c→J3 is≤is.length*(c+1)
 | [],_,_=>by simp[J3]
 |x::is,h,hc=>by
  have h1:=h x (bQ ..);have h2:=aNB is (fun y hy=>h y (bL _ hy)) hc;have e1:J3 (x::is)=x.2.2.2+1+J3 is:=rfl;rw[e1,dO,show((is.length+1:Nat):Int)=is.length+1 by omega,Int.add_mul];omega
end Go.Proofs.YtceclmpmpldmlaaGreat
namespace Tt
open Go Go.RowKit
theorem bEH (a b:Nat) (ha:a<18446744073709551616) (hb:b<18446744073709551616):bits .or .u64 (a:Int) (b:Int)=((a|||b:Nat):Int):=by
 have hx:a|||b<2 ^ 64:=Nat.or_lt_two_pow aG aG
 have h1:(BitVec.ofInt 64 (a:Int)).toNat=a:=by rw[fV,gP];exact fH aG
 have h2:(BitVec.ofInt 64 (b:Int)).toNat=b:=by rw[fV,gP];exact fH aG
 show IntKind.u64.wrap ((BitVec.ofInt 64 (a:Int)|||BitVec.ofInt 64 (b:Int)).toNat:Int)=_
 rw[BitVec.toNat_or,h1,h2,IntKind.wrap_u64];omega
theorem aNC (a b:Nat) (ha:a<18446744073709551616) (hb:b<18446744073709551616):bits .and .u64 (a:Int) (b:Int)=((a&&& b:Nat):Int):=by
 have hx:a&&& b<2 ^ 64:=Nat.and_lt_two_pow _ aG;have h1:(BitVec.ofInt 64 (a:Int)).toNat=a:=by rw[fV,gP];exact fH aG
 have h2:(BitVec.ofInt 64 (b:Int)).toNat=b:=by rw[fV,gP];exact fH aG
 show IntKind.u64.wrap ((BitVec.ofInt 64 (a:Int)&&& BitVec.ofInt 64 (b:Int)).toNat:Int)=_
 rw[BitVec.toNat_and,h1,h2,IntKind.wrap_u64];omega
theorem a9Z (n:Nat) (h:n<18446744073709551616):bits .and .u64 (n:Int) 63=((n % 64:Nat):Int):=by
 have h1:=aNC n 63 h aH;have h2:n&&& 63=n % 64:=Nat.and_two_pow_sub_one_eq_mod n 6;rw[h2]at h1;exact h1
theorem K7 (p:World→Prop) (w:World) (h:p w):∃(S:Type) (f:S→World),Nonempty S∧(∀s,p (f s))∧∀W,p W→∃s,W=f s:=
 ⟨{W:World // p W},Subtype.val,⟨⟨w,h⟩⟩,fun s=>s.2,fun W h=>⟨⟨W,h⟩,rfl⟩⟩
theorem aW6 (n:Nat) (h:n<18446744073709551616):bits .and .u64 (n:Int) 1=((n % 2:Nat):Int):=by
 have h1:=aNC n 1 h aH;have h2:n&&& 1=n % 2:=Nat.and_two_pow_sub_one_eq_mod n 1;rw[h2]at h1;exact h1
end Tt
namespace Go.Proofs.YtceclmpmpldmlaaGreat
open Go.RowKit Tt
def pan (e:Int):List PanicEntry:= [{v:= .iface 208 (.agg #[.int .i64 e]),recovered:=false}]
def aW7 (b:Bool) (e:Int):Ending:=if b=true then .returned (.tuple #[])else .panicked (pan e)
theorem lJ (b:Bool) (e:Int) (w:World):Calls Tryz.prog 143 #[.bool b,.int .i64 e] w fun x w'=>x=aW7 b e∧w=w':=by
 cases b
 ·
  go_enter Tryz.func143,Tryz.ntmps143;go_wp2;exact⟨rfl,rfl,rfl⟩
 ·
  go_enter Tryz.func143,Tryz.ntmps143;go_wp2;refine bodyPost_end (results_none rfl _ _ _) rfl ?_;exact⟨rfl,rfl⟩
def QK (l:List Nat):List Int:=l.map fun(x:Nat)=>(x:Int)
theorem aGC {l:List Nat} {i:Nat} (h:i<l.length):(QK l).getD i 0=((l.getD i 0:Nat):Int):=by
 rw[kF (by simpa [QK] using h),kF h];simp[QK]
theorem aW8 (l:List Nat) (i v:Nat):(QK l).set i (v:Int)=QK (l.set i v):=by simp[QK,List.map_set]
def a8M (tk:List Nat) (k:Nat):Bool:=(tk.getD (k / 64) 0).testBit (k % 64)
theorem aW9 {tk:List Nat} {k:Nat} (h:k / 64<tk.length) (j:Nat):a8M (tk.set (k / 64) ((tk.getD (k / 64) 0)|||2 ^ (k % 64))) j=(a8M tk j||decide (j=k)):=by
 unfold a8M;by_cases hj:j / 64=k / 64
 ·rw[hj,aZ,List.getElem?_set_self h];simp only[Option.getD_some,Nat.testBit_or,Nat.testBit_two_pow];rw[dY];simp only[dN,decide_eq_true_eq];constructor <;> (rintro(h1|h1) <;> first|exact .inl h1|exact .inr aG)
 ·rw[aZ,List.getElem?_set_ne aG,←aZ];rw[decide_eq_false (show ¬j=k by rintro rfl;exact hj rfl),Bool.or_false]
structure WkS where
 w0:World
 a:Option Addr
 n:Nat
 c:Nat
 z:List Int
 o:Int
 sa:Option Addr
 sn:Nat
 sc:Nat
 zs:List Shz
 g:Nat
 gt:Nat
 tn:Nat
structure WkT (K:WkS):Prop where
 hs:Sl K.w0 K.a K.n K.c 1 (ints .u8 K.z)
 hsh:ShR K.w0 K.sa K.sn K.sc K.zs
 byt:pF K.z
 n1:K.n≤1000000000
 tn:K.tn=K.n / 64+1
 gB:K.w0.heap.size≤K.g
 gtB:K.w0.heap.size≤K.gt
 ne:K.g≠K.gt
structure zJ (K:WkS) (s:St) (sv:Value) (tk:List Nat) (w:World):Prop where
 old:Below K.w0.heap.size K.w0 w
 blk:kG w K.g 148 #[.slice K.a K.n K.c,.int .i64 K.o,.slice K.sa K.sn K.sc,.slice (some ⟨K.gt,0,none⟩) K.tn K.tn,sv,.int .i64 s.no,.int .i64 s.xH]
 tak:Row w K.gt 214 .u64 (QK tk)
 tkl:tk.length=K.tn
 tkb:∀x∈tk,x<18446744073709551616
 bits:∀k,k<K.n→a8M tk k=nH s k
 spot:w.ownsRow K.w0.heap.size 50 5 sv s.o5.length (fl spC s.o5)
 sg:sv.ownBlock≠some K.g
 sgt:sv.ownBlock≠some K.gt
theorem zJ.later {K:WkS} {s:St} {sv:Value} {tk:List Nat} {w w':World} (h:zJ K s sv tk w) (hb:Below w.heap.size w w'):zJ K s sv tk w':=
 ⟨h.old.tm hb,h.blk.late hb,kG.late (T:=214) h.tak hb,h.tkl,h.tkb,h.bits,l6 h.spot hb,h.sg,h.sgt⟩
theorem zJ.a2G {K:WkS} {s:St} {sv:Value} {tk:List Nat} {w:World} (h:zJ K s sv tk w) (t:WkT K):Sl w K.a K.n K.c 1 (ints .u8 K.z):=t.hs.mono h.old
theorem zJ.kK {K:WkS} {s:St} {sv:Value} {tk:List Nat} {w:World} (h:zJ K s sv tk w) (t:WkT K):ShR w K.sa K.sn K.sc K.zs:=t.hsh.mono h.old
theorem aWA (g gt tn:Nat) (cs:Array Value) (T:TypeId) (tk:List Nat) (k:Nat) (w:World) (hb:kG w g T cs) (hc:cs[3]? =some (.slice (some ⟨gt,0,none⟩) tn tn)) (hr:Row w gt 214 .u64 (QK tk)) (hl:tk.length=tn) (ht:∀x∈tk,x<18446744073709551616) (hk:k / 64<tn) (hk2:k≤4611686018427387904):
  Calls Tryz.prog 86 #[.pointer (some ⟨g,0,none⟩),.int .i64 k] w fun e w'=>e= .returned (.bool (a8M tk k))∧w=w':=by
 have c3:w.cell? ⟨g,3,none⟩=some (.slice (some ⟨gt,0,none⟩) tn tn):=hb.cell hc;obtain⟨q,hq⟩:=aC (k / 64);obtain⟨r,KT⟩:=aC (k % 64);have hqi:(k:Int) / 64=q:=by omega
 have f0:=hr.cell (i:=q) (by simp[QK,hl];omega);rw[aGC aG]at f0;obtain⟨x,hx⟩:=aC (tk.getD q 0);rw[hx]at f0;have aR1:x<18446744073709551616:=by
  rw[←hx,kF (show q<tk.length by omega)];exact ht _ (bP _)
 have aS6:a8M tk k=((((x / 2 ^ r) % 2:Nat):Int)==1):=by
  unfold a8M;rw[hq,KT,hx,Nat.testBit_eq_decide_div_mod_eq];generalize x / 2 ^ r=y;rw[dY,beq_iff_eq,decide_eq_true_eq];omega
 rw[aS6];have h1:bits .and .u64 (k:Int) 63=(r:Int):=by rw[a9Z k aG,KT]
 have h2:IntKind.u64.wrap (k:Int)=k:=by rw[IntKind.wrap_u64];omega
 have h3:(x:Int) / 2 ^ r=((x / 2 ^ r:Nat):Int):=by simp
 have hrr:r≤64:=by omega
 have h4:bits .and .u64 ((x / 2 ^ r:Nat):Int) 1=(((x / 2 ^ r) % 2:Nat):Int):=aW6 _ (Nat.lt_of_le_of_lt (Nat.div_le_self _ _) aR1);have hqn:(q:Int)<tn:=by omega
 generalize (x / 2 ^ r)=y at*;clear aS6 hx hr hb ht;go_enter Tryz.func86,Tryz.ntmps86;go_wp2;go_ret;exact⟨rfl,rfl⟩
