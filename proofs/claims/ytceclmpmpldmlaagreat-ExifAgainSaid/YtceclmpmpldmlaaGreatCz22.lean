import Derived.Test.YtceclmpmpldmlaaGreatCz20
import Derived.Test.YtceclmpmpldmlaaGreatCz21
set_option linter.unusedSimpArgs false
set_option linter.unusedVariables false
set_option maxRecDepth 100000
set_option maxHeartbeats 8000000
namespace Tt
open Go Go.RowKit
theorem uR {w w':World} {row:Option Nat} {B:Nat} {E:TypeId} {sz:Nat} {v:Value} {n:Nat} {xs:List Value} (h:w.ownsRow B E sz v n xs) (hg:w.grownBy w' row) (hne:∀k,v.ownBlock=some k→row≠some k):w'.ownsRow B E sz v n xs:=by
 obtain⟨hl,hr⟩:=h;refine⟨hl,?_⟩;rcases hr with hn|⟨g,cap,cur,rfl,hB,hgg,r⟩
 ·exact .inl hn
 ·exact .inr ⟨g,cap,cur,rfl,hB,(hg.block g (bY.1 hgg).1 (Ne.symm (hne g rfl))).trans hgg,r⟩
theorem kE {w:World} {B:Nat} {E T:TypeId} {sz:Nat} {v:Value} {n g:Nat} {xs:List Value} {cs:Array Value} (h:w.ownsRow B E sz v n xs) (hb:jJ w g T cs) (hE:E≠T):v.ownBlock≠some g:=fun e=>by
 rcases h.2 with ⟨rfl,_⟩|⟨g',cap,cur,rfl,_,hg,_⟩
 ·cases e
 ·obtain rfl:g'=g:=by injection e
  unfold jJ at hb;rw[hb]at hg;injection hg with hg;injection hg with h1 h2;exact hE h2.symm
theorem zW {w:World} {B:Nat} {E:TypeId} {sz:Nat} {v:Value} {n:Nat} {xs:List Value} (h:w.ownsRow B E sz v n xs):∃a c,v= .slice a n c:=by
 rcases h.2 with ⟨rfl,h0⟩|⟨g,cap,cur,rfl,_⟩
 ·exact⟨none,0,by rw[h0]⟩
 ·exact⟨_,_,rfl⟩
theorem M6 {w:World} {B B':Nat} {E:TypeId} {sz:Nat} {v:Value} {n:Nat} {xs ys:List Value} (h:w.ownsRow B E sz v n xs) (k:w.ownsRow B' E sz v n ys):xs=ys:=by
 have e:xs.length=ys.length:=h.1.trans k.1.symm;obtain⟨a,c,rfl⟩:=zW h;have hs:=(Sl.jX h).1;have ks:=(Sl.jX k).1;refine gH e (fun j h1 h2=>?_);have hn:0<n:=by
  rcases gQ n with h0|h0
  ·have:=h.1;rw[h0]at this;omega
  ·exact h0
 obtain⟨g,off,e1,_,hc⟩:=hs.lies 0 hn;obtain⟨g',off',e2,_,kc⟩:=ks.lies 0 hn;rw[e1]at e2;injection e2 with e2;injection e2 with e3 e4 _;subst e3 e4;have q1:=hc j _ (aX h1);have q2:=kc j _ (aX h2);rw[q1]at q2;injection q2
end Tt
namespace Go.Proofs.YtceclmpmpldmlaaGreat
open Go.RowKit Tt
theorem bDG {X X' Y:Nat→Prop} {B:Nat} {w w':World} (h:Kp X X' B w w'):Kp (fun k=>X k∨Y k) (fun k=>X' k∨Y k) B w w':=
 ⟨h.size,fun k hB hk hx=>⟨(h.block k hB hk (fun e=>hx (.inl e))).1,fun e=>e.elim (h.block k hB hk (fun e=>hx (.inl e))).2 (fun e=>hx (.inr e))⟩⟩
theorem JY {X:Nat→Prop} {B B2:Nat} {w w':World} {v u:Value} {ts:List nC} {E:TypeId} {sz n:Nat} {xs:List Value} (h:kR X B w v ts) (hu:w.ownsRow B2 E sz u n xs) (hg:w.grownBy w' u.ownBlock) (h1:74≠E) (h2:5≠E):kR X B w' v ts:=by
 obtain⟨zs,e,h3,h4⟩:=h;have key:∀{T:TypeId} {v':Value} {s n:Nat} {ys:List Value},w.ownsRow B T s v' n ys→T≠E→w'.ownsRow B T s v' n ys:=fun h hT=>uR h hg (fun k hk hk2=>by
  rcases EL h hu hT with h5|h5
  ·rw[h5]at hk;cases hk
  ·exact h5 (hk.trans hk2.symm))
 exact⟨zs,e,⟨key h3.1 h1,h3.2⟩,fun z hz=>⟨key (h4 z hz).1 h2,(h4 z hz).2⟩⟩
def nI (X:Nat→Prop) (B:Nat) (w:World) (f:Nat) (v:Value) (subs:List (Int×jD f)):Prop:=
 ∃ds:List (Int×Dz),ds.length=subs.length∧Ck X B w v 28 4 ds.length (fl sbC ds)∧(∀d∈ds,aW9 d.2)∧∀i (h:i<ds.length) (h':i<subs.length),ds[i].1=subs[i].1∧mM (fun k=>X k∨v.ownBlock=some k) B w f subs[i].2 ds[i].2
theorem nI.keep {X X':Nat→Prop} {B f:Nat} {w w':World} {v:Value} {subs:List (Int×jD f)} (h:nI X B w f v subs) (k:Kp X X' B w w'):nI X' B w' f v subs:=by
 obtain⟨ds,h1,h2,h0,h3⟩:=h;exact⟨ds,h1,h2.keep k,h0,fun i hi hi'=>⟨(h3 i hi hi').1,(h3 i hi hi').2.keep (bDG k)⟩⟩
theorem nI.snoc {X:Nat→Prop} {B f:Nat} {w w':World} {v v':Value} {subs:List (Int×jD f)} {t:Int} {d:jD f} {dz:Dz} {n:Nat} (h:nI X B w f v subs) (hn:subs.length=n) (hg:w.grownBy w' v.ownBlock) (ho:∀k,v'.ownBlock=some k→v.ownBlock=some k∨w.heap.size≤k)
  (ob:∀ds:List (Int×Dz),w.ownsRow B 28 4 v n (fl sbC ds)→w'.ownsRow B 28 4 v' (n+1) (fl sbC ds++sbC (t,dz))) (hX:∀k,v'.ownBlock=some k→¬X k) (h1:aW9 dz) (hd:mM (fun k=>X k∨v.ownBlock=some k) B w f d dz):nI X B w' f v' (subs++ [(t,d)]):=by
 obtain⟨ds,h2,h3,h0,h4⟩:=h;have hk:Kp (fun k=>X k∨v.ownBlock=some k) (fun k=>X k∨v'.ownBlock=some k) B w w':=⟨hg.size,fun k hB hk hx=>⟨hg.block k hk (fun e=>hx (.inr e.symm)),fun e=>e.elim (fun e=>hx (.inl e)) (fun e=>by rcases ho k e with e'|e' <;> first|exact hx (.inr e')|omega)⟩⟩;have hdn:ds.length=n:=h2.trans hn;refine⟨ds++ [(t,dz)],by simp[h2],⟨?_,hX⟩,?_,fun i hi hi'=>?_⟩
 ·rw[bO,uO,iD,hdn];exact ob ds (by rw[←hdn];exact h3.1)
 ·intro d' hd';rcases bH.1 hd' with h|h
  ·exact h0 d' h
  ·rw[dD.1 h];exact h1
 ·by_cases hi2:i<ds.length
  ·rw[gF hi2,gF (by omega)];exact⟨(h4 i hi2 (by omega)).1,(h4 i hi2 (by omega)).2.keep hk⟩
  ·have hie:i=ds.length:=by simp at hi;omega
   subst hie;rw[fU (aU _),fU (by omega)];simp only[gZ,iQ,h2];exact⟨trivial,hd.keep hk⟩
theorem kR.own {X:Nat→Prop} {B:Nat} {w:World} {v:Value} {ts:List nC} (h:kR X B w v ts):∃zs:List Tz,ts=zs.map mE∧w.ownsRow B 74 4 v ts.length (fl tzc zs):=by
 obtain⟨zs,h1,h2,_⟩:=h;exact⟨zs,h1,by rw[h1,bX];exact h2.1⟩
theorem aF1 (t:Int) (a1 a2 a3:Option Addr) (n1 n2 n3 c1 c2 c3:Nat):∀u∈sbC (t,(.slice a1 n1 c1,.slice a2 n2 c2,.slice a3 n3 c3)),u.oneCell'=true:=by
 intro u hu;simp only[sbC,bQ,eD,or_false]at hu;rcases hu with rfl|rfl|rfl|rfl <;> rfl
theorem TQ (a1 a2 a3:Option Addr) (n1 n2 n3 c1 c2 c3:Nat):aW9 (.slice a1 n1 c1,.slice a2 n2 c2,.slice a3 n3 c3):=by
 intro u hu;simp only[WS,bQ,eD,or_false]at hu;rcases hu with rfl|rfl|rfl <;> rfl
theorem JZ {X:Nat→Prop} {A B2 B3 f:Nat} {w:World} {vt vs vb:Value} {tags:List nC} {subs:List (Int×jD f)} {blob:List Int} (ht:kR X B2 w vt tags) (hs:nI X B2 w f vs subs) (hb:Ck X B3 w vb 5 1 blob.length (ints .u8 blob)) (h1:A≤B2) (h2:A≤B3):mM X A w (f+1) (tags,subs,blob) (vt,vs,vb):=by
 obtain⟨ds,e1,e2,_,e3⟩:=hs;refine⟨?_,ht.mono h1,⟨ds,e1,e2.mono h1,fun i hi hi'=>⟨(e3 i hi hi').1,((e3 i hi hi').2.keep (Kp.same (fun k _ _ hx e=>hx (.inl e)))).mono h1⟩⟩,hb.mono h2⟩;obtain⟨zs,_,h5⟩:=ht.own;obtain⟨a1,c1,rfl⟩:=zW h5;obtain⟨a2,c2,rfl⟩:=zW e2.1;obtain⟨a3,c3,rfl⟩:=zW hb.1;exact TQ _ _ _ _ _ _ _ _ _
theorem vP {X:Nat→Prop} {B:Nat} {w w':World} {v:Value} {E T:TypeId} {sz n g:Nat} {xs:List Value} {cs:Array Value} (h:Ck X B w v E sz n xs) (b:But g w w') (hb:jJ w g T cs) (hE:E≠T):Ck X B w' v E sz n xs:=⟨lJ h.1 b (kE h.1 hb hE),h.2⟩
theorem kR.nil (X:Nat→Prop) (B:Nat) (w:World):kR X B w (.slice none 0 0) []:=⟨[],rfl,⟨kC _ _ _ _,fun k e=>by cases e⟩,fun z hz=>by cases hz⟩
theorem kR.snoc {X:Nat→Prop} {B:Nat} {w w':World} {v v':Value} {ts:List nC} {t:nC} {z:Tz} (h:kR X B w v ts) (hz:mE z=t) (hg:w.grownBy w' v.ownBlock) (hX:∀k,v'.ownBlock=some k→¬X k)
  (ob:∀zs:List Tz,w.ownsRow B 74 4 v ts.length (fl tzc zs)→w'.ownsRow B 74 4 v' (ts.length+1) (fl tzc zs++tzc z)) (hd:Ck X B w (tzd z) 5 1 z.2.length (ints .u8 z.2)):kR X B w' v' (ts++ [t]):=by
 obtain⟨zs,h1,h2,h3⟩:=h;have hn:zs.length=ts.length:=by rw[h1,bX]
 have key:∀z',Ck X B w (tzd z') 5 1 z'.2.length (ints .u8 z'.2)→Ck X B w' (tzd z') 5 1 z'.2.length (ints .u8 z'.2):=fun z' hc=>⟨uR hc.1 hg (fun k hk hk2=>by
  rcases EL hc.1 h2.1 (by decide)with h5|h5
  ·rw[h5]at hk;cases hk
  ·exact h5 (hk.trans hk2.symm)),hc.2⟩
 refine⟨zs++ [z],by rw[dL,h1,←hz];rfl,⟨?_,hX⟩,fun z' hz'=>?_⟩
 ·rw[bO,uO,iD,hn];exact ob zs (by rw[←hn];exact h2.1)
 ·rcases bH.1 hz' with h|h
  ·exact key z' (h3 z' h)
  ·rw[dD.1 h];exact key z hd
theorem kR.xO {X:Nat→Prop} {B g:Nat} {w w':World} {v:Value} {ts:List nC} {cs:Array Value} (h:kR X B w v ts) (b:But g w w') (hb:jJ w g 26 cs):kR X B w' v ts:=by
 obtain⟨zs,h1,h2,h3⟩:=h;exact⟨zs,h1,vP h2 b hb (by decide),fun z hz=>vP (h3 z hz) b hb (by decide)⟩
theorem mM.xO {X:Nat→Prop} {B g:Nat} {w w':World} {cs:Array Value} (b:But g w w') (hb:jJ w g 26 cs):∀{f:Nat} {d:jD f} {v:Dz},mM X B w f d v→mM X B w' f d v
 |0,_,_,h=>h.elim
 |f+1,d,v,h=>by
  obtain⟨h0,h1,⟨ds,h2,h3,h4⟩,h5⟩:=h;exact⟨h0,h1.xO b hb,⟨ds,h2,vP h3 b hb (by decide),fun i hi hi'=>⟨(h4 i hi hi').1,(h4 i hi hi').2.xO b hb⟩⟩,vP h5 b hb (by decide)⟩
theorem nI.xO {X:Nat→Prop} {B g f:Nat} {w w':World} {v:Value} {subs:List (Int×jD f)} {cs:Array Value} (h:nI X B w f v subs) (b:But g w w') (hb:jJ w g 26 cs):nI X B w' f v subs:=by
 obtain⟨ds,h1,h2,h0,h3⟩:=h;exact⟨ds,h1,vP h2 b hb (by decide),h0,fun i hi hi'=>⟨(h3 i hi hi').1,(h3 i hi hi').2.xO b hb⟩⟩
theorem b0I:(Tryz.prog.info? 28).map (fun i=>(i.size,i.bytes))=some (4,80):=by kernel_rfl
theorem b0J:(Tryz.prog.info? 28).map (fun i=>i.zero.map (fun z=>z.cells.size))=some (some 4):=by kernel_rfl
def K5:Nat→Prop:=fun _=>False
theorem mM.ne {X:Nat→Prop} {B B2:Nat} {w w':World} {u:Value} {n:Nat} {xs:List Value} (hu:w.ownsRow B2 26 3 u n xs) (hg:w.grownBy w' u.ownBlock):∀{f:Nat} {d:jD f} {v:Dz},mM X B w f d v→mM X B w' f d v
 |0,_,_,h=>h.elim
 |f+1,d,v,h=>by
  have key:∀{T:TypeId} {v':Value} {s n:Nat} {ys:List Value},Ck X B w v' T s n ys→T≠26→Ck X B w' v' T s n ys:=fun h hT=>⟨uR h.1 hg (fun k hk hk2=>by
   rcases EL h.1 hu hT with h5|h5
   ·rw[h5]at hk;cases hk
   ·exact h5 (hk.trans hk2.symm)),h.2⟩
  obtain⟨h0,⟨zs,g1,g2,g3⟩,⟨ds,h2,h3,h4⟩,h5⟩:=h;exact⟨h0,⟨zs,g1,key g2 (by decide),fun z hz=>key (g3 z hz) (by decide)⟩,⟨ds,h2,key h3 (by decide),fun i hi hi'=>⟨(h4 i hi hi').1,(h4 i hi hi').2.ne hu hg⟩⟩,key h5 (by decide)⟩
theorem mM.aPS {X:Nat→Prop} {B g:Nat} {w w':World} {cs:Array Value} (b:But g w w') (hb:jJ w g 39 cs):∀{f:Nat} {d:jD f} {v:Dz},mM X B w f d v→mM X B w' f d v
 |0,_,_,h=>h.elim
 |f+1,d,v,h=>by
  obtain⟨h0,⟨zs,g1,g2,g3⟩,⟨ds,h2,h3,h4⟩,h5⟩:=h;exact⟨h0,⟨zs,g1,vP g2 b hb (by decide),fun z hz=>vP (g3 z hz) b hb (by decide)⟩,⟨ds,h2,vP h3 b hb (by decide),fun i hi hi'=>⟨(h4 i hi hi').1,(h4 i hi hi').2.aPS b hb⟩⟩,vP h5 b hb (by decide)⟩
def xW (B:Nat) (w:World) (f:Nat) (v:Value) (ds:List (jD f)):Prop:=
 ∃FW:List Dz,FW.length=ds.length∧w.ownsRow B 26 3 v FW.length (fl WS FW)∧∀i (h:i<FW.length) (h':i<ds.length),mM K5 B w f ds[i] FW[i]
theorem xW.later {B f:Nat} {w w':World} {v:Value} {ds:List (jD f)} (h:xW B w f v ds) (hb:Below w.heap.size w w'):xW B w' f v ds:=by
 obtain⟨FW,h1,h2,h3⟩:=h;exact⟨FW,h1,jY h2 hb,fun i hi hi'=>(h3 i hi hi').keep (Kp.later hb)⟩
theorem xW.aPS {B g f:Nat} {w w':World} {v:Value} {ds:List (jD f)} {cs:Array Value} (h:xW B w f v ds) (b:But g w w') (hb:jJ w g 39 cs):xW B w' f v ds:=by
 obtain⟨FW,h1,h2,h3⟩:=h;exact⟨FW,h1,lJ h2 b (kE h2 hb (by decide)),fun i hi hi'=>(h3 i hi hi').aPS b hb⟩
theorem xW.rd {B f:Nat} {w:World} {a:Option Addr} {n c:Nat} {ds:List (jD f)} (h:xW B w f (.slice a n c) ds):DJ f w a n c ds:=by
 obtain⟨FW,h1,h2,h3⟩:=h;exact⟨FW,h1,(Sl.jX h2).1,fun i hi hi'=>(h3 i hi hi').rd⟩
theorem xW.snoc {B f:Nat} {w w':World} {v v':Value} {ds:List (jD f)} {d:jD f} {dz:Dz} {n:Nat} (h:xW B w f v ds) (hn:ds.length=n) (hg:w.grownBy w' v.ownBlock)
  (ob:∀FW:List Dz,w.ownsRow B 26 3 v n (fl WS FW)→w'.ownsRow B 26 3 v' (n+1) (fl WS FW++WS dz)) (hd:mM K5 B w f d dz):xW B w' f v' (ds++ [d]):=by
 obtain⟨FW,h2,h3,h4⟩:=h;have hdn:FW.length=n:=h2.trans hn;refine⟨FW++ [dz],by simp[h2],?_,fun i hi hi'=>?_⟩
 ·rw[bO,uO,iD,hdn];exact ob FW (by rw[←hdn];exact h3)
 ·by_cases hi2:i<FW.length
  ·rw[gF hi2,gF (by omega)];exact(h4 i hi2 (by omega)).ne h3 hg
  ·have hie:i=FW.length:=by simp at hi;omega
   subst hie;rw[fU (aU _),fU (by omega)];simp only[gZ,iQ,h2];exact hd.ne h3 hg
theorem aXH (a1 a2 a3:Option Addr) (n1 n2 n3 c1 c2 c3:Nat):∀u∈WS (.slice a1 n1 c1,.slice a2 n2 c2,.slice a3 n3 c3),u.oneCell'=true:=by
 intro u hu;simp only[WS,bQ,eD,or_false]at hu;rcases hu with rfl|rfl|rfl <;> rfl
theorem OD (a a':Option Addr) (n n' c c':Nat) (x y:List Int) (w:World) (hx:Sl w a n c 1 (ints .u8 x)) (hy:Sl w a' n' c' 1 (ints .u8 y)) (hbx:mW x) (hby:mW y):
  Calls Tryz.prog 73 #[.slice a n c,.slice a' n' c'] w fun e w'=>e= .returned (.bool (x==y))∧w=w':=by
 have e1:=XA (P:=Tryz.prog) hx 24 5 9 Tryz.underlying24 Tryz.underlying5 Tryz.underlying9;have e2:=XA (P:=Tryz.prog) hy 24 5 9 Tryz.underlying24 Tryz.underlying5 Tryz.underlying9;have e3:=aGY hbx hby;generalize (x==y)=r at*;obtain⟨hx',hy',aNJ,rZ⟩:=aH hx hy hbx hby;clear hx hy hbx hby;go_enter Tryz.func73,Tryz.ntmps73;go_wp2;go_ret;exact⟨rfl,rfl⟩
theorem aL2 (y k y2 k2:Int) (a a':Option Addr) (n c n' c':Nat) (d d2:List Int) (w:World) (hs:Sl w a n c 1 (ints .u8 d)) (hs2:Sl w a' n' c' 1 (ints .u8 d2)) (hd:mW d) (hd2:mW d2):
  Calls Tryz.prog 52 #[.agg #[.int .i64 y,.int .i64 k,.slice a n c],.agg #[.int .i64 y2,.int .i64 k2,.slice a' n' c']] w fun e w'=>e= .returned (.bool (y==y2&&k==k2&&d==d2))∧Below w.heap.size w w':=by
 have hb0:=(aD w (.cells #[.int .i64 y,.int .i64 k,.slice a n c] 72)).alloc (by simp) (.cells #[.int .i64 y2,.int .i64 k2,.slice a' n' c'] 72);have HC:=OD a a' n n' c c' d d2 _ (hs.mono hb0) (hs2.mono hb0) hd hd2;obtain⟨b3,h3⟩:∃b,(d==d2)=b:=⟨_,rfl⟩;rw[h3]at HC;rw[h3];obtain⟨hs',VO,SK,h3',oU,hd',bDH⟩:=aK hs hs2 HC h3 hb0 hd hd2;clear hs hs2 HC h3 hb0 hd hd2;go_enter Tryz.func52,Tryz.ntmps52;cases h1:(y==y2)with
 |false=>
  go_wp2_with fail
  go_ret;exact⟨rfl,oU.o⟩
 |true=>
  cases h2:(k==k2)with
  |false=>
   go_wp2_with fail
   go_ret;exact⟨rfl,oU.o⟩
  |true=>
   go_wp2_with fail
   refine SK.o.mono ?_;rintro e w2 ⟨rfl,rfl⟩;go_wp2_with fail
   go_ret;exact⟨by cases b3 <;> rfl,oU.o⟩
theorem aHO:∀(ps:List Pt) (b:List Int),mW b→(∀p∈ps,mW p.2)→mW (zQ ps b)
 | [],_,h,_=>h
 |p::ps,b,h,hp=>by
  rw[uF];refine aHO ps _ ?_ fun q hq=>hp q (aZ _ hq);have hpp:=hp p (bJ ..);unfold splice;intro x hx;rcases bH.1 hx with hx|hx
  ·exact h x (fO hx)
  ·rcases bH.1 hx with hx|hx
   ·exact hpp x hx
   ·exact h x (fF hx)
theorem aPT (x:mK) (o:Int):mW (D7 x o):=by
 unfold D7;exact(((vE _ _ _).append (vE _ _ _)).append (vE _ _ _)).append (vE _ _ _)
theorem aAO {L:List lV} {l:List lK} {o:Int}:∀(f:Nat) (d:jD f) (no i:Int),pU f d→∀p∈IV L l o f d no i,mW p.2
 |0,_,_,_,_,p,hp=>by cases hp
 |f+1,d,no,i,hb,p,hp=>by
  rw[F9,a5S]at hp;rcases bH.1 hp with hp|hp
  ·obtain⟨j,hj,hp⟩:=aA2 hp;exact aAO f _ _ _ (hb.2.1 _ (by rw[jI hj];exact bL hj)) p hp
  rcases bH.1 hp with hp|hp
  ·rcases bH.1 hp with hp|hp
   ·obtain⟨x,hx,hp⟩:=dK.1 hp;unfold zV at hp;split at hp
    ·cases hp
    ·obtain rfl:p=_:=by simpa using hp
     exact YF (hb.1 x hx)
   ·unfold xS at hp;split at hp
    ·obtain rfl:p=_:=by simpa using hp
     exact hb.2.2
    ·cases hp
  ·unfold FB at hp;rcases bQ.1 hp with rfl|hp
   ·exact vE _ _ _
   ·obtain⟨x,_,rfl⟩:=cB.1 hp;exact aPT x o
theorem aL3 {f:Nat} {o:Int} {ds:List (jD f)} {L:List lV} (h:mJ f o ds L=0) (hb:∀d∈ds,pU f d):mW (uG f o ds L):=by
 rw[QS h hb];refine aHO _ _ (fun x hx=>by rw[List.eq_of_mem_replicate hx];decide) fun p hp=>?_;rcases bQ.1 hp with rfl|hp
 ·show mW (A9 o)
  unfold A9;split <;> ·intro x hx;simp at hx;omega
 rcases bQ.1 hp with rfl|hp
 ·exact vE _ _ _
 rcases bQ.1 hp with rfl|hp
 ·exact vE _ _ _
 obtain⟨k,hk,hp⟩:=dK.1 hp;have hk:=bW.1 hk;rcases bH.1 hp with hp|hp
 ·exact aAO f _ _ _ (hb _ (by rw[jI hk];exact bL hk)) p hp
 ·unfold nextQ at hp;split at hp
  ·obtain rfl:p=_:=by simpa using hp
   exact vE _ _ _
  ·cases hp
def r9 (is:List DN):Int:=(is.map fun x=>x.2.2.2+1).sum
theorem CF (a b:List DN):r9 (a++b)=r9 a+r9 b:=by unfold r9;rw[dL,List.sum_append]
theorem ZF:∀(is:List DN) (e:Int),0≤e→(∀x∈is,0≤x.2.2.2)→endP e is≤e+r9 is
 | [],e,_,_=>by simp[endP,r9]
 |x::is,e,h,hx=>by
  have h1:=wU h;have h2:=hx x (bJ ..);have:=ZF is (oK e+x.2.2.2) (by omega) fun y hy=>hx y (aZ _ hy);have e1:r9 (x::is)=x.2.2.2+1+r9 is:=rfl;show endP (oK e+x.2.2.2) is≤_
  omega
theorem aHP {c:Int}:∀(is:List DN),(∀x∈is,x.2.2.2≤c)→0≤c→r9 is≤is.length*(c+1)
 | [],_,_=>by simp[r9]
 |x::is,h,hc=>by
  have h1:=h x (bJ ..);have h2:=aHP is (fun y hy=>h y (aZ _ hy)) hc;have e1:r9 (x::is)=x.2.2.2+1+r9 is:=rfl;rw[e1,dF,show((is.length+1:Nat):Int)=is.length+1 by omega,Int.add_mul];omega
theorem bDI:(Tryz.prog.info? 74).map (fun i=>(i.size,i.bytes))=some (4,48):=by kernel_rfl
theorem b6C:(Tryz.prog.info? 74).map (fun i=>i.zero.map (fun z=>z.cells.size))=some (some 4):=by kernel_rfl
theorem K6:∃(i:TypeInfo) (z:Value),Tryz.prog.info? 74=some i∧i.zero=some z∧i.size=4∧i.bytes=48∧z.cells.size=4:=by
 have h1:=bDI;have h2:=b6C;revert h1 h2
 cases Tryz.prog.info? 74 with
 |none=>intro h1 _;cases h1
 |some i=>
  intro h1 h2;simp only[fQ,Option.some.injEq,Prod.mk.injEq]at h1 h2;cases hz:i.zero with
  |none=>rw[hz]at h2;cases h2
  |some z=>rw[hz]at h2;simp only[fQ,Option.some.injEq]at h2;exact⟨i,z,rfl,hz,h1.1,h1.2,h2⟩
theorem DV:∀w,(Go.sizeOf 74).run Tryz.prog w= .ok 4 w:=fun w=>by kernel_rfl
theorem a6A:(Tryz.prog.info? 74).map (·.size)=some 4:=by kernel_rfl
theorem aF2 (B:Nat) (a:Option Addr) (n c:Nat) (cs:List Value) (i g':Nat) (ec:Array Value) (w:World) (hown:w.ownsRow B 74 4 (.slice a n c) n cs) (hB:B≤w.heap.size) (hi:i≤n) (hl:n≤1000000)
  (hv:jJ w g' 74 ec) (hvl:ec.size=4) (hne:(Value.slice a n c).ownBlock≠some g') (h1c:∀v∈cs,v.oneCell'=true) (h1v:∀v∈ec.toList,v.oneCell'=true):
  Calls Tryz.prog 171 #[.slice a n c,.int .i64 i,.slice (some ⟨g',0,none⟩) 1 1] w fun e w'=>∃a' c',e= .returned (.slice a' (n+1) c')∧
   w'.ownsRow B 74 4 (.slice a' (n+1) c') (n+1) (cs.take (i*4)++ec.toList++cs.drop (i*4))∧w.grownBy w' (Value.slice a n c).ownBlock:=by
 obtain⟨i0,z0,hi0,hz,hz1,hz2,hz3⟩:=K6;have hS:=(Sl.jX hown).1;have hcl:=hS.len;have hle:=hS.le;have hmx:=hS.max;obtain⟨a1,bN2,_,_⟩:=aGZ (P:=Tryz.prog) Tryz.underlying22 DV hS (i:Int) (by omega) (by omega) (n - i) (c - i) (by omega) (by omega);have hvS:Sl w (some ⟨g',0,none⟩) 1 1 4 ec.toList:=⟨by rw[dA,hvl],aU _,by omega,fun k _=>⟨g',0,rfl,hv.lt,fun j v hj=>by rw[eX];exact hv.cell (by rw[←hj];simp)⟩,fun h=>by cases h⟩;by_cases hin:i=n
 ·subst hin;have d1:((i:Int)==(i:Int))=true:=by simp
  obtain⟨hown',hS',hcl',bN3,hv',hne',h1c'⟩:=aK hown hS hcl hvS hv hne h1c;clear hown hS hcl hvS hv hne h1c;go_enter Tryz.func171,Tryz.ntmps171;go_wp2_with (at_builtin;refine o5 rfl _ _ 22 rfl B 74 i0 z0 4 48 Tryz.underlying22 hi0 hz hz1 hz2 hz3 (by decide) _ i _ rfl hown'.o _ 1 1 _ rfl bN3.o h1v (by omega) (by decide) hB ?_;intro a5 c5 w5 ob hb5 hg5;obtain⟨Ob,Hg5⟩:=aF ob hg5;clear ob hb5 hg5)
  go_ret;exact⟨_,_,rfl,by rw[bP (by rw[hcl'.o];exact aU _),gK (by rw[hcl'.o];exact aU _),dM];exact Ob.o,Hg5.o⟩
 ·have d1:((i:Int)==(n:Int))=false:=by simp;omega
  have d1':(i==n)=false:=by simp;omega
  obtain⟨g,cur,rfl,hBg,hblk,_,hcm,hcs,htk,_⟩:=a2L hown (by omega);have aPU:g≠g':=fun e=>hne (by rw[←e];rfl);have hw1:IntKind.i64.wrap ((n:Int)+1)=n+1:=by rw[aY];omega
  have hw2:IntKind.i64.wrap ((i:Int)+1)=i+1:=by rw[aY];omega
  have hw3:IntKind.i64.wrap ((n:Int)+1 - i)=n+1 - i:=by rw[aY];omega
  have hci:¬(c=i):=by omega
  have hn4:(n:Nat)*4≤cur.size:=by rw[hcs];exact iE _ hle
  have hsrc:∀j v,(cs.drop (i*4))[j]? =some v→w.cell? ⟨g,i*4+j,none⟩=some v:=fun j v hj=>by
   rw[eT,←htk,dI]at hj;split at hj
   ·exact hblk.cell (by rw[←hj];simp)
   ·cases hj
  have h1d:∀v∈cs.drop (i*4),v.oneCell'=true:=fun v hv=>h1c v (fF hv);have hdl:(cs.drop (i*4)).length=(n - i)*4:=by rw[fH,hcl,Nat.sub_mul]
  by_cases hfit:n+1≤c
  ·have d2:decide ((c:Int)<(n:Int)+1)=false:=by simp;omega
   have d2':decide (c<n+1)=false:=by simp;omega
   have c60:=NU (P:=Tryz.prog) Tryz.underlying22 DV g 0 n c (n+1) ((n:Int)+1) (by omega) hfit;have c66:=yB (P:=Tryz.prog) Tryz.underlying22 DV g 0 (n+1) c (i+1) ((i:Int)+1) (by omega) (by omega) hfit (by omega);have c75:=yB (P:=Tryz.prog) Tryz.underlying22 DV g 0 (n+1) c i (i:Int) rfl (by omega) hfit (by omega);rw[eX]at c66 c75;rw[show n+1 - (i+1)=n - i by omega]at c66;have hov:(callFunc 232 #[.slice (some ⟨g',0,none⟩) 1 1,.slice (some ⟨g,(i+1)*4,none⟩) (n - i) (c - (i+1))]).run Tryz.prog w= .ok (.value (.bool false)) w:=by
    rw[run_callFunc_extern Tryz.func232 (by kernel_rfl) (by kernel_rfl) (by kernel_rfl) (e:=Extern.SlicesOverlaps.overlaps #[22,22] #[4]) (by kernel_rfl),
     Lib.run_overlaps_apart w 22 4 74 Tryz.underlying22 4 DV ⟨g',0,none⟩ ⟨g,(i+1)*4,none⟩ 1 1 (n - i) (c - (i+1)) (Ne.symm aPU) 74 74 ec.size cur.size (by unfold World.shape?;rw[hv]) (by unfold World.shape?;rw[hblk]) (by omega) (hv.frozen 0) (hv.frozen _)]
    rfl
   have hcp1:∀ty,(Builtin.copy_ #[22,22] ty #[.slice (some ⟨g,(i+1)*4,none⟩) (n - i) (c - (i+1)),.slice (some ⟨g,i*4,none⟩) (n+1 - i) (c - i)]).run Tryz.prog w.drew= .ok (goInt (Nat.min (n+1 - i) (n - i):Nat)) (w.drew.setRow g (splice cur.toList ((i+1)*4) (cs.drop (i*4))).toArray):=fun ty=>
    yQ w.drew _ _ ty 74 4 g ((i+1)*4) (n - i) _ ⟨g,i*4,none⟩ (n+1 - i) _ cur 74 (cs.drop (i*4)) Tryz.underlying22 a6A hblk (by rw[hdl];congr 1;simp only[j5];split <;> omega) (fun j v hj=>by rw[Addr.add_lit];exact hsrc j v hj) (by rw[hdl];omega) h1d
   obtain⟨wJ,yV⟩:∃wJ,(splice cur.toList ((i+1)*4) (cs.drop (i*4))).toArray=wJ:=⟨_,rfl⟩;rw[yV]at hcp1;have K7:wJ.size=cur.size:=by rw[←yV];simp only[fB];rw[length_splice _ _ _ (by rw[hdl,dA];omega),dA]
   obtain⟨W1,hW1⟩:=aC (w.drew.setRow g wJ);rw[hW1]at hcp1;have hb1:jJ W1 g 74 wJ:=by rw[←hW1];exact jJ.row (w:=w.drew) hblk wJ
   have hcp2:∀ty,(Builtin.copy_ #[22,22] ty #[.slice (some ⟨g,i*4,none⟩) (n+1 - i) (c - i),.slice (some ⟨g',0,none⟩) 1 1]).run Tryz.prog W1= .ok (goInt (Nat.min 1 (n+1 - i):Nat)) (W1.setRow g (splice wJ.toList (i*4) ec.toList).toArray):=fun ty=>
    yQ W1 _ _ ty 74 4 g (i*4) (n+1 - i) _ ⟨g',0,none⟩ 1 _ wJ 74 ec.toList Tryz.underlying22 a6A hb1 (by rw[dA,hvl];simp only[j5];split <;> omega) (fun j v hj=>by rw[Addr.add_lit,eX,←hW1,cell_setRow_other _ _ _ _ (by exact Ne.symm aPU)];exact hv.cell (by rw[←hj];simp)) (by rw[dA,hvl,K7];omega) h1v
   obtain⟨K8,yX⟩:∃K8,(splice wJ.toList (i*4) ec.toList).toArray=K8:=⟨_,rfl⟩;rw[yX]at hcp2;have hfin:(W1.setRow g K8).ownsRow B 74 4 (.slice (some ⟨g,0,none⟩) (n+1) c) (n+1) (cs.take (i*4)++ec.toList++cs.drop (i*4)):=by
    refine AP (jJ.row hb1 K8) hBg hfit hcm ?_ ?_
    ·rw[←yX];simp only[fB];rw[length_splice _ _ _ (by rw[dA,dA,hvl,K7];omega),dA,K7,hcs]
    ·rw[←yX,←yV];simp only[iI];have:=aDU (L:=cur.toList) (D:=cs.drop (i*4)) (E:=ec.toList) (k:=i*4) (e:=4) (d:=(n - i)*4) (by rw[dA,hvl]) hdl (by rw[dA];omega);rw[show i*4+4=(i+1)*4 by omega,show(i+1)*4+(n - i)*4=(n+1)*4 by omega]at this;rw[this];congr 2
     rw[←htk,iK,gW (by omega)]
   have hgr:w.grownBy (W1.setRow g K8) (some g):=by rw[←hW1];exact AO (AO (GA (World.grownBy.refl _ _)) _) _
   obtain⟨hown',hS',hcl',hv',hne',h1c',hblk',hcs',bDJ,hsrc',bDK,AQ⟩:=aP hown hS hcl hv hne h1c hblk hcs htk hsrc h1d hdl;obtain⟨aPV,b0K,hb1',aPW,aAP,MN,bN4⟩:=aK yV K7 hb1 yX hfin hgr h1v;clear hown hS hcl hv hne h1c hblk hcs htk hsrc h1d hdl yV K7 hb1 yX hfin hgr h1v;clear hvS hn4 hci;go_enter Tryz.func171,Tryz.ntmps171;go_wp2_with (simp only[hov])
   go_region_law (refine N8 rfl (.tmp 73) (.tmp 76) 22 22 rfl _ _ (by simp[Act.eval,Act.put]) (by simp[Act.eval,Act.put]) (hcp1 _) ?_)
   go_wp2_with (refine wpList_copy_run _ rfl (.tmp 80) (.tmp 81) 22 22 rfl _ _ rfl rfl (hcp2 _) ?_)
   go_ret;exact⟨_,_,rfl,aAP.o,MN.o⟩
  ·have d2:decide ((c:Int)<(n:Int)+1)=true:=by simp;omega
   have d2':decide (c<n+1)=true:=by simp;omega
   have c34:=NU (P:=Tryz.prog) Tryz.underlying22 DV g 0 n c i (i:Int) rfl (by omega);have c53:=yB (P:=Tryz.prog) Tryz.underlying22 DV g 0 n c i (i:Int) rfl (by omega) hle (by omega);rw[eX]at c53;have hti:(cs.take (i*4)).length=i*4:=by rw[eO,hcl];omega
   have hold:(Builtin.firstCells i0.size i (.slice (some ⟨g,0,none⟩) i c)).run Tryz.prog w.drew= .ok (cs.take (i*4)).toArray w.drew:=run_firstCells_some (P:=Tryz.prog) w.drew i0.size i ⟨g,0,none⟩ i c (cs.take (i*4)) (by rw[hti,hz1]) (fun j v hj=>by
    rw[Addr.add_lit,eX];rw[dI]at hj;split at hj
    ·rw[←htk,dI]at hj;split at hj
     ·exact(hblk.cell (i:=j) (by rw[←hj];simp):w.cell? _=_)
     ·cases hj
    ·cases hj)
   have hap:=Lib.run_append_grow_zeros (P:=Tryz.prog) w 22 3 22 74 i0 z0 .i64 .i64 Tryz.underlying22 Tryz.underlying3 hi0 hz (some ⟨g,0,none⟩) i c (cs.take (i*4)) hold (n+1 - i) (by omega) (by omega) (by omega) (by omega) (by rw[hz2];omega) (by rw[hz2];exact growslice_fits (by omega) (by omega));rw[show i+(n+1 - i)=n+1 by omega]at hap;have hkc:((n+1 - i:Nat):Int)=(n:Int)+1 - i:=by omega
   rw[hkc]at hap;obtain⟨cp,hcp⟩:=aC (grownCap w (n+1) c 74);have hge:=grownCap_ge w (n+1) c 74;have bDL:=grownCap_le_maxLen w (n+1) c 74 (by unfold maxLen;omega);rw[hcp]at hap hge bDL;obtain⟨CU,hCU⟩:∃CU,(cs.take (i*4)).toArray++Builtin.zeroCells z0.cells (n+1 - i)++Builtin.zeroCells z0.cells (cp - (n+1))=CU:=⟨_,rfl⟩;rw[hCU]at hap;have aL4:CU.size=cp*4:=by
    rw[←hCU];simp only[Array.size_append,fB,size_zeroCells,hti,hz3];omega
   have b6D:CU.toList.take (i*4)=cs.take (i*4):=by
    rw[←hCU];simp only[Array.toList_append,iI,dB];rw[dU (by rw[hti];exact aU _),bP (by rw[hti];exact aU _)]
   obtain⟨N,hN⟩:=aC w.heap.size;obtain⟨W1,hW1⟩:=aC (w.drew.alloc (.cells CU 74));have hgN:g≠N:=by have:=hblk.lt;omega
   have bUY:g'≠N:=by have:=hv.lt;omega
   have hb1:jJ W1 N 74 CU:=by rw[←hW1,←hN];exact mF w.drew _
   have b6E:jJ W1 g 74 cur:=by rw[←hW1];exact(sN w.drew _ hblk.lt).trans hblk
   have b6F:jJ W1 g' 74 ec:=by rw[←hW1];exact(sN w.drew _ hv.lt).trans hv
   rw[hN,hW1]at hap;have c43:=yB (P:=Tryz.prog) Tryz.underlying22 DV N 0 (n+1) cp i (i:Int) rfl (by omega) hge (by omega);have c50:=yB (P:=Tryz.prog) Tryz.underlying22 DV N 0 (n+1) cp (i+1) ((i:Int)+1) (by omega) (by omega) hge (by omega);rw[eX]at c43 c50;rw[show n+1 - (i+1)=n - i by omega]at c50;have hcp1:∀ty,(Builtin.copy_ #[22,22] ty #[.slice (some ⟨N,i*4,none⟩) (n+1 - i) (cp - i),.slice (some ⟨g',0,none⟩) 1 1]).run Tryz.prog W1= .ok (goInt (Nat.min 1 (n+1 - i):Nat)) (W1.setRow N (splice CU.toList (i*4) ec.toList).toArray):=fun ty=>
    yQ W1 _ _ ty 74 4 N (i*4) (n+1 - i) _ ⟨g',0,none⟩ 1 _ CU 74 ec.toList Tryz.underlying22 a6A hb1 (by rw[dA,hvl];simp only[j5];split <;> omega) (fun j v hj=>by rw[Addr.add_lit,eX];exact b6F.cell (by rw[←hj];simp)) (by rw[dA,hvl,aL4];omega) h1v
   obtain⟨wJ,yV⟩:∃wJ,(splice CU.toList (i*4) ec.toList).toArray=wJ:=⟨_,rfl⟩;rw[yV]at hcp1;have K7:wJ.size=cp*4:=by rw[←yV];simp only[fB];rw[length_splice _ _ _ (by rw[dA,dA,hvl,aL4];omega),dA,aL4]
   obtain⟨W2,hW2⟩:=aC (W1.setRow N wJ);rw[hW2]at hcp1;have hb2:jJ W2 N 74 wJ:=by rw[←hW2];exact jJ.row hb1 wJ
   have b6G:jJ W2 g 74 cur:=by rw[←hW2];exact(setRow_other _ _ _ _ hgN).trans b6E
   have hcp2:∀ty,(Builtin.copy_ #[22,22] ty #[.slice (some ⟨N,(i+1)*4,none⟩) (n - i) (cp - (i+1)),.slice (some ⟨g,i*4,none⟩) (n - i) (c - i)]).run Tryz.prog W2.drew= .ok (goInt (Nat.min (n - i) (n - i):Nat)) (W2.drew.setRow N (splice wJ.toList ((i+1)*4) (cs.drop (i*4))).toArray):=fun ty=>
    yQ W2.drew _ _ ty 74 4 N ((i+1)*4) (n - i) _ ⟨g,i*4,none⟩ (n - i) _ wJ 74 (cs.drop (i*4)) Tryz.underlying22 a6A hb2 (by rw[hdl];congr 1;simp only[j5];split <;> omega) (fun j v hj=>by
     rw[Addr.add_lit];have hj2:=hj;rw[eT,←htk,dI]at hj2;split at hj2
     ·exact(b6G.cell (i:=i*4+j) (by rw[←hj2];simp):W2.cell? _=_)
     ·cases hj2) (by rw[hdl,K7];omega) h1d
   obtain⟨K8,yX⟩:∃K8,(splice wJ.toList ((i+1)*4) (cs.drop (i*4))).toArray=K8:=⟨_,rfl⟩;rw[yX]at hcp2;have hfin:(W2.drew.setRow N K8).ownsRow B 74 4 (.slice (some ⟨N,0,none⟩) (n+1) cp) (n+1) (cs.take (i*4)++ec.toList++cs.drop (i*4)):=by
    refine AP (jJ.row (w:=W2.drew) hb2 K8) (by omega) hge bDL ?_ ?_
    ·rw[←yX];simp only[fB];rw[length_splice _ _ _ (by rw[hdl,dA,K7];omega),dA,K7]
    ·rw[←yX,←yV];simp only[iI];have:=a94 (L:=CU.toList) (D:=cs.drop (i*4)) (E:=ec.toList) (k:=i*4) (e:=4) (d:=(n - i)*4) (by rw[dA,hvl]) hdl (by rw[dA,aL4];omega);rw[show i*4+4=(i+1)*4 by omega,show(i+1)*4+(n - i)*4=(n+1)*4 by omega]at this;rw[this,b6D]
   have hgr:w.grownBy (W2.drew.setRow N K8) (some g):=by
    rw[←hW2,←hW1];exact a2K (GA (a2K (a90 (GA (World.grownBy.refl _ _)) _) (by omega) _)) (by omega) _
   obtain⟨hown',hS',hcl',hv',hne',h1c',hblk',hcs',bDJ,hsrc',bDK,AQ⟩:=aP hown hS hcl hv hne h1c hblk hcs htk hsrc h1d hdl;obtain⟨aPV,b0K,hb1',aPW,aAP,MN,bN4,hN',hb2',bS5,bS6,bS7⟩:=aP yV K7 hb1 yX hfin hgr h1v hN hb2 b6G b6E b6F;obtain⟨hW1',bC9,bUZ,bSA,bSB,hold',bV0,bV1,bV2⟩:=aM hW1 hW2 hCU aL4 b6D hold hti hcp hkc;clear hown hS hcl hv hne h1c hblk hcs htk hsrc h1d hdl yV K7 hb1 yX hfin hgr h1v hN hb2 b6G b6E b6F hW1 hW2 hCU aL4 b6D hold hti hcp hkc;clear hvS hn4 bN2;go_enter Tryz.func171,Tryz.ntmps171;go_wp2_with (first|(refine Lib.wpList_append_run w rfl (.tmp 34) (.tmp 39) 22 3 rfl _ _ rfl rfl _ _ hap ?_)|(refine wpList_copy_run _ rfl (.tmp 43) (.tmp 44) 22 22 rfl _ _ rfl rfl (hcp1 _) ?_))
   go_region_law (refine N8 rfl (.tmp 50) (.tmp 53) 22 22 rfl _ _ (by simp[Act.eval,Act.put]) (by simp[Act.eval,Act.put]) (hcp2 _) ?_)
   go_wp2_with fail
   go_ret;exact⟨_,_,rfl,aAP.o,MN.o⟩
end Go.Proofs.YtceclmpmpldmlaaGreat
namespace Tt
open Go Go.RowKit
section
variable {P:Program} {T E:TypeId} {sz:Nat} (ht:P.underlying T=some (.slice E)) (hE:∀w,(Go.sizeOf E).run P w= .ok sz w)
include ht hE
theorem aAQ (g o n c l h:Nat) (l' h':Int) (hl':l'=l) (hh':h'=h) (h1:l≤h) (h2:h≤c) (hc:l<c):∀W,(Instr.sliceAt T (.slice (some ⟨g,o,none⟩) n c) (some (.int .i64 l')) (some (.int .i64 h')) none).run P W= .ok (.slice (some ⟨g,o+l*sz,none⟩) (h - l) (c - l)) W:=by
 have he:P.elem T=E:=by unfold Program.elem;rw[ht]
 intro W;rw[run_sliceAt_slice (h:=by rw[he];exact ht),run_slice_lh (ht:=by rw[he];exact ht) (h0:=by omega) (h1:=by omega) (h2:=by omega),he,hE];have e:l'.toNat=l:=by omega
 have e2:h'.toNat=h:=by omega
 simp only[Result.andThen,sliced,e,e2];rw[if_neg (by omega)];simp[Addr.add_lit]
theorem a6B (a:Option Addr) (n c l h m:Nat) (l' h' m':Int) (hl':l'=l) (hh':h'=h) (hm':m'=m) (h1:l≤h) (h2:h≤m) (h3:m≤c):∃v,∀W,(Instr.sliceAt T (.slice a n c) (some (.int .i64 l')) (some (.int .i64 h')) (some (.int .i64 m'))).run P W= .ok v W:=by
 have he:P.elem T=E:=by unfold Program.elem;rw[ht]
 refine⟨sliced a l'.toNat h'.toNat m'.toNat sz,fun W=>?_⟩;rw[run_sliceAt_slice (h:=by rw[he];exact ht),run_slice_lhm (ht:=by rw[he];exact ht) (h0:=by omega) (h1:=by omega) (h2:=by omega) (h3:=by omega),he,hE];rfl
theorem aAR (g o n:Nat) (l':Int) (hl':l'=n):∀W,(Instr.sliceAt T (.slice (some ⟨g,o,none⟩) n n) (some (.int .i64 l')) none none).run P W= .ok (.slice (some ⟨g,o,none⟩) 0 0) W:=by
 have he:P.elem T=E:=by unfold Program.elem;rw[ht]
 intro W;rw[run_sliceAt_slice (h:=by rw[he];exact ht),run_slice_l (ht:=by rw[he];exact ht) (h0:=by omega) (h1:=by omega),he,hE];have e:l'.toNat=n:=by omega
 simp only[Result.andThen,sliced,e,gZ];simp
end
section
variable {P:Program}
theorem a1O (w:World) (t e ty:TypeId) (z:Value) (ht:P.underlying t=some (.slice e)) (hv:∀w,(zeroValue e).run P w= .ok z w) (g o n c:Nat) (hn:0<n) (cur:Array Value) (T:TypeId) (hg:w.heap[g]? =some (.cells cur T (0,0))) (zs:List Value) (hz:(Builtin.zeroCells z.cells n).toList=zs)
  (h1:∀v∈zs,v.oneCell'=true) (hfit:o+zs.length≤cur.size):
  (Builtin.clear_ #[t] ty #[.slice (some ⟨g,o,none⟩) n c]).run P w= .ok (.tuple #[]) (w.setRow g (splice cur.toList o zs).toArray):=by
 have hst:=run_storeCells_at P g o T zs 0 cur w hg (by simpa using hfit) h1;simp only[cK]at hst;obtain⟨m,rfl⟩:∃m,n=m+1:=⟨n - 1,by omega⟩;simp[Builtin.clear_,run_underlying ht,hv,hz,hst,splice]
theorem a6C (w:World) {o:Oper} {a:Act} {K:Act→World→Prop} {Q:Exit→Act→World→Prop} (s:Operand) (t:TypeId)
  (ho:o.op= .call {callee:= .builtin .clear,args:=#[s],argTypes:=#[t]}) (v:Value) (hs:a.eval s=v) {v':Value} {w':World}
  (hr:(Builtin.clear_ #[t] o.type #[v]).run P w= .ok v' w') (h:K (a.put o.dst v') w'):o.wp P a w K Q:=by
 unfold Oper.wp execOp;simp only[ho,resolve,invoke,builtin,Sem.run_bind,Sem.run_pure,Result.andThen_ok,List.map_toArray,aS,aT,hs,hr];exact h
theorem TR (w:World) {ops:Array Oper} {rest:List Oper} {o:Oper} {a:Act} {Q:Exit→Act→World→Prop} (hgd:o.guard=none) (s:Operand) (t:TypeId)
  (ho:o.op= .call {callee:= .builtin .clear,args:=#[s],argTypes:=#[t]}) (v:Value) (hs:a.eval s=v) {v':Value} {w':World}
  (hr:(Builtin.clear_ #[t] o.type #[v]).run P w= .ok v' w') (h:wpList P ops Q rest (a.put o.dst v') w'):wpList P ops Q (o::rest) a w:=
 wpList_plain hgd fun _ hK=>a6C w s t ho v hs hr (hK _ _ h)
theorem WH {ops:Array Oper} {o:Oper} {a:Act} {w:World} {K:Act→World→Prop} {Q:Exit→Act→World→Prop} {E:Prop}
  (hg:o.guard=none) (d x:Operand) (t:TypeId) (hop:o.op=Op.call {callee:=Callee.builtin Builtin.append,args:=#[d,x],argTypes:=#[t,t]})
  (v u:Value) (hd:a.eval d=v) (hx:a.eval x=u) {v':Value} {w':World} (hr:(Builtin.append_ #[t,t] o.type #[v,u]).run P w= .ok v' w') (hK:K (a.put o.dst v') w'):
  if Region.wanted o (yielded ops a.tmps)=true then Oper.wp P o a w K Q else E:=by
 have hw:Region.wanted o (yielded ops a.tmps)=true:=by simp[Region.wanted,hg]
 rw[if_pos hw];exact Lib.wp_append_run w d x t t hop v u hd hx v' w' hr hK
end
theorem aAS {α:Type} {L E:List α} {k m:Nat} (hm:m≤k) (hk:k≤L.length):(splice L k E).take m=L.take m:=by
 unfold splice;rw[dU (by simp;omega),iK,gW hm]
end Tt
namespace Go.Proofs.YtceclmpmpldmlaaGreat
open Go.RowKit Tt
theorem bDM:∀w,(zeroValue 74).run Tryz.prog w= .ok (.agg #[.int .i64 0,.int .i64 0,.int .i64 0,.slice none 0 0]) w:=fun w=>by kernel_rfl
theorem b6H:(Builtin.zeroCells (Value.agg #[.int .i64 0,.int .i64 0,.int .i64 0,.slice none 0 0]).cells 1).toList= [.int .i64 0,.int .i64 0,.int .i64 0,.slice none 0 0]:=by kernel_rfl
theorem aF3 (B:Nat) (a:Option Addr) (n c:Nat) (cs:List Value) (i:Nat) (i':Int) (w:World) (hown:w.ownsRow B 74 4 (.slice a n c) n cs) (hi:i<n) (hi':i'=(i:Int)+1) (h1c:∀v∈cs,v.oneCell'=true) (hl:n≤1000000):
  Calls Tryz.prog 201 #[.slice a n c,.int .i64 i,.int .i64 i'] w fun e w'=>∃a' c',e= .returned (.slice a' (n - 1) c')∧
   w'.ownsRow B 74 4 (.slice a' (n - 1) c') (n - 1) (cs.take (i*4)++cs.drop ((i+1)*4))∧w.grownBy w' (Value.slice a n c).ownBlock:=by
 obtain⟨i0,z0,hi0,hz,hz1,hz2,hz3⟩:=K6;have hcl:=(Sl.jX hown).1.len;obtain⟨g,cur,rfl,hBg,hblk,hle,hcm,hcs,htk,_⟩:=a2L hown (by omega);have hmx:c≤9223372036854775807:=by unfold maxLen at hcm;omega
 obtain⟨v1,c13⟩:=a6B (P:=Tryz.prog) Tryz.underlying22 DV (some ⟨g,0,none⟩) n c i (i+1) n (i:Int) i' (n:Int) rfl (by omega) rfl (by omega) (by omega) hle;have c22:=NU (P:=Tryz.prog) Tryz.underlying22 DV g 0 n c i (i:Int) rfl (by omega);have hn4:n*4≤cur.size:=by rw[hcs];exact iE _ hle
 have hdl:(cs.drop ((i+1)*4)).length=(n - (i+1))*4:=by rw[fH,hcl,Nat.sub_mul]
 have h1d:∀v∈cs.drop ((i+1)*4),v.oneCell'=true:=fun v hv=>h1c v (fF hv);have hsrc:∀j v,(cs.drop ((i+1)*4))[j]? =some v→w.cell? ⟨g,(i+1)*4+j,none⟩=some v:=fun j v hj=>by
  rw[eT,←htk,dI]at hj;split at hj
  ·exact hblk.cell (by rw[←hj];simp)
  ·cases hj
 have hcut:∃p,(∀W,(Instr.sliceAt 22 (.slice (some ⟨g,0,none⟩) n c) (some (.int .i64 i')) none none).run Tryz.prog W= .ok (.slice (some ⟨g,p,none⟩) (n - (i+1)) (c - (i+1))) W)∧∀j v,(cs.drop ((i+1)*4))[j]? =some v→w.cell? ⟨g,p+j,none⟩=some v:=by
  by_cases hc:i+1<c
  ·refine⟨(i+1)*4,?_,hsrc⟩;have:=yB (P:=Tryz.prog) Tryz.underlying22 DV g 0 n c (i+1) i' (by omega) (by omega) hle hc;rwa [eX]at this
  ·obtain rfl:c=i+1:=by omega
   obtain rfl:n=i+1:=by omega
   refine⟨0,?_,fun j v hj=>?_⟩
   ·have:=aAR (P:=Tryz.prog) Tryz.underlying22 DV g 0 (i+1) i' (by omega);rw[gZ];exact this
   ·have h0:=(dZ.1 hj).1;rw[hdl,gZ]at h0;omega
 obtain⟨p,c25,aPX⟩:=hcut;have hap:∀ty,(Builtin.append_ #[22,22] ty #[.slice (some ⟨g,0,none⟩) i c,.slice (some ⟨g,p,none⟩) (n - (i+1)) (c - (i+1))]).run Tryz.prog w.drew= .ok (.slice (some ⟨g,0,none⟩) (n - 1) c) (w.drew.setRow g (splice cur.toList (i*4) (cs.drop ((i+1)*4))).toArray):=fun ty=>by
  have h:=run_append_room (P:=Tryz.prog) (w:=w.drew) 22 ty 74 i0 Tryz.underlying22 hi0 g i c cur hblk ⟨g,p,none⟩ (n - (i+1)) (c - (i+1)) (cs.drop ((i+1)*4)) (by rw[hdl,hz1]) (fun j v hj=>by rw[Addr.add_lit];exact aPX j v hj) h1d (by omega) (by rw[hdl,hz1];omega);rw[h,show i+(n - (i+1))=n - 1 by omega,hz1];unfold splice;rw[dB]
 obtain⟨wJ,yV⟩:∃wJ,(splice cur.toList (i*4) (cs.drop ((i+1)*4))).toArray=wJ:=⟨_,rfl⟩;rw[yV]at hap;have K7:wJ.size=cur.size:=by rw[←yV];simp only[fB];rw[length_splice _ _ _ (by rw[hdl,dA];omega),dA]
 obtain⟨W1,hW1⟩:=aC (w.drew.setRow g wJ);rw[hW1]at hap;have hb1:jJ W1 g 74 wJ:=by rw[←hW1];exact jJ.row (w:=w.drew) hblk wJ
 have hn1:((n - 1:Nat):Int)=(n:Int) - 1:=by omega
 have c31:=aAQ (P:=Tryz.prog) Tryz.underlying22 DV g 0 (n - 1) c (n - 1) n ((n - 1:Nat):Int) (n:Int) rfl rfl (by omega) hle (by omega);rw[eX,show n - (n - 1)=1 by omega]at c31;have bDN:∀ty,(Builtin.clear_ #[22] ty #[.slice (some ⟨g,(n - 1)*4,none⟩) 1 (c - (n - 1))]).run Tryz.prog W1= .ok (.tuple #[]) (W1.setRow g (splice wJ.toList ((n - 1)*4) [.int .i64 0,.int .i64 0,.int .i64 0,.slice none 0 0]).toArray):=fun ty=>
  a1O (P:=Tryz.prog) W1 _ _ ty _ Tryz.underlying22 bDM g ((n - 1)*4) 1 _ (by omega) wJ 74 hb1 _ b6H (by intro v hv;simp only[bQ,eD,or_false]at hv;rcases hv with rfl|rfl|rfl|rfl <;> rfl) (by rw[K7];simp only[dF,gN];omega)
 obtain⟨K8,yX⟩:∃K8,(splice wJ.toList ((n - 1)*4) [Value.int .i64 0,.int .i64 0,.int .i64 0,.slice none 0 0]).toArray=K8:=⟨_,rfl⟩;rw[yX]at bDN;have hfin:(W1.setRow g K8).ownsRow B 74 4 (.slice (some ⟨g,0,none⟩) (n - 1) c) (n - 1) (cs.take (i*4)++cs.drop ((i+1)*4)):=by
  refine AP (jJ.row hb1 K8) hBg (by omega) hcm ?_ ?_
  ·rw[←yX];simp only[fB];have bDO:wJ.toList.length=c*4:=by rw[dA,K7,hcs]
   rw[length_splice _ _ _ (by rw[bDO];simp only[dF,gN];omega),bDO]
  ·rw[←yX];simp only[iI];rw[aAS (aU _) (by rw[dA,K7];omega),←yV];simp only[iI];rw[a92 (by rw[hdl];omega) (by rw[dA];omega),←htk,iK,gW (by omega)]
 have hgr:w.grownBy (W1.setRow g K8) (some g):=by rw[←hW1];exact AO (AO (GA (World.grownBy.refl _ _)) _) _
 have d1:((i:Int)==i')=false:=by simp;omega
 obtain⟨hown',hcl',hblk',hcs',bDJ,hsrc',bN5,bDK,AQ,aPV,b0K,hb1'⟩:=aP hown hcl hblk hcs htk hsrc aPX h1d hdl yV K7 hb1;obtain⟨aPW,aAP,MN,h1c',hW1',bV3,hn1'⟩:=aK yX hfin hgr h1c hW1 hi' hn1;clear hown hcl hblk hcs htk hsrc aPX h1d hdl yV K7 hb1 yX hfin hgr h1c hW1 hi' hn1;clear hn4;go_enter Tryz.func201,Tryz.ntmps201;go_wp2_with fail
 go_region_law (refine WH rfl (.tmp 22) (.tmp 25) 22 rfl _ _ (by simp[Act.eval,Act.put]) (by simp[Act.eval,Act.put]) (hap _) ?_)
 go_wp2_with (refine TR _ rfl (.tmp 31) 22 rfl _ rfl (bDN _) ?_)
 go_ret;exact⟨_,_,rfl,aAP.o,MN.o⟩
