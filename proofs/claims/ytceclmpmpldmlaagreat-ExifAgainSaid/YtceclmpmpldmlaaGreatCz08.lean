import Derived.Test.YtceclmpmpldmlaaGreatCz07
set_option linter.unusedSimpArgs false
set_option linter.unusedVariables false
set_option maxRecDepth 100000
set_option maxHeartbeats 8000000
namespace Go.Proofs.YtceclmpmpldmlaaGreat
open Go.RowKit Tt
def Dj (p q:Pt):Prop:=p.1+p.2.length≤q.1∨q.1+q.2.length≤p.1
theorem Dj.symm {p q:Pt} (h:Dj p q):Dj q p:=Or.symm h
theorem qI {b c:List Int} {i:Nat} (h:i+c.length≤b.length) (k:Nat):(splice b i c).getD k 0=if i≤k∧k<i+c.length then c.getD (k - i) 0 else b.getD k 0:=by
 unfold splice;simp only[aV,List.getElem?_append,dI,eT,eO];by_cases h1:k<i
 ·rw[if_pos (by omega),if_pos h1,if_neg (by omega)]
 ·rw[if_neg (by omega)];by_cases h2:k<i+c.length
  ·rw[if_pos (by omega),if_pos (by omega),gW (by omega)]
  ·rw[if_neg (by omega),if_neg (by omega)];congr 2
   omega
theorem AZ {a b:List Int} (hl:a.length=b.length) (h:∀k,k<a.length→a.getD k 0=b.getD k 0):a=b:=by
 refine gH hl fun k h1 h2=>?_;have:=h k h1;rwa [aV,aV,aX h1,aX h2]at this
theorem a98 {b:List Int} {p q:Pt} (h:Dj p q) (hp:p.1+p.2.length≤b.length) (hq:q.1+q.2.length≤b.length):splice (splice b p.1 p.2) q.1 q.2=splice (splice b q.1 q.2) p.1 p.2:=by
 have e1:=o9 hp;have e2:=o9 hq;refine AZ ((o9 (by omega)).trans (e1.trans (e2.symm.trans (o9 (by omega)).symm))) fun k hk=>?_;rw[qI (by omega),qI (by omega),qI (by omega),qI (by omega)];rcases h with h|h
 ·by_cases h1:q.1≤k∧k<q.1+q.2.length
  ·rw[if_pos h1,if_neg (by omega),if_pos h1]
  ·rw[if_neg h1];by_cases h2:p.1≤k∧k<p.1+p.2.length
   ·rw[if_pos h2,if_pos h2]
   ·rw[if_neg h2,if_neg h2,if_neg h1]
 ·by_cases h1:q.1≤k∧k<q.1+q.2.length
  ·rw[if_pos h1,if_neg (by omega),if_pos h1]
  ·rw[if_neg h1];by_cases h2:p.1≤k∧k<p.1+p.2.length
   ·rw[if_pos h2,if_pos h2]
   ·rw[if_neg h2,if_neg h2,if_neg h1]
def InB (n:Nat) (ps:List Pt):Prop:=∀p∈ps,p.1+p.2.length≤n
theorem uF (p:Pt) (ps:List Pt) (b:List Int):zQ (p::ps) b=zQ ps (splice b p.1 p.2):=rfl
theorem a4W:∀(ps:List Pt) (b:List Int),InB b.length ps→(zQ ps b).length=b.length
 | [],_,_=>rfl
 |p::ps,b,h=>by
  have h1:=o9 (h p (bJ ..));rw[uF,a4W ps _ (by rw[h1];exact fun q hq=>h q (aZ _ hq)),h1]
theorem WW:∀(ps:List Pt) (b:List Int) (k:Nat),InB b.length ps→(∀p∈ps,¬(p.1≤k∧k<p.1+p.2.length))→(zQ ps b).getD k 0=b.getD k 0
 | [],_,_,_,_=>rfl
 |p::ps,b,k,h,hk=>by
  have hp:=h p (bJ ..);have h1:=o9 hp;rw[uF,WW ps _ k (by rw[h1];exact fun q hq=>h q (aZ _ hq)) (fun q hq=>hk q (aZ _ hq)),qI hp,if_neg (hk p (bJ ..))]
theorem aNP:∀(ps:List Pt) (b:List Int),InB b.length ps→ps.Pairwise Dj→∀p∈ps,∀i,i<p.2.length→(zQ ps b).getD (p.1+i) 0=p.2.getD i 0
 | [],_,_,_,_,hp,_,_=>by cases hp
 |q::ps,b,h,hd,p,hp,i,hi=>by
  have hq:=h q (bJ ..);have h1:=o9 hq;have hb:InB (splice b q.1 q.2).length ps:=by rw[h1];exact fun r hr=>h r (aZ _ hr)
  obtain⟨hd1,hd2⟩:=dR.1 hd;rw[uF];rcases bQ.1 hp with rfl|hp
  ·rw[WW ps _ _ hb (fun r hr=>by have:=hd1 r hr;unfold Dj at this;omega),qI hq,if_pos (by omega),Nat.add_sub_cancel_left]
  ·exact aNP ps _ hb hd2 p hp i hi
theorem aWH {ps:List Pt} {b:List Int} (h:InB b.length ps) (hd:ps.Pairwise Dj) {p:Pt} (hp:p∈ps):((zQ ps b).drop p.1).take p.2.length=p.2:=by
 have hl:=a4W ps b h;have:=h p hp;refine AZ (by simp;omega) fun k hk=>?_;have hk':k<p.2.length:=by simp at hk;omega
 rw[←aNP ps b h hd p hp k hk'];simp only[aV,dI,eT];rw[if_pos hk']
theorem aNQ {ps qs:List Pt} (hpm:ps.Perm qs):∀(b:List Int),InB b.length ps→ps.Pairwise Dj→zQ ps b=zQ qs b:=by
 induction hpm with
 |nil=>intros;rfl
 |cons p _ ih=>
  intro b h hd;have h1:=o9 (h p (bJ ..));rw[uF,uF];exact ih _ (by rw[h1];exact fun r hr=>h r (aZ _ hr)) (dR.1 hd).2
 |swap p q l=>
  intro b h hd;have hq:=h q (bJ ..);have hp:=h p (aZ _ (bJ ..));have hdj:=(dR.1 hd).1 p (bJ ..);rw[uF,uF,uF,uF,a98 hdj hq hp]
 |trans h1 _ ih1 ih2=>
  intro b h hd;rw[ih1 b h hd];exact ih2 b (fun r hr=>h r (h1.mem_iff.2 hr)) ((h1.pairwise_iff (fun {_ _} h=>Dj.symm h)).1 hd)
theorem GD {α β:Type} {f g:α→List β}:∀(l:List α),(∀x∈l,(f x).Perm (g x))→(l.flatMap f).Perm (l.flatMap g)
 | [],_=>List.Perm.refl _
 |x::l,h=>by
  rw[dO,dO];exact(h x (bJ ..)).append (GD l fun y hy=>h y (aZ _ hy))
abbrev DN:=Int×Int×Int×Int
def IB (l:List lK) (x:DN):List lK:=mZ l x.1 x.2.1 x.2.2.1 x.2.2.2
def placed:Int→List DN→List lK
 |_, []=> []
 |e,x::r=>(x.1,x.2.1,x.2.2.1,oK e,x.2.2.2)::placed (oK e+x.2.2.2) r
def endP:Int→List DN→Int
 |e, []=>e
 |e,x::r=>endP (oK e+x.2.2.2) r
theorem aK0 (l:List lK) (x:DN):lS (IB l x)=oK (lS l)+x.2.2.2:=JE ..
theorem Y9:∀(is:List DN) (l:List lK),is.foldl IB l=l++placed (lS l) is∧lS (is.foldl IB l)=endP (lS l) is
 | [],l=>by simp[placed,endP]
 |x::is,l=>by
  have ih:=Y9 is (IB l x);rw[iU,ih.2,ih.1,aK0];refine⟨?_,rfl⟩;unfold IB mZ;rw[dB];rfl
theorem a4X:∀(is:List DN) (e:Int),0≤e→(∀x∈is,0≤x.2.2.2)→e≤endP e is
 | [],e,_,_=>fP _
 |x::is,e,h,hx=>by
  have h1:=wU h;have h2:=hx x (bJ ..);have:=a4X is (oK e+x.2.2.2) (by omega) fun y hy=>hx y (aZ _ hy);show e≤endP (oK e+x.2.2.2) is
  omega
theorem ET:∀(is:List DN) (e:Int),0≤e→(∀x∈is,0≤x.2.2.2)→∀s∈placed e is,e≤s.2.2.2.1∧s.2.2.2.1 % 2=0∧0≤s.2.2.2.2∧s.2.2.2.1+s.2.2.2.2≤endP e is
 | [],_,_,_,s,hs=>by cases hs
 |x::is,e,h,hx,s,hs=>by
  have h1:=wU h;have h2:=hx x (bJ ..);have hx':=fun y hy=>hx y (aZ _ hy);rcases bQ.1 hs with rfl|hs
  ·have:=a4X is (oK e+x.2.2.2) (by omega) hx';refine⟨h1.1,?_,h2,this⟩;show oK e % 2=0
   unfold oK;omega
  ·have:=ET is (oK e+x.2.2.2) (by omega) hx' s hs;exact⟨by omega,this.2⟩
def Ahead (s t:lK):Prop:=s.2.2.2.1+s.2.2.2.2≤t.2.2.2.1
theorem PS:∀(is:List DN) (e:Int),0≤e→(∀x∈is,0≤x.2.2.2)→(placed e is).Pairwise Ahead
 | [],_,_,_=>List.Pairwise.nil
 |x::is,e,h,hx=>by
  have h1:=wU h;have h2:=hx x (bJ ..);have hx':=fun y hy=>hx y (aZ _ hy);exact List.Pairwise.cons (fun s hs=>(ET is _ (by omega) hx' s hs).1) (PS is _ (by omega) hx')
def YA (x:DN):Int×Int×Int:=(x.1,x.2.1,x.2.2.1)
def BP (x:lK):Int×Int×Int:=(x.1,x.2.1,x.2.2.1)
theorem UZ:∀(is:List DN) (e:Int),(placed e is).map BP=is.map YA
 | [],_=>rfl
 |x::is,e=>by
  show BP _::(placed _ is).map BP=YA x::is.map YA
  rw[UZ is];rfl
theorem YB:∀(is:List DN) (e:Int) (x:DN),x∈is→∃s∈placed e is,BP s=YA x∧s.2.2.2.2=x.2.2.2
 | [],_,_,h=>by cases h
 |y::is,e,x,h=>by
  rcases bQ.1 h with rfl|h
  ·exact⟨_,bJ ..,rfl,rfl⟩
  ·obtain⟨s,h1,h2⟩:=YB is (oK e+y.2.2.2) x h;exact⟨s,aZ _ h1,h2⟩
theorem aHD {a b c:Int} {s:lK}:atP a b c s=true↔BP s=(a,b,c):=by
 unfold atP BP;simp[Prod.ext_iff,and_assoc]
theorem aHE {l:List lK} (hd:(l.map BP).Nodup) {s:lK} (hs:s∈l):l.any (atP s.1 s.2.1 s.2.2.1)=true∧oG l s.1 s.2.1 s.2.2.1=s.2.2.2.1:=by
 induction l with
 |nil=>cases hs
 |cons t l ih=>
  obtain⟨h1,h2⟩:=iT.1 hd;rcases bQ.1 hs with rfl|hs
  ·have:atP s.1 s.2.1 s.2.2.1 s=true:=aHD.2 rfl;unfold oG;simp[List.find?,this]
  ·obtain⟨i1,i2⟩:=ih h2 hs;have hne:atP s.1 s.2.1 s.2.2.1 t=false:=by
    cases hh:atP s.1 s.2.1 s.2.2.1 t with
    |false=>rfl
    |true=>exact absurd (cB.2 ⟨s,hs,(aHD.1 hh).symm⟩) h1
   unfold oG at i2 ⊢;rw[List.any_cons,hne,List.find?,hne];exact⟨by simpa using i1,i2⟩
def InQ (l:List lK) (Q:lK→Prop) (p:Pt):Prop:=∃s∈l,Q s∧s.2.2.2.1≤p.1∧(p.1:Int)+p.2.length≤s.2.2.2.1+s.2.2.2.2
theorem EU {l:List lK} (h:l.Pairwise Ahead) {s t:lK} (hs:s∈l) (ht:t∈l) (hn:s≠t):Ahead s t∨Ahead t s:=by
 induction l with
 |nil=>cases hs
 |cons u l ih=>
  obtain⟨h1,h2⟩:=dR.1 h;rcases bQ.1 hs with e1|hs2 <;> rcases bQ.1 ht with e2|ht2
  ·exact absurd (e1.trans e2.symm) hn
  ·exact .inl (e1▸h1 _ ht2)
  ·exact .inr (e2▸h1 _ hs2)
  ·exact ih h2 hs2 ht2
theorem PU {l:List lK} (h:l.Pairwise Ahead) {Q R:lK→Prop} {p q:Pt} (hp:InQ l Q p) (hq:InQ l R q) (hx:∀s,Q s→R s→False):Dj p q:=by
 obtain⟨s,hs,h1,h2,h3⟩:=hp;obtain⟨t,ht,h4,h5,h6⟩:=hq;have hn:s≠t:=fun e=>hx s h1 (e▸h4);unfold Dj;rcases EU h hs ht hn with h7|h7 <;> unfold Ahead at h7 <;> omega
theorem InQ.mono {l:List lK} {Q R:lK→Prop} {p:Pt} (h:InQ l Q p) (hx:∀s,Q s→R s):InQ l R p:=by
 obtain⟨s,h1,h2,h3⟩:=h;exact⟨s,h1,hx s h2,h3⟩
theorem pJ {n s o:Int} (h:kX n s o=true):(kL n s o).length=s.toNat:=by
 unfold kL;rw[if_pos h];split <;> simp[LJ]
def PV (x:mK) (o k:Int):List Int:=
 if k=0 then []else if k=1 then kL x.1 2 o else if k=2 then kL x.1 2 o++kL x.2.1 2 o else if k=3 then kL x.1 2 o++kL x.2.1 2 o++kL x.2.2.1 4 o else D7 x o
def VW (k:Int):Nat:=if k=0 then 0 else if k=1 then 2 else if k=2 then 4 else if k=3 then 8 else 12
theorem aNR:(Tryz.prog.info? 5).map (fun i=>(i.zero,i.size,i.bytes))=some (some (.int .u8 0),1,1):=by kernel_rfl
theorem nL {w:World} {B:Nat} {E T:TypeId} {sz:Nat} {v:Value} {n g:Nat} {xs:List Value} {cs:Array Value} (h:w.ownsRow B E sz v n xs) (hb:jJ w g T cs) (hE:E≠T):v.ownBlock≠some g:=fun e=>by
 rcases h.2 with ⟨rfl,_⟩|⟨g',cap,cur,rfl,_,hg,_⟩
 ·cases e
 ·obtain rfl:g'=g:=by injection e
  unfold jJ at hb;rw[hb]at hg;injection hg with hg;injection hg with h1 h2;exact hE h2.symm
theorem YC (x0 x1 x2 x3 o:Int) (w:World) (hok:DL (x0,x1,x2,x3) o=true):
  Calls Tryz.prog 98 #[.agg #[.int .i64 x0,.int .i64 x1,.int .i64 x2,.int .i64 x3],.int .i64 o] w fun e w'=>∃a c,e= .returned (.tuple #[.slice a 12 c,.bool true])∧w'.ownsRow w.heap.size 5 1 (.slice a 12 c) 12 (ints .u8 (D7 (x0,x1,x2,x3) o))∧Below w.heap.size w w':=by
 obtain⟨i0,hi,hz0,hz1,hz2⟩:=info_parts aNR;unfold DL at hok;simp only[bF]at hok;obtain⟨W1,hW1,bA,bB,hb1,s1⟩:=qZ w 55 #[.int .i64 x0,.int .i64 x1,.int .i64 x2,.int .i64 x3] 222 #[.int .i64 2,.int .i64 2,.int .i64 4,.int .i64 4];obtain⟨hok',bA',bB',hb1',hW1'⟩:=aI hok bA bB hb1 hW1;clear hok bA bB hb1 hW1;go_enter Tryz.func98,Tryz.ntmps98;go_wp2_with fail
 rw[hW1'.o];go_loopw [6,22] (fun v iv wr=>∃(k:Int) (a:Option Addr) (c:Nat),(k=0∨k=1∨k=2∨k=3∨k=4)∧iv= .int .i64 k∧v= .slice a (VW k) c∧Hid (wr.ownsRow w.heap.size 5 1 (.slice a (VW k) c) (VW k) (ints .u8 (PV (x0,x1,x2,x3) o k)))∧Hid (jJ wr (w.heap.size+1) 222 #[.int .i64 2,.int .i64 2,.int .i64 4,.int .i64 4])∧Hid (Below w.heap.size w wr)) (fun _ iv _=>4 - (intOf iv).toNat)
 case atStart=>exact⟨0,none,0,.inl rfl,rfl,rfl,aA (kC _ _ _ _),bB',hb1'⟩
 clear bB'
 case round=>
  obtain⟨k,a,c,hk,rfl,rfl,ho,bB,hb⟩:=hrel;have ho:=ho.o;have bB:=bB.o;have hb:=hb.o;rcases hk with rfl|rfl|rfl|rfl|rfl
  ·
   have hX:∀W,(Instr.index 222 (.agg #[.int .i64 x0,.int .i64 x1,.int .i64 x2,.int .i64 x3]) (.int .i64 0)).run Tryz.prog W= .ok (.int .i64 x0) W:=fun W=>by kernel_rfl
   have hP:=fun W=>DC x0 2 o W;have hpk:kX x0 2 o=true:=by simp only[hok'.o]
   have hpl:=pJ hpk;simp only[hpk]at hP;have hpe:PV (x0,x1,x2,x3) o (0+1)=PV (x0,x1,x2,x3) o 0++kL x0 2 o:=by simp[PV,D7]
   obtain⟨FV,hby⟩:∃b,kL x0 2 o=b:=⟨_,rfl⟩;rw[hby]at hpl hpe;simp only[hby]at hP;have c7:wr.cell? ⟨w.heap.size+1,0,none⟩=some (.int .i64 2):=bB.cell rfl;have hle:VW 0=0:=by simp[VW]
   rw[hle]at ho ⊢;obtain⟨hP',hpk',aDV,rZ⟩:=aH hP hpk hpe hby;obtain⟨bB',hb'⟩:=aF bB hb;clear hP hpk hpe hby bB hb;go_wp2_with fail
   refine(hP'.o _).mono ?_;rintro e w2 ⟨a2,m2,c2,rfl,ho2,hb2⟩;have VX:FV.length=m2:=(Sl.jX ho2).1.nV;have hs2:=(Sl.jX ho2).1;obtain rfl:m2=2:=by rw[←VX,hpl];rfl
   have ho1:=jY ho hb2;have bB2:=bB'.o.late hb2;have hbw2:=hb'.o.tm hb2;have hsz2:=hbw2.size;clear c7 VX hpl;obtain⟨VO,YD,lU,hb2'⟩:=aH hs2 bB2 hbw2 hb2;clear hs2 bB2 hbw2 hb2;go_wp2_with (at_builtin;refine o5 rfl _ _ 24 rfl w.heap.size 5 i0 _ 1 1 Tryz.underlying24 hi hz0 hz1 hz2 rfl (by decide) _ 0 _ rfl ho1 a2 2 c2 (ints .u8 FV) rfl VO.o sM (by decide) (by decide) hsz2 ?_;intro a5 c5 w5 ob hb5 hg5;obtain⟨Ob,Hb5,BB5⟩:=aG ob (lU.o.trans hb5) (YD.o.grown hg5 (nL ho1 YD.o (by decide)));clear ob hb5 hg5)
   go_roundw
   case rel=>exact⟨0+1,a5,c5,by decide,rfl,rfl,aA (by rw[aDV.o,rR];exact Ob.o),BB5,Hb5⟩
   case measure=>simp[intOf]
  ·
   have hX:∀W,(Instr.index 222 (.agg #[.int .i64 x0,.int .i64 x1,.int .i64 x2,.int .i64 x3]) (.int .i64 1)).run Tryz.prog W= .ok (.int .i64 x1) W:=fun W=>by kernel_rfl
   have hP:=fun W=>DC x1 2 o W;have hpk:kX x1 2 o=true:=by simp only[hok'.o]
   have hpl:=pJ hpk;simp only[hpk]at hP;have hpe:PV (x0,x1,x2,x3) o (1+1)=PV (x0,x1,x2,x3) o 1++kL x1 2 o:=by simp[PV,D7]
   obtain⟨FV,hby⟩:∃b,kL x1 2 o=b:=⟨_,rfl⟩;rw[hby]at hpl hpe;simp only[hby]at hP;have c7:wr.cell? ⟨w.heap.size+1,1,none⟩=some (.int .i64 2):=bB.cell rfl;have hle:VW 1=2:=by simp[VW]
   rw[hle]at ho ⊢;obtain⟨hP',hpk',aDV,rZ⟩:=aH hP hpk hpe hby;obtain⟨bB',hb'⟩:=aF bB hb;clear hP hpk hpe hby bB hb;go_wp2_with fail
   refine(hP'.o _).mono ?_;rintro e w2 ⟨a2,m2,c2,rfl,ho2,hb2⟩;have VX:FV.length=m2:=(Sl.jX ho2).1.nV;have hs2:=(Sl.jX ho2).1;obtain rfl:m2=2:=by rw[←VX,hpl];rfl
   have ho1:=jY ho hb2;have bB2:=bB'.o.late hb2;have hbw2:=hb'.o.tm hb2;have hsz2:=hbw2.size;clear c7 VX hpl;obtain⟨VO,YD,lU,hb2'⟩:=aH hs2 bB2 hbw2 hb2;clear hs2 bB2 hbw2 hb2;go_wp2_with (at_builtin;refine o5 rfl _ _ 24 rfl w.heap.size 5 i0 _ 1 1 Tryz.underlying24 hi hz0 hz1 hz2 rfl (by decide) _ 2 _ rfl ho1 a2 2 c2 (ints .u8 FV) rfl VO.o sM (by decide) (by decide) hsz2 ?_;intro a5 c5 w5 ob hb5 hg5;obtain⟨Ob,Hb5,BB5⟩:=aG ob (lU.o.trans hb5) (YD.o.grown hg5 (nL ho1 YD.o (by decide)));clear ob hb5 hg5)
   go_roundw
   case rel=>exact⟨1+1,a5,c5,by decide,rfl,rfl,aA (by rw[aDV.o,rR];exact Ob.o),BB5,Hb5⟩
   case measure=>simp[intOf]
  ·
   have hX:∀W,(Instr.index 222 (.agg #[.int .i64 x0,.int .i64 x1,.int .i64 x2,.int .i64 x3]) (.int .i64 2)).run Tryz.prog W= .ok (.int .i64 x2) W:=fun W=>by kernel_rfl
   have hP:=fun W=>DC x2 4 o W;have hpk:kX x2 4 o=true:=by simp only[hok'.o]
   have hpl:=pJ hpk;simp only[hpk]at hP;have hpe:PV (x0,x1,x2,x3) o (2+1)=PV (x0,x1,x2,x3) o 2++kL x2 4 o:=by simp[PV,D7]
   obtain⟨FV,hby⟩:∃b,kL x2 4 o=b:=⟨_,rfl⟩;rw[hby]at hpl hpe;simp only[hby]at hP;have c7:wr.cell? ⟨w.heap.size+1,2,none⟩=some (.int .i64 4):=bB.cell rfl;have hle:VW 2=4:=by simp[VW]
   rw[hle]at ho ⊢;obtain⟨hP',hpk',aDV,rZ⟩:=aH hP hpk hpe hby;obtain⟨bB',hb'⟩:=aF bB hb;clear hP hpk hpe hby bB hb;go_wp2_with fail
   refine(hP'.o _).mono ?_;rintro e w2 ⟨a2,m2,c2,rfl,ho2,hb2⟩;have VX:FV.length=m2:=(Sl.jX ho2).1.nV;have hs2:=(Sl.jX ho2).1;obtain rfl:m2=4:=by rw[←VX,hpl];rfl
   have ho1:=jY ho hb2;have bB2:=bB'.o.late hb2;have hbw2:=hb'.o.tm hb2;have hsz2:=hbw2.size;clear c7 VX hpl;obtain⟨VO,YD,lU,hb2'⟩:=aH hs2 bB2 hbw2 hb2;clear hs2 bB2 hbw2 hb2;go_wp2_with (at_builtin;refine o5 rfl _ _ 24 rfl w.heap.size 5 i0 _ 1 1 Tryz.underlying24 hi hz0 hz1 hz2 rfl (by decide) _ 4 _ rfl ho1 a2 4 c2 (ints .u8 FV) rfl VO.o sM (by decide) (by decide) hsz2 ?_;intro a5 c5 w5 ob hb5 hg5;obtain⟨Ob,Hb5,BB5⟩:=aG ob (lU.o.trans hb5) (YD.o.grown hg5 (nL ho1 YD.o (by decide)));clear ob hb5 hg5)
   go_roundw
   case rel=>exact⟨2+1,a5,c5,by decide,rfl,rfl,aA (by rw[aDV.o,rR];exact Ob.o),BB5,Hb5⟩
   case measure=>simp[intOf]
  ·
   have hX:∀W,(Instr.index 222 (.agg #[.int .i64 x0,.int .i64 x1,.int .i64 x2,.int .i64 x3]) (.int .i64 3)).run Tryz.prog W= .ok (.int .i64 x3) W:=fun W=>by kernel_rfl
   have hP:=fun W=>DC x3 4 o W;have hpk:kX x3 4 o=true:=by simp only[hok'.o]
   have hpl:=pJ hpk;simp only[hpk]at hP;have hpe:PV (x0,x1,x2,x3) o (3+1)=PV (x0,x1,x2,x3) o 3++kL x3 4 o:=by simp[PV,D7]
   obtain⟨FV,hby⟩:∃b,kL x3 4 o=b:=⟨_,rfl⟩;rw[hby]at hpl hpe;simp only[hby]at hP;have c7:wr.cell? ⟨w.heap.size+1,3,none⟩=some (.int .i64 4):=bB.cell rfl;have hle:VW 3=8:=by simp[VW]
   rw[hle]at ho ⊢;obtain⟨hP',hpk',aDV,rZ⟩:=aH hP hpk hpe hby;obtain⟨bB',hb'⟩:=aF bB hb;clear hP hpk hpe hby bB hb;go_wp2_with fail
   refine(hP'.o _).mono ?_;rintro e w2 ⟨a2,m2,c2,rfl,ho2,hb2⟩;have VX:FV.length=m2:=(Sl.jX ho2).1.nV;have hs2:=(Sl.jX ho2).1;obtain rfl:m2=4:=by rw[←VX,hpl];rfl
   have ho1:=jY ho hb2;have bB2:=bB'.o.late hb2;have hbw2:=hb'.o.tm hb2;have hsz2:=hbw2.size;clear c7 VX hpl;obtain⟨VO,YD,lU,hb2'⟩:=aH hs2 bB2 hbw2 hb2;clear hs2 bB2 hbw2 hb2;go_wp2_with (at_builtin;refine o5 rfl _ _ 24 rfl w.heap.size 5 i0 _ 1 1 Tryz.underlying24 hi hz0 hz1 hz2 rfl (by decide) _ 8 _ rfl ho1 a2 4 c2 (ints .u8 FV) rfl VO.o sM (by decide) (by decide) hsz2 ?_;intro a5 c5 w5 ob hb5 hg5;obtain⟨Ob,Hb5,BB5⟩:=aG ob (lU.o.trans hb5) (YD.o.grown hg5 (nL ho1 YD.o (by decide)));clear ob hb5 hg5)
   go_roundw
   case rel=>exact⟨3+1,a5,c5,by decide,rfl,rfl,aA (by rw[aDV.o,rR];exact Ob.o),BB5,Hb5⟩
   case measure=>simp[intOf]
  ·have e12:VW 4=12:=by decide
   rw[e12]at ho ⊢;obtain⟨bB',hb'⟩:=aF bB hb;clear bB hb;go_wp2_with fail
   refine bodyPost_ret (results_tmp2 rfl _ _ _) rfl ?_;exact⟨a,c,rfl,by simpa [PV] using ho,hb'.o⟩
theorem NW (t n:Int) (w:World):Calls Tryz.prog 93 #[.int .i64 t,.int .i64 n] w fun e w'=>e= .returned (.agg #[.int .i64 t,.int .i64 4,.int .i64 1,.int .i64 n])∧Below w.heap.size w w':=by
 have hb1:=aD w (.cells #[.int .i64 t,.int .i64 4,.int .i64 1,.int .i64 n] 55);have b1:=jJ.new w 55 #[.int .i64 t,.int .i64 4,.int .i64 1,.int .i64 n];obtain⟨hb1',b1'⟩:=aF hb1 b1;clear hb1 b1;go_enter Tryz.func93,Tryz.ntmps93;go_wp2_with fail
 refine bodyPost_ret (results_cell_row rfl _ _ w.heap.size 55 #[.int .i64 t,.int .i64 4,.int .i64 1,.int .i64 n] (0,0) _ rfl b1'.o Tryz.underlying55 rfl (by kernel_rfl)) rfl ?_;exact⟨rfl,hb1'.o⟩
theorem aK1 (g0 g1 g2:Nat) (what no tag:Int) (x:lK) (w:World) (h0:w.cell? ⟨g0,0,none⟩=some (.int .i64 what)) (h1:w.cell? ⟨g1,0,none⟩=some (.int .i64 no)) (h2:w.cell? ⟨g2,0,none⟩=some (.int .i64 tag)) (l0:g0<w.heap.size) (l1:g1<w.heap.size) (l2:g2<w.heap.size):
  Calls Tryz.prog 153 #[.agg (spC x).toArray,.pointer (some ⟨g0,0,none⟩),.pointer (some ⟨g1,0,none⟩),.pointer (some ⟨g2,0,none⟩)] w fun e w'=>e= .returned (.bool (atP what no tag x))∧Below w.heap.size w w':=by
 obtain⟨x0,x1,x2,x3,x4⟩:=x;have hb1:=aD w (.cells #[.int .i64 x0,.int .i64 x1,.int .i64 x2,.int .i64 x3,.int .i64 x4] 50);have e:atP what no tag (x0,x1,x2,x3,x4)=(x0==what&&x1==no&&x2==tag):=rfl;rw[e];simp only[spC];obtain⟨b0,hb0⟩:∃b,(x0==what)=b:=⟨_,rfl⟩;obtain⟨b1,hbb⟩:∃b,(x1==no)=b:=⟨_,rfl⟩;obtain⟨b2,hb2⟩:∃b,(x2==tag)=b:=⟨_,rfl⟩;rw[hb0,hbb,hb2];clear e;have hb1':=aA hb1;clear hb1;cases b0
 ·go_enter Tryz.func153,Tryz.ntmps153;go_wp2_with fail
  go_ret;exact⟨rfl,hb1'.o⟩
 ·cases b1
  ·go_enter Tryz.func153,Tryz.ntmps153;go_wp2_with fail
   go_ret;exact⟨rfl,hb1'.o⟩
  ·go_enter Tryz.func153,Tryz.ntmps153;go_wp2_with fail
   go_ret;exact⟨rfl,hb1'.o⟩
theorem aNS (caps:Array Value) (a:Option Addr) (n c:Nat) (ls:List lK) (p:lK→Bool) (w:World) (hs:Sl w a n c 5 (fl spC ls))
  (hc:∀W (x:lK),Below w.heap.size w W→Calls Tryz.prog 153 (#[.agg (spC x).toArray]++caps) W fun e W'=>e= .returned (.bool (p x))∧Below W.heap.size W W'):
  Calls Tryz.prog 152 #[.slice a n c,.func (.func 153) #[] caps] w fun e w'=>e= .returned (.int .i64 (fst p ls))∧Below w.heap.size w w':=by
 have hl:=hs.uY PI (by decide);have hm:=hs.max;have hle:=hs.le;obtain⟨hs',hc',hl'⟩:=aG hs hc hl;clear hs hc hl;go_enter Tryz.func152,Tryz.ntmps152;go_wp2;go_loopw [8] (fun iv wr=>∃k:Nat,k≤n∧iv= .int .i64 k∧Hid (∀i (hi:i<ls.length),i<k→p ls[i]=false)∧Hid (Below w.heap.size w wr)) (fun iv _=>n - (intOf iv).toNat)
 case atStart=>exact⟨0,by omega,rfl,aA (fun j _ hj=>by omega),aA (aW _ _)⟩
 case round=>
  obtain⟨k,hk,rfl,hall,hb⟩:=hrel;by_cases hlt:k<n
  ·have hww:IntKind.i64.wrap ((k:Int)+1)=k+1:=by rw[aY];omega
   have hkl:k<ls.length:=by rw[hl'.o];exact hlt
   obtain⟨b,o,rfl,hbb,f⟩:=(hs'.o.mono hb.o).elem PI (by decide) (0,0,0,0,0) hlt;rw[jI hkl]at f;obtain⟨r,hr⟩:=aC (p (ls[k]'hkl));have HC:=hc'.o wr (ls[k]'hkl) hb.o;rw[hr]at HC;obtain⟨⟨x0,x1,x2,x3,x4⟩,hx⟩:∃x,ls[k]'hkl=x:=⟨_,rfl⟩;rw[hx]at HC f;have f0:=f 0 _ rfl;have f1:=f 1 _ rfl;have f2:=f 2 _ rfl;have f3:=f 3 _ rfl;have f4:=f 4 _ rfl;clear f;simp only[spC,cK]at f0 f1 f2 f3 f4 HC;obtain⟨SK,hr',hx'⟩:=aG HC hr hx;clear HC hr hx;go_wp2_with fail
   refine SK.o.mono ?_;rintro e w2 ⟨rfl,hb2⟩;have hbw:=hb.o.tm hb2;clear hb2;cases r with
   |true=>
    have jW:=aA hbw;clear hbw;go_wp2;go_ret;exact⟨by rw[J6 hkl hr'.o (fun i hi=>hall.o i (by omega) hi)];rfl,jW.o⟩
   |false=>
    have nK:∀i (hi:i<ls.length),i<k+1→p ls[i]=false:=fun i hi h=>by
     rcases eH i k with h1|h1
     ·exact hall.o i hi h1
     ·obtain rfl:i=k:=by omega
      exact hr'.o
    obtain⟨jW,lW⟩:=aF hbw nK;clear hbw nK;go_wp2;go_roundw
    case rel=>exact⟨k+1,by omega,by go_num,lW,jW⟩
    case measure=>simp[intOf];omega
  ·obtain rfl:k=n:=by omega
   go_wp2;go_ret;exact⟨by rw[NI (fun i hi=>hall.o i hi (by rw[hl'.o]at hi;exact hi))];rfl,hb.o⟩
theorem LQ (K:Wc) (w:World) (no:Int) (P:List Int) (h:LP K w no P) (what dir tag:Int) (hf:K.l.any (atP what dir tag)=true):
  Calls Tryz.prog 94 #[.pointer (some ⟨K.gw,0,none⟩),.int .i64 what,.int .i64 dir,.int .i64 tag] w fun e w'=>e= .returned (.int .i64 (oG K.l what dir tag))∧Below w.heap.size w w':=by
 obtain⟨W1,hW1,b0,b1,b2,hb1,s1⟩:=yR w 3 #[.int .i64 what] 3 #[.int .i64 dir] 3 #[.int .i64 tag];have h1:=h.later hb1;have hI:=aNS #[.pointer (some ⟨w.heap.size,0,none⟩),.pointer (some ⟨w.heap.size+1,0,none⟩),.pointer (some ⟨w.heap.size+2,0,none⟩)] K.spa K.spn K.spc K.l (atP what dir tag) W1 h1.sp
  (fun W x hb=>aK1 _ _ _ what dir tag x W (late hb b0.lt (b0.cell rfl)) (late hb b1.lt (b1.cell rfl)) (late hb b2.lt (b2.cell rfl)) (cO b0.lt hb.size) (cO b1.lt hb.size) (cO b2.lt hb.size))
 obtain⟨s,hs1,hs2,hs3⟩:=aNO hf;have hat:oG K.l what dir tag=s.2.2.2.1:=by unfold oG;rw[hs1]
 rw[hat];have hlen:=h1.sp.uY PI (by decide);have hmx:=h1.sp.max;have hle:=h1.sp.le;obtain⟨k,hk⟩:∃k:Nat,fst (atP what dir tag) K.l=k:=⟨(fst (atP what dir tag) K.l).toNat,by omega⟩;rw[hk]at hI hs2;rw[bU]at hs2;obtain⟨hkl,hks⟩:=dZ.1 hs2;have hkn:k<K.spn:=by rw[←hlen];exact hkl
 have hkn2:(k:Int)<(K.spn:Int):=by omega
 have aJL:(0:Int)≤(k:Int):=by omega
 have c2:W1.cell? ⟨K.gw,2,none⟩=some (.slice K.spa K.spn K.spc):=h1.blk.cell rfl;rw[←hW1]at c2 hI;clear hs3;obtain⟨h',h1',b0',b1',b2',hb1',hI',b4O,VO,hlen',hk',bL1⟩:=aP h h1 b0 b1 b2 hb1 hI hs1 hs2 hlen hk hks;obtain⟨hW1',hat',hf'⟩:=aG hW1 hat hf;clear h h1 b0 b1 b2 hb1 hI hs1 hs2 hlen hk hks hW1 hat hf;go_enter Tryz.func94,Tryz.ntmps94;go_wp2_with fail
 refine hI'.o.mono ?_;rw[hW1'.o];rintro e w2 ⟨rfl,hb2⟩;have h2:=h1'.o.later hb2;clear c2;have c2:w2.cell? ⟨K.gw,2,none⟩=some (.slice K.spa K.spn K.spc):=h2.blk.cell rfl;obtain⟨b,o,e,hlt,fe⟩:=h2.sp.elem PI (by decide) (0,0,0,0,0) hkn;rw[jI (by rw[hlen'.o];exact hkn),bL1.o]at fe;have f3:=fe 3 _ rfl;clear fe;have hbw:=hb1'.o.tm hb2;obtain⟨h2',hb2',jW⟩:=aG h2 hb2 hbw;clear h2 hb2 hbw;rw[e]at c2;go_wp2_with fail
 go_ret;exact⟨rfl,jW.o⟩
theorem aNT (a:Option Addr) (n c:Nat) (b:List Int) (s o:Int) (w:World) (hs:Sl w a n c 1 (ints .u8 b)) (hn:n≤1000000000):
  Calls Tryz.prog 117 #[.slice a n c,.int .i64 s,.int .i64 o] w fun e w'=>∃a2 m,e= .returned (.slice a2 m m)∧w'.ownsRow w.heap.size 5 1 (.slice a2 m m) m (ints .u8 (oZ b s o))∧Below w.heap.size w w':=by
 obtain⟨i0,hi,hz0,hz1,hz2⟩:=info_parts a2B;have hbl:=hs.nV;have hle:=hs.le;have hmx:=hs.max;have hm1:=fun W=>EM s o W;have hm2:=fun W=>EM 1 o W;obtain⟨t,ht⟩:=aC (J7 s o);have hts:oZ b s o=if t=true then(if o=1 then turned s.toNat b else b)else []:=by unfold oZ;rw[ht]
 obtain⟨R,hR⟩:=aC (oZ b s o);rw[hR];rw[hR]at hts;replace hts:=hts.symm
 have ht':=ht;unfold J7 at ht';obtain⟨r1,hr1⟩:∃r,FY s o=r:=⟨_,rfl⟩;obtain⟨r2,hr2⟩:∃r,FY 1 o=r:=⟨_,rfl⟩;rw[hr1]at hm1 ht';rw[hr2]at hm2 ht';obtain⟨G6,VN,hs',qY,NN⟩:=aI hm1 hm2 hs hbl hts;clear hm1 hm2 hs hbl hts;clear hr1 hr2 hR;go_enter Tryz.func117,Tryz.ntmps117;cases t
 ·clear ht;cases r1
  ·by_cases h8:s=8
   ·subst h8;obtain rfl:r2=false:=by simpa using ht'
    clear ht';go_wp2_with fail
    refine(G6.o _).mono ?_;rintro e w1 ⟨rfl,hb1⟩;have HB1:=aA hb1;clear hb1;go_wp2_with fail
    refine(VN.o _).mono ?_;rintro e w2 ⟨rfl,hb2⟩;have HB2:=aA (HB1.o.tm hb2);clear hb2;go_wp2_with fail
    go_ret;exact⟨none,0,rfl,by rw[←NN.o];exact kC _ _ _ _,HB2.o⟩
   ·have d8:(s != 8)=true:=by simp[h8]
    clear ht';go_wp2_with fail
    refine(G6.o _).mono ?_;rintro e w1 ⟨rfl,hb1⟩;have HB1:=aA hb1;clear hb1;go_wp2_with fail
    go_ret;exact⟨none,0,rfl,by rw[←NN.o];exact kC _ _ _ _,HB1.o⟩
  ·simp at ht'
 ·obtain⟨hsz,uN⟩:=XL ht;obtain⟨p,rfl⟩:∃p:Nat,s=p:=⟨s.toNat,by omega⟩;have hp:p=1∨p=2∨p=4∨p=8:=by omega
  have hp1:1≤p:=by omega
  have hp8:p≤8:=by omega
  clear ht hsz;cases r1
  ·have h8:p=8:=by simp at ht';omega
   subst h8;obtain rfl:r2=true:=by simpa using ht'
   clear ht' hp;go_wp2_with fail
   refine(G6.o _).mono ?_;rintro e w1 ⟨rfl,hb1⟩;have HB1:=aA hb1;clear hb1;go_wp2_with fail
   refine(VN.o _).mono ?_;rintro e w2 ⟨rfl,hb2⟩;have HB2:=aA (HB1.o.tm hb2);clear hb2 HB1;go_wp2_with (first|(at_make;refine wpList_make_full w2 rfl _ _ 24 rfl w2.heap.size 5 i0 _ 1 Tryz.underlying24 hi hz0 hz1 .i64 .i64 _ _ n rfl rfl rfl rfl (by rw[hz2];omega) (by unfold maxLen;omega) (aU _) ?_;intro w3 hown hg2;have R3:=Row.jX (by rw[EN]at hown;exact hown);have H3:=(HB2).o.trans (((aW _ _).grown hg2 (aU _) (fun k e=>by cases e)).mono (HB2).o.size);clear hown hg2)|(refine vM rfl (.tmp 25) (.tmp 26) 24 24 rfl 5 Tryz.underlying24 (by rw[hi];simp[hz1]) w2.heap.size n .u8 _ rfl R3 (by simp) a n c b rfl (hs'.o.mono H3) w.heap.size w H3 (HB2).o.size ?_;intro w4 hr4 hb4;rw[G5 qY.o (by simp)]at hr4;clear R3 H3))
   obtain⟨g,hg⟩:=aC w2.heap.size;have hgw:w.heap.size≤g:=by rw[←hg];exact(HB2).o.size
   rw[hg]at hr4;rw[hg];clear HB2 hg;obtain⟨XM,tC⟩:=aF hr4 hb4;clear hr4 hb4;by_cases ho:o=1
   ·have d1:(o==1)=true:=by simp[ho]
    have ho':=aA ho;clear ho;clear uN;go_loopw [8] (fun i wr=>∃(q:Nat) (cs:List Int),q≤n∧i= .int .i64 q∧Hid (q % 8=0)∧Hid (Row wr g 5 .u8 cs)∧Hid (NM 8 q b cs)∧Hid (Below w.heap.size w wr)) (fun i _=>n - (intOf i).toNat)
    case atStart=>exact⟨0,b,by omega,rfl,aA (by simp),XM,aA ⟨rfl,fun k hk=>by simp⟩,tC⟩
    case round=>
     obtain⟨q,cs,hq,rfl,hqm,hr,htu,hb⟩:=hrel;have hw1:IntKind.i64.wrap ((q:Int)+8)=q+8:=by rw[aY];omega
     have hcl:=htu.o.1;rw[qY.o]at hcl;by_cases hlt:q+8≤n
     ·have d2:decide ((q:Int)+8≤n)=true:=by simp;omega
      have hRV:=fun cc=>yN g q 8 cc cs 5 wr hr.o (by omega) (by omega);have hsl:=a4E (P:=Tryz.prog) (T:=24) (E:=5) Tryz.underlying24 (fun W=>by kernel_rfl) g n q 8 (by omega) hlt;have aDD:=aA hRV;clear hRV;go_wp2_with (go_at_call 149;refine(aDD.o _).mono ?_;rintro e w5 ⟨rfl,p',hr5,hl5,hg5,hb5⟩;obtain⟨HR5,HL5,HG5,HB5⟩:=aH hr5 hl5 hg5 hb5;clear hr5 hl5 hg5 hb5)
      go_roundw
      case rel=>exact⟨q+8,p',by omega,by go_num,aA (by have:=hqm.o;first|omega|(rw[Nat.add_mod_right];exact this)),HR5,aA (DF (by omega) hqm.o (by rw[qY.o];omega) htu.o HL5.o HG5.o),aA (hb.o.trans (HB5.o.below hgw hb.o.size))⟩
      case measure=>simp[intOf];omega
     ·have d2:decide ((q:Int)+8≤n)=false:=by simp;omega
      go_wp2;go_ret;refine⟨some ⟨g,0,none⟩,n,rfl,?_,hb.o⟩;have:=FZ (p:=8) (by omega) hqm.o (by rw[qY.o];omega) (by rw[qY.o];exact hq) htu.o;have hr2:=hr.o;rw[this]at hr2;have hR:=NN.o;rw[if_pos trivial,if_pos ho'.o]at hR;rw[bU]at hR;rw[←hR];exact hr2.own (by rw[o7];exact qY.o) hgw (by unfold maxLen;omega)
   ·have d1:(o==1)=false:=by simp[ho]
    have ho':=aA ho;clear ho;clear uN;go_loopw [8] (fun i wr=>i= .int .i64 0∧wr=w4) (fun i _=>0)
    case atStart=>exact⟨rfl,rfl⟩
    case round=>
     obtain⟨rfl,rfl⟩:=hrel;go_wp2;go_ret;refine⟨some ⟨g,0,none⟩,n,rfl,?_,tC.o⟩;rw[←NN.o,if_pos trivial,if_neg ho'.o];exact XM.o.own qY.o hgw (by unfold maxLen;omega)
  ·clear ht';go_wp2_with fail
   refine(G6.o _).mono ?_;rintro e w2 ⟨rfl,hb2⟩;have HB2:=aA hb2;clear hb2;go_wp2_with (first|(at_make;refine wpList_make_full w2 rfl _ _ 24 rfl w2.heap.size 5 i0 _ 1 Tryz.underlying24 hi hz0 hz1 .i64 .i64 _ _ n rfl rfl rfl rfl (by rw[hz2];omega) (by unfold maxLen;omega) (aU _) ?_;intro w3 hown hg2;have R3:=Row.jX (by rw[EN]at hown;exact hown);have H3:=(HB2).o.trans (((aW _ _).grown hg2 (aU _) (fun k e=>by cases e)).mono (HB2).o.size);clear hown hg2)|(refine vM rfl (.tmp 25) (.tmp 26) 24 24 rfl 5 Tryz.underlying24 (by rw[hi];simp[hz1]) w2.heap.size n .u8 _ rfl R3 (by simp) a n c b rfl (hs'.o.mono H3) w.heap.size w H3 (HB2).o.size ?_;intro w4 hr4 hb4;rw[G5 qY.o (by simp)]at hr4;clear R3 H3))
   obtain⟨g,hg⟩:=aC w2.heap.size;have hgw:w.heap.size≤g:=by rw[←hg];exact(HB2).o.size
   rw[hg]at hr4;rw[hg];clear HB2 hg;obtain⟨XM,tC⟩:=aF hr4 hb4;clear hr4 hb4;by_cases ho:o=1
   ·have d1:(o==1)=true:=by simp[ho]
    have ho':=aA ho;clear ho;clear uN;go_loopw [8] (fun i wr=>∃(q:Nat) (cs:List Int),q≤n∧i= .int .i64 q∧Hid (q % p=0)∧Hid (Row wr g 5 .u8 cs)∧Hid (NM p q b cs)∧Hid (Below w.heap.size w wr)) (fun i _=>n - (intOf i).toNat)
    case atStart=>exact⟨0,b,by omega,rfl,aA (by simp),XM,aA ⟨rfl,fun k hk=>by simp⟩,tC⟩
    case round=>
     obtain⟨q,cs,hq,rfl,hqm,hr,htu,hb⟩:=hrel;have hw1:IntKind.i64.wrap ((q:Int)+p)=q+p:=by rw[aY];omega
     have hcl:=htu.o.1;rw[qY.o]at hcl;by_cases hlt:q+p≤n
     ·have d2:decide ((q:Int)+p≤n)=true:=by simp;omega
      have hRV:=fun cc=>yN g q p cc cs 5 wr hr.o (by omega) (by omega);have hsl:=a4E (P:=Tryz.prog) (T:=24) (E:=5) Tryz.underlying24 (fun W=>by kernel_rfl) g n q p (by omega) hlt;have aDD:=aA hRV;clear hRV;go_wp2_with (go_at_call 149;refine(aDD.o _).mono ?_;rintro e w5 ⟨rfl,p',hr5,hl5,hg5,hb5⟩;obtain⟨HR5,HL5,HG5,HB5⟩:=aH hr5 hl5 hg5 hb5;clear hr5 hl5 hg5 hb5)
      go_roundw
      case rel=>exact⟨q+p,p',by omega,by go_num,aA (by have:=hqm.o;first|omega|(rw[Nat.add_mod_right];exact this)),HR5,aA (DF (by omega) hqm.o (by rw[qY.o];omega) htu.o HL5.o HG5.o),aA (hb.o.trans (HB5.o.below hgw hb.o.size))⟩
      case measure=>simp[intOf];omega
     ·have d2:decide ((q:Int)+p≤n)=false:=by simp;omega
      go_wp2;go_ret;refine⟨some ⟨g,0,none⟩,n,rfl,?_,hb.o⟩;have:=FZ (p:=p) (by omega) hqm.o (by rw[qY.o];omega) (by rw[qY.o];exact hq) htu.o;have hr2:=hr.o;rw[this]at hr2;have hR:=NN.o;rw[if_pos trivial,if_pos ho'.o]at hR;rw[bU]at hR;rw[←hR];exact hr2.own (by rw[o7];exact qY.o) hgw (by unfold maxLen;omega)
   ·have d1:(o==1)=false:=by simp[ho]
    have ho':=aA ho;clear ho;clear uN;go_loopw [8] (fun i wr=>i= .int .i64 0∧wr=w4) (fun i _=>0)
    case atStart=>exact⟨rfl,rfl⟩
    case round=>
     obtain⟨rfl,rfl⟩:=hrel;go_wp2;go_ret;refine⟨some ⟨g,0,none⟩,n,rfl,?_,tC.o⟩;rw[←NN.o,if_pos trivial,if_neg ho'.o];exact XM.o.own qY.o hgw (by unfold maxLen;omega)
