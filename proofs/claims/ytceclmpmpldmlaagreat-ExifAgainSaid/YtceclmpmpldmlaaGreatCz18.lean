import Derived.Test.YtceclmpmpldmlaaGreatCz17
set_option linter.unusedSimpArgs false
set_option linter.unusedVariables false
namespace Go.Proofs.YtceclmpmpldmlaaGreat
open Go.RowKit Tt
def IW (l:List lK) (Q:lK→Prop) (p:Pt):Prop:=∃s∈l,Q s∧s.2.2.2.1≤p.1∧(p.1:Int)+p.2.length+(if s.1=2 then 4 else 0)≤s.2.2.2.1+s.2.2.2.2
theorem IW.inq {l:List lK} {Q:lK→Prop} {p:Pt} (h:IW l Q p):InQ l Q p:=by
 obtain⟨s,h1,h2,h3,h4⟩:=h;exact⟨s,h1,h2,h3,by split at h4 <;> omega⟩
theorem IW.mono {l:List lK} {Q R:lK→Prop} {p:Pt} (h:IW l Q p) (hx:∀s,Q s→R s):IW l R p:=by
 obtain⟨s,h1,h2,h3⟩:=h;exact⟨s,h1,hx s h2,h3⟩
theorem a5P {l:List lK} (hd:(l.map BP).Nodup) {s t:lK} (hs:s∈l) (ht:t∈l) (h:BP s=BP t):s=t:=by
 induction l with
 |nil=>cases hs
 |cons u l ih=>
  obtain⟨h1,h2⟩:=iT.1 hd;rcases bQ.1 hs with e1|hs2 <;> rcases bQ.1 ht with e2|ht2
  ·exact e1.trans e2.symm
  ·exact absurd (cB.2 ⟨t,ht2,by rw[←h,e1]⟩) h1
  ·exact absurd (cB.2 ⟨s,hs2,by rw[h,e2]⟩) h1
  ·exact ih h2 hs2 ht2
theorem yE {s:lK} {a b c:Int} (h:BP s=(a,b,c)):s.1=a∧s.2.1=b∧s.2.2.1=c:=⟨congrArg (fun k=>k.1) h,congrArg (fun k=>k.2.1) h,congrArg (fun k=>k.2.2) h⟩
section
variable {F:Nat} {T:List (jD F)} (hT:∀d∈T,YR F d)
include hT
theorem M0 {x:DN} (hx:x∈tH F T) {p:Pt} (h0:oG (jV F T) x.1 x.2.1 x.2.2.1≤p.1) (h1:(p.1:Int)+p.2.length+(if x.1=2 then 4 else 0)≤oG (jV F T) x.1 x.2.1 x.2.2.1+x.2.2.2):IW (jV F T) (fun s=>BP s=YA x) p:=by
 obtain⟨s,g1,g2,g3,g4,_⟩:=F6 hT hx;have e1:s.1=x.1:=congrArg (fun k=>k.1) g2;exact⟨s,g1,g2,by rw[g4];exact h0,by rw[g4,g3,e1];exact h1⟩
theorem a5Q {x:DN} (hx:x∈tH F T):0≤oG (jV F T) x.1 x.2.1 x.2.2.1:=by
 obtain⟨s,g1,g2,g3,g4,_,g5,_⟩:=F6 hT hx;omega
theorem TL {L:List lV} {o:Int} (ho:o=1∨o=2) {f:Nat} {d:jD (f+1)} {no i:Int} (hf:F7 L f d i) (hin:∀x∈mU (f+1) d no,x∈tH F T) {x:nC} (hx:x∈d.1) {p:Pt} (hp:p∈zV (jV F T) o no x):
  ML x o=false∧p=((oG (jV F T) 3 no x.1).toNat,kS x o)∧IW (jV F T) (fun s=>BP s=(3,no,x.1)) p:=by
 unfold zV at hp;split at hp
 ·cases hp
 ·rename_i hi;obtain rfl:p=_:=by simpa using hp
  have hx3:=hf.tg x hx;have hz:oL x.2.1 x.2.2.1≠0:=fun e=>by rw[YS hx3.2.2 ho hx3.1,e]at hi;simp at hi
  have hl:=QG hx3.2.2 ho hz;have hm:((3,no,x.1,AU x):DN)∈tH F T:=hin _ (by
   rw[nN];refine aZ _ (bH.2 (.inl (cB.2 ⟨x,eZ.2 ⟨hx,?_⟩,rfl⟩)));have:=QE x;unfold AU at*;simp;omega)
  have h0:=a5Q hT hm;simp only at h0;refine⟨by simpa using hi,rfl,M0 hT hm (by show oG (jV F T) 3 no x.1≤(((oG (jV F T) 3 no x.1).toNat:Nat):Int);omega) ?_⟩;show((((oG (jV F T) 3 no x.1).toNat:Nat):Int))+((kS x o).length:Nat)+(if(3:Int)=2 then 4 else 0)≤oG (jV F T) 3 no x.1+AU x
  rw[if_neg (by decide)];unfold AU;omega
theorem aEH {f:Nat} {d:jD (f+1)} {no:Int} (hin:∀x∈mU (f+1) d no,x∈tH F T) {p:Pt} (hp:p∈xS (jV F T) d.2.2 no):
  0<d.2.2.length∧p=((oG (jV F T) 4 no 0).toNat,d.2.2)∧IW (jV F T) (fun s=>BP s=(4,no,0)) p:=by
 unfold xS at hp;split at hp
 ·rename_i hb;obtain rfl:p=_:=by simpa using hp
  have hm:((4,no,0,(d.2.2.length:Int)):DN)∈tH F T:=hin _ (by
   rw[nN];refine aZ _ (bH.2 (.inr (bH.2 (.inr ?_))));unfold D8;rw[if_pos hb];exact bJ ..)
  have h0:=a5Q hT hm;simp only at h0;refine⟨hb,rfl,M0 hT hm (by show oG (jV F T) 4 no 0≤(((oG (jV F T) 4 no 0).toNat:Nat):Int);omega) ?_⟩;show((((oG (jV F T) 4 no 0).toNat:Nat):Int))+(d.2.2.length:Nat)+(if(4:Int)=2 then 4 else 0)≤oG (jV F T) 4 no 0+(d.2.2.length:Nat)
  rw[if_neg (by decide)];omega
 ·cases hp
omit hT in
theorem QM {x:mK} {o:Int} (h:DL x o=true):(D7 x o).length=12:=by
 unfold DL at h;simp only[bF]at h;obtain⟨⟨⟨h0,h1⟩,h2⟩,h3⟩:=h;unfold D7;simp only[bO,mP h0,mP h1,mP h2,mP h3];rfl
omit hT in
theorem a5R {es:List mK} {x:mK} (h:x∈es):sF es x<es.length:=by
 obtain⟨k,hk,rfl⟩:=qJ h MO;exact aKO hk
def FB (l:List lK) (o no:Int) (es:List mK):List Pt:=((oG l 2 no 0).toNat,kL (es.length:Nat) 2 o)::es.map (aA0 (oG l 2 no 0).toNat o es)
omit hT in
theorem a5S (f:Nat) (l:List lK) (o no:Int) (s:lV) (d:jD (f+1)):aKN f l o no s d=d.1.flatMap (zV l o no)++xS l d.2.2 no++FB l o no (mR f l o no s d):=by
 unfold aKN FB;rw[aHK]
theorem aEI {f:Nat} {d:jD (f+1)} {no o:Int} (ho:o=1∨o=2) (hin:∀x∈mU (f+1) d no,x∈tH F T) {es:List mK} (hn:es.length=mQ d.1.length d.2.1.length d.2.2.length) (h2:es.length≤65535) (hk:∀x∈es,DL x o=true) {p:Pt} (hp:p∈FB (jV F T) o no es):
  IW (jV F T) (fun s=>BP s=(2,no,0)) p:=by
 have hm:((2,no,0,6+12*((mQ d.1.length d.2.1.length d.2.2.length:Nat):Int)):DN)∈tH F T:=hin _ (by rw[nN];exact bJ ..);have h0:=a5Q hT hm;simp only at h0;have hpk:kX (es.length:Nat) 2 o=true:=(kP ho).2 (by rw[show rJ 2=65536 by decide];omega);unfold FB at hp;rcases bQ.1 hp with rfl|hp
 ·refine M0 hT hm (by show oG (jV F T) 2 no 0≤(((oG (jV F T) 2 no 0).toNat:Nat):Int);omega) ?_;show((((oG (jV F T) 2 no 0).toNat:Nat):Int))+((kL (es.length:Nat) 2 o).length:Nat)+(if(2:Int)=2 then 4 else 0)≤oG (jV F T) 2 no 0+(6+12*((mQ d.1.length d.2.1.length d.2.2.length:Nat):Int))
  rw[mP hpk,if_pos rfl,show(2:Int).toNat=2 from rfl];omega
 ·obtain⟨x,hx,rfl⟩:=cB.1 hp;have ha:=a5R hx;have he:=QM (hk x hx);refine M0 hT hm (by show oG (jV F T) 2 no 0≤(((oG (jV F T) 2 no 0).toNat+2+12*sF es x:Nat):Int);omega) ?_;show(((oG (jV F T) 2 no 0).toNat+2+12*sF es x:Nat):Int)+((D7 x o).length:Nat)+(if(2:Int)=2 then 4 else 0)≤oG (jV F T) 2 no 0+(6+12*((mQ d.1.length d.2.1.length d.2.2.length:Nat):Int))
  rw[he,if_pos rfl];omega
omit hT in
theorem aP3 {l:List lK} {o no:Int} (ho:o=1∨o=2) {es:List mK} (h2:es.length≤65535) (hk:∀x∈es,DL x o=true) (hd:es.Pairwise fun x y=>x.1≠y.1):(FB l o no es).Pairwise Dj:=by
 have hpk:kX (es.length:Nat) 2 o=true:=(kP ho).2 (by rw[show rJ 2=65536 by decide];omega);unfold FB;refine List.Pairwise.cons ?_ ?_
 ·intro p hp;obtain⟨x,hx,rfl⟩:=cB.1 hp;refine .inl ?_;show(oG l 2 no 0).toNat+(kL (es.length:Nat) 2 o).length≤(oG l 2 no 0).toNat+2+12*sF es x
  rw[mP hpk,show(2:Int).toNat=2 from rfl];omega
 ·rw[fK];refine List.Pairwise.imp_of_mem ?_ hd;intro a b ha hb hab;have e1:=QM (hk a ha);have e2:=QM (hk b hb);show(oG l 2 no 0).toNat+2+12*sF es a+(D7 a o).length≤(oG l 2 no 0).toNat+2+12*sF es b∨(oG l 2 no 0).toNat+2+12*sF es b+(D7 b o).length≤(oG l 2 no 0).toNat+2+12*sF es a
  rw[e1,e2];rcases Int.lt_or_lt_of_ne hab with h|h
  ·have:=a9Z ha h;omega
  ·have:=a9Z hb h;omega
omit hT in
theorem aKP (f:Nat) (ss:List (Int×jD f)) (no:Int) {a b:Nat} (h:a≤b):pQ f ss no a≤pQ f ss no b:=by
 have:=sZ f (ss.take b) a;rw[iK,gW h]at this;unfold pQ;omega
omit hT in
theorem aA2 {f:Nat} {rec:jD f→Int→Int→List Pt} {s:lV} {ss:List (Int×jD f)} {no:Int} {n:Nat} {p:Pt} (h:p∈GI rec s ss no n):∃j,j<n∧p∈rec (ss.getD j (0,jS f)).2 (pQ f ss no j) (qH s (ss.getD j (0,jS f)).1):=by
 obtain⟨j,hj,hp⟩:=dK.1 h;exact⟨j,bW.1 hj,hp⟩
omit hT in
theorem YW {f:Nat} {d:jD (f+1)} {no:Int} {j:Nat} (hj:j<d.2.1.length):∀x∈mU f (d.2.1.getD j (0,jS f)).2 (pQ f d.2.1 no j),x∈mU (f+1) d no:=fun x hx=>by
 rw[nN];exact aZ _ (bH.2 (.inr (bH.2 (.inl (LX hj _ hx)))))
theorem YX {L:List lV} {n:Nat} {o:Int} (ho:o=1∨o=2):∀(f:Nat) (d:jD f) (no i:Int),lQ L f d i=true→okW L (jV F T) n o f d no i→(∀x∈mU f d no,x∈tH F T)→
  (∀p∈IV L (jV F T) o f d no i,IW (jV F T) (fun s=>no≤s.2.1∧s.2.1<no+(jT f d).length) p)∧(IV L (jV F T) o f d no i).Pairwise Dj
 |0,_,_,_,_,_,_=>⟨fun p hp=>(by cases hp),List.Pairwise.nil⟩
 |f+1,d,no,i,hh,hw,hin=>by
  have hA:=BZ F T;have hf:=nS.1 hh;obtain⟨k1,k2,k3,k4,k5,k6,k7,k8,k9⟩:=Q6 hw;have hel:=LV f (jV F T) o no (L.getD i.toNat jM) d;have hfl:(jT (f+1) d).length=(kD f d.2.1).length+1:=by rw[lN];rfl
  have hV:∀p∈d.1.flatMap (zV (jV F T) o no),IW (jV F T) (fun s=>s.1=3∧s.2.1=no) p:=fun p hp=>by
   obtain⟨x,hx,hp⟩:=dK.1 hp;exact(TL hT ho hf hin hx hp).2.2.mono fun s h=>by have:=yE h;exact⟨this.1,this.2.1⟩
  have hVd:(d.1.flatMap (zV (jV F T) o no)).Pairwise Dj:=by
   rw[List.pairwise_flatMap];refine⟨fun x _=>by unfold zV;split <;> simp,List.Pairwise.imp_of_mem ?_ hf.rt⟩;intro a b ha hb hab p hp q hq;refine PU hA (TL hT ho hf hin ha hp).2.2.inq (TL hT ho hf hin hb hq).2.2.inq fun s e1 e2=>?_;have h1:=(yE e1).2.2;have h2:=(yE e2).2.2;omega
  have hB:∀p∈xS (jV F T) d.2.2 no,IW (jV F T) (fun s=>s.1=4∧s.2.1=no) p:=fun p hp=>
   (aEH hT hin hp).2.2.mono fun s h=>by have:=yE h;exact⟨this.1,this.2.1⟩
  have hBd:(xS (jV F T) d.2.2 no).Pairwise Dj:=by unfold xS;split <;> simp
  have hH:∀p∈FB (jV F T) o no (mR f (jV F T) o no (L.getD i.toNat jM) d),IW (jV F T) (fun s=>s.1=2∧s.2.1=no) p:=fun p hp=>
   (aEI hT ho hin hel k6 k9 hp).mono fun s h=>by have:=yE h;exact⟨this.1,this.2.1⟩
  have hHd:=aP3 (l:=jV F T) (no:=no) ho k6 k9 k8;have hrec:∀j,j<d.2.1.length→(∀p∈IV L (jV F T) o f (d.2.1.getD j (0,jS f)).2 (pQ f d.2.1 no j) (qH (L.getD i.toNat jM) (d.2.1.getD j (0,jS f)).1),IW (jV F T) (fun s=>pQ f d.2.1 no j≤s.2.1∧s.2.1<pQ f d.2.1 no (j+1)) p)∧(IV L (jV F T) o f (d.2.1.getD j (0,jS f)).2 (pQ f d.2.1 no j) (qH (L.getD i.toNat jM) (d.2.1.getD j (0,jS f)).1)).Pairwise Dj:=fun j hj=>by
   have:=YX ho f _ _ _ (hf.sb j hj).2 (k2 j hj).2 fun x hx=>hin x (YW hj x hx);rw[←LU f d.2.1 no hj]at this;exact this
  have hS:∀p∈GI (IV L (jV F T) o f) (L.getD i.toNat jM) d.2.1 no d.2.1.length,IW (jV F T) (fun s=>no+1≤s.2.1∧s.2.1<no+1+(kD f d.2.1).length) p:=fun p hp=>by
   obtain⟨j,hj,hp⟩:=aA2 hp;refine((hrec j hj).1 p hp).mono fun s hs=>?_;have h1:=DR f d.2.1 no j;have h2:=DR f d.2.1 no (j+1);omega
  have hSd:(GI (IV L (jV F T) o f) (L.getD i.toNat jM) d.2.1 no d.2.1.length).Pairwise Dj:=by
   unfold GI;rw[List.pairwise_flatMap];refine⟨fun j hj=>(hrec j (bW.1 hj)).2,List.Pairwise.imp_of_mem ?_ List.pairwise_lt_range⟩;intro a b ha hb hab p hp q hq;refine PU hA ((hrec a (bW.1 ha)).1 p hp).inq ((hrec b (bW.1 hb)).1 q hq).inq fun s e1 e2=>?_;have:=aKP f d.2.1 no (show a+1≤b by omega);omega
  rw[F9,a5S];have hO:∀p∈d.1.flatMap (zV (jV F T) o no)++xS (jV F T) d.2.2 no++FB (jV F T) o no (mR f (jV F T) o no (L.getD i.toNat jM) d),IW (jV F T) (fun s=>s.2.1=no) p:=fun p hp=>by
   rcases bH.1 hp with hp|hp
   ·rcases bH.1 hp with hp|hp
    ·exact(hV p hp).mono fun s h=>h.2
    ·exact(hB p hp).mono fun s h=>h.2
   ·exact(hH p hp).mono fun s h=>h.2
  refine⟨fun p hp=>?_,?_⟩
  ·rcases bH.1 hp with hp|hp
   ·exact(hS p hp).mono fun s h=>by omega
   ·exact(hO p hp).mono fun s h=>by omega
  ·rw[fE];refine⟨hSd,?_,fun p hp q hq=>PU hA (hS p hp).inq (hO q hq).inq fun s e1 e2=>by omega⟩;rw[fE];refine⟨?_,hHd,fun p hp q hq=>?_⟩
   ·rw[fE];exact⟨hVd,hBd,fun p hp q hq=>PU hA (hV p hp).inq (hB q hq).inq fun s e1 e2=>by omega⟩
   ·rcases bH.1 hp with hp|hp
    ·exact PU hA (hV p hp).inq (hH q hq).inq fun s e1 e2=>by omega
    ·exact PU hA (hB p hp).inq (hH q hq).inq fun s e1 e2=>by omega
omit hT in
theorem QN (f:Nat) (ds:List (jD f)) {a b:Nat} (h:a≤b):noT f ds a≤noT f ds b:=by
 have:=JM f (ds.take b) a;unfold noT at this ⊢;rw[iK,gW h]at this;omega
end
section
variable {f:Nat} {o:Int} {ds:List (jD f)} {L:List lV} (h:mJ f o ds L=0) (hb:∀d∈ds,pU f d)
include h hb
theorem YZ {k:Nat} (hk:k<ds.length):(∀p∈IV L (jV f ds) o f (ds.getD k (jS f)) (noT f ds k) (mI L k),IW (jV f ds) (fun s=>noT f ds k≤s.2.1∧s.2.1<noT f ds (k+1)) p)∧(IV L (jV f ds) o f (ds.getD k (jS f)) (noT f ds k) (mI L k)).Pairwise Dj:=by
 have hO:=GQ h hb;obtain⟨h1,h2,h3,h4,h5,h6⟩:=pW h;rw[BX f ds hk];exact YX (uH h5) h2 f _ _ _ (oC h5 hk) (hO.dir k hk) (F8 hk)
omit hb in
theorem BD {k:Nat} (hk:k<ds.length):∃s∈jV f ds,BP s=(2,noT f ds k,0)∧s.2.2.2.1=oG (jV f ds) 2 (noT f ds k) 0∧s.2.2.2.2=6+12*((WG f (ds.getD k (jS f)):Nat):Int)∧0≤s.2.2.2.1∧s.2.2.2.1+s.2.2.2.2≤lS (jV f ds):=by
 obtain⟨h1,h2,h3,h4,h5,h6⟩:=pW h;have hx:=F8 hk _ (JN (oC h5 hk) (noT f ds k));obtain⟨s,g1,g2,g3,g4,_,g5,_,g6⟩:=F6 (uH h5) hx;simp only at g3 g4 g6;exact⟨s,g1,g2,g4,g3,g5,by rw[g3];exact g6⟩
omit hb in
theorem Z0 {k:Nat} (hb:∀d∈ds,pU f d) (hk:k<ds.length) {p:Pt} (hp:p∈nextQ (jV f ds) o f ds k):k+1<ds.length∧p.2.length=4∧∃s∈jV f ds,BP s=(2,noT f ds k,0)∧(p.1:Int)=s.2.2.2.1+s.2.2.2.2 - 4:=by
 unfold nextQ at hp;split at hp
 ·rename_i hk1;obtain rfl:p=_:=by simpa using hp
  have hO:=GQ h hb;obtain⟨s,g1,g2,g3,g4,g5,g6⟩:=BD h hk;have hpk:=hO.pk (k+1) hk1;refine⟨hk1,by unfold uI;rw[mP hpk];rfl,s,g1,g2,?_⟩;unfold uI;show(((oG (jV f ds) 2 (noT f ds k) 0+2+12*((WG f (ds.getD k (jS f)):Nat):Int)).toNat:Nat):Int)=_
  omega
 ·cases hp
theorem aKQ:(∀p∈chQ L (jV f ds) o f ds ds.length,InQ (jV f ds) (fun s=>0≤s.2.1) p)∧(chQ L (jV f ds) o f ds ds.length).Pairwise Dj:=by
 have hA:=BZ f ds;have hN:∀k,k<ds.length→∀p∈nextQ (jV f ds) o f ds k,InQ (jV f ds) (fun s=>s.2.1=noT f ds k) p:=fun k hk p hp=>by
  obtain⟨_,h4,s,g1,g2,g3⟩:=Z0 h hb hk hp;obtain⟨t,i1,i2,i3,i4,i5,_⟩:=BD h hk;have hst:s=t:=a5P (F5 f ds (uH (pW h).2.2.2.2.1)) g1 i1 (g2.trans i2.symm);subst hst;exact⟨s,g1,(yE g2).2.1,by omega,by omega⟩
 have hD:=fun k (hk:k<ds.length)=>YZ h hb hk;have hblk:∀k,k<ds.length→∀p∈IV L (jV f ds) o f (ds.getD k (jS f)) (noT f ds k) (mI L k)++nextQ (jV f ds) o f ds k,InQ (jV f ds) (fun s=>noT f ds k≤s.2.1∧s.2.1<noT f ds (k+1)) p:=fun k hk p hp=>by
  rcases bH.1 hp with hp|hp
  ·exact((hD k hk).1 p hp).inq
  ·refine(hN k hk p hp).mono fun s hs=>?_;have h1:=BX f ds hk;have h2:0<(jT f (ds.getD k (jS f))).length:=by
    have hh:=oC (pW h).2.2.2.2.1 hk;cases f with
    |zero=>exact absurd hh (by simp[lQ])
    |succ f=>rw[lN];simp
   omega
 constructor
 ·intro p hp;obtain⟨k,hk,hp⟩:=dK.1 hp;refine(hblk k (bW.1 hk) p hp).mono fun s hs=>?_;have:=JM f ds k;omega
 ·unfold chQ;rw[List.pairwise_flatMap];refine⟨fun k hk=>?_,List.Pairwise.imp_of_mem ?_ List.pairwise_lt_range⟩
  ·have hk:=bW.1 hk;rw[fE];refine⟨(hD k hk).2,by unfold nextQ;split <;> simp,fun p hp q hq=>?_⟩;obtain⟨s,s1,s2,s3,s4⟩:=(hD k hk).1 p hp;obtain⟨_,h4,t,t1,t2,t3⟩:=Z0 h hb hk hq;by_cases e:s=t
   ·subst e;rw[if_pos (yE t2).1]at s4;refine .inl ?_;omega
   ·refine PU hA (Q:=fun x=>x=s) (R:=fun x=>x=t) ⟨s,s1,rfl,s3,by split at s4 <;> omega⟩ ?_ fun x e1 e2=>e (e1.symm.trans e2);obtain⟨t',u1,u2,u3,u4⟩:=hN k hk q hq;obtain⟨v,i1,i2,i3,i4,i5,_⟩:=BD h hk;have hst:t=v:=a5P (F5 f ds (uH (pW h).2.2.2.2.1)) t1 i1 (t2.trans i2.symm);subst hst;exact⟨t,t1,rfl,by omega,by omega⟩
  ·intro a b ha hb2 hab p hp q hq;refine PU hA (hblk a (bW.1 ha) p hp) (hblk b (bW.1 hb2) q hq) fun s e1 e2=>?_;have:=QN f ds (show a+1≤b by omega);omega
omit h hb in
theorem aP4:∃s∈jV f ds,s.2.1= -1∧s.2.2.2.1=0∧s.2.2.2.2=8:=⟨(1, -1,0,0,8),by rw[(vO f ds).1];exact bJ ..,rfl,rfl,rfl⟩
omit h hb in
theorem BF:(A9 o).length=2:=by unfold A9;split <;> rfl
theorem QO:(JR f o ds L).Pairwise Dj∧∀p∈JR f o ds L,InQ (jV f ds) (fun _=>True) p:=by
 have hA:=BZ f ds;obtain⟨c1,c2⟩:=aKQ h hb;obtain⟨s,s1,s2,s3,s4⟩:=aP4 (f:=f) (ds:=ds);have ho:=(pW h).2.1;have p42:(kL 42 2 o).length=2:=mP (n:=42) (s:=2) ((kP ho).2 (by decide));have p8:(kL 8 4 o).length=4:=mP (n:=8) (s:=4) ((kP ho).2 (by decide));have sg:=BF (o:=o);have q1:InQ (jV f ds) (fun s=>s.2.1= -1) (0,A9 o):=⟨s,s1,s2,by rw[s3];exact fP _,by rw[s3,s4];show((0:Nat):Int)+(A9 o).length≤_;omega⟩;have q2:InQ (jV f ds) (fun s=>s.2.1= -1) (2,kL 42 2 o):=⟨s,s1,s2,by rw[s3];show(0:Int)≤(2:Nat);omega,by rw[s3,s4];show((2:Nat):Int)+(kL 42 2 o).length≤_;omega⟩;have q3:InQ (jV f ds) (fun s=>s.2.1= -1) (4,kL 8 4 o):=⟨s,s1,s2,by rw[s3];show(0:Int)≤(4:Nat);omega,by rw[s3,s4];show((4:Nat):Int)+(kL 8 4 o).length≤_;omega⟩;have hx:∀p,InQ (jV f ds) (fun s=>s.2.1= -1) p→∀q∈chQ L (jV f ds) o f ds ds.length,Dj p q:=fun p hp q hq=>PU hA hp (c1 q hq) fun s e1 e2=>by omega
 constructor
 ·unfold JR;refine List.Pairwise.cons ?_ (List.Pairwise.cons ?_ (List.Pairwise.cons ?_ c2))
  ·intro p hp;rcases bQ.1 hp with rfl|hp
   ·exact .inl (by show 0+(A9 o).length≤2;omega)
   rcases bQ.1 hp with rfl|hp
   ·exact .inl (by show 0+(A9 o).length≤4;omega)
   ·exact hx _ q1 p hp
  ·intro p hp;rcases bQ.1 hp with rfl|hp
   ·exact .inl (by show 2+(kL 42 2 o).length≤4;omega)
   ·exact hx _ q2 p hp
  ·exact fun p hp=>hx _ q3 p hp
 ·intro p hp;rcases bQ.1 hp with rfl|hp
  ·exact q1.mono fun _ _=>trivial
  rcases bQ.1 hp with rfl|hp
  ·exact q2.mono fun _ _=>trivial
  rcases bQ.1 hp with rfl|hp
  ·exact q3.mono fun _ _=>trivial
  ·exact(c1 p hp).mono fun _ _=>trivial
theorem FD:InB (mX f ds).toNat (JR f o ds L):=fun p hp=>by
 obtain⟨s,s1,_,s2,s3⟩:=(QO h hb).2 p hp;have h1:=(QJ (pW h).2.2.2.2.2).2.1;rw[(vO f ds).1]at s1;have h2:=ET (tH f ds) 0 (fP _) (GK f ds) s s1;rw[←(vO f ds).2]at h2;omega
theorem aP5:oG (jV f ds) 2 (noT f ds 0) 0=8:=by
 obtain⟨h1,h2,h3,h4,h5,h6⟩:=pW h;obtain⟨d,r,rfl⟩:∃d r,ds=d::r:=by
  cases ds with
  |nil=>exact absurd rfl h3
  |cons d r=>exact⟨d,r,rfl⟩
 cases f with
 |zero=>have:=oC h5 (k:=0) (by simp);simp[lQ]at this
 |succ f=>
  rw[(vO (f+1) (d::r)).1];rfl
theorem QS:uG f o ds L=zQ (JR f o ds L) (List.replicate (mX f ds).toNat 0):=by
 have hO:=GQ h hb;obtain⟨h1,h2,h3,h4,h5,h6⟩:=pW h;have hp:=aXB (L:=L) (o:=o) h3 hO.dir;have e0:uI (jV f ds) o f ds 0=(4,kL 8 4 o):=by
  unfold uI;rw[aP5 h hb];rfl
 rw[e0]at hp;have hl:(List.replicate (mX f ds).toNat (0:Int)).length=(mX f ds).toNat:=by simp
 have hsg:∀r,zQ (QD o++r) (List.replicate (mX f ds).toNat 0)=zQ ((0,A9 o)::r) (List.replicate (mX f ds).toNat 0):=fun r=>by
  rw[o8,uF];congr 1
  rcases h2 with rfl|rfl
  ·have h8:=hO.n8;show splice (splice _ 0 [77,77]) 0 [73,73]=splice _ 0 [73,73]
   have hr:(List.replicate (mX f ds).toNat (0:Int)).length=(mX f ds).toNat:=by simp
   have g1:0+([77,77]:List Int).length≤(List.replicate (mX f ds).toNat (0:Int)).length:=by rw[hr];show 0+2≤_;omega
   have e1:=o9 g1;have g2:0+([73,73]:List Int).length≤(splice (List.replicate (mX f ds).toNat (0:Int)) 0 [77,77]).length:=by rw[e1,hr];show 0+2≤_;omega
   have g3:0+([73,73]:List Int).length≤(List.replicate (mX f ds).toNat (0:Int)).length:=by rw[hr];show 0+2≤_;omega
   refine AZ (by rw[o9 g2,o9 g3,e1]) fun k hk=>?_;rw[qI g2,qI g1,qI g3];by_cases hk2:k<2
   ·rw[if_pos ⟨iP _,by show k<0+2;omega⟩];rw[if_pos ⟨iP _,by show k<0+2;omega⟩]
   ·rw[if_neg (by intro h;have:k<0+2:=h.2;omega)];rw[if_neg (by intro h;have:k<0+2:=h.2;omega)];rw[if_neg (by intro h;have:k<0+2:=h.2;omega)]
  ·rfl
 unfold uG aOW;rw[hsg];have hpm:((0,A9 o)::(2,kL 42 2 o)::chW L (jV f ds) o f ds ds.length).Perm (JR f o ds L):=(hp.cons _).cons _;refine aNQ hpm _ ?_ ?_
 ·intro p hp;rw[hl];exact FD h hb p (hpm.mem_iff.1 hp)
 ·exact(hpm.pairwise_iff (fun {_ _} h=>Dj.symm h)).2 (QO h hb).1
theorem a2V:(uG f o ds L).length=(mX f ds).toNat:=by
 rw[QS h hb,a4W _ _ (by simp only[List.length_replicate];exact FD h hb)];simp
theorem aKR {p:Pt} (hp:p∈JR f o ds L):((uG f o ds L).drop p.1).take p.2.length=p.2:=by
 rw[QS h hb];exact aWH (by simp only[List.length_replicate];exact FD h hb) (QO h hb).1 hp
end
def Std (z:List Int) (ps:List Pt):Prop:=∀p∈ps,p.1+p.2.length≤z.length∧(z.drop p.1).take p.2.length=p.2
def aHL (z:List Int) (L:List lV) (l:List lK) (o:Int):(f:Nat)→jD f→Int→Int→Int→Prop
 |0,_,_,_,_=>False
 |f+1,d,no,i,nx=>Std z (aKN f l o no (L.getD i.toNat jM) d)∧kZ z (oG l 2 no 0+2+12*((mQ d.1.length d.2.1.length d.2.2.length:Nat):Int)) 4 o=nx∧
   ∀j,j<d.2.1.length→aHL z L l o f (d.2.1.getD j (0,jS f)).2 (pQ f d.2.1 no j) (qH (L.getD i.toNat jM) (d.2.1.getD j (0,jS f)).1) 0
def Lo (l:List lK):Prop:=0≤lS l∧∀s∈l,s.2.2.2.1+s.2.2.2.2≤lS l
theorem Lo.add {l:List lK} (h:Lo l) {a b c e:Int} (he:0≤e):Lo (mZ l a b c e):=by
 obtain⟨h1,h2⟩:=h;have hv:=wU h1;refine⟨by rw[JE];omega,fun s hs=>?_⟩;rw[JE];unfold mZ at hs;rcases bH.1 hs with hs|hs
 ·have:=h2 s hs;omega
 ·obtain rfl:s=_:=by simpa using hs
  exact fP _
theorem Lo.push:∀(is:List DN) {l:List lK},Lo l→(∀x∈is,0≤x.2.2.2)→Lo (is.foldl IB l)
 | [],_,h,_=>h
 |x::is,l,h,hx=>Lo.push is (Lo.add h (hx x (bJ ..))) fun y hy=>hx y (aZ _ hy)
theorem aXC {f:Nat} {d:jD f} {no:Int}:∀x∈mU f d no,0≤x.2.2.2:=fun x hx=>(DT f d no x hx).2.2.1
theorem Lo.lay {l:List lK} (h:Lo l) (f:Nat) (d:jD f) (no:Int):Lo (vB f d no l):=by
 rw[QF];exact Lo.push _ h aXC
theorem Lo.vals {l:List lK} (h:Lo l) (ts:List nC) (no:Int):Lo (lY no ts l):=by
 rw[LW];refine Lo.push _ h fun x hx=>?_;obtain⟨t,_,rfl⟩:=cB.1 hx;exact QE t
theorem aA3 (is:List DN) (l:List lK):l<+:is.foldl IB l:=by
 rw[(Y9 is l).1];exact List.prefix_append ..
theorem aXD (f:Nat) (d:jD f) (no:Int) (l:List lK):l<+:vB f d no l:=by rw[QF];exact aA3 _ _
theorem aA4 (no:Int) (ts:List nC) (l:List lK):l<+:lY no ts l:=by rw[LW];exact aA3 _ _
theorem aXE (l:List lK) (a b c e:Int):l<+:mZ l a b c e:=List.prefix_append ..
theorem Z4 (f:Nat):∀(ss:List (Int×jD f)) (r:List lK×Int),r.1<+:(jZ f ss r).1
 | [],_=>List.prefix_refl _
 |s::ss,r=>by
  rw[uP];exact(aXD f s.2 r.2 r.1).trans (Z4 f ss (vB f s.2 r.2 r.1,r.2+(jT f s.2).length))
theorem aA5 (f:Nat) (ss:List (Int×jD f)) (r:List lK×Int) (i:Nat):jZ f ss r=jZ f (ss.drop i) (jZ f (ss.take i) r):=by
 conv=>lhs;rw[←eY i ss]
 unfold jZ;rw[fM]
theorem ND (f:Nat) (ss:List (Int×jD f)) (r:List lK×Int) (i:Nat):(jZ f (ss.take i) r).1<+:(jZ f ss r).1:=by
 rw[aA5 f ss r i];exact Z4 f _ _
theorem WX (f:Nat):∀(ss:List (Int×jD f)) (r:List lK×Int),Lo r.1→Lo (jZ f ss r).1
 | [],_,h=>h
 |s::ss,r,h=>by
  rw[uP];exact WX f ss _ (h.lay f s.2 r.2)
theorem a5T (f:Nat):∀(ss:List (Int×jD f)) (r:List lK×Int),(jZ f ss r).2=r.2+(kD f ss).length
 | [],r=>by simp[jZ,kD]
 |s::ss,r=>by
  rw[uP,a5T f ss];unfold kD;rw[dO,bO];show r.2+(jT f s.2).length+_=_
  omega
theorem aA6 {n:Nat} {l0:List lK} {no so a b c e:Int} (hl:Lo l0) (h0:0≤e) (he:oK (lS l0)+e≤n):mH n (a,b,c,oK (lS l0),e) ⟨l0,no,so⟩= .ok ⟨mZ l0 a b c e,no,so⟩:=by
 have hv:=wU hl.1;have h2:oK (lS l0) % 2=0:=by unfold oK;omega
 unfold mH;have hf:PE n (a,b,c,oK (lS l0),e)=true:=by
  unfold PE vX;have:=hl.1;simp only[bF,decide_eq_true_eq];exact⟨h2,⟨⟨by omega,h0⟩,by omega⟩,by omega⟩
 have hfr:JC ⟨l0,no,so⟩ (oK (lS l0)) e.toNat=true:=by
  unfold JC;rw[cZ];intro i hi;unfold lD;simp only[dS];rw[List.any_eq_false];intro s hs;have:=hl.2 s hs;unfold SY;simp only[bF,decide_eq_true_eq,not_and];intro _;omega
 rw[if_pos hf,if_pos hfr];rfl
theorem sG {α σ:Type} (step:σ→α→Except Int σ) (x:α) (r:List α) (s:σ):loopS step (x::r) s=match step s x with
  | .error e=> .error e
  | .ok s'=>loopS step r s':=rfl
section
variable {l:List lK} {z:List Int} {o:Int} (hk:(l.map BP).Nodup) (hz:∀s∈l,s.2.2.2.1+s.2.2.2.2≤z.length)
include hk
theorem aP6 {l0:List lK} {a b c e:Int} (hp:mZ l0 a b c e<+:l):(a,b,c,oK (lS l0),e)∈l∧oG l a b c=oK (lS l0):=by
 have hm:(a,b,c,oK (lS l0),e)∈l:=hp.subset (by unfold mZ;exact bH.2 (.inr (dD.2 rfl)));exact⟨hm,(aHE hk hm).2⟩
include hz
theorem take_at {l0:List lK} {no so a b c e:Int} (hl:Lo l0) (h0:0≤e) (hp:mZ l0 a b c e<+:l):mH z.length (a,b,c,oG l a b c,e) ⟨l0,no,so⟩= .ok ⟨mZ l0 a b c e,no,so⟩:=by
 obtain⟨h1,h2⟩:=aP6 hk hp;rw[h2];exact aA6 hl h0 (by have:=hz _ h1;exact this)
def aA7 (z:List Int) (o no:Int) (acc:List nC×St) (x:mK):Except Int (List nC×St):=match oI z o x no acc.2 with
 | .error e=> .error e
 | .ok (v,s')=> .ok (acc.1++ [v],s')
theorem aEJ (ho:o=1∨o=2) {x:nC} {no n2:Int} {l0:List lK} (hx:xM x.1=true∧II x=true) (hb:mW x.2.2.2) (hS:Std z (zV l o no x)) (hl:Lo l0) (hp:lY no [x] l0<+:l):
  oI z o (JH l o no x) no ⟨l0,n2,0⟩= .ok (x,⟨lY no [x] l0,n2,0⟩):=by
 have hm:=a1N hx.2 ho;have hi:=YS hx.2 ho hx.1;have e1:(0<(kH x.2.1).1∧1≤x.2.2.1∧x.2.2.1≤65536):=⟨by have:=hm.s1;omega,hm.k1,hm.k2⟩;unfold oI;have hent:JH l o no x=(x.1,x.2.1,x.2.2.1,if ML x o=true then kZ (wH (kS x o)) 0 4 o else oG l 3 no x.1):=rfl;rw[hent];simp only;rw[if_pos e1];by_cases h0:oL x.2.1 x.2.2.1=0
 ·rw[h0,decide_eq_true rfl]at hi;have hv:lY no [x] l0=l0:=by unfold lY;simp[h0]
  rw[h0,if_neg (by decide),hi,if_pos rfl,aOZ hb hx.2 ho hi,hv];rfl
 ·have hl2:=QG hx.2 ho h0;rw[decide_eq_false h0]at hi;have hpos:0<oL x.2.1 x.2.2.1:=by omega
  have hv:lY no [x] l0=mZ l0 3 no x.1 (oL x.2.1 x.2.2.1):=by unfold lY;simp[hpos]
  rw[hv]at hp ⊢;rw[if_pos hpos,hi,if_neg (by decide),take_at hk hz hl (by omega) hp];have hst:=hS ((oG l 3 no x.1).toNat,kS x o) (by unfold zV;rw[hi];simp);simp only;rw[a9W hx.2 ho hst.2]
theorem a2W (ho:o=1∨o=2) {no n2:Int}:∀(ts:List nC) (acc:List nC) (l0:List lK),(∀x∈ts,xM x.1=true∧II x=true)→(∀x∈ts,mW x.2.2.2)→Std z (ts.flatMap (zV l o no))→Lo l0→lY no ts l0<+:l→
  loopS (aA7 z o no) (ts.map (JH l o no)) (acc,⟨l0,n2,0⟩)= .ok (acc++ts,⟨lY no ts l0,n2,0⟩)
 | [],acc,l0,_,_,_,_,_=>by simp[loopS,lY]
 |x::ts,acc,l0,h1,h2,h3,h4,h5=>by
  have hv:lY no (x::ts) l0=lY no ts (lY no [x] l0):=rfl;rw[hv]at h5 ⊢;have hx:=aEJ hk hz ho (n2:=n2) (h1 x (bJ ..)) (h2 x (bJ ..)) (fun p hp=>h3 p (by rw[dO];exact bH.2 (.inl hp))) h4 ((aA4 no ts _).trans h5);rw[aS,sG];have hs:aA7 z o no (acc,⟨l0,n2,0⟩) (JH l o no x)= .ok (acc++ [x],⟨lY no [x] l0,n2,0⟩):=by
   unfold aA7;simp only;rw[hx]
  rw[hs];simp only;rw[a2W ho ts (acc++ [x]) _ (fun y hy=>h1 y (aZ _ hy)) (fun y hy=>h2 y (aZ _ hy)) (fun p hp=>h3 p (by rw[dO];exact bH.2 (.inr hp))) (h4.vals [x] no) h5,dB];rfl
end
theorem JS {α σ:Type} {step step':σ→α→Except Int σ} {p:α→Bool} (h1:∀s x,p x=true→step s x=step' s x):∀(l:List α) (s:σ),(∀x∈l,p x=false→∀s,step s x= .ok s)→loopS step l s=loopS step' (l.filter p) s
 | [],_,_=>rfl
 |x::l,s,h2=>by
  have ih:=fun s=>JS h1 l s fun y hy=>h2 y (aZ _ hy);rw[sG];cases hp:p x with
  |true=>
   rw[dY hp,h1 s x hp,sG];cases step' s x with
   |error e=>rfl
   |ok s'=>exact ih s'
  |false=>
   rw[dJ (by simp[hp]),h2 x (bJ ..) hp s];exact ih s
theorem aA8 {α σ:Type} {step:σ→α→Except Int σ}:∀(a b:List α) (s s':σ),loopS step a s= .ok s'→loopS step (a++b) s=loopS step b s'
 | [],b,s,s',h=>by
  unfold loopS at h;injection h with h;rw[h];rfl
 |x::a,b,s,s',h=>by
  rw[iO];rw[sG]at h ⊢;cases hx:step s x with
  |error e=>rw[hx]at h;cases h
  |ok s1=>
   rw[hx]at h;exact aA8 a b s1 s' h
theorem JU {es ys:List mK} {p:mK→Bool} (hd:es.Pairwise fun x y=>x.1≠y.1) (hp:es.filter p=ys) (hs:ys.Pairwise fun x y=>x.1<y.1):(sortE es).filter p=ys:=by
 have h1:((sortE es).filter p).Perm ys:=by rw[←hp];exact(vR es).filter p
 refine List.Perm.eq_of_pairwise (le:=fun x y=>x.1<y.1) (fun a b _ _ h1 h2=>by omega) ((QL hd).filter _) hs h1
theorem WY {z:List Int} {p n a m:Nat} (h:(z.drop p).take n=(z.drop p).take n) (hm:a+m≤n):(z.drop (p+a)).take m=(((z.drop p).take n).drop a).take m:=by
 rw[List.drop_take,iK,List.drop_drop,gW (by omega)]
theorem aEK {z:List Int} {p:Nat} {x:mK} {o:Int} (ho:o=1∨o=2) (hk:DL x o=true) (hl:p+12≤z.length) (h:(z.drop p).take 12=D7 x o):J9 z o p=x:=by
 unfold DL at hk;simp only[bF]at hk;obtain⟨⟨⟨k0,k1⟩,k2⟩,k3⟩:=hk;have l0:(kL x.1 2 o).length=2:=mP k0;have l1:(kL x.2.1 2 o).length=2:=mP k1;have l2:(kL x.2.2.1 4 o).length=4:=mP k2;have l3:(kL x.2.2.2 4 o).length=4:=mP k3;have e0:(z.drop (p+0)).take 2=kL x.1 2 o:=by
  rw[WY (n:=12) rfl (by omega),h];unfold D7;rw[gG,dB,dB,List.take_left' l0]
 have e1:(z.drop (p+2)).take 2=kL x.2.1 2 o:=by
  rw[WY (n:=12) rfl (by omega),h];unfold D7;rw[dB,dB,List.drop_left' l0,List.take_left' l1]
 have e2:(z.drop (p+4)).take 4=kL x.2.2.1 4 o:=by
  rw[WY (n:=12) rfl (by omega),h];unfold D7;rw[dB,List.drop_left' (by rw[bO,l0,l1]),List.take_left' l2]
 have e3:(z.drop (p+8)).take 4=kL x.2.2.2 4 o:=by
  rw[WY (n:=12) rfl (by omega),h];unfold D7;rw[List.drop_left' (by rw[bO,bO,l0,l1,l2]),bP (by rw[l3];exact aU _)]
 unfold J9;rw[yT (s:=2) (n:=x.1) (by decide) ho (by omega) (by omega) k0 (by rw[show((p:Int)).toNat=p+0 by omega];exact e0)];rw[yT (s:=2) (n:=x.2.1) (by decide) ho (by omega) (by omega) k1 (by rw[show((p:Int)+2).toNat=p+2 by omega];exact e1)];rw[yT (s:=4) (n:=x.2.2.1) (by decide) ho (by omega) (by omega) k2 (by rw[show((p:Int)+4).toNat=p+4 by omega];exact e2)];rw[yT (s:=4) (n:=x.2.2.2) (by decide) ho (by omega) (by omega) k3 (by rw[show((p:Int)+8).toNat=p+8 by omega];exact e3)]
theorem aA9:∀{es:List mK},(es.Pairwise fun x y=>x.1<y.1)→wT es=true
 | [],_=>rfl
 | [_],_=>rfl
 |x::y::r,h=>by
  obtain⟨h1,h2⟩:=dR.1 h;unfold wT;rw[aA9 h2,decide_eq_true (h1 y (bJ ..))];rfl
theorem aKS {z:List Int} {l:List lK} {o no:Int} (ho:o=1∨o=2) {es:List mK} (h0:0≤oG l 2 no 0) (hd:es.Pairwise fun x y=>x.1≠y.1) (hk:∀x∈es,DL x o=true) (hS:Std z (FB l o no es)):uU z o (oG l 2 no 0) es.length=sortE es:=by
 unfold uU;refine gH (by simp[uQ]) fun i h1 h2=>?_;rw[fD,List.getElem_range];have hm:(sortE es)[i]∈es:=(vR es).subset (bL h2);have ha:sF es (sortE es)[i]=i:=by
  unfold sF;rw[←((vR es).filter _).length_eq];exact GR (QL hd) h2
 have hs:=hS (aA0 (oG l 2 no 0).toNat o es (sortE es)[i]) (by unfold FB;exact aZ _ (cB.2 ⟨_,hm,rfl⟩));unfold aA0 at hs;rw[ha,QM (hk _ hm)]at hs;simp only at hs;have:=aEK ho (hk _ hm) hs.1 hs.2;rw[←this];congr 1
 omega
def aAA {f:Nat} (rec:Int→Int→St→Except Int ((jD f×Int)×St)) (sh:lV) (acc:List (Int×jD f)×St) (x:mK):Except Int (List (Int×jD f)×St):=
 match rec x.2.2.2 (qH sh x.1) acc.2 with
  | .error e=> .error e
  | .ok ((d,next),s')=>if next=0 then .ok (acc.1++ [(x.1,d)],s')else .error 2
theorem a5U {f:Nat} {rec:Int→Int→St→Except Int ((jD f×Int)×St)} {sh:lV} (es:List mK) (acc:List (Int×jD f)×St):loopS (oJ rec sh) es acc=loopS (aAA rec sh) (es.filter fun x=>kT sh x.1) acc:=
 JS (fun s x h=>by
  unfold oJ aAA qH;rw[if_pos h];cases rec x.2.2.2 (sh.1.getD (fst (fun y=>y.1==x.1) sh.1).toNat (0,0)).2 s.2 <;> rfl) es acc fun x _ h s=>by
  have h:kT sh x.1=false:=h;simp[oJ,h]
theorem a5V {z:List Int} {o no:Int} {sh:lV} (es:List mK) (acc:List nC×St) (hx:∀x∈es,qQ sh x.1=true→x.2.1=4∧x.2.2.1=1):loopS (stepT z o sh no) es acc=loopS (aA7 z o no) (es.filter fun x=> !qQ sh x.1) acc:=
 JS (fun s x h=>by
  have h:qQ sh x.1=false:=by simpa using h
  unfold stepT aA7;rw[if_neg (by simp[h])];cases oI z o x no s.2 <;> rfl) es acc fun x hm h s=>by
  have h:qQ sh x.1=true:=by simpa using h
  unfold stepT;rw[if_pos h,if_pos (hx x hm h)]
