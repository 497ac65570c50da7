import Derived.Test.YtceclmpmpldmlaaGreatCx25
set_option linter.unusedSimpArgs false
set_option linter.unusedVariables false
namespace Go.Proofs.YtceclmpmpldmlaaGreat
open Go.RowKit Tt
def OC (l:List nY) (Q:nY→Prop) (p:Pt):Prop:=∃s∈l,Q s∧s.2.2.2.1≤p.1∧(p.1:Int)+p.2.length+(if s.1=2 then 4 else 0)≤s.2.2.2.1+s.2.2.2.2
theorem OC.inq {l:List nY} {Q:nY→Prop} {p:Pt} (h:OC l Q p):InQ l Q p:=by
 obtain⟨s,h1,h2,h3,h4⟩:=h;exact⟨s,h1,h2,h3,by split at h4 <;> omega⟩
theorem OC.mono {l:List nY} {Q R:nY→Prop} {p:Pt} (h:OC l Q p) (hx:∀s,Q s→R s):OC l R p:=by
 obtain⟨s,h1,h2,h3⟩:=h;exact⟨s,h1,hx s h2,h3⟩
theorem aKL {l:List nY} (hd:(l.map LB).Nodup) {s t:nY} (hs:s∈l) (ht:t∈l) (h:LB s=LB t):s=t:=by
 induction l with
 |nil=>cases hs
 |cons u l ih=>
  obtain⟨h1,h2⟩:=iR.1 hd;rcases cB.1 hs with e1|BO <;> rcases cB.1 ht with e2|ht2
  ·exact e1.trans e2.symm
  ·exact absurd (dG.2 ⟨t,ht2,by rw[←h,e1]⟩) h1
  ·exact absurd (dG.2 ⟨s,BO,by rw[h,e2]⟩) h1
  ·exact ih h2 BO ht2
theorem SN {s:nY} {a b c:Int} (h:LB s=(a,b,c)):s.1=a∧s.2.1=b∧s.2.2.1=c:=⟨congrArg (fun k=>k.1) h,congrArg (fun k=>k.2.1) h,congrArg (fun k=>k.2.2) h⟩
section
variable {F:Nat} {T:List (jR F)} (hT:∀d∈T,a3I F d)
include hT
theorem PO {x:P8} (hx:x∈GK F T) {p:Pt} (h0:oV (jX F T) x.1 x.2.1 x.2.2.1≤p.1) (h1:(p.1:Int)+p.2.length+(if x.1=2 then 4 else 0)≤oV (jX F T) x.1 x.2.1 x.2.2.1+x.2.2.2):OC (jX F T) (fun s=>LB s=a2N x) p:=by
 obtain⟨s,g1,g2,g3,g4,_⟩:=PL hT hx;have e1:s.1=x.1:=congrArg (fun k=>k.1) g2;exact⟨s,g1,g2,by rw[g4];exact h0,by rw[g4,g3,e1];exact h1⟩
theorem aA4 {x:P8} (hx:x∈GK F T):0≤oV (jX F T) x.1 x.2.1 x.2.2.1:=by
 obtain⟨s,g1,g2,g3,g4,_,g5,_⟩:=PL hT hx;omega
theorem XU {L:List rQ} {o:Int} (ho:o=1∨o=2) {f:Nat} {d:jR (f+1)} {no i:Int} (hf:b7L L f d i) (yJ:∀x∈BL (f+1) d no,x∈GK F T) {x:rM} (hx:x∈d.1) {p:Pt} (hp:p∈AA (jX F T) o no x):
  V7 x o=false∧p=((oV (jX F T) 3 no x.1).toNat,lT x o)∧OC (jX F T) (fun s=>LB s=(3,no,x.1)) p:=by
 unfold AA at hp;split at hp
 ·cases hp
 ·rename_i hi;obtain rfl:p=_:=by simpa using hp
  have WR:=hf.tg x hx;have hz:yF x.2.1 x.2.2.1≠0:=fun e=>by rw[a3J WR.2.2 ho WR.1,e]at hi;simp at hi
  have hl:=aDG WR.2.2 ho hz;have hm:((3,no,x.1,SE x):P8)∈GK F T:=yJ _ (by
   rw[r9];refine cZ _ (bP.2 (.inl (dG.2 ⟨x,iF.2 ⟨hx,?_⟩,rfl⟩)));have:=a9Y x;unfold SE at*;simp;omega)
  have h0:=aA4 hT hm;simp only at h0;refine⟨by simpa using hi,rfl,PO hT hm (by show oV (jX F T) 3 no x.1≤(((oV (jX F T) 3 no x.1).toNat:Nat):Int);omega) ?_⟩;show((((oV (jX F T) 3 no x.1).toNat:Nat):Int))+((lT x o).length:Nat)+(if(3:Int)=2 then 4 else 0)≤oV (jX F T) 3 no x.1+SE x
  rw[if_neg aH];unfold SE;omega
theorem aHR {f:Nat} {d:jR (f+1)} {no:Int} (yJ:∀x∈BL (f+1) d no,x∈GK F T) {p:Pt} (hp:p∈zV (jX F T) d.2.2 no):
  0<d.2.2.length∧p=((oV (jX F T) 4 no 0).toNat,d.2.2)∧OC (jX F T) (fun s=>LB s=(4,no,0)) p:=by
 unfold zV at hp;split at hp
 ·rename_i hb;obtain rfl:p=_:=by simpa using hp
  have hm:((4,no,0,(d.2.2.length:Int)):P8)∈GK F T:=yJ _ (by
   rw[r9];refine cZ _ (bP.2 (.inr (bP.2 (.inr ?_))));unfold a9Z;rw[if_pos hb];exact dB ..)
  have h0:=aA4 hT hm;simp only at h0;refine⟨hb,rfl,PO hT hm (by show oV (jX F T) 4 no 0≤(((oV (jX F T) 4 no 0).toNat:Nat):Int);omega) ?_⟩;show((((oV (jX F T) 4 no 0).toNat:Nat):Int))+(d.2.2.length:Nat)+(if(4:Int)=2 then 4 else 0)≤oV (jX F T) 4 no 0+(d.2.2.length:Nat)
  rw[if_neg aH];omega
 ·cases hp
omit hT in
theorem a3Q {x:xB} {o:Int} (h:DL x o=true):(MI x o).length=12:=by
 unfold DL at h;simp only[bV]at h;obtain⟨⟨⟨h0,h1⟩,h2⟩,h3⟩:=h;unfold MI;simp only[cO,xK h0,xK h1,xK h2,xK h3];rfl
omit hT in
theorem aA5 {es:List xB} {x:xB} (h:x∈es):vE es x<es.length:=by
 obtain⟨k,hk,rfl⟩:=JY h yH;exact XQ hk
def Z6 (l:List nY) (o no:Int) (es:List xB):List Pt:=((oV l 2 no 0).toNat,kZ (es.length:Nat) 2 o)::es.map (aO1 (oV l 2 no 0).toNat o es)
omit hT in
theorem aZK (f:Nat) (l:List nY) (o no:Int) (s:rQ) (d:jR (f+1)):a3P f l o no s d=d.1.flatMap (AA l o no)++zV l d.2.2 no++Z6 l o no (pE f l o no s d):=by
 unfold a3P Z6;rw[aKK]
theorem aHS {f:Nat} {d:jR (f+1)} {no o:Int} (ho:o=1∨o=2) (yJ:∀x∈BL (f+1) d no,x∈GK F T) {es:List xB} (hn:es.length=qM d.1.length d.2.1.length d.2.2.length) (h2:es.length≤65535) (hk:∀x∈es,DL x o=true) {p:Pt} (hp:p∈Z6 (jX F T) o no es):
  OC (jX F T) (fun s=>LB s=(2,no,0)) p:=by
 have hm:((2,no,0,6+12*((qM d.1.length d.2.1.length d.2.2.length:Nat):Int)):P8)∈GK F T:=yJ _ (by rw[r9];exact dB ..);have h0:=aA4 hT hm;simp only at h0;have AU:lZ (es.length:Nat) 2 o=true:=(lU ho).2 (by rw[show rF 2=65536 by decide];omega);unfold Z6 at hp;rcases cB.1 hp with rfl|hp
 ·refine PO hT hm (by show oV (jX F T) 2 no 0≤(((oV (jX F T) 2 no 0).toNat:Nat):Int);omega) ?_;show((((oV (jX F T) 2 no 0).toNat:Nat):Int))+((kZ (es.length:Nat) 2 o).length:Nat)+(if(2:Int)=2 then 4 else 0)≤oV (jX F T) 2 no 0+(6+12*((qM d.1.length d.2.1.length d.2.2.length:Nat):Int))
  rw[xK AU,if_pos rfl,show(2:Int).toNat=2 from rfl];omega
 ·obtain⟨x,hx,rfl⟩:=dG.1 hp;have ha:=aA5 hx;have he:=a3Q (hk x hx);refine PO hT hm (by show oV (jX F T) 2 no 0≤(((oV (jX F T) 2 no 0).toNat+2+12*vE es x:Nat):Int);omega) ?_;show(((oV (jX F T) 2 no 0).toNat+2+12*vE es x:Nat):Int)+((MI x o).length:Nat)+(if(2:Int)=2 then 4 else 0)≤oV (jX F T) 2 no 0+(6+12*((qM d.1.length d.2.1.length d.2.2.length:Nat):Int))
  rw[he,if_pos rfl];omega
omit hT in
theorem aT1 {l:List nY} {o no:Int} (ho:o=1∨o=2) {es:List xB} (h2:es.length≤65535) (hk:∀x∈es,DL x o=true) (hd:es.Pairwise fun x y=>x.1≠y.1):(Z6 l o no es).Pairwise Dj:=by
 have AU:lZ (es.length:Nat) 2 o=true:=(lU ho).2 (by rw[show rF 2=65536 by decide];omega);unfold Z6;refine iC ?_ ?_
 ·intro p hp;obtain⟨x,hx,rfl⟩:=dG.1 hp;refine .inl ?_;show(oV l 2 no 0).toNat+(kZ (es.length:Nat) 2 o).length≤(oV l 2 no 0).toNat+2+12*vE es x
  rw[xK AU,show(2:Int).toNat=2 from rfl];omega
 ·rw[List.pairwise_map];refine iK ?_ hd;intro a b ha hb hab;have e1:=a3Q (hk a ha);have e2:=a3Q (hk b hb);show(oV l 2 no 0).toNat+2+12*vE es a+(MI a o).length≤(oV l 2 no 0).toNat+2+12*vE es b∨(oV l 2 no 0).toNat+2+12*vE es b+(MI b o).length≤(oV l 2 no 0).toNat+2+12*vE es a
  rw[e1,e2];rcases Int.lt_or_lt_of_ne hab with h|h
  ·have:=aDO ha h;omega
  ·have:=aDO hb h;omega
omit hT in
theorem aO2 (f:Nat) (ss:List (Int×jR f)) (no:Int) {a b:Nat} (h:a≤b):qH f ss no a≤qH f ss no b:=by
 have:=oO f (ss.take b) a;rw[List.take_take,jC h]at this;unfold qH;omega
omit hT in
theorem aT2 {f:Nat} {rec:jR f→Int→Int→List Pt} {s:rQ} {ss:List (Int×jR f)} {no:Int} {n:Nat} {p:Pt} (h:p∈GI rec s ss no n):∃j,j<n∧p∈rec (ss.getD j (0,lY f)).2 (qH f ss no j) (zA s (ss.getD j (0,lY f)).1):=by
 obtain⟨j,hj,hp⟩:=gZ.1 h;exact⟨j,dF.1 hj,hp⟩
omit hT in
theorem aT3 {f:Nat} {d:jR (f+1)} {no:Int} {j:Nat} (hj:j<d.2.1.length):∀x∈BL f (d.2.1.getD j (0,lY f)).2 (qH f d.2.1 no j),x∈BL (f+1) d no:=fun x hx=>by
 rw[r9];exact cZ _ (bP.2 (.inr (bP.2 (.inl (PI hj _ hx)))))
theorem a3R {L:List rQ} {n:Nat} {o:Int} (ho:o=1∨o=2):∀(f:Nat) (d:jR f) (no i:Int),nJ L f d i=true→okW L (jX F T) n o f d no i→(∀x∈BL f d no,x∈GK F T)→
  (∀p∈FL L (jX F T) o f d no i,OC (jX F T) (fun s=>no≤s.2.1∧s.2.1<no+(kQ f d).length) p)∧(FL L (jX F T) o f d no i).Pairwise Dj
 |0,_,_,_,_,_,_=>⟨fun p hp=>(by cases hp),List.Pairwise.nil⟩
 |f+1,d,no,i,hh,hw,yJ=>by
  have hA:=SG F T;have hf:=VI.1 hh;obtain⟨k1,k2,k3,k4,k5,k6,k7,k8,k9⟩:=VD hw;have hel:=PG f (jX F T) o no (L.getD i.toNat mD) d;have hfl:(kQ (f+1) d).length=(lH f d.2.1).length+1:=by rw[vO];rfl
  have hV:∀p∈d.1.flatMap (AA (jX F T) o no),OC (jX F T) (fun s=>s.1=3∧s.2.1=no) p:=fun p hp=>by
   obtain⟨x,hx,hp⟩:=gZ.1 hp;exact(XU hT ho hf yJ hx hp).2.2.mono fun s h=>by have:=SN h;exact⟨this.1,this.2.1⟩
  have hVd:(d.1.flatMap (AA (jX F T) o no)).Pairwise Dj:=by
   rw[List.pairwise_flatMap];refine⟨fun x _=>by unfold AA;split <;> simp,iK ?_ hf.rt⟩;intro a b ha hb hab p hp q hq;refine V9 hA (XU hT ho hf yJ ha hp).2.2.inq (XU hT ho hf yJ hb hq).2.2.inq fun s e1 e2=>?_;have h1:=(SN e1).2.2;have h2:=(SN e2).2.2;omega
  have hB:∀p∈zV (jX F T) d.2.2 no,OC (jX F T) (fun s=>s.1=4∧s.2.1=no) p:=fun p hp=>
   (aHR hT yJ hp).2.2.mono fun s h=>by have:=SN h;exact⟨this.1,this.2.1⟩
  have hBd:(zV (jX F T) d.2.2 no).Pairwise Dj:=by unfold zV;split <;> simp
  have hH:∀p∈Z6 (jX F T) o no (pE f (jX F T) o no (L.getD i.toNat mD) d),OC (jX F T) (fun s=>s.1=2∧s.2.1=no) p:=fun p hp=>
   (aHS hT ho yJ hel k6 k9 hp).mono fun s h=>by have:=SN h;exact⟨this.1,this.2.1⟩
  have hHd:=aT1 (l:=jX F T) (no:=no) ho k6 k9 k8;have a5W:∀j,j<d.2.1.length→(∀p∈FL L (jX F T) o f (d.2.1.getD j (0,lY f)).2 (qH f d.2.1 no j) (zA (L.getD i.toNat mD) (d.2.1.getD j (0,lY f)).1),OC (jX F T) (fun s=>qH f d.2.1 no j≤s.2.1∧s.2.1<qH f d.2.1 no (j+1)) p)∧(FL L (jX F T) o f (d.2.1.getD j (0,lY f)).2 (qH f d.2.1 no j) (zA (L.getD i.toNat mD) (d.2.1.getD j (0,lY f)).1)).Pairwise Dj:=fun j hj=>by
   have:=a3R ho f _ _ _ (hf.sb j hj).2 (k2 j hj).2 fun x hx=>yJ x (aT3 hj x hx);rw[←XK f d.2.1 no hj]at this;exact this
  have hS:∀p∈GI (FL L (jX F T) o f) (L.getD i.toNat mD) d.2.1 no d.2.1.length,OC (jX F T) (fun s=>no+1≤s.2.1∧s.2.1<no+1+(lH f d.2.1).length) p:=fun p hp=>by
   obtain⟨j,hj,hp⟩:=aT2 hp;refine((a5W j hj).1 p hp).mono fun s hs=>?_;have h1:=PE f d.2.1 no j;have h2:=PE f d.2.1 no (j+1);omega
  have hSd:(GI (FL L (jX F T) o f) (L.getD i.toNat mD) d.2.1 no d.2.1.length).Pairwise Dj:=by
   unfold GI;rw[List.pairwise_flatMap];refine⟨fun j hj=>(a5W j (dF.1 hj)).2,iK ?_ List.pairwise_lt_range⟩;intro a b ha hb hab p hp q hq;refine V9 hA ((a5W a (dF.1 ha)).1 p hp).inq ((a5W b (dF.1 hb)).1 q hq).inq fun s e1 e2=>?_;have:=aO2 f d.2.1 no (show a+1≤b by omega);omega
  rw[XR,aZK];have hO:∀p∈d.1.flatMap (AA (jX F T) o no)++zV (jX F T) d.2.2 no++Z6 (jX F T) o no (pE f (jX F T) o no (L.getD i.toNat mD) d),OC (jX F T) (fun s=>s.2.1=no) p:=fun p hp=>by
   rcases bP.1 hp with hp|hp
   ·rcases bP.1 hp with hp|hp
    ·exact(hV p hp).mono fun s h=>h.2
    ·exact(hB p hp).mono fun s h=>h.2
   ·exact(hH p hp).mono fun s h=>h.2
  refine⟨fun p hp=>?_,?_⟩
  ·rcases bP.1 hp with hp|hp
   ·exact(hS p hp).mono fun s h=>by omega
   ·exact(hO p hp).mono fun s h=>by omega
  ·rw[fK];refine⟨hSd,?_,fun p hp q hq=>V9 hA (hS p hp).inq (hO q hq).inq fun s e1 e2=>by omega⟩;rw[fK];refine⟨?_,hHd,fun p hp q hq=>?_⟩
   ·rw[fK];exact⟨hVd,hBd,fun p hp q hq=>V9 hA (hV p hp).inq (hB q hq).inq fun s e1 e2=>by omega⟩
   ·rcases bP.1 hp with hp|hp
    ·exact V9 hA (hV p hp).inq (hH q hq).inq fun s e1 e2=>by omega
    ·exact V9 hA (hB p hp).inq (hH q hq).inq fun s e1 e2=>by omega
omit hT in
theorem aT4 (f:Nat) (ds:List (jR f)) {a b:Nat} (h:a≤b):noT f ds a≤noT f ds b:=by
 have:=IL f (ds.take b) a;unfold noT at this ⊢;rw[List.take_take,jC h]at this;omega
end
section
variable {f:Nat} {o:Int} {ds:List (jR f)} {L:List rQ} (h:tY f o ds L=0) (hb:∀d∈ds,BJ f d)
include h hb
theorem aHT {k:Nat} (hk:k<ds.length):(∀p∈FL L (jX f ds) o f (ds.getD k (lY f)) (noT f ds k) (nA L k),OC (jX f ds) (fun s=>noT f ds k≤s.2.1∧s.2.1<noT f ds (k+1)) p)∧(FL L (jX f ds) o f (ds.getD k (lY f)) (noT f ds k) (nA L k)).Pairwise Dj:=by
 have hO:=a3M h hb;obtain⟨h1,h2,h3,h4,h5,h6⟩:=FI h;rw[JX f ds hk];exact a3R (FJ h5) h2 f _ _ _ (vQ h5 hk) (hO.dir k hk) (a3L hk)
omit hb in
theorem XV {k:Nat} (hk:k<ds.length):∃s∈jX f ds,LB s=(2,noT f ds k,0)∧s.2.2.2.1=oV (jX f ds) 2 (noT f ds k) 0∧s.2.2.2.2=6+12*((a08 f (ds.getD k (lY f)):Nat):Int)∧0≤s.2.2.2.1∧s.2.2.2.1+s.2.2.2.2≤mM (jX f ds):=by
 obtain⟨h1,h2,h3,h4,h5,h6⟩:=FI h;have hx:=a3L hk _ (aDJ (vQ h5 hk) (noT f ds k));obtain⟨s,g1,g2,g3,g4,_,g5,_,g6⟩:=PL (FJ h5) hx;simp only at g3 g4 g6;exact⟨s,g1,g2,g4,g3,g5,by rw[g3];exact g6⟩
omit hb in
theorem aDR {k:Nat} (hb:∀d∈ds,BJ f d) (hk:k<ds.length) {p:Pt} (hp:p∈nextQ (jX f ds) o f ds k):k+1<ds.length∧p.2.length=4∧∃s∈jX f ds,LB s=(2,noT f ds k,0)∧(p.1:Int)=s.2.2.2.1+s.2.2.2.2 - 4:=by
 unfold nextQ at hp;split at hp
 ·rename_i hk1;obtain rfl:p=_:=by simpa using hp
  have hO:=a3M h hb;obtain⟨s,g1,g2,g3,g4,g5,g6⟩:=XV h hk;have AU:=hO.pk (k+1) hk1;refine⟨hk1,by unfold wY;rw[xK AU];rfl,s,g1,g2,?_⟩;unfold wY;show(((oV (jX f ds) 2 (noT f ds k) 0+2+12*((a08 f (ds.getD k (lY f)):Nat):Int)).toNat:Nat):Int)=_
  omega
 ·cases hp
theorem aO3:(∀p∈chQ L (jX f ds) o f ds ds.length,InQ (jX f ds) (fun s=>0≤s.2.1) p)∧(chQ L (jX f ds) o f ds ds.length).Pairwise Dj:=by
 have hA:=SG f ds;have hN:∀k,k<ds.length→∀p∈nextQ (jX f ds) o f ds k,InQ (jX f ds) (fun s=>s.2.1=noT f ds k) p:=fun k hk p hp=>by
  obtain⟨_,h4,s,g1,g2,g3⟩:=aDR h hb hk hp;obtain⟨t,i1,i2,i3,i4,i5,_⟩:=XV h hk;have vI:s=t:=aKL (XM f ds (FJ (FI h).2.2.2.2.1)) g1 i1 (g2.trans i2.symm);subst vI;exact⟨s,g1,(SN g2).2.1,by omega,by omega⟩
 have hD:=fun k (hk:k<ds.length)=>aHT h hb hk;have yK:∀k,k<ds.length→∀p∈FL L (jX f ds) o f (ds.getD k (lY f)) (noT f ds k) (nA L k)++nextQ (jX f ds) o f ds k,InQ (jX f ds) (fun s=>noT f ds k≤s.2.1∧s.2.1<noT f ds (k+1)) p:=fun k hk p hp=>by
  rcases bP.1 hp with hp|hp
  ·exact((hD k hk).1 p hp).inq
  ·refine(hN k hk p hp).mono fun s hs=>?_;have h1:=JX f ds hk;have h2:0<(kQ f (ds.getD k (lY f))).length:=by
    have hh:=vQ (FI h).2.2.2.2.1 hk;cases f with
    |zero=>exact absurd hh (by simp[nJ])
    |succ f=>rw[vO];simp
   omega
 constructor
 ·intro p hp;obtain⟨k,hk,hp⟩:=gZ.1 hp;refine(yK k (dF.1 hk) p hp).mono fun s hs=>?_;have:=IL f ds k;omega
 ·unfold chQ;rw[List.pairwise_flatMap];refine⟨fun k hk=>?_,iK ?_ List.pairwise_lt_range⟩
  ·have hk:=dF.1 hk;rw[fK];refine⟨(hD k hk).2,by unfold nextQ;split <;> simp,fun p hp q hq=>?_⟩;obtain⟨s,s1,s2,s3,s4⟩:=(hD k hk).1 p hp;obtain⟨_,h4,t,t1,t2,t3⟩:=aDR h hb hk hq;by_cases e:s=t
   ·subst e;rw[if_pos (SN t2).1]at s4;refine .inl ?_;omega
   ·refine V9 hA (Q:=fun x=>x=s) (R:=fun x=>x=t) ⟨s,s1,rfl,s3,by split at s4 <;> omega⟩ ?_ fun x e1 e2=>e (e1.symm.trans e2);obtain⟨t',u1,u2,u3,u4⟩:=hN k hk q hq;obtain⟨v,i1,i2,i3,i4,i5,_⟩:=XV h hk;have vI:t=v:=aKL (XM f ds (FJ (FI h).2.2.2.2.1)) t1 i1 (t2.trans i2.symm);subst vI;exact⟨t,t1,rfl,by omega,by omega⟩
  ·intro a b ha jT hab p hp q hq;refine V9 hA (yK a (dF.1 ha) p hp) (yK b (dF.1 jT) q hq) fun s e1 e2=>?_;have:=aT4 f ds (show a+1≤b by omega);omega
omit h hb in
theorem bGH:∃s∈jX f ds,s.2.1= -1∧s.2.2.2.1=0∧s.2.2.2.2=8:=⟨(1, -1,0,0,8),by rw[(H8 f ds).1];exact dB ..,rfl,rfl,rfl⟩
omit h hb in
theorem aO4:(CP o).length=2:=by unfold CP;split <;> rfl
theorem aDS:(a8H f o ds L).Pairwise Dj∧∀p∈a8H f o ds L,InQ (jX f ds) (fun _=>True) p:=by
 have hA:=SG f ds;obtain⟨c1,c2⟩:=aO3 h hb;obtain⟨s,s1,s2,s3,s4⟩:=bGH (f:=f) (ds:=ds);have ho:=(FI h).2.1;have p42:(kZ 42 2 o).length=2:=xK (n:=42) (s:=2) ((lU ho).2 aH);have p8:(kZ 8 4 o).length=4:=xK (n:=8) (s:=4) ((lU ho).2 aH);have sg:=aO4 (o:=o);have q1:InQ (jX f ds) (fun s=>s.2.1= -1) (0,CP o):=⟨s,s1,s2,by rw[s3];exact iY _,by rw[s3,s4];show((0:Nat):Int)+(CP o).length≤_;omega⟩;have q2:InQ (jX f ds) (fun s=>s.2.1= -1) (2,kZ 42 2 o):=⟨s,s1,s2,by rw[s3];show(0:Int)≤(2:Nat);omega,by rw[s3,s4];show((2:Nat):Int)+(kZ 42 2 o).length≤_;omega⟩;have q3:InQ (jX f ds) (fun s=>s.2.1= -1) (4,kZ 8 4 o):=⟨s,s1,s2,by rw[s3];show(0:Int)≤(4:Nat);omega,by rw[s3,s4];show((4:Nat):Int)+(kZ 8 4 o).length≤_;omega⟩;have hx:∀p,InQ (jX f ds) (fun s=>s.2.1= -1) p→∀q∈chQ L (jX f ds) o f ds ds.length,Dj p q:=fun p hp q hq=>V9 hA hp (c1 q hq) fun s e1 e2=>by omega
 constructor
 ·unfold a8H;refine iC ?_ (iC ?_ (iC ?_ c2))
  ·intro p hp;rcases cB.1 hp with rfl|hp
   ·exact .inl (by show 0+(CP o).length≤2;omega)
   rcases cB.1 hp with rfl|hp
   ·exact .inl (by show 0+(CP o).length≤4;omega)
   ·exact hx _ q1 p hp
  ·intro p hp;rcases cB.1 hp with rfl|hp
   ·exact .inl (by show 2+(kZ 42 2 o).length≤4;omega)
   ·exact hx _ q2 p hp
  ·exact fun p hp=>hx _ q3 p hp
 ·intro p hp;rcases cB.1 hp with rfl|hp
  ·exact q1.mono fun _ _=>trivial
  rcases cB.1 hp with rfl|hp
  ·exact q2.mono fun _ _=>trivial
  rcases cB.1 hp with rfl|hp
  ·exact q3.mono fun _ _=>trivial
  ·exact(c1 p hp).mono fun _ _=>trivial
theorem aO5:InB (nS f ds).toNat (a8H f o ds L):=fun p hp=>by
 obtain⟨s,s1,_,s2,s3⟩:=(aDS h hb).2 p hp;have h1:=(aKI (FI h).2.2.2.2.2).2.1;rw[(H8 f ds).1]at s1;have h2:=P9 (GK f ds) 0 (iY _) (a0O f ds) s s1;rw[←(H8 f ds).2]at h2;omega
theorem b7P:oV (jX f ds) 2 (noT f ds 0) 0=8:=by
 obtain⟨h1,h2,h3,h4,h5,h6⟩:=FI h;obtain⟨d,r,rfl⟩:∃d r,ds=d::r:=by
  cases ds with
  |nil=>exact absurd rfl h3
  |cons d r=>exact⟨d,r,rfl⟩
 cases f with
 |zero=>have:=vQ h5 (k:=0) (by simp);simp[nJ]at this
 |succ f=>
  rw[(H8 (f+1) (d::r)).1];rfl
theorem aKM:a3G f o ds L=tO (a8H f o ds L) (List.replicate (nS f ds).toNat 0):=by
 have hO:=a3M h hb;obtain⟨h1,h2,h3,h4,h5,h6⟩:=FI h;have hp:=aZJ (L:=L) (o:=o) h3 hO.dir;have e0:wY (jX f ds) o f ds 0=(4,kZ 8 4 o):=by
  unfold wY;rw[b7P h hb];rfl
 rw[e0]at hp;have hl:(List.replicate (nS f ds).toNat (0:Int)).length=(nS f ds).toNat:=by simp
 have hsg:∀r,tO (VG o++r) (List.replicate (nS f ds).toNat 0)=tO ((0,CP o)::r) (List.replicate (nS f ds).toNat 0):=fun r=>by
  rw[l6,F6];congr 1
  rcases h2 with rfl|rfl
  ·have h8:=hO.n8;show splice (splice _ 0 [77,77]) 0 [73,73]=splice _ 0 [73,73]
   have hr:(List.replicate (nS f ds).toNat (0:Int)).length=(nS f ds).toNat:=by simp
   have g1:0+([77,77]:List Int).length≤(List.replicate (nS f ds).toNat (0:Int)).length:=by rw[hr];show 0+2≤_;omega
   have e1:=sQ g1;have g2:0+([73,73]:List Int).length≤(splice (List.replicate (nS f ds).toNat (0:Int)) 0 [77,77]).length:=by rw[e1,hr];show 0+2≤_;omega
   have g3:0+([73,73]:List Int).length≤(List.replicate (nS f ds).toNat (0:Int)).length:=by rw[hr];show 0+2≤_;omega
   refine a7T (by rw[sQ g2,sQ g3,e1]) fun k hk=>?_;rw[wW g2,wW g1,wW g3];by_cases hk2:k<2
   ·rw[if_pos ⟨Nat.zero_le _,by show k<0+2;omega⟩];rw[if_pos ⟨Nat.zero_le _,by show k<0+2;omega⟩]
   ·rw[if_neg (by intro h;have:k<0+2:=h.2;omega)];rw[if_neg (by intro h;have:k<0+2:=h.2;omega)];rw[if_neg (by intro h;have:k<0+2:=h.2;omega)]
  ·rfl
 unfold a3G aSR;rw[hsg];have hpm:((0,CP o)::(2,kZ 42 2 o)::chW L (jX f ds) o f ds ds.length).Perm (a8H f o ds L):=(hp.cons _).cons _;refine aRN hpm _ ?_ ?_
 ·intro p hp;rw[hl];exact aO5 h hb p (hpm.mem_iff.1 hp)
 ·exact(hpm.pairwise_iff (fun {_ _} h=>Dj.symm h)).2 (aDS h hb).1
end
theorem XY {d:Int} {ts:List rM} (h:pK d ts=true):(∀x∈ts,vV x.1=true∧MF d x.1=false∧ZW x=true)∧Pw ts:=by
 unfold pK at h;simp only[bV]at h;refine⟨fun x hx=>?_,?_⟩
 ·have:=dQ.1 h.1.1.1 x hx;unfold ER DJ at this;simp only[bV,eB,decide_eq_true_eq]at this;obtain⟨⟨⟨⟨⟨⟨_,_⟩,h3⟩,h4⟩,h5⟩,h6⟩,_⟩:=this;refine⟨?_,h5,h6⟩;unfold vV;rw[decide_eq_true h3,decide_eq_true (show x.1<65536 by omega)];rfl
 ·exact LH (fun(x:Tg)=>x.1) (0,0,0, []) ts fun k hk=>KU.1 h.1.1.2 k hk
theorem b7Q {d t:Int} (h:MF d t=false):∀u,MF d u=true→t≠u:=fun u hu e=>by rw[e,hu]at h;cases h
theorem LP {x:wP} (h:nH x=0):(x.o=1∨x.o=2)∧pK 0 x.z=true∧pK 1 x.f=true∧pK 2 x.p=true∧pK 3 x.g=true∧pK 4 x.i=true∧x.mr.length≤65536∧0<a8F x:=by
 unfold nH at h;split at h
 ·rename_i h1;split at h
  ·rename_i h2;split at h
   ·rename_i h3;unfold zW at h2;simp only[bV]at h2;exact⟨h1,h2.1.1.1.1,h2.1.1.1.2,h2.1.1.2,h2.1.2,h2.2,h3⟩
   ·cases h
  ·cases h
 ·cases h
theorem aZL {b:List Int} (h1:0<b.length) (h2:b.length≤65536):ZW (O7 b)=true:=by
 have hk:(kU 7).1=1:=by decide+kernel
 show vH 7 (b.length:Int) b=true
 unfold vH;rw[hk];simp;omega
theorem b7R {ts:List rM} (h:Pw ts) (x:rM):Pw (zG ts x):=(aG5 h x (b:=(C9 ts x.1).1) (v:=(C9 ts x.1).2) rfl).pw
theorem aZM {ts:List rM} (h:Pw ts) (x:rM):(zG ts x).length≤ts.length+1:=by
 have k:=aG5 h x (b:=(C9 ts x.1).1) (v:=(C9 ts x.1).2) rfl;cases hb:(C9 ts x.1).1 with
 |true=>have:=k.bDH hb;omega
 |false=>have:=k.bDI hb;omega
theorem aDT {x:wP} (h:nH x=0):(∀t∈qV x,vV t.1=true∧t.1≠40965∧ZW t=true)∧Pw (qV x)∧(qV x).length≤x.p.length+1∧(x.p.length≤(qV x).length)∧(0<x.mr.length→0<(qV x).length):=by
 obtain⟨h1,h2,h3,h4,h5,h6,h7,h8⟩:=LP h;obtain⟨r1,r2⟩:=XY h4;have ro:∀t∈x.p,vV t.1=true∧t.1≠40965∧ZW t=true:=fun t ht=>⟨(r1 t ht).1,b7Q (r1 t ht).2.1 40965 (by decide+kernel),(r1 t ht).2.2⟩;unfold qV;split
 ·rename_i hm;refine⟨fun t ht=>?_,b7R r2 _,aZM r2 _,?_,fun _=>?_⟩
  ·rcases mem_set ht with rfl|ht
   ·exact⟨rfl,by show(37500:Int)≠40965;decide,aZL hm h7⟩
   ·exact ro t ht
  ·have k:=aG5 r2 (O7 x.mr) (b:=(C9 x.p (O7 x.mr).1).1) (v:=(C9 x.p (O7 x.mr).1).2) rfl;cases hb:(C9 x.p (O7 x.mr).1).1 with
   |true=>have:=k.bDH hb;omega
   |false=>have:=k.bDI hb;omega
  ·exact List.length_pos_of_mem (aK2 (ts:=x.p) (x:=O7 x.mr))
 ·rename_i hm;exact⟨ro,r2,by omega,aZ _,fun h=>absurd h hm⟩
structure IQ (x:wP):Prop where
 z:x.z.length≤400
 p:x.p.length≤400
 g:x.g.length≤400
 i:x.i.length≤400
 f:x.f.length≤400
 mr:x.mr.length≤100000
 th:x.th.length≤100000
structure aDU (x:wP):Prop where
 z:∀t∈x.z,tV t.2.2.2
 p:∀t∈x.p,tV t.2.2.2
 g:∀t∈x.g,tV t.2.2.2
 i:∀t∈x.i,tV t.2.2.2
 f:∀t∈x.f,tV t.2.2.2
 mr:tV x.mr
 th:tV x.th
theorem XZ (x:wP):(qI x).length=if 0<x.i.length then 1 else 0:=by unfold qI;split <;> rfl
theorem a3S {x:wP} {s:Int×jR 15} (h:s∈rJ x++wX x):(s=(34665,sF x)∧VJ x=true)∨(s=(34853,tC 14 x.g)∧0<x.g.length):=by
 rcases bP.1 h with h|h
 ·unfold rJ at h;split at h
  ·rename_i hp;exact .inl ⟨dL.1 h,hp⟩
  ·cases h
 ·unfold wX at h;split at h
  ·rename_i hp;exact .inr ⟨dL.1 h,hp⟩
  ·cases h
theorem a3T (x:wP):(rJ x++wX x).length=(if VJ x=true then 1 else 0)+(if 0<x.g.length then 1 else 0):=by
 unfold rJ wX;split <;> split <;> rfl
theorem OD {x:wP} (h:nH x=0) (hs:IQ x):(∀d∈mI x,lN 16 d)∧(lK 16 (mI x)).length≤5:=by
 obtain⟨q1,q2,q3,q4,q5⟩:=aDT h;obtain⟨hz,hp,hg,hi,hf,hm,ht⟩:=hs;have si:lN 14 (tC 13 x.i):=⟨by show x.i.length≤500;omega,by show 0≤1000000;omega,by show 0≤500;omega,fun s hs=>by cases hs⟩;have sg:lN 15 (tC 14 x.g):=⟨by show x.g.length≤500;omega,by show 0≤1000000;omega,by show 0≤500;omega,fun s hs=>by cases hs⟩;have sp:lN 15 (sF x):=by
  have hl:=XZ x;refine⟨by show(qV x).length≤500;omega,by show 0≤1000000;omega,by show(qI x).length≤500;rw[hl];split <;> omega,fun s hs=>?_⟩;have hs:s∈qI x:=hs;unfold qI at hs;split at hs
  ·rw[dL.1 hs];exact si
  ·cases hs
 have sz:lN 16 (yD x):=by
  have hl:=a3T x;refine⟨by show x.z.length≤500;omega,by show 0≤1000000;omega,by show(rJ x++wX x).length≤500;rw[hl];split <;> split <;> omega,fun s hs=>?_⟩;rcases a3S hs with ⟨e,_⟩|⟨e,_⟩
  ·rw[e];exact sp
  ·rw[e];exact sg
 have sf:lN 16 (LJ x):=⟨by show x.f.length≤500;omega,by show x.th.length≤1000000;omega,by show 0≤500;omega,fun s hs=>by cases hs⟩;have fi:(kQ 14 (tC 13 x.i)).length=1:=rfl;have fg:(kQ 15 (tC 14 x.g)).length=1:=rfl;have ff:(kQ 16 (LJ x)).length=1:=rfl;have fp:(kQ 15 (sF x)).length≤2:=by
  have e:kQ 15 (sF x)=(qV x,(qI x).length, [])::(qI x).flatMap fun s=>kQ 14 s.2:=rfl;rw[e,dP];unfold qI;split
  ·simp[fi]
  ·simp
 have fz:(kQ 16 (yD x)).length≤4:=by
  have e:kQ 16 (yD x)=(x.z,(rJ x++wX x).length, [])::(rJ x++wX x).flatMap fun s=>kQ 15 s.2:=rfl;rw[e,dP,dJ,cO];have h1:((rJ x).flatMap fun s=>kQ 15 s.2).length≤2:=by
   unfold rJ;split
   ·simpa using fp
   ·simp
  have h2:((wX x).flatMap fun s=>kQ 15 s.2).length≤1:=by
   unfold wX;split
   ·simp[fg]
   ·simp
  omega
 unfold mI;split
 ·refine⟨fun d hd=>?_,?_⟩
  ·rcases cB.1 hd with rfl|hd
   ·exact sz
   ·rw[dL.1 hd];exact sf
  ·unfold lK;rw[fA,cO,List.flatMap_singleton,ff];omega
 ·refine⟨fun d hd=>?_,?_⟩
  ·rw[dL.1 hd];exact sz
  ·unfold lK;rw[List.flatMap_singleton];omega
theorem a8I {x:wP} (hb:aDU x):∀d∈mI x,BJ 16 d:=by
 obtain⟨hz,hp,hg,hi,hf,hm,ht⟩:=hb;have hn:tV ([]:List Int):=fun x hx=>by cases hx
 have si:BJ 14 (tC 13 x.i):=⟨hi,fun s hs=>(by cases hs),hn⟩;have sg:BJ 15 (tC 14 x.g):=⟨hg,fun s hs=>(by cases hs),hn⟩;have sp:BJ 15 (sF x):=by
  refine⟨fun t ht=>?_,fun s hs=>?_,hn⟩
  ·have ht:t∈qV x:=ht;unfold qV at ht;split at ht
   ·rcases mem_set ht with rfl|ht
    ·exact hm
    ·exact hp t ht
   ·exact hp t ht
  ·have hs:s∈qI x:=hs;unfold qI at hs;split at hs
   ·rw[dL.1 hs];exact si
   ·cases hs
 have sz:BJ 16 (yD x):=by
  refine⟨hz,fun s hs=>?_,hn⟩;rcases a3S hs with ⟨e,_⟩|⟨e,_⟩
  ·rw[e];exact sp
  ·rw[e];exact sg
 have sf:BJ 16 (LJ x):=⟨hf,fun s hs=>(by cases hs),ht⟩;intro d hd;unfold mI at hd;rcases cB.1 hd with rfl|hd
 ·exact sz
 ·split at hd
  ·rw[dL.1 hd];exact sf
  ·cases hd
