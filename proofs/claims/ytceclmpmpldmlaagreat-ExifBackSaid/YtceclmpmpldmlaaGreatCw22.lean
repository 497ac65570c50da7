import Derived.Test.YtceclmpmpldmlaaGreatCw21
set_option linter.unusedSimpArgs false
set_option linter.unusedVariables false
namespace Go.Proofs.YtceclmpmpldmlaaGreat
open Go.RowKit Tt
def O8 (l:List mZ) (Q:mZ→Prop) (p:Pt):Prop:=∃s∈l,Q s∧s.2.2.2.1≤p.1∧(p.1:Int)+p.2.length+(if s.1=2 then 4 else 0)≤s.2.2.2.1+s.2.2.2.2
theorem O8.inq {l:List mZ} {Q:mZ→Prop} {p:Pt} (h:O8 l Q p):InQ l Q p:=by
 obtain⟨s,h1,h2,h3,h4⟩:=h;exact⟨s,h1,h2,h3,by split at h4 <;> omega⟩
theorem O8.mono {l:List mZ} {Q R:mZ→Prop} {p:Pt} (h:O8 l Q p) (hx:∀s,Q s→R s):O8 l R p:=by
 obtain⟨s,h1,h2,h3⟩:=h;exact⟨s,h1,hx s h2,h3⟩
theorem aC0 {l:List mZ} (hd:(l.map IL).Nodup) {s t:mZ} (hs:s∈l) (ht:t∈l) (h:IL s=IL t):s=t:=by
 induction l with
 |nil=>cases hs
 |cons u l ih=>
  obtain⟨h1,h2⟩:=jG.1 hd;rcases cK.1 hs with e1|xV <;> rcases cK.1 ht with e2|ht2
  ·exact e1.trans e2.symm
  ·exact absurd (dH.2 ⟨t,ht2,by rw[←h,e1]⟩) h1
  ·exact absurd (dH.2 ⟨s,xV,by rw[h,e2]⟩) h1
  ·exact ih h2 xV ht2
theorem EB {s:mZ} {a b c:Int} (h:IL s=(a,b,c)):s.1=a∧s.2.1=b∧s.2.2.1=c:=⟨congrArg (fun k=>k.1) h,congrArg (fun k=>k.2.1) h,congrArg (fun k=>k.2.2) h⟩
section
variable {F:Nat} {T:List (jY F)} (hT:∀d∈T,a5B F d)
include hT
theorem SG {x:LB} (hx:x∈E9 F T) {p:Pt} (h0:qK (kW F T) x.1 x.2.1 x.2.2.1≤p.1) (h1:(p.1:Int)+p.2.length+(if x.1=2 then 4 else 0)≤qK (kW F T) x.1 x.2.1 x.2.2.1+x.2.2.2):O8 (kW F T) (fun s=>IL s=a4M x) p:=by
 obtain⟨s,g1,g2,g3,g4,_⟩:=LM hT hx;have e1:s.1=x.1:=congrArg (fun k=>k.1) g2;exact⟨s,g1,g2,by rw[g4];exact h0,by rw[g4,g3,e1];exact h1⟩
theorem aC1 {x:LB} (hx:x∈E9 F T):0≤qK (kW F T) x.1 x.2.1 x.2.2.1:=by
 obtain⟨s,g1,g2,g3,g4,_,g5,_⟩:=LM hT hx;omega
theorem a06 {L:List nP} {o:Int} (ho:o=1∨o=2) {f:Nat} {d:jY (f+1)} {no i:Int} (hf:LP L f d i) (CY:∀x∈wJ (f+1) d no,x∈E9 F T) {x:oZ} (hx:x∈d.1) {p:Pt} (hp:p∈FT (kW F T) o no x):
  TL x o=false∧p=((qK (kW F T) 3 no x.1).toNat,mE x o)∧O8 (kW F T) (fun s=>IL s=(3,no,x.1)) p:=by
 unfold FT at hp;split at hp
 ·cases hp
 ·rename_i hi;obtain rfl:p=_:=by simpa using hp
  have TD:=hf.tg x hx;have hz:rT x.2.1 x.2.2.1≠0:=fun e=>by rw[a5D TD.2.2 ho TD.1,e]at hi;simp at hi
  have hl:=XQ TD.2.2 ho hz;have hm:((3,no,x.1,Q0 x):LB)∈E9 F T:=CY _ (by
   rw[qY];refine bL _ (bO.2 (.inl (dH.2 ⟨x,iK.2 ⟨hx,?_⟩,rfl⟩)));have:=a2V x;unfold Q0 at*;simp;omega)
  have h0:=aC1 hT hm;simp only at h0;refine⟨by simpa using hi,rfl,SG hT hm (by show qK (kW F T) 3 no x.1≤(((qK (kW F T) 3 no x.1).toNat:Nat):Int);omega) ?_⟩;show((((qK (kW F T) 3 no x.1).toNat:Nat):Int))+((mE x o).length:Nat)+(if(3:Int)=2 then 4 else 0)≤qK (kW F T) 3 no x.1+Q0 x
  rw[if_neg aH];unfold Q0;omega
theorem aJY {f:Nat} {d:jY (f+1)} {no:Int} (CY:∀x∈wJ (f+1) d no,x∈E9 F T) {p:Pt} (hp:p∈DI (kW F T) d.2.2 no):
  0<d.2.2.length∧p=((qK (kW F T) 4 no 0).toNat,d.2.2)∧O8 (kW F T) (fun s=>IL s=(4,no,0)) p:=by
 unfold DI at hp;split at hp
 ·rename_i hb;obtain rfl:p=_:=by simpa using hp
  have hm:((4,no,0,(d.2.2.length:Int)):LB)∈E9 F T:=CY _ (by
   rw[qY];refine bL _ (bO.2 (.inr (bO.2 (.inr ?_))));unfold a02;rw[if_pos hb];exact bQ ..)
  have h0:=aC1 hT hm;simp only at h0;refine⟨hb,rfl,SG hT hm (by show qK (kW F T) 4 no 0≤(((qK (kW F T) 4 no 0).toNat:Nat):Int);omega) ?_⟩;show((((qK (kW F T) 4 no 0).toNat:Nat):Int))+(d.2.2.length:Nat)+(if(4:Int)=2 then 4 else 0)≤qK (kW F T) 4 no 0+(d.2.2.length:Nat)
  rw[if_neg aH];omega
 ·cases hp
omit hT in
theorem Y0 {x:oJ} {o:Int} (h:JZ x o=true):(JO x o).length=12:=by
 unfold JZ at h;simp only[bK]at h;obtain⟨⟨⟨h0,h1⟩,h2⟩,h3⟩:=h;unfold JO;simp only[cO,nZ h0,nZ h1,nZ h2,nZ h3];rfl
omit hT in
theorem aC2 {es:List oJ} {x:oJ} (h:x∈es):wK es x<es.length:=by
 obtain⟨k,hk,rfl⟩:=zH h TM;exact aQG hk
def LU (l:List mZ) (o no:Int) (es:List oJ):List Pt:=((qK l 2 no 0).toNat,lQ (es.length:Nat) 2 o)::es.map (aFG (qK l 2 no 0).toNat o es)
omit hT in
theorem aC3 (f:Nat) (l:List mZ) (o no:Int) (s:nP) (d:jY (f+1)):aQF f l o no s d=d.1.flatMap (FT l o no)++DI l d.2.2 no++LU l o no (o9 f l o no s d):=by
 unfold aQF LU;rw[aN5]
theorem aJZ {f:Nat} {d:jY (f+1)} {no o:Int} (ho:o=1∨o=2) (CY:∀x∈wJ (f+1) d no,x∈E9 F T) {es:List oJ} (hn:es.length=pU d.1.length d.2.1.length d.2.2.length) (h2:es.length≤65535) (hk:∀x∈es,JZ x o=true) {p:Pt} (hp:p∈LU (kW F T) o no es):
  O8 (kW F T) (fun s=>IL s=(2,no,0)) p:=by
 have hm:((2,no,0,6+12*((pU d.1.length d.2.1.length d.2.2.length:Nat):Int)):LB)∈E9 F T:=CY _ (by rw[qY];exact bQ ..);have h0:=aC1 hT hm;simp only at h0;have CZ:mH (es.length:Nat) 2 o=true:=(lV ho).2 (by rw[show wS 2=65536 by decide];omega);unfold LU at hp;rcases cK.1 hp with rfl|hp
 ·refine SG hT hm (by show qK (kW F T) 2 no 0≤(((qK (kW F T) 2 no 0).toNat:Nat):Int);omega) ?_;show((((qK (kW F T) 2 no 0).toNat:Nat):Int))+((lQ (es.length:Nat) 2 o).length:Nat)+(if(2:Int)=2 then 4 else 0)≤qK (kW F T) 2 no 0+(6+12*((pU d.1.length d.2.1.length d.2.2.length:Nat):Int))
  rw[nZ CZ,if_pos rfl,show(2:Int).toNat=2 from rfl];omega
 ·obtain⟨x,hx,rfl⟩:=dH.1 hp;have ha:=aC2 hx;have he:=Y0 (hk x hx);refine SG hT hm (by show qK (kW F T) 2 no 0≤(((qK (kW F T) 2 no 0).toNat+2+12*wK es x:Nat):Int);omega) ?_;show(((qK (kW F T) 2 no 0).toNat+2+12*wK es x:Nat):Int)+((JO x o).length:Nat)+(if(2:Int)=2 then 4 else 0)≤qK (kW F T) 2 no 0+(6+12*((pU d.1.length d.2.1.length d.2.2.length:Nat):Int))
  rw[he,if_pos rfl];omega
omit hT in
theorem aVD {l:List mZ} {o no:Int} (ho:o=1∨o=2) {es:List oJ} (h2:es.length≤65535) (hk:∀x∈es,JZ x o=true) (hd:es.Pairwise fun x y=>x.1≠y.1):(LU l o no es).Pairwise Dj:=by
 have CZ:mH (es.length:Nat) 2 o=true:=(lV ho).2 (by rw[show wS 2=65536 by decide];omega);unfold LU;refine gN ?_ ?_
 ·intro p hp;obtain⟨x,hx,rfl⟩:=dH.1 hp;refine .inl ?_;show(qK l 2 no 0).toNat+(lQ (es.length:Nat) 2 o).length≤(qK l 2 no 0).toNat+2+12*wK es x
  rw[nZ CZ,show(2:Int).toNat=2 from rfl];omega
 ·rw[iX];refine j4 ?_ hd;intro a b ha hb hab;have e1:=Y0 (hk a ha);have e2:=Y0 (hk b hb);show(qK l 2 no 0).toNat+2+12*wK es a+(JO a o).length≤(qK l 2 no 0).toNat+2+12*wK es b∨(qK l 2 no 0).toNat+2+12*wK es b+(JO b o).length≤(qK l 2 no 0).toNat+2+12*wK es a
  rw[e1,e2];rcases Int.lt_or_lt_of_ne hab with h|h
  ·have:=aFF ha h;omega
  ·have:=aFF hb h;omega
omit hT in
theorem aQH (f:Nat) (ss:List (Int×jY f)) (no:Int) {a b:Nat} (h:a≤b):rX f ss no a≤rX f ss no b:=by
 have:=xA f (ss.take b) a;rw[jA,iJ h]at this;unfold rX;omega
omit hT in
theorem aFI {f:Nat} {rec:jY f→Int→Int→List Pt} {s:nP} {ss:List (Int×jY f)} {no:Int} {n:Nat} {p:Pt} (h:p∈MU rec s ss no n):∃j,j<n∧p∈rec (ss.getD j (0,kS f)).2 (rX f ss no j) (vG s (ss.getD j (0,kS f)).1):=by
 obtain⟨j,hj,hp⟩:=eH.1 h;exact⟨j,cZ.1 hj,hp⟩
omit hT in
theorem a5I {f:Nat} {d:jY (f+1)} {no:Int} {j:Nat} (hj:j<d.2.1.length):∀x∈wJ f (d.2.1.getD j (0,kS f)).2 (rX f d.2.1 no j),x∈wJ (f+1) d no:=fun x hx=>by
 rw[qY];exact bL _ (bO.2 (.inr (bO.2 (.inl (SB hj _ hx)))))
theorem a5J {L:List nP} {n:Nat} {o:Int} (ho:o=1∨o=2):∀(f:Nat) (d:jY f) (no i:Int),nN L f d i=true→okW L (kW F T) n o f d no i→(∀x∈wJ f d no,x∈E9 F T)→
  (∀p∈O7 L (kW F T) o f d no i,O8 (kW F T) (fun s=>no≤s.2.1∧s.2.1<no+(lD f d).length) p)∧(O7 L (kW F T) o f d no i).Pairwise Dj
 |0,_,_,_,_,_,_=>⟨fun p hp=>(by cases hp),gJ⟩
 |f+1,d,no,i,hh,hw,CY=>by
  have hA:=IY F T;have hf:=rD.1 hh;obtain⟨k1,k2,k3,k4,k5,k6,k7,k8,k9⟩:=XG hw;have hel:=S9 f (kW F T) o no (L.getD i.toNat kQ) d;have hfl:(lD (f+1) d).length=(mD f d.2.1).length+1:=by rw[pK];rfl
  have hV:∀p∈d.1.flatMap (FT (kW F T) o no),O8 (kW F T) (fun s=>s.1=3∧s.2.1=no) p:=fun p hp=>by
   obtain⟨x,hx,hp⟩:=eH.1 hp;exact(a06 hT ho hf CY hx hp).2.2.mono fun s h=>by have:=EB h;exact⟨this.1,this.2.1⟩
  have hVd:(d.1.flatMap (FT (kW F T) o no)).Pairwise Dj:=by
   rw[List.pairwise_flatMap];refine⟨fun x _=>by unfold FT;split <;> simp,j4 ?_ hf.rt⟩;intro a b ha hb hab p hp q hq;refine X8 hA (a06 hT ho hf CY ha hp).2.2.inq (a06 hT ho hf CY hb hq).2.2.inq fun s e1 e2=>?_;have h1:=(EB e1).2.2;have h2:=(EB e2).2.2;omega
  have hB:∀p∈DI (kW F T) d.2.2 no,O8 (kW F T) (fun s=>s.1=4∧s.2.1=no) p:=fun p hp=>
   (aJY hT CY hp).2.2.mono fun s h=>by have:=EB h;exact⟨this.1,this.2.1⟩
  have hBd:(DI (kW F T) d.2.2 no).Pairwise Dj:=by unfold DI;split <;> simp
  have hH:∀p∈LU (kW F T) o no (o9 f (kW F T) o no (L.getD i.toNat kQ) d),O8 (kW F T) (fun s=>s.1=2∧s.2.1=no) p:=fun p hp=>
   (aJZ hT ho CY hel k6 k9 hp).mono fun s h=>by have:=EB h;exact⟨this.1,this.2.1⟩
  have hHd:=aVD (l:=kW F T) (no:=no) ho k6 k9 k8;have a0X:∀j,j<d.2.1.length→(∀p∈O7 L (kW F T) o f (d.2.1.getD j (0,kS f)).2 (rX f d.2.1 no j) (vG (L.getD i.toNat kQ) (d.2.1.getD j (0,kS f)).1),O8 (kW F T) (fun s=>rX f d.2.1 no j≤s.2.1∧s.2.1<rX f d.2.1 no (j+1)) p)∧(O7 L (kW F T) o f (d.2.1.getD j (0,kS f)).2 (rX f d.2.1 no j) (vG (L.getD i.toNat kQ) (d.2.1.getD j (0,kS f)).1)).Pairwise Dj:=fun j hj=>by
   have:=a5J ho f _ _ _ (hf.sb j hj).2 (k2 j hj).2 fun x hx=>CY x (a5I hj x hx);rw[←RZ f d.2.1 no hj]at this;exact this
  have hS:∀p∈MU (O7 L (kW F T) o f) (L.getD i.toNat kQ) d.2.1 no d.2.1.length,O8 (kW F T) (fun s=>no+1≤s.2.1∧s.2.1<no+1+(mD f d.2.1).length) p:=fun p hp=>by
   obtain⟨j,hj,hp⟩:=aFI hp;refine((a0X j hj).1 p hp).mono fun s hs=>?_;have h1:=K5 f d.2.1 no j;have h2:=K5 f d.2.1 no (j+1);omega
  have hSd:(MU (O7 L (kW F T) o f) (L.getD i.toNat kQ) d.2.1 no d.2.1.length).Pairwise Dj:=by
   unfold MU;rw[List.pairwise_flatMap];refine⟨fun j hj=>(a0X j (cZ.1 hj)).2,j4 ?_ List.pairwise_lt_range⟩;intro a b ha hb hab p hp q hq;refine X8 hA ((a0X a (cZ.1 ha)).1 p hp).inq ((a0X b (cZ.1 hb)).1 q hq).inq fun s e1 e2=>?_;have:=aQH f d.2.1 no (show a+1≤b by omega);omega
  rw[LQ,aC3];have hO:∀p∈d.1.flatMap (FT (kW F T) o no)++DI (kW F T) d.2.2 no++LU (kW F T) o no (o9 f (kW F T) o no (L.getD i.toNat kQ) d),O8 (kW F T) (fun s=>s.2.1=no) p:=fun p hp=>by
   rcases bO.1 hp with hp|hp
   ·rcases bO.1 hp with hp|hp
    ·exact(hV p hp).mono fun s h=>h.2
    ·exact(hB p hp).mono fun s h=>h.2
   ·exact(hH p hp).mono fun s h=>h.2
  refine⟨fun p hp=>?_,?_⟩
  ·rcases bO.1 hp with hp|hp
   ·exact(hS p hp).mono fun s h=>by omega
   ·exact(hO p hp).mono fun s h=>by omega
  ·rw[fU];refine⟨hSd,?_,fun p hp q hq=>X8 hA (hS p hp).inq (hO q hq).inq fun s e1 e2=>by omega⟩;rw[fU];refine⟨?_,hHd,fun p hp q hq=>?_⟩
   ·rw[fU];exact⟨hVd,hBd,fun p hp q hq=>X8 hA (hV p hp).inq (hB q hq).inq fun s e1 e2=>by omega⟩
   ·rcases bO.1 hp with hp|hp
    ·exact X8 hA (hV p hp).inq (hH q hq).inq fun s e1 e2=>by omega
    ·exact X8 hA (hB p hp).inq (hH q hq).inq fun s e1 e2=>by omega
omit hT in
theorem Y5 (f:Nat) (ds:List (jY f)) {a b:Nat} (h:a≤b):noT f ds a≤noT f ds b:=by
 have:=PZ f (ds.take b) a;unfold noT at this ⊢;rw[jA,iJ h]at this;omega
end
section
variable {f:Nat} {o:Int} {ds:List (jY f)} {L:List nP} (h:oD f o ds L=0) (hb:∀d∈ds,tJ f d)
include h hb
theorem a5K {k:Nat} (hk:k<ds.length):(∀p∈O7 L (kW f ds) o f (ds.getD k (kS f)) (noT f ds k) (o8 L k),O8 (kW f ds) (fun s=>noT f ds k≤s.2.1∧s.2.1<noT f ds (k+1)) p)∧(O7 L (kW f ds) o f (ds.getD k (kS f)) (noT f ds k) (o8 L k)).Pairwise Dj:=by
 have hO:=Q6 h hb;obtain⟨h1,h2,h3,h4,h5,h6⟩:=sF h;rw[IX f ds hk];exact a5J (yE h5) h2 f _ _ _ (tK h5 hk) (hO.dir k hk) (Q5 hk)
omit hb in
theorem HZ {k:Nat} (hk:k<ds.length):∃s∈kW f ds,IL s=(2,noT f ds k,0)∧s.2.2.2.1=qK (kW f ds) 2 (noT f ds k) 0∧s.2.2.2.2=6+12*((a2E f (ds.getD k (kS f)):Nat):Int)∧0≤s.2.2.2.1∧s.2.2.2.1+s.2.2.2.2≤nI (kW f ds):=by
 obtain⟨h1,h2,h3,h4,h5,h6⟩:=sF h;have hx:=Q5 hk _ (XY (tK h5 hk) (noT f ds k));obtain⟨s,g1,g2,g3,g4,_,g5,_,g6⟩:=LM (yE h5) hx;simp only at g3 g4 g6;exact⟨s,g1,g2,g4,g3,g5,by rw[g3];exact g6⟩
omit hb in
theorem a5L {k:Nat} (hb:∀d∈ds,tJ f d) (hk:k<ds.length) {p:Pt} (hp:p∈nextQ (kW f ds) o f ds k):k+1<ds.length∧p.2.length=4∧∃s∈kW f ds,IL s=(2,noT f ds k,0)∧(p.1:Int)=s.2.2.2.1+s.2.2.2.2 - 4:=by
 unfold nextQ at hp;split at hp
 ·rename_i hk1;obtain rfl:p=_:=by simpa using hp
  have hO:=Q6 h hb;obtain⟨s,g1,g2,g3,g4,g5,g6⟩:=HZ h hk;have CZ:=hO.pk (k+1) hk1;refine⟨hk1,by unfold yF;rw[nZ CZ];rfl,s,g1,g2,?_⟩;unfold yF;show(((qK (kW f ds) 2 (noT f ds k) 0+2+12*((a2E f (ds.getD k (kS f)):Nat):Int)).toNat:Nat):Int)=_
  omega
 ·cases hp
theorem aQI:(∀p∈chQ L (kW f ds) o f ds ds.length,InQ (kW f ds) (fun s=>0≤s.2.1) p)∧(chQ L (kW f ds) o f ds ds.length).Pairwise Dj:=by
 have hA:=IY f ds;have hN:∀k,k<ds.length→∀p∈nextQ (kW f ds) o f ds k,InQ (kW f ds) (fun s=>s.2.1=noT f ds k) p:=fun k hk p hp=>by
  obtain⟨_,h4,s,g1,g2,g3⟩:=a5L h hb hk hp;obtain⟨t,i1,i2,i3,i4,i5,_⟩:=HZ h hk;have zN:s=t:=aC0 (LK f ds (yE (sF h).2.2.2.2.1)) g1 i1 (g2.trans i2.symm);subst zN;exact⟨s,g1,(EB g2).2.1,by omega,by omega⟩
 have hD:=fun k (hk:k<ds.length)=>a5K h hb hk;have rE:∀k,k<ds.length→∀p∈O7 L (kW f ds) o f (ds.getD k (kS f)) (noT f ds k) (o8 L k)++nextQ (kW f ds) o f ds k,InQ (kW f ds) (fun s=>noT f ds k≤s.2.1∧s.2.1<noT f ds (k+1)) p:=fun k hk p hp=>by
  rcases bO.1 hp with hp|hp
  ·exact((hD k hk).1 p hp).inq
  ·refine(hN k hk p hp).mono fun s hs=>?_;have h1:=IX f ds hk;have h2:0<(lD f (ds.getD k (kS f))).length:=by
    have hh:=tK (sF h).2.2.2.2.1 hk;cases f with
    |zero=>exact absurd hh (by simp[nN])
    |succ f=>rw[pK];simp
   omega
 constructor
 ·intro p hp;obtain⟨k,hk,hp⟩:=eH.1 hp;refine(rE k (cZ.1 hk) p hp).mono fun s hs=>?_;have:=PZ f ds k;omega
 ·unfold chQ;rw[List.pairwise_flatMap];refine⟨fun k hk=>?_,j4 ?_ List.pairwise_lt_range⟩
  ·have hk:=cZ.1 hk;rw[fU];refine⟨(hD k hk).2,by unfold nextQ;split <;> simp,fun p hp q hq=>?_⟩;obtain⟨s,s1,s2,s3,s4⟩:=(hD k hk).1 p hp;obtain⟨_,h4,t,t1,t2,t3⟩:=a5L h hb hk hq;by_cases e:s=t
   ·subst e;rw[if_pos (EB t2).1]at s4;refine .inl ?_;omega
   ·refine X8 hA (Q:=fun x=>x=s) (R:=fun x=>x=t) ⟨s,s1,rfl,s3,by split at s4 <;> omega⟩ ?_ fun x e1 e2=>e (e1.symm.trans e2);obtain⟨t',u1,u2,u3,u4⟩:=hN k hk q hq;obtain⟨v,i1,i2,i3,i4,i5,_⟩:=HZ h hk;have zN:t=v:=aC0 (LK f ds (yE (sF h).2.2.2.2.1)) t1 i1 (t2.trans i2.symm);subst zN;exact⟨t,t1,rfl,by omega,by omega⟩
  ·intro a b ha kP hab p hp q hq;refine X8 hA (rE a (cZ.1 ha) p hp) (rE b (cZ.1 kP) q hq) fun s e1 e2=>?_;have:=Y5 f ds (show a+1≤b by omega);omega
omit h hb in
theorem aVE:∃s∈kW f ds,s.2.1= -1∧s.2.2.2.1=0∧s.2.2.2.2=8:=⟨(1, -1,0,0,8),by rw[(BR f ds).1];exact bQ ..,rfl,rfl,rfl⟩
omit h hb in
theorem I4:(G8 o).length=2:=by unfold G8;split <;> rfl
theorem Y6:(QA f o ds L).Pairwise Dj∧∀p∈QA f o ds L,InQ (kW f ds) (fun _=>True) p:=by
 have hA:=IY f ds;obtain⟨c1,c2⟩:=aQI h hb;obtain⟨s,s1,s2,s3,s4⟩:=aVE (f:=f) (ds:=ds);have ho:=(sF h).2.1;have p42:(lQ 42 2 o).length=2:=nZ (n:=42) (s:=2) ((lV ho).2 aH);have p8:(lQ 8 4 o).length=4:=nZ (n:=8) (s:=4) ((lV ho).2 aH);have sg:=I4 (o:=o);have q1:InQ (kW f ds) (fun s=>s.2.1= -1) (0,G8 o):=⟨s,s1,s2,by rw[s3];exact gX _,by rw[s3,s4];show((0:Nat):Int)+(G8 o).length≤_;omega⟩;have q2:InQ (kW f ds) (fun s=>s.2.1= -1) (2,lQ 42 2 o):=⟨s,s1,s2,by rw[s3];show(0:Int)≤(2:Nat);omega,by rw[s3,s4];show((2:Nat):Int)+(lQ 42 2 o).length≤_;omega⟩;have q3:InQ (kW f ds) (fun s=>s.2.1= -1) (4,lQ 8 4 o):=⟨s,s1,s2,by rw[s3];show(0:Int)≤(4:Nat);omega,by rw[s3,s4];show((4:Nat):Int)+(lQ 8 4 o).length≤_;omega⟩;have hx:∀p,InQ (kW f ds) (fun s=>s.2.1= -1) p→∀q∈chQ L (kW f ds) o f ds ds.length,Dj p q:=fun p hp q hq=>X8 hA hp (c1 q hq) fun s e1 e2=>by omega
 constructor
 ·unfold QA;refine gN ?_ (gN ?_ (gN ?_ c2))
  ·intro p hp;rcases cK.1 hp with rfl|hp
   ·exact .inl (by show 0+(G8 o).length≤2;omega)
   rcases cK.1 hp with rfl|hp
   ·exact .inl (by show 0+(G8 o).length≤4;omega)
   ·exact hx _ q1 p hp
  ·intro p hp;rcases cK.1 hp with rfl|hp
   ·exact .inl (by show 2+(lQ 42 2 o).length≤4;omega)
   ·exact hx _ q2 p hp
  ·exact fun p hp=>hx _ q3 p hp
 ·intro p hp;rcases cK.1 hp with rfl|hp
  ·exact q1.mono fun _ _=>trivial
  rcases cK.1 hp with rfl|hp
  ·exact q2.mono fun _ _=>trivial
  rcases cK.1 hp with rfl|hp
  ·exact q3.mono fun _ _=>trivial
  ·exact(c1 p hp).mono fun _ _=>trivial
theorem LV:InB (oU f ds).toNat (QA f o ds L):=fun p hp=>by
 obtain⟨s,s1,_,s2,s3⟩:=(Y6 h hb).2 p hp;have h1:=(XV (sF h).2.2.2.2.2).2.1;rw[(BR f ds).1]at s1;have h2:=LC (E9 f ds) 0 (gX _) (SC f ds) s s1;rw[←(BR f ds).2]at h2;omega
theorem aVF:qK (kW f ds) 2 (noT f ds 0) 0=8:=by
 obtain⟨h1,h2,h3,h4,h5,h6⟩:=sF h;obtain⟨d,r,rfl⟩:∃d r,ds=d::r:=by
  cases ds with
  |nil=>exact absurd rfl h3
  |cons d r=>exact⟨d,r,rfl⟩
 cases f with
 |zero=>have:=tK h5 (k:=0) (by simp);simp[nN]at this
 |succ f=>
  rw[(BR (f+1) (d::r)).1];rfl
theorem Y7:yD f o ds L=FL (QA f o ds L) (List.replicate (oU f ds).toNat 0):=by
 have hO:=Q6 h hb;obtain⟨h1,h2,h3,h4,h5,h6⟩:=sF h;have hp:=b47 (L:=L) (o:=o) h3 hO.dir;have e0:yF (kW f ds) o f ds 0=(4,lQ 8 4 o):=by
  unfold yF;rw[aVF h hb];rfl
 rw[e0]at hp;have hl:(List.replicate (oU f ds).toNat (0:Int)).length=(oU f ds).toNat:=by simp
 have hsg:∀r,FL (XO o++r) (List.replicate (oU f ds).toNat 0)=FL ((0,G8 o)::r) (List.replicate (oU f ds).toNat 0):=fun r=>by
  rw[qG,yC];congr 1
  rcases h2 with rfl|rfl
  ·have h8:=hO.n8;show splice (splice _ 0 [77,77]) 0 [73,73]=splice _ 0 [73,73]
   have hr:(List.replicate (oU f ds).toNat (0:Int)).length=(oU f ds).toNat:=by simp
   have g1:0+([77,77]:List Int).length≤(List.replicate (oU f ds).toNat (0:Int)).length:=by rw[hr];show 0+2≤_;omega
   have e1:=qH g1;have g2:0+([73,73]:List Int).length≤(splice (List.replicate (oU f ds).toNat (0:Int)) 0 [77,77]).length:=by rw[e1,hr];show 0+2≤_;omega
   have g3:0+([73,73]:List Int).length≤(List.replicate (oU f ds).toNat (0:Int)).length:=by rw[hr];show 0+2≤_;omega
   refine H7 (by rw[qH g2,qH g3,e1]) fun k hk=>?_;rw[sU g2,sU g1,sU g3];by_cases hk2:k<2
   ·rw[if_pos ⟨jU _,by show k<0+2;omega⟩];rw[if_pos ⟨jU _,by show k<0+2;omega⟩]
   ·rw[if_neg (by intro h;have:k<0+2:=h.2;omega)];rw[if_neg (by intro h;have:k<0+2:=h.2;omega)];rw[if_neg (by intro h;have:k<0+2:=h.2;omega)]
  ·rfl
 unfold yD aV6;rw[hsg];have hpm:((0,G8 o)::(2,lQ 42 2 o)::chW L (kW f ds) o f ds ds.length).Perm (QA f o ds L):=(hp.cons _).cons _;refine aU0 hpm _ ?_ ?_
 ·intro p hp;rw[hl];exact LV h hb p (hpm.mem_iff.1 hp)
 ·exact(hpm.pairwise_iff (fun {_ _} h=>Dj.symm h)).2 (Y6 h hb).1
theorem a9S:(yD f o ds L).length=(oU f ds).toNat:=by
 rw[Y7 h hb,aBG _ _ (by simp only[List.length_replicate];exact LV h hb)];simp
theorem aQJ {p:Pt} (hp:p∈QA f o ds L):((yD f o ds L).drop p.1).take p.2.length=p.2:=by
 rw[Y7 h hb];exact b3D (by simp only[List.length_replicate];exact LV h hb) (Y6 h hb).1 hp
end
def Std (z:List Int) (ps:List Pt):Prop:=∀p∈ps,p.1+p.2.length≤z.length∧(z.drop p.1).take p.2.length=p.2
def aN6 (z:List Int) (L:List nP) (l:List mZ) (o:Int):(f:Nat)→jY f→Int→Int→Int→Prop
 |0,_,_,_,_=>False
 |f+1,d,no,i,nx=>Std z (aQF f l o no (L.getD i.toNat kQ) d)∧mM z (qK l 2 no 0+2+12*((pU d.1.length d.2.1.length d.2.2.length:Nat):Int)) 4 o=nx∧
   ∀j,j<d.2.1.length→aN6 z L l o f (d.2.1.getD j (0,kS f)).2 (rX f d.2.1 no j) (vG (L.getD i.toNat kQ) (d.2.1.getD j (0,kS f)).1) 0
def Lo (l:List mZ):Prop:=0≤nI l∧∀s∈l,s.2.2.2.1+s.2.2.2.2≤nI l
theorem Lo.add {l:List mZ} (h:Lo l) {a b c e:Int} (he:0≤e):Lo (oH l a b c e):=by
 obtain⟨h1,h2⟩:=h;have hv:=BN h1;refine⟨by rw[PK];omega,fun s hs=>?_⟩;rw[PK];unfold oH at hs;rcases bO.1 hs with hs|hs
 ·have:=h2 s hs;omega
 ·obtain rfl:s=_:=by simpa using hs
  exact gX _
theorem Lo.push:∀(is:List LB) {l:List mZ},Lo l→(∀x∈is,0≤x.2.2.2)→Lo (is.foldl NQ l)
 | [],_,h,_=>h
 |x::is,l,h,hx=>Lo.push is (Lo.add h (hx x (bQ ..))) fun y hy=>hx y (bL _ hy)
theorem b48 {f:Nat} {d:jY f} {no:Int}:∀x∈wJ f d no,0≤x.2.2.2:=fun x hx=>(K6 f d no x hx).2.2.1
theorem Lo.lay {l:List mZ} (h:Lo l) (f:Nat) (d:jY f) (no:Int):Lo (yX f d no l):=by
 rw[XP];exact Lo.push _ h b48
theorem Lo.vals {l:List mZ} (h:Lo l) (ts:List oZ) (no:Int):Lo (nK no ts l):=by
 rw[SA];refine Lo.push _ h fun x hx=>?_;obtain⟨t,_,rfl⟩:=dH.1 hx;exact a2V t
theorem aFJ (is:List LB) (l:List mZ):l<+:is.foldl NQ l:=by
 rw[(a4L is l).1];exact List.prefix_append ..
theorem b49 (f:Nat) (d:jY f) (no:Int) (l:List mZ):l<+:yX f d no l:=by rw[XP];exact aFJ _ _
theorem aFK (no:Int) (ts:List oZ) (l:List mZ):l<+:nK no ts l:=by rw[SA];exact aFJ _ _
theorem b4A (l:List mZ) (a b c e:Int):l<+:oH l a b c e:=List.prefix_append ..
theorem a5M (f:Nat):∀(ss:List (Int×jY f)) (r:List mZ×Int),r.1<+:(l9 f ss r).1
 | [],_=>List.prefix_refl _
 |s::ss,r=>by
  rw[yN];exact(b49 f s.2 r.2 r.1).trans (a5M f ss (yX f s.2 r.2 r.1,r.2+(lD f s.2).length))
theorem aFL (f:Nat) (ss:List (Int×jY f)) (r:List mZ×Int) (i:Nat):l9 f ss r=l9 f (ss.drop i) (l9 f (ss.take i) r):=by
 conv=>lhs;rw[←fA i ss]
 unfold l9;rw[fT]
theorem U6 (f:Nat) (ss:List (Int×jY f)) (r:List mZ×Int) (i:Nat):(l9 f (ss.take i) r).1<+:(l9 f ss r).1:=by
 rw[aFL f ss r i];exact a5M f _ _
theorem a2X (f:Nat):∀(ss:List (Int×jY f)) (r:List mZ×Int),Lo r.1→Lo (l9 f ss r).1
 | [],_,h=>h
 |s::ss,r,h=>by
  rw[yN];exact a2X f ss _ (h.lay f s.2 r.2)
theorem aC4 (f:Nat):∀(ss:List (Int×jY f)) (r:List mZ×Int),(l9 f ss r).2=r.2+(mD f ss).length
 | [],r=>by simp[l9,mD]
 |s::ss,r=>by
  rw[yN,aC4 f ss];unfold mD;rw[eF,cO];show r.2+(lD f s.2).length+_=_
  omega
theorem aFM {n:Nat} {l0:List mZ} {no so a b c e:Int} (hl:Lo l0) (h0:0≤e) (he:qQ (nI l0)+e≤n):oG n (a,b,c,qQ (nI l0),e) ⟨l0,no,so⟩= .ok ⟨oH l0 a b c e,no,so⟩:=by
 have hv:=BN hl.1;have h2:qQ (nI l0) % 2=0:=by unfold qQ;omega
 unfold oG;have hf:WX n (a,b,c,qQ (nI l0),e)=true:=by
  unfold WX zZ;have:=hl.1;simp only[bK,decide_eq_true_eq];exact⟨h2,⟨⟨by omega,h0⟩,by omega⟩,by omega⟩
 have hfr:WW ⟨l0,no,so⟩ (qQ (nI l0)) e.toNat=true:=by
  unfold WW;rw[dI];intro i hi;unfold nH;simp only[dW];rw[List.any_eq_false];intro s hs;have:=hl.2 s hs;unfold ZT;simp only[bK,decide_eq_true_eq,not_and];intro _;omega
 rw[if_pos hf,if_pos hfr];rfl
theorem zV {α σ:Type} (step:σ→α→Except Int σ) (x:α) (r:List α) (s:σ):loopS step (x::r) s=match step s x with
  | .error e=> .error e
  | .ok s'=>loopS step r s':=rfl
section
variable {l:List mZ} {z:List Int} {o:Int} (hk:(l.map IL).Nodup) (hz:∀s∈l,s.2.2.2.1+s.2.2.2.2≤z.length)
include hk
theorem aVG {l0:List mZ} {a b c e:Int} (hp:oH l0 a b c e<+:l):(a,b,c,qQ (nI l0),e)∈l∧qK l a b c=qQ (nI l0):=by
 have hm:(a,b,c,qQ (nI l0),e)∈l:=hp.subset (by unfold oH;exact bO.2 (.inr (dK.2 rfl)));exact⟨hm,(aMY hk hm).2⟩
include hz
theorem take_at {l0:List mZ} {no so a b c e:Int} (hl:Lo l0) (h0:0≤e) (hp:oH l0 a b c e<+:l):oG z.length (a,b,c,qK l a b c,e) ⟨l0,no,so⟩= .ok ⟨oH l0 a b c e,no,so⟩:=by
 obtain⟨h1,h2⟩:=aVG hk hp;rw[h2];exact aFM hl h0 (by have:=hz _ h1;exact this)
def aFN (z:List Int) (o no:Int) (acc:List oZ×St) (x:oJ):Except Int (List oZ×St):=match rY z o x no acc.2 with
 | .error e=> .error e
 | .ok (v,s')=> .ok (acc.1++ [v],s')
theorem aK0 (ho:o=1∨o=2) {x:oZ} {no n2:Int} {l0:List mZ} (hx:DY x.1=true∧WA x=true) (hb:pF x.2.2.2) (hS:Std z (FT l o no x)) (hl:Lo l0) (hp:nK no [x] l0<+:l):
  rY z o (PO l o no x) no ⟨l0,n2,0⟩= .ok (x,⟨nK no [x] l0,n2,0⟩):=by
 have hm:=aBZ hx.2 ho;have hi:=a5D hx.2 ho hx.1;have e1:(0<(lI x.2.1).1∧1≤x.2.2.1∧x.2.2.1≤65536):=⟨by have:=hm.s1;omega,hm.k1,hm.k2⟩;unfold rY;have aDA:PO l o no x=(x.1,x.2.1,x.2.2.1,if TL x o=true then mM (AU (mE x o)) 0 4 o else qK l 3 no x.1):=rfl;rw[aDA];simp only;rw[if_pos e1];by_cases h0:rT x.2.1 x.2.2.1=0
 ·rw[h0,decide_eq_true rfl]at hi;have hv:nK no [x] l0=l0:=by unfold nK;simp[h0]
  rw[h0,if_neg aH,hi,if_pos rfl,aV9 hb hx.2 ho hi,hv];rfl
 ·have hl2:=XQ hx.2 ho h0;rw[decide_eq_false h0]at hi;have a7W:0<rT x.2.1 x.2.2.1:=by omega
  have hv:nK no [x] l0=oH l0 3 no x.1 (rT x.2.1 x.2.2.1):=by unfold nK;simp[a7W]
  rw[hv]at hp ⊢;rw[if_pos a7W,hi,if_neg aH,take_at hk hz hl aG hp];have zN:=hS ((qK l 3 no x.1).toNat,mE x o) (by unfold FT;rw[hi];simp);simp only;rw[aFC hx.2 ho zN.2]
theorem a9T (ho:o=1∨o=2) {no n2:Int}:∀(ts:List oZ) (acc:List oZ) (l0:List mZ),(∀x∈ts,DY x.1=true∧WA x=true)→(∀x∈ts,pF x.2.2.2)→Std z (ts.flatMap (FT l o no))→Lo l0→nK no ts l0<+:l→
  loopS (aFN z o no) (ts.map (PO l o no)) (acc,⟨l0,n2,0⟩)= .ok (acc++ts,⟨nK no ts l0,n2,0⟩)
 | [],acc,l0,_,_,_,_,_=>by simp[loopS,nK]
 |x::ts,acc,l0,h1,h2,h3,h4,h5=>by
  have hv:nK no (x::ts) l0=nK no ts (nK no [x] l0):=rfl;rw[hv]at h5 ⊢;have hx:=aK0 hk hz ho (n2:=n2) (h1 x (bQ ..)) (h2 x (bQ ..)) (fun p hp=>h3 p (by rw[eF];exact bO.2 (.inl hp))) h4 ((aFK no ts _).trans h5);rw[aW,zV];have hs:aFN z o no (acc,⟨l0,n2,0⟩) (PO l o no x)= .ok (acc++ [x],⟨nK no [x] l0,n2,0⟩):=by
   unfold aFN;simp only;rw[hx]
  rw[hs];simp only;rw[a9T ho ts (acc++ [x]) _ (fun y hy=>h1 y (bL _ hy)) (fun y hy=>h2 y (bL _ hy)) (fun p hp=>h3 p (by rw[eF];exact bO.2 (.inr hp))) (h4.vals [x] no) h5,dJ];rfl
end
theorem QB {α σ:Type} {step step':σ→α→Except Int σ} {p:α→Bool} (h1:∀s x,p x=true→step s x=step' s x):∀(l:List α) (s:σ),(∀x∈l,p x=false→∀s,step s x= .ok s)→loopS step l s=loopS step' (l.filter p) s
 | [],_,_=>rfl
 |x::l,s,h2=>by
  have ih:=fun s=>QB h1 l s fun y hy=>h2 y (bL _ hy);rw[zV];cases hp:p x with
  |true=>
   rw[gV hp,h1 s x hp,zV];cases step' s x with
   |error e=>rfl
   |ok s'=>exact ih s'
  |false=>
   rw[gW (by simp[hp]),h2 x (bQ ..) hp s];exact ih s
theorem aFO {α σ:Type} {step:σ→α→Except Int σ}:∀(a b:List α) (s s':σ),loopS step a s= .ok s'→loopS step (a++b) s=loopS step b s'
 | [],b,s,s',h=>by
  unfold loopS at h;injection h with h;rw[h];rfl
 |x::a,b,s,s',h=>by
  rw[jD];rw[zV]at h ⊢;cases hx:step s x with
  |error e=>rw[hx]at h;cases h
  |ok s1=>
   rw[hx]at h;exact aFO a b s1 s' h
theorem QC {es ys:List oJ} {p:oJ→Bool} (hd:es.Pairwise fun x y=>x.1≠y.1) (hp:es.filter p=ys) (hs:ys.Pairwise fun x y=>x.1<y.1):(sortE es).filter p=ys:=by
 have h1:((sortE es).filter p).Perm ys:=by rw[←hp];exact(zU es).filter p
 refine List.Perm.eq_of_pairwise (le:=fun x y=>x.1<y.1) (fun a b _ _ h1 h2=>by omega) ((XZ hd).filter _) hs h1
theorem a2Y {z:List Int} {p n a m:Nat} (h:(z.drop p).take n=(z.drop p).take n) (hm:a+m≤n):(z.drop (p+a)).take m=(((z.drop p).take n).drop a).take m:=by
 rw[List.drop_take,jA,List.drop_drop,iJ aG]
theorem aK1 {z:List Int} {p:Nat} {x:oJ} {o:Int} (ho:o=1∨o=2) (hk:JZ x o=true) (hl:p+12≤z.length) (h:(z.drop p).take 12=JO x o):WT z o p=x:=by
 unfold JZ at hk;simp only[bK]at hk;obtain⟨⟨⟨k0,k1⟩,k2⟩,k3⟩:=hk;have l0:(lQ x.1 2 o).length=2:=nZ k0;have l1:(lQ x.2.1 2 o).length=2:=nZ k1;have l2:(lQ x.2.2.1 4 o).length=4:=nZ k2;have l3:(lQ x.2.2.2 4 o).length=4:=nZ k3;have e0:(z.drop (p+0)).take 2=lQ x.1 2 o:=by
  rw[a2Y (n:=12) rfl aG,h];unfold JO;rw[gL,dJ,dJ,List.take_left' l0]
 have e1:(z.drop (p+2)).take 2=lQ x.2.1 2 o:=by
  rw[a2Y (n:=12) rfl aG,h];unfold JO;rw[dJ,dJ,List.drop_left' l0,List.take_left' l1]
 have e2:(z.drop (p+4)).take 4=lQ x.2.2.1 4 o:=by
  rw[a2Y (n:=12) rfl aG,h];unfold JO;rw[dJ,List.drop_left' (by rw[cO,l0,l1]),List.take_left' l2]
 have e3:(z.drop (p+8)).take 4=lQ x.2.2.2 4 o:=by
  rw[a2Y (n:=12) rfl aG,h];unfold JO;rw[List.drop_left' (by rw[cO,cO,l0,l1,l2]),bW (by rw[l3];exact aY _)]
 unfold WT;rw[F9 (s:=2) (n:=x.1) aH ho aG aG k0 (by rw[show((p:Int)).toNat=p+0 by omega];exact e0)];rw[F9 (s:=2) (n:=x.2.1) aH ho aG aG k1 (by rw[show((p:Int)+2).toNat=p+2 by omega];exact e1)];rw[F9 (s:=4) (n:=x.2.2.1) aH ho aG aG k2 (by rw[show((p:Int)+4).toNat=p+4 by omega];exact e2)];rw[F9 (s:=4) (n:=x.2.2.2) aH ho aG aG k3 (by rw[show((p:Int)+8).toNat=p+8 by omega];exact e3)]
theorem aFP:∀{es:List oJ},(es.Pairwise fun x y=>x.1<y.1)→IK es=true
 | [],_=>rfl
 | [_],_=>rfl
 |x::y::r,h=>by
  obtain⟨h1,h2⟩:=eP.1 h;unfold IK;rw[aFP h2,decide_eq_true (h1 y (bQ ..))];rfl
theorem aQK {z:List Int} {l:List mZ} {o no:Int} (ho:o=1∨o=2) {es:List oJ} (h0:0≤qK l 2 no 0) (hd:es.Pairwise fun x y=>x.1≠y.1) (hk:∀x∈es,JZ x o=true) (hS:Std z (LU l o no es)):BM z o (qK l 2 no 0) es.length=sortE es:=by
 unfold BM;refine gG (by simp[yO]) fun i h1 h2=>?_;rw[fI,List.getElem_range];have hm:(sortE es)[i]∈es:=(zU es).subset (bP h2);have ha:wK es (sortE es)[i]=i:=by
  unfold wK;rw[←((zU es).filter _).length_eq];exact MX (XZ hd) h2
 have hs:=hS (aFG (qK l 2 no 0).toNat o es (sortE es)[i]) (by unfold LU;exact bL _ (dH.2 ⟨_,hm,rfl⟩));unfold aFG at hs;rw[ha,Y0 (hk _ hm)]at hs;simp only at hs;have:=aK1 ho (hk _ hm) hs.1 hs.2;rw[←this];congr 1
 omega
def aFQ {f:Nat} (rec:Int→Int→St→Except Int ((jY f×Int)×St)) (sh:nP) (acc:List (Int×jY f)×St) (x:oJ):Except Int (List (Int×jY f)×St):=
 match rec x.2.2.2 (vG sh x.1) acc.2 with
  | .error e=> .error e
  | .ok ((d,next),s')=>if next=0 then .ok (acc.1++ [(x.1,d)],s')else .error 2
theorem aC5 {f:Nat} {rec:Int→Int→St→Except Int ((jY f×Int)×St)} {sh:nP} (es:List oJ) (acc:List (Int×jY f)×St):loopS (vF rec sh) es acc=loopS (aFQ rec sh) (es.filter fun x=>nQ sh x.1) acc:=
 QB (fun s x h=>by
  unfold vF aFQ vG;rw[if_pos h];cases rec x.2.2.2 (sh.1.getD (fst (fun y=>y.1==x.1) sh.1).toNat (0,0)).2 s.2 <;> rfl) es acc fun x _ h s=>by
  have h:nQ sh x.1=false:=h;simp[vF,h]
theorem aC6 {z:List Int} {o no:Int} {sh:nP} (es:List oJ) (acc:List oZ×St) (hx:∀x∈es,xI sh x.1=true→x.2.1=4∧x.2.2.1=1):loopS (stepT z o sh no) es acc=loopS (aFN z o no) (es.filter fun x=> !xI sh x.1) acc:=
 QB (fun s x h=>by
  have h:xI sh x.1=false:=by simpa using h
  unfold stepT aFN;rw[if_neg (by simp[h])];cases rY z o x no s.2 <;> rfl) es acc fun x hm h s=>by
  have h:xI sh x.1=true:=by simpa using h
  unfold stepT;rw[if_pos h,if_pos (hx x hm h)]
