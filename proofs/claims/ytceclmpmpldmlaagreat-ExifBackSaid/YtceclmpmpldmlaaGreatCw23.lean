import Derived.Test.YtceclmpmpldmlaaGreatCw22
set_option linter.unusedSimpArgs false
set_option linter.unusedVariables false
namespace Go.Proofs.YtceclmpmpldmlaaGreat
open Go.RowKit Tt
theorem a07 (z:List Int) (o:Int) (L:List nP) (f:Nat) (p sh:Int) (s:St):rV z o L (f+1) p sh s=
  match nU z o p s.no {s with no:=IntKind.i64.wrap (s.no+1)}with
  | .error e=> .error e
  | .ok (l,s1)=>
   match loopS (stepT z o (L.getD sh.toNat kQ) s.no) l ([],s1)with
   | .error e=> .error e
   | .ok (tags,s2)=>
    if(l.filter (fun x=> !nQ (L.getD sh.toNat kQ) x.1&&yT (L.getD sh.toNat kQ) x.1)).length=1 then .error 6 else
    match loopS (vF (rV z o L f) (L.getD sh.toNat kQ)) l ([],s2)with
    | .error e=> .error e
    | .ok (subs,s3)=>
     match zB z (L.getD sh.toNat kQ) l s.no s3 with
     | .error e=> .error e
     | .ok (blob,s4)=> .ok (((tags,subs,blob),mM z (p+2+12*l.length) 4 o),s4):=rfl
theorem b4B {n:Int} (h0:0≤n) (h1:n<9223372036854775807):IntKind.i64.wrap n=n:=by rw[bJ];omega
theorem aK2 {L:List nP} {l:List mZ} {o no:Int} {f:Nat} {d:jY (f+1)} {i:Int} (hf:LP L f d i) {n:Nat} (hs:mR n i.toNat (L.getD i.toNat kQ)=true):
  ((o9 f l o no (L.getD i.toNat kQ) d).filter (fun x=> !xI (L.getD i.toNat kQ) x.1)=d.1.map (PO l o no))∧
  ((o9 f l o no (L.getD i.toNat kQ) d).filter (fun x=>nQ (L.getD i.toNat kQ) x.1)=KM f l d.2.1 no d.2.1.length)∧
  ((o9 f l o no (L.getD i.toNat kQ) d).filter (fun x=> !nQ (L.getD i.toNat kQ) x.1&&yT (L.getD i.toNat kQ) x.1)=DF l (L.getD i.toNat kQ) d.2.2 no)∧
  (∀x∈o9 f l o no (L.getD i.toNat kQ) d,xI (L.getD i.toNat kQ) x.1=true→x.2.1=4∧x.2.2.1=1):=by
 generalize hsh:L.getD i.toNat kQ=sh at*;have hA:∀x∈d.1.map (PO l o no),xI sh x.1=false∧nQ sh x.1=false∧yT sh x.1=false:=fun x hx=>by
  obtain⟨t,ht,rfl⟩:=dH.1 hx;have h:=(hf.tg t ht).2.1;rw[hsh]at h;have h2:=h;unfold xI at h2;simp only[jM]at h2;exact⟨h,h2.1,h2.2⟩
 have hB:∀x∈KM f l d.2.1 no d.2.1.length,nQ sh x.1=true∧xI sh x.1=true∧x.2.1=4∧x.2.2.1=1:=fun x hx=>by
  unfold KM at hx;obtain⟨j,hj,rfl⟩:=dH.1 hx;have h:=(hf.sb j (cZ.1 hj)).1;rw[hsh]at h;have h2:nQ sh (aQ3 f l d.2.1 no j).1=true:=h;exact⟨h2,by unfold xI;rw[h2];rfl,rfl,rfl⟩
 have hC:∀x∈DF l sh d.2.2 no,nQ sh x.1=false∧yT sh x.1=true∧xI sh x.1=true∧x.2.1=4∧x.2.2.1=1:=fun x hx=>by
  unfold DF at hx;split at hx
  ·rename_i hb;have hp:=XR hs (by have:=hf.bl;rw[hsh]at this;rcases this with h|h;omega;exact h);have OC:∀t,yT sh t=true→nQ sh t=false:=fun t ht=>by
    cases hh:nQ sh t with
    |false=>rfl
    |true=>have:=(a05 hs hh).1;rw[ht]at this;cases this
   simp only[cK,eG,or_false]at hx;rcases hx with rfl|rfl
   ·exact⟨OC _ hp.1,hp.1,by unfold xI;rw[hp.1];simp,rfl,rfl⟩
   ·exact⟨OC _ hp.2.1,hp.2.1,by unfold xI;rw[hp.2.1];simp,rfl,rfl⟩
  ·cases hx
 have all_in:∀{p:oJ→Bool} {ys:List oJ},(∀x∈ys,p x=true)→ys.filter p=ys:=fun h=>List.filter_eq_self.2 h;have SH:∀{p:oJ→Bool} {ys:List oJ},(∀x∈ys,p x=false)→ys.filter p= []:=fun h=>List.filter_eq_nil_iff.2 fun x hx=>by rw[h x hx];decide
 unfold o9;refine⟨?_,?_,?_,?_⟩
 ·rw[eT,eT,all_in (fun x hx=>by rw[(hA x hx).1];rfl),SH (fun x hx=>by rw[(hB x hx).2.1];rfl),SH (fun x hx=>by rw[(hC x hx).2.2.1];rfl),dU,dU]
 ·rw[eT,eT,SH (fun x hx=>(hA x hx).2.1),all_in (fun x hx=>(hB x hx).1),SH (fun x hx=>(hC x hx).1),dU,fG]
 ·rw[eT,eT,SH (fun x hx=>by rw[(hA x hx).2.2,Bool.and_false]),SH (fun x hx=>by rw[(hB x hx).1];rfl),all_in (fun x hx=>by rw[(hC x hx).1,(hC x hx).2.1];rfl)];rfl
 ·intro x hx ho;rcases bO.1 hx with hx|hx
  ·rcases bO.1 hx with hx|hx
   ·rw[(hA x hx).1]at ho;cases ho
   ·exact(hB x hx).2.2
  ·exact(hC x hx).2.2.2
theorem aFR {L:List nP} {l:List mZ} {o no:Int} {f:Nat} {d:jY (f+1)} {i:Int} (hf:LP L f d i) {n:Nat} (hs:mR n i.toNat (L.getD i.toNat kQ)=true):
  ((d.1.map (PO l o no)).Pairwise fun x y=>x.1<y.1)∧((KM f l d.2.1 no d.2.1.length).Pairwise fun x y=>x.1<y.1)∧((DF l (L.getD i.toNat kQ) d.2.2 no).Pairwise fun x y=>x.1<y.1):=by
 refine⟨?_,?_,?_⟩
 ·rw[iX];exact hf.rt
 ·have h:((KM f l d.2.1 no d.2.1.length).map (·.1)).Pairwise (·< ·):=by
   rw[aFE,iX];exact hf.rs
  rw[iX]at h;exact h
 ·unfold DF;split
  ·rename_i hb;have hp:=XR hs (by rcases hf.bl with h|h;omega;exact h);refine gN (fun x hx=>?_) (gN (fun x hx=>by cases hx) gJ);obtain rfl:x=_:=by simpa using hx
   exact hp.2.2.2.1
  ·exact gJ
section
variable {l:List mZ} {z:List Int} {o:Int} (hk:(l.map IL).Nodup) (hz:∀s∈l,s.2.2.2.1+s.2.2.2.2≤z.length) (ho:o=1∨o=2)
include hk hz ho
omit hk hz ho in
theorem aQL {L:List nP} {f:Nat} {sh:nP} {ss:List (Int×jY f)} {no:Int} {l1:List mZ} (hl:Lo l1) (h0:0≤no)
  (a0X:∀j,j<ss.length→∀l0,Lo l0→yX f (ss.getD j (0,kS f)).2 (rX f ss no j) l0<+:l→rV z o L f (qK l 2 (rX f ss no j) 0) (vG sh (ss.getD j (0,kS f)).1) ⟨l0,rX f ss no j,0⟩= .ok (((ss.getD j (0,kS f)).2,0),⟨yX f (ss.getD j (0,kS f)).2 (rX f ss no j) l0,rX f ss no (j+1),0⟩))
  (hp:(l9 f ss (l1,no+1)).1<+:l):∀j,j≤ss.length→loopS (aFQ (rV z o L f) sh) (KM f l ss no j) ([],⟨l1,no+1,0⟩)= .ok (ss.take j,⟨(l9 f (ss.take j) (l1,no+1)).1,rX f ss no j,0⟩):=by
 intro j;induction j with
 |zero=>intro _;simp[KM,loopS,l9,rX,mD]
 |succ j ih=>
  intro hj;have hj:j<ss.length:=by omega
  have hi:=ih aG;rw[a9M,aFO _ _ _ _ hi,zV];have zN:=GQ f ss (l1,no+1) hj;have hn:(l9 f (ss.take j) (l1,no+1)).2=rX f ss no j:=by rw[aC4];unfold rX;rfl
  rw[hn]at zN;have hg:ss.getD j (0,kS f)=ss[j]:=kF hj _;have hr:=a0X j hj _ (a2X f (ss.take j) (l1,no+1) hl) (by
   have h1:(l9 f (ss.take (j+1)) (l1,no+1)).1<+:l:=(U6 f ss (l1,no+1) (j+1)).trans hp;rw[zN]at h1;rw[hg];exact h1)
  have hs:aFQ (rV z o L f) sh (ss.take j,⟨(l9 f (ss.take j) (l1,no+1)).1,rX f ss no j,0⟩) (aQ3 f l ss no j)= .ok (ss.take (j+1),⟨(l9 f (ss.take (j+1)) (l1,no+1)).1,rX f ss no (j+1),0⟩):=by
   unfold aFQ aQ3;simp only;rw[hr];simp only;rw[if_pos trivial,zN,dR,bH hj,fK,hg]
  rw[hs];rfl
theorem a9U {L:List nP} (hL:mW L=true) {N:Nat}:∀(f:Nat) (d:jY f) (no i nx:Int) (l0:List mZ),0≤i→i<L.length→nN L f d i=true→tJ f d→okW L l N o f d no i→aN6 z L l o f d no i nx→Lo l0→yX f d no l0<+:l→0≤no→no+(lD f d).length<9223372036854775807→
  rV z o L f (qK l 2 no 0) i ⟨l0,no,0⟩= .ok ((d,nx),⟨yX f d no l0,no+(lD f d).length,0⟩)
 |0,_,_,_,_,_,_,_,hh,_,_,_,_,_,_,_=>absurd hh (by simp[nN])
 |f+1,d,no,i,nx,l0,AY,hi1,hh,qL,hw,hbk,hl,hp,hn0,hn1=>by
  have hf:=rD.1 hh;have hs:=AA hL (i:=i.toNat) aG;obtain⟨k1,k2,k3,k4,k5,k6,k7,k8,k9⟩:=XG hw;obtain⟨hS,KE,vV⟩:=hbk;have hel:=S9 f l o no (L.getD i.toNat kQ) d;have hfl:(lD (f+1) d).length=(mD f d.2.1).length+1:=by rw[pK];rfl
  obtain⟨e1,e2,e3,e4⟩:=aK2 (l:=l) (o:=o) (no:=no) hf hs;obtain⟨s1,s2,s3⟩:=aFR (l:=l) (o:=o) (no:=no) hf hs;rw[aC3]at hS;have hSH:Std z (LU l o no (o9 f l o no (L.getD i.toNat kQ) d)):=fun p hp=>hS p (bO.2 (.inr hp));have hSV:Std z (d.1.flatMap (FT l o no)):=fun p hp=>hS p (bO.2 (.inl (bO.2 (.inl hp))));have hSB:Std z (DI l d.2.2 no):=fun p hp=>hS p (bO.2 (.inl (bO.2 (.inr hp))));rw[L8]at hp ⊢;-- the steps of what is laid
  obtain⟨la,hla⟩:∃x,oH l0 2 no 0 (6+12*(pU d.1.length d.2.1.length d.2.2.length:Nat))=x:=⟨_,rfl⟩;obtain⟨lb,hlb⟩:∃x,nK no d.1 la=x:=⟨_,rfl⟩;have bL8:d.2.1.foldl (fun(r:List mZ×Int) s=>(yX f s.2 r.2 r.1,r.2+(lD f s.2).length)) (lb,no+1)=l9 f d.2.1 (lb,no+1):=rfl;simp only[hla,hlb,bL8]at hp ⊢;obtain⟨lc,hlc⟩:∃x,(l9 f d.2.1 (lb,no+1)).1=x:=⟨_,rfl⟩;rw[hlc]at hp ⊢;have hpc:lc<+:l:=by
   split at hp
   ·exact(b4A ..).trans hp
   ·exact hp
  have hpb:lb<+:l:=by rw[←hlc]at hpc;exact(a5M f d.2.1 (lb,no+1)).trans hpc
  have hpa:la<+:l:=by rw[←hlb]at hpb;exact(aFK no d.1 la).trans hpb
  have hLa:Lo la:=by rw[←hla];exact hl.add aG
  have hLb:Lo lb:=by rw[←hlb];exact hLa.vals d.1 no
  have hLc:Lo lc:=by rw[←hlc];exact a2X f d.2.1 (lb,no+1) hLb
  have SX:=aVG hk (l0:=l0) (a:=2) (b:=no) (c:=0) (e:=6+12*(pU d.1.length d.2.1.length d.2.2.length:Nat)) (by rw[hla];exact hpa);have bWD:=hz _ SX.1;simp only at bWD;have hev:=BN hl.1;have hq0:0≤qK l 2 no 0:=by rw[SX.2];have:=hl.1;omega
  have c1H:mM z (qK l 2 no 0) 2 o=(pU d.1.length d.2.1.length d.2.2.length:Nat):=by
   have h:=hSH ((qK l 2 no 0).toNat,lQ ((o9 f l o no (L.getD i.toNat kQ) d).length:Nat) 2 o) (by unfold LU;exact bQ ..);have CZ:mH ((o9 f l o no (L.getD i.toNat kQ) d).length:Nat) 2 o=true:=(lV ho).2 (by rw[show wS 2=65536 by decide];omega);rw[hel]at h CZ;have hl2:(lQ ((pU d.1.length d.2.1.length d.2.2.length:Nat):Int) 2 o).length=2:=nZ CZ;simp only[hl2]at h;exact F9 aH ho hq0 aG CZ h.2
  have bL9:BM z o (qK l 2 no 0) (pU d.1.length d.2.1.length d.2.2.length)=sortE (o9 f l o no (L.getD i.toNat kQ) d):=by
   rw[←hel];exact aQK ho hq0 k8 k9 hSH
  have hE:nU z o (qK l 2 no 0) no ⟨l0,IntKind.i64.wrap (no+1),0⟩= .ok (sortE (o9 f l o no (L.getD i.toNat kQ) d),⟨la,no+1,0⟩):=by
   unfold nU;have hc:(decide (qK l 2 no 0 % 2=0)&&zZ (qK l 2 no 0) 2 z.length)=true:=by
    unfold zZ;simp only[bK,decide_eq_true_eq];refine⟨by rw[SX.2];unfold qQ;omega,⟨⟨by omega,by decide⟩,by omega⟩,by omega⟩
   rw[if_pos hc,c1H,if_pos (by have:=hf.e1;omega),take_at hk hz hl aG (by rw[hla];exact hpa),cB,bL9];simp only;rw[if_pos (aFP (XZ k8)),hla,b4B aG aG]
  have hT:loopS (stepT z o (L.getD i.toNat kQ) no) (sortE (o9 f l o no (L.getD i.toNat kQ) d)) ([],⟨la,no+1,0⟩)= .ok (d.1,⟨lb,no+1,0⟩):=by
   rw[aC6 _ _ (fun x hx=>e4 x ((zU _).subset hx)),QC k8 e1 s1,a9T hk hz ho d.1 [] la (fun x hx=>⟨(hf.tg x hx).1,(hf.tg x hx).2.2⟩) qL.1 hSV hLa (by rw[hlb];exact hpb),hlb];rfl
  have hD:loopS (vF (rV z o L f) (L.getD i.toNat kQ)) (sortE (o9 f l o no (L.getD i.toNat kQ) d)) ([],⟨lb,no+1,0⟩)= .ok (d.2.1,⟨lc,no+(lD (f+1) d).length,0⟩):=by
   rw[aC5,QC k8 e2 s2];have hr:=aQL (o:=o) (z:=z) (l:=l) (L:=L) (sh:=L.getD i.toNat kQ) (ss:=d.2.1) (no:=no) hLb hn0 (fun j hj l2 hl2 TA=>by
    have hsi:=a2T hL (i:=i.toNat) aG (k2 j hj).1;have hsN:=RZ f d.2.1 no hj;have h1:=K5 f d.2.1 no j;have h2:=K5 f d.2.1 no (j+1);have:=a9U hL f _ (rX f d.2.1 no j) (vG (L.getD i.toNat kQ) (d.2.1.getD j (0,kS f)).1) 0 l2 aG aG (hf.sb j hj).2 (qL.2.1 _ (by rw[kF hj];exact bP hj)) (k2 j hj).2 (vV j hj) hl2 TA aG aG;rw[←hsN]at this;exact this) (by rw[hlc];exact hpc) d.2.1.length (aY _)
   rw[bW (aY _),aEV,hlc]at hr;rw[hr];congr 3
   omega
  have bLA:(sortE (o9 f l o no (L.getD i.toNat kQ) d)).length=pU d.1.length d.2.1.length d.2.2.length:=by rw[yO,hel]
  have bLB:=QC k8 e3 s3;have hB:zB z (L.getD i.toNat kQ) (sortE (o9 f l o no (L.getD i.toNat kQ) d)) no ⟨lc,no+(lD (f+1) d).length,0⟩= .ok (d.2.2,⟨if 0<d.2.2.length then oH lc 4 no 0 (d.2.2.length:Nat)else lc,no+(lD (f+1) d).length,0⟩):=by
   unfold zB;rw[bLB];unfold DF;by_cases hb:0<d.2.2.length
   ·rw[if_pos hb]at hp ⊢;have zN:=hSB ((qK l 4 no 0).toNat,d.2.2) (by unfold DI;rw[if_pos hb];exact bQ ..);simp only;rw[if_pos aG,take_at hk hz hLc aG hp];simp only;rw[cB,zN.2,if_pos hb]
   ·rw[if_neg hb]at hp ⊢;have:d.2.2= []:=List.length_eq_zero_iff.1 aG;simp only;rw[if_neg hb,this]
  have aIG:¬((sortE (o9 f l o no (L.getD i.toNat kQ) d)).filter (fun x=> !nQ (L.getD i.toNat kQ) x.1&&yT (L.getD i.toNat kQ) x.1)).length=1:=by
   rw[bLB];unfold DF;split <;> simp
  rw[a07];dsimp only
  rw[hE];simp only;rw[hT];simp only;rw[if_neg aIG,hD];simp only;rw[hB];simp only;rw[bLA,KE];rfl
end
def FU (z:List Int) (o:Int) (L:List nP) (g:Nat):Nat→List (jY g)→Int→Int→St→Except Int (List (jY g)×St)
 |0,_,_,_,_=> .error 2
 |f+1,acc,p,sh,s=>
  if 0<p∨acc.length=0 then
   if 0≤sh then
    match rV z o L g p sh s with
    | .error e=> .error e
    | .ok ((d,next),s')=>FU z o L g f (acc++ [d]) next (L.getD sh.toNat kQ).2.2.2 s'
   else .error 2
  else .ok (acc,s)
def QD (z:List Int) (L:List nP) (g:Nat):Except Int (List (jY g)×St):=
 if mW L=true then
  match EZ z with
  | .error e=> .error e
  | .ok s=>FU z (mI z) L g 18 [] (mM z 4 4 (mI z)) 0 s
 else .error 1
theorem a9V (z:List Int) (o:Int) (L:List nP):∀n acc p sh s,FU z o L 16 n acc p sh s=PI z o L n acc p sh s
 |0,_,_,_,_=>rfl
 |n+1,acc,p,sh,s=>by
  unfold FU PI;split
  ·split
   ·cases rV z o L 16 p sh s with
    |error e=>rfl
    |ok r=>
     obtain⟨⟨d,next⟩,s'⟩:=r;exact a9V z o L n _ _ _ _
   ·rfl
  ·rfl
theorem aFS (z:List Int) (L:List nP):QD z L 16=sQ z L:=by
 unfold QD sQ;split
 ·cases EZ z with
  |error e=>rfl
  |ok s=>exact a9V z _ L _ _ _ _ _
 ·rfl
theorem aVH {L:List nP} (hL:mW L=true) {n:Nat} (h:chainB L n=true):∀k,k<n→(k:Int)≤o8 L k
 |0,_=>by show(0:Int)≤0;decide
 |k+1,hk=>by
  have ih:=aVH hL h k aG;have h0:=a5G h (k:=k+1) hk;have hl:=KJ hL k;have:=a14 (AA hL (i:=(o8 L k).toNat) aG);have e:o8 L (k+1)=(L.getD (o8 L k).toNat kQ).2.2.2:=rfl;rw[e]at h0 ⊢;omega
section
variable {f:Nat} {o:Int} {ds:List (jY f)} {L:List nP} (h:oD f o ds L=0) (hb:∀d∈ds,tJ f d)
structure Holds (f:Nat) (o:Int) (ds:List (jY f)) (L:List nP) (z:List Int):Prop where
 std:Std z (QA f o ds L)
 nul:∀(m:Int) (e:Nat),((2,m,0,6+12*(e:Int)):LB)∈E9 f ds→(∀k,k+1<ds.length→noT f ds k≠m)→mM z (qK (kW f ds) 2 m 0+2+12*(e:Int)) 4 o=0
 len:nI (kW f ds)≤z.length
include h
theorem a9W:ds.length≤16∧1≤ds.length:=by
 obtain⟨h1,h2,h3,h4,h5,h6⟩:=sF h;have:=aVH h1 h4 (ds.length - 1) aG;have h7:=KJ h1 (ds.length - 1);have h8:=a11 h1;omega
theorem aVI {k:Nat} (hk:k<ds.length):0<(lD f (ds.getD k (kS f))).length:=by
 have hh:=tK (sF h).2.2.2.2.1 hk;cases f with
 |zero=>exact absurd hh (by simp[nN])
 |succ f=>rw[pK];simp
theorem bDX {a b:Nat} (hab:a<b) (hbn:b≤ds.length):noT f ds a<noT f ds b:=by
 have h1:=IX f ds (show a<ds.length by omega);have h2:=aVI h (show a<ds.length by omega);have h3:=Y5 f ds (show a+1≤b by omega);omega
include hb
theorem aFT {q:Pt} (hq:q∈QA f o ds L):(InQ (kW f ds) (fun s=>s.2.1= -1) q)∨(∃k,k<ds.length∧O8 (kW f ds) (fun s=>noT f ds k≤s.2.1∧s.2.1<noT f ds (k+1)) q)∨
  (∃k,k+1<ds.length∧∃s∈kW f ds,IL s=(2,noT f ds k,0)∧(q.1:Int)=s.2.2.2.1+s.2.2.2.2 - 4∧q.2.length=4∧s.2.2.2.1≤q.1):=by
 obtain⟨s,s1,s2,s3,s4⟩:=aVE (f:=f) (ds:=ds);have ho:=(sF h).2.1;have p42:(lQ 42 2 o).length=2:=nZ (n:=42) (s:=2) ((lV ho).2 aH);have p8:(lQ 8 4 o).length=4:=nZ (n:=8) (s:=4) ((lV ho).2 aH);have sg:=I4 (o:=o);rcases cK.1 hq with rfl|hq
 ·exact .inl ⟨s,s1,s2,by rw[s3];exact gX _,by rw[s3,s4];show((0:Nat):Int)+(G8 o).length≤_;omega⟩
 rcases cK.1 hq with rfl|hq
 ·exact .inl ⟨s,s1,s2,by rw[s3];show(0:Int)≤(2:Nat);omega,by rw[s3,s4];show((2:Nat):Int)+(lQ 42 2 o).length≤_;omega⟩
 rcases cK.1 hq with rfl|hq
 ·exact .inl ⟨s,s1,s2,by rw[s3];show(0:Int)≤(4:Nat);omega,by rw[s3,s4];show((4:Nat):Int)+(lQ 8 4 o).length≤_;omega⟩
 obtain⟨k,hk,hq⟩:=eH.1 hq;have hk:=cZ.1 hk;rcases bO.1 hq with hq|hq
 ·exact .inr (.inl ⟨k,hk,(a5K h hb hk).1 q hq⟩)
 ·obtain⟨a1,a2,t,t1,t2,t3⟩:=a5L h hb hk hq;obtain⟨v,i1,i2,i3,i4,i5,_⟩:=HZ h hk;have zN:t=v:=aC0 (LK f ds (yE (sF h).2.2.2.2.1)) t1 i1 (t2.trans i2.symm);subst zN;exact .inr (.inr ⟨k,a1,t,t1,t2,t3,a2,by omega⟩)
theorem aQM {m:Int} {s:mZ} (hs:s∈kW f ds) (hsk:IL s=(2,m,0)) (hm:0≤m) (pQ:∀k,k+1<ds.length→noT f ds k≠m) {q:Pt} (hq:q∈QA f o ds L):(q.1:Int)+q.2.length≤s.2.2.2.1+s.2.2.2.2 - 4∨s.2.2.2.1+s.2.2.2.2≤q.1∨(q.1:Int)+q.2.length≤s.2.2.2.1:=by
 have hA:=IY f ds;rcases aFT h hb hq with hp|⟨k,hk,hp⟩|⟨k,hk,t,t1,t2,t3,t4,t5⟩
 ·obtain⟨t,t1,t2,t3,t4⟩:=hp;have hn:t≠s:=fun e=>by rw[e,(EB hsk).2.1]at t2;omega
  rcases LD hA t1 hs hn with e|e <;> unfold Ahead at e <;> omega
 ·obtain⟨t,t1,t2,t3,t4⟩:=hp;by_cases e:t=s
  ·subst e;rw[if_pos (EB hsk).1]at t4;omega
  ·rcases LD hA t1 hs e with e|e <;> unfold Ahead at e <;> split at t4 <;> omega
 ·have hn:t≠s:=fun e=>by
   rw[e]at t2;have:=(EB (hsk.symm.trans t2▸t2)).2.1;have h1:=(EB hsk).2.1;have h2:=(EB t2).2.1;exact pQ k hk (h2.symm.trans h1)
  rcases LD hA t1 hs hn with e|e <;> unfold Ahead at e <;> omega
omit h hb in
theorem aQN {z:List Int} {p o:Int} (ho:o=1∨o=2) (h0:0≤p) (h1:p+4≤z.length) (hz:∀k:Nat,p≤k→(k:Int)<p+4→z.getD k 0=0):mM z p 4 o=0:=by
 have e:(z.drop p.toNat).take (4:Int).toNat= [0,0,0,0]:=by
  refine H7 (by simp;omega) fun k hk=>?_;have hk4:k<4:=by simp at hk;omega
  have h2:=hz (p.toNat+k) aG aG;simp only[aZ,dM,eY]at h2 ⊢;rw[if_pos aG,h2];rcases(by omega:k=0∨k=1∨k=2∨k=3)with rfl|rfl|rfl|rfl <;> rfl
 rw[SE aH ho h0 aG];unfold UQ;rw[e];split <;> rfl
theorem aN7 (m:Nat):Holds f o ds L (yD f o ds L++List.replicate m 0):=by
 have xM:=a9S h hb;have CY:=LV h hb;have hLo:=XV (sF h).2.2.2.2.2;have ho:=(sF h).2.1;refine⟨fun p hp=>?_,fun n e hx pQ=>?_,by rw[cO,xM];omega⟩
 ·have h1:=CY p hp;have h2:=aQJ h hb hp;refine⟨by rw[cO,xM];omega,?_⟩;rw[List.drop_append_of_le_length (by rw[xM];omega),dV (by rw[gF,xM];omega)];exact h2
 ·have bDY:=yE (sF h).2.2.2.2.1;obtain⟨s,g1,g2,g3,g4,_,g5,_,g6⟩:=LM bDY hx;simp only at g3 g4 g6;have hm:0≤n:=by
   rcases cK.1 hx with e1|hx
   ·have:=congrArg (fun k=>k.1) e1;simp at this
   ·obtain⟨j,_,hx⟩:=EA hx;have:=(K6 _ _ _ _ hx).1;simp only at this;omega
  refine aQN ho aG (by rw[cO,xM];omega) fun k hk1 hk2=>?_;have xK:k<(yD f o ds L).length:=by rw[xM];omega
  rw[aZ,fJ xK,←aZ,Y7 h hb,a2U _ _ k (by simp only[List.length_replicate];exact CY) fun q hq=>?_]
  ·rw[aZ,List.getElem?_replicate];split <;> rfl
  ·have:=aQM h hb g1 g2 hm pQ hq;intro hc;omega
omit h hb in
theorem aFU {z:List Int} (hH:Holds f o ds L z):∀(g:Nat) (d:jY g) (no i nx:Int),nN L g d i=true→(∀x∈wJ g d no,x∈E9 f ds)→(∀p∈O7 L (kW f ds) o g d no i,p∈QA f o ds L)→
  (∀m,no<m→m<no+(lD g d).length→∀k,k+1<ds.length→noT f ds k≠m)→mM z (qK (kW f ds) 2 no 0+2+12*((a2E g d:Nat):Int)) 4 o=nx→aN6 z L (kW f ds) o g d no i nx
 |0,_,_,_,_,hh,_,_,_,_=>absurd hh (by simp[nN])
 |g+1,d,no,i,nx,hh,CY,hq,hm,KE=>by
  have hf:=rD.1 hh;have hfl:(lD (g+1) d).length=(mD g d.2.1).length+1:=by rw[pK];rfl
  refine⟨fun p hp=>hH.std p (hq p (by rw[LQ];exact bO.2 (.inr hp))),KE,fun j hj=>?_⟩;have h1:=RZ g d.2.1 no hj;have h2:=K5 g d.2.1 no j;have h3:=K5 g d.2.1 no (j+1);have a7W:0<(lD g (d.2.1.getD j (0,kS g)).2).length:=by
   have hh2:=(hf.sb j hj).2;cases g with
   |zero=>exact absurd hh2 (by simp[nN])
   |succ g=>rw[pK];simp
  refine aFU hH g _ _ _ _ (hf.sb j hj).2 (fun x hx=>CY x (a5I hj x hx)) (fun p hp=>hq p ?_) (fun m a b=>hm m aG aG) (hH.nul _ _ (CY _ (a5I hj _ (XY (hf.sb j hj).2 _))) (hm _ aG aG));rw[LQ];refine bO.2 (.inl (eH.2 ⟨j,cZ.2 hj,hp⟩))
def QE (f:Nat) (ds:List (jY f)) (k:Nat):Int:=if k<ds.length then qK (kW f ds) 2 (noT f ds k) 0 else 0
theorem aVJ {z:List Int} (hH:Holds f o ds L z) {k:Nat} (hk:k<ds.length):aN6 z L (kW f ds) o f (ds.getD k (kS f)) (noT f ds k) (o8 L k) (QE f ds (k+1)):=by
 have bWE:=(sF h).2.2.2.2.1;have ho:=(sF h).2.1;have hh:=tK bWE hk;have zN:=IX f ds hk;obtain⟨s,g1,g2,g3,g4,g5,g6⟩:=HZ h hk;refine aFU hH f _ _ _ _ hh (Q5 hk) (fun p hp=>?_) (fun m a b j hj e=>?_) ?_
 ·refine bL _ (bL _ (bL _ (eH.2 ⟨k,cZ.2 hk,bO.2 (.inl hp)⟩)))
 ·rw[←zN]at b;rcases Nat.lt_trichotomy j k with c|c|c
  ·have:=Y5 f ds (show j≤k by omega);omega
  ·subst c;omega
  ·have:=Y5 f ds (show k+1≤j by omega);omega
 ·unfold QE;by_cases hk1:k+1<ds.length
  ·rw[if_pos hk1];have CZ:=(Q6 h hb).pk (k+1) hk1;have hl:=hH.std (yF (kW f ds) o f ds (k+1)) (bL _ (bL _ (bL _ (eH.2 ⟨k,cZ.2 hk,bO.2 (.inr (by unfold nextQ;rw[if_pos hk1];exact dK.2 rfl))⟩))));unfold yF at hl;have OC:XM (kW f ds) f ds (k+1)=qK (kW f ds) 2 (noT f ds k) 0+2+12*((a2E f (ds.getD k (kS f)):Nat):Int):=rfl;rw[OC]at hl;simp only[show(lQ (qK (kW f ds) 2 (noT f ds (k+1)) 0) 4 o).length=4 from nZ CZ]at hl;exact F9 aH ho aG (by have:=hH.len;omega) CZ hl.2
  ·rw[if_neg hk1];refine hH.nul _ _ (Q5 hk _ (XY hh _)) fun j hj e=>?_;have:=bDX h (show j<k by omega) aG;omega
theorem a5N {z:List Int} (hH:Holds f o ds L z) (hN:(oI f ds).length<1000000) (e:Nat):∀(m k:Nat),k+m=ds.length→FU z o L f (m+1+e) (ds.take k) (QE f ds k) (o8 L k) ⟨(l9 f ((FP f ds).take k) (oH [] 1 (-1) 0 8,0)).1,noT f ds k,0⟩= .ok (ds,⟨kW f ds,noT f ds ds.length,0⟩)
 |0,k,hk=>by
  obtain⟨_,hn⟩:=a9W h;rw[show 0+1+e=e+1 by omega];unfold FU;have hp:QE f ds k=0:=by unfold QE;rw[if_neg aG]
  rw[hp,if_neg (by rw[eX];omega),bW aG,bW (by unfold FP;rw[dF];omega),show k=ds.length by omega];rfl
 |m+1,k,hk=>by
  have hO:=Q6 h hb;obtain⟨h1,h2,h3,h4,h5,h6⟩:=sF h;have hLg:=XV h6;have xK:k<ds.length:=by omega
  have hkp:k<(FP f ds).length:=by unfold FP;rw[dF];exact xK
  have bDY:=yE h5;have hg:ds.getD k (kS f)=ds[k]:=kF xK _;have hL8:Lo (oH [] 1 (-1) 0 8):=Lo.add ⟨gX _,fun s hs=>by cases hs⟩ aH;have hLo:=a2X f ((FP f ds).take k) (oH [] 1 (-1) 0 8,0) hL8;have zN:=GQ f (FP f ds) (oH [] 1 (-1) 0 8,0) hkp;have sJ:(l9 f ((FP f ds).take k) (oH [] 1 (-1) 0 8,0)).2=noT f ds k:=by
   rw[aC4];have:(FP f ds).take k=FP f (ds.take k):=by unfold FP;rw[j3]
   rw[this,H6];unfold noT;simp
  rw[sJ,aMW f ds hkp xK]at zN;have c1I:yX f ds[k] (noT f ds k) (l9 f ((FP f ds).take k) (oH [] 1 (-1) 0 8,0)).1<+:kW f ds:=by
   have:=U6 f (FP f ds) (oH [] 1 (-1) 0 8,0) (k+1);rw[zN]at this;exact this
  have hz:∀s∈kW f ds,s.2.2.2.1+s.2.2.2.2≤z.length:=fun s hs=>by
   have xV:=hs;rw[(BR f ds).1]at xV;have:=LC (E9 f ds) 0 (gX _) (SC f ds) s xV;rw[←(BR f ds).2]at this;have:=hH.len;omega
  have KE:=hO.nx k xK;have hnl:=KJ h1 k;have hnn:=PZ f ds k;have c5O:=PZ f ds (k+1);have hns:=IX f ds xK;have hr:=a9U (LK f ds bDY) hz h2 h1 f (ds.getD k (kS f)) (noT f ds k) (o8 L k) (QE f ds (k+1)) (l9 f ((FP f ds).take k) (oH [] 1 (-1) 0 8,0)).1 KE aG (tK h5 xK) (hb _ (by rw[hg];exact bP xK)) (hO.dir k xK) (aVJ h hb hH xK) hLo (by rw[hg];exact c1I) aG aG;have hp:QE f ds k=qK (kW f ds) 2 (noT f ds k) 0:=by unfold QE;rw[if_pos xK]
  have a7W:0<QE f ds k:=by
   obtain⟨s,g1,g2,g3,g4,g5,g6⟩:=HZ h xK;obtain⟨t,t1,t2,t3,t4⟩:=aVE (f:=f) (ds:=ds);have pQ:t≠s:=fun e=>by rw[e,(EB g2).2.1]at t2;omega
   rw[hp,←g3];rcases LD (IY f ds) t1 g1 pQ with e|e <;> unfold Ahead at e <;> omega
  rw[show m+1+1+e=(m+1+e)+1 by omega];unfold FU;rw[if_pos (.inl a7W),if_pos KE,hp,hr];simp only;have ih:=a5N hH hN e m (k+1) aG;rw[zN,hns]at ih;rw[dR,bH xK,fK]at ih;rw[hg]at ih ⊢;exact ih
theorem aQO {z:List Int} (hH:Holds f o ds L z) (hN:(oI f ds).length<1000000):QD z L f= .ok (ds,⟨kW f ds,noT f ds ds.length,0⟩):=by
 obtain⟨h1,h2,h3,h4,h5,h6⟩:=sF h;obtain⟨n16,n1⟩:=a9W h;have h8:=a2W f ds;have xM:=hH.len;have hsg:=hH.std (0,G8 o) (bQ ..);have h42:=hH.std (2,lQ 42 2 o) (bL _ (bQ ..));have h84:=hH.std (4,lQ 8 4 o) (bL _ (bL _ (bQ ..)));have k42:mH 42 2 o=true:=(lV h2).2 aH;have k8:mH 8 4 o=true:=(lV h2).2 aH;have l42:(lQ 42 2 o).length=2:=nZ k42;have l8:(lQ 8 4 o).length=4:=nZ k8;simp only[l42]at h42;simp only[l8]at h84;simp only[I4,gL]at hsg;have yL:mI z=o:=by
  match z,hsg.2,xM with
  | [],_,hl=>simp at hl;omega
  | [x],hh,_=>have:=congrArg List.length hh;simp[I4]at this
  |x::y::r,hh,_=>
   unfold G8 at hh;unfold mI;rcases h2 with rfl|rfl
   ·rw[if_neg aH]at hh;obtain⟨rfl,rfl⟩:x=73∧y=73:=by simpa using hh
    rfl
   ·rw[if_pos rfl]at hh;obtain⟨rfl,rfl⟩:x=77∧y=77:=by simpa using hh
    rfl
 have g42:mM z 2 2 o=42:=F9 aH h2 aH aG k42 h42.2;have g8:mM z 4 4 o=8:=F9 aH h2 aH aG k8 h84.2;have hhd:EZ z= .ok ⟨oH [] 1 (-1) 0 8,0,0⟩:=by
  unfold EZ;rw[if_pos aG,yL,if_pos ⟨by omega,g42⟩];exact aFM (l0:= []) ⟨gX _,fun s hs=>by cases hs⟩ aH (by show(0:Int)+8≤z.length;omega)
 unfold QD;rw[if_pos h1,hhd,yL,g8];simp only;have hc:=a5N h hb hH hN (17 - ds.length) ds.length 0 aG;have e1:ds.length+1+(17 - ds.length)=18:=by omega
 have e2:QE f ds 0=8:=by unfold QE;rw[if_pos aG];exact aVF h hb
 rw[e1,e2]at hc;exact hc
end
theorem a1C {f:Nat} {o:Int} {ds:List (jY f)} {L:List nP} (h:oD f o ds L=0) (hb:∀d∈ds,tJ f d):mI (yD f o ds L)=o∧QD (yD f o ds L) L f=QD (yD f o ds L) L f:=by
 have hH:=aN7 h hb 0;rw[List.replicate_zero,dU]at hH;have h2:=(sF h).2.1;have h8:=a2W f ds;have xM:=hH.len;have hsg:=hH.std (0,G8 o) (bQ ..);simp only[I4,gL]at hsg;refine⟨?_,rfl⟩
 match yD f o ds L,hsg.2,xM with
 | [],_,hl=>simp at hl;omega
 | [x],hh,_=>have:=congrArg List.length hh;simp[I4]at this
 |x::y::r,hh,_=>
  unfold G8 at hh;unfold mI;rcases h2 with rfl|rfl
  ·rw[if_neg aH]at hh;obtain⟨rfl,rfl⟩:x=73∧y=73:=by simpa using hh
   rfl
  ·rw[if_pos rfl]at hh;obtain⟨rfl,rfl⟩:x=77∧y=77:=by simpa using hh
   rfl
theorem a5O {f:Nat} {o:Int} {ds:List (jY f)} {L:List nP} (h:oD f o ds L=0) (hb:∀d∈ds,tJ f d) (hN:(oI f ds).length<1000000):QD (yD f o ds L) L f= .ok (ds,⟨kW f ds,noT f ds ds.length,0⟩):=by
 have hH:=aN7 h hb 0;rw[List.replicate_zero,dU]at hH;exact aQO h hb hH hN
theorem AB {d:Int} {ts:List oZ} (h:tZ d ts=true):(∀x∈ts,DY x.1=true∧WK d x.1=false∧WA x=true)∧Pw ts:=by
 unfold tZ at h;simp only[bK]at h;refine⟨fun x hx=>?_,?_⟩
 ·have:=dI.1 h.1.1.1 x hx;unfold P5 KW at this;simp only[bK,dW,decide_eq_true_eq]at this;obtain⟨⟨⟨⟨⟨⟨_,_⟩,h3⟩,h4⟩,h5⟩,h6⟩,_⟩:=this;refine⟨?_,h5,h6⟩;unfold DY;rw[decide_eq_true h3,decide_eq_true (show x.1<65536 by omega)];rfl
 ·exact MW (fun(x:Tg)=>x.1) (0,0,0, []) ts fun k hk=>UM.1 h.1.1.2 k hk
theorem a08 {d t:Int} (h:WK d t=false):∀u,WK d u=true→t≠u:=fun u hu e=>by rw[e,hu]at h;cases h
theorem aFV (i:Nat) (hi:i=3∨i=4) (t:Int):xI (vB.getD i kQ) t=false:=by
 rcases hi with rfl|rfl <;> rfl
theorem aVK {t:Int} (h:WK 0 t=false):xI (vB.getD 0 kQ) t=false:=by
 have h1:=a08 h 34665 (by decide+kernel);have h2:=a08 h 34853 (by decide+kernel);show(((34665:Int)==t||((34853:Int)==t||false))||(decide ((0:Int)<0)&&_))=false
 simp;omega
theorem aQP {t:Int} (h:WK 1 t=false):xI (vB.getD 1 kQ) t=false:=by
 have h1:=a08 h 513 (by decide+kernel);have h2:=a08 h 514 (by decide+kernel);show(false||(decide ((0:Int)<513)&&(decide (t=513)||decide (t=514))))=false
 simp;omega
theorem aQQ {t:Int} (h:t≠40965):xI (vB.getD 2 kQ) t=false:=by
 show(((40965:Int)==t||false)||(decide ((0:Int)<0)&&_))=false
 simp;omega
theorem rP {x:pX} (h:lU x=0):(x.o=1∨x.o=2)∧tZ 0 x.z=true∧tZ 1 x.f=true∧tZ 2 x.p=true∧tZ 3 x.g=true∧tZ 4 x.i=true∧x.mr.length≤65536∧0<a9R x:=by
 unfold lU at h;split at h
 ·rename_i h1;split at h
  ·rename_i h2;split at h
   ·rename_i h3;unfold DL at h2;simp only[bK]at h2;exact⟨h1,h2.1.1.1.1,h2.1.1.1.2,h2.1.1.2,h2.1.2,h2.2,h3⟩
   ·cases h
  ·cases h
 ·cases h
theorem b4C {b:List Int} (h1:0<b.length) (h2:b.length≤65536):WA (NS b)=true:=by
 have hk:(lI 7).1=1:=by decide+kernel
 show wH 7 (b.length:Int) b=true
 unfold wH;rw[hk];simp;omega
theorem bDZ {ts:List oZ} (h:Pw ts) (x:oZ):Pw (EW ts x):=(aAV h x (b:=(pI ts x.1).1) (v:=(pI ts x.1).2) rfl).pw
theorem b4D {ts:List oZ} (h:Pw ts) (x:oZ):(EW ts x).length≤ts.length+1:=by
 have k:=aAV h x (b:=(pI ts x.1).1) (v:=(pI ts x.1).2) rfl;cases hb:(pI ts x.1).1 with
 |true=>have:=k.bJL hb;omega
 |false=>have:=k.bJM hb;omega
theorem aFW {x:pX} (h:lU x=0):(∀t∈oO x,DY t.1=true∧t.1≠40965∧WA t=true)∧Pw (oO x)∧(oO x).length≤x.p.length+1∧(x.p.length≤(oO x).length)∧(0<x.mr.length→0<(oO x).length):=by
 obtain⟨h1,h2,h3,h4,h5,h6,h7,h8⟩:=rP h;obtain⟨r1,r2⟩:=AB h4;have ro:∀t∈x.p,DY t.1=true∧t.1≠40965∧WA t=true:=fun t ht=>⟨(r1 t ht).1,a08 (r1 t ht).2.1 40965 (by decide+kernel),(r1 t ht).2.2⟩;unfold oO;split
 ·rename_i hm;refine⟨fun t ht=>?_,bDZ r2 _,b4D r2 _,?_,fun _=>?_⟩
  ·rcases mem_set ht with rfl|ht
   ·exact⟨rfl,by show(37500:Int)≠40965;decide,b4C hm h7⟩
   ·exact ro t ht
  ·have k:=aAV r2 (NS x.mr) (b:=(pI x.p (NS x.mr).1).1) (v:=(pI x.p (NS x.mr).1).2) rfl;cases hb:(pI x.p (NS x.mr).1).1 with
   |true=>have:=k.bJL hb;omega
   |false=>have:=k.bJM hb;omega
  ·exact List.length_pos_of_mem (aML (ts:=x.p) (x:=NS x.mr))
 ·rename_i hm;exact⟨ro,r2,by omega,aY _,fun h=>absurd h hm⟩
theorem aVL {α:Type} {x d:α} {j:Nat} (hj:j< [x].length): [x].getD j d=x:=by
 obtain rfl:j=0:=by simpa using hj
 rfl
structure vJ (x:pX):Prop where
 z:x.z.length≤400
 p:x.p.length≤400
 g:x.g.length≤400
 i:x.i.length≤400
 f:x.f.length≤400
 mr:x.mr.length≤100000
 th:x.th.length≤100000
structure a09 (x:pX):Prop where
 z:∀t∈x.z,pF t.2.2.2
 p:∀t∈x.p,pF t.2.2.2
 g:∀t∈x.g,pF t.2.2.2
 i:∀t∈x.i,pF t.2.2.2
 f:∀t∈x.f,pF t.2.2.2
 mr:pF x.mr
 th:pF x.th
theorem aFX {x:pX} (h:lU x=0) (hs:vJ x) (hi:0<x.i.length):nN vB 14 (vH 13 x.i) 4=true:=by
 obtain⟨h1,h2,h3,h4,h5,h6,h7,h8⟩:=rP h;obtain⟨r1,r2⟩:=AB h6;have:=hs.i;exact rD.2 ⟨by show 1≤x.i.length+0+0;omega,by show x.i.length+0+0≤65535;omega,.inl rfl,fun t ht=>⟨(r1 t ht).1,aFV 4 (.inr rfl) _,(r1 t ht).2.2⟩,r2,fun j hj=>(by cases hj),gJ⟩
theorem b4E {x:pX} (h:lU x=0) (hs:vJ x) (hi:0<x.g.length):nN vB 15 (vH 14 x.g) 3=true:=by
 obtain⟨h1,h2,h3,h4,h5,h6,h7,h8⟩:=rP h;obtain⟨r1,r2⟩:=AB h5;have:=hs.g;exact rD.2 ⟨by show 1≤x.g.length+0+0;omega,by show x.g.length+0+0≤65535;omega,.inl rfl,fun t ht=>⟨(r1 t ht).1,aFV 3 (.inl rfl) _,(r1 t ht).2.2⟩,r2,fun j hj=>(by cases hj),gJ⟩
theorem a9X (x:pX):(pE x).length=if 0<x.i.length then 1 else 0:=by unfold pE;split <;> rfl
theorem aQR {x:pX} (h:lU x=0) (hs:vJ x) (hi:DN x=true):nN vB 15 (vI x) 2=true:=by
 obtain⟨q1,q2,q3,q4,q5⟩:=aFW h;have hp:=hs.p;have e:pU (oO x).length (pE x).length 0=(oO x).length+(pE x).length:=rfl;have hl:=a9X x;unfold DN at hi;simp only[dN,decide_eq_true_eq]at hi;refine rD.2 ⟨?_,?_,.inl rfl,fun t ht=>⟨(q1 t ht).1,aQQ (q1 t ht).2.1,(q1 t ht).2.2⟩,q2,fun j hj=>?_,?_⟩
 ·show 1≤pU (oO x).length (pE x).length 0
  rw[e,hl];rcases hi with (hi|hi)|hi
  ·omega
  ·rw[if_pos hi];omega
  ·have:=q5 hi;omega
 ·show pU (oO x).length (pE x).length 0≤65535
  rw[e,hl];split <;> omega
 ·show nQ (vB.getD 2 kQ) ((pE x).getD j (0,kS 14)).1=true∧nN vB 14 ((pE x).getD j (0,kS 14)).2 (vG (vB.getD 2 kQ) ((pE x).getD j (0,kS 14)).1)=true
  have hj:j<(pE x).length:=hj;by_cases h0:0<x.i.length
  ·have ep:pE x= [(40965,vH 13 x.i)]:=if_pos h0;rw[ep]at hj ⊢;rw[aVL hj];show nQ (vB.getD 2 kQ) 40965=true∧nN vB 14 (vH 13 x.i) (vG (vB.getD 2 kQ) 40965)=true
   exact⟨by decide+kernel,by rw[show vG (vB.getD (2:Nat) kQ) 40965=4 by decide+kernel];exact aFX h hs h0⟩
  ·rw[hl,if_neg h0]at hj;cases hj
 ·show(pE x).Pairwise _
  unfold pE;split
  ·exact List.pairwise_singleton _ _
  ·exact gJ
theorem Y8 {x:pX} {s:Int×jY 15} (h:s∈pO x++qZ x):(s=(34665,vI x)∧DN x=true)∨(s=(34853,vH 14 x.g)∧0<x.g.length):=by
 rcases bO.1 h with h|h
 ·unfold pO at h;split at h
  ·rename_i hp;exact .inl ⟨dK.1 h,hp⟩
  ·cases h
 ·unfold qZ at h;split at h
  ·rename_i hp;exact .inr ⟨dK.1 h,hp⟩
  ·cases h
theorem b4F (x:pX):(pO x++qZ x).Pairwise fun a b=>a.1<b.1:=by
 unfold pO qZ;split <;> split <;> simp
theorem Y9 (x:pX):(pO x++qZ x).length=(if DN x=true then 1 else 0)+(if 0<x.g.length then 1 else 0):=by
 unfold pO qZ;split <;> split <;> rfl
theorem aVM {x:pX} (h:lU x=0) (hs:vJ x):nN vB 16 (tT x) 0=true:=by
 obtain⟨h1,h2,h3,h4,h5,h6,h7,h8⟩:=rP h;obtain⟨r1,r2⟩:=AB h2;have hz:=hs.z;have hl:=Y9 x;have e:pU x.z.length (pO x++qZ x).length 0=x.z.length+(pO x++qZ x).length:=rfl;refine rD.2 ⟨?_,?_,.inl rfl,fun t ht=>⟨(r1 t ht).1,aVK (r1 t ht).2.1,(r1 t ht).2.2⟩,r2,fun j hj=>?_,b4F x⟩
 ·show 1≤pU x.z.length (pO x++qZ x).length 0
  rw[e,hl];unfold a9R at h8;by_cases hp:DN x=true
  ·rw[if_pos hp];omega
  ·by_cases hg:0<x.g.length
   ·rw[if_pos hg];omega
   ·unfold DN at hp;simp only[dN,decide_eq_true_eq]at hp;omega
 ·show pU x.z.length (pO x++qZ x).length 0≤65535
  rw[e,hl];split <;> split <;> omega
 ·have hj:j<(pO x++qZ x).length:=hj;show nQ (vB.getD 0 kQ) ((pO x++qZ x).getD j (0,kS 15)).1=true∧nN vB 15 ((pO x++qZ x).getD j (0,kS 15)).2 (vG (vB.getD 0 kQ) ((pO x++qZ x).getD j (0,kS 15)).1)=true
  have hm:(pO x++qZ x).getD j (0,kS 15)∈pO x++qZ x:=by rw[kF hj];exact bP hj
  rcases Y8 hm with ⟨e1,hp⟩|⟨e1,hp⟩
  ·rw[e1];show nQ (vB.getD 0 kQ) 34665=true∧nN vB 15 (vI x) (vG (vB.getD 0 kQ) 34665)=true
   exact⟨by decide+kernel,by rw[show vG (vB.getD (0:Nat) kQ) 34665=2 by decide+kernel];exact aQR h hs hp⟩
  ·rw[e1];show nQ (vB.getD 0 kQ) 34853=true∧nN vB 15 (vH 14 x.g) (vG (vB.getD 0 kQ) 34853)=true
   exact⟨by decide+kernel,by rw[show vG (vB.getD (0:Nat) kQ) 34853=3 by decide+kernel];exact b4E h hs hp⟩
theorem aQS {x:pX} (h:lU x=0) (hs:vJ x) (hi:0<x.f.length+x.th.length):nN vB 16 (Q7 x) 1=true:=by
 obtain⟨h1,h2,h3,h4,h5,h6,h7,h8⟩:=rP h;obtain⟨r1,r2⟩:=AB h3;have:=hs.f;have e:pU x.f.length 0 x.th.length=x.f.length+0+(if 0<x.th.length then 2 else 0):=rfl;refine rD.2 ⟨?_,?_,.inr aH,fun t ht=>⟨(r1 t ht).1,aQP (r1 t ht).2.1,(r1 t ht).2.2⟩,r2,fun j hj=>(by cases hj),gJ⟩
 ·show 1≤pU x.f.length 0 x.th.length
  rw[e];split <;> omega
 ·show pU x.f.length 0 x.th.length≤65535
  rw[e];split <;> omega
theorem FD {x:pX} (h:lU x=0) (hs:vJ x):(∀d∈lS x,mY 16 d)∧(oI 16 (lS x)).length≤5:=by
 obtain⟨q1,q2,q3,q4,q5⟩:=aFW h;obtain⟨hz,hp,hg,hi,hf,hm,ht⟩:=hs;have si:mY 14 (vH 13 x.i):=⟨by show x.i.length≤500;omega,by show 0≤1000000;omega,by show 0≤500;omega,fun s hs=>by cases hs⟩;have sg:mY 15 (vH 14 x.g):=⟨by show x.g.length≤500;omega,by show 0≤1000000;omega,by show 0≤500;omega,fun s hs=>by cases hs⟩;have sp:mY 15 (vI x):=by
  have hl:=a9X x;refine⟨by show(oO x).length≤500;omega,by show 0≤1000000;omega,by show(pE x).length≤500;rw[hl];split <;> omega,fun s hs=>?_⟩;have hs:s∈pE x:=hs;unfold pE at hs;split at hs
  ·rw[dK.1 hs];exact si
  ·cases hs
 have sz:mY 16 (tT x):=by
  have hl:=Y9 x;refine⟨by show x.z.length≤500;omega,by show 0≤1000000;omega,by show(pO x++qZ x).length≤500;rw[hl];split <;> split <;> omega,fun s hs=>?_⟩;rcases Y8 hs with ⟨e,_⟩|⟨e,_⟩
  ·rw[e];exact sp
  ·rw[e];exact sg
 have sf:mY 16 (Q7 x):=⟨by show x.f.length≤500;omega,by show x.th.length≤1000000;omega,by show 0≤500;omega,fun s hs=>by cases hs⟩;have fi:(lD 14 (vH 13 x.i)).length=1:=rfl;have fg:(lD 15 (vH 14 x.g)).length=1:=rfl;have ff:(lD 16 (Q7 x)).length=1:=rfl;have fp:(lD 15 (vI x)).length≤2:=by
  have e:lD 15 (vI x)=(oO x,(pE x).length, [])::(pE x).flatMap fun s=>lD 14 s.2:=rfl;rw[e,dO];unfold pE;split
  ·simp[fi]
  ·simp
 have fz:(lD 16 (tT x)).length≤4:=by
  have e:lD 16 (tT x)=(x.z,(pO x++qZ x).length, [])::(pO x++qZ x).flatMap fun s=>lD 15 s.2:=rfl;rw[e,dO,dQ,cO];have h1:((pO x).flatMap fun s=>lD 15 s.2).length≤2:=by
   unfold pO;split
   ·simpa using fp
   ·simp
  have h2:((qZ x).flatMap fun s=>lD 15 s.2).length≤1:=by
   unfold qZ;split
   ·simp[fg]
   ·simp
  omega
 unfold lS;split
 ·refine⟨fun d hd=>?_,?_⟩
  ·rcases cK.1 hd with rfl|hd
   ·exact sz
   ·rw[dK.1 hd];exact sf
  ·unfold oI;rw[eF,cO,List.flatMap_singleton,ff];omega
 ·refine⟨fun d hd=>?_,?_⟩
  ·rw[dK.1 hd];exact sz
  ·unfold oI;rw[List.flatMap_singleton];omega
theorem I5 {x:pX} (hb:a09 x):∀d∈lS x,tJ 16 d:=by
 obtain⟨hz,hp,hg,hi,hf,hm,ht⟩:=hb;have hn:pF ([]:List Int):=fun x hx=>by cases hx
 have si:tJ 14 (vH 13 x.i):=⟨hi,fun s hs=>(by cases hs),hn⟩;have sg:tJ 15 (vH 14 x.g):=⟨hg,fun s hs=>(by cases hs),hn⟩;have sp:tJ 15 (vI x):=by
  refine⟨fun t ht=>?_,fun s hs=>?_,hn⟩
  ·have ht:t∈oO x:=ht;unfold oO at ht;split at ht
   ·rcases mem_set ht with rfl|ht
    ·exact hm
    ·exact hp t ht
   ·exact hp t ht
  ·have hs:s∈pE x:=hs;unfold pE at hs;split at hs
   ·rw[dK.1 hs];exact si
   ·cases hs
 have sz:tJ 16 (tT x):=by
  refine⟨hz,fun s hs=>?_,hn⟩;rcases Y8 hs with ⟨e,_⟩|⟨e,_⟩
  ·rw[e];exact sp
  ·rw[e];exact sg
 have sf:tJ 16 (Q7 x):=⟨hf,fun s hs=>(by cases hs),ht⟩;intro d hd;unfold lS at hd;rcases cK.1 hd with rfl|hd
 ·exact sz
 ·split at hd
  ·rw[dK.1 hd];exact sf
  ·cases hd
theorem b4G {f:Nat} {T:List (jY f)} (hs:∀d∈T,mY f d) (h5:(oI f T).length≤5):nI (kW f T)≤1400000000:=by
 have e:nI (oH [] 1 (-1) 0 8)=8:=rfl;have h:=(zT f (X6 f) (FP f T) (oH [] 1 (-1) 0 8,0) (fun s xV=>by
  obtain⟨d,hd,rfl⟩:=dH.1 xV;exact hs d hd) (by rw[e];decide)).2.1
 rw[H6,e]at h;unfold kW;omega
theorem bE0:mW vB=true:=by decide+kernel
theorem MZ:o8 vB 0=0∧o8 vB 1=1:=by decide+kernel
theorem aN8 {L:List nP}:∀(f:Nat) (d:jY f) (i:Int),nN L f d i=true→∀x∈lD f d,okF x=true
 |0,_,_,h=>by cases h
 |f+1,d,i,h=>by
  have k:=rD.1 h;have e:lD (f+1) d=(d.1,d.2.1.length,d.2.2)::d.2.1.flatMap fun s=>lD f s.2:=rfl;rw[e];intro x hx;rcases cK.1 hx with rfl|hx
  ·unfold okF;rw[decide_eq_true k.e1,decide_eq_true k.e2];simp only[Bool.and_self,dL];exact dI.2 fun t ht=>(k.tg t ht).2.2
  ·obtain⟨s,hs,hx⟩:=eH.1 hx;obtain⟨j,hj,e2⟩:=zH hs (0,kS f);have:=(k.sb j hj).2;rw[e2]at this;exact aN8 f s.2 _ this x hx
theorem I6 {x:pX} (h:lU x=0) (hs:vJ x):oD 16 x.o (lS x) vB=0:=by
 obtain⟨s1,s2⟩:=FD h hs;have h1:=(rP h).1;have hz:=aVM h hs;have hA:hasAll vB 16 (lS x)=true:=by
  unfold hasAll;refine GR fun k hk=>?_;unfold lS at hk ⊢;split at hk
  ·rename_i hp;rw[if_pos hp];have:k=0∨k=1:=by simp at hk;omega
   rcases this with rfl|rfl
   ·rw[MZ.1];exact hz
   ·rw[MZ.2];exact aQS h hs hp
  ·rename_i hp;rw[if_neg hp];obtain rfl:k=0:=by simpa using hk
   rw[MZ.1];exact hz
 have xM:(lS x).length≤2∧(lS x).length≠0:=by
  unfold lS;split <;> simp
 have hC:chainB vB (lS x).length=true:=by
  unfold chainB;refine GR fun k hk=>?_;have:k=0∨k=1:=by omega
  rcases this with rfl|rfl
  ·rw[MZ.1];rfl
  ·rw[MZ.2];rfl
 have hF:V3 16 (lS x)=true:=by
  unfold V3 U2;rw[bK,decide_eq_true_eq];refine⟨dI.2 fun u hu=>?_,by have:=b4G s1 s2;omega⟩;unfold oI at hu;obtain⟨d,hd,hu⟩:=eH.1 hu;obtain⟨k,hk,e⟩:=zH hd (kS 16);have:=dI.1 hA k (cZ.2 hk);rw[e]at this;exact aN8 16 d _ this u hu
 have hL:oU 16 (lS x)≠0:=by
  unfold oU;rw[if_pos hF];have:=a2W 16 (lS x);omega
 unfold oD;rw[bE0,if_pos (by
  simp only[dL,bK,dN,dW,decide_eq_true_eq,decide_eq_false_iff_not];exact⟨h1,xM.2⟩),if_pos hC,if_pos hA,if_neg hL]
