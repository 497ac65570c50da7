import Derived.Test.YtceclmpmpldmlaaGreatCz18
set_option linter.unusedSimpArgs false
set_option linter.unusedVariables false
namespace Go.Proofs.YtceclmpmpldmlaaGreat
open Go.RowKit Tt
theorem M4 (z:List Int) (o:Int) (L:List lV) (f:Nat) (p sh:Int) (s:St):nR z o L (f+1) p sh s=
  match lM z o p s.no {s with no:=IntKind.i64.wrap (s.no+1)}with
  | .error e=> .error e
  | .ok (l,s1)=>
   match loopS (stepT z o (L.getD sh.toNat jM) s.no) l ([],s1)with
   | .error e=> .error e
   | .ok (tags,s2)=>
    if(l.filter (fun x=> !kT (L.getD sh.toNat jM) x.1&&nY (L.getD sh.toNat jM) x.1)).length=1 then .error 6 else
    match loopS (oJ (nR z o L f) (L.getD sh.toNat jM)) l ([],s2)with
    | .error e=> .error e
    | .ok (subs,s3)=>
     match sQ z (L.getD sh.toNat jM) l s.no s3 with
     | .error e=> .error e
     | .ok (blob,s4)=> .ok (((tags,subs,blob),kZ z (p+2+12*l.length) 4 o),s4):=rfl
theorem aHM {n:Int} (h0:0≤n) (h1:n<9223372036854775807):IntKind.i64.wrap n=n:=by rw[aY];omega
theorem aEL {L:List lV} {l:List lK} {o no:Int} {f:Nat} {d:jD (f+1)} {i:Int} (hf:F7 L f d i) {n:Nat} (hs:lH n i.toNat (L.getD i.toNat jM)=true):
  ((mR f l o no (L.getD i.toNat jM) d).filter (fun x=> !qQ (L.getD i.toNat jM) x.1)=d.1.map (JH l o no))∧
  ((mR f l o no (L.getD i.toNat jM) d).filter (fun x=>kT (L.getD i.toNat jM) x.1)=EG f l d.2.1 no d.2.1.length)∧
  ((mR f l o no (L.getD i.toNat jM) d).filter (fun x=> !kT (L.getD i.toNat jM) x.1&&nY (L.getD i.toNat jM) x.1)=xR l (L.getD i.toNat jM) d.2.2 no)∧
  (∀x∈mR f l o no (L.getD i.toNat jM) d,qQ (L.getD i.toNat jM) x.1=true→x.2.1=4∧x.2.2.1=1):=by
 generalize hsh:L.getD i.toNat jM=sh at*;have hA:∀x∈d.1.map (JH l o no),qQ sh x.1=false∧kT sh x.1=false∧nY sh x.1=false:=fun x hx=>by
  obtain⟨t,ht,rfl⟩:=cB.1 hx;have h:=(hf.tg t ht).2.1;rw[hsh]at h;have h2:=h;unfold qQ at h2;simp only[Bool.or_eq_false_iff]at h2;exact⟨h,h2.1,h2.2⟩
 have hB:∀x∈EG f l d.2.1 no d.2.1.length,kT sh x.1=true∧qQ sh x.1=true∧x.2.1=4∧x.2.2.1=1:=fun x hx=>by
  unfold EG at hx;obtain⟨j,hj,rfl⟩:=cB.1 hx;have h:=(hf.sb j (bW.1 hj)).1;rw[hsh]at h;have h2:kT sh (aKC f l d.2.1 no j).1=true:=h;exact⟨h2,by unfold qQ;rw[h2];rfl,rfl,rfl⟩
 have hC:∀x∈xR l sh d.2.2 no,kT sh x.1=false∧nY sh x.1=true∧qQ sh x.1=true∧x.2.1=4∧x.2.2.1=1:=fun x hx=>by
  unfold xR at hx;split at hx
  ·rename_i hb;have hp:=QH hs (by have:=hf.bl;rw[hsh]at this;rcases this with h|h;omega;exact h);have hlk:∀t,nY sh t=true→kT sh t=false:=fun t ht=>by
    cases hh:kT sh t with
    |false=>rfl
    |true=>have:=(TK hs hh).1;rw[ht]at this;cases this
   simp only[bQ,eD,or_false]at hx;rcases hx with rfl|rfl
   ·exact⟨hlk _ hp.1,hp.1,by unfold qQ;rw[hp.1];simp,rfl,rfl⟩
   ·exact⟨hlk _ hp.2.1,hp.2.1,by unfold qQ;rw[hp.2.1];simp,rfl,rfl⟩
  ·cases hx
 have all_in:∀{p:mK→Bool} {ys:List mK},(∀x∈ys,p x=true)→ys.filter p=ys:=fun h=>List.filter_eq_self.2 h;have M5:∀{p:mK→Bool} {ys:List mK},(∀x∈ys,p x=false)→ys.filter p= []:=fun h=>List.filter_eq_nil_iff.2 fun x hx=>by rw[h x hx];decide
 unfold mR;refine⟨?_,?_,?_,?_⟩
 ·rw[eF,eF,all_in (fun x hx=>by rw[(hA x hx).1];rfl),M5 (fun x hx=>by rw[(hB x hx).2.1];rfl),M5 (fun x hx=>by rw[(hC x hx).2.2.1];rfl),dM,dM]
 ·rw[eF,eF,M5 (fun x hx=>(hA x hx).2.1),all_in (fun x hx=>(hB x hx).1),M5 (fun x hx=>(hC x hx).1),dM,eG]
 ·rw[eF,eF,M5 (fun x hx=>by rw[(hA x hx).2.2,Bool.and_false]),M5 (fun x hx=>by rw[(hB x hx).1];rfl),all_in (fun x hx=>by rw[(hC x hx).1,(hC x hx).2.1];rfl)];rfl
 ·intro x hx ho;rcases bH.1 hx with hx|hx
  ·rcases bH.1 hx with hx|hx
   ·rw[(hA x hx).1]at ho;cases ho
   ·exact(hB x hx).2.2
  ·exact(hC x hx).2.2.2
theorem aAB {L:List lV} {l:List lK} {o no:Int} {f:Nat} {d:jD (f+1)} {i:Int} (hf:F7 L f d i) {n:Nat} (hs:lH n i.toNat (L.getD i.toNat jM)=true):
  ((d.1.map (JH l o no)).Pairwise fun x y=>x.1<y.1)∧((EG f l d.2.1 no d.2.1.length).Pairwise fun x y=>x.1<y.1)∧((xR l (L.getD i.toNat jM) d.2.2 no).Pairwise fun x y=>x.1<y.1):=by
 refine⟨?_,?_,?_⟩
 ·rw[fK];exact hf.rt
 ·have h:((EG f l d.2.1 no d.2.1.length).map (·.1)).Pairwise (·< ·):=by
   rw[a9Y,fK];exact hf.rs
  rw[fK]at h;exact h
 ·unfold xR;split
  ·rename_i hb;have hp:=QH hs (by rcases hf.bl with h|h;omega;exact h);refine List.Pairwise.cons (fun x hx=>?_) (List.Pairwise.cons (fun x hx=>by cases hx) List.Pairwise.nil);obtain rfl:x=_:=by simpa using hx
   exact hp.2.2.2.1
  ·exact List.Pairwise.nil
section
variable {l:List lK} {z:List Int} {o:Int} (hk:(l.map BP).Nodup) (hz:∀s∈l,s.2.2.2.1+s.2.2.2.2≤z.length) (ho:o=1∨o=2)
include hk hz ho
omit hk hz ho in
theorem aKT {L:List lV} {f:Nat} {sh:lV} {ss:List (Int×jD f)} {no:Int} {l1:List lK} (hl:Lo l1) (h0:0≤no)
  (hrec:∀j,j<ss.length→∀l0,Lo l0→vB f (ss.getD j (0,jS f)).2 (pQ f ss no j) l0<+:l→nR z o L f (oG l 2 (pQ f ss no j) 0) (qH sh (ss.getD j (0,jS f)).1) ⟨l0,pQ f ss no j,0⟩= .ok (((ss.getD j (0,jS f)).2,0),⟨vB f (ss.getD j (0,jS f)).2 (pQ f ss no j) l0,pQ f ss no (j+1),0⟩))
  (hp:(jZ f ss (l1,no+1)).1<+:l):∀j,j≤ss.length→loopS (aAA (nR z o L f) sh) (EG f l ss no j) ([],⟨l1,no+1,0⟩)= .ok (ss.take j,⟨(jZ f (ss.take j) (l1,no+1)).1,pQ f ss no j,0⟩):=by
 intro j;induction j with
 |zero=>intro _;simp[EG,loopS,jZ,pQ,kD]
 |succ j ih=>
  intro hj;have hj:j<ss.length:=by omega
  have hi:=ih (by omega);rw[a2Q,aA8 _ _ _ _ hi,sG];have hst:=AL f ss (l1,no+1) hj;have hn:(jZ f (ss.take j) (l1,no+1)).2=pQ f ss no j:=by rw[a5T];unfold pQ;rfl
  rw[hn]at hst;have hg:ss.getD j (0,jS f)=ss[j]:=jI hj _;have hr:=hrec j hj _ (WX f (ss.take j) (l1,no+1) hl) (by
   have h1:(jZ f (ss.take (j+1)) (l1,no+1)).1<+:l:=(ND f ss (l1,no+1) (j+1)).trans hp;rw[hst]at h1;rw[hg];exact h1)
  have hs:aAA (nR z o L f) sh (ss.take j,⟨(jZ f (ss.take j) (l1,no+1)).1,pQ f ss no j,0⟩) (aKC f l ss no j)= .ok (ss.take (j+1),⟨(jZ f (ss.take (j+1)) (l1,no+1)).1,pQ f ss no (j+1),0⟩):=by
   unfold aAA aKC;simp only;rw[hr];simp only;rw[if_pos trivial,hst,dN,aX hj,fG,hg]
  rw[hs];rfl
theorem a2X {L:List lV} (hL:l9 L=true) {N:Nat}:∀(f:Nat) (d:jD f) (no i nx:Int) (l0:List lK),0≤i→i<L.length→lQ L f d i=true→pU f d→okW L l N o f d no i→aHL z L l o f d no i nx→Lo l0→vB f d no l0<+:l→0≤no→no+(jT f d).length<9223372036854775807→
  nR z o L f (oG l 2 no 0) i ⟨l0,no,0⟩= .ok ((d,nx),⟨vB f d no l0,no+(jT f d).length,0⟩)
 |0,_,_,_,_,_,_,_,hh,_,_,_,_,_,_,_=>absurd hh (by simp[lQ])
 |f+1,d,no,i,nx,l0,hi0,hi1,hh,hby,hw,hbk,hl,hp,hn0,hn1=>by
  have hf:=nS.1 hh;have hs:=vY hL (i:=i.toNat) (by omega);obtain⟨k1,k2,k3,k4,k5,k6,k7,k8,k9⟩:=Q6 hw;obtain⟨hS,hnx,hsub⟩:=hbk;have hel:=LV f l o no (L.getD i.toNat jM) d;have hfl:(jT (f+1) d).length=(kD f d.2.1).length+1:=by rw[lN];rfl
  obtain⟨e1,e2,e3,e4⟩:=aEL (l:=l) (o:=o) (no:=no) hf hs;obtain⟨s1,s2,s3⟩:=aAB (l:=l) (o:=o) (no:=no) hf hs;rw[a5S]at hS;have hSH:Std z (FB l o no (mR f l o no (L.getD i.toNat jM) d)):=fun p hp=>hS p (bH.2 (.inr hp));have hSV:Std z (d.1.flatMap (zV l o no)):=fun p hp=>hS p (bH.2 (.inl (bH.2 (.inl hp))));have hSB:Std z (xS l d.2.2 no):=fun p hp=>hS p (bH.2 (.inl (bH.2 (.inr hp))));rw[EP]at hp ⊢;-- the steps of what is laid
  obtain⟨la,hla⟩:∃x,mZ l0 2 no 0 (6+12*(mQ d.1.length d.2.1.length d.2.2.length:Nat))=x:=⟨_,rfl⟩;obtain⟨lb,hlb⟩:∃x,lY no d.1 la=x:=⟨_,rfl⟩;have bCT:d.2.1.foldl (fun(r:List lK×Int) s=>(vB f s.2 r.2 r.1,r.2+(jT f s.2).length)) (lb,no+1)=jZ f d.2.1 (lb,no+1):=rfl;simp only[hla,hlb,bCT]at hp ⊢;obtain⟨lc,hlc⟩:∃x,(jZ f d.2.1 (lb,no+1)).1=x:=⟨_,rfl⟩;rw[hlc]at hp ⊢;have hpc:lc<+:l:=by
   split at hp
   ·exact(aXE ..).trans hp
   ·exact hp
  have hpb:lb<+:l:=by rw[←hlc]at hpc;exact(Z4 f d.2.1 (lb,no+1)).trans hpc
  have hpa:la<+:l:=by rw[←hlb]at hpb;exact(aA4 no d.1 la).trans hpb
  have hLa:Lo la:=by rw[←hla];exact hl.add (by omega)
  have hLb:Lo lb:=by rw[←hlb];exact hLa.vals d.1 no
  have hLc:Lo lc:=by rw[←hlc];exact WX f d.2.1 (lb,no+1) hLb
  have hat:=aP6 hk (l0:=l0) (a:=2) (b:=no) (c:=0) (e:=6+12*(mQ d.1.length d.2.1.length d.2.2.length:Nat)) (by rw[hla];exact hpa);have bMI:=hz _ hat.1;simp only at bMI;have hev:=wU hl.1;have hq0:0≤oG l 2 no 0:=by rw[hat.2];have:=hl.1;omega
  have hcnt:kZ z (oG l 2 no 0) 2 o=(mQ d.1.length d.2.1.length d.2.2.length:Nat):=by
   have h:=hSH ((oG l 2 no 0).toNat,kL ((mR f l o no (L.getD i.toNat jM) d).length:Nat) 2 o) (by unfold FB;exact bJ ..);have hpk:kX ((mR f l o no (L.getD i.toNat jM) d).length:Nat) 2 o=true:=(kP ho).2 (by rw[show rJ 2=65536 by decide];omega);rw[hel]at h hpk;have hl2:(kL ((mQ d.1.length d.2.1.length d.2.2.length:Nat):Int) 2 o).length=2:=mP hpk;simp only[hl2]at h;exact yT (by decide) ho hq0 (by omega) hpk h.2
  have bCU:uU z o (oG l 2 no 0) (mQ d.1.length d.2.1.length d.2.2.length)=sortE (mR f l o no (L.getD i.toNat jM) d):=by
   rw[←hel];exact aKS ho hq0 k8 k9 hSH
  have hE:lM z o (oG l 2 no 0) no ⟨l0,IntKind.i64.wrap (no+1),0⟩= .ok (sortE (mR f l o no (L.getD i.toNat jM) d),⟨la,no+1,0⟩):=by
   unfold lM;have hc:(decide (oG l 2 no 0 % 2=0)&&vX (oG l 2 no 0) 2 z.length)=true:=by
    unfold vX;simp only[bF,decide_eq_true_eq];refine⟨by rw[hat.2];unfold oK;omega,⟨⟨by omega,by decide⟩,by omega⟩,by omega⟩
   rw[if_pos hc,hcnt,if_pos (by have:=hf.e1;omega),take_at hk hz hl (by omega) (by rw[hla];exact hpa),bU,bCU];simp only;rw[if_pos (aA9 (QL k8)),hla,aHM (by omega) (by omega)]
  have hT:loopS (stepT z o (L.getD i.toNat jM) no) (sortE (mR f l o no (L.getD i.toNat jM) d)) ([],⟨la,no+1,0⟩)= .ok (d.1,⟨lb,no+1,0⟩):=by
   rw[a5V _ _ (fun x hx=>e4 x ((vR _).subset hx)),JU k8 e1 s1,a2W hk hz ho d.1 [] la (fun x hx=>⟨(hf.tg x hx).1,(hf.tg x hx).2.2⟩) hby.1 hSV hLa (by rw[hlb];exact hpb),hlb];rfl
  have hD:loopS (oJ (nR z o L f) (L.getD i.toNat jM)) (sortE (mR f l o no (L.getD i.toNat jM) d)) ([],⟨lb,no+1,0⟩)= .ok (d.2.1,⟨lc,no+(jT (f+1) d).length,0⟩):=by
   rw[a5U,JU k8 e2 s2];have hr:=aKT (o:=o) (z:=z) (l:=l) (L:=L) (sh:=L.getD i.toNat jM) (ss:=d.2.1) (no:=no) hLb hn0 (fun j hj l2 hl2 hp2=>by
    have hsi:=PO hL (i:=i.toNat) (by omega) (k2 j hj).1;have hsN:=LU f d.2.1 no hj;have h1:=DR f d.2.1 no j;have h2:=DR f d.2.1 no (j+1);have:=a2X hL f _ (pQ f d.2.1 no j) (qH (L.getD i.toNat jM) (d.2.1.getD j (0,jS f)).1) 0 l2 (by omega) (by omega) (hf.sb j hj).2 (hby.2.1 _ (by rw[jI hj];exact bL hj)) (k2 j hj).2 (hsub j hj) hl2 hp2 (by omega) (by omega);rw[←hsN]at this;exact this) (by rw[hlc];exact hpc) d.2.1.length (aU _)
   rw[bP (aU _),a9F,hlc]at hr;rw[hr];congr 3
   omega
  have bCV:(sortE (mR f l o no (L.getD i.toNat jM) d)).length=mQ d.1.length d.2.1.length d.2.2.length:=by rw[uQ,hel]
  have aXF:=JU k8 e3 s3;have hB:sQ z (L.getD i.toNat jM) (sortE (mR f l o no (L.getD i.toNat jM) d)) no ⟨lc,no+(jT (f+1) d).length,0⟩= .ok (d.2.2,⟨if 0<d.2.2.length then mZ lc 4 no 0 (d.2.2.length:Nat)else lc,no+(jT (f+1) d).length,0⟩):=by
   unfold sQ;rw[aXF];unfold xR;by_cases hb:0<d.2.2.length
   ·rw[if_pos hb]at hp ⊢;have hst:=hSB ((oG l 4 no 0).toNat,d.2.2) (by unfold xS;rw[if_pos hb];exact bJ ..);simp only;rw[if_pos (by omega),take_at hk hz hLc (by omega) hp];simp only;rw[bU,hst.2,if_pos hb]
   ·rw[if_neg hb]at hp ⊢;have:d.2.2= []:=List.length_eq_zero_iff.1 (by omega);simp only;rw[if_neg hb,this]
  have hone:¬((sortE (mR f l o no (L.getD i.toNat jM) d)).filter (fun x=> !kT (L.getD i.toNat jM) x.1&&nY (L.getD i.toNat jM) x.1)).length=1:=by
   rw[aXF];unfold xR;split <;> simp
  rw[M4];dsimp only
  rw[hE];simp only;rw[hT];simp only;rw[if_neg hone,hD];simp only;rw[hB];simp only;rw[bCV,hnx];rfl
end
def wZ (z:List Int) (o:Int) (L:List lV) (g:Nat):Nat→List (jD g)→Int→Int→St→Except Int (List (jD g)×St)
 |0,_,_,_,_=> .error 2
 |f+1,acc,p,sh,s=>
  if 0<p∨acc.length=0 then
   if 0≤sh then
    match nR z o L g p sh s with
    | .error e=> .error e
    | .ok ((d,next),s')=>wZ z o L g f (acc++ [d]) next (L.getD sh.toNat jM).2.2.2 s'
   else .error 2
  else .ok (acc,s)
def C9 (z:List Int) (L:List lV) (g:Nat):Except Int (List (jD g)×St):=
 if l9 L=true then
  match u7 z with
  | .error e=> .error e
  | .ok s=>wZ z (kN z) L g 18 [] (kZ z 4 4 (kN z)) 0 s
 else .error 1
theorem a2Y (z:List Int) (o:Int) (L:List lV):∀n acc p sh s,wZ z o L 16 n acc p sh s=JD z o L n acc p sh s
 |0,_,_,_,_=>rfl
 |n+1,acc,p,sh,s=>by
  unfold wZ JD;split
  ·split
   ·cases nR z o L 16 p sh s with
    |error e=>rfl
    |ok r=>
     obtain⟨⟨d,next⟩,s'⟩:=r;exact a2Y z o L n _ _ _ _
   ·rfl
  ·rfl
theorem QT (z:List Int) (L:List lV):C9 z L 16=qF z L:=by
 unfold C9 qF;split
 ·cases u7 z with
  |error e=>rfl
  |ok s=>exact a2Y z _ L _ _ _ _ _
 ·rfl
theorem aP7 {L:List lV} (hL:l9 L=true) {n:Nat} (h:chainB L n=true):∀k,k<n→(k:Int)≤mI L k
 |0,_=>by show(0:Int)≤0;decide
 |k+1,hk=>by
  have ih:=aP7 hL h k (by omega);have h0:=YV h (k:=k+1) hk;have hl:=BO hL k;have:=UW (vY hL (i:=(mI L k).toNat) (by omega));have e:mI L (k+1)=(L.getD (mI L k).toNat jM).2.2.2:=rfl;rw[e]at h0 ⊢;omega
section
variable {f:Nat} {o:Int} {ds:List (jD f)} {L:List lV} (h:mJ f o ds L=0) (hb:∀d∈ds,pU f d)
structure Holds (f:Nat) (o:Int) (ds:List (jD f)) (L:List lV) (z:List Int):Prop where
 std:Std z (JR f o ds L)
 nul:∀(m:Int) (e:Nat),((2,m,0,6+12*(e:Int)):DN)∈tH f ds→(∀k,k+1<ds.length→noT f ds k≠m)→kZ z (oG (jV f ds) 2 m 0+2+12*(e:Int)) 4 o=0
 len:lS (jV f ds)≤z.length
include h
theorem TM:ds.length≤16∧1≤ds.length:=by
 obtain⟨h1,h2,h3,h4,h5,h6⟩:=pW h;have:=aP7 h1 h4 (ds.length - 1) (by omega);have h7:=BO h1 (ds.length - 1);have h8:=UU h1;omega
theorem aP8 {k:Nat} (hk:k<ds.length):0<(jT f (ds.getD k (jS f))).length:=by
 have hh:=oC (pW h).2.2.2.2.1 hk;cases f with
 |zero=>exact absurd hh (by simp[lQ])
 |succ f=>rw[lN];simp
theorem b5X {a b:Nat} (hab:a<b) (hbn:b≤ds.length):noT f ds a<noT f ds b:=by
 have h1:=BX f ds (show a<ds.length by omega);have h2:=aP8 h (show a<ds.length by omega);have h3:=QN f ds (show a+1≤b by omega);omega
include hb
theorem aAC {q:Pt} (hq:q∈JR f o ds L):(InQ (jV f ds) (fun s=>s.2.1= -1) q)∨(∃k,k<ds.length∧IW (jV f ds) (fun s=>noT f ds k≤s.2.1∧s.2.1<noT f ds (k+1)) q)∨
  (∃k,k+1<ds.length∧∃s∈jV f ds,BP s=(2,noT f ds k,0)∧(q.1:Int)=s.2.2.2.1+s.2.2.2.2 - 4∧q.2.length=4∧s.2.2.2.1≤q.1):=by
 obtain⟨s,s1,s2,s3,s4⟩:=aP4 (f:=f) (ds:=ds);have ho:=(pW h).2.1;have p42:(kL 42 2 o).length=2:=mP (n:=42) (s:=2) ((kP ho).2 (by decide));have p8:(kL 8 4 o).length=4:=mP (n:=8) (s:=4) ((kP ho).2 (by decide));have sg:=BF (o:=o);rcases bQ.1 hq with rfl|hq
 ·exact .inl ⟨s,s1,s2,by rw[s3];exact fP _,by rw[s3,s4];show((0:Nat):Int)+(A9 o).length≤_;omega⟩
 rcases bQ.1 hq with rfl|hq
 ·exact .inl ⟨s,s1,s2,by rw[s3];show(0:Int)≤(2:Nat);omega,by rw[s3,s4];show((2:Nat):Int)+(kL 42 2 o).length≤_;omega⟩
 rcases bQ.1 hq with rfl|hq
 ·exact .inl ⟨s,s1,s2,by rw[s3];show(0:Int)≤(4:Nat);omega,by rw[s3,s4];show((4:Nat):Int)+(kL 8 4 o).length≤_;omega⟩
 obtain⟨k,hk,hq⟩:=dK.1 hq;have hk:=bW.1 hk;rcases bH.1 hq with hq|hq
 ·exact .inr (.inl ⟨k,hk,(YZ h hb hk).1 q hq⟩)
 ·obtain⟨a1,a2,t,t1,t2,t3⟩:=Z0 h hb hk hq;obtain⟨v,i1,i2,i3,i4,i5,_⟩:=BD h hk;have hst:t=v:=a5P (F5 f ds (uH (pW h).2.2.2.2.1)) t1 i1 (t2.trans i2.symm);subst hst;exact .inr (.inr ⟨k,a1,t,t1,t2,t3,a2,by omega⟩)
theorem aKU {m:Int} {s:lK} (hs:s∈jV f ds) (hsk:BP s=(2,m,0)) (hm:0≤m) (hne:∀k,k+1<ds.length→noT f ds k≠m) {q:Pt} (hq:q∈JR f o ds L):(q.1:Int)+q.2.length≤s.2.2.2.1+s.2.2.2.2 - 4∨s.2.2.2.1+s.2.2.2.2≤q.1∨(q.1:Int)+q.2.length≤s.2.2.2.1:=by
 have hA:=BZ f ds;rcases aAC h hb hq with hp|⟨k,hk,hp⟩|⟨k,hk,t,t1,t2,t3,t4,t5⟩
 ·obtain⟨t,t1,t2,t3,t4⟩:=hp;have hn:t≠s:=fun e=>by rw[e,(yE hsk).2.1]at t2;omega
  rcases EU hA t1 hs hn with e|e <;> unfold Ahead at e <;> omega
 ·obtain⟨t,t1,t2,t3,t4⟩:=hp;by_cases e:t=s
  ·subst e;rw[if_pos (yE hsk).1]at t4;omega
  ·rcases EU hA t1 hs e with e|e <;> unfold Ahead at e <;> split at t4 <;> omega
 ·have hn:t≠s:=fun e=>by
   rw[e]at t2;have:=(yE (hsk.symm.trans t2▸t2)).2.1;have h1:=(yE hsk).2.1;have h2:=(yE t2).2.1;exact hne k hk (h2.symm.trans h1)
  rcases EU hA t1 hs hn with e|e <;> unfold Ahead at e <;> omega
omit h hb in
theorem aKV {z:List Int} {p o:Int} (ho:o=1∨o=2) (h0:0≤p) (h1:p+4≤z.length) (hz:∀k:Nat,p≤k→(k:Int)<p+4→z.getD k 0=0):kZ z p 4 o=0:=by
 have e:(z.drop p.toNat).take (4:Int).toNat= [0,0,0,0]:=by
  refine AZ (by simp;omega) fun k hk=>?_;have hk4:k<4:=by simp at hk;omega
  have h2:=hz (p.toNat+k) (by omega) (by omega);simp only[aV,dI,eT]at h2 ⊢;rw[if_pos (by omega),h2];rcases(by omega:k=0∨k=1∨k=2∨k=3)with rfl|rfl|rfl|rfl <;> rfl
 rw[LY (by decide) ho h0 (by omega)];unfold NJ;rw[e];split <;> rfl
theorem aHN (m:Nat):Holds f o ds L (uG f o ds L++List.replicate m 0):=by
 have hlen:=a2V h hb;have hin:=FD h hb;have hLo:=QJ (pW h).2.2.2.2.2;have ho:=(pW h).2.1;refine⟨fun p hp=>?_,fun n e hx hne=>?_,by rw[bO,hlen];omega⟩
 ·have h1:=hin p hp;have h2:=aKR h hb hp;refine⟨by rw[bO,hlen];omega,?_⟩;rw[List.drop_append_of_le_length (by rw[hlen];omega),dU (by rw[fH,hlen];omega)];exact h2
 ·have b5Y:=uH (pW h).2.2.2.2.1;obtain⟨s,g1,g2,g3,g4,_,g5,_,g6⟩:=F6 b5Y hx;simp only at g3 g4 g6;have hm:0≤n:=by
   rcases bQ.1 hx with e1|hx
   ·have:=congrArg (fun k=>k.1) e1;simp at this
   ·obtain⟨j,_,hx⟩:=yD hx;have:=(DT _ _ _ _ hx).1;simp only at this;omega
  refine aKV ho (by omega) (by rw[bO,hlen];omega) fun k hk1 hk2=>?_;have hkl:k<(uG f o ds L).length:=by rw[hlen];omega
  rw[aV,fV hkl,←aV,QS h hb,WW _ _ k (by simp only[List.length_replicate];exact hin) fun q hq=>?_]
  ·rw[aV,List.getElem?_replicate];split <;> rfl
  ·have:=aKU h hb g1 g2 hm hne hq;intro hc;omega
omit h hb in
theorem aAD {z:List Int} (hH:Holds f o ds L z):∀(g:Nat) (d:jD g) (no i nx:Int),lQ L g d i=true→(∀x∈mU g d no,x∈tH f ds)→(∀p∈IV L (jV f ds) o g d no i,p∈JR f o ds L)→
  (∀m,no<m→m<no+(jT g d).length→∀k,k+1<ds.length→noT f ds k≠m)→kZ z (oG (jV f ds) 2 no 0+2+12*((WG g d:Nat):Int)) 4 o=nx→aHL z L (jV f ds) o g d no i nx
 |0,_,_,_,_,hh,_,_,_,_=>absurd hh (by simp[lQ])
 |g+1,d,no,i,nx,hh,hin,hq,hm,hnx=>by
  have hf:=nS.1 hh;have hfl:(jT (g+1) d).length=(kD g d.2.1).length+1:=by rw[lN];rfl
  refine⟨fun p hp=>hH.std p (hq p (by rw[F9];exact bH.2 (.inr hp))),hnx,fun j hj=>?_⟩;have h1:=LU g d.2.1 no hj;have h2:=DR g d.2.1 no j;have h3:=DR g d.2.1 no (j+1);have hpos:0<(jT g (d.2.1.getD j (0,jS g)).2).length:=by
   have hh2:=(hf.sb j hj).2;cases g with
   |zero=>exact absurd hh2 (by simp[lQ])
   |succ g=>rw[lN];simp
  refine aAD hH g _ _ _ _ (hf.sb j hj).2 (fun x hx=>hin x (YW hj x hx)) (fun p hp=>hq p ?_) (fun m a b=>hm m (by omega) (by omega)) (hH.nul _ _ (hin _ (YW hj _ (JN (hf.sb j hj).2 _))) (hm _ (by omega) (by omega)));rw[F9];refine bH.2 (.inl (dK.2 ⟨j,bW.2 hj,hp⟩))
def JV (f:Nat) (ds:List (jD f)) (k:Nat):Int:=if k<ds.length then oG (jV f ds) 2 (noT f ds k) 0 else 0
theorem aP9 {z:List Int} (hH:Holds f o ds L z) {k:Nat} (hk:k<ds.length):aHL z L (jV f ds) o f (ds.getD k (jS f)) (noT f ds k) (mI L k) (JV f ds (k+1)):=by
 have bMJ:=(pW h).2.2.2.2.1;have ho:=(pW h).2.1;have hh:=oC bMJ hk;have hst:=BX f ds hk;obtain⟨s,g1,g2,g3,g4,g5,g6⟩:=BD h hk;refine aAD hH f _ _ _ _ hh (F8 hk) (fun p hp=>?_) (fun m a b j hj e=>?_) ?_
 ·refine aZ _ (aZ _ (aZ _ (dK.2 ⟨k,bW.2 hk,bH.2 (.inl hp)⟩)))
 ·rw[←hst]at b;rcases Nat.lt_trichotomy j k with c|c|c
  ·have:=QN f ds (show j≤k by omega);omega
  ·subst c;omega
  ·have:=QN f ds (show k+1≤j by omega);omega
 ·unfold JV;by_cases hk1:k+1<ds.length
  ·rw[if_pos hk1];have hpk:=(GQ h hb).pk (k+1) hk1;have hl:=hH.std (uI (jV f ds) o f ds (k+1)) (aZ _ (aZ _ (aZ _ (dK.2 ⟨k,bW.2 hk,bH.2 (.inr (by unfold nextQ;rw[if_pos hk1];exact dD.2 rfl))⟩))));unfold uI at hl;have hlk:QC (jV f ds) f ds (k+1)=oG (jV f ds) 2 (noT f ds k) 0+2+12*((WG f (ds.getD k (jS f)):Nat):Int):=rfl;rw[hlk]at hl;simp only[show(kL (oG (jV f ds) 2 (noT f ds (k+1)) 0) 4 o).length=4 from mP hpk]at hl;exact yT (by decide) ho (by omega) (by have:=hH.len;omega) hpk hl.2
  ·rw[if_neg hk1];refine hH.nul _ _ (F8 hk _ (JN hh _)) fun j hj e=>?_;have:=b5X h (show j<k by omega) (by omega);omega
theorem Z5 {z:List Int} (hH:Holds f o ds L z) (hN:(lX f ds).length<1000000) (e:Nat):∀(m k:Nat),k+m=ds.length→wZ z o L f (m+1+e) (ds.take k) (JV f ds k) (mI L k) ⟨(jZ f ((wL f ds).take k) (mZ [] 1 (-1) 0 8,0)).1,noT f ds k,0⟩= .ok (ds,⟨jV f ds,noT f ds ds.length,0⟩)
 |0,k,hk=>by
  obtain⟨_,hn⟩:=TM h;rw[show 0+1+e=e+1 by omega];unfold wZ;have hp:JV f ds k=0:=by unfold JV;rw[if_neg (by omega)]
  rw[hp,if_neg (by rw[eO];omega),bP (by omega),bP (by unfold wL;rw[bX];omega),show k=ds.length by omega];rfl
 |m+1,k,hk=>by
  have hO:=GQ h hb;obtain⟨h1,h2,h3,h4,h5,h6⟩:=pW h;have hLg:=QJ h6;have hkl:k<ds.length:=by omega
  have hkp:k<(wL f ds).length:=by unfold wL;rw[bX];exact hkl
  have b5Y:=uH h5;have hg:ds.getD k (jS f)=ds[k]:=jI hkl _;have hL8:Lo (mZ [] 1 (-1) 0 8):=Lo.add ⟨fP _,fun s hs=>by cases hs⟩ (by decide);have hLo:=WX f ((wL f ds).take k) (mZ [] 1 (-1) 0 8,0) hL8;have hst:=AL f (wL f ds) (mZ [] 1 (-1) 0 8,0) hkp;have hno:(jZ f ((wL f ds).take k) (mZ [] 1 (-1) 0 8,0)).2=noT f ds k:=by
   rw[a5T];have:(wL f ds).take k=wL f (ds.take k):=by unfold wL;rw[iH]
   rw[this,AY];unfold noT;simp
  rw[hno,aHC f ds hkp hkl]at hst;have hpre:vB f ds[k] (noT f ds k) (jZ f ((wL f ds).take k) (mZ [] 1 (-1) 0 8,0)).1<+:jV f ds:=by
   have:=ND f (wL f ds) (mZ [] 1 (-1) 0 8,0) (k+1);rw[hst]at this;exact this
  have hz:∀s∈jV f ds,s.2.2.2.1+s.2.2.2.2≤z.length:=fun s hs=>by
   have hs2:=hs;rw[(vO f ds).1]at hs2;have:=ET (tH f ds) 0 (fP _) (GK f ds) s hs2;rw[←(vO f ds).2]at this;have:=hH.len;omega
  have hnx:=hO.nx k hkl;have hnl:=BO h1 k;have hnn:=JM f ds k;have bUO:=JM f ds (k+1);have hns:=BX f ds hkl;have hr:=a2X (F5 f ds b5Y) hz h2 h1 f (ds.getD k (jS f)) (noT f ds k) (mI L k) (JV f ds (k+1)) (jZ f ((wL f ds).take k) (mZ [] 1 (-1) 0 8,0)).1 hnx (by omega) (oC h5 hkl) (hb _ (by rw[hg];exact bL hkl)) (hO.dir k hkl) (aP9 h hb hH hkl) hLo (by rw[hg];exact hpre) (by omega) (by omega);have hp:JV f ds k=oG (jV f ds) 2 (noT f ds k) 0:=by unfold JV;rw[if_pos hkl]
  have hpos:0<JV f ds k:=by
   obtain⟨s,g1,g2,g3,g4,g5,g6⟩:=BD h hkl;obtain⟨t,t1,t2,t3,t4⟩:=aP4 (f:=f) (ds:=ds);have hne:t≠s:=fun e=>by rw[e,(yE g2).2.1]at t2;omega
   rw[hp,←g3];rcases EU (BZ f ds) t1 g1 hne with e|e <;> unfold Ahead at e <;> omega
  rw[show m+1+1+e=(m+1+e)+1 by omega];unfold wZ;rw[if_pos (.inl hpos),if_pos hnx,hp,hr];simp only;have ih:=Z5 hH hN e m (k+1) (by omega);rw[hst,hns]at ih;rw[dN,aX hkl,fG]at ih;rw[hg]at ih ⊢;exact ih
theorem aKW {z:List Int} (hH:Holds f o ds L z) (hN:(lX f ds).length<1000000):C9 z L f= .ok (ds,⟨jV f ds,noT f ds ds.length,0⟩):=by
 obtain⟨h1,h2,h3,h4,h5,h6⟩:=pW h;obtain⟨n16,n1⟩:=TM h;have h8:=QK f ds;have hlen:=hH.len;have hsg:=hH.std (0,A9 o) (bJ ..);have Z6:=hH.std (2,kL 42 2 o) (aZ _ (bJ ..));have h84:=hH.std (4,kL 8 4 o) (aZ _ (aZ _ (bJ ..)));have k42:kX 42 2 o=true:=(kP h2).2 (by decide);have k8:kX 8 4 o=true:=(kP h2).2 (by decide);have l42:(kL 42 2 o).length=2:=mP k42;have l8:(kL 8 4 o).length=4:=mP k8;simp only[l42]at Z6;simp only[l8]at h84;simp only[BF,gG]at hsg;have uN:kN z=o:=by
  match z,hsg.2,hlen with
  | [],_,hl=>simp at hl;omega
  | [x],hh,_=>have:=congrArg List.length hh;simp[BF]at this
  |x::y::r,hh,_=>
   unfold A9 at hh;unfold kN;rcases h2 with rfl|rfl
   ·rw[if_neg (by decide)]at hh;obtain⟨rfl,rfl⟩:x=73∧y=73:=by simpa using hh
    rfl
   ·rw[if_pos rfl]at hh;obtain⟨rfl,rfl⟩:x=77∧y=77:=by simpa using hh
    rfl
 have g42:kZ z 2 2 o=42:=yT (by decide) h2 (by decide) (by omega) k42 Z6.2;have g8:kZ z 4 4 o=8:=yT (by decide) h2 (by decide) (by omega) k8 h84.2;have hhd:u7 z= .ok ⟨mZ [] 1 (-1) 0 8,0,0⟩:=by
  unfold u7;rw[if_pos (by omega),uN,if_pos ⟨by omega,g42⟩];exact aA6 (l0:= []) ⟨fP _,fun s hs=>by cases hs⟩ (by decide) (by show(0:Int)+8≤z.length;omega)
 unfold C9;rw[if_pos h1,hhd,uN,g8];simp only;have hc:=Z5 h hb hH hN (17 - ds.length) ds.length 0 (by omega);have e1:ds.length+1+(17 - ds.length)=18:=by omega
 have e2:JV f ds 0=8:=by unfold JV;rw[if_pos (by omega)];exact aP5 h hb
 rw[e1,e2]at hc;exact hc
end
