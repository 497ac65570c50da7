import Derived.Test.YtceclmpmpldmlaaGreatCw23
set_option linter.unusedSimpArgs false
set_option linter.unusedVariables false
namespace Go.Proofs.YtceclmpmpldmlaaGreat
open Go.RowKit Tt
theorem QF {α:Type} {l:List α} (h:¬0<l.length):l= []:=dS aG
theorem aFY {x:pX} (h:lU x=0):∀t∈x.p,t.1≠37500:=fun t ht=>by
 obtain⟨h1,h2,h3,h4,h5,h6,h7,h8⟩:=rP h;exact a08 ((AB h4).1 t ht).2.1 37500 (by decide+kernel)
theorem aK3 {ts:List oZ} {t:Int} (h:∀y∈ts,y.1≠t):vD ts t=ts:=by
 unfold vD;exact List.filter_eq_self.2 fun y hy=>by simpa using h y hy
theorem a5P {x:pX} (h:lU x=0):vD (oO x) 37500=x.p∧(pI (oO x) 37500).2.2.2=x.mr∧yP (pI (oO x) 37500)=false:=by
 obtain⟨h1,h2,h3,h4,h5,h6,h7,h8⟩:=rP h;have hc:=aFY h;have hf:=RQ hc;unfold oO;split
 ·rename_i hm;have k:=aAV (AB h4).2 (NS x.mr) (b:=false) (v:=(0,0, [])) hf;have k1:=k.bJN rfl;have k2:=k.found;exact⟨k1,by rw[show(37500:Int)=(NS x.mr).1 from rfl,k2];rfl,by rw[show(37500:Int)=(NS x.mr).1 from rfl,k2];rfl⟩
 ·rename_i hm;exact⟨aK3 hc,by rw[hf,QF hm],by rw[hf];rfl⟩
theorem BU {f:Nat} {d:jY (f+1)} {l:List (Int×jY f)} (h:d.2.1=l) (t:Int):wF (f+1) d t=a1B f (l.find? (fun s=>s.1==t)):=by subst h;rfl
theorem a0A {f:Nat} {d:jY (f+1)} {l:List (Int×jY f)} (h:d.2.1=l) (t u:Int):VF (f+1) d t u=a5H f u (l.find? (fun s=>s.1==t)):=by subst h;rfl
theorem aN9 {x:pX} (h:lU x=0):wF 16 (tT x) 34665=(if DN x=true then oO x else [])∧wF 16 (tT x) 34853=x.g∧VF 16 (tT x) 34665 40965=x.i:=by
 have e1:∀t,wF 16 (tT x) t=a1B 15 ((pO x++qZ x).find? (fun s=>s.1==t)):=fun t=>BU (f:=15) (d:=tT x) rfl t;have e2:VF 16 (tT x) 34665 40965=a5H 15 40965 ((pO x++qZ x).find? (fun s=>s.1==34665)):=a0A (f:=15) (d:=tT x) rfl _ _;have e3:wF 15 (vI x) 40965=x.i:=by
  rw[show wF 15 (vI x) 40965=a1B 14 ((pE x).find? (fun s=>s.1==40965))from BU (f:=14) (d:=vI x) rfl _];unfold pE;split
  ·rfl
  ·rename_i hi;rw[QF hi];rfl
 rw[e1,e1,e2];unfold pO qZ;by_cases hp:DN x=true
 ·rw[if_pos hp,if_pos hp];by_cases hg:0<x.g.length
  ·rw[if_pos hg];exact⟨rfl,rfl,e3⟩
  ·rw[if_neg hg];exact⟨rfl,(QF hg).symm,e3⟩
 ·rw[if_neg hp,if_neg hp];have hi:x.i= []:=by
   unfold DN at hp;simp only[dN,decide_eq_true_eq]at hp;exact QF aG
  by_cases hg:0<x.g.length
  ·rw[if_pos hg];exact⟨rfl,rfl,hi.symm⟩
  ·rw[if_neg hg];exact⟨rfl,(QF hg).symm,hi.symm⟩
theorem a5Q {x:pX} (hp:¬DN x=true):oO x= []:=by
 unfold DN at hp;simp only[dN,decide_eq_true_eq]at hp;unfold oO;rw[if_neg aG];exact QF aG
theorem aK4 {x:pX}:wW 16 ((lS x).getD 1 (kS 16))=x.f∧aN3 16 ((lS x).getD 1 (kS 16))=x.th:=by
 unfold lS;split
 ·exact⟨rfl,rfl⟩
 ·rename_i h;exact⟨(QF aG).symm,(QF aG).symm⟩
theorem a5R {x:pX} (h:lU x=0):wX 16 x.o (lS x)=x:=by
 obtain⟨u1,u2,u3⟩:=aN9 h;obtain⟨p1,p2,p3⟩:=a5P h;obtain⟨f1,f2⟩:= @aK4 x;have e0:(lS x).getD 0 (kS 16)=tT x:=rfl;have hq:(if DN x=true then oO x else [])=oO x:=by
  split
  ·rfl
  ·rename_i hp;rw[a5Q hp]
 unfold wX;rw[e0,u1,u2,u3,f1,f2,hq,p1,p2];rfl
theorem aFZ {x:pX} (h:lU x=0) (hs:vJ x):ofC 16 x.o (lS x)=0∧ofE 16 x.o (lS x)=x:=by
 obtain⟨u1,u2,u3⟩:=aN9 h;obtain⟨p1,p2,p3⟩:=a5P h;have e0:(lS x).getD 0 (kS 16)=tT x:=rfl;have hq:(if DN x=true then oO x else [])=oO x:=by
  split
  ·rfl
  ·rename_i hp;rw[a5Q hp]
 have hc:ofC 16 x.o (lS x)=0:=by
  unfold ofC;rw[if_pos (I6 h hs),e0,u1,hq,p3,if_neg aH,a5R h,if_pos h]
 exact⟨hc,by unfold ofE;rw[if_pos hc];exact a5R h⟩
theorem EC {α σ:Type} {step:σ→α→Except Int σ} {P:σ→Prop} (hs:∀s x s',step s x= .ok s'→P s→P s'):∀{l:List α} {s s':σ},loopS step l s= .ok s'→P s→P s'
 | [],s,s',h,hp=>by
  injection h with h;subst h;exact hp
 |x::r,s,s',h,hp=>by
  rw[zV]at h;cases hx:step s x with
  |error e=>rw[hx]at h;cases h
  |ok s1=>
   rw[hx]at h;exact EC hs h (hs _ _ _ hx hp)
structure Keeps (n:Nat) (P:St→Prop):Prop where
 take:∀x s s',1≤x.2.2.2.2→oG n x s= .ok s'→P s→P s'
 free:∀s s',s'.o5=s.o5→P s→P s'
section
variable {z:List Int} {P:St→Prop} (hP:Keeps z.length P)
include hP
theorem a5S {o p no:Int} {s:St} {l:List oJ} {s':St} (h:nU z o p no s= .ok (l,s')) (hi:P s):P s':=by
 unfold nU at h;split at h
 ·split at h
  ·rename_i h0;cases ht:oG z.length (2,no,0,p,6+12*mM z p 2 o) s with
   |error e=>rw[ht]at h;cases h
   |ok s1=>
    rw[ht]at h;simp only at h;split at h
    ·injection h with h
     injection h with h1 h2;subst h2;exact hP.take _ _ _ (by show 1≤6+12*mM z p 2 o;omega) ht hi
    ·cases h
  ·cases h
 ·cases h
theorem aC7 {o:Int} {x:oJ} {no:Int} {s:St} {v:oZ} {s':St} (h:rY z o x no s= .ok (v,s')) (hi:P s):P s':=by
 unfold rY at h;split at h
 ·split at h
  ·rename_i h0;cases ht:oG z.length (3,no,x.1,x.2.2.2,rT x.2.1 x.2.2.1) s with
   |error e=>rw[ht]at h;cases h
   |ok s1=>
    rw[ht]at h;simp only at h;cases hv:ofS x.2.1 x.2.2.1 (z.drop x.2.2.2.toNat) o with
    |none=>rw[hv]at h;cases h
    |some d=>
     rw[hv]at h;injection h with h;injection h with h1 h2;subst h2;exact hP.take _ _ _ (by show 1≤rT x.2.1 x.2.2.1;omega) ht hi
  ·cases hv:inS x o with
   |none=>rw[hv]at h;cases h
   |some d=>
    rw[hv]at h;injection h with h;injection h with h1 h2;subst h2;exact hP.free s _ rfl hi
 ·cases h
theorem QG {o:Int} {sh:nP} {no:Int} {acc acc':List oZ×St} {x:oJ} (h:stepT z o sh no acc x= .ok acc') (hi:P acc.2):P acc'.2:=by
 unfold stepT at h;split at h
 ·split at h
  ·injection h with h
   subst h;exact hi
  ·cases h
 ·cases hv:rY z o x no acc.2 with
  |error e=>rw[hv]at h;cases h
  |ok r=>
   obtain⟨v,s'⟩:=r;rw[hv]at h;injection h with h;subst h;exact aC7 hP hv hi
theorem a1D {sh:nP} {l:List oJ} {no:Int} {s:St} {b:List Int} {s':St} (h:zB z sh l no s= .ok (b,s')) (hi:P s):P s':=by
 unfold zB at h;split at h
 ·split at h
  ·rename_i x y _ h0;cases ht:oG z.length (4,no,0,x.2.2.2,y.2.2.2) s with
   |error e=>rw[ht]at h;cases h
   |ok s1=>
    rw[ht]at h;injection h with h;injection h with h1 h2;subst h2;exact hP.take _ _ _ (by show 1≤y.2.2.2;omega) ht hi
  ·cases h
 ·injection h with h
  injection h with h1 h2;subst h2;exact hi
theorem VG {o:Int} {L:List nP}:∀{f:Nat} {p sh:Int} {s:St} {r:jY f×Int} {s':St},rV z o L f p sh s= .ok (r,s')→P s→P s'
 |0,_,_,_,_,_,h,_=>by cases h
 |f+1,p,sh,s,r,s',h,hi=>by
  rw[a07]at h;cases hE:nU z o p s.no {s with no:=IntKind.i64.wrap (s.no+1)}with
  |error e=>rw[hE]at h;cases h
  |ok q=>
   obtain⟨l,s1⟩:=q;rw[hE]at h;simp only at h;have i1:=a5S hP hE (hP.free s _ rfl hi);cases hT:loopS (stepT z o (L.getD sh.toNat kQ) s.no) l ([],s1)with
   |error e=>rw[hT]at h;cases h
   |ok q=>
    obtain⟨tags,s2⟩:=q;rw[hT]at h;simp only at h;have i2:P s2:=EC (P:=fun a:List oZ×St=>P a.2) (fun _ _ _ h hp=>QG hP h hp) hT i1;split at h
    ·cases h
    cases hD:loopS (vF (rV z o L f) (L.getD sh.toNat kQ)) l ([],s2)with
    |error e=>rw[hD]at h;cases h
    |ok q=>
     obtain⟨subs,s3⟩:=q;rw[hD]at h;simp only at h;have i3:P s3:=EC (P:=fun a:List (Int×jY f)×St=>P a.2) (fun acc x acc' h hp=>by
      unfold vF at h;split at h
      ·cases hr:rV z o L f x.2.2.2 ((L.getD sh.toNat kQ).1.getD (fst (fun y=>y.1==x.1) (L.getD sh.toNat kQ).1).toNat (0,0)).2 acc.2 with
       |error e=>rw[hr]at h;cases h
       |ok q=>
        obtain⟨⟨d,nx⟩,s9⟩:=q;rw[hr]at h;simp only at h;split at h
        ·injection h with h
         subst h;exact VG hr hp
        ·cases h
      ·injection h with h
       subst h;exact hp) hD i2
     cases hB:zB z (L.getD sh.toNat kQ) l s.no s3 with
     |error e=>rw[hB]at h;cases h
     |ok q=>
      obtain⟨blob,s4⟩:=q;rw[hB]at h;injection h with h;injection h with h1 h2;subst h2;exact a1D hP hB i3
theorem N7 {o:Int} {L:List nP} {g:Nat}:∀{n:Nat} {acc:List (jY g)} {p sh:Int} {s:St} {r:List (jY g)} {s':St},FU z o L g n acc p sh s= .ok (r,s')→P s→P s'
 |0,_,_,_,_,_,_,h,_=>by cases h
 |n+1,acc,p,sh,s,r,s',h,hi=>by
  unfold FU at h;split at h
  ·split at h
   ·cases hr:rV z o L g p sh s with
    |error e=>rw[hr]at h;cases h
    |ok q=>
     obtain⟨⟨d,nx⟩,s9⟩:=q;rw[hr]at h;exact N7 h (VG hP hr hi)
   ·cases h
  ·injection h with h
   injection h with h1 h2;subst h2;exact hi
end
theorem LW {n:Nat} {x:mZ} {s s':St} (h:oG n x s= .ok s'):WX n x=true∧WW s x.2.2.2.1 x.2.2.2.2.toNat=true∧s'={s with o5:=s.o5++ [x]}:=by
 unfold oG at h;split at h
 ·rename_i h1;split at h
  ·rename_i h2;injection h with h;exact⟨h1,h2,h.symm⟩
  ·cases h
 ·cases h
def zI (s S:St):Prop:=∀k:Nat,nH s k=true→nH S k=true
theorem zI.refl (s:St):zI s s:=fun _ h=>h
theorem zI.trans {a b c:St} (h:zI a b) (h2:zI b c):zI a c:=fun k hk=>h2 k (h k hk)
theorem aQT {s s':St} (h:s'.o5=s.o5) (k:Int):nH s' k=nH s k:=by unfold nH;rw[h]
theorem I7 (n:Nat) (s0:St):Keeps n (zI s0):=⟨fun x s s' _ h hp k hk=>by
 obtain⟨_,_,rfl⟩:=LW h;have h2:=hp k hk;unfold nH at h2 ⊢;rw[List.any_append,h2];rfl,fun s s' h hp k hk=>by rw[aQT h];exact hp k hk⟩
def Ag (z z2:List Int) (S:St):Prop:=z.length≤z2.length∧∀k:Nat,k<z.length→nH S k=true→z2.getD k 0=z.getD k 0
theorem N8 {n n2:Nat} (hn:n≤n2) {x:mZ} {s s':St} (h:oG n x s= .ok s'):oG n2 x s= .ok s':=by
 obtain⟨h1,h2,rfl⟩:=LW h;unfold oG;have hf:WX n2 x=true:=by
  unfold WX zZ at h1 ⊢;simp only[bK,decide_eq_true_eq]at h1 ⊢;omega
 rw[if_pos hf,if_pos h2]
theorem VH {z z2:List Int} {S:St} (hA:Ag z z2 S) {p n:Nat} (hl:p+n≤z.length) (ht:∀k:Nat,p≤k→k<p+n→nH S k=true):(z2.drop p).take n=(z.drop p).take n:=by
 have hz:=hA.1;refine H7 (by simp;omega) fun k hk=>?_;have hk2:k<n:=by simp at hk;omega
 have:=hA.2 (p+k) aG (ht (p+k) aG aG);simp only[aZ,dM,eY]at this ⊢;rw[if_pos hk2,if_pos hk2,this]
theorem AJ {z z2:List Int} {S:St} (hA:Ag z z2 S) {p s o:Int} (hs:s=1∨s=2∨s=4) (ho:o=1∨o=2) (h0:0≤p) (hl:p+s≤z.length) (ht:∀k:Nat,p≤k→(k:Int)<p+s→nH S k=true):mM z2 p s o=mM z p s o:=by
 have hz:=hA.1;rw[SE hs ho h0 hl,SE hs ho h0 aG];unfold UQ;rw[VH hA (p:=p.toNat) (n:=s.toNat) aG fun k a b=>ht k aG aG]
theorem J2 {s:St} {x:mZ} (h:x∈s.o5) (k:Nat) (h1:x.2.2.2.1≤k) (h2:(k:Int)<x.2.2.2.1+x.2.2.2.2):nH s k=true:=by
 unfold nH;rw[jP];refine⟨x,h,?_⟩;unfold ZT;simp only[bK,decide_eq_true_eq];exact⟨h1,h2⟩
theorem aK5 {n:Nat} {x:mZ} (h:WX n x=true):x.2.2.2.1 % 2=0∧0≤x.2.2.2.1∧0≤x.2.2.2.2∧x.2.2.2.1+x.2.2.2.2≤n:=by
 unfold WX zZ at h;simp only[bK,decide_eq_true_eq]at h;omega
section
variable {z z2:List Int}
theorem aK6 {S:St} (hA:Ag z z2 S) {o p:Int} (ho:o=1∨o=2) (h0:0≤p) (hl:p+12≤z.length) (ht:∀k:Nat,p≤k→(k:Int)<p+12→nH S k=true):WT z2 o p=WT z o p:=by
 unfold WT;rw[AJ hA aH ho h0 aG (fun k a b=>ht k aG aG),AJ hA aH ho aG aG (fun k a b=>ht k aG aG),AJ hA aH ho aG aG (fun k a b=>ht k aG aG),AJ hA aH ho aG aG (fun k a b=>ht k aG aG)]
theorem a5T {o p no:Int} (ho:o=1∨o=2) {s:St} {l:List oJ} {s':St} (h:nU z o p no s= .ok (l,s')) {S:St} (hS:zI s' S) (hA:Ag z z2 S):nU z2 o p no s= .ok (l,s')∧mM z2 (p+2+12*l.length) 4 o=mM z (p+2+12*l.length) 4 o:=by
 have hz:=hA.1;unfold nU at h ⊢;split at h
 ·rename_i hc;split at h
  ·rename_i h0;cases ht:oG z.length (2,no,0,p,6+12*mM z p 2 o) s with
   |error e=>rw[ht]at h;cases h
   |ok s1=>
    rw[ht]at h;simp only at h;split at h
    ·rename_i hr;injection h with h;injection h with h1 h2;subst h1 h2;obtain⟨hf,_,NW⟩:=LW ht;have hf:=aK5 hf;simp only at hf;have NV:∀k:Nat,p≤k→(k:Int)<p+(6+12*mM z p 2 o)→nH S k=true:=fun k a b=>hS k (J2 (x:=(2,no,0,p,6+12*mM z p 2 o)) (by rw[NW];simp) k a b);have hg:mM z2 p 2 o=mM z p 2 o:=AJ hA aH ho aG aG fun k a b=>NV k a aG
     have hc2:(decide (p % 2=0)&&zZ p 2 z2.length)=true:=by
      unfold zZ at hc ⊢;simp only[bK,decide_eq_true_eq]at hc ⊢;omega
     have he:BM z2 o p (mM z p 2 o).toNat=BM z o p (mM z p 2 o).toNat:=by
      unfold BM;refine List.map_congr_left fun i hi=>?_;have hi:=cZ.1 hi;exact aK6 hA ho aG aG fun k a b=>NV k aG aG
     rw[if_pos hc2,hg,if_pos h0,N8 hz ht,he];simp only;rw[if_pos hr];refine⟨rfl,?_⟩;have xM:(BM z o p (mM z p 2 o).toNat).length=(mM z p 2 o).toNat:=by unfold BM;simp
     rw[xM];exact AJ hA aH ho aG aG fun k a b=>NV k aG aG
    ·cases h
  ·cases h
 ·cases h
theorem aVN {y c:Int} {b b2 d:List Int} {o:Int} (h:ofS y c b o=some d) (hl:b.length≤b2.length) (ht:b2.take (c*(lI y).1).toNat=b.take (c*(lI y).1).toNat):ofS y c b2 o=some d:=by
 unfold ofS at h ⊢;split at h
 ·cases h
 ·rename_i h1;rw[if_neg aG,ht];exact h
theorem aC8 {o:Int} (ho:o=1∨o=2) {x:oJ} {no:Int} {s:St} {v:oZ} {s':St} (h:rY z o x no s= .ok (v,s')) {S:St} (hS:zI s' S) (hA:Ag z z2 S):rY z2 o x no s= .ok (v,s'):=by
 have hz:=hA.1;unfold rY at h ⊢;split at h
 ·rename_i hc;rw[if_pos hc];split at h
  ·rename_i h0;rw[if_pos h0];cases ht:oG z.length (3,no,x.1,x.2.2.2,rT x.2.1 x.2.2.1) s with
   |error e=>rw[ht]at h;cases h
   |ok s1=>
    rw[ht]at h;rw[N8 hz ht];simp only at h ⊢;cases hv:ofS x.2.1 x.2.2.1 (z.drop x.2.2.2.toNat) o with
    |none=>rw[hv]at h;cases h
    |some d=>
     rw[hv]at h;simp only at h;have h':=h;injection h with h;injection h with h1 h2;obtain⟨hf,_,NW⟩:=LW ht;have hf:=aK5 hf;simp only at hf
     have hlo:rT x.2.1 x.2.2.1=x.2.2.1*(lI x.2.1).1:=by
      unfold rT at h0 ⊢;split at h0
      ·rename_i h4;rw[if_pos h4];unfold G6;rw[if_neg aG]
      ·omega
     rw[←h2]at hS;have:=aVN (b2:=z2.drop x.2.2.2.toNat) hv (by rw[gF,gF];omega) (by
      rw[←hlo];exact VH hA aG fun k a b=>hS k (J2 (x:=(3,no,x.1,x.2.2.2,rT x.2.1 x.2.2.1)) (by rw[NW];simp) k (by show x.2.2.2≤k;omega) (by show(k:Int)<x.2.2.2+rT x.2.1 x.2.2.1;omega)))
     rw[this];exact h'
  ·rename_i h0;rw[if_neg h0];exact h
 ·cases h
theorem aG0 {o:Int} (ho:o=1∨o=2) {sh:nP} {no:Int} {acc acc':List oZ×St} {x:oJ} (h:stepT z o sh no acc x= .ok acc') {S:St} (hS:zI acc'.2 S) (hA:Ag z z2 S):stepT z2 o sh no acc x= .ok acc':=by
 unfold stepT at h ⊢;split at h
 ·rename_i hc;rw[if_pos hc];exact h
 ·rename_i hc;rw[if_neg hc];cases hv:rY z o x no acc.2 with
  |error e=>rw[hv]at h;cases h
  |ok r=>
   obtain⟨v,s'⟩:=r;rw[hv]at h;injection h with h;subst h;rw[aC8 ho hv hS hA]
theorem VI {α β:Type} {step step2:β×St→α→Except Int (β×St)} (hm:∀s x s',step s x= .ok s'→zI s.2 s'.2) {S:St} (hl:∀s x s',step s x= .ok s'→zI s'.2 S→step2 s x= .ok s'):∀(l:List α) (s s':β×St),loopS step l s= .ok s'→zI s'.2 S→loopS step2 l s= .ok s'
 | [],_,_,h,_=>h
 |x::l,s,s',h,hS=>by
  rw[zV]at h ⊢;cases hx:step s x with
  |error e=>rw[hx]at h;cases h
  |ok s1=>
   rw[hx]at h;simp only at h;have NW:zI s1.2 s'.2:=EC (P:=fun a:β×St=>zI s1.2 a.2) (fun a y b h hp=>hp.trans (hm a y b h)) h (zI.refl _);rw[hl s x s1 hx (NW.trans hS)];exact VI hm hl l s1 s' h hS
theorem aG1 {sh:nP} {l:List oJ} {no:Int} {s:St} {b:List Int} {s':St} (h:zB z sh l no s= .ok (b,s')) {S:St} (hS:zI s' S) (hA:Ag z z2 S):zB z2 sh l no s= .ok (b,s'):=by
 have hz:=hA.1;unfold zB at h ⊢;split at h
 ·rename_i x y heq;split at h
  ·rename_i h0;cases ht:oG z.length (4,no,0,x.2.2.2,y.2.2.2) s with
   |error e=>rw[ht]at h;cases h
   |ok s1=>
    rw[ht]at h;rw[if_pos h0,N8 hz ht];obtain⟨hf,_,NW⟩:=LW ht;have hf:=aK5 hf;simp only at hf;have h':=h;injection h with h;injection h with h1 h2;rw[←h2]at hS;simp only;rw[VH hA (p:=x.2.2.2.toNat) (n:=y.2.2.2.toNat) aG fun k a b=>hS k (J2 (x:=(4,no,0,x.2.2.2,y.2.2.2)) (by rw[NW];simp) k (by show x.2.2.2≤k;omega) (by show(k:Int)<x.2.2.2+y.2.2.2;omega))];exact h'
  ·cases h
 ·exact h
theorem a5U {o:Int} (ho:o=1∨o=2) {L:List nP}:∀{f:Nat} {p sh:Int} {s:St} {r:jY f×Int} {s':St},rV z o L f p sh s= .ok (r,s')→∀{S:St},zI s' S→Ag z z2 S→rV z2 o L f p sh s= .ok (r,s')
 |0,_,_,_,_,_,h,_,_,_=>by cases h
 |f+1,p,sh,s,r,s',h,S,hS,hA=>by
  rw[a07]at h ⊢;cases hE:nU z o p s.no {s with no:=IntKind.i64.wrap (s.no+1)}with
  |error e=>rw[hE]at h;cases h
  |ok q=>
   obtain⟨l,s1⟩:=q;rw[hE]at h;simp only at h;cases hT:loopS (stepT z o (L.getD sh.toNat kQ) s.no) l ([],s1)with
   |error e=>rw[hT]at h;cases h
   |ok q=>
    obtain⟨tags,s2⟩:=q;rw[hT]at h;simp only at h;split at h
    ·cases h
    rename_i aIG;cases hD:loopS (vF (rV z o L f) (L.getD sh.toNat kQ)) l ([],s2)with
    |error e=>rw[hD]at h;cases h
    |ok q=>
     obtain⟨subs,s3⟩:=q;rw[hD]at h;simp only at h;cases hB:zB z (L.getD sh.toNat kQ) l s.no s3 with
     |error e=>rw[hB]at h;cases h
     |ok q=>
      obtain⟨blob,s4⟩:=q;rw[hB]at h;have h':=h;injection h with h;injection h with h1 h2;subst h2
      have a9Y:∀(a:List (Int×jY f)×St) x a',vF (rV z o L f) (L.getD sh.toNat kQ) a x= .ok a'→zI a.2 a'.2:=fun acc x acc' h=>by
       unfold vF at h;split at h
       ·cases hr:rV z o L f x.2.2.2 ((L.getD sh.toNat kQ).1.getD (fst (fun y=>y.1==x.1) (L.getD sh.toNat kQ).1).toNat (0,0)).2 acc.2 with
        |error e=>rw[hr]at h;cases h
        |ok q=>
         obtain⟨⟨d,nx⟩,s9⟩:=q;rw[hr]at h;simp only at h;split at h
         ·injection h with h
          subst h;exact VG (I7 z.length acc.2) hr (zI.refl _)
         ·cases h
       ·injection h with h
        subst h;exact zI.refl _
      have u3:zI s3 s4:=a1D (I7 z.length s3) hB (zI.refl _);have u2:zI s2 s3:=EC (P:=fun a:List (Int×jY f)×St=>zI s2 a.2) (fun a y b h hp=>hp.trans (a9Y a y b h)) hD (zI.refl _);have u1:zI s1 s2:=EC (P:=fun a:List oZ×St=>zI s1 a.2) (fun a y b h hp=>QG (I7 z.length s1) h hp) hT (zI.refl _);obtain⟨e1,e2⟩:=a5T ho hE (((u1.trans u2).trans u3).trans hS) hA;rw[e1];simp only;rw[VI (step2:=stepT z2 o (L.getD sh.toNat kQ) s.no) (fun a y b h=>QG (I7 z.length a.2) h (zI.refl _)) (fun a y b h hs=>aG0 ho h hs hA) l _ _ hT ((u2.trans u3).trans hS)];simp only;rw[if_neg aIG];rw[VI (step2:=vF (rV z2 o L f) (L.getD sh.toNat kQ)) a9Y (fun acc x acc' h hs=>by
       unfold vF at h ⊢;split at h
       ·rename_i OC;rw[if_pos OC];cases hr:rV z o L f x.2.2.2 ((L.getD sh.toNat kQ).1.getD (fst (fun y=>y.1==x.1) (L.getD sh.toNat kQ).1).toNat (0,0)).2 acc.2 with
        |error e=>rw[hr]at h;cases h
        |ok q=>
         obtain⟨⟨d,nx⟩,s9⟩:=q;rw[hr]at h;simp only at h;split at h
         ·rename_i KE;have h':=h;injection h with h;subst h;rw[a5U ho hr hs hA];simp only;rw[if_pos KE]
         ·cases h
       ·rename_i OC;rw[if_neg OC];exact h) l _ _ hD (u3.trans hS)]
      simp only;rw[aG1 hB hS hA];simp only;rw[e2];exact h'
theorem YA {o:Int} (ho:o=1∨o=2) {L:List nP} {g:Nat}:∀{n:Nat} {acc:List (jY g)} {p sh:Int} {s:St} {r:List (jY g)} {s':St},FU z o L g n acc p sh s= .ok (r,s')→Ag z z2 s'→FU z2 o L g n acc p sh s= .ok (r,s')
 |0,_,_,_,_,_,_,h,_=>by cases h
 |n+1,acc,p,sh,s,r,s',h,hA=>by
  unfold FU at h ⊢;split at h
  ·rename_i hc;rw[if_pos hc];split at h
   ·rename_i hs;rw[if_pos hs];cases hr:rV z o L g p sh s with
    |error e=>rw[hr]at h;cases h
    |ok q=>
     obtain⟨⟨d,nx⟩,s9⟩:=q;rw[hr]at h;simp only at h;rw[a5U ho hr (N7 (I7 z.length s9) h (zI.refl _)) hA];exact YA ho h hA
   ·cases h
  ·rename_i hc;rw[if_neg hc];exact h
theorem aC9 (z:List Int):mI z=0∨mI z=1∨mI z=2:=by
 unfold mI;split
 ·exact .inr (.inl rfl)
 ·split
  ·exact .inr (.inr rfl)
  ·exact .inl rfl
theorem aG2 {L:List nP} {g:Nat} {r:List (jY g)} {s':St} (h:QD z L g= .ok (r,s')) (hA:Ag z z2 s'):QD z2 L g= .ok (r,s')∧mI z2=mI z:=by
 have hz:=hA.1;unfold QD at h;split at h
 ·rename_i hL;cases hh:EZ z with
  |error e=>rw[hh]at h;cases h
  |ok s=>
   rw[hh]at h;simp only at h;have hs:=N7 (I7 z.length s) h (zI.refl _);have hh':=hh;unfold EZ at hh;split at hh
   ·rename_i h8;split at hh
    ·rename_i h42;obtain⟨hf,_,NW⟩:=LW hh;have NV:∀k:Nat,k<8→nH s' k=true:=fun k a=>hs k (J2 (x:=(1, -1,0,0,8)) (by rw[NW];simp) k (by show(0:Int)≤k;omega) (by show(k:Int)<0+8;omega));have yL:mI z2=mI z:=by
      unfold mI;rw[hA.2 0 aG (NV 0 aG),hA.2 1 aG (NV 1 aG)]
     have ho:mI z=1∨mI z=2:=by
      rcases aC9 z with e|e
      ·rw[e]at h42;omega
      ·exact e
     have g2:mM z2 2 2 (mI z)=mM z 2 2 (mI z):=AJ hA aH ho aH aG fun k a b=>NV k aG;have g4:mM z2 4 4 (mI z)=mM z 4 4 (mI z):=AJ hA aH ho aH aG fun k a b=>NV k aG;have hh2:EZ z2= .ok s:=by
      unfold EZ;rw[if_pos aG,yL,g2,if_pos h42];exact N8 hz hh
     refine⟨?_,yL⟩;unfold QD;rw[if_pos hL,hh2,yL,g4];exact YA ho h hA
    ·cases hh
   ·cases hh
 ·cases h
end
theorem aQU (z e:List Int) (S:St):Ag z (z++e) S:=⟨by simp,fun k hk _=>by
 rw[aZ,fJ hk,←aZ]⟩
section
variable {o:Int} {ds:List (jY 16)} {L:List nP} (h:oD 16 o ds L=0) (hb:∀d∈ds,tJ 16 d) (hN:(oI 16 ds).length<1000000)
include h hb hN
theorem aQV (m:Nat):sQ (yD 16 o ds L++List.replicate m 0) L= .ok (ds,⟨kW 16 ds,noT 16 ds ds.length,0⟩)∧mI (yD 16 o ds L++List.replicate m 0)=o:=by
 have h1:=a5O h hb hN;have h2:=aG2 h1 (aQU _ (List.replicate m 0) _);rw[←aFS];exact⟨h2.1,h2.2.trans (a1C h hb).1⟩
omit hN in
theorem aQW {k:Nat} (hk:k<(yD 16 o ds L).length) (ht:∀s∈kW 16 ds,¬(s.2.2.2.1≤k∧(k:Int)<s.2.2.2.1+s.2.2.2.2)):(yD 16 o ds L).getD k 0=0:=by
 rw[Y7 h hb,a2U _ _ k (by simp only[List.length_replicate];exact LV h hb) fun q hq=>?_]
 ·rw[aZ,List.getElem?_replicate];split <;> rfl
 ·obtain⟨s,s1,_,s2,s3⟩:=(Y6 h hb).2 q hq;have:=ht s s1;omega
theorem aK7 (m:Nat):DZ (yD 16 o ds L++List.replicate m 0) L=true:=by
 unfold DZ;rw[(aQV h hb hN m).1];simp only[bK,decide_eq_true_eq];refine⟨by decide,?_⟩;rw[dI];intro k hk;simp only[dN,decide_eq_true_eq];by_cases hkw:k<(yD 16 o ds L).length
 ·by_cases ht:nH ⟨kW 16 ds,noT 16 ds ds.length,0⟩ k=true
  ·exact .inr ht
  ·refine .inl ?_;rw[aZ,fJ hkw,←aZ];exact aQW h hb hkw fun s hs hc=>ht (J2 (s:=⟨kW 16 ds,noT 16 ds ds.length,0⟩) hs k hc.1 hc.2)
 ·refine .inl ?_;rw[aZ,iA aG,List.getElem?_replicate];split <;> rfl
end
