import Derived.Test.YtceclmpmpldmlaaGreatCz35
set_option linter.unusedSimpArgs false
set_option linter.unusedVariables false
set_option maxRecDepth 100000
set_option maxHeartbeats 8000000
namespace Go.Proofs.YtceclmpmpldmlaaGreat
open Go.RowKit Tt
theorem aS7 (s:lV):∀l:List mK,l.length=(l.filter fun x=> !qQ s x.1).length+(l.filter fun x=>kT s x.1).length+(l.filter fun x=> !kT s x.1&&nY s x.1).length
 | []=>rfl
 |x::l=>by
  have ih:=aS7 s l;have ho:qQ s x.1=(kT s x.1||nY s x.1):=rfl;cases h1:kT s x.1 with
  |true=>
   rw[h1]at ho;rw[dJ (by simp[ho]),dY (p:=fun y:mK=>kT s y.1) h1,dJ (by simp[h1]),dF,dF];omega
  |false=>
   cases h2:nY s x.1 with
   |true=>
    rw[h1,h2]at ho;rw[dJ (by simp[ho]),dJ (by simp[h1]),dY (by simp[h1,h2]),dF,dF];omega
   |false=>
    rw[h1,h2]at ho;rw[dY (by simp[ho]),dJ (by simp[h1]),dJ (by simp[h2]),dF,dF];omega
theorem aG0 {z:List Int} (hb:mW z) {sh:lV} {l:List mK} {no:Int} {s:St} {b:List Int} {s':St} (h:sQ z sh l no s= .ok (b,s')):
  s'.jQ.map uV=s.jQ.map uV++D8 no b∧s'.no=s.no∧mW b∧b.length≤z.length∧(0<b.length↔(l.filter (fun x=> !kT sh x.1&&nY sh x.1)).length=2):=by
 unfold sQ at h;split at h
 ·rename_i x y heq;split at h
  ·rename_i h0;cases ht:mH z.length (4,no,0,x.2.2.2,y.2.2.2) s with
   |error e=>rw[ht]at h;cases h
   |ok s1=>
    rw[ht]at h;injection h with h;injection h with h1 h2;obtain⟨hf,_,hs1⟩:=pX ht;have hf:=JX hf;simp only at hf
    have hlen:(((z.drop x.2.2.2.toNat).take y.2.2.2.toNat).length:Int)=y.2.2.2:=by
     rw[eO,fH];omega
    rw[h1]at hlen;subst h2;rw[hs1];refine⟨?_,rfl,?_,by omega,?_⟩
    ·unfold D8;rw[if_pos (by omega),dL,hlen];rfl
    ·rw[←h1];exact fun w hw=>hb w (fF (fO hw))
    ·rw[heq];simp;omega
  ·cases h
 ·rename_i hn;injection h with h;injection h with h1 h2;subst h1 h2;refine⟨by simp[D8],rfl,fun w hw=>(by cases hw),iP _,?_⟩
  constructor
  ·intro h;simp at h
  ·intro h2;obtain⟨x,y,e⟩:∃x y,l.filter (fun x=> !kT sh x.1&&nY sh x.1)= [x,y]:=by
    generalize l.filter (fun x=> !kT sh x.1&&nY sh x.1)=q at h2
    match q,h2 with
    | [x,y],_=>exact⟨x,y,rfl⟩
   exact absurd e (hn x y)
theorem VA {α β:Type} {g:α→Int} {k:β→Int} {a:List α} {b:List β} (h:a.map g=b.map k) {x:α} (hx:x∈a):∃y∈b,k y=g x:=by
 have:g x∈b.map k:=by rw[←h];exact cB.2 ⟨x,hx,rfl⟩
 obtain⟨y,hy,e⟩:=cB.1 this;exact⟨y,hy,e⟩
section
variable {z:List Int} {o:Int} {L:List lV} (hb:mW z) (ho:o=1∨o=2) (hL:l9 L=true) (hz:z.length≤6000)
include hb ho hL hz
theorem aM4 {f:Nat} (ih:aY7 z o L f):aY7 z o L (f+1):=by
 intro p sh s r s' h h0 h1 h2 hs0 hs1;obtain⟨l,s1,tags,s2,subs,s3,hE,hT,hone,hD,blob,hB,rfl⟩:=aFT h;obtain⟨c0,hl,ht,hr⟩:=a07 hE;obtain⟨hf,_,aYC⟩:=pX ht;have hf:=JX hf;simp only at hf;have hcb:=GL hb (p:=p) (s:=2) (o:=o) (by decide) ho (by omega) (by omega);rw[show rJ 2=65536 by decide]at hcb;obtain⟨c,hc⟩:∃c:Nat,kZ z p 2 o=c:=⟨(kZ z p 2 o).toNat,by omega⟩;rw[hc]at c0 hl aYC hf hcb;rw[bU]at hl;have hll:l.length=c:=by rw[hl];unfold uU;simp
 have m1:s1.jQ.length=s.jQ.length+1:=by rw[aYC];simp
 have m2:s1.jQ.length≤s2.jQ.length:=sH (P:=fun a:List nC×St=>s1.jQ.length≤a.2.jQ.length) (fun a y b h hp=>bK hp (DU (CK z.length a.2) h (aU _))) hT (aU _);have m4:s3.jQ.length≤s'.jQ.length:=JW (CK z.length s3) hB (aU _);obtain⟨ts,e1,e2,e3,e4,e5⟩:=a08 hb l ([],s1) (tags,s2) hT;simp only[eG]at e1 e4 e5;subst e1;have m3:s2.jQ.length≤s3.jQ.length:=sH (P:=fun a:List (Int×jD f)×St=>s2.jQ.length≤a.2.jQ.length) (fun a y b h hp=>bK hp (by
  unfold oJ at h;split at h
  ·cases hr:nR z o L f y.2.2.2 ((L.getD sh.toNat jM).1.getD (fst (fun w=>w.1==y.1) (L.getD sh.toNat jM).1).toNat (0,0)).2 a.2 with
   |error e=>rw[hr]at h;cases h
   |ok q=>
    obtain⟨⟨d,nx⟩,s9⟩:=q;rw[hr]at h;simp only at h;split at h
    ·injection h with h
     subst h;exact CB (CK z.length a.2) hr (aU _)
    ·cases h
  ·injection h with h
   subst h;exact aU _)) hD (aU _)
 have a5E:s1.no=s.no+1:=by
  rw[aYC];exact aHM (by omega) (by omega)
 obtain⟨us,g1,g2,g3,g4,g5⟩:=OL hL ih hs0 hs1 l ([],s2) (subs,s3) hD (by show 0≤s2.no;omega) (by show s2.no≤(s2.jQ.length:Int);omega) (by show s3.jQ.length<_;omega);simp only[eG]at g1 g4 g5;subst g1;obtain⟨b1,b2,b3,b4,b5⟩:=aG0 hb hB;have hrl:=aBE hr;have hp2:=aRL (s:=L.getD sh.toNat jM) l hrl;have hc3:=aS7 (L.getD sh.toNat jM) l;have hts:tags.length=(l.filter fun x=> !qQ (L.getD sh.toNat jM) x.1).length:=by have:=congrArg List.length e2;simpa using this
 have hus:subs.length=(l.filter fun x=>kT (L.getD sh.toNat jM) x.1).length:=by have:=congrArg List.length g2;simpa using this
 have hen:mQ tags.length subs.length blob.length=c:=by
  unfold mQ;split
  ·rename_i hbl;have:=b5.1 hbl;omega
  ·rename_i hbl;have:¬(l.filter fun x=> !kT (L.getD sh.toNat jM) x.1&&nY (L.getD sh.toNat jM) x.1).length=2:=fun e=>hbl (b5.2 e);omega
 have hfl:(jT (f+1) ((tags,subs,blob):jD (f+1))).length=(kD f subs).length+1:=by rw[show jT (f+1) ((tags,subs,blob):jD (f+1))=(tags,subs.length,blob)::subs.flatMap fun s=>jT f s.2 from lN f _];rfl
 have hmem:∀y∈l,0≤y.1∧y.1<65536:=fun y hy=>by
  rw[hl]at hy;unfold uU at hy;obtain⟨i,hi,rfl⟩:=cB.1 hy;have hi:=bW.1 hi;exact aLS hb ho (by omega) (by omega)
 have hit:s1.jQ.map uV=s.jQ.map uV++ [(2,s.no,0,6+12*(c:Int))]:=by
  rw[aYC,dL];rfl
 refine⟨?_,?_,nS.2 ⟨?_,?_,?_,fun x hx=>?_,?_,fun j hj=>?_,?_⟩,⟨fun x hx=>(e3 x hx).2,fun u hu=>(g3 u hu).2.1,b3⟩,⟨?_,?_,?_,fun u hu=>(g3 u hu).2.2⟩⟩
 ·rw[b1,g4,e4,hit,e5,a5E];show _=s.jQ.map uV++((2,s.no,0,6+12*((mQ tags.length subs.length blob.length:Nat):Int))::(wY s.no tags++(nA (mU f) subs (s.no+1)++D8 s.no blob)))
  rw[hen];simp only[dB];rfl
 ·rw[b2,g5,e5,a5E];show _=s.no+((jT (f+1) ((tags,subs,blob):jD (f+1))).length:Int)
  rw[hfl];omega
 ·show 1≤mQ tags.length subs.length blob.length
  omega
 ·show mQ tags.length subs.length blob.length≤65535
  omega
 ·show blob.length=0∨_
  by_cases hbl:0<blob.length
  ·refine .inr ?_;have h2:=b5.1 hbl;obtain⟨x,hx⟩:∃x,x∈l.filter (fun x=> !kT (L.getD sh.toNat jM) x.1&&nY (L.getD sh.toNat jM) x.1):=List.exists_mem_of_length_pos (by omega);have:=(eZ.1 hx).2;simp only[bF]at this;have h3:=this.2;unfold nY at h3;simp only[bF,decide_eq_true_eq]at h3;omega
  ·exact .inl (by omega)
 ·obtain⟨y,hy,e⟩:=VA e2 hx;have hy2:=eZ.1 hy;have hyb:=hmem y hy2.1;rw[e]at hyb hy2;refine⟨by unfold xM;simp;omega,by simpa using hy2.2,(e3 x hx).1⟩
 ·have hpw:((l.filter fun x=> !qQ (L.getD sh.toNat jM) x.1).map (·.1)).Pairwise (·< ·):=by rw[fK];exact hrl.filter _
  rw[←e2,fK]at hpw;exact hpw
 ·have hju:subs.getD j (0,jS f)∈subs:=by rw[jI hj];exact bL hj
  obtain⟨y,hy,e⟩:=VA g2 hju;have hy2:=(eZ.1 hy).2;rw[e]at hy2;exact⟨hy2,(g3 _ hju).1⟩
 ·have hpw:((l.filter fun x=>kT (L.getD sh.toNat jM) x.1).map (·.1)).Pairwise (·< ·):=by rw[fK];exact hrl.filter _
  rw[←g2,fK]at hpw;exact hpw
 ·show tags.length≤500
  omega
 ·show blob.length≤1000000
  omega
 ·show subs.length≤500
  omega
theorem aS8:∀f,aY7 z o L f:=by
 intro f;induction f with
 |zero=>intro p sh s r s' h;cases h
 |succ f ih=>exact aM4 hb ho hL hz ih
theorem KU {g:Nat}:∀(n:Nat) (acc:List (jD g)) (p sh:Int) (s:St) (r:List (jD g)) (s':St),wZ z o L g n acc p sh s= .ok (r,s')→sh=mI L acc.length→0≤s.no→s.no≤s.jQ.length→s'.jQ.length<4611686018427387904→
  ∃ds,r=acc++ds∧s'.jQ.map uV=s.jQ.map uV++nA (mU g) (wL g ds) s.no∧(∀k,acc.length≤k→k<r.length→0≤mI L k∧lQ L g (r.getD k (jS g)) (mI L k)=true)∧(∀d∈ds,pU g d∧lC g d)∧(acc.length=0→ds≠ [])
 |0,_,_,_,_,_,_,h,_,_,_,_=>by cases h
 |n+1,acc,p,sh,s,r,s',h,hsh,h0,h1,h2=>by
  unfold wZ at h;split at h
  ·split at h
   ·rename_i hs0;cases hr:nR z o L g p sh s with
    |error e=>rw[hr]at h;cases h
    |ok q=>
     obtain⟨⟨d,nx⟩,s9⟩:=q;rw[hr]at h;simp only at h;have hm:s9.jQ.length≤s'.jQ.length:=xA (CK z.length s9) h (aU _);have hnl:=BO hL acc.length;obtain⟨g1,g2,g3,g4,g5⟩:=aS8 hb ho hL hz g p sh s (d,nx) s9 hr h0 h1 (by omega) hs0 (by omega);simp only at g1 g2 g3 g4 g5;have hg1:=congrArg List.length g1;rw[bX,bO,bX]at hg1;have hmd:=U8 g d s.no;obtain⟨ds,e1,e2,e3,e4,e5⟩:=KU n (acc++ [d]) nx _ s9 r s' h (by rw[bO,hsh];rfl) (by omega) (by omega) h2;refine⟨d::ds,by rw[e1];simp,?_,fun k hk1 hk2=>?_,fun x hx=>?_,fun _=>by simp⟩
     ·rw[e2,g1,g2,dB];rfl
     ·by_cases hka:k=acc.length
      ·subst hka;have:r.getD acc.length (jS g)=d:=by rw[e1];simp[List.getD]
       rw[this,←hsh];exact⟨hs0,g3⟩
      ·exact e3 k (by rw[bO];simp;omega) hk2
     ·rcases bQ.1 hx with rfl|hx
      ·exact⟨g4,g5⟩
      ·exact e4 x hx
   ·cases h
  ·rename_i hc;injection h with h;injection h with h3 h4;subst h3 h4;refine⟨[],by simp,by simp[wL,nA],fun k hk1 hk2=>by omega,fun x hx=>(by cases hx),fun e=>absurd (.inr e) hc⟩
end
theorem aBL {L:List lV}:∀(f:Nat) (d:jD f) (i:Int),lQ L f d i=true→∀x∈jT f d,okF x=true
 |0,_,_,_,x,hx=>by cases hx
 |f+1,d,i,h,x,hx=>by
  have hf:=nS.1 h;rw[lN]at hx;rcases bQ.1 hx with rfl|hx
  ·unfold okF;simp only[bF,decide_eq_true_eq];exact⟨⟨hf.e1,hf.e2⟩,cZ.2 fun t ht=>(hf.tg t ht).2.2⟩
  ·obtain⟨s,hs,hx⟩:=dK.1 hx;obtain⟨j,hj,rfl⟩:=qJ hs (0,jS f);exact aBL f _ _ (hf.sb j hj).2 x hx
theorem a0K {n a:Nat} {p:Nat→Bool}:∀(m:Nat) {q:Nat→Bool},(∀k,p k=true→q k=true)→(∀i,i<m→p (a+i)=false∧q (a+i)=true)→a+m≤n→KT n p+m≤KT n q
 |0,q,h,_,_=>UC h n
 |m+1,q,h,hi,hn=>by
  have h1:KT n p+m≤KT n (fun k=>q k&& !(k==a+m)):=a0K m (fun k hk=>by
   have:¬k=a+m:=fun e=>by rw[e,(hi m (by omega)).1]at hk;cases hk
   simp[h k hk,this]) (fun i hi2=>⟨(hi i (by omega)).1,by
   have:¬a+i=a+m:=by omega
   simp[(hi i (by omega)).2];omega⟩) (by omega)
  have h2:=a7E (p:=fun k=>q k&& !(k==a+m)) (q:=q) (fun k hk=>by simp at hk;exact hk.1) (k:=a+m) (by simp) (hi m (by omega)).2 n (by omega);omega
def UE (l:List lK):Int:=(l.map fun x=>x.2.2.2.2).sum
theorem a3N (n:Nat):Keeps n (fun s=>UE s.jQ≤(KT n (fun k=>lD s k):Nat)):=⟨fun x s s' h1 h hp=>by
 obtain⟨hf,hfr,rfl⟩:=pX h;have hf:=JX hf;have e:UE (s.jQ++ [x])=UE s.jQ+x.2.2.2.2:=by unfold UE;simp
 have hr:=a0K (n:=n) (a:=x.2.2.2.1.toNat) (p:=fun k=>lD s k) x.2.2.2.2.toNat (q:=fun k=>lD {s with jQ:=s.jQ++ [x]} k) (fun k hk=>by unfold lD at hk ⊢;rw[List.any_append,hk];rfl) (fun i hi=>by
  unfold JC at hfr;have:=cZ.1 hfr i (bW.2 hi);have e1:(((x.2.2.2.1.toNat+i:Nat)):Int)=x.2.2.2.1+i:=by omega
  refine⟨by rw[e1];simpa using this,vS (s:={s with jQ:=s.jQ++ [x]}) (x:=x) (bH.2 (.inr (dD.2 rfl))) _ (by omega) (by omega)⟩) (by omega)
 show UE (s.jQ++ [x])≤_
 rw[e];show UE s.jQ+x.2.2.2.2≤((KT n (fun k=>lD {s with jQ:=s.jQ++ [x]} k):Nat):Int)
 omega,fun s s' h hp=>by
 have:(fun k:Nat=>lD s' k)=(fun k:Nat=>lD s k):=funext fun k=>a2Z h k;rw[this,h];exact hp⟩
theorem a3O (n:Nat):Keeps n (fun s=>∀x∈s.jQ,1≤x.2.2.2.2∧0≤x.2.2.2.1∧x.2.2.2.1 % 2=0∧x.2.2.2.1+x.2.2.2.2≤n):=⟨fun x s s' h1 h hp y hy=>by
 obtain⟨hf,_,rfl⟩:=pX h;have hf:=JX hf;rcases bH.1 hy with hy|hy
 ·exact hp y hy
 ·obtain rfl:y=x:=by simpa using hy
  omega,fun s s' h hp=>by rw[h];exact hp⟩
def Apart (x y:lK):Prop:=x.2.2.2.1+x.2.2.2.2≤y.2.2.2.1∨y.2.2.2.1+y.2.2.2.2≤x.2.2.2.1
theorem aBM (n:Nat):Keeps n (fun s=>(∀x∈s.jQ,1≤x.2.2.2.2∧0≤x.2.2.2.1)∧s.jQ.Pairwise Apart):=⟨fun x s s' h1 h hp=>by
 obtain⟨hf,hfr,rfl⟩:=pX h;have hf:=JX hf;refine⟨fun y hy=>?_,?_⟩
 ·rcases bH.1 hy with hy|hy
  ·exact hp.1 y hy
  ·obtain rfl:y=x:=by simpa using hy
   omega
 ·show(s.jQ++ [x]).Pairwise Apart
  rw[fE];refine⟨hp.2,List.Pairwise.cons (fun _ h=>by cases h) List.Pairwise.nil,fun y hy w hw=>?_⟩;obtain rfl:w=x:=by simpa using hw
  have hy1:=hp.1 y hy;refine Classical.byContradiction fun hn=>?_;unfold Apart at hn;-- a byte of both
  obtain⟨k,hk⟩:∃k:Nat,(k:Int)=max y.2.2.2.1 w.2.2.2.1:=⟨(max y.2.2.2.1 w.2.2.2.1).toNat,by omega⟩;have ht:=vS (s:=s) hy k (by omega) (by omega);unfold JC at hfr;have:=cZ.1 hfr (k - w.2.2.2.1.toNat) (bW.2 (by omega));rw[show w.2.2.2.1+((k - w.2.2.2.1.toNat:Nat):Int)=(k:Int) by omega,ht]at this;simp at this,fun s s' h hp=>by rw[h];exact hp⟩
theorem OU:∀(l:List lK),r9 (l.map uV)=UE l+l.length
 | []=>rfl
 |x::l=>by
  have ih:=OU l;have e1:r9 ((x::l).map uV)=x.2.2.2.2+1+r9 (l.map uV):=rfl;have e2:UE (x::l)=x.2.2.2.2+UE l:=rfl;rw[e1,e2,ih,dF];omega
theorem a7F:∀(l:List lK),(∀x∈l,1≤x.2.2.2.2)→(l.length:Int)≤UE l
 | [],_=>by simp[UE]
 |x::l,h=>by
  have h1:=h x (bJ ..);have h2:=a7F l fun y hy=>h y (aZ _ hy);have e2:UE (x::l)=x.2.2.2.2+UE l:=rfl;rw[e2,dF];omega
theorem a7G:∀(l:List DN),(∀x∈l,0≤x.2.2.2)→0≤r9 l
 | [],_=>fP _
 |x::l,h=>by
  have h1:=h x (bJ ..);have h2:=a7G l fun y hy=>h y (aZ _ hy);have e1:r9 (x::l)=x.2.2.2+1+r9 l:=rfl;omega
theorem aBN {L:List lV}:∀(f:Nat) (d:jD f) (no i:Int),lQ L f d i=true→((jT f d).length:Int)*19≤r9 (mU f d no)
 |0,_,_,_,h=>absurd h (by simp[lQ])
 |f+1,d,no,i,h=>by
  have hf:=nS.1 h;have hS:∀(ss:List (Int×jD f)) (no:Int),(∀s∈ss,∃i,lQ L f s.2 i=true)→((kD f ss).length:Int)*19≤r9 (nA (mU f) ss no):=by
   intro ss;induction ss with
   |nil=>intro no _;simp[kD,nA,r9]
   |cons s ss ih=>
    intro no hh;obtain⟨j,hj⟩:=hh s (bJ ..);have h1:=aBN f s.2 no j hj;have h2:=ih (no+(jT f s.2).length) fun x hx=>hh x (aZ _ hx);have e1:(kD f (s::ss)).length=(jT f s.2).length+(kD f ss).length:=by unfold kD;rw[dO,bO]
    have e2:nA (mU f) (s::ss) no=mU f s.2 no++nA (mU f) ss (no+(jT f s.2).length):=rfl;rw[e1,e2,CF];omega
  have hfl:(jT (f+1) d).length=(kD f d.2.1).length+1:=by rw[lN];rfl
  have h1:=hS d.2.1 (no+1) fun s hs=>by
   obtain⟨j,hj,rfl⟩:=qJ hs (0,jS f);exact⟨_,(hf.sb j hj).2⟩
  have h2:0≤r9 (wY no d.1):=a7G _ fun x hx=>by
   obtain⟨t,_,rfl⟩:=cB.1 hx;exact QE t
  have h3:0≤r9 (D8 no d.2.2):=a7G _ fun x hx=>by
   unfold D8 at hx;split at hx
   ·obtain rfl:x=_:=by simpa using hx
    show(0:Int)≤(d.2.2.length:Nat)
    omega
   ·cases hx
  have he:=hf.e1;rw[nN];have e1:r9 ((2,no,0,6+12*((mQ d.1.length d.2.1.length d.2.2.length:Nat):Int))::(wY no d.1++(nA (mU f) d.2.1 (no+1)++D8 no d.2.2)))=6+12*((mQ d.1.length d.2.1.length d.2.2.length:Nat):Int)+1+r9 (wY no d.1++(nA (mU f) d.2.1 (no+1)++D8 no d.2.2)):=rfl;rw[e1,CF,CF,hfl];omega
structure b7X (z:List Int) (L:List lV) (ds:List (jD 16)) (s:St):Prop where
 chk:mJ 16 (kN z) ds L=0
 SI:∀d∈ds,pU 16 d
 sml:∀d∈ds,lC 16 d
 len:ds.length≤16
 flt:(lX 16 ds).length<1000
 two:2≤s.jQ.length
 one:∀x∈s.jQ,1≤x.2.2.2.2∧0≤x.2.2.2.1∧x.2.2.2.1 % 2=0∧x.2.2.2.1+x.2.2.2.2≤z.length
 apart:s.jQ.Pairwise Apart
 bnd:s.jQ.length≤z.length
 lng:mX 16 ds≤20000
theorem a7H {z:List Int} (hb:mW z) (hz:z.length≤6000) {L:List lV} {ds:List (jD 16)} {s:St} (h:qF z L= .ok (ds,s)):b7X z L ds s:=by
 rw[←QT]at h;have k1:=yU (a3O z.length) h (fun x hx=>by cases hx);have k2:=yU (aBM z.length) h ⟨fun x hx=>(by cases hx),List.Pairwise.nil⟩;have k3:=yU (a3N z.length) h (by show(0:Int)≤_;omega);have k4:=a7D z.length (fun k=>lD s k);have k5:=a7F s.jQ fun x hx=>(k1 x hx).1;have bFT:s.jQ.length≤z.length:=by omega
 have hh:=h;unfold C9 at hh;split at hh
 ·rename_i hL;cases hd:u7 z with
  |error e=>rw[hd]at hh;cases hh
  |ok s0=>
   rw[hd]at hh;simp only at hh;have hd':=hd;unfold u7 at hd;split at hd
   ·split at hd
    ·rename_i Z6;obtain⟨_,_,hs0⟩:=pX hd;have ho:kN z=1∨kN z=2:=by
      rcases GV z with e|e
      ·rw[e]at Z6;omega
      ·exact e
     obtain⟨us,e1,e2,e3,e4,e5⟩:=KU hb ho hL hz 18 [] _ 0 s0 ds s hh rfl (by rw[hs0];decide) (by rw[hs0];simp) (by omega);rw[eG]at e1;subst e1;have hit:s.jQ.map uV=tH 16 ds:=by rw[e2,hs0];rfl
     have hne:ds.length≠0:=fun e=>e5 rfl (List.length_eq_zero_iff.1 e);have hch:chainB L ds.length=true:=by
      unfold chainB;exact wW fun k hk=>by simpa using (e3 k (iP _) hk).1
     have hha:hasAll L 16 ds=true:=by
      unfold hasAll;exact wW fun k hk=>(e3 k (iP _) hk).2
     have hend:=ZF (tH 16 ds) 0 (fP _) (GK 16 ds);rw[←hit,OU]at hend;have hle:lS (jV 16 ds)≤20000:=by rw[(vO 16 ds).2,←hit];omega
     have h8:=QK 16 ds;have hok:ER 16 ds=true:=by
      unfold ER;rw[cZ];intro x hx;obtain⟨d,hd2,hx⟩:=dK.1 hx;obtain⟨k,hk,rfl⟩:=qJ hd2 (jS 16);exact aBL 16 _ _ (oC hha hk) x hx
     have hfit:IL 16 ds=true:=by
      unfold IL;rw[hok];simp;omega
     have hlong:mX 16 ds=lS (jV 16 ds):=by unfold mX;rw[if_pos hfit]
     have bFU:mJ 16 (kN z) ds L=0:=by
      unfold mJ;rw[if_pos (by simp only[bF,dG,dS,decide_eq_true_eq,decide_eq_false_iff_not];exact⟨⟨hL,ho⟩,hne⟩),if_pos hch,if_pos hha,if_neg (by omega)]
     have hcl:=TM bFU;have aXF:((lX 16 ds).length:Int)*19≤r9 (tH 16 ds):=by
      have hS:∀(xs:List (jD 16)) (no:Int),(∀d∈xs,∃i,lQ L 16 d i=true)→((lX 16 xs).length:Int)*19≤r9 (nA (mU 16) (wL 16 xs) no):=by
       intro xs;induction xs with
       |nil=>intro no _;simp[lX,wL,nA,r9]
       |cons d xs ih=>
        intro no hh;obtain⟨j,hj⟩:=hh d (bJ ..);have h1:=aBN 16 d no j hj;have h2:=ih (no+(jT 16 d).length) fun x hx=>hh x (aZ _ hx);have e1:(lX 16 (d::xs)).length=(jT 16 d).length+(lX 16 xs).length:=by simp[lX]
        have e2:nA (mU 16) (wL 16 (d::xs)) no=mU 16 d no++nA (mU 16) (wL 16 xs) (no+(jT 16 d).length):=rfl;rw[e1,e2,CF];omega
      have h1:=hS ds 0 fun d hd2=>by
       obtain⟨k,hk,rfl⟩:=qJ hd2 (jS 16);exact⟨_,oC hha hk⟩
      have e1:r9 (tH 16 ds)=8+1+r9 (nA (mU 16) (wL 16 ds) 0):=rfl;omega
     rw[←hit,OU]at aXF;have aRH:2≤s.jQ.length:=by
      have e6:s.jQ.length=(tH 16 ds).length:=by rw[←hit,bX]
      have h1:=F8 (f:=16) (ds:=ds) (k:=0) (by omega) _ (JN (oC hha (k:=0) (by omega)) (noT 16 ds 0));have h2:((1, -1,0,8):DN)∈tH 16 ds:=bJ ..;rw[e6]
      match hq:tH 16 ds,h1,h2 with
      | [],h1,_=>cases h1
      | [a],h1,h2=>
       obtain rfl:=dD.1 h2;have:=congrArg (fun x=>x.1) (dD.1 h1);simp at this
      |_::_::_,_,_=>simp
     exact⟨bFU,fun d hd2=>(e4 d hd2).1,fun d hd2=>(e4 d hd2).2,hcl.1,by omega,aRH,k1,k2.2,bFT,by omega⟩
    ·cases hd
   ·cases hd
 ·cases hh
def bFV (oo:Int) (R:Except Int (List (jD 16)×St)):Int:=match R with
 | .error e=>e
 | .ok (ds,_)=>ZP 16 oo ds
def bFW (oo:Int) (R:Except Int (List (jD 16)×St)):oN:=match R with
 | .error _=>exZ
 | .ok (ds,_)=>ofE 16 oo ds
def FQ (z:List Int):Int:=bFV (kN z) (qF z qW)
def E5 (z:List Int):oN:=bFW (kN z) (qF z qW)
theorem X8 {x:oN} (h:kY x=0) (hs:tJ x):IY x=uG 16 x.o (kU x) qW∧aB2 x=0:=by
 have hk:=BJ h hs;unfold IY aB2 aEC;rw[if_pos h,if_pos h,if_pos hk];exact⟨rfl,hk⟩
theorem aYD {x:oN} (hs:tJ x):aB2 x=kY x:=by
 unfold aB2;split
 ·rename_i h;rw[BJ h hs,h]
 ·rfl
theorem aG1 {x:oN} (h:kY x=0) (hs:tJ x) (hb:a1Q x):FQ (IY x)=0∧E5 (IY x)=x∧qF (IY x) qW= .ok (kU x,⟨jV 16 (kU x),noT 16 (kU x) (kU x).length,0⟩):=by
 have hk:=BJ h hs;obtain⟨s1,s2⟩:=zA h hs;have hy:=BI hb;have e1:=(V5 hk hy).1;have e2:=ZA hk hy (by omega);rw[QT]at e2;obtain⟨o1,o2⟩:=aBD h hs;unfold FQ E5;rw[(X8 h hs).1,e1,e2];exact⟨o1,o2,rfl⟩
theorem aS9 {x:oN} (h:kY x=0) (hs:tJ x) (hb:a1Q x):((IY x).length:Int)=mX 16 (kU x):=by
 have hk:=BJ h hs;rw[(X8 h hs).1,a2V hk (BI hb)];have:=(GQ hk (BI hb)).n8;omega
def Bd (B:Nat) (w:World) (v:Value) (n:Nat) (P:List Int):Prop:=
 ∃a c,v= .slice a n c∧Sl w a n c 1 (ints .u8 P)∧∀x,a=some x→x.block<B∨∃cur fz,w.heap[x.block]? =some (.cells cur 5 fz)
section
variable {n:Nat} {w wr w2:World} {dv sv:Array Value} {bv lv:Value} {P:List Int} {es:List mK}
end
theorem RS (x:oN) (A:ExA) (w:World) (h:ExR w x A) (hs:tJ x) (hd:aQO x) (hk:WfE x) (hbt:a1Q x):
  Calls Tryz.prog 23 #[exV x.o A] w fun e w'=>∃a m c,e= .returned (.tuple #[.slice a m c,.int .i64 (aB2 x)])∧w'.ownsRow w.heap.size 5 1 (.slice a m c) m (ints .u8 (IY x))∧Below w.heap.size w w':=by
 have hTr:=fun W (hb:Below w.heap.size w W)=>a3J x A W (h.mono hb) hs hd hk;obtain⟨za,zn,zc,pa,pn,pc,ga,gn,gc,ia,iN,ic,fa,fn,fc,ma,mn,mc,ta,tn,tc⟩:=A;obtain⟨W,hW⟩:=aC (w.alloc (.cells (OI x.o ⟨za,zn,zc,pa,pn,pc,ga,gn,gc,ia,iN,ic,fa,fn,fc,ma,mn,mc,ta,tn,tc⟩) 61));have bE:=jJ.new w 61 (OI x.o ⟨za,zn,zc,pa,pn,pc,ga,gn,gc,ia,iN,ic,fa,fn,fc,ma,mn,mc,ta,tn,tc⟩);have hb:=aD w (.cells (OI x.o ⟨za,zn,zc,pa,pn,pc,ga,gn,gc,ia,iN,ic,fa,fn,fc,ma,mn,mc,ta,tn,tc⟩) 61);rw[hW]at bE hb;have hst:=BI hbt;have hwC:aB2 x=if kY x=0 then mJ 16 x.o (kU x) qW else kY x:=rfl;have hwE:IY x=if kY x=0 then aEC 16 x.o (kU x) qW else []:=rfl;have hsm:=fun h=>zA (x:=x) h hs;obtain⟨ck,hck⟩:∃c,kY x=c:=⟨_,rfl⟩;simp only[hck]at*;simp only[exV,OI]at*;have q0:W.cell? ⟨w.heap.size,0,none⟩=some (.int .i64 x.o):=bE.cell rfl;have q1:W.cell? ⟨w.heap.size,1,none⟩=some (.slice za zn zc):=bE.cell rfl;have q2:W.cell? ⟨w.heap.size,2,none⟩=some (.slice pa pn pc):=bE.cell rfl;have q3:W.cell? ⟨w.heap.size,3,none⟩=some (.slice ga gn gc):=bE.cell rfl;have q4:W.cell? ⟨w.heap.size,4,none⟩=some (.slice ia iN ic):=bE.cell rfl;have q5:W.cell? ⟨w.heap.size,5,none⟩=some (.slice fa fn fc):=bE.cell rfl;have q6:W.cell? ⟨w.heap.size,6,none⟩=some (.slice ma mn mc):=bE.cell rfl;have q7:W.cell? ⟨w.heap.size,7,none⟩=some (.slice ta tn tc):=bE.cell rfl;obtain⟨bE',hb',hW',bO8,hst',bFX,bFY,NS,a1R⟩:=aM bE hb hW hTr hst hwC hwE hsm hck;clear bE hb hW hTr hst hwC hwE hsm hck
 go_enter Tryz.func23,Tryz.ntmps23;go_upto_region 1 with fail
 rw[hW'.o];go_wp2_with fail
 refine(bO8.o _ hb'.o).mono ?_;rintro e w1 ⟨oo,a1,n1,c1,rfl,hb1,hres⟩;have wI:=hb'.o.tm hb1;clear q0 q1 q2 q3 q4 q5 q6 q7;by_cases hc0:ck=0
 ·subst hc0;rw[if_pos rfl]at hres;obtain⟨rfl,rfl,hDO⟩:=hres;have e1:((0:Int) != 0)=false:=rfl;have aG2:=NS.o rfl;have hn1:(kU x).length≤500:=by unfold kU;split <;> simp
  have bT:=jJ.new w1 39 #[.int .i64 x.o,.slice a1 (kU x).length c1];have hal:=aD w1 (.cells #[.int .i64 x.o,.slice a1 (kU x).length c1] 39);have aYE:=hDO.later hal;obtain⟨w2,hw2⟩:∃W,w1.alloc (.cells #[.int .i64 x.o,.slice a1 (kU x).length c1] 39)=W:=⟨_,rfl⟩;rw[hw2]at bT hal aYE;have RA:=wI.tm hal;have hDr:=aYE.rd;obtain⟨n1,aYF⟩:∃n,(kU x).length=n:=⟨_,rfl⟩;rw[aYF]at bT hDr hn1;simp only[aYF]at*;obtain⟨gt,hgt⟩:∃g,w1.heap.size=g:=⟨_,rfl⟩;rw[hgt]at bT;obtain⟨Ty,ff,hne,hbel,jH⟩:=jR w2;have HD:=aA ((aW w2.heap.size w2).drew);have HS:=aA (jH w2.drew HD.o);have k0:∀s,(ff s).cell? ⟨gt,0,none⟩=some (.int .i64 x.o):=fun s=>(bT.late (hbel s)).cell rfl;have k1:∀s,(ff s).cell? ⟨gt,1,none⟩=some (.slice a1 n1 c1):=fun s=>(bT.late (hbel s)).cell rfl;obtain⟨hb1',aY4,oM,bSN,qC,rW,aYG,aQP,NZ,b1F,jG,jA⟩:=aP hb1 hDO hal aYE wI RA hDr hw2 hgt aG2 hbel jH;obtain⟨bT',hn1',bSO⟩:=aG bT hn1 aYF;clear hb1 hDO hal aYE wI RA hDr hw2 hgt aG2 hbel jH bT hn1 aYF;go_upto_region 4 with fail
  try rw[NZ.o]
  try rw[aQP.o]
  refine jU (S:=fun W=>∃s,W=ff s) (by kernel_rfl) 7 rfl ?_;obtain⟨wD,tQ⟩:∃W,w2.drew=W:=⟨_,rfl⟩;rw[tQ]at HS HD ⊢;clear tQ;refine jF [0] 6 (by kernel_rfl) (fun d _ _ _ _ h=>by cases d <;> exact h) (by kernel_rfl) (by kernel_rfl) (by kernel_rfl) HS.o ?_;simp only[jB,aS,aT,aQ,aR];iterate 1 (go_big_quiet_step (fail))
  refine wpQuiet_nil ?_;refine jC 1 5 (by kernel_rfl) (by kernel_rfl) ?_;simp only[jB,aS,aT,aQ,aR];go_wp2_with fail
  refine(DW wD).mono ?_;rintro e w3 ⟨a3,zs3,rfl,hsh,hzs,hb3⟩;have NY:=HD.o.tm hb3;have HS:=aA (jA.o _ NY);have hWr:=aEO 16 x.o a1 n1 c1 (kU x) a3 5 5 zs3 w3 (aYG.o.mono NY) hsh b1F.o.1 hst'.o (by have:=b1F.o.2;omega) hn1'.o (fun e=>GQ e hst'.o);rw[hzs]at hWr;obtain⟨hsh',hzs',sO,zZ,bO9⟩:=aI hsh hzs hb3 NY hWr;clear hsh hzs hb3 NY hWr;go_wp2_with fail
  refine Mid.mk ⟨HS.o,?_⟩;refine jC 2 4 (by kernel_rfl) (by kernel_rfl) ?_;simp only[jB,aS,aT,aQ,aR];go_wp2_with fail
  refine bO9.o.mono ?_;rintro e w4 ⟨a4,m4,c4,rfl,SF,hb4⟩;have JI:=zZ.o.tm hb4;have HS:=aA (jA.o _ JI);have ho5:=kK SF (bK rW.o.size zZ.o.size);have JJ:=rW.o.tm JI;clear SF;obtain⟨tC,b07,a8I,oP⟩:=aH hb4 JI ho5 JJ;clear hb4 JI ho5 JJ;go_wp2_with fail
  refine Mid.mk ⟨HS.o,?_⟩;refine jF [3,4] 2 (by kernel_rfl) (fun d _ _ _ _ h=>by cases d <;> exact h) (by kernel_rfl) (by kernel_rfl) (by kernel_rfl) HS.o ?_;simp only[jB,aS,aT,aQ,aR];iterate 2 (go_big_quiet_step (fail))
  refine wpQuiet_nil ?_;refine jC 5 1 (by kernel_rfl) (by kernel_rfl) ?_;simp only[jB,aS,aT,aQ,aR];go_wp2_with fail
  refine Mid.mk ⟨HS.o,?_⟩;refine jC 6 0 (by kernel_rfl) (by kernel_rfl) ?_;simp only[jB,aS,aT,aQ,aR];go_wp2_with fail
  refine Mid.mk ⟨HS.o,?_⟩;refine jK (by kernel_rfl) ?_;clear k0 k1;go_wp2_with fail
  go_ret2;refine⟨a4,m4,c4,by rw[bFX.o];rfl,by rw[bFY.o];exact a8I.o,oP.o⟩
 ·have e1:(ck != 0)=true:=by simpa using hc0
  have hc0':=aA hc0;clear hres;have hb2:=wI.alloc wI.size (.cells #[.int .i64 oo,.slice a1 n1 c1] 39);clear hc0;obtain⟨hb1',qC,hb2'⟩:=aG hb1 wI hb2;clear hb1 wI hb2;go_wp2_with fail
  go_ret2;refine⟨none,0,0,by rw[bFX.o,if_neg hc0'.o];rfl,by rw[bFY.o,if_neg hc0'.o];exact kC _ _ _ _,hb2'.o⟩
theorem aG3 (y t k y2 t2 k2:Int) (a a':Option Addr) (n c n' c':Nat) (d d2:List Int) (w:World) (hs:Sl w a n c 1 (ints .u8 d)) (hs2:Sl w a' n' c' 1 (ints .u8 d2)) (hd:mW d) (hd2:mW d2):
  Calls Tryz.prog 71 #[.agg #[.int .i64 y,.int .i64 t,.int .i64 k,.slice a n c],.agg #[.int .i64 y2,.int .i64 t2,.int .i64 k2,.slice a' n' c']] w fun e w'=>e= .returned (.bool (y==y2&&(t==t2&&k==k2&&d==d2)))∧Below w.heap.size w w':=by
 have hb0:=(aD w (.cells #[.int .i64 y,.int .i64 t,.int .i64 k,.slice a n c] 74)).alloc (by simp) (.cells #[.int .i64 y2,.int .i64 t2,.int .i64 k2,.slice a' n' c'] 74);have HC:=aL2 t k t2 k2 a a' n c n' c' d d2 _ (hs.mono hb0) (hs2.mono hb0) hd hd2;obtain⟨b3,h3⟩:∃b,(t==t2&&k==k2&&d==d2)=b:=⟨_,rfl⟩;rw[h3]at HC;rw[h3];obtain⟨hs',VO,SK,h3',oU,hd',bDH⟩:=aK hs hs2 HC h3 hb0 hd hd2;clear hs hs2 HC h3 hb0 hd hd2;go_enter Tryz.func71,Tryz.ntmps71;cases h1:(y==y2)with
 |false=>
  go_wp2_with fail
  go_ret;exact⟨rfl,oU.o⟩
 |true=>
  go_wp2_with fail
  refine SK.o.mono ?_;rintro e w2 ⟨rfl,hb2⟩;have hb:=oU.o.tm hb2;obtain⟨hb',hb2'⟩:=aF hb hb2;clear hb hb2;go_wp2_with fail
  go_ret;exact⟨rfl,hb'.o⟩
theorem aBO (a a':Option Addr) (n c n' c':Nat) (xs ys:List Tz) (w:World) (hx:Tgr w a n c xs) (hy:Tgr w a' n' c' ys) (hbx:∀z∈xs,mW z.2) (hby:∀z∈ys,mW z.2):
  Calls Tryz.prog 72 #[.slice a n c,.slice a' n' c',.func (.func 71) #[] #[]] w fun e w'=>e= .returned (.bool (xs.map mE==ys.map mE))∧Below w.heap.size w w':=by
 have hxl:(xs.map mE).length=n:=by rw[bX];exact hx.len
 have hyl:(ys.map mE).length=n':=by rw[bX];exact hy.len
 have hmx:=hx.row.max;have hle:=hx.row.le;have hmy:=hy.row.max;have bV8:=hy.row.le;have bFZ:=hx.len;have bG0:=hy.len;obtain⟨r,hr⟩:=aC (xs.map mE==ys.map mE);rw[hr];have hr':=aA hr;clear hr;obtain⟨hx',hy',b7Y,b7Z,aNJ,rZ⟩:=aJ hx hy hxl hyl hbx hby;obtain⟨bG1,bG2⟩:=aF bFZ bG0;clear hx hy hxl hyl hbx hby bFZ bG0;by_cases hnn:n=n'
 ·subst hnn;have hne:((n:Int) != (n:Int))=false:=by simp
  go_enter Tryz.func72,Tryz.ntmps72;go_wp2_with fail
  go_loopw [17] (fun iv wr=>∃(i:Nat),i≤n∧iv= .int .i64 i∧Hid ((xs.map mE).take i=(ys.map mE).take i)∧Hid (Below w.heap.size w wr)) (fun iv _=>n - (intOf iv).toNat)
  case atStart=>exact⟨0,by omega,rfl,aA rfl,aA (aW _ _)⟩
  case round=>
   obtain⟨i,hin,rfl,htk,hb⟩:=hrel;by_cases hi:i<n
   ·have hil:(i:Int)<(n:Int):=by omega
    have hw1:IntKind.i64.wrap ((i:Int)+1)=i+1:=by rw[aY];omega
    obtain⟨b,o,rfl,hblt,f0,f1,f2,f3,hrd⟩:=(hx'.o.mono hb.o).at hi;obtain⟨b2,o2,rfl,NA,g0,g1,g2,g3,aSA⟩:=(hy'.o.mono hb.o).at hi;have hmx:=Y5 mE xs D5 i;have hmy:=Y5 mE ys D5 i;have hd1:mW (xs.getD i D5).2:=by rw[jI (by rw[bG1.o];exact hi)];exact aNJ.o _ (bL _)
    have hd2:mW (ys.getD i D5).2:=by rw[jI (by rw[bG2.o];exact hi)];exact rZ.o _ (bL _)
    obtain⟨⟨⟨y,t,k,xa,xn,xc⟩,d⟩,hzi⟩:∃z,xs.getD i D5=z:=⟨_,rfl⟩;obtain⟨⟨⟨y2,t2,k2,xa2,xn2,xc2⟩,d2⟩,aFG⟩:∃z,ys.getD i D5=z:=⟨_,rfl⟩;rw[hzi]at f0 f1 f2 f3 hrd hmx hd1;rw[aFG]at g0 g1 g2 g3 aSA hmy hd2;simp only[mE]at f0 f1 f2 f3 g0 g1 g2 g3 hrd aSA hmx hmy hd1 hd2;have hal:=(aD wr (.cells #[.int .i64 y,.int .i64 t,.int .i64 k,.slice xa xn xc] 74)).alloc (by simp) (.cells #[.int .i64 y2,.int .i64 t2,.int .i64 k2,.slice xa2 xn2 xc2] 74);have HC:=aG3 y t k y2 t2 k2 xa xa2 xn xc xn2 xc2 d d2 _ (hrd.mono hal) (aSA.mono hal) hd1 hd2;have hq:(y==y2&&(t==t2&&k==k2&&d==d2))=true↔(xs.map mE).getD i (0,0,0, [])=(ys.map mE).getD i (0,0,0, []):=by
     have e1:(xs.map mE).getD i (0,0,0, [])=(y,t,k,d):=hmx;have e2:(ys.map mE).getD i (0,0,0, [])=(y2,t2,k2,d2):=hmy;rw[e1,e2];simp only[bF,beq_iff_eq,Prod.mk.injEq];constructor
     ·rintro⟨h1,⟨h2,h3⟩,h4⟩;exact⟨h1,h2,h3,h4⟩
     ·rintro⟨h1,h2,h3,h4⟩;exact⟨h1,⟨h2,h3⟩,h4⟩
    obtain⟨q,hqq⟩:=aC (y==y2&&(t==t2&&k==k2&&d==d2));rw[hqq]at HC hq;clear hmx hmy;obtain⟨a4J,bSP,aWB,bSQ,oM,SK,hq',bV9,bOA,bDH⟩:=aN hrd aSA hzi aFG hal HC hq hqq hd1 hd2;clear hrd aSA hzi aFG hal HC hq hqq hd1 hd2;go_wp2_with fail
    refine SK.o.mono ?_;rintro e w3 ⟨rfl,hb3⟩;have hbw:=hb.o.trans ((oM.o.tm hb3).mono hb.o.size);clear f0 f1 f2 f3 g0 g1 g2 g3;obtain⟨jW,sO⟩:=aF hbw hb3;clear hbw hb3;cases q with
    |true=>
     have hnext:Hid ((xs.map mE).take (i+1)=(ys.map mE).take (i+1)):=aA (aDJ b7Y.o b7Z.o hi htk.o (hq'.o.1 rfl));go_wp2_with fail
     go_roundw
     case rel=>exact⟨i+1,by omega,by go_num,hnext,jW⟩
     case measure=>simp[intOf];omega
    |false=>
     obtain rfl:r=false:=by
      rw[←hr'.o];exact aJO (k:=i) (d:=(0,0,0, [])) (fun e=>by have:=hq'.o.2 e;cases this)
     go_wp2_with fail
     go_ret;exact⟨rfl,jW.o⟩
   ·obtain rfl:i=n:=by omega
    obtain rfl:r=true:=by rw[←hr'.o];exact a8S b7Y.o b7Z.o (by omega) htk.o
    go_wp2;go_ret;exact⟨rfl,hb.o⟩
 ·have hne:((n:Int) != (n':Int))=true:=by simp;omega
  obtain rfl:r=false:=by
   rw[←hr'.o,beq_eq_false_iff_ne];intro e;exact hnn (b7Y.o.symm.trans (e▸b7Z.o))
  go_enter Tryz.func72,Tryz.ntmps72;go_wp2;go_ret;exact⟨rfl,aW _ _⟩
theorem oN.eq_iff {x y:oN}:x=y↔x.o=y.o∧x.z=y.z∧x.p=y.p∧x.g=y.g∧x.i=y.i∧x.f=y.f∧x.mr=y.mr∧x.th=y.th:=by
 constructor
 ·rintro rfl;exact⟨rfl,rfl,rfl,rfl,rfl,rfl,rfl,rfl⟩
 ·obtain⟨o,z,p,g,i,f,m,t⟩:=x;obtain⟨o2,z2,p2,g2,i2,f2,m2,t2⟩:=y;rintro⟨h1,h2,h3,h4,h5,h6,h7,h8⟩;simp only at h1 h2 h3 h4 h5 h6 h7 h8;subst h1 h2 h3 h4 h5 h6 h7 h8;rfl
def E8 (x y:oN):Bool:=x.o==y.o&&x.z==y.z&&x.p==y.p&&x.g==y.g&&x.i==y.i&&x.f==y.f&&x.mr==y.mr&&x.th==y.th
theorem a3P {x y:oN}:E8 x y=true↔x=y:=by
 unfold E8;rw[oN.eq_iff];simp only[bF,beq_iff_eq,and_assoc]
theorem CQ (a a':Option Addr) (n c n' c':Nat) (xs ys:List nC) (w:World) (hx:qB w a n c xs) (hy:qB w a' n' c' ys) (hbx:∀t∈xs,mW t.2.2.2) (hby:∀t∈ys,mW t.2.2.2):
  Calls Tryz.prog 72 #[.slice a n c,.slice a' n' c',.func (.func 71) #[] #[]] w fun e w'=>e= .returned (.bool (xs==ys))∧Below w.heap.size w w':=by
 obtain⟨zx,h1,rfl⟩:=hx;obtain⟨zy,h2,rfl⟩:=hy;exact aBO a a' n c n' c' zx zy w h1 h2 (fun z hz=>hbx _ (gL hz)) (fun z hz=>hby _ (gL hz))
theorem aBP (a a':Option Addr) (n n' c c':Nat) (x y:List Int) (w:World) (hx:Sl w a n c 1 (ints .u8 x)) (hy:Sl w a' n' c' 1 (ints .u8 y)):
  Calls Tryz.prog 26 #[.slice a n c,.slice a' n' c'] w fun e w'=>e= .returned (.bool (x==y))∧Below w.heap.size w w':=
 (b4I a a' n n' c c' x y w hx hy).mono fun e w' ⟨h1,h2⟩=>⟨h1,h2.below _⟩
theorem VB (tag n:Int) (hn:kX n 2 2=true) (hmt:rM 3 1 (kL n 2 2)=true) (w:World):
  Calls Tryz.prog 56 #[.int .i64 tag,.int .i64 n] w fun e w'=>∃a c,e= .returned (.slice a 1 c)∧qB w' a 1 c [(tag,3,1,kL n 2 2)]∧Below w.heap.size w w':=by
 have hsl:Sl (w.alloc (.cells #[.int .i64 n] 3)) (some ⟨w.heap.size,0,none⟩) 1 1 1 (ints .i64 [n]):=Sl.new w 3 1 1 #[.int .i64 n] (0,0) (by omega) rfl;have hb1:=aD w (.cells #[.int .i64 n] 3);have hS:=aF0 n hn hmt _ 1 _ hsl;obtain⟨uE,hS',hb1'⟩:=aG hsl hS hb1;clear hsl hS hb1;go_enter Tryz.func56,Tryz.ntmps56;go_wp2_with fail
 refine hS'.o.mono ?_;rintro e w2 ⟨a,c,rfl,ho,hb⟩;have hb2:=hb1'.o.tm hb;have hbw:=(hb2.alloc hb2.size (.cells #[.int .i64 3,.int .i64 1,.slice a 2 c] 72)).alloc (by simp;exact bK hb2.size (eB _)) (.cells #[.int .i64 tag,.int .i64 3,.int .i64 1,.slice a 2 c] 74);have hal:=(aD w2 (.cells #[.int .i64 3,.int .i64 1,.slice a 2 c] 72)).alloc (by simp) (.cells #[.int .i64 tag,.int .i64 3,.int .i64 1,.slice a 2 c] 74);have hso:=(Sl.jX ho).1.mono hal;have hrow:qB ((w2.alloc (.cells #[.int .i64 3,.int .i64 1,.slice a 2 c] 72)).alloc (.cells #[.int .i64 tag,.int .i64 3,.int .i64 1,.slice a 2 c] 74)) (some ⟨(w2.alloc (.cells #[.int .i64 3,.int .i64 1,.slice a 2 c] 72)).heap.size,0,none⟩) 1 1 [(tag,3,1,kL n 2 2)]:=
  ⟨[((tag,3,1,a,2,c),kL n 2 2)],⟨Sl.new _ 74 4 1 #[.int .i64 tag,.int .i64 3,.int .i64 1,.slice a 2 c] (0,0) (by omega) rfl,fun z hz=>by rw[dD.1 hz];exact hso⟩,rfl⟩
 rw[show(w2.alloc (.cells #[.int .i64 3,.int .i64 1,.slice a 2 c] 72)).heap.size=w2.heap.size+1 by simp]at hrow;obtain⟨ho',hb',hb2',jW,oM,bFA,hrow'⟩:=aK ho hb hb2 hbw hal hso hrow;clear ho hb hb2 hbw hal hso hrow;go_wp2_with fail
 go_ret;refine⟨_,_,rfl,hrow'.o,jW.o⟩
def KV:(f:Nat)→jD f→Prop
 |0,_=>True
 |f+1,d=>(∀t∈d.1,t.2.2.2.length≤2000)∧∀s∈d.2.1,KV f s.2
theorem UF {f:Nat} (ih:∀(d:jD f) (no:Int),lC f d→KV f d→(∀x∈jT f d,x.1.all II=true)→r9 (mU f d no)≤(jT f d).length*2100000):∀(ss:List (Int×jD f)) (no:Int),(∀s∈ss,lC f s.2)→(∀s∈ss,KV f s.2)→(∀s∈ss,∀x∈jT f s.2,x.1.all II=true)→r9 (nA (mU f) ss no)≤(kD f ss).length*2100000
 | [],_,_,_,_=>by simp[nA,r9,kD]
 |s::ss,no,h1,h2,h3=>by
  have a:=ih s.2 no (h1 s (bJ ..)) (h2 s (bJ ..)) (h3 s (bJ ..));have b:=UF ih ss (no+(jT f s.2).length) (fun x hx=>h1 x (aZ _ hx)) (fun x hx=>h2 x (aZ _ hx)) (fun x hx=>h3 x (aZ _ hx));have e1:nA (mU f) (s::ss) no=mU f s.2 no++nA (mU f) ss (no+(jT f s.2).length):=rfl;have e2:(kD f (s::ss)).length=(jT f s.2).length+(kD f ss).length:=by unfold kD;rw[dO,bO]
  rw[e1,CF,e2];omega
theorem aBQ:∀(f:Nat) (d:jD f) (no:Int),lC f d→KV f d→(∀x∈jT f d,x.1.all II=true)→r9 (mU f d no)≤(jT f d).length*2100000
 |0,_,_,_,_,_=>by simp[mU,r9];omega
 |f+1,d,no,hs,hd,hk=>by
  obtain⟨h1,h2,h3,h4⟩:=hs;obtain⟨g1,g2⟩:=hd;have hfl:(jT (f+1) d).length=(kD f d.2.1).length+1:=by rw[lN];rfl
  have hkd:=hk (d.1,d.2.1.length,d.2.2) (by rw[lN];exact bJ ..);have hks:∀s∈d.2.1,∀x∈jT f s.2,x.1.all II=true:=fun s hs x hx=>hk x (by rw[lN];exact aZ _ (dK.2 ⟨s,hs,hx⟩));have hS:=UF (aBQ f) d.2.1 (no+1) h4 g2 hks;have hV:r9 (wY no d.1)≤500*2001:=by
   have hl:(wY no d.1).length≤500:=by
    unfold wY;rw[bX];exact bK (List.length_filter_le _ _) h1
   have:=aHP (c:=2000) (wY no d.1) (fun x hx=>by
    obtain⟨t,ht,rfl⟩:=cB.1 hx;have htm:=(eZ.1 ht).1;have ho:=cZ.1 hkd t htm;have hd:=g1 t htm;show AU t≤2000
    unfold AU;by_cases hz:oL t.2.1 t.2.2.1=0
    ·omega
    ·have h5:=QG (o:=1) ho (.inl rfl) hz;have h6:=C8 (o:=1) ho (.inl rfl);omega) (by decide)
   omega
  have hB:r9 (D8 no d.2.2)≤1000001:=by
   unfold D8;split
   ·show(d.2.2.length:Int)+1+0≤1000001
    omega
   ·show(0:Int)≤1000001
    decide
  have hen:=DK (b:=d.2.2.length) h1 h3;rw[nN];have e1:r9 ((2,no,0,6+12*((mQ d.1.length d.2.1.length d.2.2.length:Nat):Int))::(wY no d.1++(nA (mU f) d.2.1 (no+1)++D8 no d.2.2)))=6+12*((mQ d.1.length d.2.1.length d.2.2.length:Nat):Int)+1+r9 (wY no d.1++(nA (mU f) d.2.1 (no+1)++D8 no d.2.2)):=rfl;rw[e1,CF,CF,hfl];omega
theorem aBR {f:Nat} {ds:List (jD f)} (hs:∀d∈ds,lC f d) (hd:∀d∈ds,KV f d) (hk:ER f ds=true):lS (jV f ds)≤9+(lX f ds).length*2100000:=by
 rw[(vO f ds).2];have h1:=ZF (tH f ds) 0 (fP _) (GK f ds);have hkk:∀x∈lX f ds,x.1.all II=true:=fun x hx=>by
  have:=cZ.1 hk x hx;unfold okF at this;simp only[bF]at this;exact this.2
 have h2:=UF (aBQ f) (wL f ds) 0 (fun s hs2=>by obtain⟨d,hd2,rfl⟩:=cB.1 hs2;exact hs d hd2) (fun s hs2=>by obtain⟨d,hd2,rfl⟩:=cB.1 hs2;exact hd d hd2) (fun s hs2 x hx=>by
  obtain⟨d,hd2,rfl⟩:=cB.1 hs2;exact hkk x (dK.2 ⟨d,hd2,hx⟩))
 rw[AY]at h2;have e1:r9 (tH f ds)=8+1+r9 (nA (mU f) (wL f ds) 0):=rfl;omega
structure b80 (x:oN):Prop where
 z:∀t∈x.z,t.2.2.2.length≤2000
 p:∀t∈x.p,t.2.2.2.length≤2000
 g:∀t∈x.g,t.2.2.2.length≤2000
 i:∀t∈x.i,t.2.2.2.length≤2000
 f:∀t∈x.f,t.2.2.2.length≤2000
 mr:x.mr.length≤2000
theorem aBS {x:oN} (h:b80 x):∀d∈kU x,KV 16 d:=by
 obtain⟨hz,hp,hg,hi,hf,hm⟩:=h;have si:KV 14 (rC 13 x.i):=⟨hi,fun s hs=>by cases hs⟩;have sg:KV 15 (rC 14 x.g):=⟨hg,fun s hs=>by cases hs⟩;have sp:KV 15 (rD x):=by
  refine⟨fun t ht=>?_,fun s hs=>?_⟩
  ·have ht:t∈nJ x:=ht;unfold nJ at ht;split at ht
   ·rcases mem_set ht with rfl|ht
    ·exact hm
    ·exact hp t ht
   ·exact hp t ht
  ·have hs:s∈nP x:=hs;unfold nP at hs;split at hs
   ·rw[dD.1 hs];exact si
   ·cases hs
 have sz:KV 16 (qP x):=by
  refine⟨hz,fun s hs=>?_⟩;rcases RF hs with ⟨e,_⟩|⟨e,_⟩
  ·rw[e];exact sp
  ·rw[e];exact sg
 have sf:KV 16 (KG x):=⟨hf,fun s hs=>by cases hs⟩;intro d hd;unfold kU at hd;rcases bQ.1 hd with rfl|hd
 ·exact sz
 ·split at hd
  ·rw[dD.1 hd];exact sf
  ·cases hd
structure bG3 (x:oN):Prop where
 len:(IY x).length≤60000000
 clean:aDI (IY x) qW=true
 SI:mW (IY x)
 rd:FQ (IY x)=0
 rdE:E5 (IY x)=x
 rdS:qF (IY x) qW= .ok (kU x,⟨jV 16 (kU x),noT 16 (kU x) (kU x).length,0⟩)
 ofc:ZP 16 x.o (kU x)=0
 ofe:ofE 16 x.o (kU x)=x
 has:mJ 16 x.o (kU x) qW=0
theorem bG4 {x:oN} (h:kY x=0) (hs:tJ x) (hb:a1Q x) (hd:b80 x):bG3 x:=by
 have hk:=BJ h hs;obtain⟨s1,s2⟩:=zA h hs;have hy:=BI hb;obtain⟨r1,r2,r3⟩:=aG1 h hs hb;obtain⟨o1,o2⟩:=aBD h hs;have hOK:=GQ hk hy;have hfit:=hOK.fit;unfold IL at hfit;simp only[bF]at hfit;have h1:=aBR s1 (aBS hd) hfit.1;have h2:=(QJ (pW hk).2.2.2.2.2).2.1;have h3:=aS9 h hs hb;have hc:=aEN hk hy (by omega) 0;rw[List.replicate_zero,dM,←(X8 h hs).1]at hc;exact⟨by omega,hc,by rw[(X8 h hs).1];exact aL3 hk hy,r1,r2,r3,o1,o2,hk⟩
