import Derived.Test.YtceclmpmpldmlaaGreatCw20
set_option linter.unusedSimpArgs false
set_option linter.unusedVariables false
namespace Go.Proofs.YtceclmpmpldmlaaGreat
open Go.RowKit Tt
theorem aV7:∀(k:Nat) (n:Int),be (U0 k n).reverse=n % 256 ^ k
 |0,n=>by simp[U0,be]
 |k+1,n=>by
  rw[U0,List.reverse_cons,aAY,aV7 k];have h:=Int.emod_emod_of_dvd n (show(256:Int)∣256 ^ (k+1)from⟨256 ^ k,by rw[Int.pow_succ];omega⟩);have h1:n % (256 ^ (k+1))=n / 256 % 256 ^ k*256+n % 256:=by
   have e1:(256:Int) ^ (k+1)=256*256 ^ k:=by rw[Int.pow_succ];omega
   have e2:=Int.mul_ediv_add_emod n 256;have e3:=Int.mul_ediv_add_emod (n / 256) (256 ^ k);have hp:(0:Int)<256 ^ k:=Int.pow_pos aH;have b1:=Int.emod_nonneg (n / 256) (Int.ne_of_gt hp);have b2:=Int.emod_lt_of_pos (n / 256) hp;have b3:=Int.emod_nonneg n (show(256:Int)≠0 by decide);have b4:=Int.emod_lt_of_pos n (show(0:Int)<256 by decide);have e4:n=256 ^ (k+1)*(n / 256 / 256 ^ k)+(n / 256 % 256 ^ k*256+n % 256):=by
    rw[e1,Int.mul_assoc];omega
   have b5:n / 256 % 256 ^ k*256+n % 256<256 ^ (k+1):=by rw[e1];omega
   have b6:0≤n / 256 % 256 ^ k*256+n % 256:=by omega
   generalize n / 256 % 256 ^ k*256+n % 256=R at e4 b5 b6 ⊢;generalize n / 256 / 256 ^ k=Q at e4;rw[e4,Int.add_comm,Int.add_mul_emod_self_left];exact Int.emod_eq_of_lt b6 b5
  rw[h1]
theorem aF9 {s:Int} (h:s=1∨s=2∨s=4):wS s=256 ^ s.toNat:=by
 rcases h with rfl|rfl|rfl <;> decide
theorem lV {n s o:Int} (ho:o=1∨o=2):mH n s o=true↔0≤n∧n<wS s:=by
 unfold mH;simp;omega
theorem aBW {n s o:Int} (h:mH n s o=true):lQ n s o=if o=1 then U0 s.toNat n else(U0 s.toNat n).reverse:=by
 unfold lQ;rw[if_pos h]
theorem nZ {n s o:Int} (h:mH n s o=true):(lQ n s o).length=s.toNat:=by
 rw[aBW h];split <;> simp[RS]
theorem SE {z:List Int} {p s o:Int} (hs:s=1∨s=2∨s=4) (ho:o=1∨o=2) (h0:0≤p) (h1:p+s≤z.length):mM z p s o=be (UQ z p.toNat s.toNat o):=by
 unfold mM;rw[if_pos (WU hs ho h0 h1)]
theorem F9 {z:List Int} {p s o n:Int} (hs:s=1∨s=2∨s=4) (ho:o=1∨o=2) (h0:0≤p) (h1:p+s≤z.length) (hk:mH n s o=true) (hz:(z.drop p.toNat).take s.toNat=lQ n s o):mM z p s o=n:=by
 rw[SE hs ho h0 h1];unfold UQ;rw[hz,aBW hk];have hb:=(lV ho).1 hk;rw[aF9 hs]at hb;have e:be (U0 s.toNat n).reverse=n:=by rw[aV7];exact Int.emod_eq_of_lt hb.1 hb.2
 rcases ho with rfl|rfl
 ·rw[if_pos rfl,if_pos rfl];exact e
 ·rw[if_neg aH,if_neg aH];exact e
theorem aJT:∀(l:List Int),pF l→U0 l.length (be l.reverse)=l
 | [],_=>rfl
 |x::l,h=>by
  have hx:=h x (bQ ..);have hl:=aJT l fun y hy=>h y (bL _ hy);rw[List.reverse_cons,aAY];show(be l.reverse*256+x) % 256::U0 l.length ((be l.reverse*256+x) / 256)=x::l
  rw[show(be l.reverse*256+x) % 256=x by omega,show(be l.reverse*256+x) / 256=be l.reverse by omega,hl]
theorem a8L {z:List Int} (h:pF z) (p n:Nat):pF ((z.drop p).take n):=fun x hx=>h x (gT (gQ hx))
theorem a5C {z:List Int} (hb:pF z) {p s o:Int} (hs:s=1∨s=2∨s=4) (ho:o=1∨o=2) (h0:0≤p) (h1:p+s≤z.length):0≤mM z p s o∧mM z p s o<wS s:=by
 rw[SE hs ho h0 h1];have hl:(UQ z p.toNat s.toNat o).length=s.toNat:=a3S aG;have:=WQ (a3T hb p.toNat s.toNat o) (aY _);rw[bW (aY _),hl]at this;rw[aF9 hs];exact this
theorem aV8 {z:List Int} (hb:pF z) {p s o:Int} (hs:s=1∨s=2∨s=4) (ho:o=1∨o=2) (h0:0≤p) (h1:p+s≤z.length):lQ (mM z p s o) s o=(z.drop p.toNat).take s.toNat:=by
 have hk:mH (mM z p s o) s o=true:=(lV ho).2 (a5C hb hs ho h0 h1);rw[aBW hk,SE hs ho h0 h1];have hl:((z.drop p.toNat).take s.toNat).length=s.toNat:=by simp;omega
 have hy:=a8L hb p.toNat s.toNat;unfold UQ;rcases ho with rfl|rfl
 ·rw[if_pos rfl,if_pos rfl];have:=aJT _ hy;rw[hl]at this;exact this
 ·rw[if_neg aH,if_neg aH];have hr:pF ((z.drop p.toNat).take s.toNat).reverse:=fun x hx=>hy x (List.mem_reverse.1 hx);have:=aJT _ hr;rw[List.length_reverse,hl,List.reverse_reverse]at this;rw[this,List.reverse_reverse]
theorem aBX {n p i:Nat} (hp:0<p) (h:i<n):FM n p (FM n p i)=i:=by
 obtain⟨q,hq⟩:=aC (i / p);obtain⟨r,hr⟩:=aC (i % p);obtain⟨M,hM⟩:=aC (n - n % p);have hn:M=p*(n / p):=by have:=Nat.div_add_mod n p;omega
 have hi:=Nat.div_add_mod i p;have hrp:r<p:=by rw[←hr];exact Nat.mod_lt i hp
 rw[hq,hr]at hi;have key:FM n p i=if i<M then i - r+p - 1 - r else i:=by unfold FM;rw[hM,hr]
 rw[key];by_cases h1:i<M
 ·rw[if_pos h1];have h2:p*(q+1)≤M:=by
   rw[hn]at h1 ⊢;have rH:i / p<n / p:=Nat.div_lt_of_lt_mul h1;rw[hq]at rH;exact Nat.mul_le_mul (aY _) rH
  rw[Nat.mul_add,iH]at h2;obtain⟨A,hA⟩:=aC (p*q);have hm:(p*q+(p - 1 - r)) % p=p - 1 - r:=by rw[Nat.mul_add_mod];exact fH aG
  rw[hA]at hi h2 hm;have e:i - r+p - 1 - r=A+(p - 1 - r):=by omega
  rw[e];unfold FM;rw[hM,hm,if_pos aG];omega
 ·rw[if_neg h1,key,if_neg h1]
theorem aBY {p:Nat} (hp:0<p) (b:List Int):turned p (turned p b)=b:=by
 refine H7 (by rw[qF,qF]) fun k hk=>?_;rw[qF,qF]at hk;rw[UR (by rw[qF];exact hk),qF,UR (aP4 hp hk),aBX hp hk]
theorem aFA {b:List Int} {s o:Int} (h:PD s o=true) (hs:0<s):rA (rA b s o) s o=b:=by
 unfold rA;rw[if_pos h,if_pos h];by_cases ho:o=1
 ·rw[if_pos ho,if_pos ho];exact aBY aG b
 ·rw[if_neg ho,if_neg ho]
theorem aJU {b:List Int} {s o:Int} (h:PD s o=true):(rA b s o).length=b.length:=by
 unfold rA;rw[if_pos h];split
 ·exact qF _ _
 ·rfl
structure bWC (y k:Int) (d:List Int) (o:Int):Prop where
 y1:1≤y
 y2:y≤12
 k1:1≤k
 k2:k≤65536
 s1:1≤(lI y).1
 s8:(lI y).1≤8
 len:(d.length:Int)=k*(lI y).1
 long:G6 y k=d.length
 part:0<(lI y).2.1
 turn:PD (lI y).2.1 o=true
 small:d.length≤524288
theorem aBZ {y k:Int} {d:List Int} {o:Int} (h:wH y k d=true) (ho:o=1∨o=2):bWC y k d o:=by
 unfold wH at h;simp only[bK,decide_eq_true_eq]at h;obtain⟨⟨⟨⟨h1,h2⟩,h3⟩,h4⟩,_⟩:=h;have hb:=DW y;have hy:1≤y∧y≤12:=by
  refine Classical.byContradiction fun hn=>h1 ?_;by_cases h0:y=0
  ·rw[h0];decide
  ·rw[ZH aG]
 have hp:0<(lI y).2.1∧((lI y).2.1=1∨(lI y).2.1=2∨(lI y).2.1=4∨(lI y).2.1=8):=by
  rcases(by omega:y=1∨y=2∨y=3∨y=4∨y=5∨y=6∨y=7∨y=8∨y=9∨y=10∨y=11∨y=12)with rfl|rfl|rfl|rfl|rfl|rfl|rfl|rfl|rfl|rfl|rfl|rfl <;> decide
 have hl:G6 y k=d.length:=by unfold G6;rw[if_neg aG,h4]
 have hL:=WR y k;refine⟨hy.1,hy.2,h2,h3,by omega,hb.2,h4,hl,hp.1,?_,by omega⟩;unfold PD MK;simp;omega
theorem SF {x:oZ} {o:Int} (h:WA x=true):mE x o=rA x.2.2.2 (lI x.2.1).2.1 o:=by
 unfold mE;unfold WA at h;rw[if_pos h]
theorem IZ {x:oZ} {o:Int} (h:WA x=true) (ho:o=1∨o=2):(mE x o).length=x.2.2.2.length:=by
 rw[SF h,aJU (aBZ h ho).turn]
theorem a5D {x:oZ} {o:Int} (h:WA x=true) (ho:o=1∨o=2) (ht:DY x.1=true):TL x o=decide (rT x.2.1 x.2.2.1=0):=by
 have hm:=aBZ h ho;have xM:(1:Int)≤x.2.2.2.length:=by
  rw[hm.len];have h1:=hm.k1;have h2:=hm.s1;have:=jL h1 h2 aH aG;omega
 unfold TL a8E rT;rw[hm.long,IZ h ho];have hp:mH x.1 2 o=true:=(lV ho).2 (by unfold DY at ht;simp at ht;unfold wS;simp;omega);rw[hp,dL];generalize x.2.2.2.length=q at xM ⊢;by_cases h4:4<(q:Int)
 ·rw[if_pos h4,decide_eq_false (show ¬q≤4 by omega),Bool.and_false,decide_eq_false (show ¬(q:Int)=0 by omega)]
 ·rw[if_neg h4,decide_eq_true (show q≠0 by omega),decide_eq_true (show q≤4 by omega)];rfl
theorem XQ {x:oZ} {o:Int} (h:WA x=true) (ho:o=1∨o=2) (hn:rT x.2.1 x.2.2.1≠0):rT x.2.1 x.2.2.1=(mE x o).length∧4<(mE x o).length:=by
 have hm:=aBZ h ho;rw[IZ h ho];unfold rT at hn ⊢;rw[hm.long]at hn ⊢;split at hn
 ·rename_i hc;rw[if_pos hc];omega
 ·exact absurd rfl hn
theorem a9Q {b:List Int} (h:pF b) (s o:Int):pF (rA b s o):=by
 unfold rA;split
 ·split
  ·intro x hx;unfold turned at hx;obtain⟨i,_,rfl⟩:=dH.1 hx;exact h.get _
  ·exact h
 ·intro x hx;cases hx
theorem aFB {b:List Int} (h:pF b):pF (AU b):=h.append fun x hx=>by
 have:=(List.mem_replicate.1 hx).2;omega
theorem a04 {b:List Int} (h:b.length≤4):(AU b).length=4:=by unfold AU;simp;omega
theorem a5E {x:oZ} {o:Int} (hb:pF x.2.2.2) (h:WA x=true) (ho:o=1∨o=2) (hi:TL x o=true):0≤mM (AU (mE x o)) 0 4 o∧mM (AU (mE x o)) 0 4 o<4294967296:=by
 have hl:(mE x o).length≤4:=by
  unfold TL a8E at hi;simp at hi;omega
 have qL:pF (mE x o):=by rw[SF h];exact a9Q hb _ _
 have:=a5C (aFB qL) (p:=0) (s:=4) (o:=o) aH ho aH (by rw[a04 hl];decide);rw[show wS 4=4294967296 by decide]at this;exact this
theorem aFC {x:oZ} {o:Int} {b:List Int} (h:WA x=true) (ho:o=1∨o=2) (hb:b.take (mE x o).length=mE x o):ofS x.2.1 x.2.2.1 b o=some x.2.2.2:=by
 have hm:=aBZ h ho;have hl:=IZ h ho;have D9:(mE x o).length≤b.length:=by
  have:=congrArg List.length hb;rw[eX]at this;omega
 have e:(x.2.2.1*(lI x.2.1).1).toNat=(mE x o).length:=by rw[←hm.len,hl];simp
 have h1:=hm.s1;have h2:=hm.k1;have h3:=hm.k2;have h4:=hm.len;rw[aMQ aG,e,hb,SF h,aFA hm.turn hm.part,if_pos (show wH x.2.1 x.2.2.1 x.2.2.2=true from h)]
theorem aV9 {x:oZ} {o:Int} (hb:pF x.2.2.2) (h:WA x=true) (ho:o=1∨o=2) (hi:TL x o=true) (t:Int):inS (t,x.2.1,x.2.2.1,mM (AU (mE x o)) 0 4 o) o=some (x.2.2.2,true):=by
 have hm:=aBZ h ho;have hl:(mE x o).length≤4∧(mE x o).length≠0:=by
  unfold TL a8E at hi;simp at hi;refine⟨by omega,fun e=>hi.1.2 (List.length_eq_zero_iff.1 e)⟩
 have qL:pF (mE x o):=by rw[SF h];exact a9Q hb _ _
 have D9:=IZ h ho;have hp:=aV8 (aFB qL) (p:=0) (s:=4) (o:=o) aH ho aH (by rw[a04 hl.1];decide);have e4:((AU (mE x o)).drop (0:Int).toNat).take (4:Int).toNat=AU (mE x o):=by
  show((AU (mE x o)).drop 0).take 4=_
  rw[gL,bW (by rw[a04 hl.1];exact aY _)]
 rw[e4]at hp;have hs:=a5E hb h ho hi;unfold inS;simp only;rw[hp,aFC h ho (by unfold AU;rw[List.take_left'];rfl)];have hk:mH (mM (AU (mE x o)) 0 4 o) 4 o=true:=(lV ho).2 (by rw[show wS 4=4294967296 by decide];exact hs);have hil:aIZ x.2.1 x.2.2.1=true:=by
  unfold aIZ;rw[hm.long];simp;omega
 rw[hk,hil,if_pos (show(true&&true)=true from rfl),gM];congr 2
 rw[←D9];unfold AU aB6;rw[List.drop_left']
 ·simp
 ·rfl
theorem MW {α:Type} (g:α→Int) (z:α):∀l:List α,(∀k,k+1<l.length→g (l.getD k z)<g (l.getD (k+1) z))→l.Pairwise fun x y=>g x<g y
 | [],_=>gJ
 |x::r,h=>by
  have ih:=MW g z r fun k hk=>by simpa using h (k+1) (by simpa using hk)
  refine gN (fun y hy=>?_) ih;cases r with
  |nil=>cases hy
  |cons u r=>
   have h0:g x<g u:=by simpa using h 0 (by simp)
   rcases cK.1 hy with rfl|hy
   ·exact h0
   ·exact Int.lt_trans h0 ((eP.1 ih).1 y hy)
theorem a5F {α:Type} (g:α→Int) (z:α) {l:List α} (h:l.Pairwise fun x y=>g x<g y) {i j:Nat} (hij:i<j) (hj:j<l.length):g (l.getD i z)<g (l.getD j z):=by
 rw[kF aG,kF hj];exact gH.1 h i j aG hj hij
theorem zH {α:Type} {l:List α} {x:α} (h:x∈l) (z:α):∃k,k<l.length∧l.getD k z=x:=by
 obtain⟨k,hk,rfl⟩:=fP h;exact⟨k,hk,kF hk _⟩
structure LP (L:List nP) (f:Nat) (d:jY (f+1)) (i:Int):Prop where
 e1:1≤pU d.1.length d.2.1.length d.2.2.length
 e2:pU d.1.length d.2.1.length d.2.2.length≤65535
 bl:d.2.2.length=0∨(L.getD i.toNat kQ).2.1≠0
 tg:∀x∈d.1,DY x.1=true∧xI (L.getD i.toNat kQ) x.1=false∧WA x=true
 rt:d.1.Pairwise fun x y=>x.1<y.1
 sb:∀j,j<d.2.1.length→nQ (L.getD i.toNat kQ) (d.2.1.getD j (0,kS f)).1=true∧nN L f (d.2.1.getD j (0,kS f)).2 (vG (L.getD i.toNat kQ) (d.2.1.getD j (0,kS f)).1)=true
 rs:d.2.1.Pairwise fun x y=>x.1<y.1
theorem rD {L:List nP} {f:Nat} {d:jY (f+1)} {i:Int}:nN L (f+1) d i=true↔LP L f d i:=by
 rw[a9F,bK,bK];constructor
 ·rintro⟨⟨h1,h2⟩,h3⟩;unfold aPP at h1;simp only[bK,dN,dW,decide_eq_true_eq,decide_eq_false_iff_not]at h1;unfold ownB at h2;have ht:∀k,k<d.1.length→tgB (L.getD i.toNat kQ) d.1 k=true:=fun k hk=>dI.1 h2 k (cZ.2 hk);have hs:∀k,k<d.2.1.length→WE (nN L f) (L.getD i.toNat kQ) d.2.1 k=true:=fun k hk=>dI.1 h3 k (cZ.2 hk);unfold tgB at ht;unfold WE at hs;simp only[bK,dN,dW,decide_eq_true_eq]at ht hs;refine⟨h1.1.1,h1.1.2,h1.2,fun x hx=>?_,MW _ tg0 _ fun k hk=>?_,fun j hj=>⟨(hs j hj).1.1,(hs j hj).2⟩,MW _ (0,kS f) _ fun k hk=>?_⟩
  ·obtain⟨k,hk,rfl⟩:=zH hx tg0;have:=ht k hk;exact⟨this.1.1.1,this.1.2,this.2⟩
  ·rcases(ht (k+1) hk).1.1.2 with h|h
   ·omega
   ·exact h
  ·rcases(hs (k+1) hk).1.2 with h|h
   ·omega
   ·exact h
 ·intro h;refine⟨⟨?_,?_⟩,?_⟩
  ·unfold aPP;simp only[bK,dN,dW,decide_eq_true_eq,decide_eq_false_iff_not];exact⟨⟨h.e1,h.e2⟩,h.bl⟩
  ·unfold ownB;refine GR fun k hk=>?_;unfold tgB;simp only[bK,dN,dW,decide_eq_true_eq];have hm:d.1.getD k tg0∈d.1:=by rw[kF hk];exact bP hk
   have:=h.tg _ hm;refine⟨⟨⟨this.1,?_⟩,this.2.1⟩,this.2.2⟩;cases k with
   |zero=>exact .inl rfl
   |succ k=>exact .inr (a5F _ tg0 h.rt aG hk)
  ·refine GR fun k hk=>?_;unfold WE;simp only[bK,dN,decide_eq_true_eq];refine⟨⟨(h.sb k hk).1,?_⟩,(h.sb k hk).2⟩;cases k with
   |zero=>exact .inl rfl
   |succ k=>exact .inr (a5F _ (0,kS f) h.rs aG hk)
theorem aFD {L:List nP}:∀(f:Nat) (d:jY f) (i:Int),nN L f d i=true→a5B f d
 |0,_,_,_=>trivial
 |f+1,d,i,h=>by
  have hf:=rD.1 h;refine⟨hf.rt.imp fun {a b} hab e=>by omega,fun s hs=>?_⟩;obtain⟨j,hj,rfl⟩:=zH hs (0,kS f);exact aFD f _ _ (hf.sb j hj).2
theorem a05 {n i:Nat} {s:nP} (h:mR n i s=true) {t:Int} (hl:nQ s t=true):yT s t=false∧0≤t∧t<65536:=by
 unfold nQ at hl;obtain⟨y,hy,he⟩:=jP.1 hl;obtain⟨k,hk,rfl⟩:=zH hy (0,0);have:=a9G h hk;unfold tQ DY at this;simp only[bK,dW,decide_eq_true_eq]at this;have e:(s.1.getD k (0,0)).1=t:=by simpa using he
 rw[e]at this;unfold yT;exact⟨this.2,this.1.1.1.1,this.1.1.1.2⟩
theorem XR {n i:Nat} {s:nP} (h:mR n i s=true) (h0:s.2.1≠0):yT s s.2.1=true∧yT s s.2.2.1=true∧1≤s.2.1∧s.2.1<s.2.2.1∧s.2.2.1<65536:=by
 have:=aEK h;unfold yT;simp;omega
theorem aFE (f:Nat) (l:List mZ) (ss:List (Int×jY f)) (no:Int):(KM f l ss no ss.length).map (·.1)=ss.map (·.1):=by
 unfold KM;rw[List.map_map];refine gG (by simp) fun k h1 h2=>?_;have hk:k<ss.length:=by simpa using h2
 simp only[fI,List.getElem_range,Function.comp];show(ss.getD k (0,kS f)).1=_
 rw[kF hk]
theorem aVA (l:List mZ) (o no:Int) (ts:List oZ):(ts.map (PO l o no)).map (·.1)=ts.map (·.1):=by
 rw[List.map_map];rfl
theorem aJV {L:List nP} {n:Nat} {f:Nat} {d:jY (f+1)} {i:Int} (l:List mZ) (o no:Int) (h:LP L f d i) (hs:mR n i.toNat (L.getD i.toNat kQ)=true):
  (o9 f l o no (L.getD i.toNat kQ) d).Pairwise fun x y=>x.1≠y.1:=by
 rw[←iX (f:=fun(x:oJ)=>x.1) (R:=fun a b=>a≠b)];unfold o9;rw[eO,eO,aFE,aVA];show List.Nodup _
 rw[jJ,jJ];have hB:∀t∈(DF l (L.getD i.toNat kQ) d.2.2 no).map (·.1),yT (L.getD i.toNat kQ) t=true:=fun t ht=>by
  unfold DF at ht;split at ht
  ·rename_i hb;have hp:=XR hs (by rcases h.bl with h|h;omega;exact h);simp at ht;rcases ht with rfl|rfl
   ·exact hp.1
   ·exact hp.2.1
  ·simp at ht
 have hS:∀t∈d.2.1.map (·.1),nQ (L.getD i.toNat kQ) t=true:=fun t ht=>by
  obtain⟨s,hs,rfl⟩:=dH.1 ht;obtain⟨j,hj,rfl⟩:=zH hs (0,kS f);exact(h.sb j hj).1
 have hT:∀t∈d.1.map (·.1),xI (L.getD i.toNat kQ) t=false:=fun t ht=>by
  obtain⟨s,hs,rfl⟩:=dH.1 ht;exact(h.tg s hs).2.1
 refine⟨⟨MV (h.rt.imp fun {a b} hab e=>by omega),MV (h.rs.imp fun {a b} hab e=>by omega),?_⟩,?_,?_⟩
 ·intro a ha b hb e;have h1:=hT a ha;have h2:=hS b hb;subst e;unfold xI at h1;rw[h2]at h1;exact absurd h1 (by simp)
 ·unfold DF;split
  ·rename_i hb;have hp:=XR hs (by rcases h.bl with h|h;omega;exact h);refine jG.2 ⟨fun hm=>?_,jG.2 ⟨fun hm=>(by cases hm),List.nodup_nil⟩⟩;have T9:(L.getD i.toNat kQ).2.1=(L.getD i.toNat kQ).2.2.1:=by simpa using hm
   omega
  ·exact List.nodup_nil
 ·intro a ha b hb e;subst e;have h2:=hB a hb;rcases bO.1 ha with ha|ha
  ·have h1:=hT a ha;unfold xI at h1;rw[h2]at h1;exact absurd h1 (by simp)
  ·have h1:=(a05 hs (hS a ha)).1;rw[h2]at h1;cases h1
theorem XU {l:List mZ} {n k:Nat} {a b c:Int} (h:Fits l n a b c k):0≤qK l a b c∧qK l a b c+k≤n:=by
 obtain⟨_,h1,h2⟩:=h;omega
theorem aVB {L:List nP} (hL:mW L=true) {l:List mZ} {n:Nat} {o:Int} (ho:o=1∨o=2) (hn:n≤4294967295):∀(f:Nat) (d:jY f) (no i:Int),0≤i→i<L.length→nN L f d i=true→tJ f d→
  (∀a b c m,((a,b,c,m):LB)∈wJ f d no→∀k:Nat,(k:Int)≤m→Fits l n a b c k)→okW L l n o f d no i
 |0,_,_,_,_,_,_,_,_=>trivial
 |f+1,d,no,i,h0,h1,hh,qL,hF=>by
  have hf:=rD.1 hh;have hs:=AA hL (i:=i.toNat) aG;have JF:∀x∈d.1,TL x o=true∨(1≤(mE x o).length∧Fits l n 3 no x.1 (mE x o).length):=fun x hx=>by
   have TD:=hf.tg x hx;by_cases hz:rT x.2.1 x.2.2.1=0
   ·exact .inl (by rw[a5D TD.2.2 ho TD.1,hz];rfl)
   ·have hl:=XQ TD.2.2 ho hz;refine .inr ⟨by omega,hF 3 no x.1 (Q0 x) ?_ _ (by unfold Q0;omega)⟩;rw[qY];refine bL _ (bO.2 (.inl ?_));refine dH.2 ⟨x,iK.2 ⟨hx,?_⟩,rfl⟩;unfold Q0;have:=a2V x;unfold Q0 at this;simp;omega
  have hel:=S9 f l o no (L.getD i.toNat kQ) d;have hF2:Fits l n 2 no 0 (6+12*pU d.1.length d.2.1.length d.2.2.length):=hF 2 no 0 _ (by rw[qY];exact bQ ..) _ aG;have hFB:0<d.2.2.length→Fits l n 4 no 0 d.2.2.length:=fun hb=>hF 4 no 0 _ (by
   rw[qY];refine bL _ (bO.2 (.inr (bO.2 (.inr ?_))));unfold a02;rw[if_pos hb];exact bQ ..) _ (gX _)
  have vV:∀j,j<d.2.1.length→(∀a b c m,((a,b,c,m):LB)∈wJ f (d.2.1.getD j (0,kS f)).2 (rX f d.2.1 no j)→((a,b,c,m):LB)∈wJ (f+1) d no):=fun j hj a b c m hx=>by
   rw[qY];exact bL _ (bO.2 (.inr (bO.2 (.inl (SB hj _ hx)))))
  have hsi:∀j,j<d.2.1.length→0≤vG (L.getD i.toNat kQ) (d.2.1.getD j (0,kS f)).1∧vG (L.getD i.toNat kQ) (d.2.1.getD j (0,kS f)).1<L.length:=fun j hj=>by
   have:=a2T hL (i:=i.toNat) aG (hf.sb j hj).1;omega
  have hFS:∀j,j<d.2.1.length→0≤qK l 2 (rX f d.2.1 no j) 0∧qK l 2 (rX f d.2.1 no j) 0≤n:=fun j hj=>by
   have hh2:=(hf.sb j hj).2;cases f with
   |zero=>exact absurd hh2 (by simp[nN])
   |succ f=>
    have:=XU (hF 2 (rX (f+1) d.2.1 no j) 0 _ (vV j hj _ _ _ _ (by rw[qY];exact bQ ..)) 0 aG);omega
  refine⟨fun x hx=>⟨JF x hx,?_⟩,fun j hj=>⟨(hf.sb j hj).1,aVB hL ho hn f _ _ _ (hsi j hj).1 (hsi j hj).2 (hf.sb j hj).2 ?_ fun a b c m hx k hk=>hF a b c m (vV j hj a b c m hx) k hk⟩,hFB,?_,by rw[hel];exact hf.e1,by rw[hel];exact hf.e2,ho,aJV l o no hf hs,?_⟩
  ·have:=(aBZ (hf.tg x hx).2.2 ho).small;omega
  ·refine qL.2.1 _ ?_;rw[kF hj];exact bP hj
  ·obtain⟨a1,a2,a3⟩:=hF2;exact⟨a1,a2,by rw[hel];omega⟩
  ·intro x hx;have hk:∀{a b:Int} (s:Int),0≤a→a<wS s→mH a s o=true:=fun s h1 h2=>(lV ho).2 ⟨h1,h2⟩;unfold JZ;simp only[bK];unfold o9 at hx;rcases bO.1 hx with hx|hx
   ·rcases bO.1 hx with hx|hx
    ·obtain⟨t,ht,rfl⟩:=dH.1 hx;have h3:=hf.tg t ht;have hm:=aBZ h3.2.2 ho;have ht0:=h3.1;unfold DY at ht0;simp at ht0;have OL:=hm.y1;have T9:=hm.y2;have RU:=hm.k1;have TJ:=hm.k2;refine⟨⟨⟨(lV ho).2 ?_,(lV ho).2 ?_⟩,(lV ho).2 ?_⟩,(lV ho).2 ?_⟩
     ·show 0≤t.1∧t.1<65536;omega
     ·show 0≤t.2.1∧t.2.1<65536;omega
     ·show 0≤t.2.2.1∧t.2.2.1<4294967296;omega
     ·show 0≤(if TL t o=true then mM (AU (mE t o)) 0 4 o else qK l 3 no t.1)∧(if TL t o=true then mM (AU (mE t o)) 0 4 o else qK l 3 no t.1)<4294967296
      by_cases hi:TL t o=true
      ·rw[if_pos hi];exact a5E (qL.1 t ht) h3.2.2 ho hi
      ·rw[if_neg hi];rcases JF t ht with h|⟨_,h⟩
       ·exact absurd h hi
       ·have:=XU h;omega
    ·unfold KM at hx;obtain⟨j,hj,rfl⟩:=dH.1 hx;have hj:=cZ.1 hj;have hlp:=(a05 hs (hf.sb j hj).1).2;have:=hFS j hj;refine⟨⟨⟨(lV ho).2 ?_,(lV ho).2 ?_⟩,(lV ho).2 ?_⟩,(lV ho).2 ?_⟩
     ·show 0≤(d.2.1.getD j (0,kS f)).1∧(d.2.1.getD j (0,kS f)).1<65536;omega
     ·show(0:Int)≤4∧(4:Int)<65536;decide
     ·show(0:Int)≤1∧(1:Int)<4294967296;decide
     ·show 0≤qK l 2 (rX f d.2.1 no j) 0∧qK l 2 (rX f d.2.1 no j) 0<4294967296;omega
   ·unfold DF at hx;split at hx
    ·rename_i hb;have hp:=XR hs (by rcases hf.bl with h|h;omega;exact h);have hfb:=XU (hFB hb);simp only[cK,eG,or_false]at hx;rcases hx with rfl|rfl
     ·refine⟨⟨⟨(lV ho).2 ?_,(lV ho).2 ?_⟩,(lV ho).2 ?_⟩,(lV ho).2 ?_⟩
      ·show 0≤(L.getD i.toNat kQ).2.1∧(L.getD i.toNat kQ).2.1<65536;omega
      ·show(0:Int)≤4∧(4:Int)<65536;decide
      ·show(0:Int)≤1∧(1:Int)<4294967296;decide
      ·show 0≤qK l 4 no 0∧qK l 4 no 0<4294967296;omega
     ·refine⟨⟨⟨(lV ho).2 ?_,(lV ho).2 ?_⟩,(lV ho).2 ?_⟩,(lV ho).2 ?_⟩
      ·show 0≤(L.getD i.toNat kQ).2.2.1∧(L.getD i.toNat kQ).2.2.1<65536;omega
      ·show(0:Int)≤4∧(4:Int)<65536;decide
      ·show(0:Int)≤1∧(1:Int)<4294967296;decide
      ·show 0≤((d.2.2.length:Nat):Int)∧((d.2.2.length:Nat):Int)<4294967296;omega
    ·cases hx
theorem sF {f:Nat} {o:Int} {ds:List (jY f)} {L:List nP} (h:oD f o ds L=0):mW L=true∧(o=1∨o=2)∧ds.length≠0∧chainB L ds.length=true∧hasAll L f ds=true∧oU f ds≠0:=by
 unfold oD at h;split at h
 ·rename_i h1;split at h
  ·rename_i h2;split at h
   ·rename_i h3;split at h
    ·exact absurd h aH
    ·rename_i h4;simp only[bK,dN,dW,decide_eq_true_eq,decide_eq_false_iff_not]at h1;exact⟨h1.1.1,h1.1.2,h1.2,h2,h3,h4⟩
   ·exact absurd h aH
  ·exact absurd h aH
 ·exact absurd h aH
theorem XV {f:Nat} {ds:List (jY f)} (h:oU f ds≠0):V3 f ds=true∧oU f ds=nI (kW f ds)∧nI (kW f ds)≤4294967295:=by
 unfold oU at h ⊢;split at h
 ·rename_i hf;rw[if_pos hf];refine⟨hf,rfl,?_⟩;unfold V3 at hf;simp only[bK,decide_eq_true_eq]at hf;exact hf.2
 ·exact absurd rfl h
theorem tK {L:List nP} {f:Nat} {ds:List (jY f)} (h:hasAll L f ds=true) {k:Nat} (hk:k<ds.length):nN L f (ds.getD k (kS f)) (o8 L k)=true:=dI.1 h k (cZ.2 hk)
theorem yE {L:List nP} {f:Nat} {ds:List (jY f)} (h:hasAll L f ds=true):∀d∈ds,a5B f d:=fun d hd=>by
 obtain⟨k,hk,rfl⟩:=zH hd (kS f);exact aFD f _ _ (tK h hk)
theorem a5G {L:List nP} {n k:Nat} (h:chainB L n=true) (hk:k<n):0≤o8 L k:=by
 have:=dI.1 h k (cZ.2 hk);simpa using this
theorem Q5 {f:Nat} {ds:List (jY f)} {k:Nat} (hk:k<ds.length):∀x∈wJ f (ds.getD k (kS f)) (noT f ds k),x∈E9 f ds:=fun x hx=>by
 refine bL _ (SB (j:=k) (by simpa [FP] using hk) x ?_);have e1:((FP f ds).getD k (0,kS f)).2=ds.getD k (kS f):=by
  rw[kF (by simpa [FP] using hk),kF hk];simp[FP]
 have e2:(0:Int)+(mD f ((FP f ds).take k)).length=noT f ds k:=by
  have:(FP f ds).take k=FP f (ds.take k):=by unfold FP;rw[j3]
  rw[this,H6];unfold noT;omega
 rw[e1,e2];exact hx
theorem a2W (f:Nat) (ds:List (jY f)):8≤nI (kW f ds):=by
 rw[(BR f ds).2];have:=aBH (DK (wJ f) (FP f ds) 0) 8 aH fun x hx=>SC f ds x (bL _ hx);exact this
theorem XY {L:List nP} {f:Nat} {d:jY f} {i:Int} (h:nN L f d i=true) (no:Int):((2,no,0,6+12*((a2E f d:Nat):Int)):LB)∈wJ f d no:=by
 cases f with
 |zero=>exact absurd h (by simp[nN])
 |succ f=>rw[qY];exact bQ ..
theorem Q6 {f:Nat} {o:Int} {ds:List (jY f)} {L:List nP} (h:oD f o ds L=0) (hb:∀d∈ds,tJ f d):OKT f o ds L:=by
 obtain⟨h1,h2,h3,h4,h5,h6⟩:=sF h;obtain⟨g1,g2,g3⟩:=XV h6;have hd:=yE h5;have h8:=a2W f ds;have hN:(oU f ds).toNat≤4294967295:=by omega
 have hF:∀k,k<ds.length→∀a b c m,((a,b,c,m):LB)∈wJ f (ds.getD k (kS f)) (noT f ds k)→∀q:Nat,(q:Int)≤m→Fits (kW f ds) (oU f ds).toNat a b c q:=fun k hk a b c m hx q hq=>
  b45 hd (Q5 hk _ hx) aG hq
 have hE:∀k,k<ds.length→Fits (kW f ds) (oU f ds).toNat 2 (noT f ds k) 0 (6+12*a2E f (ds.getD k (kS f))):=fun k hk=>hF k hk 2 _ 0 _ (XY (tK h5 hk) _) _ aG;refine⟨h1,h2,by omega,by omega,g1,fun k hk=>a5G h4 hk,fun k hk=>?_,fun k hk=>?_,fun k hk=>?_⟩
 ·have KE:=a5G h4 hk;have hnl:=(KJ h1 k).1;refine aVB h1 h2 hN f _ _ _ KE hnl (tK h5 hk) (hb _ ?_) (hF k hk);rw[kF hk];exact bP hk
 ·cases k with
  |zero=>show 0≤(4:Int)∧(4:Int).toNat+4≤_;omega
  |succ k=>
   have:=XU (hE k aG);show 0≤qK (kW f ds) 2 (noT f ds k) 0+2+12*((a2E f (ds.getD k (kS f)):Nat):Int)∧(qK (kW f ds) 2 (noT f ds k) 0+2+12*((a2E f (ds.getD k (kS f)):Nat):Int)).toNat+4≤(oU f ds).toNat
   omega
 ·have:=XU (hE k hk);refine(lV h2).2 ?_;rw[show wS 4=4294967296 by decide];omega
abbrev vB:List nP:= [([(34665,2),(34853,3)],0,0,1),([],513,514, -1),([(40965,4)],0,0, -1),([],0,0, -1),([],0,0, -1)]
structure pX where
 o:Int
 z:List oZ
 p:List oZ
 g:List oZ
 i:List oZ
 f:List oZ
 mr:List Int
 th:List Int
def exZ:pX:=⟨0, [], [], [], [], [], [], []⟩
def DL (x:pX):Bool:=tZ 0 x.z&&tZ 1 x.f&&tZ 2 x.p&&tZ 3 x.g&&tZ 4 x.i
def a9R (x:pX):Nat:=x.z.length+x.p.length+x.g.length+x.i.length+x.mr.length
def lU (x:pX):Int:=
 if x.o=1∨x.o=2 then(if DL x=true then(if x.mr.length≤65536∧0<a9R x then 0 else 6)else 6)else 1
def NS (b:List Int):oZ:=(37500,7,(b.length:Int),b)
def oO (x:pX):List oZ:=if 0<x.mr.length then EW x.p (NS x.mr)else x.p
def vH (f:Nat) (ts:List oZ):jY (f+1):=(ts, [], [])
def pE (x:pX):List (Int×jY 14):=if 0<x.i.length then [(40965,vH 13 x.i)]else []
def vI (x:pX):jY 15:=(oO x,pE x, [])
def DN (x:pX):Bool:=decide (0<x.p.length)||decide (0<x.i.length)||decide (0<x.mr.length)
def pO (x:pX):List (Int×jY 15):=if DN x=true then [(34665,vI x)]else []
def qZ (x:pX):List (Int×jY 15):=if 0<x.g.length then [(34853,vH 14 x.g)]else []
def tT (x:pX):jY 16:=(x.z,pO x++qZ x, [])
def Q7 (x:pX):jY 16:=(x.f, [],x.th)
def lS (x:pX):List (jY 16):=tT x::(if 0<x.f.length+x.th.length then [Q7 x]else [])
def FB (x:pX):List Int:=if lU x=0 then aJS 16 x.o (lS x) vB else []
def aJW (x:pX):Int:=if lU x=0 then oD 16 x.o (lS x) vB else lU x
def wW:(f:Nat)→jY f→List oZ
 |0,_=> []
 |_+1,d=>d.1
def aN3:(f:Nat)→jY f→List Int
 |0,_=> []
 |_+1,d=>d.2.2
def a1B (f:Nat):Option (Int×jY f)→List oZ
 |some s=>wW f s.2
 |none=> []
def wF:(f:Nat)→jY f→Int→List oZ
 |0,_,_=> []
 |f+1,d,t=>a1B f (d.2.1.find? (fun s=>s.1==t))
def a5H (f:Nat) (u:Int):Option (Int×jY f)→List oZ
 |some s=>wF f s.2 u
 |none=> []
def VF:(f:Nat)→jY f→Int→Int→List oZ
 |0,_,_,_=> []
 |f+1,d,t,u=>a5H f u (d.2.1.find? (fun s=>s.1==t))
def wX (f:Nat) (o:Int) (ds:List (jY f)):pX:=
 ⟨o,wW f (ds.getD 0 (kS f)),vD (wF f (ds.getD 0 (kS f)) 34665) 37500,wF f (ds.getD 0 (kS f)) 34853,VF f (ds.getD 0 (kS f)) 34665 40965,wW f (ds.getD 1 (kS f)),(pI (wF f (ds.getD 0 (kS f)) 34665) 37500).2.2.2,aN3 f (ds.getD 1 (kS f))⟩
def yP (q:Bool×Int×Int×List Int):Bool:=q.1&& !decide (q.2.1=7)
def ofC (f:Nat) (o:Int) (ds:List (jY f)):Int:=
 if oD f o ds vB=0 then(if yP (pI (wF f (ds.getD 0 (kS f)) 34665) 37500)=true then 6 else if lU (wX f o ds)=0 then 0 else 6)else 1
def ofE (f:Nat) (o:Int) (ds:List (jY f)):pX:=if ofC f o ds=0 then wX f o ds else exZ
def wK (es:List oJ) (x:oJ):Nat:=(es.filter fun y=>decide (y.1<x.1)).length
def bDW (q:Nat) (o:Int) (es:List oJ) (n:Nat):List Pt:=(List.range n).map fun i=>(q+2+12*wK es (es.getD i TM),JO (es.getD i TM) o)
def aQF (f:Nat) (l:List mZ) (o no:Int) (s:nP) (d:jY (f+1)):List Pt:=
 d.1.flatMap (FT l o no)++DI l d.2.2 no++(((qK l 2 no 0).toNat,lQ (o9 f l o no s d).length 2 o)::bDW (qK l 2 no 0).toNat o (o9 f l o no s d) (o9 f l o no s d).length)
theorem aQG {es:List oJ} {i:Nat} (h:i<es.length):wK es (es.getD i TM)<es.length:=by
 unfold wK;rw[List.length_filter_lt_length_iff_exists];refine⟨es.getD i TM,by rw[kF h];exact bP h,by simp⟩
theorem aN4 {α:Type} {p q:α→Bool}:∀{l:List α},(∀z∈l,p z=true→q z=true)→∀{x:α},x∈l→q x=true→p x=false→(l.filter p).length<(l.filter q).length
 | [],_,_,h,_,_=>by cases h
 |a::l,hpq,x,hx,hq,hp=>by
  have FI:(l.filter p).length≤(l.filter q).length:=by
   rw[←List.countP_eq_length_filter,←List.countP_eq_length_filter];exact List.countP_mono_left fun z hz=>hpq z (bL _ hz)
  rcases cK.1 hx with rfl|hx
  ·rw[gV hq,gW (by simp[hp]),dO];omega
  ·have ih:=aN4 (fun z hz=>hpq z (bL _ hz)) hx hq hp;cases ha:p a with
   |true=>
    rw[gV ha,gV (hpq a (bQ ..) ha),dO,dO];omega
   |false=>
    rw[gW (by simp[ha])];cases hb:q a with
    |true=>rw[gV hb,dO];omega
    |false=>rw[gW (by simp[hb])];exact ih
theorem aFF {es:List oJ} {x y:oJ} (hx:x∈es) (h:x.1<y.1):wK es x<wK es y:=by
 unfold wK;refine aN4 (fun z _ hz=>?_) hx (by simpa using h) (by simp);simp only[decide_eq_true_eq]at hz ⊢;omega
theorem MX:∀{l:List oJ},(l.Pairwise fun x y=>x.1<y.1)→∀{i:Nat} (h:i<l.length),(l.filter fun y=>decide (y.1<(l[i]).1)).length=i
 | [],_,_,h=>by simp at h
 |a::l,hp,0,_=>by
  obtain⟨h1,_⟩:=eP.1 hp;have:(a::l).filter (fun y=>decide (y.1<a.1))= []:=by
   rw[List.filter_eq_nil_iff];intro y hy;rcases cK.1 hy with rfl|hy
   ·simp
   ·have:=h1 y hy;simp;omega
  show((a::l).filter fun y=>decide (y.1<a.1)).length=0
  rw[this];rfl
 |a::l,hp,i+1,h=>by
  obtain⟨h1,h2⟩:=eP.1 hp;have hi:i<l.length:=by simpa using h
  have:=MX h2 hi;show((a::l).filter fun y=>decide (y.1<(l[i]).1)).length=i+1
  rw[gV (by simpa using h1 _ (bP hi)),dO,this]
theorem Q8 {α β:Type} (g:α→β) (z:α) (l:List α):(List.range l.length).map (fun i=>g (l.getD i z))=l.map g:=by
 refine gG (by simp) fun i h1 h2=>?_;have h3:i<l.length:=by simpa using h1
 rw[fI,List.getElem_range,fI,kF h3]
theorem zU (l:List oJ):(sortE l).Perm l:=iM _ _
theorem XZ {l:List oJ} (hd:l.Pairwise fun x y=>x.1≠y.1):(sortE l).Pairwise fun x y=>x.1<y.1:=by
 have h1:(sortE l).Pairwise fun x y=>x.1≠y.1:=((zU l).pairwise_iff (fun {_ _} h=>Ne.symm h)).2 hd;have h2:(sortE l).Pairwise fun x y=>(!Go.Proofs.ltOf cfE y x)=true:=by
  refine List.pairwise_mergeSort ?_ ?_ _
  ·intro a b c h1 h2;simp only[ltE,dW,decide_eq_false_iff_not]at h1 h2 ⊢;omega
  ·intro a b;simp only[ltE,dN,dW,decide_eq_false_iff_not];omega
 refine(h1.and h2).imp fun {a b} h=>?_;obtain⟨h3,h4⟩:=h;simp only[ltE,dW,decide_eq_false_iff_not]at h4;omega
def aFG (q:Nat) (o:Int) (es:List oJ) (x:oJ):Pt:=(q+2+12*wK es x,JO x o)
theorem aN5 (q:Nat) (o:Int) (es:List oJ):bDW q o es es.length=es.map (aFG q o es):=Q8 (aFG q o es) TM es
theorem b46 {q:Nat} {o:Int} {es:List oJ} (hd:es.Pairwise fun x y=>x.1≠y.1):rowP q o (sortE es) es.length=(sortE es).map (aFG q o es):=by
 rw[←Q8 (aFG q o es) TM,yO];unfold rowP;refine List.map_congr_left fun i hi=>?_;have hi:i<(sortE es).length:=by rw[yO];exact cZ.1 hi
 have h1:=MX (XZ hd) hi;have h2:wK es ((sortE es).getD i TM)=i:=by
  rw[kF hi];unfold wK;rw[←((zU es).filter _).length_eq];exact h1
 unfold aFG;rw[h2]
theorem aVC {q:Nat} {o:Int} {es:List oJ} (hd:es.Pairwise fun x y=>x.1≠y.1):(rowP q o (sortE es) es.length).Perm (bDW q o es es.length):=by
 rw[b46 hd,aN5];exact(zU es).map _
def O7 (L:List nP) (l:List mZ) (o:Int):(f:Nat)→jY f→Int→Int→List Pt
 |0,_,_,_=> []
 |f+1,d,no,i=>MU (O7 L l o f) (L.getD i.toNat kQ) d.2.1 no d.2.1.length++aQF f l o no (L.getD i.toNat kQ) d
theorem LQ (L:List nP) (l:List mZ) (o:Int) (f:Nat) (d:jY (f+1)) (no i:Int):O7 L l o (f+1) d no i=
  MU (O7 L l o f) (L.getD i.toNat kQ) d.2.1 no d.2.1.length++aQF f l o no (L.getD i.toNat kQ) d:=rfl
theorem aFH {L:List nP} {l:List mZ} {n:Nat} {o:Int}:∀(f:Nat) (d:jY f) (no i:Int),okW L l n o f d no i→(O1 L l o f d no i).Perm (O7 L l o f d no i)
 |0,_,_,_,_=>iI _
 |f+1,d,no,i,h=>by
  obtain⟨_,hs,_,_,_,_,_,hk,_⟩:=XG h;rw[a9L,LQ];unfold aQF U3;have h1:(MU (O1 L l o f) (L.getD i.toNat kQ) d.2.1 no d.2.1.length).Perm (MU (O7 L l o f) (L.getD i.toNat kQ) d.2.1 no d.2.1.length):=
   MR _ fun j hj=>aFH f _ _ _ (hs j (cZ.1 hj)).2
  have h2:=(aVC (q:=(qK l 2 no 0).toNat) (o:=o) hk).cons ((qK l 2 no 0).toNat,lQ ((o9 f l o no (L.getD i.toNat kQ) d).length:Nat) 2 o);have h3:(d.1.flatMap (FT l o no)++MU (O1 L l o f) (L.getD i.toNat kQ) d.2.1 no d.2.1.length).Perm (MU (O7 L l o f) (L.getD i.toNat kQ) d.2.1 no d.2.1.length++d.1.flatMap (FT l o no)):=
   List.perm_append_comm.trans (h1.append (iI _))
  rw[←dJ,←dJ];exact(h3.append (iI _)).append h2
theorem Q9 {α β:Type} (f g:α→List β):∀l:List α,(l.flatMap fun x=>f x++g x).Perm (l.flatMap f++l.flatMap g)
 | []=>iI _
 |x::l=>by
  rw[eF,eF,eF];refine((iI (f x++g x)).append (Q9 f g l)).trans ?_;rw[dJ,dJ];refine(iI (f x)).append ?_;rw[←dJ,←dJ];exact List.perm_append_comm.append (iI _)
def yF (l:List mZ) (o:Int) (f:Nat) (ds:List (jY f)) (k:Nat):Pt:=((XM l f ds k).toNat,lQ (qK l 2 (noT f ds k) 0) 4 o)
def nextQ (l:List mZ) (o:Int) (f:Nat) (ds:List (jY f)) (k:Nat):List Pt:=if k+1<ds.length then [yF l o f ds (k+1)]else []
def chQ (L:List nP) (l:List mZ) (o:Int) (f:Nat) (ds:List (jY f)) (n:Nat):List Pt:=
 (List.range n).flatMap fun k=>O7 L l o f (ds.getD k (kS f)) (noT f ds k) (o8 L k)++nextQ l o f ds k
theorem aJX {β:Type} (B:Nat→β) (m:Nat):((List.range (m+1)).flatMap fun k=>if k+1<m+1 then [B (k+1)]else [])=(List.range m).map fun k=>B (k+1):=by
 rw[fZ,dQ];have h1:([m].flatMap fun k=>if k+1<m+1 then [B (k+1)]else [])= []:=by simp
 rw[h1,dU];have h2:∀q,q≤m→((List.range q).flatMap fun k=>if k+1<m+1 then [B (k+1)]else [])=(List.range q).map fun k=>B (k+1):=by
  intro q;induction q with
  |zero=>intro _;rfl
  |succ q ih=>
   intro hq;rw[fZ,dQ,eO,ih aG];simp;omega
 exact h2 m (aY _)
theorem b47 {L:List nP} {l:List mZ} {n:Nat} {o:Int} {f:Nat} {ds:List (jY f)} (h0:ds.length≠0) (h:∀k,k<ds.length→okW L l n o f (ds.getD k (kS f)) (noT f ds k) (o8 L k)):
  (chW L l o f ds ds.length).Perm (yF l o f ds 0::chQ L l o f ds ds.length):=by
 obtain⟨m,hm⟩:∃m,ds.length=m+1:=⟨ds.length - 1,by omega⟩;have e1:chW L l o f ds ds.length=(List.range ds.length).flatMap fun k=>O1 L l o f (ds.getD k (kS f)) (noT f ds k) (o8 L k)++ [yF l o f ds k]:=rfl;have e2:((List.range ds.length).flatMap fun k=> [yF l o f ds k])=(List.range ds.length).map (yF l o f ds):=by
  induction (List.range ds.length)with
  |nil=>rfl
  |cons a r ih=>rw[eF,ih];rfl
 have e3:((List.range ds.length).flatMap (nextQ l o f ds))=(List.range m).map fun k=>yF l o f ds (k+1):=by
  have:=aJX (yF l o f ds) m;unfold nextQ;rw[hm];exact this
 have e4:(List.range ds.length).map (yF l o f ds)=yF l o f ds 0::(List.range m).map fun k=>yF l o f ds (k+1):=by
  rw[hm,List.range_succ_eq_map,aW,List.map_map];rfl
 rw[e1];refine(Q9 _ _ _).trans ?_;rw[e2,e4];refine List.perm_middle.trans (List.Perm.cons _ ?_);unfold chQ;refine List.Perm.trans ?_ (Q9 _ _ _).symm;have e5:((List.range ds.length).flatMap fun k=>nextQ l o f ds k)=(List.range m).map fun k=>yF l o f ds (k+1):=e3;rw[e5];exact(MR _ fun k hk=>aFH f _ _ _ (h k (cZ.1 hk))).append (iI _)
def G8 (o:Int):List Int:=if o=2 then [77,77]else [73,73]
def QA (f:Nat) (o:Int) (ds:List (jY f)) (L:List nP):List Pt:=(0,G8 o)::(2,lQ 42 2 o)::(4,lQ 8 4 o)::chQ L (kW f ds) o f ds ds.length
