import Derived.Test.YtceclmpmpldmlaaGreatCz16
set_option linter.unusedSimpArgs false
set_option linter.unusedVariables false
namespace Go.Proofs.YtceclmpmpldmlaaGreat
open Go.RowKit Tt
theorem aOX:∀(k:Nat) (n:Int),be (MZ k n).reverse=n % 256 ^ k
 |0,n=>by simp[MZ,be]
 |k+1,n=>by
  rw[MZ,List.reverse_cons,a4B,aOX k];have h:=Int.emod_emod_of_dvd n (show(256:Int)∣256 ^ (k+1)from⟨256 ^ k,by rw[Int.pow_succ];omega⟩);have h1:n % (256 ^ (k+1))=n / 256 % 256 ^ k*256+n % 256:=by
   have e1:(256:Int) ^ (k+1)=256*256 ^ k:=by rw[Int.pow_succ];omega
   have e2:=Int.mul_ediv_add_emod n 256;have e3:=Int.mul_ediv_add_emod (n / 256) (256 ^ k);have hp:(0:Int)<256 ^ k:=Int.pow_pos (by decide);have b1:=Int.emod_nonneg (n / 256) (Int.ne_of_gt hp);have b2:=Int.emod_lt_of_pos (n / 256) hp;have b3:=Int.emod_nonneg n (show(256:Int)≠0 by decide);have b4:=Int.emod_lt_of_pos n (show(0:Int)<256 by decide);have e4:n=256 ^ (k+1)*(n / 256 / 256 ^ k)+(n / 256 % 256 ^ k*256+n % 256):=by
    rw[e1,Int.mul_assoc];omega
   have b5:n / 256 % 256 ^ k*256+n % 256<256 ^ (k+1):=by rw[e1];omega
   have b6:0≤n / 256 % 256 ^ k*256+n % 256:=by omega
   generalize n / 256 % 256 ^ k*256+n % 256=R at e4 b5 b6 ⊢;generalize n / 256 / 256 ^ k=Q at e4;rw[e4,Int.add_comm,Int.add_mul_emod_self_left];exact Int.emod_eq_of_lt b6 b5
  rw[h1]
theorem a9T {s:Int} (h:s=1∨s=2∨s=4):rJ s=256 ^ s.toNat:=by
 rcases h with rfl|rfl|rfl <;> decide
theorem kP {n s o:Int} (ho:o=1∨o=2):kX n s o=true↔0≤n∧n<rJ s:=by
 unfold kX;simp;omega
theorem a5M {n s o:Int} (h:kX n s o=true):kL n s o=if o=1 then MZ s.toNat n else(MZ s.toNat n).reverse:=by
 unfold kL;rw[if_pos h]
theorem mP {n s o:Int} (h:kX n s o=true):(kL n s o).length=s.toNat:=by
 rw[a5M h];split <;> simp[LJ]
theorem LY {z:List Int} {p s o:Int} (hs:s=1∨s=2∨s=4) (ho:o=1∨o=2) (h0:0≤p) (h1:p+s≤z.length):kZ z p s o=be (NJ z p.toNat s.toNat o):=by
 unfold kZ;rw[if_pos (P9 hs ho h0 h1)]
theorem yT {z:List Int} {p s o n:Int} (hs:s=1∨s=2∨s=4) (ho:o=1∨o=2) (h0:0≤p) (h1:p+s≤z.length) (hk:kX n s o=true) (hz:(z.drop p.toNat).take s.toNat=kL n s o):kZ z p s o=n:=by
 rw[LY hs ho h0 h1];unfold NJ;rw[hz,a5M hk];have hb:=(kP ho).1 hk;rw[a9T hs]at hb;have e:be (MZ s.toNat n).reverse=n:=by rw[aOX];exact Int.emod_eq_of_lt hb.1 hb.2
 rcases ho with rfl|rfl
 ·rw[if_pos rfl,if_pos rfl];exact e
 ·rw[if_neg (by decide),if_neg (by decide)];exact e
theorem aED:∀(l:List Int),mW l→MZ l.length (be l.reverse)=l
 | [],_=>rfl
 |x::l,h=>by
  have hx:=h x (bJ ..);have hl:=aED l fun y hy=>h y (aZ _ hy);rw[List.reverse_cons,a4B];show(be l.reverse*256+x) % 256::MZ l.length ((be l.reverse*256+x) / 256)=x::l
  rw[show(be l.reverse*256+x) % 256=x by omega,show(be l.reverse*256+x) / 256=be l.reverse by omega,hl]
theorem a1M {z:List Int} (h:mW z) (p n:Nat):mW ((z.drop p).take n):=fun x hx=>h x (fF (fO hx))
theorem GL {z:List Int} (hb:mW z) {p s o:Int} (hs:s=1∨s=2∨s=4) (ho:o=1∨o=2) (h0:0≤p) (h1:p+s≤z.length):0≤kZ z p s o∧kZ z p s o<rJ s:=by
 rw[LY hs ho h0 h1];have hl:(NJ z p.toNat s.toNat o).length=s.toNat:=XH (by omega);have:=OZ (XI hb p.toNat s.toNat o) (aU _);rw[bP (aU _),hl]at this;rw[a9T hs];exact this
theorem aOY {z:List Int} (hb:mW z) {p s o:Int} (hs:s=1∨s=2∨s=4) (ho:o=1∨o=2) (h0:0≤p) (h1:p+s≤z.length):kL (kZ z p s o) s o=(z.drop p.toNat).take s.toNat:=by
 have hk:kX (kZ z p s o) s o=true:=(kP ho).2 (GL hb hs ho h0 h1);rw[a5M hk,LY hs ho h0 h1];have hl:((z.drop p.toNat).take s.toNat).length=s.toNat:=by simp;omega
 have hy:=a1M hb p.toNat s.toNat;unfold NJ;rcases ho with rfl|rfl
 ·rw[if_pos rfl,if_pos rfl];have:=aED _ hy;rw[hl]at this;exact this
 ·rw[if_neg (by decide),if_neg (by decide)];have hr:mW ((z.drop p.toNat).take s.toNat).reverse:=fun x hx=>hy x (List.mem_reverse.1 hx);have:=aED _ hr;rw[List.length_reverse,hl,List.reverse_reverse]at this;rw[this,List.reverse_reverse]
theorem a5N {n p i:Nat} (hp:0<p) (h:i<n):zR n p (zR n p i)=i:=by
 obtain⟨q,hq⟩:=aC (i / p);obtain⟨r,hr⟩:=aC (i % p);obtain⟨M,hM⟩:=aC (n - n % p);have hn:M=p*(n / p):=by have:=Nat.div_add_mod n p;omega
 have hi:=Nat.div_add_mod i p;have hrp:r<p:=by rw[←hr];exact Nat.mod_lt i hp
 rw[hq,hr]at hi;have key:zR n p i=if i<M then i - r+p - 1 - r else i:=by unfold zR;rw[hM,hr]
 rw[key];by_cases h1:i<M
 ·rw[if_pos h1];have h2:p*(q+1)≤M:=by
   rw[hn]at h1 ⊢;have hq2:i / p<n / p:=Nat.div_lt_of_lt_mul h1;rw[hq]at hq2;exact Nat.mul_le_mul (aU _) hq2
  rw[Nat.mul_add,gU]at h2;obtain⟨A,hA⟩:=aC (p*q);have hm:(p*q+(p - 1 - r)) % p=p - 1 - r:=by rw[Nat.mul_add_mod];exact fC (by omega)
  rw[hA]at hi h2 hm;have e:i - r+p - 1 - r=A+(p - 1 - r):=by omega
  rw[e];unfold zR;rw[hM,hm,if_pos (by omega)];omega
 ·rw[if_neg h1,key,if_neg h1]
theorem a5O {p:Nat} (hp:0<p) (b:List Int):turned p (turned p b)=b:=by
 refine AZ (by rw[o7,o7]) fun k hk=>?_;rw[o7,o7]at hk;rw[NK (by rw[o7];exact hk),o7,NK (aJB hp hk),a5N hp hk]
theorem a9U {b:List Int} {s o:Int} (h:J7 s o=true) (hs:0<s):oZ (oZ b s o) s o=b:=by
 unfold oZ;rw[if_pos h,if_pos h];by_cases ho:o=1
 ·rw[if_pos ho,if_pos ho];exact a5O (by omega) b
 ·rw[if_neg ho,if_neg ho]
theorem aEE {b:List Int} {s o:Int} (h:J7 s o=true):(oZ b s o).length=b.length:=by
 unfold oZ;rw[if_pos h];split
 ·exact o7 _ _
 ·rfl
structure bMH (y k:Int) (d:List Int) (o:Int):Prop where
 y1:1≤y
 y2:y≤12
 k1:1≤k
 k2:k≤65536
 s1:1≤(kH y).1
 s8:(kH y).1≤8
 len:(d.length:Int)=k*(kH y).1
 long:zY y k=d.length
 part:0<(kH y).2.1
 turn:J7 (kH y).2.1 o=true
 small:d.length≤524288
theorem a1N {y k:Int} {d:List Int} {o:Int} (h:rM y k d=true) (ho:o=1∨o=2):bMH y k d o:=by
 unfold rM at h;simp only[bF,decide_eq_true_eq]at h;obtain⟨⟨⟨⟨h1,h2⟩,h3⟩,h4⟩,_⟩:=h;have hb:=y9 y;have hy:1≤y∧y≤12:=by
  refine Classical.byContradiction fun hn=>h1 ?_;by_cases h0:y=0
  ·rw[h0];decide
  ·rw[SN (by omega)]
 have hp:0<(kH y).2.1∧((kH y).2.1=1∨(kH y).2.1=2∨(kH y).2.1=4∨(kH y).2.1=8):=by
  rcases(by omega:y=1∨y=2∨y=3∨y=4∨y=5∨y=6∨y=7∨y=8∨y=9∨y=10∨y=11∨y=12)with rfl|rfl|rfl|rfl|rfl|rfl|rfl|rfl|rfl|rfl|rfl|rfl <;> decide
 have hl:zY y k=d.length:=by unfold zY;rw[if_neg (by omega),h4]
 have hL:=P7 y k;refine⟨hy.1,hy.2,h2,h3,by omega,hb.2,h4,hl,hp.1,?_,by omega⟩;unfold J7 FY;simp;omega
theorem LZ {x:nC} {o:Int} (h:II x=true):kS x o=oZ x.2.2.2 (kH x.2.1).2.1 o:=by
 unfold kS;unfold II at h;rw[if_pos h]
theorem C8 {x:nC} {o:Int} (h:II x=true) (ho:o=1∨o=2):(kS x o).length=x.2.2.2.length:=by
 rw[LZ h,aEE (a1N h ho).turn]
theorem YS {x:nC} {o:Int} (h:II x=true) (ho:o=1∨o=2) (ht:xM x.1=true):ML x o=decide (oL x.2.1 x.2.2.1=0):=by
 have hm:=a1N h ho;have hlen:(1:Int)≤x.2.2.2.length:=by
  rw[hm.len];have h1:=hm.k1;have h2:=hm.s1;have:=iX h1 h2 (by decide) (by omega);omega
 unfold ML a1F oL;rw[hm.long,C8 h ho];have hp:kX x.1 2 o=true:=(kP ho).2 (by unfold xM at ht;simp at ht;unfold rJ;simp;omega);rw[hp,dH];generalize x.2.2.2.length=q at hlen ⊢;by_cases h4:4<(q:Int)
 ·rw[if_pos h4,decide_eq_false (show ¬q≤4 by omega),Bool.and_false,decide_eq_false (show ¬(q:Int)=0 by omega)]
 ·rw[if_neg h4,decide_eq_true (show q≠0 by omega),decide_eq_true (show q≤4 by omega)];rfl
theorem QG {x:nC} {o:Int} (h:II x=true) (ho:o=1∨o=2) (hn:oL x.2.1 x.2.2.1≠0):oL x.2.1 x.2.2.1=(kS x o).length∧4<(kS x o).length:=by
 have hm:=a1N h ho;rw[C8 h ho];unfold oL at hn ⊢;rw[hm.long]at hn ⊢;split at hn
 ·rename_i hc;rw[if_pos hc];omega
 ·exact absurd rfl hn
theorem a2U {b:List Int} (h:mW b) (s o:Int):mW (oZ b s o):=by
 unfold oZ;split
 ·split
  ·intro x hx;unfold turned at hx;obtain⟨i,_,rfl⟩:=cB.1 hx;exact h.get _
  ·exact h
 ·intro x hx;cases hx
theorem a9V {b:List Int} (h:mW b):mW (wH b):=h.append fun x hx=>by
 have:=(List.mem_replicate.1 hx).2;omega
theorem TJ {b:List Int} (h:b.length≤4):(wH b).length=4:=by unfold wH;simp;omega
theorem YT {x:nC} {o:Int} (hb:mW x.2.2.2) (h:II x=true) (ho:o=1∨o=2) (hi:ML x o=true):0≤kZ (wH (kS x o)) 0 4 o∧kZ (wH (kS x o)) 0 4 o<4294967296:=by
 have hl:(kS x o).length≤4:=by
  unfold ML a1F at hi;simp at hi;omega
 have hby:mW (kS x o):=by rw[LZ h];exact a2U hb _ _
 have:=GL (a9V hby) (p:=0) (s:=4) (o:=o) (by decide) ho (by decide) (by rw[TJ hl];decide);rw[show rJ 4=4294967296 by decide]at this;exact this
theorem a9W {x:nC} {o:Int} {b:List Int} (h:II x=true) (ho:o=1∨o=2) (hb:b.take (kS x o).length=kS x o):SV x.2.1 x.2.2.1 b o=some x.2.2.2:=by
 have hm:=a1N h ho;have hl:=C8 h ho;have hbl:(kS x o).length≤b.length:=by
  have:=congrArg List.length hb;rw[eO]at this;omega
 have e:(x.2.2.1*(kH x.2.1).1).toNat=(kS x o).length:=by rw[←hm.len,hl];simp
 have h1:=hm.s1;have h2:=hm.k1;have h3:=hm.k2;have h4:=hm.len;rw[aH6 (by omega),e,hb,LZ h,a9U hm.turn hm.part,if_pos (show rM x.2.1 x.2.2.1 x.2.2.2=true from h)]
theorem aOZ {x:nC} {o:Int} (hb:mW x.2.2.2) (h:II x=true) (ho:o=1∨o=2) (hi:ML x o=true) (t:Int):inS (t,x.2.1,x.2.2.1,kZ (wH (kS x o)) 0 4 o) o=some (x.2.2.2,true):=by
 have hm:=a1N h ho;have hl:(kS x o).length≤4∧(kS x o).length≠0:=by
  unfold ML a1F at hi;simp at hi;refine⟨by omega,fun e=>hi.1.2 (List.length_eq_zero_iff.1 e)⟩
 have hby:mW (kS x o):=by rw[LZ h];exact a2U hb _ _
 have hbl:=C8 h ho;have hp:=aOY (a9V hby) (p:=0) (s:=4) (o:=o) (by decide) ho (by decide) (by rw[TJ hl.1];decide);have e4:((wH (kS x o)).drop (0:Int).toNat).take (4:Int).toNat=wH (kS x o):=by
  show((wH (kS x o)).drop 0).take 4=_
  rw[gG,bP (by rw[TJ hl.1];exact aU _)]
 rw[e4]at hp;have hs:=YT hb h ho hi;unfold inS;simp only;rw[hp,a9W h ho (by unfold wH;rw[List.take_left'];rfl)];have hk:kX (kZ (wH (kS x o)) 0 4 o) 4 o=true:=(kP ho).2 (by rw[show rJ 4=4294967296 by decide];exact hs);have hil:aDF x.2.1 x.2.2.1=true:=by
  unfold aDF;rw[hm.long];simp;omega
 rw[hk,hil,if_pos (show(true&&true)=true from rfl),fQ];congr 2
 rw[←hbl];unfold wH a4M;rw[List.drop_left']
 ·simp
 ·rfl
theorem GN {α:Type} (g:α→Int) (z:α):∀l:List α,(∀k,k+1<l.length→g (l.getD k z)<g (l.getD (k+1) z))→l.Pairwise fun x y=>g x<g y
 | [],_=>List.Pairwise.nil
 |x::r,h=>by
  have ih:=GN g z r fun k hk=>by simpa using h (k+1) (by simpa using hk)
  refine List.Pairwise.cons (fun y hy=>?_) ih;cases r with
  |nil=>cases hy
  |cons u r=>
   have h0:g x<g u:=by simpa using h 0 (by simp)
   rcases bQ.1 hy with rfl|hy
   ·exact h0
   ·exact Int.lt_trans h0 ((dR.1 ih).1 y hy)
theorem YU {α:Type} (g:α→Int) (z:α) {l:List α} (h:l.Pairwise fun x y=>g x<g y) {i j:Nat} (hij:i<j) (hj:j<l.length):g (l.getD i z)<g (l.getD j z):=by
 rw[jI (by omega),jI hj];exact fT.1 h i j (by omega) hj hij
theorem qJ {α:Type} {l:List α} {x:α} (h:x∈l) (z:α):∃k,k<l.length∧l.getD k z=x:=by
 obtain⟨k,hk,rfl⟩:=fI h;exact⟨k,hk,jI hk _⟩
structure F7 (L:List lV) (f:Nat) (d:jD (f+1)) (i:Int):Prop where
 e1:1≤mQ d.1.length d.2.1.length d.2.2.length
 e2:mQ d.1.length d.2.1.length d.2.2.length≤65535
 bl:d.2.2.length=0∨(L.getD i.toNat jM).2.1≠0
 tg:∀x∈d.1,xM x.1=true∧qQ (L.getD i.toNat jM) x.1=false∧II x=true
 rt:d.1.Pairwise fun x y=>x.1<y.1
 sb:∀j,j<d.2.1.length→kT (L.getD i.toNat jM) (d.2.1.getD j (0,jS f)).1=true∧lQ L f (d.2.1.getD j (0,jS f)).2 (qH (L.getD i.toNat jM) (d.2.1.getD j (0,jS f)).1)=true
 rs:d.2.1.Pairwise fun x y=>x.1<y.1
theorem nS {L:List lV} {f:Nat} {d:jD (f+1)} {i:Int}:lQ L (f+1) d i=true↔F7 L f d i:=by
 rw[a2H,bF,bF];constructor
 ·rintro⟨⟨h1,h2⟩,h3⟩;unfold aJY at h1;simp only[bF,dG,dS,decide_eq_true_eq,decide_eq_false_iff_not]at h1;unfold ownB at h2;have ht:∀k,k<d.1.length→tgB (L.getD i.toNat jM) d.1 k=true:=fun k hk=>cZ.1 h2 k (bW.2 hk);have hs:∀k,k<d.2.1.length→OX (lQ L f) (L.getD i.toNat jM) d.2.1 k=true:=fun k hk=>cZ.1 h3 k (bW.2 hk);unfold tgB at ht;unfold OX at hs;simp only[bF,dG,dS,decide_eq_true_eq]at ht hs;refine⟨h1.1.1,h1.1.2,h1.2,fun x hx=>?_,GN _ tg0 _ fun k hk=>?_,fun j hj=>⟨(hs j hj).1.1,(hs j hj).2⟩,GN _ (0,jS f) _ fun k hk=>?_⟩
  ·obtain⟨k,hk,rfl⟩:=qJ hx tg0;have:=ht k hk;exact⟨this.1.1.1,this.1.2,this.2⟩
  ·rcases(ht (k+1) hk).1.1.2 with h|h
   ·omega
   ·exact h
  ·rcases(hs (k+1) hk).1.2 with h|h
   ·omega
   ·exact h
 ·intro h;refine⟨⟨?_,?_⟩,?_⟩
  ·unfold aJY;simp only[bF,dG,dS,decide_eq_true_eq,decide_eq_false_iff_not];exact⟨⟨h.e1,h.e2⟩,h.bl⟩
  ·unfold ownB;refine wW fun k hk=>?_;unfold tgB;simp only[bF,dG,dS,decide_eq_true_eq];have hm:d.1.getD k tg0∈d.1:=by rw[jI hk];exact bL hk
   have:=h.tg _ hm;refine⟨⟨⟨this.1,?_⟩,this.2.1⟩,this.2.2⟩;cases k with
   |zero=>exact .inl rfl
   |succ k=>exact .inr (YU _ tg0 h.rt (by omega) hk)
  ·refine wW fun k hk=>?_;unfold OX;simp only[bF,dG,decide_eq_true_eq];refine⟨⟨(h.sb k hk).1,?_⟩,(h.sb k hk).2⟩;cases k with
   |zero=>exact .inl rfl
   |succ k=>exact .inr (YU _ (0,jS f) h.rs (by omega) hk)
theorem a9X {L:List lV}:∀(f:Nat) (d:jD f) (i:Int),lQ L f d i=true→YR f d
 |0,_,_,_=>trivial
 |f+1,d,i,h=>by
  have hf:=nS.1 h;refine⟨hf.rt.imp fun {a b} hab e=>by omega,fun s hs=>?_⟩;obtain⟨j,hj,rfl⟩:=qJ hs (0,jS f);exact a9X f _ _ (hf.sb j hj).2
theorem TK {n i:Nat} {s:lV} (h:lH n i s=true) {t:Int} (hl:kT s t=true):nY s t=false∧0≤t∧t<65536:=by
 unfold kT at hl;obtain⟨y,hy,he⟩:=List.any_eq_true.1 hl;obtain⟨k,hk,rfl⟩:=qJ hy (0,0);have:=a2I h hk;unfold qO xM at this;simp only[bF,dS,decide_eq_true_eq]at this;have e:(s.1.getD k (0,0)).1=t:=by simpa using he
 rw[e]at this;unfold nY;exact⟨this.2,this.1.1.1.1,this.1.1.1.2⟩
theorem QH {n i:Nat} {s:lV} (h:lH n i s=true) (h0:s.2.1≠0):nY s s.2.1=true∧nY s s.2.2.1=true∧1≤s.2.1∧s.2.1<s.2.2.1∧s.2.2.1<65536:=by
 have:=a8Z h;unfold nY;simp;omega
theorem a9Y (f:Nat) (l:List lK) (ss:List (Int×jD f)) (no:Int):(EG f l ss no ss.length).map (·.1)=ss.map (·.1):=by
 unfold EG;rw[List.map_map];refine gH (by simp) fun k h1 h2=>?_;have hk:k<ss.length:=by simpa using h2
 simp only[fD,List.getElem_range,Function.comp];show(ss.getD k (0,jS f)).1=_
 rw[jI hk]
theorem aP0 (l:List lK) (o no:Int) (ts:List nC):(ts.map (JH l o no)).map (·.1)=ts.map (·.1):=by
 rw[List.map_map];rfl
theorem aEF {L:List lV} {n:Nat} {f:Nat} {d:jD (f+1)} {i:Int} (l:List lK) (o no:Int) (h:F7 L f d i) (hs:lH n i.toNat (L.getD i.toNat jM)=true):
  (mR f l o no (L.getD i.toNat jM) d).Pairwise fun x y=>x.1≠y.1:=by
 rw[←fK (f:=fun(x:mK)=>x.1) (R:=fun a b=>a≠b)];unfold mR;rw[dL,dL,a9Y,aP0];show List.Nodup _
 rw[iW,iW];have hB:∀t∈(xR l (L.getD i.toNat jM) d.2.2 no).map (·.1),nY (L.getD i.toNat jM) t=true:=fun t ht=>by
  unfold xR at ht;split at ht
  ·rename_i hb;have hp:=QH hs (by rcases h.bl with h|h;omega;exact h);simp at ht;rcases ht with rfl|rfl
   ·exact hp.1
   ·exact hp.2.1
  ·simp at ht
 have hS:∀t∈d.2.1.map (·.1),kT (L.getD i.toNat jM) t=true:=fun t ht=>by
  obtain⟨s,hs,rfl⟩:=cB.1 ht;obtain⟨j,hj,rfl⟩:=qJ hs (0,jS f);exact(h.sb j hj).1
 have hT:∀t∈d.1.map (·.1),qQ (L.getD i.toNat jM) t=false:=fun t ht=>by
  obtain⟨s,hs,rfl⟩:=cB.1 ht;exact(h.tg s hs).2.1
 refine⟨⟨GJ (h.rt.imp fun {a b} hab e=>by omega),GJ (h.rs.imp fun {a b} hab e=>by omega),?_⟩,?_,?_⟩
 ·intro a ha b hb e;have h1:=hT a ha;have h2:=hS b hb;subst e;unfold qQ at h1;rw[h2]at h1;exact absurd h1 (by simp)
 ·unfold xR;split
  ·rename_i hb;have hp:=QH hs (by rcases h.bl with h|h;omega;exact h);refine iT.2 ⟨fun hm=>?_,iT.2 ⟨fun hm=>(by cases hm),List.nodup_nil⟩⟩;have hm2:(L.getD i.toNat jM).2.1=(L.getD i.toNat jM).2.2.1:=by simpa using hm
   omega
  ·exact List.nodup_nil
 ·intro a ha b hb e;subst e;have h2:=hB a hb;rcases bH.1 ha with ha|ha
  ·have h1:=hT a ha;unfold qQ at h1;rw[h2]at h1;exact absurd h1 (by simp)
  ·have h1:=(TK hs (hS a ha)).1;rw[h2]at h1;cases h1
theorem QI {l:List lK} {n k:Nat} {a b c:Int} (h:Fits l n a b c k):0≤oG l a b c∧oG l a b c+k≤n:=by
 obtain⟨_,h1,h2⟩:=h;omega
theorem aP1 {L:List lV} (hL:l9 L=true) {l:List lK} {n:Nat} {o:Int} (ho:o=1∨o=2) (hn:n≤4294967295):∀(f:Nat) (d:jD f) (no i:Int),0≤i→i<L.length→lQ L f d i=true→pU f d→
  (∀a b c m,((a,b,c,m):DN)∈mU f d no→∀k:Nat,(k:Int)≤m→Fits l n a b c k)→okW L l n o f d no i
 |0,_,_,_,_,_,_,_,_=>trivial
 |f+1,d,no,i,h0,h1,hh,hby,hF=>by
  have hf:=nS.1 hh;have hs:=vY hL (i:=i.toNat) (by omega);have hfit:∀x∈d.1,ML x o=true∨(1≤(kS x o).length∧Fits l n 3 no x.1 (kS x o).length):=fun x hx=>by
   have hx3:=hf.tg x hx;by_cases hz:oL x.2.1 x.2.2.1=0
   ·exact .inl (by rw[YS hx3.2.2 ho hx3.1,hz];rfl)
   ·have hl:=QG hx3.2.2 ho hz;refine .inr ⟨by omega,hF 3 no x.1 (AU x) ?_ _ (by unfold AU;omega)⟩;rw[nN];refine aZ _ (bH.2 (.inl ?_));refine cB.2 ⟨x,eZ.2 ⟨hx,?_⟩,rfl⟩;unfold AU;have:=QE x;unfold AU at this;simp;omega
  have hel:=LV f l o no (L.getD i.toNat jM) d;have hF2:Fits l n 2 no 0 (6+12*mQ d.1.length d.2.1.length d.2.2.length):=hF 2 no 0 _ (by rw[nN];exact bJ ..) _ (by omega);have hFB:0<d.2.2.length→Fits l n 4 no 0 d.2.2.length:=fun hb=>hF 4 no 0 _ (by
   rw[nN];refine aZ _ (bH.2 (.inr (bH.2 (.inr ?_))));unfold D8;rw[if_pos hb];exact bJ ..) _ (fP _)
  have hsub:∀j,j<d.2.1.length→(∀a b c m,((a,b,c,m):DN)∈mU f (d.2.1.getD j (0,jS f)).2 (pQ f d.2.1 no j)→((a,b,c,m):DN)∈mU (f+1) d no):=fun j hj a b c m hx=>by
   rw[nN];exact aZ _ (bH.2 (.inr (bH.2 (.inl (LX hj _ hx)))))
  have hsi:∀j,j<d.2.1.length→0≤qH (L.getD i.toNat jM) (d.2.1.getD j (0,jS f)).1∧qH (L.getD i.toNat jM) (d.2.1.getD j (0,jS f)).1<L.length:=fun j hj=>by
   have:=PO hL (i:=i.toNat) (by omega) (hf.sb j hj).1;omega
  have hFS:∀j,j<d.2.1.length→0≤oG l 2 (pQ f d.2.1 no j) 0∧oG l 2 (pQ f d.2.1 no j) 0≤n:=fun j hj=>by
   have hh2:=(hf.sb j hj).2;cases f with
   |zero=>exact absurd hh2 (by simp[lQ])
   |succ f=>
    have:=QI (hF 2 (pQ (f+1) d.2.1 no j) 0 _ (hsub j hj _ _ _ _ (by rw[nN];exact bJ ..)) 0 (by omega));omega
  refine⟨fun x hx=>⟨hfit x hx,?_⟩,fun j hj=>⟨(hf.sb j hj).1,aP1 hL ho hn f _ _ _ (hsi j hj).1 (hsi j hj).2 (hf.sb j hj).2 ?_ fun a b c m hx k hk=>hF a b c m (hsub j hj a b c m hx) k hk⟩,hFB,?_,by rw[hel];exact hf.e1,by rw[hel];exact hf.e2,ho,aEF l o no hf hs,?_⟩
  ·have:=(a1N (hf.tg x hx).2.2 ho).small;omega
  ·refine hby.2.1 _ ?_;rw[jI hj];exact bL hj
  ·obtain⟨a1,a2,a3⟩:=hF2;exact⟨a1,a2,by rw[hel];omega⟩
  ·intro x hx;have hk:∀{a b:Int} (s:Int),0≤a→a<rJ s→kX a s o=true:=fun s h1 h2=>(kP ho).2 ⟨h1,h2⟩;unfold DL;simp only[bF];unfold mR at hx;rcases bH.1 hx with hx|hx
   ·rcases bH.1 hx with hx|hx
    ·obtain⟨t,ht,rfl⟩:=cB.1 hx;have h3:=hf.tg t ht;have hm:=a1N h3.2.2 ho;have ht0:=h3.1;unfold xM at ht0;simp at ht0;have hm1:=hm.y1;have hm2:=hm.y2;have LK:=hm.k1;have MJ:=hm.k2;refine⟨⟨⟨(kP ho).2 ?_,(kP ho).2 ?_⟩,(kP ho).2 ?_⟩,(kP ho).2 ?_⟩
     ·show 0≤t.1∧t.1<65536;omega
     ·show 0≤t.2.1∧t.2.1<65536;omega
     ·show 0≤t.2.2.1∧t.2.2.1<4294967296;omega
     ·show 0≤(if ML t o=true then kZ (wH (kS t o)) 0 4 o else oG l 3 no t.1)∧(if ML t o=true then kZ (wH (kS t o)) 0 4 o else oG l 3 no t.1)<4294967296
      by_cases hi:ML t o=true
      ·rw[if_pos hi];exact YT (hby.1 t ht) h3.2.2 ho hi
      ·rw[if_neg hi];rcases hfit t ht with h|⟨_,h⟩
       ·exact absurd h hi
       ·have:=QI h;omega
    ·unfold EG at hx;obtain⟨j,hj,rfl⟩:=cB.1 hx;have hj:=bW.1 hj;have hlp:=(TK hs (hf.sb j hj).1).2;have:=hFS j hj;refine⟨⟨⟨(kP ho).2 ?_,(kP ho).2 ?_⟩,(kP ho).2 ?_⟩,(kP ho).2 ?_⟩
     ·show 0≤(d.2.1.getD j (0,jS f)).1∧(d.2.1.getD j (0,jS f)).1<65536;omega
     ·show(0:Int)≤4∧(4:Int)<65536;decide
     ·show(0:Int)≤1∧(1:Int)<4294967296;decide
     ·show 0≤oG l 2 (pQ f d.2.1 no j) 0∧oG l 2 (pQ f d.2.1 no j) 0<4294967296;omega
   ·unfold xR at hx;split at hx
    ·rename_i hb;have hp:=QH hs (by rcases hf.bl with h|h;omega;exact h);have hfb:=QI (hFB hb);simp only[bQ,eD,or_false]at hx;rcases hx with rfl|rfl
     ·refine⟨⟨⟨(kP ho).2 ?_,(kP ho).2 ?_⟩,(kP ho).2 ?_⟩,(kP ho).2 ?_⟩
      ·show 0≤(L.getD i.toNat jM).2.1∧(L.getD i.toNat jM).2.1<65536;omega
      ·show(0:Int)≤4∧(4:Int)<65536;decide
      ·show(0:Int)≤1∧(1:Int)<4294967296;decide
      ·show 0≤oG l 4 no 0∧oG l 4 no 0<4294967296;omega
     ·refine⟨⟨⟨(kP ho).2 ?_,(kP ho).2 ?_⟩,(kP ho).2 ?_⟩,(kP ho).2 ?_⟩
      ·show 0≤(L.getD i.toNat jM).2.2.1∧(L.getD i.toNat jM).2.2.1<65536;omega
      ·show(0:Int)≤4∧(4:Int)<65536;decide
      ·show(0:Int)≤1∧(1:Int)<4294967296;decide
      ·show 0≤((d.2.2.length:Nat):Int)∧((d.2.2.length:Nat):Int)<4294967296;omega
    ·cases hx
theorem pW {f:Nat} {o:Int} {ds:List (jD f)} {L:List lV} (h:mJ f o ds L=0):l9 L=true∧(o=1∨o=2)∧ds.length≠0∧chainB L ds.length=true∧hasAll L f ds=true∧mX f ds≠0:=by
 unfold mJ at h;split at h
 ·rename_i h1;split at h
  ·rename_i h2;split at h
   ·rename_i h3;split at h
    ·exact absurd h (by decide)
    ·rename_i h4;simp only[bF,dG,dS,decide_eq_true_eq,decide_eq_false_iff_not]at h1;exact⟨h1.1.1,h1.1.2,h1.2,h2,h3,h4⟩
   ·exact absurd h (by decide)
  ·exact absurd h (by decide)
 ·exact absurd h (by decide)
theorem QJ {f:Nat} {ds:List (jD f)} (h:mX f ds≠0):IL f ds=true∧mX f ds=lS (jV f ds)∧lS (jV f ds)≤4294967295:=by
 unfold mX at h ⊢;split at h
 ·rename_i hf;rw[if_pos hf];refine⟨hf,rfl,?_⟩;unfold IL at hf;simp only[bF,decide_eq_true_eq]at hf;exact hf.2
 ·exact absurd rfl h
theorem oC {L:List lV} {f:Nat} {ds:List (jD f)} (h:hasAll L f ds=true) {k:Nat} (hk:k<ds.length):lQ L f (ds.getD k (jS f)) (mI L k)=true:=cZ.1 h k (bW.2 hk)
theorem uH {L:List lV} {f:Nat} {ds:List (jD f)} (h:hasAll L f ds=true):∀d∈ds,YR f d:=fun d hd=>by
 obtain⟨k,hk,rfl⟩:=qJ hd (jS f);exact a9X f _ _ (oC h hk)
theorem YV {L:List lV} {n k:Nat} (h:chainB L n=true) (hk:k<n):0≤mI L k:=by
 have:=cZ.1 h k (bW.2 hk);simpa using this
theorem F8 {f:Nat} {ds:List (jD f)} {k:Nat} (hk:k<ds.length):∀x∈mU f (ds.getD k (jS f)) (noT f ds k),x∈tH f ds:=fun x hx=>by
 refine aZ _ (LX (j:=k) (by simpa [wL] using hk) x ?_);have e1:((wL f ds).getD k (0,jS f)).2=ds.getD k (jS f):=by
  rw[jI (by simpa [wL] using hk),jI hk];simp[wL]
 have e2:(0:Int)+(kD f ((wL f ds).take k)).length=noT f ds k:=by
  have:(wL f ds).take k=wL f (ds.take k):=by unfold wL;rw[iH]
  rw[this,AY];unfold noT;omega
 rw[e1,e2];exact hx
theorem QK (f:Nat) (ds:List (jD f)):8≤lS (jV f ds):=by
 rw[(vO f ds).2];have:=a4X (nA (mU f) (wL f ds) 0) 8 (by decide) fun x hx=>GK f ds x (aZ _ hx);exact this
theorem JN {L:List lV} {f:Nat} {d:jD f} {i:Int} (h:lQ L f d i=true) (no:Int):((2,no,0,6+12*((WG f d:Nat):Int)):DN)∈mU f d no:=by
 cases f with
 |zero=>exact absurd h (by simp[lQ])
 |succ f=>rw[nN];exact bJ ..
theorem GQ {f:Nat} {o:Int} {ds:List (jD f)} {L:List lV} (h:mJ f o ds L=0) (hb:∀d∈ds,pU f d):OKT f o ds L:=by
 obtain⟨h1,h2,h3,h4,h5,h6⟩:=pW h;obtain⟨g1,g2,g3⟩:=QJ h6;have hd:=uH h5;have h8:=QK f ds;have hN:(mX f ds).toNat≤4294967295:=by omega
 have hF:∀k,k<ds.length→∀a b c m,((a,b,c,m):DN)∈mU f (ds.getD k (jS f)) (noT f ds k)→∀q:Nat,(q:Int)≤m→Fits (jV f ds) (mX f ds).toNat a b c q:=fun k hk a b c m hx q hq=>
  aX9 hd (F8 hk _ hx) (by omega) hq
 have hE:∀k,k<ds.length→Fits (jV f ds) (mX f ds).toNat 2 (noT f ds k) 0 (6+12*WG f (ds.getD k (jS f))):=fun k hk=>hF k hk 2 _ 0 _ (JN (oC h5 hk) _) _ (by omega);refine⟨h1,h2,by omega,by omega,g1,fun k hk=>YV h4 hk,fun k hk=>?_,fun k hk=>?_,fun k hk=>?_⟩
 ·have hnx:=YV h4 hk;have hnl:=(BO h1 k).1;refine aP1 h1 h2 hN f _ _ _ hnx hnl (oC h5 hk) (hb _ ?_) (hF k hk);rw[jI hk];exact bL hk
 ·cases k with
  |zero=>show 0≤(4:Int)∧(4:Int).toNat+4≤_;omega
  |succ k=>
   have:=QI (hE k (by omega));show 0≤oG (jV f ds) 2 (noT f ds k) 0+2+12*((WG f (ds.getD k (jS f)):Nat):Int)∧(oG (jV f ds) 2 (noT f ds k) 0+2+12*((WG f (ds.getD k (jS f)):Nat):Int)).toNat+4≤(mX f ds).toNat
   omega
 ·have:=QI (hE k hk);refine(kP h2).2 ?_;rw[show rJ 4=4294967296 by decide];omega
def sF (es:List mK) (x:mK):Nat:=(es.filter fun y=>decide (y.1<x.1)).length
def b5W (q:Nat) (o:Int) (es:List mK) (n:Nat):List Pt:=(List.range n).map fun i=>(q+2+12*sF es (es.getD i MO),D7 (es.getD i MO) o)
def aKN (f:Nat) (l:List lK) (o no:Int) (s:lV) (d:jD (f+1)):List Pt:=
 d.1.flatMap (zV l o no)++xS l d.2.2 no++(((oG l 2 no 0).toNat,kL (mR f l o no s d).length 2 o)::b5W (oG l 2 no 0).toNat o (mR f l o no s d) (mR f l o no s d).length)
theorem aKO {es:List mK} {i:Nat} (h:i<es.length):sF es (es.getD i MO)<es.length:=by
 unfold sF;rw[List.length_filter_lt_length_iff_exists];refine⟨es.getD i MO,by rw[jI h];exact bL h,by simp⟩
theorem aHJ {α:Type} {p q:α→Bool}:∀{l:List α},(∀z∈l,p z=true→q z=true)→∀{x:α},x∈l→q x=true→p x=false→(l.filter p).length<(l.filter q).length
 | [],_,_,h,_,_=>by cases h
 |a::l,hpq,x,hx,hq,hp=>by
  have hle:(l.filter p).length≤(l.filter q).length:=by
   rw[←List.countP_eq_length_filter,←List.countP_eq_length_filter];exact List.countP_mono_left fun z hz=>hpq z (aZ _ hz)
  rcases bQ.1 hx with rfl|hx
  ·rw[dY hq,dJ (by simp[hp]),dF];omega
  ·have ih:=aHJ (fun z hz=>hpq z (aZ _ hz)) hx hq hp;cases ha:p a with
   |true=>
    rw[dY ha,dY (hpq a (bJ ..) ha),dF,dF];omega
   |false=>
    rw[dJ (by simp[ha])];cases hb:q a with
    |true=>rw[dY hb,dF];omega
    |false=>rw[dJ (by simp[hb])];exact ih
theorem a9Z {es:List mK} {x y:mK} (hx:x∈es) (h:x.1<y.1):sF es x<sF es y:=by
 unfold sF;refine aHJ (fun z _ hz=>?_) hx (by simpa using h) (by simp);simp only[decide_eq_true_eq]at hz ⊢;omega
theorem GR:∀{l:List mK},(l.Pairwise fun x y=>x.1<y.1)→∀{i:Nat} (h:i<l.length),(l.filter fun y=>decide (y.1<(l[i]).1)).length=i
 | [],_,_,h=>by simp at h
 |a::l,hp,0,_=>by
  obtain⟨h1,_⟩:=dR.1 hp;have:(a::l).filter (fun y=>decide (y.1<a.1))= []:=by
   rw[List.filter_eq_nil_iff];intro y hy;rcases bQ.1 hy with rfl|hy
   ·simp
   ·have:=h1 y hy;simp;omega
  show((a::l).filter fun y=>decide (y.1<a.1)).length=0
  rw[this];rfl
 |a::l,hp,i+1,h=>by
  obtain⟨h1,h2⟩:=dR.1 hp;have hi:i<l.length:=by simpa using h
  have:=GR h2 hi;show((a::l).filter fun y=>decide (y.1<(l[i]).1)).length=i+1
  rw[dY (by simpa using h1 _ (bL hi)),dF,this]
theorem JO {α β:Type} (g:α→β) (z:α) (l:List α):(List.range l.length).map (fun i=>g (l.getD i z))=l.map g:=by
 refine gH (by simp) fun i h1 h2=>?_;have h3:i<l.length:=by simpa using h1
 rw[fD,List.getElem_range,fD,jI h3]
theorem vR (l:List mK):(sortE l).Perm l:=gY _ _
theorem QL {l:List mK} (hd:l.Pairwise fun x y=>x.1≠y.1):(sortE l).Pairwise fun x y=>x.1<y.1:=by
 have h1:(sortE l).Pairwise fun x y=>x.1≠y.1:=((vR l).pairwise_iff (fun {_ _} h=>Ne.symm h)).2 hd;have h2:(sortE l).Pairwise fun x y=>(!Go.Proofs.ltOf cfE y x)=true:=by
  refine List.pairwise_mergeSort ?_ ?_ _
  ·intro a b c h1 h2;simp only[ltE,dS,decide_eq_false_iff_not]at h1 h2 ⊢;omega
  ·intro a b;simp only[ltE,dG,dS,decide_eq_false_iff_not];omega
 refine(h1.and h2).imp fun {a b} h=>?_;obtain⟨h3,h4⟩:=h;simp only[ltE,dS,decide_eq_false_iff_not]at h4;omega
def aA0 (q:Nat) (o:Int) (es:List mK) (x:mK):Pt:=(q+2+12*sF es x,D7 x o)
theorem aHK (q:Nat) (o:Int) (es:List mK):b5W q o es es.length=es.map (aA0 q o es):=JO (aA0 q o es) MO es
theorem aXA {q:Nat} {o:Int} {es:List mK} (hd:es.Pairwise fun x y=>x.1≠y.1):rowP q o (sortE es) es.length=(sortE es).map (aA0 q o es):=by
 rw[←JO (aA0 q o es) MO,uQ];unfold rowP;refine List.map_congr_left fun i hi=>?_;have hi:i<(sortE es).length:=by rw[uQ];exact bW.1 hi
 have h1:=GR (QL hd) hi;have h2:sF es ((sortE es).getD i MO)=i:=by
  rw[jI hi];unfold sF;rw[←((vR es).filter _).length_eq];exact h1
 unfold aA0;rw[h2]
theorem aP2 {q:Nat} {o:Int} {es:List mK} (hd:es.Pairwise fun x y=>x.1≠y.1):(rowP q o (sortE es) es.length).Perm (b5W q o es es.length):=by
 rw[aXA hd,aHK];exact(vR es).map _
def IV (L:List lV) (l:List lK) (o:Int):(f:Nat)→jD f→Int→Int→List Pt
 |0,_,_,_=> []
 |f+1,d,no,i=>GI (IV L l o f) (L.getD i.toNat jM) d.2.1 no d.2.1.length++aKN f l o no (L.getD i.toNat jM) d
theorem F9 (L:List lV) (l:List lK) (o:Int) (f:Nat) (d:jD (f+1)) (no i:Int):IV L l o (f+1) d no i=
  GI (IV L l o f) (L.getD i.toNat jM) d.2.1 no d.2.1.length++aKN f l o no (L.getD i.toNat jM) d:=rfl
theorem aA1 {L:List lV} {l:List lK} {n:Nat} {o:Int}:∀(f:Nat) (d:jD f) (no i:Int),okW L l n o f d no i→(IQ L l o f d no i).Perm (IV L l o f d no i)
 |0,_,_,_,_=>List.Perm.refl _
 |f+1,d,no,i,h=>by
  obtain⟨_,hs,_,_,_,_,_,hk,_⟩:=Q6 h;rw[a2P,F9];unfold aKN N9;have h1:(GI (IQ L l o f) (L.getD i.toNat jM) d.2.1 no d.2.1.length).Perm (GI (IV L l o f) (L.getD i.toNat jM) d.2.1 no d.2.1.length):=
   GD _ fun j hj=>aA1 f _ _ _ (hs j (bW.1 hj)).2
  have h2:=(aP2 (q:=(oG l 2 no 0).toNat) (o:=o) hk).cons ((oG l 2 no 0).toNat,kL ((mR f l o no (L.getD i.toNat jM) d).length:Nat) 2 o);have h3:(d.1.flatMap (zV l o no)++GI (IQ L l o f) (L.getD i.toNat jM) d.2.1 no d.2.1.length).Perm (GI (IV L l o f) (L.getD i.toNat jM) d.2.1 no d.2.1.length++d.1.flatMap (zV l o no)):=
   List.perm_append_comm.trans (h1.append (List.Perm.refl _))
  rw[←dB,←dB];exact(h3.append (List.Perm.refl _)).append h2
theorem JQ {α β:Type} (f g:α→List β):∀l:List α,(l.flatMap fun x=>f x++g x).Perm (l.flatMap f++l.flatMap g)
 | []=>List.Perm.refl _
 |x::l=>by
  rw[dO,dO,dO];refine((List.Perm.refl (f x++g x)).append (JQ f g l)).trans ?_;rw[dB,dB];refine(List.Perm.refl (f x)).append ?_;rw[←dB,←dB];exact List.perm_append_comm.append (List.Perm.refl _)
def uI (l:List lK) (o:Int) (f:Nat) (ds:List (jD f)) (k:Nat):Pt:=((QC l f ds k).toNat,kL (oG l 2 (noT f ds k) 0) 4 o)
def nextQ (l:List lK) (o:Int) (f:Nat) (ds:List (jD f)) (k:Nat):List Pt:=if k+1<ds.length then [uI l o f ds (k+1)]else []
def chQ (L:List lV) (l:List lK) (o:Int) (f:Nat) (ds:List (jD f)) (n:Nat):List Pt:=
 (List.range n).flatMap fun k=>IV L l o f (ds.getD k (jS f)) (noT f ds k) (mI L k)++nextQ l o f ds k
theorem aEG {β:Type} (B:Nat→β) (m:Nat):((List.range (m+1)).flatMap fun k=>if k+1<m+1 then [B (k+1)]else [])=(List.range m).map fun k=>B (k+1):=by
 rw[gM,dW];have h1:([m].flatMap fun k=>if k+1<m+1 then [B (k+1)]else [])= []:=by simp
 rw[h1,dM];have h2:∀q,q≤m→((List.range q).flatMap fun k=>if k+1<m+1 then [B (k+1)]else [])=(List.range q).map fun k=>B (k+1):=by
  intro q;induction q with
  |zero=>intro _;rfl
  |succ q ih=>
   intro hq;rw[gM,dW,dL,ih (by omega)];simp;omega
 exact h2 m (aU _)
theorem aXB {L:List lV} {l:List lK} {n:Nat} {o:Int} {f:Nat} {ds:List (jD f)} (h0:ds.length≠0) (h:∀k,k<ds.length→okW L l n o f (ds.getD k (jS f)) (noT f ds k) (mI L k)):
  (chW L l o f ds ds.length).Perm (uI l o f ds 0::chQ L l o f ds ds.length):=by
 obtain⟨m,hm⟩:∃m,ds.length=m+1:=⟨ds.length - 1,by omega⟩;have e1:chW L l o f ds ds.length=(List.range ds.length).flatMap fun k=>IQ L l o f (ds.getD k (jS f)) (noT f ds k) (mI L k)++ [uI l o f ds k]:=rfl;have e2:((List.range ds.length).flatMap fun k=> [uI l o f ds k])=(List.range ds.length).map (uI l o f ds):=by
  induction (List.range ds.length)with
  |nil=>rfl
  |cons a r ih=>rw[dO,ih];rfl
 have e3:((List.range ds.length).flatMap (nextQ l o f ds))=(List.range m).map fun k=>uI l o f ds (k+1):=by
  have:=aEG (uI l o f ds) m;unfold nextQ;rw[hm];exact this
 have e4:(List.range ds.length).map (uI l o f ds)=uI l o f ds 0::(List.range m).map fun k=>uI l o f ds (k+1):=by
  rw[hm,List.range_succ_eq_map,aS,List.map_map];rfl
 rw[e1];refine(JQ _ _ _).trans ?_;rw[e2,e4];refine List.perm_middle.trans (List.Perm.cons _ ?_);unfold chQ;refine List.Perm.trans ?_ (JQ _ _ _).symm;have e5:((List.range ds.length).flatMap fun k=>nextQ l o f ds k)=(List.range m).map fun k=>uI l o f ds (k+1):=e3;rw[e5];exact(GD _ fun k hk=>aA1 f _ _ _ (h k (bW.1 hk))).append (List.Perm.refl _)
def A9 (o:Int):List Int:=if o=2 then [77,77]else [73,73]
def JR (f:Nat) (o:Int) (ds:List (jD f)) (L:List lV):List Pt:=(0,A9 o)::(2,kL 42 2 o)::(4,kL 8 4 o)::chQ L (jV f ds) o f ds ds.length
