import Derived.Test.YtceclmpmpldmlaaGreatCx23
set_option linter.unusedSimpArgs false
set_option linter.unusedVariables false
set_option maxRecDepth 100000
set_option maxHeartbeats 8000000
namespace Go.Proofs.YtceclmpmpldmlaaGreat
open Go.RowKit Tt
theorem aSS {s:Int} (h:s=1∨s=2∨s=4):rF s=256 ^ s.toNat:=by
 rcases h with rfl|rfl|rfl <;> decide
theorem lU {n s o:Int} (ho:o=1∨o=2):lZ n s o=true↔0≤n∧n<rF s:=by
 unfold lZ;simp;omega
theorem aZE {n s o:Int} (h:lZ n s o=true):kZ n s o=if o=1 then ZV s.toNat n else(ZV s.toNat n).reverse:=by
 unfold kZ;rw[if_pos h]
theorem xK {n s o:Int} (h:lZ n s o=true):(kZ n s o).length=s.toNat:=by
 rw[aZE h];split <;> simp[UQ]
theorem aZF {z:List Int} {p s o:Int} (hs:s=1∨s=2∨s=4) (ho:o=1∨o=2) (h0:0≤p) (h1:p+s≤z.length):yN z p s o=be (X9 z p.toNat s.toNat o):=by
 unfold yN;rw[if_pos (aYE hs ho h0 h1)]
theorem aHL {z:List Int} (hb:tV z) {p s o:Int} (hs:s=1∨s=2∨s=4) (ho:o=1∨o=2) (h0:0≤p) (h1:p+s≤z.length):0≤yN z p s o∧yN z p s o<rF s:=by
 rw[aZF hs ho h0 h1];have hl:(X9 z p.toNat s.toNat o).length=s.toNat:=a1D aG;have:=a1C (a1E hb p.toNat s.toNat o) (aZ _);rw[bK (aZ _),hl]at this;rw[aSS hs];exact this
theorem aHM {b:List Int} {s o:Int} (h:M5 s o=true):(wK b s o).length=b.length:=by
 unfold wK;rw[if_pos h];split
 ·exact BD _ _
 ·rfl
structure bPG (y k:Int) (d:List Int) (o:Int):Prop where
 y1:1≤y
 y2:y≤12
 k1:1≤k
 k2:k≤65536
 s1:1≤(kU y).1
 s8:(kU y).1≤8
 len:(d.length:Int)=k*(kU y).1
 long:AL y k=d.length
 part:0<(kU y).2.1
 turn:M5 (kU y).2.1 o=true
 small:d.length≤524288
theorem aHN {y k:Int} {d:List Int} {o:Int} (h:vH y k d=true) (ho:o=1∨o=2):bPG y k d o:=by
 unfold vH at h;simp only[bV,decide_eq_true_eq]at h;obtain⟨⟨⟨⟨h1,h2⟩,h3⟩,h4⟩,_⟩:=h;have hb:=AY y;have hy:1≤y∧y≤12:=by
  refine Classical.byContradiction fun hn=>h1 ?_;by_cases h0:y=0
  ·rw[h0];decide
  ·rw[OZ aG]
 have hp:0<(kU y).2.1∧((kU y).2.1=1∨(kU y).2.1=2∨(kU y).2.1=4∨(kU y).2.1=8):=by
  rcases(by omega:y=1∨y=2∨y=3∨y=4∨y=5∨y=6∨y=7∨y=8∨y=9∨y=10∨y=11∨y=12)with rfl|rfl|rfl|rfl|rfl|rfl|rfl|rfl|rfl|rfl|rfl|rfl <;> decide
 have hl:AL y k=d.length:=by unfold AL;rw[if_neg aG,h4]
 have hL:=a1M y k;refine⟨hy.1,hy.2,h2,h3,by omega,hb.2,h4,hl,hp.1,?_,by omega⟩;unfold M5 EX;simp;omega
theorem a8D {x:rM} {o:Int} (h:ZW x=true):lT x o=wK x.2.2.2 (kU x.2.1).2.1 o:=by
 unfold lT;unfold ZW at h;rw[if_pos h]
theorem SH {x:rM} {o:Int} (h:ZW x=true) (ho:o=1∨o=2):(lT x o).length=x.2.2.2.length:=by
 rw[a8D h,aHM (aHN h ho).turn]
theorem a3J {x:rM} {o:Int} (h:ZW x=true) (ho:o=1∨o=2) (ht:vV x.1=true):V7 x o=decide (yF x.2.1 x.2.2.1=0):=by
 have hm:=aHN h ho;have yV:(1:Int)≤x.2.2.2.length:=by
  rw[hm.len];have h1:=hm.k1;have h2:=hm.s1;have:=iO h1 h2 aH aG;omega
 unfold V7 a9I yF;rw[hm.long,SH h ho];have hp:lZ x.1 2 o=true:=(lU ho).2 (by unfold vV at ht;simp at ht;unfold rF;simp;omega);rw[hp,dD];generalize x.2.2.2.length=q at yV ⊢;by_cases h4:4<(q:Int)
 ·rw[if_pos h4,decide_eq_false (show ¬q≤4 by omega),Bool.and_false,decide_eq_false (show ¬(q:Int)=0 by omega)]
 ·rw[if_neg h4,decide_eq_true (show q≠0 by omega),decide_eq_true (show q≤4 by omega)];rfl
theorem aDG {x:rM} {o:Int} (h:ZW x=true) (ho:o=1∨o=2) (hn:yF x.2.1 x.2.2.1≠0):yF x.2.1 x.2.2.1=(lT x o).length∧4<(lT x o).length:=by
 have hm:=aHN h ho;rw[SH h ho];unfold yF at hn ⊢;rw[hm.long]at hn ⊢;split at hn
 ·rename_i hc;rw[if_pos hc];omega
 ·exact absurd rfl hn
theorem aNW {b:List Int} (h:tV b) (s o:Int):tV (wK b s o):=by
 unfold wK;split
 ·split
  ·intro x hx;unfold turned at hx;obtain⟨i,_,rfl⟩:=dG.1 hx;exact h.get _
  ·exact h
 ·intro x hx;cases hx
theorem aST {b:List Int} (h:tV b):tV (A9 b):=h.append fun x hx=>by
 have:=(List.mem_replicate.1 hx).2;omega
theorem aNX {b:List Int} (h:b.length≤4):(A9 b).length=4:=by unfold A9;simp;omega
theorem aHO {x:rM} {o:Int} (hb:tV x.2.2.2) (h:ZW x=true) (ho:o=1∨o=2) (hi:V7 x o=true):0≤yN (A9 (lT x o)) 0 4 o∧yN (A9 (lT x o)) 0 4 o<4294967296:=by
 have hl:(lT x o).length≤4:=by
  unfold V7 a9I at hi;simp at hi;omega
 have rU:tV (lT x o):=by rw[a8D h];exact aNW hb _ _
 have:=aHL (aST rU) (p:=0) (s:=4) (o:=o) aH ho aH (by rw[aNX hl];decide);rw[show rF 4=4294967296 by decide]at this;exact this
theorem LH {α:Type} (g:α→Int) (z:α):∀l:List α,(∀k,k+1<l.length→g (l.getD k z)<g (l.getD (k+1) z))→l.Pairwise fun x y=>g x<g y
 | [],_=>List.Pairwise.nil
 |x::r,h=>by
  have ih:=LH g z r fun k hk=>by simpa using h (k+1) (by simpa using hk)
  refine iC (fun y hy=>?_) ih;cases r with
  |nil=>cases hy
  |cons u r=>
   have h0:g x<g u:=by simpa using h 0 (by simp)
   rcases cB.1 hy with rfl|hy
   ·exact h0
   ·exact Int.lt_trans h0 ((fU.1 ih).1 y hy)
theorem a3K {α:Type} (g:α→Int) (z:α) {l:List α} (h:l.Pairwise fun x y=>g x<g y) {i j:Nat} (hij:i<j) (hj:j<l.length):g (l.getD i z)<g (l.getD j z):=by
 rw[jO aG,jO hj];exact fO.1 h i j aG hj hij
theorem JY {α:Type} {l:List α} {x:α} (h:x∈l) (z:α):∃k,k<l.length∧l.getD k z=x:=by
 obtain⟨k,hk,rfl⟩:=eH h;exact⟨k,hk,jO hk _⟩
structure b7L (L:List rQ) (f:Nat) (d:jR (f+1)) (i:Int):Prop where
 e1:1≤qM d.1.length d.2.1.length d.2.2.length
 e2:qM d.1.length d.2.1.length d.2.2.length≤65535
 bl:d.2.2.length=0∨(L.getD i.toNat mD).2.1≠0
 tg:∀x∈d.1,vV x.1=true∧RO (L.getD i.toNat mD) x.1=false∧ZW x=true
 rt:d.1.Pairwise fun x y=>x.1<y.1
 sb:∀j,j<d.2.1.length→wU (L.getD i.toNat mD) (d.2.1.getD j (0,lY f)).1=true∧nJ L f (d.2.1.getD j (0,lY f)).2 (zA (L.getD i.toNat mD) (d.2.1.getD j (0,lY f)).1)=true
 rs:d.2.1.Pairwise fun x y=>x.1<y.1
theorem VI {L:List rQ} {f:Nat} {d:jR (f+1)} {i:Int}:nJ L (f+1) d i=true↔b7L L f d i:=by
 rw[XH,bV,bV];constructor
 ·rintro⟨⟨h1,h2⟩,h3⟩;unfold aCK at h1;simp only[bV,eY,eB,decide_eq_true_eq,decide_eq_false_iff_not]at h1;unfold ownB at h2;have ht:∀k,k<d.1.length→U4 (L.getD i.toNat mD) d.1 k=true:=fun k hk=>dQ.1 h2 k (dF.2 hk);have hs:∀k,k<d.2.1.length→J5 (nJ L f) (L.getD i.toNat mD) d.2.1 k=true:=fun k hk=>dQ.1 h3 k (dF.2 hk);unfold U4 at ht;unfold J5 at hs;simp only[bV,eY,eB,decide_eq_true_eq]at ht hs;refine⟨h1.1.1,h1.1.2,h1.2,fun x hx=>?_,LH _ tg0 _ fun k hk=>?_,fun j hj=>⟨(hs j hj).1.1,(hs j hj).2⟩,LH _ (0,lY f) _ fun k hk=>?_⟩
  ·obtain⟨k,hk,rfl⟩:=JY hx tg0;have:=ht k hk;exact⟨this.1.1.1,this.1.2,this.2⟩
  ·rcases(ht (k+1) hk).1.1.2 with h|h
   ·omega
   ·exact h
  ·rcases(hs (k+1) hk).1.2 with h|h
   ·omega
   ·exact h
 ·intro h;refine⟨⟨?_,?_⟩,?_⟩
  ·unfold aCK;simp only[bV,eY,eB,decide_eq_true_eq,decide_eq_false_iff_not];exact⟨⟨h.e1,h.e2⟩,h.bl⟩
  ·unfold ownB;refine DZ fun k hk=>?_;unfold U4;simp only[bV,eY,eB,decide_eq_true_eq];have hm:d.1.getD k tg0∈d.1:=by rw[jO hk];exact bJ hk
   have:=h.tg _ hm;refine⟨⟨⟨this.1,?_⟩,this.2.1⟩,this.2.2⟩;cases k with
   |zero=>exact .inl rfl
   |succ k=>exact .inr (a3K _ tg0 h.rt aG hk)
  ·refine DZ fun k hk=>?_;unfold J5;simp only[bV,eY,decide_eq_true_eq];refine⟨⟨(h.sb k hk).1,?_⟩,(h.sb k hk).2⟩;cases k with
   |zero=>exact .inl rfl
   |succ k=>exact .inr (a3K _ (0,lY f) h.rs aG hk)
theorem aDH {L:List rQ}:∀(f:Nat) (d:jR f) (i:Int),nJ L f d i=true→a3I f d
 |0,_,_,_=>trivial
 |f+1,d,i,h=>by
  have hf:=VI.1 h;refine⟨hf.rt.imp fun {a b} hab e=>by omega,fun s hs=>?_⟩;obtain⟨j,hj,rfl⟩:=JY hs (0,lY f);exact aDH f _ _ (hf.sb j hj).2
theorem a8E {n i:Nat} {s:rQ} (h:lX n i s=true) {t:Int} (hl:wU s t=true):NJ s t=false∧0≤t∧t<65536:=by
 unfold wU at hl;obtain⟨y,hy,he⟩:=List.any_eq_true.1 hl;obtain⟨k,hk,rfl⟩:=JY hy (0,0);have:=a7S h hk;unfold nI vV at this;simp only[bV,eB,decide_eq_true_eq]at this;have e:(s.1.getD k (0,0)).1=t:=by simpa using he
 rw[e]at this;unfold NJ;exact⟨this.2,this.1.1.1.1,this.1.1.1.2⟩
theorem aA1 {n i:Nat} {s:rQ} (h:lX n i s=true) (h0:s.2.1≠0):NJ s s.2.1=true∧NJ s s.2.2.1=true∧1≤s.2.1∧s.2.1<s.2.2.1∧s.2.2.1<65536:=by
 have:=YW h;unfold NJ;simp;omega
theorem aSU (f:Nat) (l:List nY) (ss:List (Int×jR f)) (no:Int):(II f l ss no ss.length).map (·.1)=ss.map (·.1):=by
 unfold II;rw[List.map_map];refine fE (by simp) fun k h1 h2=>?_;have hk:k<ss.length:=by simpa using h2
 simp only[dZ,List.getElem_range,Function.comp];show(ss.getD k (0,lY f)).1=_
 rw[jO hk]
theorem aSV (l:List nY) (o no:Int) (ts:List rM):(ts.map (JS l o no)).map (·.1)=ts.map (·.1):=by
 rw[List.map_map];rfl
theorem aHP {L:List rQ} {n:Nat} {f:Nat} {d:jR (f+1)} {i:Int} (l:List nY) (o no:Int) (h:b7L L f d i) (hs:lX n i.toNat (L.getD i.toNat mD)=true):
  (pE f l o no (L.getD i.toNat mD) d).Pairwise fun x y=>x.1≠y.1:=by
 rw[←List.pairwise_map (f:=fun(x:xB)=>x.1) (R:=fun a b=>a≠b)];unfold pE;rw[dI,dI,aSU,aSV];show List.Nodup _
 rw[iW,iW];have hB:∀t∈(DR l (L.getD i.toNat mD) d.2.2 no).map (·.1),NJ (L.getD i.toNat mD) t=true:=fun t ht=>by
  unfold DR at ht;split at ht
  ·rename_i hb;have hp:=aA1 hs (by rcases h.bl with h|h;omega;exact h);simp at ht;rcases ht with rfl|rfl
   ·exact hp.1
   ·exact hp.2.1
  ·simp at ht
 have hS:∀t∈d.2.1.map (·.1),wU (L.getD i.toNat mD) t=true:=fun t ht=>by
  obtain⟨s,hs,rfl⟩:=dG.1 ht;obtain⟨j,hj,rfl⟩:=JY hs (0,lY f);exact(h.sb j hj).1
 have hT:∀t∈d.1.map (·.1),RO (L.getD i.toNat mD) t=false:=fun t ht=>by
  obtain⟨s,hs,rfl⟩:=dG.1 ht;exact(h.tg s hs).2.1
 refine⟨⟨LG (h.rt.imp fun {a b} hab e=>by omega),LG (h.rs.imp fun {a b} hab e=>by omega),?_⟩,?_,?_⟩
 ·intro a ha b hb e;have h1:=hT a ha;have h2:=hS b hb;subst e;unfold RO at h1;rw[h2]at h1;exact absurd h1 (by simp)
 ·unfold DR;split
  ·rename_i hb;have hp:=aA1 hs (by rcases h.bl with h|h;omega;exact h);refine iR.2 ⟨fun hm=>?_,iR.2 ⟨fun hm=>(by cases hm),List.nodup_nil⟩⟩;have MV:(L.getD i.toNat mD).2.1=(L.getD i.toNat mD).2.2.1:=by simpa using hm
   omega
  ·exact List.nodup_nil
 ·intro a ha b hb e;subst e;have h2:=hB a hb;rcases bP.1 ha with ha|ha
  ·have h1:=hT a ha;unfold RO at h1;rw[h2]at h1;exact absurd h1 (by simp)
  ·have h1:=(a8E hs (hS a ha)).1;rw[h2]at h1;cases h1
theorem E8 {l:List nY} {n k:Nat} {a b c:Int} (h:Fits l n a b c k):0≤oV l a b c∧oV l a b c+k≤n:=by
 obtain⟨_,h1,h2⟩:=h;omega
theorem aSW {L:List rQ} (hL:nO L=true) {l:List nY} {n:Nat} {o:Int} (ho:o=1∨o=2) (hn:n≤4294967295):∀(f:Nat) (d:jR f) (no i:Int),0≤i→i<L.length→nJ L f d i=true→BJ f d→
  (∀a b c m,((a,b,c,m):P8)∈BL f d no→∀k:Nat,(k:Int)≤m→Fits l n a b c k)→okW L l n o f d no i
 |0,_,_,_,_,_,_,_,_=>trivial
 |f+1,d,no,i,h0,h1,hh,rU,hF=>by
  have hf:=VI.1 hh;have hs:=CG hL (i:=i.toNat) aG;have OP:∀x∈d.1,V7 x o=true∨(1≤(lT x o).length∧Fits l n 3 no x.1 (lT x o).length):=fun x hx=>by
   have WR:=hf.tg x hx;by_cases hz:yF x.2.1 x.2.2.1=0
   ·exact .inl (by rw[a3J WR.2.2 ho WR.1,hz];rfl)
   ·have hl:=aDG WR.2.2 ho hz;refine .inr ⟨by omega,hF 3 no x.1 (SE x) ?_ _ (by unfold SE;omega)⟩;rw[r9];refine cZ _ (bP.2 (.inl ?_));refine dG.2 ⟨x,iF.2 ⟨hx,?_⟩,rfl⟩;unfold SE;have:=a9Y x;unfold SE at this;simp;omega
  have hel:=PG f l o no (L.getD i.toNat mD) d;have hF2:Fits l n 2 no 0 (6+12*qM d.1.length d.2.1.length d.2.2.length):=hF 2 no 0 _ (by rw[r9];exact dB ..) _ aG;have hFB:0<d.2.2.length→Fits l n 4 no 0 d.2.2.length:=fun hb=>hF 4 no 0 _ (by
   rw[r9];refine cZ _ (bP.2 (.inr (bP.2 (.inr ?_))));unfold a9Z;rw[if_pos hb];exact dB ..) _ (iY _)
  have nR:∀j,j<d.2.1.length→(∀a b c m,((a,b,c,m):P8)∈BL f (d.2.1.getD j (0,lY f)).2 (qH f d.2.1 no j)→((a,b,c,m):P8)∈BL (f+1) d no):=fun j hj a b c m hx=>by
   rw[r9];exact cZ _ (bP.2 (.inr (bP.2 (.inl (PI hj _ hx)))))
  have ZN:∀j,j<d.2.1.length→0≤zA (L.getD i.toNat mD) (d.2.1.getD j (0,lY f)).1∧zA (L.getD i.toNat mD) (d.2.1.getD j (0,lY f)).1<L.length:=fun j hj=>by
   have:=V6 hL (i:=i.toNat) aG (hf.sb j hj).1;omega
  have hFS:∀j,j<d.2.1.length→0≤oV l 2 (qH f d.2.1 no j) 0∧oV l 2 (qH f d.2.1 no j) 0≤n:=fun j hj=>by
   have hh2:=(hf.sb j hj).2;cases f with
   |zero=>exact absurd hh2 (by simp[nJ])
   |succ f=>
    have:=E8 (hF 2 (qH (f+1) d.2.1 no j) 0 _ (nR j hj _ _ _ _ (by rw[r9];exact dB ..)) 0 aG);omega
  refine⟨fun x hx=>⟨OP x hx,?_⟩,fun j hj=>⟨(hf.sb j hj).1,aSW hL ho hn f _ _ _ (ZN j hj).1 (ZN j hj).2 (hf.sb j hj).2 ?_ fun a b c m hx k hk=>hF a b c m (nR j hj a b c m hx) k hk⟩,hFB,?_,by rw[hel];exact hf.e1,by rw[hel];exact hf.e2,ho,aHP l o no hf hs,?_⟩
  ·have:=(aHN (hf.tg x hx).2.2 ho).small;omega
  ·refine rU.2.1 _ ?_;rw[jO hj];exact bJ hj
  ·obtain⟨a1,a2,a3⟩:=hF2;exact⟨a1,a2,by rw[hel];omega⟩
  ·intro x hx;have hk:∀{a b:Int} (s:Int),0≤a→a<rF s→lZ a s o=true:=fun s h1 h2=>(lU ho).2 ⟨h1,h2⟩;unfold DL;simp only[bV];unfold pE at hx;rcases bP.1 hx with hx|hx
   ·rcases bP.1 hx with hx|hx
    ·obtain⟨t,ht,rfl⟩:=dG.1 hx;have h3:=hf.tg t ht;have hm:=aHN h3.2.2 ho;have ht0:=h3.1;unfold vV at ht0;simp at ht0;have U8:=hm.y1;have MV:=hm.y2;have hm3:=hm.k1;have J3:=hm.k2;refine⟨⟨⟨(lU ho).2 ?_,(lU ho).2 ?_⟩,(lU ho).2 ?_⟩,(lU ho).2 ?_⟩
     ·show 0≤t.1∧t.1<65536;omega
     ·show 0≤t.2.1∧t.2.1<65536;omega
     ·show 0≤t.2.2.1∧t.2.2.1<4294967296;omega
     ·show 0≤(if V7 t o=true then yN (A9 (lT t o)) 0 4 o else oV l 3 no t.1)∧(if V7 t o=true then yN (A9 (lT t o)) 0 4 o else oV l 3 no t.1)<4294967296
      by_cases hi:V7 t o=true
      ·rw[if_pos hi];exact aHO (rU.1 t ht) h3.2.2 ho hi
      ·rw[if_neg hi];rcases OP t ht with h|⟨_,h⟩
       ·exact absurd h hi
       ·have:=E8 h;omega
    ·unfold II at hx;obtain⟨j,hj,rfl⟩:=dG.1 hx;have hj:=dF.1 hj;have hlp:=(a8E hs (hf.sb j hj).1).2;have:=hFS j hj;refine⟨⟨⟨(lU ho).2 ?_,(lU ho).2 ?_⟩,(lU ho).2 ?_⟩,(lU ho).2 ?_⟩
     ·show 0≤(d.2.1.getD j (0,lY f)).1∧(d.2.1.getD j (0,lY f)).1<65536;omega
     ·show(0:Int)≤4∧(4:Int)<65536;decide
     ·show(0:Int)≤1∧(1:Int)<4294967296;decide
     ·show 0≤oV l 2 (qH f d.2.1 no j) 0∧oV l 2 (qH f d.2.1 no j) 0<4294967296;omega
   ·unfold DR at hx;split at hx
    ·rename_i hb;have hp:=aA1 hs (by rcases hf.bl with h|h;omega;exact h);have U1:=E8 (hFB hb);simp only[cB,dK,or_false]at hx;rcases hx with rfl|rfl
     ·refine⟨⟨⟨(lU ho).2 ?_,(lU ho).2 ?_⟩,(lU ho).2 ?_⟩,(lU ho).2 ?_⟩
      ·show 0≤(L.getD i.toNat mD).2.1∧(L.getD i.toNat mD).2.1<65536;omega
      ·show(0:Int)≤4∧(4:Int)<65536;decide
      ·show(0:Int)≤1∧(1:Int)<4294967296;decide
      ·show 0≤oV l 4 no 0∧oV l 4 no 0<4294967296;omega
     ·refine⟨⟨⟨(lU ho).2 ?_,(lU ho).2 ?_⟩,(lU ho).2 ?_⟩,(lU ho).2 ?_⟩
      ·show 0≤(L.getD i.toNat mD).2.2.1∧(L.getD i.toNat mD).2.2.1<65536;omega
      ·show(0:Int)≤4∧(4:Int)<65536;decide
      ·show(0:Int)≤1∧(1:Int)<4294967296;decide
      ·show 0≤((d.2.2.length:Nat):Int)∧((d.2.2.length:Nat):Int)<4294967296;omega
    ·cases hx
theorem FI {f:Nat} {o:Int} {ds:List (jR f)} {L:List rQ} (h:tY f o ds L=0):nO L=true∧(o=1∨o=2)∧ds.length≠0∧chainB L ds.length=true∧hasAll L f ds=true∧nS f ds≠0:=by
 unfold tY at h;split at h
 ·rename_i h1;split at h
  ·rename_i h2;split at h
   ·rename_i h3;split at h
    ·exact absurd h aH
    ·rename_i h4;simp only[bV,eY,eB,decide_eq_true_eq,decide_eq_false_iff_not]at h1;exact⟨h1.1.1,h1.1.2,h1.2,h2,h3,h4⟩
   ·exact absurd h aH
  ·exact absurd h aH
 ·exact absurd h aH
theorem aKI {f:Nat} {ds:List (jR f)} (h:nS f ds≠0):GD f ds=true∧nS f ds=mM (jX f ds)∧mM (jX f ds)≤4294967295:=by
 unfold nS at h ⊢;split at h
 ·rename_i hf;rw[if_pos hf];refine⟨hf,rfl,?_⟩;unfold GD at hf;simp only[bV,decide_eq_true_eq]at hf;exact hf.2
 ·exact absurd rfl h
theorem vQ {L:List rQ} {f:Nat} {ds:List (jR f)} (h:hasAll L f ds=true) {k:Nat} (hk:k<ds.length):nJ L f (ds.getD k (lY f)) (nA L k)=true:=dQ.1 h k (dF.2 hk)
theorem FJ {L:List rQ} {f:Nat} {ds:List (jR f)} (h:hasAll L f ds=true):∀d∈ds,a3I f d:=fun d hd=>by
 obtain⟨k,hk,rfl⟩:=JY hd (lY f);exact aDH f _ _ (vQ h hk)
theorem aDI {L:List rQ} {n k:Nat} (h:chainB L n=true) (hk:k<n):0≤nA L k:=by
 have:=dQ.1 h k (dF.2 hk);simpa using this
theorem a3L {f:Nat} {ds:List (jR f)} {k:Nat} (hk:k<ds.length):∀x∈BL f (ds.getD k (lY f)) (noT f ds k),x∈GK f ds:=fun x hx=>by
 refine cZ _ (PI (j:=k) (by simpa [D9] using hk) x ?_);have e1:((D9 f ds).getD k (0,lY f)).2=ds.getD k (lY f):=by
  rw[jO (by simpa [D9] using hk),jO hk];simp[D9]
 have e2:(0:Int)+(lH f ((D9 f ds).take k)).length=noT f ds k:=by
  have:(D9 f ds).take k=D9 f (ds.take k):=by unfold D9;rw[gX]
  rw[this,P6];unfold noT;omega
 rw[e1,e2];exact hx
theorem aZG (f:Nat) (ds:List (jR f)):8≤mM (jX f ds):=by
 rw[(H8 f ds).2];have:=a9K (O6 (BL f) (D9 f ds) 0) 8 aH fun x hx=>a0O f ds x (cZ _ hx);exact this
theorem aDJ {L:List rQ} {f:Nat} {d:jR f} {i:Int} (h:nJ L f d i=true) (no:Int):((2,no,0,6+12*((a08 f d:Nat):Int)):P8)∈BL f d no:=by
 cases f with
 |zero=>exact absurd h (by simp[nJ])
 |succ f=>rw[r9];exact dB ..
theorem a3M {f:Nat} {o:Int} {ds:List (jR f)} {L:List rQ} (h:tY f o ds L=0) (hb:∀d∈ds,BJ f d):OKT f o ds L:=by
 obtain⟨h1,h2,h3,h4,h5,h6⟩:=FI h;obtain⟨g1,g2,g3⟩:=aKI h6;have hd:=FJ h5;have h8:=aZG f ds;have hN:(nS f ds).toNat≤4294967295:=by omega
 have hF:∀k,k<ds.length→∀a b c m,((a,b,c,m):P8)∈BL f (ds.getD k (lY f)) (noT f ds k)→∀q:Nat,(q:Int)≤m→Fits (jX f ds) (nS f ds).toNat a b c q:=fun k hk a b c m hx q hq=>
  aZD hd (a3L hk _ hx) aG hq
 have hE:∀k,k<ds.length→Fits (jX f ds) (nS f ds).toNat 2 (noT f ds k) 0 (6+12*a08 f (ds.getD k (lY f))):=fun k hk=>hF k hk 2 _ 0 _ (aDJ (vQ h5 hk) _) _ aG;refine⟨h1,h2,by omega,by omega,g1,fun k hk=>aDI h4 hk,fun k hk=>?_,fun k hk=>?_,fun k hk=>?_⟩
 ·have zM:=aDI h4 hk;have hnl:=(I9 h1 k).1;refine aSW h1 h2 hN f _ _ _ zM hnl (vQ h5 hk) (hb _ ?_) (hF k hk);rw[jO hk];exact bJ hk
 ·cases k with
  |zero=>show 0≤(4:Int)∧(4:Int).toNat+4≤_;omega
  |succ k=>
   have:=E8 (hE k aG);show 0≤oV (jX f ds) 2 (noT f ds k) 0+2+12*((a08 f (ds.getD k (lY f)):Nat):Int)∧(oV (jX f ds) 2 (noT f ds k) 0+2+12*((a08 f (ds.getD k (lY f)):Nat):Int)).toNat+4≤(nS f ds).toNat
   omega
 ·have:=E8 (hE k hk);refine(lU h2).2 ?_;rw[show rF 4=4294967296 by decide];omega
abbrev exL:List rQ:= [([(34665,2),(34853,3)],0,0,1),([],513,514, -1),([(40965,4)],0,0, -1),([],0,0, -1),([],0,0, -1)]
structure wP where
 o:Int
 z:List rM
 p:List rM
 g:List rM
 i:List rM
 f:List rM
 mr:List Int
 th:List Int
def zW (x:wP):Bool:=pK 0 x.z&&pK 1 x.f&&pK 2 x.p&&pK 3 x.g&&pK 4 x.i
def a8F (x:wP):Nat:=x.z.length+x.p.length+x.g.length+x.i.length+x.mr.length
def nH (x:wP):Int:=
 if x.o=1∨x.o=2 then(if zW x=true then(if x.mr.length≤65536∧0<a8F x then 0 else 6)else 6)else 1
def O7 (b:List Int):rM:=(37500,7,(b.length:Int),b)
def qV (x:wP):List rM:=if 0<x.mr.length then zG x.p (O7 x.mr)else x.p
def tC (f:Nat) (ts:List rM):jR (f+1):=(ts, [], [])
def qI (x:wP):List (Int×jR 14):=if 0<x.i.length then [(40965,tC 13 x.i)]else []
def sF (x:wP):jR 15:=(qV x,qI x, [])
def VJ (x:wP):Bool:=decide (0<x.p.length)||decide (0<x.i.length)||decide (0<x.mr.length)
def rJ (x:wP):List (Int×jR 15):=if VJ x=true then [(34665,sF x)]else []
def wX (x:wP):List (Int×jR 15):=if 0<x.g.length then [(34853,tC 14 x.g)]else []
def yD (x:wP):jR 16:=(x.z,rJ x++wX x, [])
def LJ (x:wP):jR 16:=(x.f, [],x.th)
def mI (x:wP):List (jR 16):=yD x::(if 0<x.f.length+x.th.length then [LJ x]else [])
def aA2 (x:wP):List Int:=if nH x=0 then a3H 16 x.o (mI x) exL else []
def aNY (x:wP):Int:=if nH x=0 then tY 16 x.o (mI x) exL else nH x
end Go.Proofs.YtceclmpmpldmlaaGreat
namespace Tt
open Go Go.RowKit
theorem PN {w w':World} {row:Option Nat} {B:Nat} {E:TypeId} {sz:Nat} {v:Value} {n:Nat} {xs:List Value} (h:w.ownsRow B E sz v n xs) (hg:w.grownBy w' row) (oJ:∀k,v.ownBlock=some k→row≠some k):w'.ownsRow B E sz v n xs:=by
 obtain⟨hl,hr⟩:=h;refine⟨hl,?_⟩;rcases hr with hn|⟨g,cap,cur,rfl,hB,hgg,r⟩
 ·exact .inl hn
 ·exact .inr ⟨g,cap,cur,rfl,hB,(hg.block g (bW.1 hgg).1 (Ne.symm (oJ g rfl))).trans hgg,r⟩
theorem mY {w:World} {B:Nat} {E T:TypeId} {sz:Nat} {v:Value} {n g:Nat} {xs:List Value} {cs:Array Value} (h:w.ownsRow B E sz v n xs) (hb:jW w g T cs) (hE:E≠T):v.ownBlock≠some g:=fun e=>by
 rcases h.2 with ⟨rfl,_⟩|⟨g',cap,cur,rfl,_,hg,_⟩
 ·cases e
 ·obtain rfl:g'=g:=by injection e
  unfold jW at hb;rw[hb]at hg;injection hg with hg;injection hg with h1 h2;exact hE h2.symm
theorem SI {w:World} {B:Nat} {E:TypeId} {sz:Nat} {v:Value} {n:Nat} {xs:List Value} (h:w.ownsRow B E sz v n xs):∃a c,v= .slice a n c:=by
 rcases h.2 with ⟨rfl,h0⟩|⟨g,cap,cur,rfl,_⟩
 ·exact⟨none,0,by rw[h0]⟩
 ·exact⟨_,_,rfl⟩
theorem H9 {w:World} {B B':Nat} {E:TypeId} {sz:Nat} {v:Value} {n:Nat} {xs ys:List Value} (h:w.ownsRow B E sz v n xs) (k:w.ownsRow B' E sz v n ys):xs=ys:=by
 have e:xs.length=ys.length:=h.1.trans k.1.symm;obtain⟨a,c,rfl⟩:=SI h;have hs:=(Sl.jU h).1;have ks:=(Sl.jU k).1;refine fE e (fun j h1 h2=>?_);have hn:0<n:=by
  rcases fT n with h0|h0
  ·have:=h.1;rw[h0]at this;omega
  ·exact h0
 obtain⟨g,off,e1,_,hc⟩:=hs.lies 0 hn;obtain⟨g',off',e2,_,kc⟩:=ks.lies 0 hn;rw[e1]at e2;injection e2 with e2;injection e2 with e3 e4 _;subst e3 e4;have q1:=hc j _ (bI h1);have q2:=kc j _ (bI h2);rw[q1]at q2;injection q2
end Tt
namespace Go.Proofs.YtceclmpmpldmlaaGreat
open Go.RowKit Tt
theorem bGE {X X' Y:Nat→Prop} {B:Nat} {w w':World} (h:Kp X X' B w w'):Kp (fun k=>X k∨Y k) (fun k=>X' k∨Y k) B w w':=
 ⟨h.size,fun k hB hk hx=>⟨(h.block k hB hk (fun e=>hx (.inl e))).1,fun e=>e.elim (h.block k hB hk (fun e=>hx (.inl e))).2 (fun e=>hx (.inr e))⟩⟩
theorem O8 {X:Nat→Prop} {B B2:Nat} {w w':World} {v u:Value} {ts:List rM} {E:TypeId} {sz n:Nat} {xs:List Value} (h:kX X B w v ts) (hu:w.ownsRow B2 E sz u n xs) (hg:w.grownBy w' u.ownBlock) (h1:74≠E) (h2:5≠E):kX X B w' v ts:=by
 obtain⟨zs,e,h3,h4⟩:=h;have key:∀{T:TypeId} {v':Value} {s n:Nat} {ys:List Value},w.ownsRow B T s v' n ys→T≠E→w'.ownsRow B T s v' n ys:=fun h hT=>PN h hg (fun k hk hk2=>by
  rcases EF h hu hT with h5|h5
  ·rw[h5]at hk;cases hk
  ·exact h5 (hk.trans hk2.symm))
 exact⟨zs,e,⟨key h3.1 h1,h3.2⟩,fun z hz=>⟨key (h4 z hz).1 h2,(h4 z hz).2⟩⟩
def oH (X:Nat→Prop) (B:Nat) (w:World) (f:Nat) (v:Value) (subs:List (Int×jR f)):Prop:=
 ∃ds:List (Int×Dz),ds.length=subs.length∧Ck X B w v 28 4 ds.length (fl sbC ds)∧(∀d∈ds,aYF d.2)∧∀i (h:i<ds.length) (h':i<subs.length),ds[i].1=subs[i].1∧qA (fun k=>X k∨v.ownBlock=some k) B w f subs[i].2 ds[i].2
theorem oH.keep {X X':Nat→Prop} {B f:Nat} {w w':World} {v:Value} {subs:List (Int×jR f)} (h:oH X B w f v subs) (k:Kp X X' B w w'):oH X' B w' f v subs:=by
 obtain⟨ds,h1,h2,h0,h3⟩:=h;exact⟨ds,h1,h2.keep k,h0,fun i hi xG=>⟨(h3 i hi xG).1,(h3 i hi xG).2.keep (bGE k)⟩⟩
theorem oH.snoc {X:Nat→Prop} {B f:Nat} {w w':World} {v v':Value} {subs:List (Int×jR f)} {t:Int} {d:jR f} {dz:Dz} {n:Nat} (h:oH X B w f v subs) (hn:subs.length=n) (hg:w.grownBy w' v.ownBlock) (ho:∀k,v'.ownBlock=some k→v.ownBlock=some k∨w.heap.size≤k)
  (ob:∀ds:List (Int×Dz),w.ownsRow B 28 4 v n (fl sbC ds)→w'.ownsRow B 28 4 v' (n+1) (fl sbC ds++sbC (t,dz))) (hX:∀k,v'.ownBlock=some k→¬X k) (h1:aYF dz) (hd:qA (fun k=>X k∨v.ownBlock=some k) B w f d dz):oH X B w' f v' (subs++ [(t,d)]):=by
 obtain⟨ds,h2,h3,h0,h4⟩:=h;have hk:Kp (fun k=>X k∨v.ownBlock=some k) (fun k=>X k∨v'.ownBlock=some k) B w w':=⟨hg.size,fun k hB hk hx=>⟨hg.block k hk (fun e=>hx (.inr e.symm)),fun e=>e.elim (fun e=>hx (.inl e)) (fun e=>by rcases ho k e with e'|e' <;> first|exact hx (.inr e')|omega)⟩⟩;have sM:ds.length=n:=h2.trans hn;refine⟨ds++ [(t,dz)],by simp[h2],⟨?_,hX⟩,?_,fun i hi xG=>?_⟩
 ·rw[cO,BV,iV,sM];exact ob ds (by rw[←sM];exact h3.1)
 ·intro d' UB;rcases bP.1 UB with h|h
  ·exact h0 d' h
  ·rw[dL.1 h];exact h1
 ·by_cases hi2:i<ds.length
  ·rw[eU hi2,eU aG];exact⟨(h4 i hi2 aG).1,(h4 i hi2 aG).2.keep hk⟩
  ·have hie:i=ds.length:=by simp at hi;omega
   subst hie;rw[fC (aZ _),fC aG];simp only[iP,gU,h2];exact⟨trivial,hd.keep hk⟩
theorem kX.own {X:Nat→Prop} {B:Nat} {w:World} {v:Value} {ts:List rM} (h:kX X B w v ts):∃zs:List Tz,ts=zs.map l8∧w.ownsRow B 74 4 v ts.length (fl tzc zs):=by
 obtain⟨zs,h1,h2,_⟩:=h;exact⟨zs,h1,by rw[h1,bL];exact h2.1⟩
theorem a3N (t:Int) (a1 a2 a3:Option Addr) (n1 n2 n3 c1 c2 c3:Nat):∀u∈sbC (t,(.slice a1 n1 c1,.slice a2 n2 c2,.slice a3 n3 c3)),u.oneCell'=true:=by
 intro u hu;simp only[sbC,cB,dK,or_false]at hu;rcases hu with rfl|rfl|rfl|rfl <;> rfl
theorem XO (a1 a2 a3:Option Addr) (n1 n2 n3 c1 c2 c3:Nat):aYF (.slice a1 n1 c1,.slice a2 n2 c2,.slice a3 n3 c3):=by
 intro u hu;simp only[YR,cB,dK,or_false]at hu;rcases hu with rfl|rfl|rfl <;> rfl
theorem SK {X:Nat→Prop} {A B2 B3 f:Nat} {w:World} {vt vs vb:Value} {tags:List rM} {subs:List (Int×jR f)} {blob:List Int} (ht:kX X B2 w vt tags) (hs:oH X B2 w f vs subs) (hb:Ck X B3 w vb 5 1 blob.length (ints .u8 blob)) (h1:A≤B2) (h2:A≤B3):qA X A w (f+1) (tags,subs,blob) (vt,vs,vb):=by
 obtain⟨ds,e1,e2,_,e3⟩:=hs;refine⟨?_,ht.mono h1,⟨ds,e1,e2.mono h1,fun i hi xG=>⟨(e3 i hi xG).1,((e3 i hi xG).2.keep (Kp.same (fun k _ _ hx e=>hx (.inl e)))).mono h1⟩⟩,hb.mono h2⟩;obtain⟨zs,_,h5⟩:=ht.own;obtain⟨a1,c1,rfl⟩:=SI h5;obtain⟨a2,c2,rfl⟩:=SI e2.1;obtain⟨a3,c3,rfl⟩:=SI hb.1;exact XO _ _ _ _ _ _ _ _ _
theorem tT {X:Nat→Prop} {B:Nat} {w w':World} {v:Value} {E T:TypeId} {sz n g:Nat} {xs:List Value} {cs:Array Value} (h:Ck X B w v E sz n xs) (b:But g w w') (hb:jW w g T cs) (hE:E≠T):Ck X B w' v E sz n xs:=⟨KP h.1 b (mY h.1 hb hE),h.2⟩
theorem kX.nil (X:Nat→Prop) (B:Nat) (w:World):kX X B w (.slice none 0 0) []:=⟨[],rfl,⟨kF _ _ _ _,fun k e=>by cases e⟩,fun z hz=>by cases hz⟩
theorem kX.snoc {X:Nat→Prop} {B:Nat} {w w':World} {v v':Value} {ts:List rM} {t:rM} {z:Tz} (h:kX X B w v ts) (hz:l8 z=t) (hg:w.grownBy w' v.ownBlock) (hX:∀k,v'.ownBlock=some k→¬X k)
  (ob:∀zs:List Tz,w.ownsRow B 74 4 v ts.length (fl tzc zs)→w'.ownsRow B 74 4 v' (ts.length+1) (fl tzc zs++tzc z)) (hd:Ck X B w (tzd z) 5 1 z.2.length (ints .u8 z.2)):kX X B w' v' (ts++ [t]):=by
 obtain⟨zs,h1,h2,h3⟩:=h;have hn:zs.length=ts.length:=by rw[h1,bL]
 have key:∀z',Ck X B w (tzd z') 5 1 z'.2.length (ints .u8 z'.2)→Ck X B w' (tzd z') 5 1 z'.2.length (ints .u8 z'.2):=fun z' hc=>⟨PN hc.1 hg (fun k hk hk2=>by
  rcases EF hc.1 h2.1 aH with h5|h5
  ·rw[h5]at hk;cases hk
  ·exact h5 (hk.trans hk2.symm)),hc.2⟩
 refine⟨zs++ [z],by rw[dI,h1,←hz];rfl,⟨?_,hX⟩,fun z' AQ=>?_⟩
 ·rw[cO,BV,iV,hn];exact ob zs (by rw[←hn];exact h2.1)
 ·rcases bP.1 AQ with h|h
  ·exact key z' (h3 z' h)
  ·rw[dL.1 h];exact key z hd
theorem kX.zK {X:Nat→Prop} {B g:Nat} {w w':World} {v:Value} {ts:List rM} {cs:Array Value} (h:kX X B w v ts) (b:But g w w') (hb:jW w g 26 cs):kX X B w' v ts:=by
 obtain⟨zs,h1,h2,h3⟩:=h;exact⟨zs,h1,tT h2 b hb aH,fun z hz=>tT (h3 z hz) b hb aH⟩
theorem qA.zK {X:Nat→Prop} {B g:Nat} {w w':World} {cs:Array Value} (b:But g w w') (hb:jW w g 26 cs):∀{f:Nat} {d:jR f} {v:Dz},qA X B w f d v→qA X B w' f d v
 |0,_,_,h=>h.elim
 |f+1,d,v,h=>by
  obtain⟨h0,h1,⟨ds,h2,h3,h4⟩,h5⟩:=h;exact⟨h0,h1.zK b hb,⟨ds,h2,tT h3 b hb aH,fun i hi xG=>⟨(h4 i hi xG).1,(h4 i hi xG).2.zK b hb⟩⟩,tT h5 b hb aH⟩
theorem oH.zK {X:Nat→Prop} {B g f:Nat} {w w':World} {v:Value} {subs:List (Int×jR f)} {cs:Array Value} (h:oH X B w f v subs) (b:But g w w') (hb:jW w g 26 cs):oH X B w' f v subs:=by
 obtain⟨ds,h1,h2,h0,h3⟩:=h;exact⟨ds,h1,tT h2 b hb aH,h0,fun i hi xG=>⟨(h3 i hi xG).1,(h3 i hi xG).2.zK b hb⟩⟩
theorem bGF:(Tryz.prog.info? 74).map (fun i=>(i.size,i.bytes))=some (4,48):=by kernel_rfl
theorem bGG:(Tryz.prog.info? 74).map (fun i=>i.zero.map (fun z=>z.cells.size))=some (some 4):=by kernel_rfl
theorem aDK:(Tryz.prog.info? 28).map (fun i=>(i.size,i.bytes))=some (4,80):=by kernel_rfl
theorem aDL:(Tryz.prog.info? 28).map (fun i=>i.zero.map (fun z=>z.cells.size))=some (some 4):=by kernel_rfl
def DT:Nat→Prop:=fun _=>False
theorem aNZ (y k:Int) (a:Option Addr) (n c:Nat) (d:List Int) (w:World) (hs:Sl w a n c 1 (ints .u8 d)) (hl:n≤1000000):
  Calls Tryz.prog 118 #[.agg #[.int .i64 y,.int .i64 k,.slice a n c]] w fun e w'=>∃a' c',e= .returned (.agg #[.int .i64 y,.int .i64 k,.slice a' n c'])∧w'.ownsRow w.heap.size 5 1 (.slice a' n c') n (ints .u8 d)∧Below w.heap.size w w':=by
 have pX:=aA hs;clear hs;go_enter Tryz.func118,Tryz.ntmps118;go_wp2_with fail
 have pW:=(aD w (.cells #[.int .i64 y,.int .i64 k,.slice a n c] 72)).alloc (by simp) (.cells #[.int .i64 0,.int .i64 0,.slice none 0 0] 72);have b0:jW ((w.alloc (.cells #[.int .i64 y,.int .i64 k,.slice a n c] 72)).alloc (.cells #[.int .i64 0,.int .i64 0,.slice none 0 0] 72)) w.heap.size 72 #[.int .i64 y,.int .i64 k,.slice a n c]:=(sG _ _ (by simp)).trans (mZ _ _);have b1:jW ((w.alloc (.cells #[.int .i64 y,.int .i64 k,.slice a n c] 72)).alloc (.cells #[.int .i64 0,.int .i64 0,.slice none 0 0] 72)) (w.heap.size+1) 72 #[.int .i64 0,.int .i64 0,.slice none 0 0]:=wB _ _ (by simp);generalize (w.alloc (.cells #[.int .i64 y,.int .i64 k,.slice a n c] 72)).alloc (.cells #[.int .i64 0,.int .i64 0,.slice none 0 0] 72)=w1 at*;have YF:=b1.lt;obtain⟨Ty,f,oJ,jN,jK⟩:=zQ (w.heap.size+1) w1;have q0:=fun s=>(jW.mono b0 (jN s) aG).cell (i:=0) rfl;have q1:=fun s=>(jW.mono b0 (jN s) aG).cell (i:=1) rfl;have q2:=fun s=>(jW.mono b0 (jN s) aG).cell (i:=2) rfl;obtain⟨HS,HD,jH,jF,lF,b0',b1'⟩:=aO (jK _ ((aY _ _).drew)) ((aY w1.heap.size w1).drew) jN jK pW b0 b1;clear jN jK pW b0 b1;refine kM (S:=fun W=>∃s,W=f s) aF 9 rfl ?_;refine jS [0,1,2,3,4,5] 3 aF aI aF aF aF HS.o ?_;simp only[jI,aW,aX,aU,aV];iterate 6 (go_big_quiet_step (fail))
 refine wpQuiet_nil ?_;refine jJ 6 2 aF aF ?_;simp only[jI,aW,aX,aU,aV];go_wp2_with fail
 refine(EG a n c d _ (pX.o.mono (lF.o.tm HD.o)) aG).mono ?_;rintro e w2 ⟨a5,c5,rfl,ho,jT⟩;have hb:=HD.o.tm jT;have yZ:=lF.o.tm hb;have b1:=b1'.o.late hb;obtain⟨HS,mO,mE,AZ,b1',J8⟩:=aN (jF.o _ (hb.mono (iI YF))) hb jT yZ b1 ho;clear hb jT yZ b1 ho;go_wp2_with fail
 first|refine Mid.mk ⟨HS.o,?_⟩|refine Mid.mk ?_
 refine jS [7] 1 aF aI aF aF aF HS.o ?_;simp only[jI,aW,aX,aU,aV];iterate 1 (go_big_quiet_step (fail))
 refine wpQuiet_nil ?_;refine jJ 8 0 aF aF ?_;simp only[jI,aW,aX,aU,aV];have p0:=b1'.o.cell (i:=0) rfl;have p1:=b1'.o.cell (i:=1) rfl;have p2:=b1'.o.cell (i:=2) rfl;have y0:=b1'.o.frozen 0;have y1:=b1'.o.frozen 1;have y2:=b1'.o.frozen 2;go_wp2_with fail
 have HS:=aA (jF.o _ (nG (mO.o.mono (iI YF)) (aZ _) (.int .i64 y) (.int .i64 k) (.slice a5 n c5)));refine Mid.mk ⟨HS.o,?_⟩;refine jV aF ?_;go_wp2_with fail
 refine bodyPost_ret (results_cell_row rfl _ _ (w.heap.size+1) 72 #[.int .i64 y,.int .i64 k,.slice a5 n c5] (0,0) _ rfl (b1'.o.ZO _ _ _) Tryz.underlying72 rfl aF) rfl ?_;refine⟨_,_,rfl,kI (UF J8.o (cK YF HD.o.size) _ _ _) (bQ lF.o.size HD.o.size),nG AZ.o aG _ _ _⟩
theorem LK (a:Option Addr) (n c:Nat) (zs:List Tz) (w:World) (hs:Tgr w a n c zs) (hl:n≤1000000) (hd:∀z∈zs,z.2.length≤1000000):
  Calls Tryz.prog 57 #[.slice a n c] w fun e w'=>∃a' c',e= .returned (.slice a' n c')∧kX DT w.heap.size w' (.slice a' n c') (zs.map l8)∧Below w.heap.size w w':=by
 have qJ:=hs.len;obtain⟨i0,z0,xH,hz,oG,qK,QG⟩:=wL bGF bGG;obtain⟨pX,UB,mX⟩:=aK hs hd qJ;clear hs hd qJ;go_enter Tryz.func57,Tryz.ntmps57;go_wp2_with fail
 go_loopw [3,4] (fun ov iv wr=>∃(i:Nat) (a1:Option Addr) (c1:Nat),i≤n∧iv= .int .i64 i∧ov= .slice a1 i c1∧Hid (kX DT w.heap.size wr (.slice a1 i c1) ((zs.map l8).take i))∧Hid (Below w.heap.size w wr)) (fun _ iv _=>n - (intOf iv).toNat)
 case atStart=>exact⟨0,none,0,by omega,rfl,rfl,aA (kX.nil _ _ _),aA (aY _ _)⟩
 case round=>
  obtain⟨i,a1,c1,yJ,rfl,rfl,hto,hb⟩:=hrel;by_cases hi:i<n
  ·have I4:(i:Int)<(n:Int):=by omega
   have sS:IntKind.i64.wrap ((i:Int)+1)=i+1:=by rw[bF];omega
   have hiz:i<zs.length:=by rw[mX.o];exact hi
   have sM:=UB.o (zs.getD i yL) (by rw[jO hiz];exact bJ _);have mQ:(zs.map l8).take (i+1)=(zs.map l8).take i++ [l8 (zs.getD i yL)]:=by
    rw[eP (by rw[bL];exact hiz),dZ,jO hiz]
   obtain⟨b,o,rfl,lC,f0,f1,f2,f3,rV⟩:=pX.o.at hi;obtain⟨⟨⟨y,t,k,xa,xn,xc⟩,d⟩,wO⟩:∃z,zs.getD i yL=z:=⟨_,rfl⟩;rw[wO]at f0 f1 f2 f3 rV sM mQ;simp only at f0 f1 f2 f3 rV sM;have hxn:xn≤1000000:=by have:=rV.nU;omega
   obtain⟨Ty,f,oJ,jN,jK⟩:=zQ w.heap.size w;have q0:∀s,(f s).cell? ⟨b,o+i*4,none⟩=some (.int .i64 y):=fun s=>late (jN s) lC f0;have q1:∀s,(f s).cell? ⟨b,o+i*4+1,none⟩=some (.int .i64 t):=fun s=>late (jN s) lC f1;have q2:∀s,(f s).cell? ⟨b,o+i*4+2,none⟩=some (.int .i64 k):=fun s=>late (jN s) lC f2;have q3:∀s,(f s).cell? ⟨b,o+i*4+3,none⟩=some (.slice xa xn xc):=fun s=>late (jN s) lC f3;obtain⟨HS,HD⟩:=aJ (jK _ (hb.o.drew)) ((aY wr.heap.size wr).drew);clear f0 f1 f2 f3 lC;obtain⟨jH,jF,JF,NC,D7⟩:=aM jN jK rV wO mQ;clear jN jK rV wO mQ;go_wp2_with fail
   refine kM (S:=fun W=>∃s,W=f s) aF 16 rfl ?_;refine jS [0,1,2,3,4,5,6,7,8,9,10] 5 aF aI aF aF aF HS.o ?_;simp only[jI,aW,aX,aU,aV];iterate 11 (go_big_quiet_step (fail))
   refine wpQuiet_nil ?_;refine jJ 11 4 aF aF ?_;simp only[jI,aW,aX,aU,aV];go_wp2_with fail
   have hrw:=JF.o.mono (hb.o.tm HD.o);refine(aNZ t k xa xn xc d _ hrw hxn).mono ?_;rintro e w2 ⟨a6,c6,rfl,vS,jT⟩;have zF:=HD.o.tm jT;have jZ:=hb.o.tm zF;have aBI:=hto.o.keep (Kp.later zF);have PZ:=kI vS (show w.heap.size≤_ from bQ hb.o.size HD.o.size);have HS:=aA (jF.o _ jZ);clear vS jT zF hrw;obtain⟨jM,UM,NA⟩:=aK jZ aBI PZ;clear jZ aBI PZ;go_wp2_with fail
   first|refine Mid.mk ⟨HS.o,?_⟩|refine Mid.mk ?_
   refine jS [12] 3 aF aI aF aF aF HS.o ?_;simp only[jI,aW,aX,aU,aV];iterate 1 (go_big_quiet_step (fail))
   refine wpQuiet_nil ?_;refine jJ 13 2 aF aF ?_;simp only[jI,aW,aX,aU,aV];go_wp2_with fail
   have l9:=aD w2 (.cells #[.int .i64 y,.int .i64 t,.int .i64 k,.slice a6 xn c6] 74);have jZ:=jM.o.tm l9;have aG3:=UM.o.keep (Kp.later l9);have ET:=kC NA.o l9;have HS:=aA (jF.o _ jZ);obtain⟨zs3,e3,h3,_⟩:=aG3;have b7M:zs3.length=i:=by have:=congrArg List.length e3;simp at this;omega
   have hr3:=h3.1;rw[b7M]at hr3;have aG3:=UM.o.keep (Kp.later l9);clear l9 e3 h3;obtain⟨jM,aBJ,ZR,bTS⟩:=aL jZ aG3 ET b7M;clear jZ aG3 ET b7M;first|refine Mid.mk ⟨HS.o,?_⟩|refine Mid.mk ?_
   refine jJ 14 1 aF aF ?_;simp only[jI,aW,aX,aU,aV];go_wp2_with (at_builtin;refine kK rfl _ _ 22 rfl w.heap.size 74 i0 z0 4 48 Tryz.underlying22 xH hz oG qK QG aH _ i _ rfl hr3 _ 1 1 [.int .i64 y,.int .i64 t,.int .i64 k,.slice a6 xn c6] rfl (Sl.new' _ 74 4 1 #[.int .i64 y,.int .i64 t,.int .i64 k,.slice a6 xn c6] (0,0) (by simp) aG rfl) (by simp[Value.oneCell']) aG aH jM.o.size ?_;intro a7 c7 w7 ob rE hg7;obtain⟨Ob,Hg7⟩:=aJ ob hg7;clear ob rE hg7)
   have a18:kX DT w.heap.size w7 (.slice a7 (i+1) c7) ((zs.map l8).take i++ [(y,t,k,d)]):=kX.snoc (z:=((y,t,k,a6,xn,c6),d)) aBJ.o rfl Hg7.o (fun _ _ h=>h)
    (fun zs4 h4=>by
     rw[dV,bL,show min i zs.length=i by omega]at h4 ⊢;rw[H9 h4 hr3];exact Ob.o) ⟨by have:=JF.o.nU;rw[this];exact ZR.o,fun _ _ h=>h⟩
   have jZ:=below_grown jM.o Hg7.o jM.o.size hr3;obtain⟨HS,aPY,jM⟩:=aK (jF.o _ jZ) a18 jZ;clear a18 jZ;first|refine Mid.mk ⟨HS.o,?_⟩|refine Mid.mk ?_
   refine jJ 15 0 aF aF ?_;simp only[jI,aW,aX,aU,aV];go_wp2_with fail
   first|refine Mid.mk ⟨HS.o,?_⟩|refine Mid.mk ?_
   refine jV aF ?_;go_wp2_with fail
   go_roundw
   case rel=>exact⟨i+1,_,_,by omega,by go_num,rfl,aA (by rw[D7.o];exact aPY.o),jM⟩
   case measure=>simp[intOf];omega
  ·obtain rfl:i=n:=by omega
   go_wp2;go_ret;exact⟨_,_,rfl,by rw[bK (by rw[bL,mX.o];exact aZ _)]at hto;exact hto.o,hb.o⟩
