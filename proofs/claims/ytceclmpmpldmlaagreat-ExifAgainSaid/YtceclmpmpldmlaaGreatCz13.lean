import Derived.Test.YtceclmpmpldmlaaGreatCz12
set_option linter.unusedSimpArgs false
set_option linter.unusedVariables false
namespace Go.Proofs.YtceclmpmpldmlaaGreat
open Go.RowKit Tt
def MO:mK:=(0,0,0,0)
def pQ (f:Nat) (ss:List (Int×jD f)) (no:Int) (j:Nat):Int:=no+1+(kD f (ss.take j)).length
def aKC (f:Nat) (l:List lK) (ss:List (Int×jD f)) (no:Int) (j:Nat):mK:=((ss.getD j (0,jS f)).1,4,1,oG l 2 (pQ f ss no j) 0)
def EG (f:Nat) (l:List lK) (ss:List (Int×jD f)) (no:Int) (n:Nat):List mK:=(List.range n).map (aKC f l ss no)
def xR (l:List lK) (s:lV) (b:List Int) (no:Int):List mK:=if 0<b.length then [(s.2.1,4,1,oG l 4 no 0),(s.2.2.1,4,1,(b.length:Int))]else []
def mR (f:Nat) (l:List lK) (o no:Int) (s:lV) (d:jD (f+1)):List mK:=d.1.map (JH l o no)++EG f l d.2.1 no d.2.1.length++xR l s d.2.2 no
def xS (l:List lK) (b:List Int) (no:Int):List Pt:=if 0<b.length then [((oG l 4 no 0).toNat,b)]else []
def rowP (q:Nat) (o:Int) (es:List mK) (n:Nat):List Pt:=(List.range n).map fun i=>(q+2+12*i,D7 (es.getD i MO) o)
def N9 (l:List lK) (o no:Int) (es:List mK):List Pt:=((oG l 2 no 0).toNat,kL (es.length:Nat) 2 o)::rowP (oG l 2 no 0).toNat o (sortE es) es.length
def GI {f:Nat} (rec:jD f→Int→Int→List Pt) (s:lV) (ss:List (Int×jD f)) (no:Int) (n:Nat):List Pt:=(List.range n).flatMap fun j=>rec (ss.getD j (0,jS f)).2 (pQ f ss no j) (qH s (ss.getD j (0,jS f)).1)
def IQ (L:List lV) (l:List lK) (o:Int):(f:Nat)→jD f→Int→Int→List Pt
 |0,_,_,_=> []
 |f+1,d,no,i=>d.1.flatMap (zV l o no)++GI (IQ L l o f) (L.getD i.toNat jM) d.2.1 no d.2.1.length++xS l d.2.2 no++N9 l o no (mR f l o no (L.getD i.toNat jM) d)
theorem a2P (L:List lV) (l:List lK) (o:Int) (f:Nat) (d:jD (f+1)) (no i:Int):IQ L l o (f+1) d no i=
  d.1.flatMap (zV l o no)++GI (IQ L l o f) (L.getD i.toNat jM) d.2.1 no d.2.1.length++xS l d.2.2 no++N9 l o no (mR f l o no (L.getD i.toNat jM) d):=rfl
def okW (L:List lV) (l:List lK) (n:Nat) (o:Int):(f:Nat)→jD f→Int→Int→Prop
 |0,_,_,_=>True
 |f+1,d,no,i=>(∀x∈d.1,okV l n o no x∧x.2.2.2.length≤1000000000)∧
   (∀j,j<d.2.1.length→kT (L.getD i.toNat jM) (d.2.1.getD j (0,jS f)).1=true∧okW L l n o f (d.2.1.getD j (0,jS f)).2 (pQ f d.2.1 no j) (qH (L.getD i.toNat jM) (d.2.1.getD j (0,jS f)).1))∧
   (0<d.2.2.length→Fits l n 4 no 0 d.2.2.length)∧Fits l n 2 no 0 (2+12*(mR f l o no (L.getD i.toNat jM) d).length)∧
   1≤(mR f l o no (L.getD i.toNat jM) d).length∧(mR f l o no (L.getD i.toNat jM) d).length≤65535∧(o=1∨o=2)∧
   ((mR f l o no (L.getD i.toNat jM) d).Pairwise fun x y=>x.1≠y.1)∧(∀x∈mR f l o no (L.getD i.toNat jM) d,DL x o=true)
theorem Q6 {L:List lV} {l:List lK} {n:Nat} {o:Int} {f:Nat} {d:jD (f+1)} {no i:Int} (h:okW L l n o (f+1) d no i):(∀x∈d.1,okV l n o no x∧x.2.2.2.length≤1000000000)∧
   (∀j,j<d.2.1.length→kT (L.getD i.toNat jM) (d.2.1.getD j (0,jS f)).1=true∧okW L l n o f (d.2.1.getD j (0,jS f)).2 (pQ f d.2.1 no j) (qH (L.getD i.toNat jM) (d.2.1.getD j (0,jS f)).1))∧
   (0<d.2.2.length→Fits l n 4 no 0 d.2.2.length)∧Fits l n 2 no 0 (2+12*(mR f l o no (L.getD i.toNat jM) d).length)∧
   1≤(mR f l o no (L.getD i.toNat jM) d).length∧(mR f l o no (L.getD i.toNat jM) d).length≤65535∧(o=1∨o=2)∧
   ((mR f l o no (L.getD i.toNat jM) d).Pairwise fun x y=>x.1≠y.1)∧(∀x∈mR f l o no (L.getD i.toNat jM) d,DL x o=true):=h
theorem a2Q (f:Nat) (l:List lK) (ss:List (Int×jD f)) (no:Int) (n:Nat):EG f l ss no (n+1)=EG f l ss no n++ [aKC f l ss no n]:=by
 unfold EG;rw[gM,dL];rfl
theorem aKD {f:Nat} (rec:jD f→Int→Int→List Pt) (s:lV) (ss:List (Int×jD f)) (no:Int) (n:Nat):GI rec s ss no (n+1)=GI rec s ss no n++rec (ss.getD n (0,jS f)).2 (pQ f ss no n) (qH s (ss.getD n (0,jS f)).1):=by
 unfold GI;rw[gM,dW];simp
theorem rowP_step (q:Nat) (o:Int) (es:List mK) (n:Nat):rowP q o es (n+1)=rowP q o es n++ [(q+2+12*n,D7 (es.getD n MO) o)]:=by
 unfold rowP;rw[gM,dL];rfl
theorem aKE (l:List lK) (o no:Int) (ts:List nC) {i:Nat} (h:i<ts.length):(ts.take (i+1)).flatMap (zV l o no)=(ts.take i).flatMap (zV l o no)++zV l o no ts[i]:=by
 rw[dN,aX h,fG,dW];simp
theorem aKF (l:List lK) (o no:Int) (ts:List nC) {i:Nat} (h:i<ts.length):(ts.take (i+1)).map (JH l o no)=(ts.take i).map (JH l o no)++ [JH l o no ts[i]]:=by
 rw[dN,aX h,fG,dL];rfl
theorem LU (f:Nat) (ss:List (Int×jD f)) (no:Int) {j:Nat} (h:j<ss.length):pQ f ss no (j+1)=pQ f ss no j+(jT f (ss.getD j (0,jS f)).2).length:=by
 unfold pQ;rw[G8 f ss h,jI h];omega
theorem DR (f:Nat) (ss:List (Int×jD f)) (no:Int) (j:Nat):no+1≤pQ f ss no j∧pQ f ss no j≤no+1+(kD f ss).length:=by
 have:=sZ f ss j;unfold pQ;omega
theorem a9F (f:Nat) (ss:List (Int×jD f)) (no:Int):pQ f ss no ss.length=no+1+(kD f ss).length:=by
 unfold pQ;rw[bP (aU _)]
theorem a9G (f:Nat) (l:List lK) (ss:List (Int×jD f)) (no:Int) (n:Nat):(EG f l ss no n).length=n:=by unfold EG;simp
theorem LV (f:Nat) (l:List lK) (o no:Int) (s:lV) (d:jD (f+1)):(mR f l o no s d).length=mQ d.1.length d.2.1.length d.2.2.length:=by
 unfold mR xR mQ;simp only[bO,bX,a9G];split <;> simp <;> omega
theorem LP.low {K:Wc} {w w':World} {no:Int} {P:List Int} {B:Nat} (h:LP K w no P) (hb:Below B w w') (h1:K.gw<B) (h2:K.gb<B) (h3:K.sb≤B):LP K w' no P:=
 ⟨(hb.block _ h1).trans h.blk,(hb.block _ h2).trans h.row,h.len,TF h.sp hb.size (fun x e hx=>hb.block _ (by have:=h.a95 x e;omega)),h.a4V,h.ne,h.a95,bK h.a96 hb.size⟩
theorem Mv.low {g gt B:Nat} {w w1 w2:World} (h:Mv g gt sD sD w w1) (hb:Below B w1 w2) (hB:w.heap.size≤B):Mv g gt sD sD w w2:=
 ⟨hb.os.trans h.os,hb.tape.trans h.tape,hb.output.trans h.output,bK h.size hb.size,fun k hk h2 h3 h4=>(hb.block k (cO hk hB)).trans (h.block k hk h2 h3 h4),fun _ e=>by cases e⟩
structure WIn (K:Wc) (w wr:World) (no:Int) (P:List Int) (A S gl:Nat) (dv sv:Array Value) (v:Value) (es:List mK):Prop where
 ws:LP K wr no P
 bA:jJ wr A 26 dv
 bS:jJ wr S 35 sv
 bl:jJ wr gl 154 #[v]
 ow:wr.ownsRow w.heap.size 55 4 v es.length (fl mY es)
 mv:Mv K.gw K.gb sD sD w wr
theorem aOF {K:Wc} {w wr:World} {no:Int} {P:List Int} {A S gl:Nat} {dv sv:Array Value} {v:Value} {es:List mK} (h:WIn K w wr no P A S gl dv sv v es) (b:Nat) (hb:b<w.heap.size):v.ownBlock≠some b:=fun e=>by
 have:=(h.ow.lt b e).1;omega
theorem WIn.later {K:Wc} {w wr w2:World} {no:Int} {P:List Int} {A S gl:Nat} {dv sv:Array Value} {v:Value} {es:List mK} (h:WIn K w wr no P A S gl dv sv v es) (hb:Below wr.heap.size wr w2):WIn K w w2 no P A S gl dv sv v es:=
 ⟨h.ws.later hb,h.bA.late hb,h.bS.late hb,h.bl.late hb,jY h.ow hb,h.mv.later hb⟩
theorem WIn.turn {K:Wc} {w wr w2:World} {no no2:Int} {P P2:List Int} {A S gl:Nat} {dv sv:Array Value} {v:Value} {es:List mK} (h:WIn K w wr no P A S gl dv sv v es) (hws:LP K w2 no2 P2) (hm:Mv K.gw K.gb sD sD wr w2)
  (h1:K.gw<w.heap.size) (h2:K.gb<w.heap.size) (h3:w.heap.size≤A) (h4:w.heap.size≤S) (h5:w.heap.size≤gl):WIn K w w2 no2 P2 A S gl dv sv v es:=
 ⟨hws,Mv.blk hm h.bA (by omega) (by omega),Mv.blk hm h.bS (by omega) (by omega),Mv.blk hm h.bl (by omega) (by omega),Mv.own hm h.ow (aOF h _ h1) (aOF h _ h2),h.mv.trans hm⟩
theorem WIn.add {K:Wc} {w wr w2:World} {no:Int} {P:List Int} {A S gl:Nat} {dv sv:Array Value} {v v2:Value} {es es2:List mK} (h:WIn K w wr no P A S gl dv sv v es)
  (hl:jJ w2 gl 154 #[v2]) (ho:w2.ownsRow w.heap.size 55 4 v2 es2.length (fl mY es2)) (hm:Mv gl gl v v2 wr w2)
  (h1:K.gw<w.heap.size) (h2:K.gb<w.heap.size) (h3:K.sb≤w.heap.size) (h5:w.heap.size≤gl) (h6:A≠gl) (h7:S≠gl):WIn K w w2 no P A S gl dv sv v2 es2:=by
 have hb:=hm.below (B:=w.heap.size) h5 h5 (fun k e=>(h.ow.lt k e).1) h.mv.size;exact⟨h.ws.low hb h1 h2 h3,h.bA.mv hm h6 h6 (nL h.ow h.bA (by decide)),h.bS.mv hm h7 h7 (nL h.ow h.bS (by decide)),hl,ho,Mv.low h.mv hb (aU _)⟩
theorem WIn.sort {K:Wc} {w wr w2:World} {no:Int} {P:List Int} {A S gl:Nat} {dv sv:Array Value} {v:Value} {es es2:List mK} (h:WIn K w wr no P A S gl dv sv v es)
  (ho:w2.ownsRow w.heap.size 55 4 v es2.length (fl mY es2)) (hg:wr.grownBy w2 v.ownBlock)
  (h1:K.gw<w.heap.size) (h2:K.gb<w.heap.size) (h3:K.sb≤w.heap.size) (h5:w.heap.size≤gl):WIn K w w2 no P A S gl dv sv v es2:=by
 have hm:=Mv.PG (g:=gl) (gt:=gl) hg (fun k e=> .inl e);have hb:=hm.below (B:=w.heap.size) h5 h5 (fun k e=>(h.ow.lt k e).1) h.mv.size;exact⟨h.ws.low hb h1 h2 h3,h.bA.grown hg (nL h.ow h.bA (by decide)),h.bS.grown hg (nL h.ow h.bS (by decide)),h.bl.grown hg (nL h.ow h.bl (by decide)),ho,Mv.low h.mv hb (aU _)⟩
set_option maxHeartbeats 1000000 in
theorem aKG (cap:Value) (a:Option Addr) (n c:Nat) (ls:List Lk) (p:Lk→Bool) (w:World) (hs:Sl w a n c 2 (fl lkc ls))
  (hc:∀W (x:Lk),Below w.heap.size w W→Calls Tryz.prog 92 #[.agg #[.int .i64 x.1,.int .i64 x.2],cap] W fun e W'=>e= .returned (.bool (p x))∧Below W.heap.size W W'):
  Calls Tryz.prog 91 #[.slice a n c,.func (.func 92) #[] #[cap]] w fun e w'=>e= .returned (.int .i64 (fst p ls))∧Below w.heap.size w w':=by
 have hl:=hs.uY qD (by decide);have hm:=hs.max;have hle:=hs.le;obtain⟨hs',hc',hl'⟩:=aG hs hc hl;clear hs hc hl;go_enter Tryz.func91,Tryz.ntmps91;go_wp2;go_loopw [8] (fun iv wr=>∃k:Nat,k≤n∧iv= .int .i64 k∧Hid (∀i (hi:i<ls.length),i<k→p ls[i]=false)∧Hid (Below w.heap.size w wr)) (fun iv _=>n - (intOf iv).toNat)
 case atStart=>exact⟨0,by omega,rfl,aA (fun j _ hj=>by omega),aA (aW _ _)⟩
 case round=>
  obtain⟨k,hk,rfl,hall,hb⟩:=hrel;by_cases hlt:k<n
  ·have hww:IntKind.i64.wrap ((k:Int)+1)=k+1:=by rw[aY];omega
   have hkl:k<ls.length:=by rw[hl'.o];exact hlt
   obtain⟨b,o,rfl,hbb,f⟩:=(hs'.o.mono hb.o).elem qD (by decide) (0,0) hlt;rw[jI hkl]at f;have f0:=f 0 _ rfl;have f1:=f 1 _ rfl;clear f;rw[cK]at f0;obtain⟨r,hr⟩:=aC (p (ls[k]'hkl));have HC:=hc'.o wr (ls[k]'hkl) hb.o;rw[hr]at HC;generalize (ls[k]'hkl).1=x1 at*;generalize (ls[k]'hkl).2=x2 at*;obtain⟨SK,hr'⟩:=aF HC hr;clear HC hr;go_wp2_with fail
   refine SK.o.mono ?_;rintro e w2 ⟨rfl,hb2⟩;have hbw:=hb.o.tm hb2;clear hb2;cases r with
   |true=>
    have jW:=aA hbw;clear hbw;go_wp2;go_ret;exact⟨by rw[J6 hkl hr'.o (fun i hi=>hall.o i (by omega) hi)];rfl,jW.o⟩
   |false=>
    have nK:∀i (hi:i<ls.length),i<k+1→p ls[i]=false:=fun i hi h=>by
     rcases eH i k with h1|h1
     ·exact hall.o i hi h1
     ·obtain rfl:i=k:=by omega
      exact hr'.o
    obtain⟨jW,lW⟩:=aF hbw nK;clear hbw nK;go_wp2;go_roundw
    case rel=>exact⟨k+1,by omega,by go_num,lW,jW⟩
    case measure=>simp[intOf];omega
  ·obtain rfl:k=n:=by omega
   go_wp2;go_ret;exact⟨by rw[NI (fun i hi=>hall.o i hi (by rw[hl'.o]at hi;exact hi))];rfl,hb.o⟩
theorem nM (C:World→Prop) (w:World) (h:C w):∃(S:Type) (f:S→World),Nonempty S∧(∀s,C (f s))∧∀W,C W→∃s,W=f s:=
 ⟨{W:World // C W},Subtype.val,⟨⟨w,h⟩⟩,fun s=>s.2,fun W h=>⟨⟨W,h⟩,rfl⟩⟩
theorem Mv.cell {g gt:Nat} {w w':World} (h:Mv g gt sD sD w w') {p:Addr} {v:Value} (h0:p.block<w.heap.size) (h1:p.block≠g) (h2:p.block≠gt) (hc:w.cell? p=some v):w'.cell? p=some v:=by
 unfold World.cell? at hc ⊢;rw[h.block _ h0 h1 h2 (by intro e;cases e)];exact hc
theorem aE7 {B:Nat} {w w':World} (h:Below B w w') {p:Addr} {v:Value} (h0:p.block<B) (hc:w.cell? p=some v):w'.cell? p=some v:=by
 unfold World.cell? at hc ⊢;rw[h.block _ h0];exact hc
