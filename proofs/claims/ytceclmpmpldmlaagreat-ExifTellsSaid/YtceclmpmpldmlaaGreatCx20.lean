import Derived.Test.YtceclmpmpldmlaaGreatCx19
set_option linter.unusedSimpArgs false
set_option linter.unusedVariables false
namespace Go.Proofs.YtceclmpmpldmlaaGreat
open Go.RowKit Tt
def yH:xB:=(0,0,0,0)
def qH (f:Nat) (ss:List (Int×jR f)) (no:Int) (j:Nat):Int:=no+1+(lH f (ss.take j)).length
def aZ3 (f:Nat) (l:List nY) (ss:List (Int×jR f)) (no:Int) (j:Nat):xB:=((ss.getD j (0,lY f)).1,4,1,oV l 2 (qH f ss no j) 0)
def II (f:Nat) (l:List nY) (ss:List (Int×jR f)) (no:Int) (n:Nat):List xB:=(List.range n).map (aZ3 f l ss no)
def DR (l:List nY) (s:rQ) (b:List Int) (no:Int):List xB:=if 0<b.length then [(s.2.1,4,1,oV l 4 no 0),(s.2.2.1,4,1,(b.length:Int))]else []
def pE (f:Nat) (l:List nY) (o no:Int) (s:rQ) (d:jR (f+1)):List xB:=d.1.map (JS l o no)++II f l d.2.1 no d.2.1.length++DR l s d.2.2 no
def zV (l:List nY) (b:List Int) (no:Int):List Pt:=if 0<b.length then [((oV l 4 no 0).toNat,b)]else []
def rowP (q:Nat) (o:Int) (es:List xB) (n:Nat):List Pt:=(List.range n).map fun i=>(q+2+12*i,MI (es.getD i yH) o)
def QY (l:List nY) (o no:Int) (es:List xB):List Pt:=((oV l 2 no 0).toNat,kZ (es.length:Nat) 2 o)::rowP (oV l 2 no 0).toNat o (sortE es) es.length
def GI {f:Nat} (rec:jR f→Int→Int→List Pt) (s:rQ) (ss:List (Int×jR f)) (no:Int) (n:Nat):List Pt:=(List.range n).flatMap fun j=>rec (ss.getD j (0,lY f)).2 (qH f ss no j) (zA s (ss.getD j (0,lY f)).1)
def ML (L:List rQ) (l:List nY) (o:Int):(f:Nat)→jR f→Int→Int→List Pt
 |0,_,_,_=> []
 |f+1,d,no,i=>d.1.flatMap (AA l o no)++GI (ML L l o f) (L.getD i.toNat mD) d.2.1 no d.2.1.length++zV l d.2.2 no++QY l o no (pE f l o no (L.getD i.toNat mD) d)
theorem a7V (L:List rQ) (l:List nY) (o:Int) (f:Nat) (d:jR (f+1)) (no i:Int):ML L l o (f+1) d no i=
  d.1.flatMap (AA l o no)++GI (ML L l o f) (L.getD i.toNat mD) d.2.1 no d.2.1.length++zV l d.2.2 no++QY l o no (pE f l o no (L.getD i.toNat mD) d):=rfl
def okW (L:List rQ) (l:List nY) (n:Nat) (o:Int):(f:Nat)→jR f→Int→Int→Prop
 |0,_,_,_=>True
 |f+1,d,no,i=>(∀x∈d.1,okV l n o no x∧x.2.2.2.length≤1000000000)∧
   (∀j,j<d.2.1.length→wU (L.getD i.toNat mD) (d.2.1.getD j (0,lY f)).1=true∧okW L l n o f (d.2.1.getD j (0,lY f)).2 (qH f d.2.1 no j) (zA (L.getD i.toNat mD) (d.2.1.getD j (0,lY f)).1))∧
   (0<d.2.2.length→Fits l n 4 no 0 d.2.2.length)∧Fits l n 2 no 0 (2+12*(pE f l o no (L.getD i.toNat mD) d).length)∧
   1≤(pE f l o no (L.getD i.toNat mD) d).length∧(pE f l o no (L.getD i.toNat mD) d).length≤65535∧(o=1∨o=2)∧
   ((pE f l o no (L.getD i.toNat mD) d).Pairwise fun x y=>x.1≠y.1)∧(∀x∈pE f l o no (L.getD i.toNat mD) d,DL x o=true)
theorem VD {L:List rQ} {l:List nY} {n:Nat} {o:Int} {f:Nat} {d:jR (f+1)} {no i:Int} (h:okW L l n o (f+1) d no i):(∀x∈d.1,okV l n o no x∧x.2.2.2.length≤1000000000)∧
   (∀j,j<d.2.1.length→wU (L.getD i.toNat mD) (d.2.1.getD j (0,lY f)).1=true∧okW L l n o f (d.2.1.getD j (0,lY f)).2 (qH f d.2.1 no j) (zA (L.getD i.toNat mD) (d.2.1.getD j (0,lY f)).1))∧
   (0<d.2.2.length→Fits l n 4 no 0 d.2.2.length)∧Fits l n 2 no 0 (2+12*(pE f l o no (L.getD i.toNat mD) d).length)∧
   1≤(pE f l o no (L.getD i.toNat mD) d).length∧(pE f l o no (L.getD i.toNat mD) d).length≤65535∧(o=1∨o=2)∧
   ((pE f l o no (L.getD i.toNat mD) d).Pairwise fun x y=>x.1≠y.1)∧(∀x∈pE f l o no (L.getD i.toNat mD) d,DL x o=true):=h
theorem a7W (f:Nat) (l:List nY) (ss:List (Int×jR f)) (no:Int) (n:Nat):II f l ss no (n+1)=II f l ss no n++ [aZ3 f l ss no n]:=by
 unfold II;rw[eO,dI];rfl
theorem a7X {f:Nat} (rec:jR f→Int→Int→List Pt) (s:rQ) (ss:List (Int×jR f)) (no:Int) (n:Nat):GI rec s ss no (n+1)=GI rec s ss no n++rec (ss.getD n (0,lY f)).2 (qH f ss no n) (zA s (ss.getD n (0,lY f)).1):=by
 unfold GI;rw[eO,dJ];simp
theorem rowP_step (q:Nat) (o:Int) (es:List xB) (n:Nat):rowP q o es (n+1)=rowP q o es n++ [(q+2+12*n,MI (es.getD n yH) o)]:=by
 unfold rowP;rw[eO,dI];rfl
theorem a7Y (l:List nY) (o no:Int) (ts:List rM) {i:Nat} (h:i<ts.length):(ts.take (i+1)).flatMap (AA l o no)=(ts.take i).flatMap (AA l o no)++AA l o no ts[i]:=by
 rw[dS,bI h,fJ,dJ];simp
theorem a7Z (l:List nY) (o no:Int) (ts:List rM) {i:Nat} (h:i<ts.length):(ts.take (i+1)).map (JS l o no)=(ts.take i).map (JS l o no)++ [JS l o no ts[i]]:=by
 rw[dS,bI h,fJ,dI];rfl
theorem XK (f:Nat) (ss:List (Int×jR f)) (no:Int) {j:Nat} (h:j<ss.length):qH f ss no (j+1)=qH f ss no j+(kQ f (ss.getD j (0,lY f)).2).length:=by
 unfold qH;rw[z8 f ss h,jO h];omega
theorem PE (f:Nat) (ss:List (Int×jR f)) (no:Int) (j:Nat):no+1≤qH f ss no j∧qH f ss no j≤no+1+(lH f ss).length:=by
 have:=oO f ss j;unfold qH;omega
theorem aCY (f:Nat) (ss:List (Int×jR f)) (no:Int):qH f ss no ss.length=no+1+(lH f ss).length:=by
 unfold qH;rw[bK (aZ _)]
theorem O0 (f:Nat) (l:List nY) (ss:List (Int×jR f)) (no:Int) (n:Nat):(II f l ss no n).length=n:=by unfold II;simp
theorem PG (f:Nat) (l:List nY) (o no:Int) (s:rQ) (d:jR (f+1)):(pE f l o no s d).length=qM d.1.length d.2.1.length d.2.2.length:=by
 unfold pE DR qM;simp only[cO,bL,O0];split <;> simp <;> omega
theorem P7.low {K:Wc} {w w':World} {no:Int} {P:List Int} {B:Nat} (h:P7 K w no P) (hb:Below B w w') (h1:K.gw<B) (h2:K.gb<B) (h3:K.sb≤B):P7 K w' no P:=
 ⟨(hb.block _ h1).trans h.blk,(hb.block _ h2).trans h.row,h.len,RX h.sp hb.size (fun x e hx=>hb.block _ (by have:=h.aCN x e;omega)),h.a9J,h.ne,h.aCN,bQ h.aCO hb.size⟩
theorem Mv.low {g gt B:Nat} {w w1 w2:World} (h:Mv g gt tZ tZ w w1) (hb:Below B w1 w2) (hB:w.heap.size≤B):Mv g gt tZ tZ w w2:=
 ⟨hb.os.trans h.os,hb.tape.trans h.tape,hb.output.trans h.output,bQ h.size hb.size,fun k hk h2 h3 h4=>(hb.block k (cK hk hB)).trans (h.block k hk h2 h3 h4),fun _ e=>by cases e⟩
structure WIn (K:Wc) (w wr:World) (no:Int) (P:List Int) (A S gl:Nat) (dv sv:Array Value) (v:Value) (es:List xB):Prop where
 ws:P7 K wr no P
 bA:jW wr A 26 dv
 bS:jW wr S 35 sv
 bl:jW wr gl 154 #[v]
 ow:wr.ownsRow w.heap.size 55 4 v es.length (fl sP es)
 mv:Mv K.gw K.gb tZ tZ w wr
theorem aS9 {K:Wc} {w wr:World} {no:Int} {P:List Int} {A S gl:Nat} {dv sv:Array Value} {v:Value} {es:List xB} (h:WIn K w wr no P A S gl dv sv v es) (b:Nat) (hb:b<w.heap.size):v.ownBlock≠some b:=fun e=>by
 have:=(h.ow.lt b e).1;omega
theorem WIn.later {K:Wc} {w wr w2:World} {no:Int} {P:List Int} {A S gl:Nat} {dv sv:Array Value} {v:Value} {es:List xB} (h:WIn K w wr no P A S gl dv sv v es) (hb:Below wr.heap.size wr w2):WIn K w w2 no P A S gl dv sv v es:=
 ⟨h.ws.later hb,h.bA.late hb,h.bS.late hb,h.bl.late hb,kC h.ow hb,h.mv.later hb⟩
theorem WIn.turn {K:Wc} {w wr w2:World} {no no2:Int} {P P2:List Int} {A S gl:Nat} {dv sv:Array Value} {v:Value} {es:List xB} (h:WIn K w wr no P A S gl dv sv v es) (hws:P7 K w2 no2 P2) (hm:Mv K.gw K.gb tZ tZ wr w2)
  (h1:K.gw<w.heap.size) (h2:K.gb<w.heap.size) (h3:w.heap.size≤A) (h4:w.heap.size≤S) (h5:w.heap.size≤gl):WIn K w w2 no2 P2 A S gl dv sv v es:=
 ⟨hws,Mv.blk hm h.bA aG aG,Mv.blk hm h.bS aG aG,Mv.blk hm h.bl aG aG,Mv.own hm h.ow (aS9 h _ h1) (aS9 h _ h2),h.mv.trans hm⟩
theorem WIn.add {K:Wc} {w wr w2:World} {no:Int} {P:List Int} {A S gl:Nat} {dv sv:Array Value} {v v2:Value} {es es2:List xB} (h:WIn K w wr no P A S gl dv sv v es)
  (hl:jW w2 gl 154 #[v2]) (ho:w2.ownsRow w.heap.size 55 4 v2 es2.length (fl sP es2)) (hm:Mv gl gl v v2 wr w2)
  (h1:K.gw<w.heap.size) (h2:K.gb<w.heap.size) (h3:K.sb≤w.heap.size) (h5:w.heap.size≤gl) (h6:A≠gl) (h7:S≠gl):WIn K w w2 no P A S gl dv sv v2 es2:=by
 have hb:=hm.below (B:=w.heap.size) h5 h5 (fun k e=>(h.ow.lt k e).1) h.mv.size;exact⟨h.ws.low hb h1 h2 h3,h.bA.mv hm h6 h6 (mH h.ow h.bA aH),h.bS.mv hm h7 h7 (mH h.ow h.bS aH),hl,ho,Mv.low h.mv hb (aZ _)⟩
theorem WIn.sort {K:Wc} {w wr w2:World} {no:Int} {P:List Int} {A S gl:Nat} {dv sv:Array Value} {v:Value} {es es2:List xB} (h:WIn K w wr no P A S gl dv sv v es)
  (ho:w2.ownsRow w.heap.size 55 4 v es2.length (fl sP es2)) (hg:wr.grownBy w2 v.ownBlock)
  (h1:K.gw<w.heap.size) (h2:K.gb<w.heap.size) (h3:K.sb≤w.heap.size) (h5:w.heap.size≤gl):WIn K w w2 no P A S gl dv sv v es2:=by
 have hm:=Mv.NM (g:=gl) (gt:=gl) hg (fun k e=> .inl e);have hb:=hm.below (B:=w.heap.size) h5 h5 (fun k e=>(h.ow.lt k e).1) h.mv.size;exact⟨h.ws.low hb h1 h2 h3,h.bA.grown hg (mH h.ow h.bA aH),h.bS.grown hg (mH h.ow h.bS aH),h.bl.grown hg (mH h.ow h.bl aH),ho,Mv.low h.mv hb (aZ _)⟩
set_option maxHeartbeats 1000000 in
theorem aNP (cap:Value) (a:Option Addr) (n c:Nat) (ls:List Lk) (p:Lk→Bool) (w:World) (hs:Sl w a n c 2 (fl lkc ls))
  (hc:∀W (x:Lk),Below w.heap.size w W→Calls Tryz.prog 92 #[.agg #[.int .i64 x.1,.int .i64 x.2],cap] W fun e W'=>e= .returned (.bool (p x))∧Below W.heap.size W W'):
  Calls Tryz.prog 91 #[.slice a n c,.func (.func 92) #[] #[cap]] w fun e w'=>e= .returned (.int .i64 (fst p ls))∧Below w.heap.size w w':=by
 have hl:=hs.rP pJ aH;have hm:=hs.max;have BX:=hs.le;obtain⟨pX,hc',yI⟩:=aK hs hc hl;clear hs hc hl;go_enter Tryz.func91,Tryz.ntmps91;go_wp2;go_loopw [8] (fun iv wr=>∃k:Nat,k≤n∧iv= .int .i64 k∧Hid (∀i (hi:i<ls.length),i<k→p ls[i]=false)∧Hid (Below w.heap.size w wr)) (fun iv _=>n - (intOf iv).toNat)
 case atStart=>exact⟨0,by omega,rfl,aA (fun j _ hj=>by omega),aA (aY _ _)⟩
 case round=>
  obtain⟨k,hk,rfl,kS,hb⟩:=hrel;by_cases kD:k<n
  ·have hww:IntKind.i64.wrap ((k:Int)+1)=k+1:=by rw[bF];omega
   have D6:k<ls.length:=by rw[yI.o];exact kD
   obtain⟨b,o,rfl,yZ,f⟩:=(pX.o.mono hb.o).elem pJ aH (0,0) kD;rw[jO D6]at f;have f0:=f 0 _ rfl;have f1:=f 1 _ rfl;clear f;rw[bU]at f0;obtain⟨r,hr⟩:=aC (p (ls[k]'D6));have HC:=hc'.o wr (ls[k]'D6) hb.o;rw[hr]at HC;generalize (ls[k]'D6).1=x1 at*;generalize (ls[k]'D6).2=x2 at*;obtain⟨HC',qX⟩:=aJ HC hr;clear HC hr;go_wp2_with fail
   refine HC'.o.mono ?_;rintro e w2 ⟨rfl,jT⟩;have jZ:=hb.o.tm jT;clear jT;cases r with
   |true=>
    have jM:=aA jZ;clear jZ;go_wp2;go_ret;exact⟨by rw[RL D6 qX.o (fun i hi=>kS.o i aG hi)];rfl,jM.o⟩
   |false=>
    have nP:∀i (hi:i<ls.length),i<k+1→p ls[i]=false:=fun i hi h=>by
     rcases dM i k with h1|h1
     ·exact kS.o i hi h1
     ·obtain rfl:i=k:=by omega
      exact qX.o
    obtain⟨jM,lW⟩:=aJ jZ nP;clear jZ nP;go_wp2;go_roundw
    case rel=>exact⟨k+1,by omega,by go_num,lW,jM⟩
    case measure=>simp[intOf];omega
  ·obtain rfl:k=n:=by omega
   go_wp2;go_ret;exact⟨by rw[X8 (fun i hi=>kS.o i hi (by rw[yI.o]at hi;exact hi))];rfl,hb.o⟩
theorem lM (C:World→Prop) (w:World) (h:C w):∃(S:Type) (f:S→World),Nonempty S∧(∀s,C (f s))∧∀W,C W→∃s,W=f s:=
 ⟨{W:World // C W},Subtype.val,⟨⟨w,h⟩⟩,fun s=>s.2,fun W h=>⟨⟨W,h⟩,rfl⟩⟩
theorem Mv.cell {g gt:Nat} {w w':World} (h:Mv g gt tZ tZ w w') {p:Addr} {v:Value} (h0:p.block<w.heap.size) (h1:p.block≠g) (h2:p.block≠gt) (hc:w.cell? p=some v):w'.cell? p=some v:=by
 unfold World.cell? at hc ⊢;rw[h.block _ h0 h1 h2 (by intro e;cases e)];exact hc
theorem aHA {B:Nat} {w w':World} (h:Below B w w') {p:Addr} {v:Value} (h0:p.block<B) (hc:w.cell? p=some v):w'.cell? p=some v:=by
 unfold World.cell? at hc ⊢;rw[h.block _ h0];exact hc
