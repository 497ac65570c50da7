import Derived.Test.YtceclmpmpldmlaaGreatCz26
set_option linter.unusedSimpArgs false
set_option linter.unusedVariables false
set_option maxRecDepth 100000
set_option maxHeartbeats 8000000
namespace Go.Proofs.YtceclmpmpldmlaaGreat
open Go.RowKit Tt
def Pw (ts:List Tg):Prop:=ts.Pairwise (fun a b=>a.1<b.1)
theorem aB0 (t:Int):∀{ts:List Tg},Pw ts→∃A M C,ts=A++M++C∧(∀a∈A,a.1<t)∧(∀c∈C,t<c.1)∧(M= []∨∃y,M= [y]∧y.1=t)
 | [],_=>⟨[], [], [],rfl,by simp,by simp,.inl rfl⟩
 |x::r,h=>by
  obtain⟨h1,h2⟩:=dR.1 h;rcases Int.lt_trichotomy x.1 t with hx|hx|hx
  ·obtain⟨A,M,C,rfl,hA,hC,hM⟩:=aB0 t h2;exact⟨x::A,M,C,by simp,by intro a ha;rcases bQ.1 ha with rfl|ha;exact hx;exact hA a ha,hC,hM⟩
  ·exact⟨[], [x],r,rfl,by simp,fun c hc=>by have:=h1 c hc;omega,.inr ⟨x,rfl,hx⟩⟩
  ·exact⟨[], [],x::r,rfl,by simp,fun c hc=>by rcases bQ.1 hc with rfl|hc;exact hx;have:=h1 c hc;omega,.inl rfl⟩
section
variable {A M C:List Tg} {t:Int} (hA:∀a∈A,a.1<t) (hC:∀c∈C,t<c.1) (hM:M= []∨∃y,M= [y]∧y.1=t)
include hA hC hM
omit hA hC in
theorem b0M:∀y∈M,y.1=t:=fun y hy=>by
 rcases hM with rfl|⟨z,rfl,hz⟩
 ·cases hy
 ·obtain rfl:y=z:=by simpa using hy
  exact hz
theorem aHT {x:Tg} (hx:x.1=t):z8 (A++M++C) x=A++x::C:=by
 unfold z8;rw[hx];have e1:(A++M++C).takeWhile (fun y=>decide (y.1<t))=A:=by
  rw[dB,List.takeWhile_append_of_pos (fun y hy=>by simpa using hA y hy)];have:(M++C).takeWhile (fun y=>decide (y.1<t))= []:=by
   rcases hM with rfl|⟨y,rfl,hy⟩
   ·cases C with
    |nil=>rfl
    |cons c r=>rw[eG,List.takeWhile_cons_of_neg (by have:=hC c bJ;simp;omega)]
   ·rw[List.singleton_append,List.takeWhile_cons_of_neg (by simp;omega)]
  rw[this,dM]
 have e2:(A++M++C).filter (fun y=>decide (t<y.1))=C:=by
  rw[eF,eF,R9 (l:=A) (fun y hy=>by have:=hA y hy;simp;omega),R9 (l:=M) (fun y hy=>by have:=b0M hM y hy;simp;omega),AX (fun y hy=>by simpa using hC y hy)];rfl
 rw[e1,e2]
theorem aB1:qL (A++M++C) t=A++C:=by
 unfold qL;rw[eF,eF,AX (l:=A) (fun y hy=>by have:=hA y hy;simp;omega),R9 (l:=M) (fun y hy=>by have:=b0M hM y hy;simp;omega),AX (fun y hy=>by have:=hC y hy;simp;omega)];rw[dM]
omit hM in
theorem b6U {x:Tg} (hx:x.1=t) (h:Pw (A++M++C)):Pw (A++x::C):=by
 unfold Pw at h ⊢;rw[fE,fE]at h;rw[fE];refine⟨h.1.1,dR.2 ⟨fun c hc=>by have:=hC c hc;omega,h.2.1⟩,fun a ha b hb=>?_⟩;rcases bQ.1 hb with rfl|hb
 ·have:=hA a ha;omega
 ·have:=hA a ha;have:=hC b hb;omega
end
theorem ZO {L:List Tg} (h:Pw L) {y:Tg} (hy:y∈L):nO L y.1=(true,y.2):=by
 obtain⟨s,r,rfl⟩:=List.append_of_mem hy;refine U0 (fun z hz=>?_) rfl;have:=(fE.1 h).2.2 z hz y bJ;omega
theorem mem_set {ts:List Tg} {x y:Tg} (h:y∈z8 ts x):y=x∨y∈ts:=by
 unfold z8 at h;rcases bH.1 h with h|h
 ·exact .inr ((List.takeWhile_sublist _).mem h)
 ·rcases bQ.1 h with h|h
  ·exact .inl h
  ·exact .inr (eZ.1 h).1
theorem aHU {ts:List Tg} {x:Tg}:x∈z8 ts x:=by unfold z8;simp
structure bE7 (ts:List Tg) (x:Tg) (b:Bool) (v:Int×Int×List Int):Prop where
 pw:Pw (z8 ts x)
 pwd:Pw (qL (z8 ts x) x.1)
 pwl:Pw (qL ts x.1)
 found:nO (z8 ts x) x.1=(true,x.2)
 bEA:b=true→(z8 ts x).length=ts.length
 bEB:b=false→(z8 ts x).length=ts.length+1
 each:∀y∈ts,∃q,nO (z8 ts x) y.1=(true,q)∧(y.1≠x.1→q=y.2)
 gone:nO (qL (z8 ts x) x.1) x.1=(false,0,0, [])
 bV4:(qL (z8 ts x) x.1).length+1=(z8 ts x).length
 same:qL (z8 ts x) x.1=qL ts x.1
 bSC:b=true→z8 (qL (z8 ts x) x.1) (x.1,v)=ts
 bEC:b=false→qL (z8 ts x) x.1=ts
theorem a6K {ts:List Tg} (h:Pw ts) (x:Tg) {b:Bool} {v:Int×Int×List Int} (hf:nO ts x.1=(b,v)):bE7 ts x b v:=by
 obtain⟨A,M,C,rfl,hA,hC,hM⟩:=aB0 x.1 h;have e1:=aHT hA hC hM (x:=x) rfl;have e2:qL (A++M++C) x.1=A++C:=aB1 hA hC hM;have e3:qL (A++x::C) x.1=A++C:=by
  have:=aB1 (M:= [x]) hA hC (.inr ⟨x,rfl,rfl⟩);rwa [dB,List.singleton_append]at this
 have p1:Pw (A++x::C):=b6U hA hC rfl h;have p2:Pw (A++C):=by rw[←e2];exact h.sublist List.filter_sublist
 have hb:(b=true∧∃y,M= [y]∧y.1=x.1∧v=y.2)∨(b=false∧M= []):=by
  rcases hM with rfl|⟨y,rfl,hy⟩
  ·right
   rw[M8 (fun y hy=>by rw[dM]at hy;rcases bH.1 hy with hy|hy;have:=hA y hy;omega;have:=hC y hy;omega)]at hf;simp only[Prod.mk.injEq]at hf;exact⟨hf.1.symm,rfl⟩
  ·left
   rw[dB,List.singleton_append,U0 (fun y hy=>by have:=hA y hy;omega) hy]at hf;simp only[Prod.mk.injEq]at hf;exact⟨hf.1.symm,y,rfl,hy,hf.2.symm⟩
 refine⟨?_,?_,?_,?_,?_,?_,?_,?_,?_,?_,?_,?_⟩
 ·rw[e1];exact p1
 ·rw[e1,e3];exact p2
 ·rw[e2];exact p2
 ·exact ZO (by rw[e1];exact p1) aHU
 ·intro ht;rcases hb with ⟨_,y,rfl,_⟩|⟨h0,_⟩
  ·rw[e1];simp <;> omega
  ·rw[ht]at h0;cases h0
 ·intro ht;rcases hb with ⟨h0,_⟩|⟨_,rfl⟩
  ·rw[ht]at h0;cases h0
  ·rw[e1];simp <;> omega
 ·intro y hy;rw[e1];by_cases hyx:y.1=x.1
  ·rw[hyx];exact⟨x.2,ZO p1 (by simp),fun hn=>absurd rfl hn⟩
  ·refine⟨y.2,ZO p1 ?_,fun _=>rfl⟩;rcases bH.1 hy with hy|hy
   ·rcases bH.1 hy with hy|hy
    ·exact List.mem_append_left _ hy
    ·rcases hM with rfl|⟨z,rfl,hz⟩
     ·cases hy
     ·obtain rfl:y=z:=by simpa using hy
      exact absurd hz hyx
   ·exact List.mem_append_right _ (aZ _ hy)
 ·rw[e1,e3];exact M8 fun y hy=>by
   rcases bH.1 hy with hy|hy
   ·have:=hA y hy;omega
   ·have:=hC y hy;omega
 ·rw[e1,e3];simp <;> omega
 ·rw[e1,e3,e2]
 ·intro ht;rcases hb with ⟨_,y,rfl,hy,rfl⟩|⟨h0,_⟩
  ·rw[e1,e3];have:=aHT (M:= []) (x:=(x.1,y.2)) hA hC (.inl rfl) rfl;rw[dM]at this;rw[this,←hy];simp
  ·rw[ht]at h0;cases h0
 ·intro ht;rcases hb with ⟨h0,_⟩|⟨_,rfl⟩
  ·rw[ht]at h0;cases h0
  ·rw[e1,e3];simp
abbrev qW:List lV:= [([(34665,2),(34853,3)],0,0,1),([],513,514, -1),([(40965,4)],0,0, -1),([],0,0, -1),([],0,0, -1)]
structure oN where
 o:Int
 z:List nC
 p:List nC
 g:List nC
 i:List nC
 f:List nC
 mr:List Int
 th:List Int
def exZ:oN:=⟨0, [], [], [], [], [], [], []⟩
def xX (x:oN):Bool:=qV 0 x.z&&qV 1 x.f&&qV 2 x.p&&qV 3 x.g&&qV 4 x.i
def a3H (x:oN):Nat:=x.z.length+x.p.length+x.g.length+x.i.length+x.mr.length
def kY (x:oN):Int:=
 if x.o=1∨x.o=2 then(if xX x=true then(if x.mr.length≤65536∧0<a3H x then 0 else 6)else 6)else 1
def IE (b:List Int):nC:=(37500,7,(b.length:Int),b)
def nJ (x:oN):List nC:=if 0<x.mr.length then z8 x.p (IE x.mr)else x.p
def rC (f:Nat) (ts:List nC):jD (f+1):=(ts, [], [])
def nP (x:oN):List (Int×jD 14):=if 0<x.i.length then [(40965,rC 13 x.i)]else []
def rD (x:oN):jD 15:=(nJ x,nP x, [])
def xY (x:oN):Bool:=decide (0<x.p.length)||decide (0<x.i.length)||decide (0<x.mr.length)
def nT (x:oN):List (Int×jD 15):=if xY x=true then [(34665,rD x)]else []
def oQ (x:oN):List (Int×jD 15):=if 0<x.g.length then [(34853,rC 14 x.g)]else []
def qP (x:oN):jD 16:=(x.z,nT x++oQ x, [])
def KG (x:oN):jD 16:=(x.f, [],x.th)
def kU (x:oN):List (jD 16):=qP x::(if 0<x.f.length+x.th.length then [KG x]else [])
def IY (x:oN):List Int:=if kY x=0 then aEC 16 x.o (kU x) qW else []
def aB2 (x:oN):Int:=if kY x=0 then mJ 16 x.o (kU x) qW else kY x
def rX:(f:Nat)→jD f→List nC
 |0,_=> []
 |_+1,d=>d.1
def aB3:(f:Nat)→jD f→List Int
 |0,_=> []
 |_+1,d=>d.2.2
def RB (f:Nat):Option (Int×jD f)→List nC
 |some s=>rX f s.2
 |none=> []
def rE:(f:Nat)→jD f→Int→List nC
 |0,_,_=> []
 |f+1,d,t=>RB f (d.2.1.find? (fun s=>s.1==t))
def U1 (f:Nat) (u:Int):Option (Int×jD f)→List nC
 |some s=>rE f s.2 u
 |none=> []
def KH:(f:Nat)→jD f→Int→Int→List nC
 |0,_,_,_=> []
 |f+1,d,t,u=>U1 f u (d.2.1.find? (fun s=>s.1==t))
def rY (f:Nat) (o:Int) (ds:List (jD f)):oN:=
 ⟨o,rX f (ds.getD 0 (jS f)),qL (rE f (ds.getD 0 (jS f)) 34665) 37500,rE f (ds.getD 0 (jS f)) 34853,KH f (ds.getD 0 (jS f)) 34665 40965,rX f (ds.getD 1 (jS f)),(nO (rE f (ds.getD 0 (jS f)) 34665) 37500).2.2.2,aB3 f (ds.getD 1 (jS f))⟩
def uS (q:Bool×Int×Int×List Int):Bool:=q.1&& !decide (q.2.1=7)
def ZP (f:Nat) (o:Int) (ds:List (jD f)):Int:=
 if mJ f o ds qW=0 then(if uS (nO (rE f (ds.getD 0 (jS f)) 34665) 37500)=true then 6 else if kY (rY f o ds)=0 then 0 else 6)else 1
def ofE (f:Nat) (o:Int) (ds:List (jD f)):oN:=if ZP f o ds=0 then rY f o ds else exZ
def qB (w:World) (a:Option Addr) (n c:Nat) (ts:List nC):Prop:=∃zs:List Tz,Tgr w a n c zs∧ts=zs.map mE
theorem qB.mono {w w':World} {a:Option Addr} {n c:Nat} {ts:List nC} (h:qB w a n c ts) (hb:Below w.heap.size w w'):qB w' a n c ts:=by
 obtain⟨zs,h1,h2⟩:=h;exact⟨zs,h1.mono hb,h2⟩
theorem qB.len {w:World} {a:Option Addr} {n c:Nat} {ts:List nC} (h:qB w a n c ts):ts.length=n:=by
 obtain⟨zs,h1,rfl⟩:=h;rw[bX];exact h1.len
theorem FJ (zs:List Tz):zs.map tag=zs.map mE:=rfl
theorem Tgr.tr {w:World} {a:Option Addr} {n c:Nat} {zs:List Tz} (h:Tgr w a n c zs):Tr w a n c zs:=⟨h.row,h.each⟩
theorem qB.ts {w:World} {a:Option Addr} {n c:Nat} {ts:List nC} (h:qB w a n c ts):Ts w a n c ts:=by
 obtain⟨zs,h1,rfl⟩:=h;exact h1.tr.ts
theorem qB.max {w:World} {a:Option Addr} {n c:Nat} {ts:List nC} (h:qB w a n c ts):n≤9223372036854775807:=by
 obtain⟨zs,h1,rfl⟩:=h;exact bK h1.row.le h1.row.max
structure ExA where
 za:Option Addr
 zn:Nat
 zc:Nat
 pa:Option Addr
 pn:Nat
 pc:Nat
 ga:Option Addr
 gn:Nat
 gc:Nat
 ia:Option Addr
 iN:Nat
 ic:Nat
 fa:Option Addr
 fn:Nat
 fc:Nat
 ma:Option Addr
 mn:Nat
 mc:Nat
 ta:Option Addr
 tn:Nat
 tc:Nat
abbrev OI (o:Int) (A:ExA):Array Value:=#[.int .i64 o,.slice A.za A.zn A.zc,.slice A.pa A.pn A.pc,.slice A.ga A.gn A.gc,.slice A.ia A.iN A.ic,.slice A.fa A.fn A.fc,.slice A.ma A.mn A.mc,.slice A.ta A.tn A.tc]
abbrev exV (o:Int) (A:ExA):Value:= .agg (OI o A)
abbrev a6L:ExA:=⟨none,0,0,none,0,0,none,0,0,none,0,0,none,0,0,none,0,0,none,0,0⟩
structure ExR (w:World) (x:oN) (A:ExA):Prop where
 z:qB w A.za A.zn A.zc x.z
 p:qB w A.pa A.pn A.pc x.p
 g:qB w A.ga A.gn A.gc x.g
 i:qB w A.ia A.iN A.ic x.i
 f:qB w A.fa A.fn A.fc x.f
 mr:Sl w A.ma A.mn A.mc 1 (ints .u8 x.mr)
 th:Sl w A.ta A.tn A.tc 1 (ints .u8 x.th)
theorem ExR.mono {w w':World} {x:oN} {A:ExA} (h:ExR w x A) (hb:Below w.heap.size w w'):ExR w' x A:=
 ⟨h.z.mono hb,h.p.mono hb,h.g.mono hb,h.i.mono hb,h.f.mono hb,h.mr.mono hb,h.th.mono hb⟩
theorem qB.nil (w:World):qB w none 0 0 []:=⟨[],⟨Sl.nil _ _,fun z hz=>by cases hz⟩,rfl⟩
theorem ExR.zero (w:World):ExR w exZ a6L:=⟨qB.nil w,qB.nil w,qB.nil w,qB.nil w,qB.nil w,Sl.nil _ _,Sl.nil _ _⟩
structure GY (B:Nat) (w:World) (x:oN) (A:ExA):Prop where
 z:kR K5 B w (.slice A.za A.zn A.zc) x.z
 p:kR K5 B w (.slice A.pa A.pn A.pc) x.p
 g:kR K5 B w (.slice A.ga A.gn A.gc) x.g
 i:kR K5 B w (.slice A.ia A.iN A.ic) x.i
 f:kR K5 B w (.slice A.fa A.fn A.fc) x.f
 mr:w.ownsRow B 5 1 (.slice A.ma A.mn A.mc) A.mn (ints .u8 x.mr)
 th:w.ownsRow B 5 1 (.slice A.ta A.tn A.tc) A.tn (ints .u8 x.th)
theorem slB {W:World} {g:Nat} {T:TypeId} {cs:List Value} {n sz:Nat} (h:jJ W g T cs.toArray) (hl:cs.length=n*sz) (hn:n≤9223372036854775807):Sl W (some ⟨g,0,none⟩) n n sz cs:=
 ⟨hl,aU _,hn,fun i hi=>⟨g,0,rfl,h.lt,fun j v hv=>by
  have:=h.cell (i:=j) (v:=v) (by simpa using hv);rw[eX];exact this⟩,fun h=>by cases h⟩
abbrev bED (g h:Nat):Array Value:=#[.slice (some ⟨g,0,none⟩) 2 2,.int .i64 0,.int .i64 0,.int .i64 1,.slice none 0 0,.int .i64 513,.int .i64 514,.int .i64 (-1),.slice (some ⟨h,0,none⟩) 1 1,.int .i64 0,.int .i64 0,.int .i64 (-1),.slice none 0 0,.int .i64 0,.int .i64 0,.int .i64 (-1),.slice none 0 0,.int .i64 0,.int .i64 0,.int .i64 (-1)]
abbrev b6V (g h:Nat):List VQ:= [((some ⟨g,0,none⟩,2,2),([(34665,2),(34853,3)],0,0,1)),((none,0,0),([],513,514, -1)),((some ⟨h,0,none⟩,1,1),([(40965,4)],0,0, -1)),((none,0,0),([],0,0, -1)),((none,0,0),([],0,0, -1))]
theorem b6W {W:World} {g h k:Nat} (b1:jJ W g 32 #[.int .i64 34665,.int .i64 2,.int .i64 34853,.int .i64 3]) (b2:jJ W h 32 #[.int .i64 40965,.int .i64 4]) (b3:jJ W k 35 (bED g h)):ShR W (some ⟨k,0,none⟩) 5 5 (b6V g h):=by
 refine⟨slB (T:=35) (cs:=fl shc (b6V g h)) b3 rfl (by decide),fun z hz=>?_⟩;simp only[b6V,bQ,eD,or_false]at hz;rcases hz with rfl|rfl|rfl|rfl|rfl
 ·exact slB (T:=32) (cs:=fl lkc [(34665,2),(34853,3)]) b1 rfl (by show 2≤9223372036854775807;decide)
 ·exact Sl.nil _ _
 ·exact slB (T:=32) (cs:=fl lkc [(40965,4)]) b2 rfl (by show 1≤9223372036854775807;decide)
 ·exact Sl.nil _ _
 ·exact Sl.nil _ _
theorem DW (w:World):Calls Tryz.prog 38 #[] w fun e w'=>∃a zs,e= .returned (.slice a 5 5)∧ShR w' a 5 5 zs∧jN zs=qW∧Below w.heap.size w w':=by
 obtain⟨W,hW,b1,b2,b3,hb,s⟩:=yR w 32 #[.int .i64 34665,.int .i64 2,.int .i64 34853,.int .i64 3] 32 #[.int .i64 40965,.int .i64 4] 35 (bED w.heap.size (w.heap.size+1));have hr:=b6W b1 b2 b3;obtain⟨hW',b1',b2',b3',hb',s',hr'⟩:=aK hW b1 b2 b3 hb s hr;clear hW b1 b2 b3 hb s hr;go_enter Tryz.func38,Tryz.ntmps38;go_wp2_with fail
 rw[hW'.o];go_ret;exact⟨_,_,rfl,hr'.o,rfl,hb'.o⟩
theorem aQE (a:Option Addr) (n c:Nat) (l:List Int) (w:World) (hs:Sl w a n c 1 (ints .i64 l)) (h1:1≤n):
  Calls Tryz.prog 120 #[.slice a n c] w fun e w'=>∃m,e= .returned (.int .i64 m)∧m∈l∧(∀x∈l,x≤m)∧Below w.heap.size w w':=by
 have hl:=hs.nV;have hm:=hs.max;have hle:=hs.le;obtain⟨b,o,rfl,hb,hc⟩:=hs.lies 0 (by omega);have hcc:∀i,i<n→w.cell? ⟨b,o+i,none⟩=some (.int .i64 (l.getD i 0)):=fun i hi=>hc i _ (oW (by omega));have c0:=hcc 0 h1;rw[cK]at c0;have e0:decide ((n:Int)<1)=false:=by simp;omega
 have h1i:(1:Int)≤n:=by omega
 have h0i:(0:Int)<n:=by omega
 obtain⟨hs',hl',hc',bNF⟩:=aH hs hl hc hcc;clear hs hl hc hcc;go_enter Tryz.func120,Tryz.ntmps120;go_wp2_with fail
 go_loopw [3,4] (fun mv iv wr=>∃(i:Nat) (m:Int),1≤i∧i≤n∧mv= .int .i64 m∧iv= .int .i64 i∧Hid (m∈l.take i∧∀x∈l.take i,x≤m)∧Hid (Below w.heap.size w wr)) (fun _ iv _=>n - (intOf iv).toNat)
 case atStart=>
  have e:l.take 1= [l.getD 0 0]:=by
   cases l with
   |nil=>have:=hl'.o;simp at this;omega
   |cons x r=>simp
  exact⟨1,l.getD 0 0,by omega,h1,rfl,rfl,aA ⟨by rw[e];exact dD.2 rfl,fun x hx=>by rw[e]at hx;rw[dD.1 hx];exact fP _⟩,aA (aW _ _)⟩
 case round=>
  obtain⟨i,m,hi1,hin,rfl,rfl,hmx,hbr⟩:=hrel;by_cases hi:i<n
  ·have hil:(i:Int)<(n:Int):=by omega
   have hi0:(0:Int)≤(i:Int):=by omega
   have hw1:IntKind.i64.wrap ((i:Int)+1)=i+1:=by rw[aY];omega
   have ci:=late hbr.o hb (bNF.o i hi);have hnx:l.take (i+1)=l.take i++ [l.getD i 0]:=by
    have hlt:i<l.length:=by have:=hl'.o;omega
    rw[fA hlt,aV,aX hlt];rfl
   have a1B:=aA hnx;clear hnx;go_wp2_with fail
   go_roundw
   case rel=>
    refine⟨i+1,max m (l.getD i 0),by omega,by omega,?_,by go_num,aA ⟨?_,fun x hx=>?_⟩,hbr⟩
    ·first|rfl|(congr 1;omega)|simp
    ·rw[a1B.o];by_cases h:m≤l.getD i 0
     ·rw[Int.max_eq_right h];exact List.mem_append_right _ (dD.2 rfl)
     ·rw[Int.max_eq_left (by omega)];exact List.mem_append_left _ hmx.o.1
    ·rw[a1B.o]at hx;rcases bH.1 hx with hx|hx
     ·have:=hmx.o.2 x hx;omega
     ·rw[dD.1 hx];omega
   case measure=>simp[intOf];omega
  ·obtain rfl:i=n:=by omega
   go_wp2_with fail
   go_ret;have hall:=hmx.o;rw[bP (by rw[hl'.o];exact aU _)]at hall;exact⟨m,rfl,hall.1,hall.2,hbr.o⟩
theorem BH (a:Option Addr) (n c:Nat) (l:List Int) (w:World) (hs:Sl w a n c 1 (ints .i64 l)) (h1:1≤n):
  Calls Tryz.prog 59 #[.slice a n c] w fun e w'=>e= .returned (.bool (l.any fun x=>decide (0<x)))∧Below w.heap.size w w':=by
 have hM:=aQE a n c l w hs h1;have hM':=aA hM;clear hM;go_enter Tryz.func59,Tryz.ntmps59;go_wp2_with fail
 refine hM'.o.mono ?_;rintro e w1 ⟨m,rfl,hm1,hm2,hb1⟩;have e1:(l.any fun x=>decide (0<x))=decide (0<m):=by
  rw[eP,List.any_eq_true,decide_eq_true_eq];refine⟨fun⟨x,hx,h⟩=>?_,fun h=>⟨m,hm1,by simpa using h⟩⟩;have:=hm2 x hx;have h:=of_decide_eq_true h;omega
 obtain⟨hb1',G6,VN,e1'⟩:=aH hb1 hm1 hm2 e1;clear hb1 hm1 hm2 e1;go_wp2_with fail
 go_ret;exact⟨by rw[e1'.o];rfl,hb1'.o⟩
theorem U2 (o:Int) (A:ExA) (w:World):
  Calls Tryz.prog 68 #[exV o A] w fun e w'=>e= .returned (.agg #[.int .i64 0,.slice A.za A.zn A.zc,.int .i64 2,.slice A.pa A.pn A.pc,.int .i64 3,.slice A.ga A.gn A.gc,.int .i64 4,.slice A.ia A.iN A.ic,.int .i64 1,.slice A.fa A.fn A.fc])∧Below w.heap.size w w':=by
 obtain⟨za,zn,zc,pa,pn,pc,ga,gn,gc,ia,iN,ic,fa,fn,fc,ma,mn,mc,ta,tn,tc⟩:=A;simp only[exV,OI];obtain⟨W,hW,bE,bR,hb,hsz⟩:=qZ w 61 #[.int .i64 o,.slice za zn zc,.slice pa pn pc,.slice ga gn gc,.slice ia iN ic,.slice fa fn fc,.slice ma mn mc,.slice ta tn tc] 125 #[.int .i64 0,.slice none 0 0,.int .i64 0,.slice none 0 0,.int .i64 0,.slice none 0 0,.int .i64 0,.slice none 0 0,.int .i64 0,.slice none 0 0];have q1:W.cell? ⟨w.heap.size,1,none⟩=some (.slice za zn zc):=bE.cell rfl;have q2:W.cell? ⟨w.heap.size,2,none⟩=some (.slice pa pn pc):=bE.cell rfl;have q3:W.cell? ⟨w.heap.size,3,none⟩=some (.slice ga gn gc):=bE.cell rfl;have q4:W.cell? ⟨w.heap.size,4,none⟩=some (.slice ia iN ic):=bE.cell rfl;have q5:W.cell? ⟨w.heap.size,5,none⟩=some (.slice fa fn fc):=bE.cell rfl;obtain⟨hW',bE',bR',hb',hsz'⟩:=aI hW bE bR hb hsz;clear hW bE bR hb hsz;go_enter Tryz.func68,Tryz.ntmps68;go_upto_region 1 with fail
 rw[hW'.o];go_wp2_with (refine wpList_store_row rfl 125 (.tmp 2) (.tmp 18) rfl (w.heap.size+1) #[.int .i64 0,.slice za zn zc,.int .i64 2,.slice pa pn pc,.int .i64 3,.slice ga gn gc,.int .i64 4,.slice ia iN ic,.int .i64 1,.slice fa fn fc] rfl rfl 125 _ bR'.o (by kernel_rfl) rfl (by kernel_rfl) ?_)
 refine bodyPost_ret (results_cell_row rfl _ _ (w.heap.size+1) 125 #[.int .i64 0,.slice za zn zc,.int .i64 2,.slice pa pn pc,.int .i64 3,.slice ga gn gc,.int .i64 4,.slice ia iN ic,.int .i64 1,.slice fa fn fc] (0,0) _ rfl (bR'.o.row _) Tryz.underlying125 rfl (by kernel_rfl)) rfl ?_;exact⟨rfl,jP hb'.o (dV _ 1) _⟩
theorem Ow.b6T {B B':Nat} {W:World} {z:Tz} (h:Ow B W z) {g n c m:Nat} {xs:List Value} (hr:W.ownsRow B' 74 4 (.slice (some ⟨g,0,none⟩) n c) m xs) (i:Nat) (x:Value):Ow B (W.setCell ⟨g,i,none⟩ x) z:=h.put hr i x
theorem aXQ {zs:List Tz} {i:Nat} {y t k:Int} {a a0:Option Addr} {n c n0 c0:Nat} {d:List Int} (hi:i<zs.length) (h:zs.getD i D5=((y,t,k,a0,n0,c0),d)):
  (zc zs).set (i*4+3) (.slice a n c)=zc (zs.set i ((y,t,k,a,n,c),d)):=by
 refine TU (by decide) ?_;show(zcl (zs.getD i D5)).set 3 _=_
 rw[h];rfl
theorem Ow.len {B:Nat} {W:World} {z:Tz} (h:Ow B W z):z.1.2.2.2.2.1=z.2.length:=by
 have:=h.1;unfold ints at this;rw[bX]at this;omega
theorem To.at_ {B:Nat} {W:World} {a:Option Addr} {n c:Nat} {zs:List Tz} {ts:List nC} (h:To B W a n c zs) (e:zs.map tag=ts):kR K5 B W (.slice a n c) ts:=by
 have hn:=h.len;refine⟨zs,e.symm,⟨by rw[hn];exact h.row,fun _ _ h=>h⟩,fun z hz=>⟨?_,fun _ _ h=>h⟩⟩;have:=h.each z hz;rw[←this.len];exact this
theorem ZQ (a:Option Addr) (n c:Nat) (zs:List Tz) (w:World) (hs:Tr w a n c zs) (hl:n≤1000000) (hd:∀z∈zs,z.1.2.2.2.2.1≤1000000):
  Calls Tryz.prog 58 #[.slice a n c] w fun e w'=>∃a' c' zs',e= .returned (.slice a' n c')∧To w.heap.size w' a' n c' zs'∧zs'.map tag=zs.map tag∧Below w.heap.size w w':=by
 have hzl:=hs.len;have hC:=ZJ a n c zs w hs.row hl;obtain⟨hs',hd',mV,hC'⟩:=aH hs hd hzl hC;clear hs hd hzl hC;go_enter Tryz.func58,Tryz.ntmps58;go_wp2_with fail
 refine hC'.o.mono ?_;rintro e w1 ⟨a5,c5,rfl,ho,hb⟩;obtain⟨ho',hb'⟩:=aF ho hb;clear ho hb;go_wp2;go_loopw [9] (fun iv wr=>∃(i:Nat) (zs':List Tz),i≤n∧iv= .int .i64 i∧zs'.length=n∧Hid (wr.ownsRow w.heap.size 74 4 (.slice a5 n c5) n (zc zs'))∧Hid (∀j,j<i→Ow w.heap.size wr (zs'.getD j D5))∧Hid (∀j,i≤j→zs'.getD j D5=zs.getD j D5)∧Hid (zs'.map tag=zs.map tag)∧Hid (Below w.heap.size w wr)) (fun iv _=>n - (intOf iv).toNat)
 case atStart=>exact⟨0,zs,by omega,rfl,mV.o,ho',aA (fun j hj=>by omega),aA (fun j _=>rfl),aA rfl,hb'⟩
 case round=>
  obtain⟨i,zs',hin,rfl,hlz,hown,hdone,hrest,htag,hbr⟩:=hrel;by_cases hi:i<n
  ·have hil:(i:Int)<(n:Int):=by omega
   have hi0:(0:Int)≤(i:Int):=by omega
   have hw1:IntKind.i64.wrap ((i:Int)+1)=i+1:=by rw[aY];omega
   obtain⟨g,rfl,hBg,bDW,fz,hc⟩:=XE hown.o hi;have hz1:=hrest.o i (aU _);have hrd:=(hs'.o.each _ (CJ (zs:=zs) (i:=i) (by rw[mV.o];exact hi))).mono hbr.o;have hdn:=hd'.o _ (CJ (zs:=zs) (i:=i) (by rw[mV.o];exact hi));obtain⟨⟨⟨y,t,k,xa,xn,xc⟩,d⟩,hz⟩:∃z,zs.getD i D5=z:=⟨_,rfl⟩;rw[hz]at hz1 hrd hdn;have gg:=fun j hj=>KD (zs:=zs') (i:=i) (j:=j) (by omega) hj;rw[hz1]at gg;have f3:=hc _ _ (gg 3 (by omega));simp only[zcl,iL,iM]at f3;clear gg hc;have hD:=hrd;change Sl wr xa xn xc 1 (ints .u8 d)at hD
   change xn≤1000000 at hdn
   obtain⟨hz',hz1',hD',fz'⟩:=aH hz hz1 hD fz;clear hz hz1 hD fz;clear hrd;go_wp2_with fail
   refine(yY xa xn xc d _ hD'.o (by omega)).mono ?_;rintro e w2 ⟨a6,c6,rfl,ho2,hb2⟩;have hown2:=jY hown.o hb2;have ZL:=fun j (hj:j<i)=>jY (hdone.o j hj) hb2;have hbw:=hbr.o.tm hb2;obtain⟨g',hgg,_,bDX,fz2,hc2⟩:=XE hown2 hi;injection hgg with hgg;injection hgg with hgg;subst hgg;have gg:=KD (zs:=zs') (i:=i) (j:=3) (by omega) (by decide);rw[hz1'.o]at gg;have p3:=hc2 _ _ gg;have y3:=fz2 (i*4+3);simp only[zcl,iL,iM]at p3;have ho3:=kK ho2 hbr.o.size;clear ho2 f3 gg hc2 fz2 hb2;obtain⟨OE,a6I,jW,EO⟩:=aH hown2 ZL hbw ho3;clear hown2 ZL hbw ho3
   go_wp2_with fail
   go_roundw
   case rel=>
    refine⟨i+1,zs'.set i ((y,t,k,a6,xn,c6),d),by omega,by go_num,by rw[List.length_set];exact hlz,aA ?_,aA (fun j hj=>?_),aA (fun j hj=>?_),aA ?_,aA ?_⟩
    ·rw[←aXQ (by omega) hz1'.o];exact AJ OE.o _ _
    ·by_cases hji:j=i
     ·subst hji;rw[show(zs'.set j ((y,t,k,a6,xn,c6),d)).getD j D5=((y,t,k,a6,xn,c6),d)from yZ (by omega) _];exact Ow.b6T (show Ow w.heap.size w2 ((y,t,k,a6,xn,c6),d)from EO.o) OE.o _ _
     ·rw[show(zs'.set i ((y,t,k,a6,xn,c6),d)).getD j D5=zs'.getD j D5 from getD_set_ne (fun e=>hji e.symm) _];exact Ow.b6T (a6I.o j (by omega)) OE.o _ _
    ·rw[show(zs'.set i ((y,t,k,a6,xn,c6),d)).getD j D5=zs'.getD j D5 from getD_set_ne (by omega) _];exact hrest.o j (by omega)
    ·rw[←htag.o,List.map_set];apply gH (by simp);intro j h1 h2;by_cases hji:i=j
     ·subst hji;have h3:zs'[i]=((y,t,k,xa,xn,xc),d):=by
       have:=hz1'.o;rwa [aV,aX (by omega)]at this
      simp[h3,tag]
     ·simp[List.getElem_set_ne hji]
    ·exact jW.o.setCell (p:=⟨g,i*4+3,none⟩) hBg _
   case measure=>simp[intOf];omega
  ·obtain rfl:i=n:=by omega
   have hd:decide ((i:Int)<(i:Int))=false:=by simp
   go_wp2;go_ret;refine⟨_,_,zs',rfl,⟨hown.o,fun z hz=>?_⟩,htag.o,hbr.o⟩;obtain⟨j,hj,rfl⟩:=fI hz;have:=hdone.o j (by omega);rwa [aV,aX hj]at this
theorem vJ (a:Option Addr) (n c:Nat) (ts:List nC) (w:World) (hs:qB w a n c ts) (hl:n≤1000000) (hd:∀t∈ts,t.2.2.2.length≤1000000):
  Calls Tryz.prog 58 #[.slice a n c] w fun e w'=>∃a' c',e= .returned (.slice a' n c')∧kR K5 w.heap.size w' (.slice a' n c') ts∧Below w.heap.size w w':=by
 obtain⟨zs,h1,rfl⟩:=hs;refine(ZQ a n c zs w h1.tr hl fun z hz=>?_).mono ?_
 ·have:=(h1.each z hz).nV;have h2:=hd (mE z) (gL hz);have e:(mE z).2.2.2=z.2:=rfl;rw[e]at h2;omega
 ·rintro e w' ⟨a',c',zs',rfl,ho,ht,hb⟩;exact⟨a',c',rfl,ho.at_ ht,hb⟩
theorem aLE (a:Option Addr) (n c:Nat) (b:List Int) (w:World) (hs:Sl w a n c 1 (ints .u8 b)) (hl:n≤1000000):
  Calls Tryz.prog 122 #[.slice a n c] w fun e w'=>∃a' c',e= .returned (.agg #[.int .i64 37500,.int .i64 7,.int .i64 n,.slice a' n c'])∧w'.ownsRow w.heap.size 5 1 (.slice a' n c') n (ints .u8 b)∧Below w.heap.size w w':=by
 have hb:=aD w (.cells #[.int .i64 0,.int .i64 0,.int .i64 0,.slice none 0 0] 74);have bT:=jJ.new w 74 #[.int .i64 0,.int .i64 0,.int .i64 0,.slice none 0 0];obtain⟨W,hW⟩:=aC (w.alloc (.cells #[.int .i64 0,.int .i64 0,.int .i64 0,.slice none 0 0] 74));rw[hW]at hb bT;have hC:=yY a n c b W (hs.mono hb) (by omega);obtain⟨hs',hb',hC',hW',bT'⟩:=aI hs hb hC hW bT;clear hs hb hC hW bT;go_enter Tryz.func122,Tryz.ntmps122;go_upto_region 1 with fail
 rw[hW'.o];go_wp2_with fail
 refine hC'.o.mono ?_;rintro e w1 ⟨a1,c1,rfl,ho,hb1⟩;have bT1:=bT'.o.late hb1;have p0:w1.cell? ⟨w.heap.size,0,none⟩=some (.int .i64 0):=bT1.cell rfl;have p1:w1.cell? ⟨w.heap.size,1,none⟩=some (.int .i64 0):=bT1.cell rfl;have p2:w1.cell? ⟨w.heap.size,2,none⟩=some (.int .i64 0):=bT1.cell rfl;have p3:w1.cell? ⟨w.heap.size,3,none⟩=some (.slice none 0 0):=bT1.cell rfl;have v0:=bT1.frozen 0;have v1:=bT1.frozen 1;have v2:=bT1.frozen 2;have v3:=bT1.frozen 3;have wI:=hb'.o.tm hb1;have hgt:w.heap.size<W.heap.size:=bT'.o.lt;obtain⟨ho',hb1',bNG,qC,NZ⟩:=aI ho hb1 bT1 wI hgt;clear ho hb1 bT1 wI hgt;go_wp2_with fail
 refine bodyPost_ret (results_cell_row rfl _ _ w.heap.size 74 #[.int .i64 37500,.int .i64 7,.int .i64 n,.slice a1 n c1] (0,0) _ rfl (bNG.o.XD _ _ _ _) Tryz.underlying74 rfl (by kernel_rfl)) rfl ?_;refine⟨a1,c1,rfl,?_,?_⟩
 ·refine kK ?_ (iZ NZ.o);exact kQ (kQ (kQ (kQ ho'.o NZ.o _ _) NZ.o _ _) NZ.o _ _) NZ.o _ _
 ·exact BL qC.o (aU _) _ _ _ _
theorem wF {d:Int} {ts:List nC} (h:qV d ts=true):(∀x∈ts,xM x.1=true∧QZ d x.1=false∧II x=true)∧Pw ts:=by
 unfold qV at h;simp only[bF]at h;refine⟨fun x hx=>?_,?_⟩
 ·have:=cZ.1 h.1.1.1 x hx;unfold KC FH at this;simp only[bF,dS,decide_eq_true_eq]at this;obtain⟨⟨⟨⟨⟨⟨_,_⟩,h3⟩,h4⟩,h5⟩,h6⟩,_⟩:=this;refine⟨?_,h5,h6⟩;unfold xM;rw[decide_eq_true h3,decide_eq_true (show x.1<65536 by omega)];rfl
 ·exact GN (fun(x:Tg)=>x.1) (0,0,0, []) ts fun k hk=>OH.1 h.1.1.2 k hk
theorem U3 {d t:Int} (h:QZ d t=false):∀u,QZ d u=true→t≠u:=fun u hu e=>by rw[e,hu]at h;cases h
theorem aB4 (i:Nat) (hi:i=3∨i=4) (t:Int):qQ (qW.getD i jM) t=false:=by
 rcases hi with rfl|rfl <;> rfl
theorem aQF {t:Int} (h:QZ 0 t=false):qQ (qW.getD 0 jM) t=false:=by
 have h1:=U3 h 34665 (by decide+kernel);have h2:=U3 h 34853 (by decide+kernel);show(((34665:Int)==t||((34853:Int)==t||false))||(decide ((0:Int)<0)&&_))=false
 simp;omega
theorem aLF {t:Int} (h:QZ 1 t=false):qQ (qW.getD 1 jM) t=false:=by
 have h1:=U3 h 513 (by decide+kernel);have h2:=U3 h 514 (by decide+kernel);show(false||(decide ((0:Int)<513)&&(decide (t=513)||decide (t=514))))=false
 simp;omega
theorem aLG {t:Int} (h:t≠40965):qQ (qW.getD 2 jM) t=false:=by
 show(((40965:Int)==t||false)||(decide ((0:Int)<0)&&_))=false
 simp;omega
theorem pI {x:oN} (h:kY x=0):(x.o=1∨x.o=2)∧qV 0 x.z=true∧qV 1 x.f=true∧qV 2 x.p=true∧qV 3 x.g=true∧qV 4 x.i=true∧x.mr.length≤65536∧0<a3H x:=by
 unfold kY at h;split at h
 ·rename_i h1;split at h
  ·rename_i h2;split at h
   ·rename_i h3;unfold xX at h2;simp only[bF]at h2;exact⟨h1,h2.1.1.1.1,h2.1.1.1.2,h2.1.1.2,h2.1.2,h2.2,h3⟩
   ·cases h
  ·cases h
 ·cases h
theorem aXR {b:List Int} (h1:0<b.length) (h2:b.length≤65536):II (IE b)=true:=by
 have hk:(kH 7).1=1:=by decide+kernel
 show rM 7 (b.length:Int) b=true
 unfold rM;rw[hk];simp;omega
theorem b6X {ts:List nC} (h:Pw ts) (x:nC):Pw (z8 ts x):=(a6K h x (b:=(nO ts x.1).1) (v:=(nO ts x.1).2) rfl).pw
theorem aXS {ts:List nC} (h:Pw ts) (x:nC):(z8 ts x).length≤ts.length+1:=by
 have k:=a6K h x (b:=(nO ts x.1).1) (v:=(nO ts x.1).2) rfl;cases hb:(nO ts x.1).1 with
 |true=>have:=k.bEA hb;omega
 |false=>have:=k.bEB hb;omega
theorem aB5 {x:oN} (h:kY x=0):(∀t∈nJ x,xM t.1=true∧t.1≠40965∧II t=true)∧Pw (nJ x)∧(nJ x).length≤x.p.length+1∧(x.p.length≤(nJ x).length)∧(0<x.mr.length→0<(nJ x).length):=by
 obtain⟨h1,h2,h3,h4,h5,h6,h7,h8⟩:=pI h;obtain⟨r1,r2⟩:=wF h4;have ro:∀t∈x.p,xM t.1=true∧t.1≠40965∧II t=true:=fun t ht=>⟨(r1 t ht).1,U3 (r1 t ht).2.1 40965 (by decide+kernel),(r1 t ht).2.2⟩;unfold nJ;split
 ·rename_i hm;refine⟨fun t ht=>?_,b6X r2 _,aXS r2 _,?_,fun _=>?_⟩
  ·rcases mem_set ht with rfl|ht
   ·exact⟨rfl,by show(37500:Int)≠40965;decide,aXR hm h7⟩
   ·exact ro t ht
  ·have k:=a6K r2 (IE x.mr) (b:=(nO x.p (IE x.mr).1).1) (v:=(nO x.p (IE x.mr).1).2) rfl;cases hb:(nO x.p (IE x.mr).1).1 with
   |true=>have:=k.bEA hb;omega
   |false=>have:=k.bEB hb;omega
  ·exact List.length_pos_of_mem (aHU (ts:=x.p) (x:=IE x.mr))
 ·rename_i hm;exact⟨ro,r2,by omega,aU _,fun h=>absurd h hm⟩
theorem aQG {α:Type} {x d:α} {j:Nat} (hj:j< [x].length): [x].getD j d=x:=by
 obtain rfl:j=0:=by simpa using hj
 rfl
structure tJ (x:oN):Prop where
 z:x.z.length≤400
 p:x.p.length≤400
 g:x.g.length≤400
 i:x.i.length≤400
 f:x.f.length≤400
 mr:x.mr.length≤100000
 th:x.th.length≤100000
structure a1Q (x:oN):Prop where
 z:∀t∈x.z,mW t.2.2.2
 p:∀t∈x.p,mW t.2.2.2
 g:∀t∈x.g,mW t.2.2.2
 i:∀t∈x.i,mW t.2.2.2
 f:∀t∈x.f,mW t.2.2.2
 mr:mW x.mr
 th:mW x.th
theorem aB6 {x:oN} (h:kY x=0) (hs:tJ x) (hi:0<x.i.length):lQ qW 14 (rC 13 x.i) 4=true:=by
 obtain⟨h1,h2,h3,h4,h5,h6,h7,h8⟩:=pI h;obtain⟨r1,r2⟩:=wF h6;have:=hs.i;exact nS.2 ⟨by show 1≤x.i.length+0+0;omega,by show x.i.length+0+0≤65535;omega,.inl rfl,fun t ht=>⟨(r1 t ht).1,aB4 4 (.inr rfl) _,(r1 t ht).2.2⟩,r2,fun j hj=>(by cases hj),List.Pairwise.nil⟩
theorem aXT {x:oN} (h:kY x=0) (hs:tJ x) (hi:0<x.g.length):lQ qW 15 (rC 14 x.g) 3=true:=by
 obtain⟨h1,h2,h3,h4,h5,h6,h7,h8⟩:=pI h;obtain⟨r1,r2⟩:=wF h5;have:=hs.g;exact nS.2 ⟨by show 1≤x.g.length+0+0;omega,by show x.g.length+0+0≤65535;omega,.inl rfl,fun t ht=>⟨(r1 t ht).1,aB4 3 (.inl rfl) _,(r1 t ht).2.2⟩,r2,fun j hj=>(by cases hj),List.Pairwise.nil⟩
theorem a3I (x:oN):(nP x).length=if 0<x.i.length then 1 else 0:=by unfold nP;split <;> rfl
theorem aLH {x:oN} (h:kY x=0) (hs:tJ x) (hi:xY x=true):lQ qW 15 (rD x) 2=true:=by
 obtain⟨q1,q2,q3,q4,q5⟩:=aB5 h;have hp:=hs.p;have e:mQ (nJ x).length (nP x).length 0=(nJ x).length+(nP x).length:=rfl;have hl:=a3I x;unfold xY at hi;simp only[dG,decide_eq_true_eq]at hi;refine nS.2 ⟨?_,?_,.inl rfl,fun t ht=>⟨(q1 t ht).1,aLG (q1 t ht).2.1,(q1 t ht).2.2⟩,q2,fun j hj=>?_,?_⟩
 ·show 1≤mQ (nJ x).length (nP x).length 0
  rw[e,hl];rcases hi with (hi|hi)|hi
  ·omega
  ·rw[if_pos hi];omega
  ·have:=q5 hi;omega
 ·show mQ (nJ x).length (nP x).length 0≤65535
  rw[e,hl];split <;> omega
 ·show kT (qW.getD 2 jM) ((nP x).getD j (0,jS 14)).1=true∧lQ qW 14 ((nP x).getD j (0,jS 14)).2 (qH (qW.getD 2 jM) ((nP x).getD j (0,jS 14)).1)=true
  have hj:j<(nP x).length:=hj;by_cases h0:0<x.i.length
  ·have ep:nP x= [(40965,rC 13 x.i)]:=if_pos h0;rw[ep]at hj ⊢;rw[aQG hj];show kT (qW.getD 2 jM) 40965=true∧lQ qW 14 (rC 13 x.i) (qH (qW.getD 2 jM) 40965)=true
   exact⟨by decide+kernel,by rw[show qH (qW.getD (2:Nat) jM) 40965=4 by decide+kernel];exact aB6 h hs h0⟩
  ·rw[hl,if_neg h0]at hj;cases hj
 ·show(nP x).Pairwise _
  unfold nP;split
  ·exact List.pairwise_singleton _ _
  ·exact List.Pairwise.nil
theorem RF {x:oN} {s:Int×jD 15} (h:s∈nT x++oQ x):(s=(34665,rD x)∧xY x=true)∨(s=(34853,rC 14 x.g)∧0<x.g.length):=by
 rcases bH.1 h with h|h
 ·unfold nT at h;split at h
  ·rename_i hp;exact .inl ⟨dD.1 h,hp⟩
  ·cases h
 ·unfold oQ at h;split at h
  ·rename_i hp;exact .inr ⟨dD.1 h,hp⟩
  ·cases h
theorem aXU (x:oN):(nT x++oQ x).Pairwise fun a b=>a.1<b.1:=by
 unfold nT oQ;split <;> split <;> simp
theorem RG (x:oN):(nT x++oQ x).length=(if xY x=true then 1 else 0)+(if 0<x.g.length then 1 else 0):=by
 unfold nT oQ;split <;> split <;> rfl
theorem aQH {x:oN} (h:kY x=0) (hs:tJ x):lQ qW 16 (qP x) 0=true:=by
 obtain⟨h1,h2,h3,h4,h5,h6,h7,h8⟩:=pI h;obtain⟨r1,r2⟩:=wF h2;have hz:=hs.z;have hl:=RG x;have e:mQ x.z.length (nT x++oQ x).length 0=x.z.length+(nT x++oQ x).length:=rfl;refine nS.2 ⟨?_,?_,.inl rfl,fun t ht=>⟨(r1 t ht).1,aQF (r1 t ht).2.1,(r1 t ht).2.2⟩,r2,fun j hj=>?_,aXU x⟩
 ·show 1≤mQ x.z.length (nT x++oQ x).length 0
  rw[e,hl];unfold a3H at h8;by_cases hp:xY x=true
  ·rw[if_pos hp];omega
  ·by_cases hg:0<x.g.length
   ·rw[if_pos hg];omega
   ·unfold xY at hp;simp only[dG,decide_eq_true_eq]at hp;omega
 ·show mQ x.z.length (nT x++oQ x).length 0≤65535
  rw[e,hl];split <;> split <;> omega
 ·have hj:j<(nT x++oQ x).length:=hj;show kT (qW.getD 0 jM) ((nT x++oQ x).getD j (0,jS 15)).1=true∧lQ qW 15 ((nT x++oQ x).getD j (0,jS 15)).2 (qH (qW.getD 0 jM) ((nT x++oQ x).getD j (0,jS 15)).1)=true
  have hm:(nT x++oQ x).getD j (0,jS 15)∈nT x++oQ x:=by rw[jI hj];exact bL hj
  rcases RF hm with ⟨e1,hp⟩|⟨e1,hp⟩
  ·rw[e1];show kT (qW.getD 0 jM) 34665=true∧lQ qW 15 (rD x) (qH (qW.getD 0 jM) 34665)=true
   exact⟨by decide+kernel,by rw[show qH (qW.getD (0:Nat) jM) 34665=2 by decide+kernel];exact aLH h hs hp⟩
  ·rw[e1];show kT (qW.getD 0 jM) 34853=true∧lQ qW 15 (rC 14 x.g) (qH (qW.getD 0 jM) 34853)=true
   exact⟨by decide+kernel,by rw[show qH (qW.getD (0:Nat) jM) 34853=3 by decide+kernel];exact aXT h hs hp⟩
theorem aLI {x:oN} (h:kY x=0) (hs:tJ x) (hi:0<x.f.length+x.th.length):lQ qW 16 (KG x) 1=true:=by
 obtain⟨h1,h2,h3,h4,h5,h6,h7,h8⟩:=pI h;obtain⟨r1,r2⟩:=wF h3;have:=hs.f;have e:mQ x.f.length 0 x.th.length=x.f.length+0+(if 0<x.th.length then 2 else 0):=rfl;refine nS.2 ⟨?_,?_,.inr (by decide),fun t ht=>⟨(r1 t ht).1,aLF (r1 t ht).2.1,(r1 t ht).2.2⟩,r2,fun j hj=>(by cases hj),List.Pairwise.nil⟩
 ·show 1≤mQ x.f.length 0 x.th.length
  rw[e];split <;> omega
 ·show mQ x.f.length 0 x.th.length≤65535
  rw[e];split <;> omega
theorem zA {x:oN} (h:kY x=0) (hs:tJ x):(∀d∈kU x,lC 16 d)∧(lX 16 (kU x)).length≤5:=by
 obtain⟨q1,q2,q3,q4,q5⟩:=aB5 h;obtain⟨hz,hp,hg,hi,hf,hm,ht⟩:=hs;have si:lC 14 (rC 13 x.i):=⟨by show x.i.length≤500;omega,by show 0≤1000000;omega,by show 0≤500;omega,fun s hs=>by cases hs⟩;have sg:lC 15 (rC 14 x.g):=⟨by show x.g.length≤500;omega,by show 0≤1000000;omega,by show 0≤500;omega,fun s hs=>by cases hs⟩;have sp:lC 15 (rD x):=by
  have hl:=a3I x;refine⟨by show(nJ x).length≤500;omega,by show 0≤1000000;omega,by show(nP x).length≤500;rw[hl];split <;> omega,fun s hs=>?_⟩;have hs:s∈nP x:=hs;unfold nP at hs;split at hs
  ·rw[dD.1 hs];exact si
  ·cases hs
 have sz:lC 16 (qP x):=by
  have hl:=RG x;refine⟨by show x.z.length≤500;omega,by show 0≤1000000;omega,by show(nT x++oQ x).length≤500;rw[hl];split <;> split <;> omega,fun s hs=>?_⟩;rcases RF hs with ⟨e,_⟩|⟨e,_⟩
  ·rw[e];exact sp
  ·rw[e];exact sg
 have sf:lC 16 (KG x):=⟨by show x.f.length≤500;omega,by show x.th.length≤1000000;omega,by show 0≤500;omega,fun s hs=>by cases hs⟩;have fi:(jT 14 (rC 13 x.i)).length=1:=rfl;have fg:(jT 15 (rC 14 x.g)).length=1:=rfl;have ff:(jT 16 (KG x)).length=1:=rfl;have fp:(jT 15 (rD x)).length≤2:=by
  have e:jT 15 (rD x)=(nJ x,(nP x).length, [])::(nP x).flatMap fun s=>jT 14 s.2:=rfl;rw[e,dF];unfold nP;split
  ·simp[fi]
  ·simp
 have fz:(jT 16 (qP x)).length≤4:=by
  have e:jT 16 (qP x)=(x.z,(nT x++oQ x).length, [])::(nT x++oQ x).flatMap fun s=>jT 15 s.2:=rfl;rw[e,dF,dW,bO];have h1:((nT x).flatMap fun s=>jT 15 s.2).length≤2:=by
   unfold nT;split
   ·simpa using fp
   ·simp
  have h2:((oQ x).flatMap fun s=>jT 15 s.2).length≤1:=by
   unfold oQ;split
   ·simp[fg]
   ·simp
  omega
 unfold kU;split
 ·refine⟨fun d hd=>?_,?_⟩
  ·rcases bQ.1 hd with rfl|hd
   ·exact sz
   ·rw[dD.1 hd];exact sf
  ·unfold lX;rw[dO,bO,List.flatMap_singleton,ff];omega
 ·refine⟨fun d hd=>?_,?_⟩
  ·rw[dD.1 hd];exact sz
  ·unfold lX;rw[List.flatMap_singleton];omega
theorem BI {x:oN} (hb:a1Q x):∀d∈kU x,pU 16 d:=by
 obtain⟨hz,hp,hg,hi,hf,hm,ht⟩:=hb;have hn:mW ([]:List Int):=fun x hx=>by cases hx
 have si:pU 14 (rC 13 x.i):=⟨hi,fun s hs=>(by cases hs),hn⟩;have sg:pU 15 (rC 14 x.g):=⟨hg,fun s hs=>(by cases hs),hn⟩;have sp:pU 15 (rD x):=by
  refine⟨fun t ht=>?_,fun s hs=>?_,hn⟩
  ·have ht:t∈nJ x:=ht;unfold nJ at ht;split at ht
   ·rcases mem_set ht with rfl|ht
    ·exact hm
    ·exact hp t ht
   ·exact hp t ht
  ·have hs:s∈nP x:=hs;unfold nP at hs;split at hs
   ·rw[dD.1 hs];exact si
   ·cases hs
 have sz:pU 16 (qP x):=by
  refine⟨hz,fun s hs=>?_,hn⟩;rcases RF hs with ⟨e,_⟩|⟨e,_⟩
  ·rw[e];exact sp
  ·rw[e];exact sg
 have sf:pU 16 (KG x):=⟨hf,fun s hs=>(by cases hs),ht⟩;intro d hd;unfold kU at hd;rcases bQ.1 hd with rfl|hd
 ·exact sz
 ·split at hd
  ·rw[dD.1 hd];exact sf
  ·cases hd
theorem aXV {f:Nat} {T:List (jD f)} (hs:∀d∈T,lC f d) (h5:(lX f T).length≤5):lS (jV f T)≤1400000000:=by
 have e:lS (mZ [] 1 (-1) 0 8)=8:=rfl;have h:=(vQ f (PN f) (wL f T) (mZ [] 1 (-1) 0 8,0) (fun s hs2=>by
  obtain⟨d,hd,rfl⟩:=cB.1 hs2;exact hs d hd) (by rw[e];decide)).2.1
 rw[AY,e]at h;unfold jV;omega
theorem b6Y:l9 qW=true:=by decide+kernel
theorem GZ:mI qW 0=0∧mI qW 1=1:=by decide+kernel
theorem aHV {L:List lV}:∀(f:Nat) (d:jD f) (i:Int),lQ L f d i=true→∀x∈jT f d,okF x=true
 |0,_,_,h=>by cases h
 |f+1,d,i,h=>by
  have k:=nS.1 h;have e:jT (f+1) d=(d.1,d.2.1.length,d.2.2)::d.2.1.flatMap fun s=>jT f s.2:=rfl;rw[e];intro x hx;rcases bQ.1 hx with rfl|hx
  ·unfold okF;rw[decide_eq_true k.e1,decide_eq_true k.e2];simp only[Bool.and_self,dH];exact cZ.2 fun t ht=>(k.tg t ht).2.2
  ·obtain⟨s,hs,hx⟩:=dK.1 hx;obtain⟨j,hj,e2⟩:=qJ hs (0,jS f);have:=(k.sb j hj).2;rw[e2]at this;exact aHV f s.2 _ this x hx
theorem BJ {x:oN} (h:kY x=0) (hs:tJ x):mJ 16 x.o (kU x) qW=0:=by
 obtain⟨s1,s2⟩:=zA h hs;have h1:=(pI h).1;have hz:=aQH h hs;have hA:hasAll qW 16 (kU x)=true:=by
  unfold hasAll;refine wW fun k hk=>?_;unfold kU at hk ⊢;split at hk
  ·rename_i hp;rw[if_pos hp];have:k=0∨k=1:=by simp at hk;omega
   rcases this with rfl|rfl
   ·rw[GZ.1];exact hz
   ·rw[GZ.2];exact aLI h hs hp
  ·rename_i hp;rw[if_neg hp];obtain rfl:k=0:=by simpa using hk
   rw[GZ.1];exact hz
 have hlen:(kU x).length≤2∧(kU x).length≠0:=by
  unfold kU;split <;> simp
 have hC:chainB qW (kU x).length=true:=by
  unfold chainB;refine wW fun k hk=>?_;have:k=0∨k=1:=by omega
  rcases this with rfl|rfl
  ·rw[GZ.1];rfl
  ·rw[GZ.2];rfl
 have hF:IL 16 (kU x)=true:=by
  unfold IL ER;rw[bF,decide_eq_true_eq];refine⟨cZ.2 fun u hu=>?_,by have:=aXV s1 s2;omega⟩;unfold lX at hu;obtain⟨d,hd,hu⟩:=dK.1 hu;obtain⟨k,hk,e⟩:=qJ hd (jS 16);have:=cZ.1 hA k (bW.2 hk);rw[e]at this;exact aHV 16 d _ this u hu
 have hL:mX 16 (kU x)≠0:=by
  unfold mX;rw[if_pos hF];have:=QK 16 (kU x);omega
 unfold mJ;rw[b6Y,if_pos (by
  simp only[dH,bF,dG,dS,decide_eq_true_eq,decide_eq_false_iff_not];exact⟨h1,hlen.2⟩),if_pos hC,if_pos hA,if_neg hL]
