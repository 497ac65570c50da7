import Derived.ProofKit
import Derived.OpenShut
import Derived.ShutString
import Derived.ChangeOld
import Derived.Below
import Derived.SizedLaws
import Derived.LaidMore
import Derived.LaidLaws
import Derived.Stop.Joined
import Derived.Deep.DeepHandedRow
import Derived.Deep.Matrix
import Derived.Deep.Strs
import Derived.Lib.SmallJoins
import Derived.Test.YtceclmpmpldmlaaGreatCw31
set_option linter.unusedSimpArgs false
set_option linter.unusedVariables false
namespace Tt
open Go Go.RowKit Go.ChangeShapes Go.WideShapes Go.ChangeAt
theorem cell_spot {w:World} {a:Addr} {v:Value} (h:w.cell? a=some v):a=⟨a.block,a.off,none⟩∧a.block<w.heap.size:=by
 refine⟨?_,World.block_lt_of_cell? w a h⟩;obtain⟨b,o,s⟩:=a;cases s with
 |none=>rfl
 |some x=>simp[World.cell?]at h;split at h <;> simp_all
theorem U9 (a:Addr):a.add 0=a:=rfl
theorem b1U (b o n:Nat):(⟨b,o,none⟩:Addr).add n=⟨b,o+n,none⟩:=by
 unfold Addr.add;split
 ·next h=>rw[h,dB]
 ·rfl
theorem Sl.of_cells {w:World} {x:Addr} {n c:Nat} {vs:List Value} (hn:n≤c) (hc:c≤maxLen) (hl:vs.length=c) (h:∀i v,vs[i]? =some v→w.cell? (x.add i)=some v):Sl w (some x) n c 1 (vs.take n):=by
 refine⟨by rw[eX];omega,hn,hc,fun i hi=>?_,fun he=>by cases he⟩;have h0:=h 0 _ (bH (show 0<vs.length by omega));rw[U9]at h0;obtain⟨e,kY⟩:=cell_spot h0;refine⟨x.block,x.off,by rw[←e],kY,fun j v hj=>?_⟩;have hj':vs[j]? =some v:=by
  rw[dM]at hj;split at hj
  ·exact hj
  ·cases hj
 have:=h j v hj';rw[e,b1U]at this;exact this
theorem Sl.b6R {w:World} {k:IntKind} {x:Addr} {n c:Nat} {zs:List Int} (hn:n≤c) (hc:c≤maxLen) (hl:zs.length=c) (h:∀i,i<zs.length→w.cell? (x.add i)=some (.int k (zs.getD i 0))):Sl w (some x) n c 1 (ints k (zs.take n)):=by
 have:=Sl.of_cells (vs:=ints k zs) hn hc (by rw[qO,hl]) (fun i v hv=>by
  have hi:i<zs.length:=by
   have:=(dP.1 hv).1;rwa [qO]at this
  rw[qN hi]at hv;rw[h i hi];exact hv)
 rwa [show(ints k zs).take n=ints k (zs.take n) by simp[ints,j3]]at this
theorem bID {zs:List Int} (h:∀n∈zs,(Lit.int .u8 n).wf=true):pF zs:=fun n hn=>by
 have:=h n hn;simp[Lit.wf,IntKind.min,IntKind.max,IntKind.signed,IntKind.bits]at this;omega
theorem VY {H:Type} {enc:TypeId×Value→H} {P:Program} {W:World} {t e:TypeId} {base:Nat} {spare:Nat→Bool} {held:Bool} {a:Option Addr} {n c fuel:Nat} {x:DataW H×List MemPlace} (ht:P.underlying t=some (.slice e)) (he:P.underlying e=some (.int .u8)) (hc:P.cellsOf e=1)
  (h:DataW.trod enc P W base spare held fuel t (Value.slice a n c).cells.toList=some x) (hs:spare=fun _=>true):∃l,Sl W a n c 1 (ints .u8 l)∧pF l:=by
 subst hs;rcases open_ints ht he hc h with ⟨SV,_⟩|⟨y,l,c',zs,SV,_,hl,hm,hz,_,aOJ,hwz⟩
 ·simp[Value.cells]at SV;obtain⟨rfl,rfl,rfl⟩:=SV;exact⟨[],Sl.nil _ _,fun x hx=>by cases hx⟩
 ·simp[Value.cells]at SV;obtain⟨rfl,rfl,rfl⟩:=SV;exact⟨_,Sl.b6R hl hm (by simpa using hz) aOJ,(bID hwz).take _⟩
section
variable {H:Type} {enc:TypeId×Value→H}
end
end Tt
namespace Go.Proofs.YtceclmpmpldmlaaGreat
open Go.ChangeShapes Go.WideShapes Go.ChangeAt Go.RowKit Go.Deep Tt
theorem c0Z {α:Type} {l:List α} (h:l.length=3):∃a b c,l= [a,b,c]:=by
 match l,h with
 | [a,b,c],_=>exact⟨a,b,c,rfl⟩
theorem c1A {α:Type} {l:List α} (h:l.length=4):∃a b c d,l= [a,b,c,d]:=by
 match l,h with
 | [a,b,c,d],_=>exact⟨a,b,c,d,rfl⟩
theorem I9 (f:Nat→List Value) (hf:∀i,(f i).length=4):∀n,((List.range n).flatMap f).length=n*4
 |0=>rfl
 |n+1=>by
  rw[fZ,dQ,cO,I9 f hf n];simp[hf];omega
theorem a0V (f:Nat→List Value) (hf:∀i,(f i).length=4):∀(n i j:Nat),i<n→j<4→((List.range n).flatMap f)[i*4+j]? =(f i)[j]?
 |n+1,i,j,hi,hj=>by
  rw[fZ,dQ];by_cases h:i<n
  ·rw[fJ (by rw[I9 f hf n];omega)];exact a0V f hf n i j h hj
  ·obtain rfl:i=n:=by omega
   rw[iA (by rw[I9 f hf i];omega),I9 f hf i];simp
section
variable {H:Type} {enc:TypeId×Value→H} {W:World} {base:Nat} {held:Bool}
theorem aI6 {fuel:Nat} {cs:List Value} {x:DataW H×List MemPlace} (h:DataW.trod enc Tryz.prog W base (fun _=>true) held fuel 72 cs=some x):
  ∃(y c:Int) (a:Option Addr) (n p:Nat) (d:List Int),cs= [.int .i64 y,.int .i64 c,.slice a n p]∧Sl W a n p 1 (ints .u8 d)∧pF d:=by
 obtain⟨y0,y1,y2,n,_,hl,h0,h1,h2⟩:=trod_struct3 Tryz.underlying72 h;rw[show Tryz.prog.cellsOf 72=3 by kernel_rfl]at hl;obtain⟨c0,c1,c2,rfl⟩:=c0Z hl
 ·skip
  obtain⟨m0,e0,_,_⟩:=DataW.trod_int Tryz.underlying3 h0;obtain⟨m1,e1,_,_⟩:=DataW.trod_int Tryz.underlying3 h1;have e0':c0= .int .i64 m0:=by
   have e:([c0,c1,c2].drop 0).take (Tryz.prog.cellsOf 3)= [c0]:=by rw[show Tryz.prog.cellsOf 3=1 by kernel_rfl];rfl
   have:=e.symm.trans e0;simpa using this
  have e1':c1= .int .i64 m1:=by
   have e:([c0,c1,c2].drop 1).take (Tryz.prog.cellsOf 3)= [c1]:=by rw[show Tryz.prog.cellsOf 3=1 by kernel_rfl];rfl
   have:=e.symm.trans e1;simpa using this
  have e2:([c0,c1,c2].drop 2).take (Tryz.prog.cellsOf 24)= [c2]:=by rw[show Tryz.prog.cellsOf 24=1 by kernel_rfl];rfl
  have h2':DataW.trod enc Tryz.prog W base (fun _=>true) held n 24 [c2]=some y2:=by rw[←e2];exact h2
  obtain⟨a,l,p,hc⟩:=Go.Joins.slice_form Tryz.underlying24 h2';simp only[iU,and_true]at hc;subst hc;obtain⟨d,hs,hb⟩:=VY Tryz.underlying24 Tryz.underlying5 aF h2' rfl;exact⟨m0,m1,a,l,p,d,by rw[e0',e1'],hs,hb⟩
theorem aS0 {fuel:Nat} {cs:List Value} {x:DataW H×List MemPlace} (h:DataW.trod enc Tryz.prog W base (fun _=>true) held fuel 74 cs=some x):
  ∃(t y c:Int) (a:Option Addr) (n p:Nat) (d:List Int),cs= [.int .i64 t,.int .i64 y,.int .i64 c,.slice a n p]∧(Lit.int .i64 t).wf=true∧Sl W a n p 1 (ints .u8 d)∧pF d:=by
 obtain⟨y0,y1,n,_,hl,h0,h1⟩:=trod_struct2 Tryz.underlying74 h;rw[show Tryz.prog.cellsOf 74=4 by kernel_rfl]at hl;obtain⟨c0,c1,c2,c3,rfl⟩:=c1A hl
 ·skip
  obtain⟨m0,e0,_,hw⟩:=DataW.trod_int Tryz.underlying3 h0;have e0':c0= .int .i64 m0:=by
   have e:([c0,c1,c2,c3].drop 0).take (Tryz.prog.cellsOf 3)= [c0]:=by rw[show Tryz.prog.cellsOf 3=1 by kernel_rfl];rfl
   have:=e.symm.trans e0;simpa using this
  have e1:([c0,c1,c2,c3].drop 1).take (Tryz.prog.cellsOf 72)= [c1,c2,c3]:=by rw[show Tryz.prog.cellsOf 72=3 by kernel_rfl];rfl
  have h1':DataW.trod enc Tryz.prog W base (fun _=>true) held n 72 [c1,c2,c3]=some y1:=by rw[←e1];exact h1
  obtain⟨y,c,a,l,p,d,hc,hs,hb⟩:=aI6 h1';exact⟨m0,y,c,a,l,p,d,by rw[e0',hc],hw,hs,hb⟩
theorem aS1 {fuel:Nat} {a:Option Addr} {n cp:Nat} {x:DataW H×List MemPlace} (h:DataW.trod enc Tryz.prog W base (fun _=>true) held fuel 22 (Value.slice a n cp).cells.toList=some x):
  ∃ts,Ts W a n cp ts∧∀x∈ts,a1R x:=by
 rcases DataW.trod_slice Tryz.underlying22 h with ⟨SV,_⟩|⟨ad,len,cap,elems,rest,m,_,SV,_,hb,hl,hm,xM,hel,_,_⟩
 ·simp[Value.cells]at SV;obtain⟨rfl,rfl,rfl⟩:=SV;exact⟨[],⟨⟨[],Sl.nil _ _,fun i hi=>by omega⟩,rfl⟩,fun x hx=>by cases hx⟩
 ·simp[Value.cells]at SV;obtain⟨rfl,rfl,rfl⟩:=SV;have ck:Tryz.prog.cellsOf 74=4:=by kernel_rfl
  rw[ck]at hel;have each:∀i,i<n→∃(t y c:Int) (a':Option Addr) (n' p':Nat) (d:List Int),(∀j v, [Value.int .i64 t,.int .i64 y,.int .i64 c,.slice a' n' p'][j]? =some v→W.cell? (ad.add (i*4+j))=some v)∧(Lit.int .i64 t).wf=true∧Sl W a' n' p' 1 (ints .u8 d)∧pF d:=fun i hi=>by
   have h1:=hel i hi;rw[bH aG]at h1;obtain⟨cs',hc,ht⟩:=Option.bind_eq_some_iff.1 h1;obtain⟨t,y,c,a',n',p',d,rfl,hw,hs,FJ⟩:=aS0 ht;refine⟨t,y,c,a',n',p',d,fun j v hj=>?_,hw,hs,FJ⟩;obtain⟨_,sI,hcc⟩:=World.cells?_some hc;have hj4:j<4:=by simpa using (dP.1 hj).1
   rw[←hj,←hcc j hj4,Addr.add_add]
  have hex:∀i,∃q:Int×Int×Int×Option Addr×Nat×Nat×List Int,i<n→(∀j v, [Value.int .i64 q.1,.int .i64 q.2.1,.int .i64 q.2.2.1,.slice q.2.2.2.1 q.2.2.2.2.1 q.2.2.2.2.2.1][j]? =some v→W.cell? (ad.add (i*4+j))=some v)∧(Lit.int .i64 q.1).wf=true∧Sl W q.2.2.2.1 q.2.2.2.2.1 q.2.2.2.2.2.1 1 (ints .u8 q.2.2.2.2.2.2)∧pF q.2.2.2.2.2.2:=fun i=>by
   by_cases hi:i<n
   ·obtain⟨t,y,c,a',n',p',d,h1⟩:=each i hi;exact⟨(t,y,c,a',n',p',d),fun _=>h1⟩
   ·exact⟨(0,0,0,none,0,0, []),fun h0=>absurd h0 hi⟩
  obtain⟨q,hq⟩:=Classical.axiomOfChoice hex;refine⟨(List.range n).map fun i=>((q i).1,(q i).2.1,(q i).2.2.1,(q i).2.2.2.2.2.2),⟨⟨(List.range n).flatMap fun i=> [Value.int .i64 (q i).1,.int .i64 (q i).2.1,.int .i64 (q i).2.2.1,.slice (q i).2.2.2.1 (q i).2.2.2.2.1 (q i).2.2.2.2.2.1],?_,?_⟩,by simp⟩,?_⟩
  ·refine⟨I9 _ (fun _=>rfl) n,hl,hm,fun i hi=>?_,fun he=>by cases he⟩;have h0:=(hq 0 aG).1 0 _ rfl;rw[fM,eU,U9]at h0;obtain⟨e,kY⟩:=cell_spot h0;refine⟨ad.block,ad.off,by rw[←e],kY,fun j v hj=>?_⟩;have hjn:j<n*4:=by
    have:=(dP.1 hj).1;rwa [I9 _ (fun _=>rfl)]at this
   have hj2:=a0V (fun i=> [Value.int .i64 (q i).1,.int .i64 (q i).2.1,.int .i64 (q i).2.2.1,.slice (q i).2.2.2.1 (q i).2.2.2.2.1 (q i).2.2.2.2.2.1]) (fun _=>rfl) n (j / 4) (j % 4) aG aG;rw[show j / 4*4+j % 4=j by omega]at hj2;have h1:=(hq (j / 4) aG).1 (j % 4) v (hj2.symm.trans hj);rw[show j / 4*4+j % 4=j by omega]at h1;rw[e,b1U]at h1;exact h1
  ·intro i hi;have g:=fun j hj=>a0V (fun i=> [Value.int .i64 (q i).1,.int .i64 (q i).2.1,.int .i64 (q i).2.2.1,.slice (q i).2.2.2.1 (q i).2.2.2.2.1 (q i).2.2.2.2.2.1]) (fun _=>rfl) n i j hi hj;have aID:((List.range n).map fun i=>((q i).1,(q i).2.1,(q i).2.2.1,(q i).2.2.2.2.2.2)).getD i (0,0,0, [])=((q i).1,(q i).2.1,(q i).2.2.1,(q i).2.2.2.2.2.2):=by
    rw[aZ,jK,List.getElem?_range hi];rfl
   rw[aID];exact⟨(q i).2.2.2.1,(q i).2.2.2.2.1,(q i).2.2.2.2.2.1,by simpa using g 0 aG,by simpa using g 1 aG,by simpa using g 2 aG,by simpa using g 3 aG,(hq i hi).2.2.1⟩
  ·intro x hx;obtain⟨i,hi,rfl⟩:=dH.1 hx;have h1:=hq i (by simpa using hi);exact⟨h1.2.1,h1.2.2.2⟩
end
section
variable {H:Type} {enc:TypeId×Value→H} {W:World} {base:Nat} {held:Bool}
theorem bT5 {α:Type} {l:List α} (h:l.length=8):∃a b c d e f g i,l= [a,b,c,d,e,f,g,i]:=by
 match l,h with
 | [a,b,c,d,e,f,g,i],_=>exact⟨a,b,c,d,e,f,g,i,rfl⟩
theorem M9 {fuel:Nat} {a:Option Addr} {n cp:Nat} {x:DataW H×List MemPlace} (h:DataW.trod enc Tryz.prog W base (fun _=>true) held fuel 22 (Value.slice a n cp).cells.toList=some x):∃ts,tL W a n cp ts∧∀t∈ts,a1R t:=by
 obtain⟨ts,h1,h2⟩:=aS1 h;exact⟨ts,h1.aKS,h2⟩
set_option maxRecDepth 100000 in
theorem aAE {r:Reach} {v:Value} {d:DataW H} {p:List MemPlace} {b0:Nat} (hv:Value.okWide Tryz.prog W r b0 61 v) (h:DataW.Trod enc Tryz.prog W base (fun _=>true) held 61 v d p):
  ∃(x:pX) (A:ExA),v=exV x.o A∧(Lit.int .i64 x.o).wf=true∧ExR W x A∧WfE x∧a09 x:=by
 obtain⟨cs,rfl,tC⟩:=okWide_struct Tryz.underlying61 hv;obtain⟨fuel,hf⟩:=h;rw[show(Value.agg cs).cells.toList=cs.toList from rfl]at hf;obtain⟨xs,n,hfu,_,hl,hxl,lY⟩:=DataW.trod_struct Tryz.underlying61 hf;rw[show Program.cellsOf Tryz.prog 61=8 by kernel_rfl]at hl;obtain⟨c0,c1,c2,c3,c4,c5,c6,c7,SV⟩:=bT5 hl;rw[SV]at lY;have g:∀i,i<8→∃y,xs[i]? =some y:=fun i hi=>⟨xs[i]'(by rw[hxl];exact hi),bH _⟩;have ki:Program.cellsOf Tryz.prog 3=1:=by kernel_rfl
 have kt:Program.cellsOf Tryz.prog 22=1:=by kernel_rfl
 have kb:Program.cellsOf Tryz.prog 24=1:=by kernel_rfl
 have h0:=lY 0 _ rfl;obtain⟨y0,hy0⟩:=g 0 aH;rw[hy0]at h0;have h0':DataW.trod enc Tryz.prog W base (fun _=>true) held n 3 [c0]=some y0:=by
  have e:([c0,c1,c2,c3,c4,c5,c6,c7].drop 0).take (Program.cellsOf Tryz.prog 3)= [c0]:=by rw[ki];rfl
  rw[←e];exact h0
 have h1:=lY 1 _ rfl;obtain⟨y1,hy1⟩:=g 1 aH;rw[hy1]at h1;have h1':DataW.trod enc Tryz.prog W base (fun _=>true) held n 22 [c1]=some y1:=by
  have e:([c0,c1,c2,c3,c4,c5,c6,c7].drop 1).take (Program.cellsOf Tryz.prog 22)= [c1]:=by rw[kt];rfl
  rw[←e];exact h1
 have h2:=lY 2 _ rfl;obtain⟨y2,hy2⟩:=g 2 aH;rw[hy2]at h2;have h2':DataW.trod enc Tryz.prog W base (fun _=>true) held n 22 [c2]=some y2:=by
  have e:([c0,c1,c2,c3,c4,c5,c6,c7].drop 2).take (Program.cellsOf Tryz.prog 22)= [c2]:=by rw[kt];rfl
  rw[←e];exact h2
 have h3:=lY 3 _ rfl;obtain⟨y3,hy3⟩:=g 3 aH;rw[hy3]at h3;have h3':DataW.trod enc Tryz.prog W base (fun _=>true) held n 22 [c3]=some y3:=by
  have e:([c0,c1,c2,c3,c4,c5,c6,c7].drop 3).take (Program.cellsOf Tryz.prog 22)= [c3]:=by rw[kt];rfl
  rw[←e];exact h3
 have h4:=lY 4 _ rfl;obtain⟨y4,hy4⟩:=g 4 aH;rw[hy4]at h4;have h4':DataW.trod enc Tryz.prog W base (fun _=>true) held n 22 [c4]=some y4:=by
  have e:([c0,c1,c2,c3,c4,c5,c6,c7].drop 4).take (Program.cellsOf Tryz.prog 22)= [c4]:=by rw[kt];rfl
  rw[←e];exact h4
 have h5:=lY 5 _ rfl;obtain⟨y5,hy5⟩:=g 5 aH;rw[hy5]at h5;have h5':DataW.trod enc Tryz.prog W base (fun _=>true) held n 22 [c5]=some y5:=by
  have e:([c0,c1,c2,c3,c4,c5,c6,c7].drop 5).take (Program.cellsOf Tryz.prog 22)= [c5]:=by rw[kt];rfl
  rw[←e];exact h5
 have h6:=lY 6 _ rfl;obtain⟨y6,hy6⟩:=g 6 aH;rw[hy6]at h6;have h6':DataW.trod enc Tryz.prog W base (fun _=>true) held n 24 [c6]=some y6:=by
  have e:([c0,c1,c2,c3,c4,c5,c6,c7].drop 6).take (Program.cellsOf Tryz.prog 24)= [c6]:=by rw[kb];rfl
  rw[←e];exact h6
 have h7:=lY 7 _ rfl;obtain⟨y7,hy7⟩:=g 7 aH;rw[hy7]at h7;have h7':DataW.trod enc Tryz.prog W base (fun _=>true) held n 24 [c7]=some y7:=by
  have e:([c0,c1,c2,c3,c4,c5,c6,c7].drop 7).take (Program.cellsOf Tryz.prog 24)= [c7]:=by rw[kb];rfl
  rw[←e];exact h7
 obtain⟨m0,e0,_,hw⟩:=DataW.trod_int Tryz.underlying3 h0';obtain⟨a1,n1,p1,e1⟩:=Go.Joins.slice_form Tryz.underlying22 h1';obtain⟨a2,n2,p2,e2⟩:=Go.Joins.slice_form Tryz.underlying22 h2';obtain⟨a3,n3,p3,e3⟩:=Go.Joins.slice_form Tryz.underlying22 h3';obtain⟨a4,n4,p4,e4⟩:=Go.Joins.slice_form Tryz.underlying22 h4';obtain⟨a5,n5,p5,e5⟩:=Go.Joins.slice_form Tryz.underlying22 h5';obtain⟨a6,n6,p6,e6⟩:=Go.Joins.slice_form Tryz.underlying24 h6';obtain⟨a7,n7,p7,e7⟩:=Go.Joins.slice_form Tryz.underlying24 h7';simp only[iU,and_true]at e0 e1 e2 e3 e4 e5 e6 e7;subst e0 e1 e2 e3 e4 e5 e6 e7;obtain⟨t1,r1,b1⟩:=M9 h1';obtain⟨t2,r2,b2⟩:=M9 h2';obtain⟨t3,r3,b3⟩:=M9 h3';obtain⟨t4,r4,b4⟩:=M9 h4';obtain⟨t5,r5,b5⟩:=M9 h5';obtain⟨t6,r6,b6⟩:=VY Tryz.underlying24 Tryz.underlying5 aF h6' rfl;obtain⟨t7,r7,b7⟩:=VY Tryz.underlying24 Tryz.underlying5 aF h7' rfl;have c1O:cs=#[.int .i64 m0,.slice a1 n1 p1,.slice a2 n2 p2,.slice a3 n3 p3,.slice a4 n4 p4,.slice a5 n5 p5,.slice a6 n6 p6,.slice a7 n7 p7]:=by
  apply Array.toList_inj.1;rw[SV]
 subst c1O;exact⟨⟨m0,t1,t2,t3,t4,t5,t6,t7⟩,⟨a1,n1,p1,a2,n2,p2,a3,n3,p3,a4,n4,p4,a5,n5,p5,a6,n6,p6,a7,n7,p7⟩,rfl,hw,⟨r1,r2,r3,r4,r5,r6,r7⟩,⟨b1,b2,b3,b4,b5⟩,⟨fun t h=>(b1 t h).2,fun t h=>(b2 t h).2,fun t h=>(b3 t h).2,fun t h=>(b4 t h).2,fun t h=>(b5 t h).2,b6,b7⟩⟩
end
