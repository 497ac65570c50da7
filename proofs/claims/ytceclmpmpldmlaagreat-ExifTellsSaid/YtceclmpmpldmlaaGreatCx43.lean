import Derived.Test.YtceclmpmpldmlaaGreatCx42
set_option linter.unusedSimpArgs false
set_option linter.unusedVariables false
namespace Go.Proofs.YtceclmpmpldmlaaGreat
open Go.ChangeShapes Go.WideShapes Go.ChangeAt Go.RowKit Go.Deep Tt
section
variable {H:Type} {enc:TypeId×Value→H} {W:World} {base:Nat} {held:Bool}
theorem bM2 {α:Type} {l:List α} (h:l.length=8):∃a b c d e f g i,l= [a,b,c,d,e,f,g,i]:=by
 match l,h with
 | [a,b,c,d,e,f,g,i],_=>exact⟨a,b,c,d,e,f,g,i,rfl⟩
theorem KG {fuel:Nat} {a:Option Addr} {n cp:Nat} {x:DataW H×List MemPlace} (h:DataW.trod enc Tryz.prog W base (fun _=>true) held fuel 22 (Value.slice a n cp).cells.toList=some x):∃ts,rA W a n cp ts∧∀t∈ts,a6A t:=by
 obtain⟨ts,h1,h2⟩:=aOX h;exact⟨ts,h1.aDN,h2⟩
set_option maxRecDepth 100000 in
theorem a8N {r:Reach} {v:Value} {d:DataW H} {p:List MemPlace} {b0:Nat} (hv:Value.okWide Tryz.prog W r b0 61 v) (h:DataW.Trod enc Tryz.prog W base (fun _=>true) held 61 v d p):
  ∃(x:wP) (A:ExA),v=exV x.o A∧(Lit.int .i64 x.o).wf=true∧ExR W x A∧WfE x∧aDU x:=by
 obtain⟨cs,rfl,rX⟩:=okWide_struct Tryz.underlying61 hv;obtain⟨fuel,hf⟩:=h;rw[show(Value.agg cs).cells.toList=cs.toList from rfl]at hf;obtain⟨xs,n,hfu,_,hl,hxl,kS⟩:=DataW.trod_struct Tryz.underlying61 hf;rw[show Program.cellsOf Tryz.prog 61=8 by kernel_rfl]at hl;obtain⟨c0,c1,c2,c3,c4,c5,c6,c7,PV⟩:=bM2 hl;rw[PV]at kS;have g:∀i,i<8→∃y,xs[i]? =some y:=fun i hi=>⟨xs[i]'(by rw[hxl];exact hi),bI _⟩;have ki:Program.cellsOf Tryz.prog 3=1:=by kernel_rfl
 have kt:Program.cellsOf Tryz.prog 22=1:=by kernel_rfl
 have kb:Program.cellsOf Tryz.prog 24=1:=by kernel_rfl
 have h0:=kS 0 _ rfl;obtain⟨y0,hy0⟩:=g 0 aH;rw[hy0]at h0;have h0':DataW.trod enc Tryz.prog W base (fun _=>true) held n 3 [c0]=some y0:=by
  have e:([c0,c1,c2,c3,c4,c5,c6,c7].drop 0).take (Program.cellsOf Tryz.prog 3)= [c0]:=by rw[ki];rfl
  rw[←e];exact h0
 have h1:=kS 1 _ rfl;obtain⟨y1,hy1⟩:=g 1 aH;rw[hy1]at h1;have h1':DataW.trod enc Tryz.prog W base (fun _=>true) held n 22 [c1]=some y1:=by
  have e:([c0,c1,c2,c3,c4,c5,c6,c7].drop 1).take (Program.cellsOf Tryz.prog 22)= [c1]:=by rw[kt];rfl
  rw[←e];exact h1
 have h2:=kS 2 _ rfl;obtain⟨y2,hy2⟩:=g 2 aH;rw[hy2]at h2;have h2':DataW.trod enc Tryz.prog W base (fun _=>true) held n 22 [c2]=some y2:=by
  have e:([c0,c1,c2,c3,c4,c5,c6,c7].drop 2).take (Program.cellsOf Tryz.prog 22)= [c2]:=by rw[kt];rfl
  rw[←e];exact h2
 have h3:=kS 3 _ rfl;obtain⟨y3,hy3⟩:=g 3 aH;rw[hy3]at h3;have h3':DataW.trod enc Tryz.prog W base (fun _=>true) held n 22 [c3]=some y3:=by
  have e:([c0,c1,c2,c3,c4,c5,c6,c7].drop 3).take (Program.cellsOf Tryz.prog 22)= [c3]:=by rw[kt];rfl
  rw[←e];exact h3
 have h4:=kS 4 _ rfl;obtain⟨y4,hy4⟩:=g 4 aH;rw[hy4]at h4;have h4':DataW.trod enc Tryz.prog W base (fun _=>true) held n 22 [c4]=some y4:=by
  have e:([c0,c1,c2,c3,c4,c5,c6,c7].drop 4).take (Program.cellsOf Tryz.prog 22)= [c4]:=by rw[kt];rfl
  rw[←e];exact h4
 have h5:=kS 5 _ rfl;obtain⟨y5,hy5⟩:=g 5 aH;rw[hy5]at h5;have h5':DataW.trod enc Tryz.prog W base (fun _=>true) held n 22 [c5]=some y5:=by
  have e:([c0,c1,c2,c3,c4,c5,c6,c7].drop 5).take (Program.cellsOf Tryz.prog 22)= [c5]:=by rw[kt];rfl
  rw[←e];exact h5
 have h6:=kS 6 _ rfl;obtain⟨y6,hy6⟩:=g 6 aH;rw[hy6]at h6;have h6':DataW.trod enc Tryz.prog W base (fun _=>true) held n 24 [c6]=some y6:=by
  have e:([c0,c1,c2,c3,c4,c5,c6,c7].drop 6).take (Program.cellsOf Tryz.prog 24)= [c6]:=by rw[kb];rfl
  rw[←e];exact h6
 have h7:=kS 7 _ rfl;obtain⟨y7,hy7⟩:=g 7 aH;rw[hy7]at h7;have h7':DataW.trod enc Tryz.prog W base (fun _=>true) held n 24 [c7]=some y7:=by
  have e:([c0,c1,c2,c3,c4,c5,c6,c7].drop 7).take (Program.cellsOf Tryz.prog 24)= [c7]:=by rw[kb];rfl
  rw[←e];exact h7
 obtain⟨m0,e0,_,hw⟩:=DataW.trod_int Tryz.underlying3 h0';obtain⟨a1,n1,p1,e1⟩:=Go.Joins.slice_form Tryz.underlying22 h1';obtain⟨a2,n2,p2,e2⟩:=Go.Joins.slice_form Tryz.underlying22 h2';obtain⟨a3,n3,p3,e3⟩:=Go.Joins.slice_form Tryz.underlying22 h3';obtain⟨a4,n4,p4,e4⟩:=Go.Joins.slice_form Tryz.underlying22 h4';obtain⟨a5,n5,p5,e5⟩:=Go.Joins.slice_form Tryz.underlying22 h5';obtain⟨a6,n6,p6,e6⟩:=Go.Joins.slice_form Tryz.underlying24 h6';obtain⟨a7,n7,p7,e7⟩:=Go.Joins.slice_form Tryz.underlying24 h7';simp only[iT,and_true]at e0 e1 e2 e3 e4 e5 e6 e7;subst e0 e1 e2 e3 e4 e5 e6 e7;obtain⟨t1,r1,b1⟩:=KG h1';obtain⟨t2,r2,b2⟩:=KG h2';obtain⟨t3,r3,b3⟩:=KG h3';obtain⟨t4,r4,b4⟩:=KG h4';obtain⟨t5,r5,b5⟩:=KG h5';obtain⟨t6,r6,b6⟩:=TP Tryz.underlying24 Tryz.underlying5 aF h6' rfl;obtain⟨t7,r7,b7⟩:=TP Tryz.underlying24 Tryz.underlying5 aF h7' rfl;have bSU:cs=#[.int .i64 m0,.slice a1 n1 p1,.slice a2 n2 p2,.slice a3 n3 p3,.slice a4 n4 p4,.slice a5 n5 p5,.slice a6 n6 p6,.slice a7 n7 p7]:=by
  apply Array.toList_inj.1;rw[PV]
 subst bSU;exact⟨⟨m0,t1,t2,t3,t4,t5,t6,t7⟩,⟨a1,n1,p1,a2,n2,p2,a3,n3,p3,a4,n4,p4,a5,n5,p5,a6,n6,p6,a7,n7,p7⟩,rfl,hw,⟨r1,r2,r3,r4,r5,r6,r7⟩,⟨b1,b2,b3,b4,b5⟩,⟨fun t h=>(b1 t h).2,fun t h=>(b2 t h).2,fun t h=>(b3 t h).2,fun t h=>(b4 t h).2,fun t h=>(b5 t h).2,b6,b7⟩⟩
end
