import Derived.Lib.AppendZeros
import Derived.Lib.AppendZerosOnto
import Derived.Lib.Overlaps
import Derived.Test.YtceclmpmpldmlaaGreatCw00
set_option linter.unusedSimpArgs false
set_option linter.unusedVariables false
set_option maxRecDepth 100000
set_option maxHeartbeats 8000000
namespace Tt
open Go Go.RowKit
section
variable {P:Program}
theorem EQ (w:World) (dT sT ty elem:TypeId) (sz g o dLen dCap:Nat) (a:Addr) (sLen sCap:Nat) (cur:Array Value) (t:TypeId) (cs:List Value)
  (hu:P.underlying dT=some (.slice elem)) (hs:(P.info? elem).map (·.size)=some sz)
  (hg:w.heap[g]? =some (.cells cur t (0,0))) (hn:cs.length=Nat.min sLen dLen*sz)
  (a7U:∀j v,cs[j]? =some v→w.cell? (a.add j)=some v) (JF:o+cs.length≤cur.size) (h1:∀v∈cs,v.oneCell'=true):
  (Builtin.copy_ #[dT,sT] ty #[.slice (some ⟨g,o,none⟩) dLen dCap,.slice (some a) sLen sCap]).run P w=
   .ok (goInt (Nat.min sLen dLen:Nat)) (w.setRow g (splice cur.toList o cs).toArray):=by
 have hl:=run_loadCells_list (P:=P) w a cs a7U;have zN:=run_storeCells_at P g o t cs 0 cur w hg (by simpa using JF) h1;rw[hn]at hl;cases hq:P.info? elem with
 |none=>simp[hq]at hs
 |some i=>
  have hi:i.size=sz:=by simpa [hq] using hs
  simp only[jS]at hl hn ⊢;simp[Builtin.copy_,run_underlying hu,Builtin.lenOf,Builtin.firstCells,Go.sizeOf,typeInfo,hq,hi,hl,zN,jS,splice]
theorem wp_copy_run (w:World) {o:Oper} {a:Act} {K:Act→World→Prop} {Q:Exit→Act→World→Prop} (d s:Operand) (t t':TypeId)
  (ho:o.op= .call {callee:= .builtin .copy,args:=#[d,s],argTypes:=#[t,t']}) (v u:Value) (hd:a.eval d=v) (hs:a.eval s=u) {v':Value} {w':World}
  (hr:(Builtin.copy_ #[t,t'] o.type #[v,u]).run P w= .ok v' w') (h:K (a.put o.dst v') w'):o.wp P a w K Q:=by
 unfold Oper.wp execOp;simp only[ho,resolve,invoke,builtin,gZ,iV,Result.andThen_ok,List.map_toArray,aW,aX,hd,hs,hr];exact h
theorem wpList_copy_run (w:World) {ops:Array Oper} {rest:List Oper} {o:Oper} {a:Act} {Q:Exit→Act→World→Prop} (UA:o.guard=none) (d s:Operand) (t t':TypeId)
  (ho:o.op= .call {callee:= .builtin .copy,args:=#[d,s],argTypes:=#[t,t']}) (v u:Value) (hd:a.eval d=v) (hs:a.eval s=u) {v':Value} {w':World}
  (hr:(Builtin.copy_ #[t,t'] o.type #[v,u]).run P w= .ok v' w') (h:wpList P ops Q rest (a.put o.dst v') w'):wpList P ops Q (o::rest) a w:=
 wpList_plain UA fun _ hK=>wp_copy_run w d s t t' ho v u hd hs hr (hK _ _ h)
theorem TW {ops:Array Oper} {o:Oper} {a:Act} {w:World} {K:Act→World→Prop} {Q:Exit→Act→World→Prop} {E:Prop}
  (hg:o.guard=none) (d x:Operand) (dT sT:TypeId) (hop:o.op=Op.call {callee:=Callee.builtin Builtin.copy,args:=#[d,x],argTypes:=#[dT,sT]})
  (v u:Value) (hd:a.eval d=v) (hx:a.eval x=u) {v':Value} {w':World} (hr:(Builtin.copy_ #[dT,sT] o.type #[v,u]).run P w= .ok v' w') (hK:K (a.put o.dst v') w'):
  if Region.wanted o (yielded ops a.tmps)=true then Oper.wp P o a w K Q else E:=by
 have hw:Region.wanted o (yielded ops a.tmps)=true:=by simp[Region.wanted,hg]
 rw[if_pos hw];exact wp_copy_run w d x dT sT hop v u hd hx hr hK
end
theorem kG.row {w:World} {g:Nat} {T:TypeId} {cs:Array Value} (h:kG w g T cs) (cs':Array Value):kG (w.setRow g cs') g T cs':=setRow_heap w g cs cs' T (0,0) h
theorem GI {w w':World} {g:Nat} (h:w.grownBy w' (some g)) (cs:Array Value):w.grownBy (w'.setRow g cs) (some g):=
 ⟨h.os,h.tape,h.output,by rw[show(w'.setRow g cs).heap.size=w'.heap.size by simp[World.setRow]];exact h.size,fun k hk pQ=>(setRow_other w' g k cs (fun e=>pQ (by rw[e]))).trans (h.block k hk pQ)⟩
theorem a8Y {w w':World} {row:Option Nat} (h:w.grownBy w' row) {g:Nat} (hg:w.heap.size≤g) (cs:Array Value):w.grownBy (w'.setRow g cs) row:=
 ⟨h.os,h.tape,h.output,by rw[show(w'.setRow g cs).heap.size=w'.heap.size by simp[World.setRow]];exact h.size,fun k hk pQ=>(setRow_other w' g k cs aG).trans (h.block k hk pQ)⟩
theorem MF {w w':World} {row:Option Nat} (h:w.grownBy w' row):w.grownBy w'.drew row:=⟨h.os,h.tape,h.output,h.size,h.block⟩
theorem aDE {w w':World} {row:Option Nat} (h:w.grownBy w' row) (o:Obj):w.grownBy (w'.alloc o) row:=
 ⟨h.os,h.tape,h.output,by simp;have:=h.size;omega,fun k hk pQ=>(wR w' o (by have:=h.size;omega)).trans (h.block k hk pQ)⟩
theorem a8Z {w:World} {B:Nat} {E:TypeId} {sz:Nat} {a:Option Addr} {n c m:Nat} {xs:List Value} (h:w.ownsRow B E sz (.slice a n c) m xs) (hn:0<n):
  ∃g cur,a=some ⟨g,0,none⟩∧B≤g∧kG w g E cur∧n≤c∧c≤maxLen∧cur.size=c*sz∧cur.toList.take (n*sz)=xs∧m=n:=by
 obtain⟨_,hm⟩:=Sl.kZ h;subst hm;rcases h.2 with ⟨hv,_⟩|⟨g,cap,cur,hv,hB,hg,h1,h2,h3,h4⟩
 ·injection hv with h1 h2 h3;omega
 ·injection hv with e1 e2 e3
  subst e1 e3;exact⟨g,cur,rfl,hB,hg,h1,h2,h3,h4,rfl⟩
theorem GJ {w:World} {B g:Nat} {E:TypeId} {sz n c:Nat} {cur:Array Value} {xs:List Value} (hb:kG w g E cur) (hB:B≤g) (hn:n≤c) (hc:c≤maxLen) (hs:cur.size=c*sz) (ht:cur.toList.take (n*sz)=xs):w.ownsRow B E sz (.slice (some ⟨g,0,none⟩) n c) n xs:=by
 refine⟨?_,.inr ⟨g,c,cur,rfl,hB,hb,hn,hc,hs,ht⟩⟩;rw[←ht,eX,dG,hs];have:=iW sz hn;omega
theorem aDF {L cs:List Value} {k m:Nat} (hm:m=k+cs.length) (hL:m≤L.length):(splice L k cs).take m=L.take k++cs:=by
 unfold splice;rw[←dJ,dV (by simp;omega),bW (by simp;omega)]
section
variable {P:Program} {T E:TypeId} {sz:Nat} (ht:P.underlying T=some (.slice E)) (hE:∀w,(Go.sizeOf E).run P w= .ok sz w)
include ht hE
theorem DV (g o n c l:Nat) (l':Int) (FX:l'=l) (h1:l≤n) (hnc:n≤c) (hc:l<c):∀W,(Instr.sliceAt T (.slice (some ⟨g,o,none⟩) n c) (some (.int .i64 l')) none none).run P W= .ok (.slice (some ⟨g,o+l*sz,none⟩) (n - l) (c - l)) W:=by
 have he:P.elem T=E:=by unfold Program.elem;rw[ht]
 intro W;rw[run_sliceAt_slice (h:=by rw[he];exact ht),run_slice_l (ht:=by rw[he];exact ht) (h0:=by omega) (h1:=by omega),he,hE];have e:l'.toNat=l:=by omega
 simp only[Result.andThen,sliced,e];rw[if_neg aG];simp[fF]
theorem UI (g o n c hi:Nat) (vN:Int) (hh':vN=hi) (h2:hi≤c):∀W,(Instr.sliceAt T (.slice (some ⟨g,o,none⟩) n c) none (some (.int .i64 vN)) none).run P W= .ok (.slice (some ⟨g,o,none⟩) hi c) W:=by
 have he:P.elem T=E:=by unfold Program.elem;rw[ht]
 intro W;rw[run_sliceAt_slice (h:=by rw[he];exact ht),run_slice_h (ht:=by rw[he];exact ht) (h0:=by omega) (h2:=by omega),he,hE];have e:vN.toNat=hi:=by omega
 simp only[Result.andThen,sliced,e,fM,Nat.sub_zero];split <;> simp[fF]
end
theorem aIK {α:Type} {L D E:List α} {k e d:Nat} (hE:E.length=e) (hD:D.length=d) (hL:k+e+d≤L.length):(splice (splice L (k+e) D) k E).take (k+e+d)=L.take k++E++D:=by
 unfold splice;have h1:((L.take (k+e)++(D++L.drop (k+e+D.length))).take k)=L.take k:=by
  rw[dV (by simp;omega),jA,iJ aG]
 have h2:((L.take (k+e)++(D++L.drop (k+e+D.length))).drop (k+E.length))=D++L.drop (k+e+D.length):=by
  rw[List.drop_append_of_le_length (by simp;omega),iB (by simp;omega),fG]
 rw[h1,h2,←dJ,←dJ,dV (by simp;omega),bW (by simp;omega)]
theorem aDG {α:Type} {L D E:List α} {k e d:Nat} (hE:E.length=e) (hD:D.length=d) (hL:k+e+d≤L.length):(splice (splice L k E) (k+e) D).take (k+e+d)=L.take k++E++D:=by
 unfold splice;have h1:((L.take k++(E++L.drop (k+E.length))).take (k+e))=L.take k++E:=by
  rw[←dJ,dV (by simp;omega),bW (by simp;omega)]
 rw[h1,←dJ,dV (by simp;omega),bW (by simp;omega)]
end Tt
namespace Go.Proofs.YtceclmpmpldmlaaGreat
open Go.RowKit Tt
theorem bIX:(Tryz.prog.info? 74).map (fun i=>(i.size,i.bytes))=some (4,48):=by kernel_rfl
theorem bBI:(Tryz.prog.info? 74).map (fun i=>i.zero.map (fun z=>z.cells.size))=some (some 4):=by kernel_rfl
theorem OU:∃(i:TypeInfo) (z:Value),Tryz.prog.info? 74=some i∧i.zero=some z∧i.size=4∧i.bytes=48∧z.cells.size=4:=by
 have h1:=bIX;have h2:=bBI;revert h1 h2
 cases Tryz.prog.info? 74 with
 |none=>intro h1 _;cases h1
 |some i=>
  intro h1 h2;simp only[gM,fQ,iF]at h1 h2;cases hz:i.zero with
  |none=>rw[hz]at h2;cases h2
  |some z=>rw[hz]at h2;simp only[gM,fQ]at h2;exact⟨i,z,rfl,hz,h1.1,h1.2,h2⟩
theorem JS:∀w,(Go.sizeOf 74).run Tryz.prog w= .ok 4 w:=fun w=>by kernel_rfl
theorem aAI:(Tryz.prog.info? 74).map (·.size)=some 4:=by kernel_rfl
theorem aIL (B:Nat) (a:Option Addr) (n c:Nat) (cs:List Value) (i g':Nat) (ec:Array Value) (w:World) (mK:w.ownsRow B 74 4 (.slice a n c) n cs) (hB:B≤w.heap.size) (hi:i≤n) (hl:n≤1000000)
  (hv:kG w g' 74 ec) (hvl:ec.size=4) (pQ:(Value.slice a n c).ownBlock≠some g') (h1c:∀v∈cs,v.oneCell'=true) (h1v:∀v∈ec.toList,v.oneCell'=true):
  Calls Tryz.prog 171 #[.slice a n c,.int .i64 i,.slice (some ⟨g',0,none⟩) 1 1] w fun e w'=>∃a' c',e= .returned (.slice a' (n+1) c')∧
   w'.ownsRow B 74 4 (.slice a' (n+1) c') (n+1) (cs.take (i*4)++ec.toList++cs.drop (i*4))∧w.grownBy w' (Value.slice a n c).ownBlock:=by
 obtain⟨i0,z0,AY,hz,qC,wY,ZA⟩:=OU;have hS:=(Sl.kZ mK).1;have sI:=hS.len;have FI:=hS.le;have UC:=hS.max;obtain⟨a1,bTY,_,_⟩:=aMF (P:=Tryz.prog) Tryz.underlying22 JS hS (i:Int) aG aG (n - i) (c - i) aG aG;have hvS:Sl w (some ⟨g',0,none⟩) 1 1 4 ec.toList:=⟨by rw[dG,hvl],aY _,by omega,fun k _=>⟨g',0,rfl,hv.lt,fun j v hj=>by rw[eU];exact hv.cell (by rw[←hj];simp)⟩,fun h=>by cases h⟩;by_cases CY:i=n
 ·subst CY;have d1:((i:Int)==(i:Int))=true:=by simp
  obtain⟨xQ,hS',OB,bTZ,GA,YZ,bIE⟩:=aO mK hS sI hvS hv pQ h1c;clear mK hS sI hvS hv pQ h1c;go_enter Tryz.func171,Tryz.ntmps171;go_wp2_with (at_builtin;refine qD rfl _ _ 22 rfl B 74 i0 z0 4 48 Tryz.underlying22 AY hz qC wY ZA aH _ i _ rfl xQ.o _ 1 1 _ rfl bTZ.o h1v aG aH hB ?_;intro a5 c5 w5 ob nV qA;obtain⟨Ob,Hg5⟩:=aJ ob qA;clear ob nV qA)
  go_ret;exact⟨_,_,rfl,by rw[bW (by rw[OB.o];exact aY _),iB (by rw[OB.o];exact aY _),dU];exact Ob.o,Hg5.o⟩
 ·have d1:((i:Int)==(n:Int))=false:=by simp;omega
  have d1':(i==n)=false:=by simp;omega
  obtain⟨g,cur,rfl,hBg,rE,_,hcm,SV,NV,_⟩:=a8Z mK aG;have aSC:g≠g':=fun e=>pQ (by rw[←e];rfl);have xR:IntKind.i64.wrap ((n:Int)+1)=n+1:=by rw[bJ];omega
  have hw2:IntKind.i64.wrap ((i:Int)+1)=i+1:=by rw[bJ];omega
  have xE:IntKind.i64.wrap ((n:Int)+1 - i)=n+1 - i:=by rw[bJ];omega
  have hci:¬(c=i):=by omega
  have hn4:(n:Nat)*4≤cur.size:=by rw[SV];exact iW _ FI
  have a7U:∀j v,(cs.drop (i*4))[j]? =some v→w.cell? ⟨g,i*4+j,none⟩=some v:=fun j v hj=>by
   rw[eY,←NV,dM]at hj;split at hj
   ·exact rE.cell (by rw[←hj];simp)
   ·cases hj
  have h1d:∀v∈cs.drop (i*4),v.oneCell'=true:=fun v hv=>h1c v (gT hv);have wG:(cs.drop (i*4)).length=(n - i)*4:=by rw[gF,sI,Nat.sub_mul]
  by_cases JF:n+1≤c
  ·have d2:decide ((c:Int)<(n:Int)+1)=false:=by simp;omega
   have d2':decide (c<n+1)=false:=by simp;omega
   have c60:=UI (P:=Tryz.prog) Tryz.underlying22 JS g 0 n c (n+1) ((n:Int)+1) aG JF;have c66:=DV (P:=Tryz.prog) Tryz.underlying22 JS g 0 (n+1) c (i+1) ((i:Int)+1) aG aG JF aG;have c75:=DV (P:=Tryz.prog) Tryz.underlying22 JS g 0 (n+1) c i (i:Int) rfl aG JF aG;rw[eU]at c66 c75;rw[show n+1 - (i+1)=n - i by omega]at c66;have hov:(callFunc 232 #[.slice (some ⟨g',0,none⟩) 1 1,.slice (some ⟨g,(i+1)*4,none⟩) (n - i) (c - (i+1))]).run Tryz.prog w= .ok (.value (.bool false)) w:=by
    rw[run_callFunc_extern Tryz.func232 aF aF aF (e:=Extern.SlicesOverlaps.overlaps #[22,22] #[4]) aF,
     Lib.run_overlaps_apart w 22 4 74 Tryz.underlying22 4 JS ⟨g',0,none⟩ ⟨g,(i+1)*4,none⟩ 1 1 (n - i) (c - (i+1)) (Ne.symm aSC) 74 74 ec.size cur.size (by unfold World.shape?;rw[hv]) (by unfold World.shape?;rw[rE]) aG (hv.frozen 0) (hv.frozen _)]
    rfl
   have aM5:∀ty,(Builtin.copy_ #[22,22] ty #[.slice (some ⟨g,(i+1)*4,none⟩) (n - i) (c - (i+1)),.slice (some ⟨g,i*4,none⟩) (n+1 - i) (c - i)]).run Tryz.prog w.drew= .ok (goInt (Nat.min (n+1 - i) (n - i):Nat)) (w.drew.setRow g (splice cur.toList ((i+1)*4) (cs.drop (i*4))).toArray):=fun ty=>
    EQ w.drew _ _ ty 74 4 g ((i+1)*4) (n - i) _ ⟨g,i*4,none⟩ (n+1 - i) _ cur 74 (cs.drop (i*4)) Tryz.underlying22 aAI rE (by rw[wG];congr 1;simp only[jS];split <;> omega) (fun j v hj=>by rw[fF];exact a7U j v hj) (by rw[wG];omega) h1d
   obtain⟨AR,ER⟩:∃AR,(splice cur.toList ((i+1)*4) (cs.drop (i*4))).toArray=AR:=⟨_,rfl⟩;rw[ER]at aM5;have OV:AR.size=cur.size:=by rw[←ER];simp only[fD];rw[length_splice _ _ _ (by rw[wG,dG];omega),dG]
   obtain⟨W1,vS⟩:=aC (w.drew.setRow g AR);rw[vS]at aM5;have kV:kG W1 g 74 AR:=by rw[←vS];exact kG.row (w:=w.drew) rE AR
   have b1V:∀ty,(Builtin.copy_ #[22,22] ty #[.slice (some ⟨g,i*4,none⟩) (n+1 - i) (c - i),.slice (some ⟨g',0,none⟩) 1 1]).run Tryz.prog W1= .ok (goInt (Nat.min 1 (n+1 - i):Nat)) (W1.setRow g (splice AR.toList (i*4) ec.toList).toArray):=fun ty=>
    EQ W1 _ _ ty 74 4 g (i*4) (n+1 - i) _ ⟨g',0,none⟩ 1 _ AR 74 ec.toList Tryz.underlying22 aAI kV (by rw[dG,hvl];simp only[jS];split <;> omega) (fun j v hj=>by rw[fF,eU,←vS,cell_setRow_other _ _ _ _ (by exact Ne.symm aSC)];exact hv.cell (by rw[←hj];simp)) (by rw[dG,hvl,OV];omega) h1v
   obtain⟨OW,ES⟩:∃OW,(splice AR.toList (i*4) ec.toList).toArray=OW:=⟨_,rfl⟩;rw[ES]at b1V;have aI7:(W1.setRow g OW).ownsRow B 74 4 (.slice (some ⟨g,0,none⟩) (n+1) c) (n+1) (cs.take (i*4)++ec.toList++cs.drop (i*4)):=by
    refine GJ (kG.row kV OW) hBg JF hcm ?_ ?_
    ·rw[←ES];simp only[fD];rw[length_splice _ _ _ (by rw[dG,dG,hvl,OV];omega),dG,OV,SV]
    ·rw[←ES,←ER];simp only[j5];have:=aIK (L:=cur.toList) (D:=cs.drop (i*4)) (E:=ec.toList) (k:=i*4) (e:=4) (d:=(n - i)*4) (by rw[dG,hvl]) wG (by rw[dG];omega);rw[show i*4+4=(i+1)*4 by omega,show(i+1)*4+(n - i)*4=(n+1)*4 by omega]at this;rw[this];congr 2
     rw[←NV,jA,iJ aG]
   have hgr:w.grownBy (W1.setRow g OW) (some g):=by rw[←vS];exact GI (GI (MF (World.grownBy.refl _ _)) _) _
   obtain⟨xQ,hS',OB,GA,YZ,bIE,RL,bTA,bIY,bBB,bIZ,GK⟩:=aT mK hS sI hv pQ h1c rE SV NV a7U h1d wG;obtain⟨aSD,b6Z,lZ,aSE,aDH,TG,bU0⟩:=aO ER OV kV ES aI7 hgr h1v;clear mK hS sI hv pQ h1c rE SV NV a7U h1d wG ER OV kV ES aI7 hgr h1v;clear hvS hn4 hci;go_enter Tryz.func171,Tryz.ntmps171;go_wp2_with (simp only[hov])
   go_region_law (refine TW rfl (.tmp 73) (.tmp 76) 22 22 rfl _ _ (by simp[Act.eval,Act.put]) (by simp[Act.eval,Act.put]) (aM5 _) ?_)
   go_wp2_with (refine wpList_copy_run _ rfl (.tmp 80) (.tmp 81) 22 22 rfl _ _ rfl rfl (b1V _) ?_)
   go_ret;exact⟨_,_,rfl,aDH.o,TG.o⟩
  ·have d2:decide ((c:Int)<(n:Int)+1)=true:=by simp;omega
   have d2':decide (c<n+1)=true:=by simp;omega
   have c34:=UI (P:=Tryz.prog) Tryz.underlying22 JS g 0 n c i (i:Int) rfl aG;have c53:=DV (P:=Tryz.prog) Tryz.underlying22 JS g 0 n c i (i:Int) rfl aG FI aG;rw[eU]at c53;have hti:(cs.take (i*4)).length=i*4:=by rw[eX,sI];omega
   have aI8:(Builtin.firstCells i0.size i (.slice (some ⟨g,0,none⟩) i c)).run Tryz.prog w.drew= .ok (cs.take (i*4)).toArray w.drew:=run_firstCells_some (P:=Tryz.prog) w.drew i0.size i ⟨g,0,none⟩ i c (cs.take (i*4)) (by rw[hti,qC]) (fun j v hj=>by
    rw[fF,eU];rw[dM]at hj;split at hj
    ·rw[←NV,dM]at hj;split at hj
     ·exact(rE.cell (i:=j) (by rw[←hj];simp):w.cell? _=_)
     ·cases hj
    ·cases hj)
   have hap:=Lib.run_append_grow_zeros (P:=Tryz.prog) w 22 3 22 74 i0 z0 .i64 .i64 Tryz.underlying22 Tryz.underlying3 AY hz (some ⟨g,0,none⟩) i c (cs.take (i*4)) aI8 (n+1 - i) aG aG aG aG (by rw[wY];omega) (by rw[wY];exact growslice_fits aG aG);rw[show i+(n+1 - i)=n+1 by omega]at hap;have hkc:((n+1 - i:Nat):Int)=(n:Int)+1 - i:=by omega
   rw[hkc]at hap;obtain⟨cp,hcp⟩:=aC (grownCap w (n+1) c 74);have hge:=grownCap_ge w (n+1) c 74;have bJ0:=grownCap_le_maxLen w (n+1) c 74 (by unfold maxLen;omega);rw[hcp]at hap hge bJ0;obtain⟨CU,hCU⟩:∃CU,(cs.take (i*4)).toArray++Builtin.zeroCells z0.cells (n+1 - i)++Builtin.zeroCells z0.cells (cp - (n+1))=CU:=⟨_,rfl⟩;rw[hCU]at hap;have aON:CU.size=cp*4:=by
    rw[←hCU];simp only[Array.size_append,fD,size_zeroCells,hti,ZA];omega
   have bBJ:CU.toList.take (i*4)=cs.take (i*4):=by
    rw[←hCU];simp only[Array.toList_append,j5,dJ];rw[dV (by rw[hti];exact aY _),bW (by rw[hti];exact aY _)]
   obtain⟨N,hN⟩:=aC w.heap.size;obtain⟨W1,vS⟩:=aC (w.drew.alloc (.cells CU 74));have hgN:g≠N:=by have:=rE.lt;omega
   have c3Y:g'≠N:=by have:=hv.lt;omega
   have kV:kG W1 N 74 CU:=by rw[←vS,←hN];exact nS w.drew _
   have bBK:kG W1 g 74 cur:=by rw[←vS];exact(wR w.drew _ rE.lt).trans rE
   have bBL:kG W1 g' 74 ec:=by rw[←vS];exact(wR w.drew _ hv.lt).trans hv
   rw[hN,vS]at hap;have c43:=DV (P:=Tryz.prog) Tryz.underlying22 JS N 0 (n+1) cp i (i:Int) rfl aG hge aG;have c50:=DV (P:=Tryz.prog) Tryz.underlying22 JS N 0 (n+1) cp (i+1) ((i:Int)+1) aG aG hge aG;rw[eU]at c43 c50;rw[show n+1 - (i+1)=n - i by omega]at c50;have aM5:∀ty,(Builtin.copy_ #[22,22] ty #[.slice (some ⟨N,i*4,none⟩) (n+1 - i) (cp - i),.slice (some ⟨g',0,none⟩) 1 1]).run Tryz.prog W1= .ok (goInt (Nat.min 1 (n+1 - i):Nat)) (W1.setRow N (splice CU.toList (i*4) ec.toList).toArray):=fun ty=>
    EQ W1 _ _ ty 74 4 N (i*4) (n+1 - i) _ ⟨g',0,none⟩ 1 _ CU 74 ec.toList Tryz.underlying22 aAI kV (by rw[dG,hvl];simp only[jS];split <;> omega) (fun j v hj=>by rw[fF,eU];exact bBL.cell (by rw[←hj];simp)) (by rw[dG,hvl,aON];omega) h1v
   obtain⟨AR,ER⟩:∃AR,(splice CU.toList (i*4) ec.toList).toArray=AR:=⟨_,rfl⟩;rw[ER]at aM5;have OV:AR.size=cp*4:=by rw[←ER];simp only[fD];rw[length_splice _ _ _ (by rw[dG,dG,hvl,aON];omega),dG,aON]
   obtain⟨W2,hW2⟩:=aC (W1.setRow N AR);rw[hW2]at aM5;have kP:kG W2 N 74 AR:=by rw[←hW2];exact kG.row kV AR
   have bBM:kG W2 g 74 cur:=by rw[←hW2];exact(setRow_other _ _ _ _ hgN).trans bBK
   have b1V:∀ty,(Builtin.copy_ #[22,22] ty #[.slice (some ⟨N,(i+1)*4,none⟩) (n - i) (cp - (i+1)),.slice (some ⟨g,i*4,none⟩) (n - i) (c - i)]).run Tryz.prog W2.drew= .ok (goInt (Nat.min (n - i) (n - i):Nat)) (W2.drew.setRow N (splice AR.toList ((i+1)*4) (cs.drop (i*4))).toArray):=fun ty=>
    EQ W2.drew _ _ ty 74 4 N ((i+1)*4) (n - i) _ ⟨g,i*4,none⟩ (n - i) _ AR 74 (cs.drop (i*4)) Tryz.underlying22 aAI kP (by rw[wG];congr 1;simp only[jS];split <;> omega) (fun j v hj=>by
     rw[fF];have hj2:=hj;rw[eY,←NV,dM]at hj2;split at hj2
     ·exact(bBM.cell (i:=i*4+j) (by rw[←hj2];simp):W2.cell? _=_)
     ·cases hj2) (by rw[wG,OV];omega) h1d
   obtain⟨OW,ES⟩:∃OW,(splice AR.toList ((i+1)*4) (cs.drop (i*4))).toArray=OW:=⟨_,rfl⟩;rw[ES]at b1V;have aI7:(W2.drew.setRow N OW).ownsRow B 74 4 (.slice (some ⟨N,0,none⟩) (n+1) cp) (n+1) (cs.take (i*4)++ec.toList++cs.drop (i*4)):=by
    refine GJ (kG.row (w:=W2.drew) kP OW) aG hge bJ0 ?_ ?_
    ·rw[←ES];simp only[fD];rw[length_splice _ _ _ (by rw[wG,dG,OV];omega),dG,OV]
    ·rw[←ES,←ER];simp only[j5];have:=aDG (L:=CU.toList) (D:=cs.drop (i*4)) (E:=ec.toList) (k:=i*4) (e:=4) (d:=(n - i)*4) (by rw[dG,hvl]) wG (by rw[dG,aON];omega);rw[show i*4+4=(i+1)*4 by omega,show(i+1)*4+(n - i)*4=(n+1)*4 by omega]at this;rw[this,bBJ]
   have hgr:w.grownBy (W2.drew.setRow N OW) (some g):=by
    rw[←hW2,←vS];exact a8Y (MF (a8Y (aDE (MF (World.grownBy.refl _ _)) _) aG _)) aG _
   obtain⟨xQ,hS',OB,GA,YZ,bIE,RL,bTA,bIY,bBB,bIZ,GK⟩:=aT mK hS sI hv pQ h1c rE SV NV a7U h1d wG;obtain⟨aSD,b6Z,lZ,aSE,aDH,TG,bU0,hN',pG,c1P,c1Q,c1R⟩:=aT ER OV kV ES aI7 hgr h1v hN kP bBM bBK bBL;obtain⟨FY,bJ1,c3Z,c1S,c1T,b1W,c41,c42,c44⟩:=aQ vS hW2 hCU aON bBJ aI8 hti hcp hkc;clear mK hS sI hv pQ h1c rE SV NV a7U h1d wG ER OV kV ES aI7 hgr h1v hN kP bBM bBK bBL vS hW2 hCU aON bBJ aI8 hti hcp hkc;clear hvS hn4 bTY;go_enter Tryz.func171,Tryz.ntmps171;go_wp2_with (first|(refine Lib.wpList_append_run w rfl (.tmp 34) (.tmp 39) 22 3 rfl _ _ rfl rfl _ _ hap ?_)|(refine wpList_copy_run _ rfl (.tmp 43) (.tmp 44) 22 22 rfl _ _ rfl rfl (aM5 _) ?_))
   go_region_law (refine TW rfl (.tmp 50) (.tmp 53) 22 22 rfl _ _ (by simp[Act.eval,Act.put]) (by simp[Act.eval,Act.put]) (b1V _) ?_)
   go_wp2_with fail
   go_ret;exact⟨_,_,rfl,aDH.o,TG.o⟩
end Go.Proofs.YtceclmpmpldmlaaGreat
namespace Tt
open Go Go.RowKit
section
variable {P:Program} {T E:TypeId} {sz:Nat} (ht:P.underlying T=some (.slice E)) (hE:∀w,(Go.sizeOf E).run P w= .ok sz w)
include ht hE
theorem aDI (g o n c l h:Nat) (l' h':Int) (FX:l'=l) (hh':h'=h) (h1:l≤h) (h2:h≤c) (hc:l<c):∀W,(Instr.sliceAt T (.slice (some ⟨g,o,none⟩) n c) (some (.int .i64 l')) (some (.int .i64 h')) none).run P W= .ok (.slice (some ⟨g,o+l*sz,none⟩) (h - l) (c - l)) W:=by
 have he:P.elem T=E:=by unfold Program.elem;rw[ht]
 intro W;rw[run_sliceAt_slice (h:=by rw[he];exact ht),run_slice_lh (ht:=by rw[he];exact ht) (h0:=by omega) (h1:=by omega) (h2:=by omega),he,hE];have e:l'.toNat=l:=by omega
 have e2:h'.toNat=h:=by omega
 simp only[Result.andThen,sliced,e,e2];rw[if_neg aG];simp[fF]
theorem aAJ (a:Option Addr) (n c l h m:Nat) (l' h' m':Int) (FX:l'=l) (hh':h'=h) (hm':m'=m) (h1:l≤h) (h2:h≤m) (h3:m≤c):∃v,∀W,(Instr.sliceAt T (.slice a n c) (some (.int .i64 l')) (some (.int .i64 h')) (some (.int .i64 m'))).run P W= .ok v W:=by
 have he:P.elem T=E:=by unfold Program.elem;rw[ht]
 refine⟨sliced a l'.toNat h'.toNat m'.toNat sz,fun W=>?_⟩;rw[run_sliceAt_slice (h:=by rw[he];exact ht),run_slice_lhm (ht:=by rw[he];exact ht) (h0:=by omega) (h1:=by omega) (h2:=by omega) (h3:=by omega),he,hE];rfl
theorem aDJ (g o n:Nat) (l':Int) (FX:l'=n):∀W,(Instr.sliceAt T (.slice (some ⟨g,o,none⟩) n n) (some (.int .i64 l')) none none).run P W= .ok (.slice (some ⟨g,o,none⟩) 0 0) W:=by
 have he:P.elem T=E:=by unfold Program.elem;rw[ht]
 intro W;rw[run_sliceAt_slice (h:=by rw[he];exact ht),run_slice_l (ht:=by rw[he];exact ht) (h0:=by omega) (h1:=by omega),he,hE];have e:l'.toNat=n:=by omega
 simp only[Result.andThen,sliced,e,iP];simp
end
section
variable {P:Program}
theorem a88 (w:World) (t e ty:TypeId) (z:Value) (ht:P.underlying t=some (.slice e)) (hv:∀w,(zeroValue e).run P w= .ok z w) (g o n c:Nat) (hn:0<n) (cur:Array Value) (T:TypeId) (hg:w.heap[g]? =some (.cells cur T (0,0))) (zs:List Value) (hz:(Builtin.zeroCells z.cells n).toList=zs)
  (h1:∀v∈zs,v.oneCell'=true) (JF:o+zs.length≤cur.size):
  (Builtin.clear_ #[t] ty #[.slice (some ⟨g,o,none⟩) n c]).run P w= .ok (.tuple #[]) (w.setRow g (splice cur.toList o zs).toArray):=by
 have zN:=run_storeCells_at P g o T zs 0 cur w hg (by simpa using JF) h1;simp only[dB]at zN;obtain⟨m,rfl⟩:∃m,n=m+1:=⟨n - 1,by omega⟩;simp[Builtin.clear_,run_underlying ht,hv,hz,zN,splice]
theorem aAK (w:World) {o:Oper} {a:Act} {K:Act→World→Prop} {Q:Exit→Act→World→Prop} (s:Operand) (t:TypeId)
  (ho:o.op= .call {callee:= .builtin .clear,args:=#[s],argTypes:=#[t]}) (v:Value) (hs:a.eval s=v) {v':Value} {w':World}
  (hr:(Builtin.clear_ #[t] o.type #[v]).run P w= .ok v' w') (h:K (a.put o.dst v') w'):o.wp P a w K Q:=by
 unfold Oper.wp execOp;simp only[ho,resolve,invoke,builtin,gZ,iV,Result.andThen_ok,List.map_toArray,aW,aX,hs,hr];exact h
theorem ZE (w:World) {ops:Array Oper} {rest:List Oper} {o:Oper} {a:Act} {Q:Exit→Act→World→Prop} (UA:o.guard=none) (s:Operand) (t:TypeId)
  (ho:o.op= .call {callee:= .builtin .clear,args:=#[s],argTypes:=#[t]}) (v:Value) (hs:a.eval s=v) {v':Value} {w':World}
  (hr:(Builtin.clear_ #[t] o.type #[v]).run P w= .ok v' w') (h:wpList P ops Q rest (a.put o.dst v') w'):wpList P ops Q (o::rest) a w:=
 wpList_plain UA fun _ hK=>aAK w s t ho v hs hr (hK _ _ h)
theorem a1P {ops:Array Oper} {o:Oper} {a:Act} {w:World} {K:Act→World→Prop} {Q:Exit→Act→World→Prop} {E:Prop}
  (hg:o.guard=none) (d x:Operand) (t:TypeId) (hop:o.op=Op.call {callee:=Callee.builtin Builtin.append,args:=#[d,x],argTypes:=#[t,t]})
  (v u:Value) (hd:a.eval d=v) (hx:a.eval x=u) {v':Value} {w':World} (hr:(Builtin.append_ #[t,t] o.type #[v,u]).run P w= .ok v' w') (hK:K (a.put o.dst v') w'):
  if Region.wanted o (yielded ops a.tmps)=true then Oper.wp P o a w K Q else E:=by
 have hw:Region.wanted o (yielded ops a.tmps)=true:=by simp[Region.wanted,hg]
 rw[if_pos hw];exact Lib.wp_append_run w d x t t hop v u hd hx v' w' hr hK
end
theorem aDK {α:Type} {L E:List α} {k m:Nat} (hm:m≤k) (hk:k≤L.length):(splice L k E).take m=L.take m:=by
 unfold splice;rw[dV (by simp;omega),jA,iJ hm]
end Tt
namespace Go.Proofs.YtceclmpmpldmlaaGreat
open Go.RowKit Tt
theorem bJ2:∀w,(zeroValue 74).run Tryz.prog w= .ok (.agg #[.int .i64 0,.int .i64 0,.int .i64 0,.slice none 0 0]) w:=fun w=>by kernel_rfl
theorem bBN:(Builtin.zeroCells (Value.agg #[.int .i64 0,.int .i64 0,.int .i64 0,.slice none 0 0]).cells 1).toList= [.int .i64 0,.int .i64 0,.int .i64 0,.slice none 0 0]:=by kernel_rfl
theorem aIM (B:Nat) (a:Option Addr) (n c:Nat) (cs:List Value) (i:Nat) (i':Int) (w:World) (mK:w.ownsRow B 74 4 (.slice a n c) n cs) (hi:i<n) (vN:i'=(i:Int)+1) (h1c:∀v∈cs,v.oneCell'=true) (hl:n≤1000000):
  Calls Tryz.prog 201 #[.slice a n c,.int .i64 i,.int .i64 i'] w fun e w'=>∃a' c',e= .returned (.slice a' (n - 1) c')∧
   w'.ownsRow B 74 4 (.slice a' (n - 1) c') (n - 1) (cs.take (i*4)++cs.drop ((i+1)*4))∧w.grownBy w' (Value.slice a n c).ownBlock:=by
 obtain⟨i0,z0,AY,hz,qC,wY,ZA⟩:=OU;have sI:=(Sl.kZ mK).1.len;obtain⟨g,cur,rfl,hBg,rE,FI,hcm,SV,NV,_⟩:=a8Z mK aG;have UC:c≤9223372036854775807:=by unfold maxLen at hcm;omega
 obtain⟨v1,c13⟩:=aAJ (P:=Tryz.prog) Tryz.underlying22 JS (some ⟨g,0,none⟩) n c i (i+1) n (i:Int) i' (n:Int) rfl aG rfl aG aG FI;have c22:=UI (P:=Tryz.prog) Tryz.underlying22 JS g 0 n c i (i:Int) rfl aG;have hn4:n*4≤cur.size:=by rw[SV];exact iW _ FI
 have wG:(cs.drop ((i+1)*4)).length=(n - (i+1))*4:=by rw[gF,sI,Nat.sub_mul]
 have h1d:∀v∈cs.drop ((i+1)*4),v.oneCell'=true:=fun v hv=>h1c v (gT hv);have a7U:∀j v,(cs.drop ((i+1)*4))[j]? =some v→w.cell? ⟨g,(i+1)*4+j,none⟩=some v:=fun j v hj=>by
  rw[eY,←NV,dM]at hj;split at hj
  ·exact rE.cell (by rw[←hj];simp)
  ·cases hj
 have hcut:∃p,(∀W,(Instr.sliceAt 22 (.slice (some ⟨g,0,none⟩) n c) (some (.int .i64 i')) none none).run Tryz.prog W= .ok (.slice (some ⟨g,p,none⟩) (n - (i+1)) (c - (i+1))) W)∧∀j v,(cs.drop ((i+1)*4))[j]? =some v→w.cell? ⟨g,p+j,none⟩=some v:=by
  by_cases hc:i+1<c
  ·refine⟨(i+1)*4,?_,a7U⟩;have:=DV (P:=Tryz.prog) Tryz.underlying22 JS g 0 n c (i+1) i' aG aG FI hc;rwa [eU]at this
  ·obtain rfl:c=i+1:=by omega
   obtain rfl:n=i+1:=by omega
   refine⟨0,?_,fun j v hj=>?_⟩
   ·have:=aDJ (P:=Tryz.prog) Tryz.underlying22 JS g 0 (i+1) i' aG;rw[iP];exact this
   ·have h0:=(dP.1 hj).1;rw[wG,iP]at h0;omega
 obtain⟨p,c25,aSF⟩:=hcut;have hap:∀ty,(Builtin.append_ #[22,22] ty #[.slice (some ⟨g,0,none⟩) i c,.slice (some ⟨g,p,none⟩) (n - (i+1)) (c - (i+1))]).run Tryz.prog w.drew= .ok (.slice (some ⟨g,0,none⟩) (n - 1) c) (w.drew.setRow g (splice cur.toList (i*4) (cs.drop ((i+1)*4))).toArray):=fun ty=>by
  have h:=run_append_room (P:=Tryz.prog) (w:=w.drew) 22 ty 74 i0 Tryz.underlying22 AY g i c cur rE ⟨g,p,none⟩ (n - (i+1)) (c - (i+1)) (cs.drop ((i+1)*4)) (by rw[wG,qC]) (fun j v hj=>by rw[fF];exact aSF j v hj) h1d aG (by rw[wG,qC];omega);rw[h,show i+(n - (i+1))=n - 1 by omega,qC];unfold splice;rw[dJ]
 obtain⟨AR,ER⟩:∃AR,(splice cur.toList (i*4) (cs.drop ((i+1)*4))).toArray=AR:=⟨_,rfl⟩;rw[ER]at hap;have OV:AR.size=cur.size:=by rw[←ER];simp only[fD];rw[length_splice _ _ _ (by rw[wG,dG];omega),dG]
 obtain⟨W1,vS⟩:=aC (w.drew.setRow g AR);rw[vS]at hap;have kV:kG W1 g 74 AR:=by rw[←vS];exact kG.row (w:=w.drew) rE AR
 have hn1:((n - 1:Nat):Int)=(n:Int) - 1:=by omega
 have c31:=aDI (P:=Tryz.prog) Tryz.underlying22 JS g 0 (n - 1) c (n - 1) n ((n - 1:Nat):Int) (n:Int) rfl rfl aG FI aG;rw[eU,show n - (n - 1)=1 by omega]at c31;have bJ3:∀ty,(Builtin.clear_ #[22] ty #[.slice (some ⟨g,(n - 1)*4,none⟩) 1 (c - (n - 1))]).run Tryz.prog W1= .ok (.tuple #[]) (W1.setRow g (splice AR.toList ((n - 1)*4) [.int .i64 0,.int .i64 0,.int .i64 0,.slice none 0 0]).toArray):=fun ty=>
  a88 (P:=Tryz.prog) W1 _ _ ty _ Tryz.underlying22 bJ2 g ((n - 1)*4) 1 _ aG AR 74 kV _ bBN (by intro v hv;simp only[cK,eG,or_false]at hv;rcases hv with rfl|rfl|rfl|rfl <;> rfl) (by rw[OV];simp only[dO,iC];omega)
 obtain⟨OW,ES⟩:∃OW,(splice AR.toList ((n - 1)*4) [Value.int .i64 0,.int .i64 0,.int .i64 0,.slice none 0 0]).toArray=OW:=⟨_,rfl⟩;rw[ES]at bJ3;have aI7:(W1.setRow g OW).ownsRow B 74 4 (.slice (some ⟨g,0,none⟩) (n - 1) c) (n - 1) (cs.take (i*4)++cs.drop ((i+1)*4)):=by
  refine GJ (kG.row kV OW) hBg aG hcm ?_ ?_
  ·rw[←ES];simp only[fD];have bJ4:AR.toList.length=c*4:=by rw[dG,OV,SV]
   rw[length_splice _ _ _ (by rw[bJ4];simp only[dO,iC];omega),bJ4]
  ·rw[←ES];simp only[j5];rw[aDK (aY _) (by rw[dG,OV];omega),←ER];simp only[j5];rw[aDF (by rw[wG];omega) (by rw[dG];omega),←NV,jA,iJ aG]
 have hgr:w.grownBy (W1.setRow g OW) (some g):=by rw[←vS];exact GI (GI (MF (World.grownBy.refl _ _)) _) _
 have d1:((i:Int)==i')=false:=by simp;omega
 obtain⟨xQ,OB,RL,bTA,bIY,bBB,bU1,bIZ,GK,aSD,b6Z,lZ⟩:=aT mK sI rE SV NV a7U aSF h1d wG ER OV kV;obtain⟨aSE,aDH,TG,bIE,FY,c45,bTB⟩:=aO ES aI7 hgr h1c vS vN hn1;clear mK sI rE SV NV a7U aSF h1d wG ER OV kV ES aI7 hgr h1c vS vN hn1;clear hn4;go_enter Tryz.func201,Tryz.ntmps201;go_wp2_with fail
 go_region_law (refine a1P rfl (.tmp 22) (.tmp 25) 22 rfl _ _ (by simp[Act.eval,Act.put]) (by simp[Act.eval,Act.put]) (hap _) ?_)
 go_wp2_with (refine ZE _ rfl (.tmp 31) 22 rfl _ rfl (bJ3 _) ?_)
 go_ret;exact⟨_,_,rfl,aDH.o,TG.o⟩
