import Derived.Lib.AppendZeros
import Derived.Lib.AppendZerosOnto
import Derived.Lib.Overlaps
import Derived.Test.YtceclmpmpldmlaaGreatCx00
import Derived.DeepKeys4
import Derived.Maps.Own
import Derived.Maps.OwnOps
set_option linter.unusedSimpArgs false
set_option linter.unusedVariables false
set_option maxRecDepth 100000
set_option maxHeartbeats 8000000
namespace Tt
open Go Go.RowKit
section
variable {P:Program}
theorem BZ (w:World) (dT sT ty elem:TypeId) (sz g o dLen dCap:Nat) (a:Addr) (sLen sCap:Nat) (cur:Array Value) (t:TypeId) (cs:List Value)
  (hu:P.underlying dT=some (.slice elem)) (hs:(P.info? elem).map (·.size)=some sz)
  (hg:w.heap[g]? =some (.cells cur t (0,0))) (hn:cs.length=Nat.min sLen dLen*sz)
  (aJI:∀j v,cs[j]? =some v→w.cell? (a.add j)=some v) (OP:o+cs.length≤cur.size) (h1:∀v∈cs,v.oneCell'=true):
  (Builtin.copy_ #[dT,sT] ty #[.slice (some ⟨g,o,none⟩) dLen dCap,.slice (some a) sLen sCap]).run P w=
   .ok (goInt (Nat.min sLen dLen:Nat)) (w.setRow g (splice cur.toList o cs).toArray):=by
 have hl:=run_loadCells_list (P:=P) w a cs aJI;have vI:=run_storeCells_at P g o t cs 0 cur w hg (by simpa using OP) h1;rw[hn]at hl;cases hq:P.info? elem with
 |none=>simp[hq]at hs
 |some i=>
  have hi:i.size=sz:=by simpa [hq] using hs
  simp only[jE]at hl hn ⊢;simp[Builtin.copy_,run_underlying hu,Builtin.lenOf,Builtin.firstCells,Go.sizeOf,typeInfo,hq,hi,hl,vI,jE,splice]
theorem wp_copy_run (w:World) {o:Oper} {a:Act} {K:Act→World→Prop} {Q:Exit→Act→World→Prop} (d s:Operand) (t t':TypeId)
  (ho:o.op= .call {callee:= .builtin .copy,args:=#[d,s],argTypes:=#[t,t']}) (v u:Value) (hd:a.eval d=v) (hs:a.eval s=u) {v':Value} {w':World}
  (hr:(Builtin.copy_ #[t,t'] o.type #[v,u]).run P w= .ok v' w') (h:K (a.put o.dst v') w'):o.wp P a w K Q:=by
 unfold Oper.wp execOp;simp only[ho,resolve,invoke,builtin,j5,j4,Result.andThen_ok,List.map_toArray,aW,aX,hd,hs,hr];exact h
theorem wpList_copy_run (w:World) {ops:Array Oper} {rest:List Oper} {o:Oper} {a:Act} {Q:Exit→Act→World→Prop} (U7:o.guard=none) (d s:Operand) (t t':TypeId)
  (ho:o.op= .call {callee:= .builtin .copy,args:=#[d,s],argTypes:=#[t,t']}) (v u:Value) (hd:a.eval d=v) (hs:a.eval s=u) {v':Value} {w':World}
  (hr:(Builtin.copy_ #[t,t'] o.type #[v,u]).run P w= .ok v' w') (h:wpList P ops Q rest (a.put o.dst v') w'):wpList P ops Q (o::rest) a w:=
 wpList_plain U7 fun _ hK=>wp_copy_run w d s t t' ho v u hd hs hr (hK _ _ h)
theorem QL {ops:Array Oper} {o:Oper} {a:Act} {w:World} {K:Act→World→Prop} {Q:Exit→Act→World→Prop} {E:Prop}
  (hg:o.guard=none) (d x:Operand) (dT sT:TypeId) (hop:o.op=Op.call {callee:=Callee.builtin Builtin.copy,args:=#[d,x],argTypes:=#[dT,sT]})
  (v u:Value) (hd:a.eval d=v) (hx:a.eval x=u) {v':Value} {w':World} (hr:(Builtin.copy_ #[dT,sT] o.type #[v,u]).run P w= .ok v' w') (hK:K (a.put o.dst v') w'):
  if Region.wanted o (yielded ops a.tmps)=true then Oper.wp P o a w K Q else E:=by
 have hw:Region.wanted o (yielded ops a.tmps)=true:=by simp[Region.wanted,hg]
 rw[if_pos hw];exact wp_copy_run w d x dT sT hop v u hd hx hr hK
end
theorem jW.row {w:World} {g:Nat} {T:TypeId} {cs:Array Value} (h:jW w g T cs) (cs':Array Value):jW (w.setRow g cs') g T cs':=setRow_heap w g cs cs' T (0,0) h
theorem UH {w w':World} {g:Nat} (h:w.grownBy w' (some g)) (cs:Array Value):w.grownBy (w'.setRow g cs) (some g):=
 ⟨h.os,h.tape,h.output,by rw[show(w'.setRow g cs).heap.size=w'.heap.size by simp[World.setRow]];exact h.size,fun k hk oJ=>(setRow_other w' g k cs (fun e=>oJ (by rw[e]))).trans (h.block k hk oJ)⟩
theorem a7B {w w':World} {row:Option Nat} (h:w.grownBy w' row) {g:Nat} (hg:w.heap.size≤g) (cs:Array Value):w.grownBy (w'.setRow g cs) row:=
 ⟨h.os,h.tape,h.output,by rw[show(w'.setRow g cs).heap.size=w'.heap.size by simp[World.setRow]];exact h.size,fun k hk oJ=>(setRow_other w' g k cs aG).trans (h.block k hk oJ)⟩
theorem RH {w w':World} {row:Option Nat} (h:w.grownBy w' row):w.grownBy w'.drew row:=⟨h.os,h.tape,h.output,h.size,h.block⟩
theorem aAZ {w w':World} {row:Option Nat} (h:w.grownBy w' row) (o:Obj):w.grownBy (w'.alloc o) row:=
 ⟨h.os,h.tape,h.output,by simp;have:=h.size;omega,fun k hk oJ=>(sG w' o (by have:=h.size;omega)).trans (h.block k hk oJ)⟩
theorem aM3 {w:World} {B:Nat} {E:TypeId} {sz:Nat} {a:Option Addr} {n c m:Nat} {xs:List Value} (h:w.ownsRow B E sz (.slice a n c) m xs) (hn:0<n):
  ∃g cur,a=some ⟨g,0,none⟩∧B≤g∧jW w g E cur∧n≤c∧c≤maxLen∧cur.size=c*sz∧cur.toList.take (n*sz)=xs∧m=n:=by
 obtain⟨_,hm⟩:=Sl.jU h;subst hm;rcases h.2 with ⟨hv,_⟩|⟨g,cap,cur,hv,hB,hg,h1,h2,h3,h4⟩
 ·injection hv with h1 h2 h3;omega
 ·injection hv with e1 e2 e3
  subst e1 e3;exact⟨g,cur,rfl,hB,hg,h1,h2,h3,h4,rfl⟩
theorem KQ {w:World} {B g:Nat} {E:TypeId} {sz n c:Nat} {cur:Array Value} {xs:List Value} (hb:jW w g E cur) (hB:B≤g) (hn:n≤c) (hc:c≤maxLen) (hs:cur.size=c*sz) (ht:cur.toList.take (n*sz)=xs):w.ownsRow B E sz (.slice (some ⟨g,0,none⟩) n c) n xs:=by
 refine⟨?_,.inr ⟨g,c,cur,rfl,hB,hb,hn,hc,hs,ht⟩⟩;rw[←ht,dV,dA,hs];have:=iH sz hn;omega
section
variable {P:Program} {T E:TypeId} {sz:Nat} (ht:P.underlying T=some (.slice E)) (hE:∀w,(Go.sizeOf E).run P w= .ok sz w)
include ht hE
theorem EP (g o n c l:Nat) (l':Int) (yI:l'=l) (h1:l≤n) (hnc:n≤c) (hc:l<c):∀W,(Instr.sliceAt T (.slice (some ⟨g,o,none⟩) n c) (some (.int .i64 l')) none none).run P W= .ok (.slice (some ⟨g,o+l*sz,none⟩) (n - l) (c - l)) W:=by
 have he:P.elem T=E:=by unfold Program.elem;rw[ht]
 intro W;rw[run_sliceAt_slice (h:=by rw[he];exact ht),run_slice_l (ht:=by rw[he];exact ht) (h0:=by omega) (h1:=by omega),he,hE];have e:l'.toNat=l:=by omega
 simp only[Result.andThen,sliced,e];rw[if_neg aG];simp[fH]
theorem a0R (g o n c hi:Nat) (xG:Int) (hh':xG=hi) (h2:hi≤c):∀W,(Instr.sliceAt T (.slice (some ⟨g,o,none⟩) n c) none (some (.int .i64 xG)) none).run P W= .ok (.slice (some ⟨g,o,none⟩) hi c) W:=by
 have he:P.elem T=E:=by unfold Program.elem;rw[ht]
 intro W;rw[run_sliceAt_slice (h:=by rw[he];exact ht),run_slice_h (ht:=by rw[he];exact ht) (h0:=by omega) (h2:=by omega),he,hE];have e:xG.toNat=hi:=by omega
 simp only[Result.andThen,sliced,e,gF,Nat.sub_zero];split <;> simp[fH]
end
theorem aFR {α:Type} {L D E:List α} {k e d:Nat} (hE:E.length=e) (hD:D.length=d) (hL:k+e+d≤L.length):(splice (splice L (k+e) D) k E).take (k+e+d)=L.take k++E++D:=by
 unfold splice;have h1:((L.take (k+e)++(D++L.drop (k+e+D.length))).take k)=L.take k:=by
  rw[fB (by simp;omega),List.take_take,jC aG]
 have h2:((L.take (k+e)++(D++L.drop (k+e+D.length))).drop (k+E.length))=D++L.drop (k+e+D.length):=by
  rw[List.drop_append_of_le_length (by simp;omega),gV (by simp;omega),eX]
 rw[h1,h2,←dH,←dH,fB (by simp;omega),bK (by simp;omega)]
theorem aB0 {α:Type} {L D E:List α} {k e d:Nat} (hE:E.length=e) (hD:D.length=d) (hL:k+e+d≤L.length):(splice (splice L k E) (k+e) D).take (k+e+d)=L.take k++E++D:=by
 unfold splice;have h1:((L.take k++(E++L.drop (k+E.length))).take (k+e))=L.take k++E:=by
  rw[←dH,fB (by simp;omega),bK (by simp;omega)]
 rw[h1,←dH,fB (by simp;omega),bK (by simp;omega)]
end Tt
namespace Go.Proofs.YtceclmpmpldmlaaGreat
open Go.RowKit Tt
theorem bCQ:(Tryz.prog.info? 74).map (fun i=>(i.size,i.bytes))=some (4,48):=by kernel_rfl
theorem b4G:(Tryz.prog.info? 74).map (fun i=>i.zero.map (fun z=>z.cells.size))=some (some 4):=by kernel_rfl
theorem GU:∃(i:TypeInfo) (z:Value),Tryz.prog.info? 74=some i∧i.zero=some z∧i.size=4∧i.bytes=48∧z.cells.size=4:=by
 have h1:=bCQ;have h2:=b4G;revert h1 h2
 cases Tryz.prog.info? 74 with
 |none=>intro h1 _;cases h1
 |some i=>
  intro h1 h2;simp only[iE,fG,fQ]at h1 h2;cases hz:i.zero with
  |none=>rw[hz]at h2;cases h2
  |some z=>rw[hz]at h2;simp only[iE,fG]at h2;exact⟨i,z,rfl,hz,h1.1,h1.2,h2⟩
theorem UI:∀w,(Go.sizeOf 74).run Tryz.prog w= .ok 4 w:=fun w=>by kernel_rfl
theorem a8P:(Tryz.prog.info? 74).map (·.size)=some 4:=by kernel_rfl
theorem aFS (B:Nat) (a:Option Addr) (n c:Nat) (cs:List Value) (i g':Nat) (ec:Array Value) (w:World) (kY:w.ownsRow B 74 4 (.slice a n c) n cs) (hB:B≤w.heap.size) (hi:i≤n) (hl:n≤1000000)
  (hv:jW w g' 74 ec) (hvl:ec.size=4) (oJ:(Value.slice a n c).ownBlock≠some g') (h1c:∀v∈cs,v.oneCell'=true) (h1v:∀v∈ec.toList,v.oneCell'=true):
  Calls Tryz.prog 171 #[.slice a n c,.int .i64 i,.slice (some ⟨g',0,none⟩) 1 1] w fun e w'=>∃a' c',e= .returned (.slice a' (n+1) c')∧
   w'.ownsRow B 74 4 (.slice a' (n+1) c') (n+1) (cs.take (i*4)++ec.toList++cs.drop (i*4))∧w.grownBy w' (Value.slice a n c).ownBlock:=by
 obtain⟨i0,z0,xH,hz,oG,qK,QG⟩:=GU;have hS:=(Sl.jU kY).1;have nK:=hS.len;have BX:=hS.le;have LX:=hS.max;obtain⟨a1,bMQ,_,_⟩:=b1A (P:=Tryz.prog) Tryz.underlying22 UI hS (i:Int) aG aG (n - i) (c - i) aG aG;have hvS:Sl w (some ⟨g',0,none⟩) 1 1 4 ec.toList:=⟨by rw[dA,hvl],aZ _,by omega,fun k _=>⟨g',0,rfl,hv.lt,fun j v hj=>by rw[dU];exact hv.cell (by rw[←hj];simp)⟩,fun h=>by cases h⟩;by_cases yJ:i=n
 ·subst yJ;have d1:((i:Int)==(i:Int))=true:=by simp
  obtain⟨tF,hS',AB,bMR,xE,MP,bM3⟩:=aO kY hS nK hvS hv oJ h1c;clear kY hS nK hvS hv oJ h1c;go_enter Tryz.func171,Tryz.ntmps171;go_wp2_with (at_builtin;refine kK rfl _ _ 22 rfl B 74 i0 z0 4 48 Tryz.underlying22 xH hz oG qK QG aH _ i _ rfl tF.o _ 1 1 _ rfl bMR.o h1v aG aH hB ?_;intro a5 c5 w5 ob nZ nW;obtain⟨Ob,Hg5⟩:=aJ ob nW;clear ob nZ nW)
  go_ret;exact⟨_,_,rfl,by rw[bK (by rw[AB.o];exact aZ _),gV (by rw[AB.o];exact aZ _),dR];exact Ob.o,Hg5.o⟩
 ·have d1:((i:Int)==(n:Int))=false:=by simp;omega
  have d1':(i==n)=false:=by simp;omega
  obtain⟨g,cur,rfl,hBg,yK,_,hcm,PV,DI,_⟩:=aM3 kY aG;have aB1:g≠g':=fun e=>oJ (by rw[←e];rfl);have sS:IntKind.i64.wrap ((n:Int)+1)=n+1:=by rw[bF];omega
  have MQ:IntKind.i64.wrap ((i:Int)+1)=i+1:=by rw[bF];omega
  have HY:IntKind.i64.wrap ((n:Int)+1 - i)=n+1 - i:=by rw[bF];omega
  have hci:¬(c=i):=by omega
  have hn4:(n:Nat)*4≤cur.size:=by rw[PV];exact iH _ BX
  have aJI:∀j v,(cs.drop (i*4))[j]? =some v→w.cell? ⟨g,i*4+j,none⟩=some v:=fun j v hj=>by
   rw[fV,←DI,dW]at hj;split at hj
   ·exact yK.cell (by rw[←hj];simp)
   ·cases hj
  have h1d:∀v∈cs.drop (i*4),v.oneCell'=true:=fun v hv=>h1c v (List.mem_of_mem_drop hv);have oQ:(cs.drop (i*4)).length=(n - i)*4:=by rw[j6,nK,Nat.sub_mul]
  by_cases OP:n+1≤c
  ·have d2:decide ((c:Int)<(n:Int)+1)=false:=by simp;omega
   have d2':decide (c<n+1)=false:=by simp;omega
   have c60:=a0R (P:=Tryz.prog) Tryz.underlying22 UI g 0 n c (n+1) ((n:Int)+1) aG OP;have c66:=EP (P:=Tryz.prog) Tryz.underlying22 UI g 0 (n+1) c (i+1) ((i:Int)+1) aG aG OP aG;have c75:=EP (P:=Tryz.prog) Tryz.underlying22 UI g 0 (n+1) c i (i:Int) rfl aG OP aG;rw[dU]at c66 c75;rw[show n+1 - (i+1)=n - i by omega]at c66;have hov:(callFunc 232 #[.slice (some ⟨g',0,none⟩) 1 1,.slice (some ⟨g,(i+1)*4,none⟩) (n - i) (c - (i+1))]).run Tryz.prog w= .ok (.value (.bool false)) w:=by
    rw[run_callFunc_extern Tryz.func232 aF aF aF (e:=Extern.SlicesOverlaps.overlaps #[22,22] #[4]) aF,
     Lib.run_overlaps_apart w 22 4 74 Tryz.underlying22 4 UI ⟨g',0,none⟩ ⟨g,(i+1)*4,none⟩ 1 1 (n - i) (c - (i+1)) (Ne.symm aB1) 74 74 ec.size cur.size (by unfold World.shape?;rw[hv]) (by unfold World.shape?;rw[yK]) aG (hv.frozen 0) (hv.frozen _)]
    rfl
   have aJJ:∀ty,(Builtin.copy_ #[22,22] ty #[.slice (some ⟨g,(i+1)*4,none⟩) (n - i) (c - (i+1)),.slice (some ⟨g,i*4,none⟩) (n+1 - i) (c - i)]).run Tryz.prog w.drew= .ok (goInt (Nat.min (n+1 - i) (n - i):Nat)) (w.drew.setRow g (splice cur.toList ((i+1)*4) (cs.drop (i*4))).toArray):=fun ty=>
    BZ w.drew _ _ ty 74 4 g ((i+1)*4) (n - i) _ ⟨g,i*4,none⟩ (n+1 - i) _ cur 74 (cs.drop (i*4)) Tryz.underlying22 a8P yK (by rw[oQ];congr 1;simp only[jE];split <;> omega) (fun j v hj=>by rw[fH];exact aJI j v hj) (by rw[oQ];omega) h1d
   obtain⟨KR,MX⟩:∃KR,(splice cur.toList ((i+1)*4) (cs.drop (i*4))).toArray=KR:=⟨_,rfl⟩;rw[MX]at aJJ;have a0S:KR.size=cur.size:=by rw[←MX];simp only[gG];rw[length_splice _ _ _ (by rw[oQ,dA];omega),dA]
   obtain⟨W1,pR⟩:=aC (w.drew.setRow g KR);rw[pR]at aJJ;have jY:jW W1 g 74 KR:=by rw[←pR];exact jW.row (w:=w.drew) yK KR
   have aX9:∀ty,(Builtin.copy_ #[22,22] ty #[.slice (some ⟨g,i*4,none⟩) (n+1 - i) (c - i),.slice (some ⟨g',0,none⟩) 1 1]).run Tryz.prog W1= .ok (goInt (Nat.min 1 (n+1 - i):Nat)) (W1.setRow g (splice KR.toList (i*4) ec.toList).toArray):=fun ty=>
    BZ W1 _ _ ty 74 4 g (i*4) (n+1 - i) _ ⟨g',0,none⟩ 1 _ KR 74 ec.toList Tryz.underlying22 a8P jY (by rw[dA,hvl];simp only[jE];split <;> omega) (fun j v hj=>by rw[fH,dU,←pR,cell_setRow_other _ _ _ _ (by exact Ne.symm aB1)];exact hv.cell (by rw[←hj];simp)) (by rw[dA,hvl,a0S];omega) h1v
   obtain⟨a0T,MZ⟩:∃a0T,(splice KR.toList (i*4) ec.toList).toArray=a0T:=⟨_,rfl⟩;rw[MZ]at aX9;have aXA:(W1.setRow g a0T).ownsRow B 74 4 (.slice (some ⟨g,0,none⟩) (n+1) c) (n+1) (cs.take (i*4)++ec.toList++cs.drop (i*4)):=by
    refine KQ (jW.row jY a0T) hBg OP hcm ?_ ?_
    ·rw[←MZ];simp only[gG];rw[length_splice _ _ _ (by rw[dA,dA,hvl,a0S];omega),dA,a0S,PV]
    ·rw[←MZ,←MX];simp only[List.toList_toArray];have:=aFR (L:=cur.toList) (D:=cs.drop (i*4)) (E:=ec.toList) (k:=i*4) (e:=4) (d:=(n - i)*4) (by rw[dA,hvl]) oQ (by rw[dA];omega);rw[show i*4+4=(i+1)*4 by omega,show(i+1)*4+(n - i)*4=(n+1)*4 by omega]at this;rw[this];congr 2
     rw[←DI,List.take_take,jC aG]
   have hgr:w.grownBy (W1.setRow g a0T) (some g):=by rw[←pR];exact UH (UH (RH (World.grownBy.refl _ _)) _) _
   obtain⟨tF,hS',AB,xE,MP,bM3,aXB,bSJ,aXQ,bM4,bMS,sH⟩:=aT kY hS nK hv oJ h1c yK PV DI aJI h1d oQ;obtain⟨b4H,bCR,kR,b4I,aP4,aP5,bMT⟩:=aO MX a0S jY MZ aXA hgr h1v;clear kY hS nK hv oJ h1c yK PV DI aJI h1d oQ MX a0S jY MZ aXA hgr h1v;clear hvS hn4 hci;go_enter Tryz.func171,Tryz.ntmps171;go_wp2_with (simp only[hov])
   go_region_law (refine QL rfl (.tmp 73) (.tmp 76) 22 22 rfl _ _ (by simp[Act.eval,Act.put]) (by simp[Act.eval,Act.put]) (aJJ _) ?_)
   go_wp2_with (refine wpList_copy_run _ rfl (.tmp 80) (.tmp 81) 22 22 rfl _ _ rfl rfl (aX9 _) ?_)
   go_ret;exact⟨_,_,rfl,aP4.o,aP5.o⟩
  ·have d2:decide ((c:Int)<(n:Int)+1)=true:=by simp;omega
   have d2':decide (c<n+1)=true:=by simp;omega
   have c34:=a0R (P:=Tryz.prog) Tryz.underlying22 UI g 0 n c i (i:Int) rfl aG;have c53:=EP (P:=Tryz.prog) Tryz.underlying22 UI g 0 n c i (i:Int) rfl aG BX aG;rw[dU]at c53;have hti:(cs.take (i*4)).length=i*4:=by rw[dV,nK];omega
   have aXC:(Builtin.firstCells i0.size i (.slice (some ⟨g,0,none⟩) i c)).run Tryz.prog w.drew= .ok (cs.take (i*4)).toArray w.drew:=run_firstCells_some (P:=Tryz.prog) w.drew i0.size i ⟨g,0,none⟩ i c (cs.take (i*4)) (by rw[hti,oG]) (fun j v hj=>by
    rw[fH,dU];rw[dW]at hj;split at hj
    ·rw[←DI,dW]at hj;split at hj
     ·exact(yK.cell (i:=j) (by rw[←hj];simp):w.cell? _=_)
     ·cases hj
    ·cases hj)
   have hap:=Lib.run_append_grow_zeros (P:=Tryz.prog) w 22 3 22 74 i0 z0 .i64 .i64 Tryz.underlying22 Tryz.underlying3 xH hz (some ⟨g,0,none⟩) i c (cs.take (i*4)) aXC (n+1 - i) aG aG aG aG (by rw[qK];omega) (by rw[qK];exact growslice_fits aG aG);rw[show i+(n+1 - i)=n+1 by omega]at hap;have hkc:((n+1 - i:Nat):Int)=(n:Int)+1 - i:=by omega
   rw[hkc]at hap;obtain⟨cp,hcp⟩:=aC (grownCap w (n+1) c 74);have ZK:=grownCap_ge w (n+1) c 74;have bCS:=grownCap_le_maxLen w (n+1) c 74 (by unfold maxLen;omega);rw[hcp]at hap ZK bCS;obtain⟨CU,hCU⟩:∃CU,(cs.take (i*4)).toArray++Builtin.zeroCells z0.cells (n+1 - i)++Builtin.zeroCells z0.cells (cp - (n+1))=CU:=⟨_,rfl⟩;rw[hCU]at hap;have aM4:CU.size=cp*4:=by
    rw[←hCU];simp only[Array.size_append,gG,size_zeroCells,hti,QG];omega
   have b4J:CU.toList.take (i*4)=cs.take (i*4):=by
    rw[←hCU];simp only[Array.toList_append,List.toList_toArray,dH];rw[fB (by rw[hti];exact aZ _),bK (by rw[hti];exact aZ _)]
   obtain⟨N,hN⟩:=aC w.heap.size;obtain⟨W1,pR⟩:=aC (w.drew.alloc (.cells CU 74));have hgN:g≠N:=by have:=yK.lt;omega
   have bUR:g'≠N:=by have:=hv.lt;omega
   have jY:jW W1 N 74 CU:=by rw[←pR,←hN];exact mZ w.drew _
   have b4K:jW W1 g 74 cur:=by rw[←pR];exact(sG w.drew _ yK.lt).trans yK
   have aFT:jW W1 g' 74 ec:=by rw[←pR];exact(sG w.drew _ hv.lt).trans hv
   rw[hN,pR]at hap;have c43:=EP (P:=Tryz.prog) Tryz.underlying22 UI N 0 (n+1) cp i (i:Int) rfl aG ZK aG;have c50:=EP (P:=Tryz.prog) Tryz.underlying22 UI N 0 (n+1) cp (i+1) ((i:Int)+1) aG aG ZK aG;rw[dU]at c43 c50;rw[show n+1 - (i+1)=n - i by omega]at c50;have aJJ:∀ty,(Builtin.copy_ #[22,22] ty #[.slice (some ⟨N,i*4,none⟩) (n+1 - i) (cp - i),.slice (some ⟨g',0,none⟩) 1 1]).run Tryz.prog W1= .ok (goInt (Nat.min 1 (n+1 - i):Nat)) (W1.setRow N (splice CU.toList (i*4) ec.toList).toArray):=fun ty=>
    BZ W1 _ _ ty 74 4 N (i*4) (n+1 - i) _ ⟨g',0,none⟩ 1 _ CU 74 ec.toList Tryz.underlying22 a8P jY (by rw[dA,hvl];simp only[jE];split <;> omega) (fun j v hj=>by rw[fH,dU];exact aFT.cell (by rw[←hj];simp)) (by rw[dA,hvl,aM4];omega) h1v
   obtain⟨KR,MX⟩:∃KR,(splice CU.toList (i*4) ec.toList).toArray=KR:=⟨_,rfl⟩;rw[MX]at aJJ;have a0S:KR.size=cp*4:=by rw[←MX];simp only[gG];rw[length_splice _ _ _ (by rw[dA,dA,hvl,aM4];omega),dA,aM4]
   obtain⟨W2,hW2⟩:=aC (W1.setRow N KR);rw[hW2]at aJJ;have jT:jW W2 N 74 KR:=by rw[←hW2];exact jW.row jY KR
   have b4L:jW W2 g 74 cur:=by rw[←hW2];exact(setRow_other _ _ _ _ hgN).trans b4K
   have aX9:∀ty,(Builtin.copy_ #[22,22] ty #[.slice (some ⟨N,(i+1)*4,none⟩) (n - i) (cp - (i+1)),.slice (some ⟨g,i*4,none⟩) (n - i) (c - i)]).run Tryz.prog W2.drew= .ok (goInt (Nat.min (n - i) (n - i):Nat)) (W2.drew.setRow N (splice KR.toList ((i+1)*4) (cs.drop (i*4))).toArray):=fun ty=>
    BZ W2.drew _ _ ty 74 4 N ((i+1)*4) (n - i) _ ⟨g,i*4,none⟩ (n - i) _ KR 74 (cs.drop (i*4)) Tryz.underlying22 a8P jT (by rw[oQ];congr 1;simp only[jE];split <;> omega) (fun j v hj=>by
     rw[fH];have hj2:=hj;rw[fV,←DI,dW]at hj2;split at hj2
     ·exact(b4L.cell (i:=i*4+j) (by rw[←hj2];simp):W2.cell? _=_)
     ·cases hj2) (by rw[oQ,a0S];omega) h1d
   obtain⟨a0T,MZ⟩:∃a0T,(splice KR.toList ((i+1)*4) (cs.drop (i*4))).toArray=a0T:=⟨_,rfl⟩;rw[MZ]at aX9;have aXA:(W2.drew.setRow N a0T).ownsRow B 74 4 (.slice (some ⟨N,0,none⟩) (n+1) cp) (n+1) (cs.take (i*4)++ec.toList++cs.drop (i*4)):=by
    refine KQ (jW.row (w:=W2.drew) jT a0T) aG ZK bCS ?_ ?_
    ·rw[←MZ];simp only[gG];rw[length_splice _ _ _ (by rw[oQ,dA,a0S];omega),dA,a0S]
    ·rw[←MZ,←MX];simp only[List.toList_toArray];have:=aB0 (L:=CU.toList) (D:=cs.drop (i*4)) (E:=ec.toList) (k:=i*4) (e:=4) (d:=(n - i)*4) (by rw[dA,hvl]) oQ (by rw[dA,aM4];omega);rw[show i*4+4=(i+1)*4 by omega,show(i+1)*4+(n - i)*4=(n+1)*4 by omega]at this;rw[this,b4J]
   have hgr:w.grownBy (W2.drew.setRow N a0T) (some g):=by
    rw[←hW2,←pR];exact a7B (RH (a7B (aAZ (RH (World.grownBy.refl _ _)) _) aG _)) aG _
   obtain⟨tF,hS',AB,xE,MP,bM3,aXB,bSJ,aXQ,bM4,bMS,sH⟩:=aT kY hS nK hv oJ h1c yK PV DI aJI h1d oQ;obtain⟨b4H,bCR,kR,b4I,aP4,aP5,bMT,YD,mE,bSV,bSW,aB2⟩:=aT MX a0S jY MZ aXA hgr h1v hN jT b4L b4K aFT;obtain⟨y8,bCT,bUS,bSX,bSY,bUP,bUT,bUU,bUV⟩:=aQ pR hW2 hCU aM4 b4J aXC hti hcp hkc;clear kY hS nK hv oJ h1c yK PV DI aJI h1d oQ MX a0S jY MZ aXA hgr h1v hN jT b4L b4K aFT pR hW2 hCU aM4 b4J aXC hti hcp hkc;clear hvS hn4 bMQ;go_enter Tryz.func171,Tryz.ntmps171;go_wp2_with (first|(refine Lib.wpList_append_run w rfl (.tmp 34) (.tmp 39) 22 3 rfl _ _ rfl rfl _ _ hap ?_)|(refine wpList_copy_run _ rfl (.tmp 43) (.tmp 44) 22 22 rfl _ _ rfl rfl (aJJ _) ?_))
   go_region_law (refine QL rfl (.tmp 50) (.tmp 53) 22 22 rfl _ _ (by simp[Act.eval,Act.put]) (by simp[Act.eval,Act.put]) (aX9 _) ?_)
   go_wp2_with fail
   go_ret;exact⟨_,_,rfl,aP4.o,aP5.o⟩
theorem aP6:laidOutB Tryz.prog=true:=by kernel_rfl
theorem aP7:261<Tryz.prog.types.size:=of_decide_eq_true aF
theorem aP8:WideMaps.KeyLaw Tryz.prog 261:=deep_law_laid aP6 (m:=2) aG aP7 aF (by rw[Tryz.underlying261])
def WT (d t:Int):Value:= .agg #[.int .i64 d,.int .i64 t]
theorem WZ {d t:Int} (hd:(Lit.int .i64 d).wf=true) (ht:(Lit.int .i64 t).wf=true):∃l,keyOf Tryz.prog 261 (WT d t)=some l:=by
 have h1:Tryz.prog.keyType 261=true:=by kernel_rfl
 have h2:Tryz.prog.cellsOf 261=2:=by kernel_rfl
 have h3:Tryz.prog.cellsOf 3=1:=by kernel_rfl
 have h4:∀(n:Nat) (x:Int),(Lit.int .i64 x).wf=true→Tryz.prog.keyLits (n+1) 3 [.int .i64 x]=some [.int .i64 x]:=by
  intro n x hx;unfold Program.keyLits;rw[Tryz.underlying3];simp[hx]
 unfold keyOf WT;rw[Tryz.underlying261];simp only[h1,dD];rw[if_pos (by unfold Value.formed;rw[Tryz.underlying261,h2];rfl)];unfold Program.keyLits;rw[Tryz.underlying261];simp[Value.cells,h2,h3,h4 _ _ hd,h4 _ _ ht]
abbrev EQ:=(Int×Int)×(List Int×Int)
def bCU (x:EQ):Prop:=(Lit.int .i64 x.1.1).wf=true∧(Lit.int .i64 x.1.2).wf=true
def aB3 (w:World) (e:MapEntry) (x:EQ):Prop:=bCU x∧e.key=WT x.1.1 x.1.2∧∃a n c,e.val= .agg #[.slice a n c,.int .i64 x.2.2]∧Sl w a n c 1 (ints .i64 x.2.1)
def Rules (w:World) (b:Nat) (l:List EQ):Prop:=
 ∃(es:Array MapEntry) (clock:Nat),w.heap[b]? =some (.map es clock)∧es.size=l.length∧(∀(i:Nat) e x,es[i]? =some e→l[i]? =some x→aB3 w e x)∧clock=es.size∧∀(i:Nat) e,es[i]? =some e→e.born=i
theorem aB3.mono {w w':World} {e:MapEntry} {x:EQ} (h:aB3 w e x) (hs:∀a n c l,Sl w a n c 1 (ints .i64 l)→Sl w' a n c 1 (ints .i64 l)):aB3 w' e x:=by
 obtain⟨h1,h2,a,n,c,h3,h4⟩:=h;exact⟨h1,h2,a,n,c,h3,hs _ _ _ _ h4⟩
theorem Rules.lt {w:World} {b:Nat} {l:List EQ} (h:Rules w b l):b<w.heap.size:=by
 obtain⟨es,clock,h1,_⟩:=h;exact(bW.1 h1).1
theorem Rules.mono {w w':World} {b:Nat} {l:List EQ} (h:Rules w b l) (hb:Below w.heap.size w w'):Rules w' b l:=by
 have kD:=h.lt;obtain⟨es,clock,h1,h2,h3,h4⟩:=h;exact⟨es,clock,by rw[hb.block b kD];exact h1,h2,fun i e x he hx=>(h3 i e x he hx).mono fun _ _ _ _ s=>s.mono hb,h4⟩
structure kN (b:Nat) (w w':World):Prop where
 os:w'.os=w.os
 tape:w'.tape=w.tape
 output:w'.output=w.output
 size:w.heap.size≤w'.heap.size
 block:∀k,k<w.heap.size→k≠b→w'.heap[k]? =w.heap[k]?
theorem kN.refl (b:Nat) (w:World):kN b w w:=⟨rfl,rfl,rfl,aZ _,fun _ _ _=>rfl⟩
theorem kN.trans {b:Nat} {w w' w'':World} (h:kN b w w') (k:kN b w' w''):kN b w w'':=
 ⟨k.os.trans h.os,k.tape.trans h.tape,k.output.trans h.output,bQ h.size k.size,fun i hi oJ=>(k.block i (cK hi h.size) oJ).trans (h.block i hi oJ)⟩
theorem kN.of_below {b:Nat} {w w':World} (h:Below w.heap.size w w'):kN b w w':=⟨h.os,h.tape,h.output,h.size,fun k hk _=>h.block k hk⟩
theorem kN.alloc {b:Nat} {w w':World} (h:kN b w w') (o:Obj):kN b w (w'.alloc o):=h.trans (kN.of_below ((aY _ _).alloc (aZ _) _))
theorem kN.below {b:Nat} {w w':World} (h:kN b w w') {B:Nat} (h1:B≤b) (h2:B≤w.heap.size):Below B w w':=⟨h.os,h.tape,h.output,h.size,fun k hk=>h.block k aG aG⟩
theorem kN.cell {b:Nat} {w w':World} (h:kN b w w') {p:Addr} (h1:p.block<w.heap.size) (h2:p.block≠b):w'.cell? p=w.cell? p:=by
 unfold World.cell?;rw[h.block _ h1 h2]
theorem aJT {d t d' t':Int} (h:WT d t=WT d' t'):(d,t)=(d',t'):=by
 unfold WT at h;injection h with h
 simp at h;rw[h.1,h.2]
theorem a7C {w:World} {es:Array MapEntry} {l:List EQ} (h2:es.size=l.length) (h3:∀(i:Nat) e x,es[i]? =some e→l[i]? =some x→aB3 w e x):∀e∈es.toList,∃k,keyOf Tryz.prog 261 e.key=some k:=by
 intro e he;obtain⟨i,hi,hie⟩:=fM.1 he;have xG:i<es.size:=by simpa using hi
 obtain⟨D5,hk,_⟩:=h3 i e l[i] (by rw[←hie];simp[xG]) (bI aG);rw[hk];exact WZ D5.1 D5.2
theorem aB4 {w:World} {b:Nat} {l:List EQ} (h:Rules w b l) {d t:Int} (hd:(Lit.int .i64 d).wf=true) (ht:(Lit.int .i64 t).wf=true) (qW:∀x∈l,x.1≠(d,t))
  {a:Option Addr} {n c:Nat} {types:List Int} (hs:Sl w a n c 1 (ints .i64 types)) (count:Int):
  ∃w',(Instr.mapUpdate 198 (.map (some b)) (WT d t) (.agg #[.slice a n c,.int .i64 count])).run Tryz.prog w= .ok () w'∧Rules w' b (l++ [((d,t),(types,count))])∧kN b w w':=by
 have kD:=h.lt;obtain⟨es,clock,h1,h2,h3,h4,h5⟩:=h;obtain⟨kl,D6⟩:=WZ hd ht;have bM5:=aP8.find w D6 es.toList (a7C h2 h3);have bM6:(Instr.findKey 261 (WT d t) es.toList).run Tryz.prog w= .ok none w:=by
  rcases bM5 with ⟨h,_⟩|⟨j,e,_,hj,he⟩
  ·exact h
  ·exfalso
   have RF:es[j]? =some e:=by simpa using hj
   have hjl:j<es.size:=(bW.1 RF).1;obtain⟨_,hk,_⟩:=h3 j e l[j] RF (bI aG);rw[hk]at he;exact qW _ (bJ aG) (aJT he)
 have aAQ:(Instr.mapUpdate 198 (.map (some b)) (WT d t) (.agg #[.slice a n c,.int .i64 count])).run Tryz.prog w= .ok () (ChangeMaps.setBlock w b (.map (es.push ⟨WT d t,.agg #[.slice a n c,.int .i64 count],clock⟩) (clock+1))):=by
  simp[Instr.mapUpdate,run_underlying Tryz.underlying198,MapKept.run_getObj_map h1,aP8.check w false D6,bM6,MapKept.run_setObj_map _ h1,Result.andThen,ChangeMaps.setBlock]
 have oJ:∀k,k≠b→(ChangeMaps.setBlock w b (.map (es.push ⟨WT d t,.agg #[.slice a n c,.int .i64 count],clock⟩) (clock+1))).heap[k]? =w.heap[k]? :=fun k hk=>by
  simp[ChangeMaps.setBlock,Ne.symm hk]
 have bM7:(ChangeMaps.setBlock w b (.map (es.push ⟨WT d t,.agg #[.slice a n c,.int .i64 count],clock⟩) (clock+1))).heap[b]? =some (.map (es.push ⟨WT d t,.agg #[.slice a n c,.int .i64 count],clock⟩) (clock+1)):=by
  simp[ChangeMaps.setBlock,kD]
 have rX:(ChangeMaps.setBlock w b (.map (es.push ⟨WT d t,.agg #[.slice a n c,.int .i64 count],clock⟩) (clock+1))).heap.size=w.heap.size:=by
  simp[ChangeMaps.setBlock]
 have hb:kN b w (ChangeMaps.setBlock w b (.map (es.push ⟨WT d t,.agg #[.slice a n c,.int .i64 count],clock⟩) (clock+1))):=
  ⟨rfl,rfl,rfl,by rw[rX];exact aZ _,fun k _ hk=>oJ k hk⟩
 have nL:∀(a':Option Addr) (n' c':Nat) (l':List Int),Sl w a' n' c' 1 (ints .i64 l')→Sl (ChangeMaps.setBlock w b (.map (es.push ⟨WT d t,.agg #[.slice a n c,.int .i64 count],clock⟩) (clock+1))) a' n' c' 1 (ints .i64 l'):=by
  intro a' n' c' l' hs;refine⟨hs.len,hs.le,hs.max,fun i hi=>?_,hs.fit⟩;obtain⟨b2,o2,e2,QH,hc2⟩:=hs.lies i hi;have sU:b2≠b:=by
   rintro rfl;have yI:0<(ints .i64 l').length:=by rw[hs.len];omega
   have:=hc2 0 _ (bI yI);unfold World.cell? at this;rw[h1]at this;cases this
  refine⟨b2,o2,e2,by rw[rX];exact QH,fun j v hv=>?_⟩;have:=hc2 j v hv;unfold World.cell? at this ⊢;rw[oJ _ sU];exact this
 refine⟨_,aAQ,?_,hb⟩;refine⟨_,_,bM7,by simp[h2],fun i e x he hx=>?_,by simp[h4],fun i e he=>?_⟩;rotate_left
 ·rcases dM i es.size with hi|hi
  ·rw[Array.getElem?_push_lt hi]at he;exact h5 i e (by rw[←he];simp[hi])
  ·have hi2:i=es.size:=by
    have:=(bW.1 he).1;simp at this;omega
   subst hi2;rw[Array.getElem?_push_size]at he;have pF:e.born=clock:=congrArg MapEntry.born (Option.some.inj he).symm;exact pF.trans h4
 rcases dM i es.size with hi|hi
 ·rw[Array.getElem?_push_lt hi]at he;rw[iD aG]at hx;exact(h3 i e x (by rw[←he];simp[hi]) hx).mono nL
 ·rw[iB aG]at hx;have hi2:i=es.size:=by
   have:=(dO.1 hx).1;simp at this;omega
  subst hi2;rw[h2]at hx;simp at hx;rw[Array.getElem?_push_size]at he;injection he with he;rw[←he,←hx];exact⟨⟨hd,ht⟩,rfl,a,n,c,rfl,nL _ _ _ _ hs⟩
theorem aB5 {w:World} {b:Nat} {l:List EQ} (h:Rules w b l) {d t:Int} (hd:(Lit.int .i64 d).wf=true) (ht:(Lit.int .i64 t).wf=true):
  ((Instr.lookup 198 (.map (some b)) (WT d t) true).run Tryz.prog w= .ok (.tuple #[.agg #[.slice none 0 0,.int .i64 0],.bool false]) w∧∀x∈l,x.1≠(d,t))∨
  ∃x∈l,x.1=(d,t)∧∃a n c,Sl w a n c 1 (ints .i64 x.2.1)∧(Instr.lookup 198 (.map (some b)) (WT d t) true).run Tryz.prog w= .ok (.tuple #[.agg #[.slice a n c,.int .i64 x.2.2],.bool true]) w:=by
 obtain⟨es,clock,h1,h2,h3,_⟩:=h;obtain⟨kl,D6⟩:=WZ hd ht;have hz:(zeroValue 258).run Tryz.prog w= .ok (.agg #[.slice none 0 0,.int .i64 0]) w:=by kernel_rfl
 rcases aP8.find w D6 es.toList (a7C h2 h3)with ⟨f1,f2⟩|⟨j,e,f1,f2,f3⟩
 ·left
  refine⟨by simp[Instr.lookup,run_underlying Tryz.underlying198,MapKept.run_getObj_map h1,aP8.check w _ D6,f1,hz,Result.andThen],fun x hx he=>?_⟩;obtain⟨i,hi,rfl⟩:=fM.1 hx;have xG:i<es.size:=by omega
  obtain⟨_,hk,_⟩:=h3 i es[i] l[i] (by simp[xG]) (bI hi);rw[he]at hk;exact f2 es[i] (by simp) hk
 ·right
  have RF:es[j]? =some e:=by simpa using f2
  have hjl:j<es.size:=(bW.1 RF).1;obtain⟨_,hk,a,n,c,hv,hs⟩:=h3 j e l[j] RF (bI aG);rw[hk]at f3;refine⟨l[j],bJ aG,aJT f3,a,n,c,hs,?_⟩;rw[hv]at f1;simp[Instr.lookup,run_underlying Tryz.underlying198,MapKept.run_getObj_map h1,aP8.check w _ D6,f1,Result.andThen]
section
variable {w:World} {ops:Array Oper} {rest:List Oper} {o:Oper} {a:Act} {Q:Exit→Act→World→Prop}
theorem a0U (hg:o.guard=none) (m x v:Operand) (hop:o.op=Op.mapUpdate 198 m x v) (b:Nat) (l:List EQ) (d t count:Int) (a1:Option Addr) (n c:Nat) (types:List Int)
  (hm:a.eval m= .map (some b)) (hx:a.eval x=WT d t) (hv:a.eval v= .agg #[.slice a1 n c,.int .i64 count]) (hr:Rules w b l) (hd:(Lit.int .i64 d).wf=true) (ht:(Lit.int .i64 t).wf=true) (qW:∀x∈l,x.1≠(d,t)) (hs:Sl w a1 n c 1 (ints .i64 types))
  (hK:∀w',Rules w' b (l++ [((d,t),(types,count))])→kN b w w'→wpList Tryz.prog ops Q rest (a.put o.dst undef) w'):wpList Tryz.prog ops Q (o::rest) a w:=by
 refine wpList_plain hg fun K' hK'=>?_;obtain⟨w',aAQ,r1,r2⟩:=aB4 hr hd ht qW hs count;unfold Oper.wp;simp[execOp,hop,hm,hx,hv,aAQ,Result.andThen];exact hK' _ _ (hK w' r1 r2)
theorem a0V (hg:o.guard=none) (m x:Operand) (hop:o.op=Op.lookup 198 m x true) (b:Nat) (l:List EQ) (d t:Int)
  (hm:a.eval m= .map (some b)) (hx:a.eval x=WT d t) (hr:Rules w b l) (hd:(Lit.int .i64 d).wf=true) (ht:(Lit.int .i64 t).wf=true) (qW:∀x∈l,x.1≠(d,t))
  (hK:wpList Tryz.prog ops Q rest (a.put o.dst (.tuple #[.agg #[.slice none 0 0,.int .i64 0],.bool false])) w):wpList Tryz.prog ops Q (o::rest) a w:=by
 refine wpList_plain hg fun K' hK'=>?_;rcases aB5 hr hd ht with ⟨aAQ,_⟩|⟨x,hx,he,_⟩
 ·unfold Oper.wp;simp[execOp,hop,hm,hx,aAQ,Result.andThen];exact hK' _ _ hK
 ·exact absurd he (qW x hx)
theorem ZP (hg:o.guard=none) (m x:Operand) (hop:o.op=Op.lookup 198 m x true) (b:Nat) (l:List EQ) (d t:Int)
  (hm:a.eval m= .map (some b)) (hx:a.eval x=WT d t) (hr:Rules w b l) (hd:(Lit.int .i64 d).wf=true) (ht:(Lit.int .i64 t).wf=true) (bMU:∃x∈l,x.1=(d,t))
  (hK:∀x∈l,x.1=(d,t)→∀a1 n c,Sl w a1 n c 1 (ints .i64 x.2.1)→wpList Tryz.prog ops Q rest (a.put o.dst (.tuple #[.agg #[.slice a1 n c,.int .i64 x.2.2],.bool true])) w):wpList Tryz.prog ops Q (o::rest) a w:=by
 refine wpList_plain hg fun K' hK'=>?_;rcases aB5 hr hd ht with ⟨_,hn⟩|⟨x,U8,he,a1,n,c,hs,aAQ⟩
 ·obtain⟨x,hx,he⟩:=bMU;exact absurd he (hn x hx)
 ·unfold Oper.wp;simp[execOp,hop,hm,hx,aAQ,Result.andThen];exact hK' _ _ (hK x U8 he a1 n c hs)
end
theorem Rules.made (w:World):Rules (w.alloc (.map #[] 0)) w.heap.size []:=⟨#[],0,mZ w _,rfl,fun i e x he _=>by simp at he,rfl,fun i e he=>by simp at he⟩
theorem aP9 (b:Nat) (dir tag count:Int) (a:Option Addr) (n c:Nat) (types:List Int) (l:List EQ) (w:World) (hr:Rules w b l) (hd:(Lit.int .i64 dir).wf=true) (ht:(Lit.int .i64 tag).wf=true) (qW:∀x∈l,x.1≠(dir,tag)) (hs:Sl w a n c 1 (ints .i64 types)):
  Calls Tryz.prog 193 #[.agg #[.map (some b),.int .i64 dir],.int .i64 tag,.int .i64 count,.slice a n c] w fun e w'=>e= .returned (.tuple #[])∧Rules w' b (l++ [((dir,tag),(types,count))])∧kN b w w':=by
 have kD:=hr.lt;go_enter Tryz.func193,Tryz.ntmps193;go_wp2_with (at_mapUpdate;refine a0U rfl (.tmp 9) (.tmp 13) (.tmp 16) rfl b l dir tag count a n c types rfl rfl rfl (hr.mono ((aY _ _).alloc (aZ _) _)) hd ht qW (vU hs _) ?_;intro w2 U9 jT)
 go_end0
 exact⟨rfl,U9,((kN.refl b w).alloc _).trans jT⟩
end Go.Proofs.YtceclmpmpldmlaaGreat
namespace Tt
open Go
def lQ:List (Int×List Int×Int):= [(256, [3,4],1),(257, [3,4],1),(259, [3],1),(274, [3],1),(296, [3],1),(531, [3],1),(270, [2],0),(271, [2],0),(272, [2],0),(305, [2],0),(315, [2],0),(33432, [2],0),(306, [2],20),(282, [5],1),(283, [5],1)]
def kL:List (Int×List Int×Int):= [(33434, [5],1),(33437, [5],1),(37378, [5],1),(37386, [5],1),(34850, [3],1),(37383, [3],1),(37384, [3],1),(37385, [3],1),(40961, [3],1),(41986, [3],1),(36864, [7],4),(37121, [7],4),(40960, [7],4),(37377, [10],1),(37380, [10],1),(36867, [2],20),(36868, [2],20),(40962, [3,4],1),(40963, [3,4],1),(34855, [3],0),(37510, [7],0),(37520, [2],0),(41728, [7],1),(42016, [2],33),(42034, [5],4)]
def yE:List (Int×List Int×Int):= [(0, [1],4),(5, [1],1),(6, [5],1),(1, [2],2),(3, [2],2),(2, [5],3),(4, [5],3),(7, [5],3),(18, [2],0),(29, [2],11)]
def sI:List (Int×List Int×Int):= [(45056, [7],4),(45313, [4],1),(45569, [4],1),(45570, [4],1),(45572, [5],1),(45574, [5],1),(45573, [10],1),(45576, [10],1)]
theorem mW:(lQ.map (·.1)).Nodup:=by decide
theorem kP:(kL.map (·.1)).Nodup:=by decide
theorem sO:(yE.map (·.1)).Nodup:=by decide
theorem vJ:(sI.map (·.1)).Nodup:=by decide
end Tt
namespace Go.Proofs.YtceclmpmpldmlaaGreat
open Go.RowKit Tt
def qO (dir:Int) (ts:List (Int×List Int×Int)):List EQ:=ts.map fun t=>((dir,t.1),(t.2.1,t.2.2))
theorem kT (b:Nat) (dir:Int) (ts:List (Int×List Int×Int)) (hnd:(ts.map (·.1)).Nodup) (l:List EQ) (hd:(Lit.int .i64 dir).wf=true) (hl:∀x∈l,x.1.1≠dir) (k:Nat) (tag count:Int) (types:List Int) (hk:ts[k]? =some (tag,types,count)) (ht:(Lit.int .i64 tag).wf=true)
  (a:Option Addr) (n c:Nat) (w:World) (hr:Rules w b (l++qO dir (ts.take k))) (hs:Sl w a n c 1 (ints .i64 types)):
  Calls Tryz.prog 193 #[.agg #[.map (some b),.int .i64 dir],.int .i64 tag,.int .i64 count,.slice a n c] w fun e w'=>e= .returned (.tuple #[])∧Rules w' b (l++qO dir (ts.take (k+1)))∧kN b w w':=by
 have D6:k<ts.length:=(dO.1 hk).1;have hke:ts[k]=(tag,types,count):=(dO.1 hk).2;have qW:∀x∈l++qO dir (ts.take k),x.1≠(dir,tag):=by
  intro x hx he;rcases bP.1 hx with h|h
  ·exact hl x h (by rw[he])
  ·unfold qO at h;obtain⟨y,hy,rfl⟩:=dG.1 h;simp at he;obtain⟨i,hi,hie⟩:=fM.1 hy;rw[dV]at hi;rw[List.getElem_take]at hie;have hp:=fO.1 hnd i k (by simp;omega) (by simpa using D6) aG;simp[hie,hke,he]at hp
 have e:l++qO dir (ts.take (k+1))=l++qO dir (ts.take k)++ [((dir,tag),(types,count))]:=by
  rw[dS,hk];simp[qO]
 rw[e];exact aP9 b dir tag count a n c types _ w hr hd ht qW hs
