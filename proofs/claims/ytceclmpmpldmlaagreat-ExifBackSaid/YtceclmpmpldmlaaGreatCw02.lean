import Derived.DeepKeys4
import Derived.Maps.Own
import Derived.Maps.OwnOps
import Derived.Test.YtceclmpmpldmlaaGreatCw00
set_option linter.unusedSimpArgs false
set_option linter.unusedVariables false
set_option maxRecDepth 100000
set_option maxHeartbeats 8000000
namespace Go.Proofs.YtceclmpmpldmlaaGreat
open Go.RowKit Tt
theorem aSG:laidOutB Tryz.prog=true:=by kernel_rfl
theorem aSH:261<Tryz.prog.types.size:=of_decide_eq_true aF
theorem aSI:WideMaps.KeyLaw Tryz.prog 261:=deep_law_laid aSG (m:=2) aG aSH aF (by rw[Tryz.underlying261])
def Z7 (d t:Int):Value:= .agg #[.int .i64 d,.int .i64 t]
theorem ZF {d t:Int} (hd:(Lit.int .i64 d).wf=true) (ht:(Lit.int .i64 t).wf=true):∃l,keyOf Tryz.prog 261 (Z7 d t)=some l:=by
 have h1:Tryz.prog.keyType 261=true:=by kernel_rfl
 have h2:Tryz.prog.cellsOf 261=2:=by kernel_rfl
 have h3:Tryz.prog.cellsOf 3=1:=by kernel_rfl
 have h4:∀(n:Nat) (x:Int),(Lit.int .i64 x).wf=true→Tryz.prog.keyLits (n+1) 3 [.int .i64 x]=some [.int .i64 x]:=by
  intro n x hx;unfold Program.keyLits;rw[Tryz.underlying3];simp[hx]
 unfold keyOf Z7;rw[Tryz.underlying261];simp only[h1,dL];rw[if_pos (by unfold Value.formed;rw[Tryz.underlying261,h2];rfl)];unfold Program.keyLits;rw[Tryz.underlying261];simp[Value.cells,h2,h3,h4 _ _ hd,h4 _ _ ht]
abbrev IE:=(Int×Int)×(List Int×Int)
def bJ5 (x:IE):Prop:=(Lit.int .i64 x.1.1).wf=true∧(Lit.int .i64 x.1.2).wf=true
def aDL (w:World) (e:MapEntry) (x:IE):Prop:=bJ5 x∧e.key=Z7 x.1.1 x.1.2∧∃a n c,e.val= .agg #[.slice a n c,.int .i64 x.2.2]∧Sl w a n c 1 (ints .i64 x.2.1)
def Rules (w:World) (b:Nat) (l:List IE):Prop:=
 ∃(es:Array MapEntry) (clock:Nat),w.heap[b]? =some (.map es clock)∧es.size=l.length∧(∀(i:Nat) e x,es[i]? =some e→l[i]? =some x→aDL w e x)∧clock=es.size∧∀(i:Nat) e,es[i]? =some e→e.born=i
theorem aDL.mono {w w':World} {e:MapEntry} {x:IE} (h:aDL w e x) (hs:∀a n c l,Sl w a n c 1 (ints .i64 l)→Sl w' a n c 1 (ints .i64 l)):aDL w' e x:=by
 obtain⟨h1,h2,a,n,c,h3,h4⟩:=h;exact⟨h1,h2,a,n,c,h3,hs _ _ _ _ h4⟩
theorem Rules.lt {w:World} {b:Nat} {l:List IE} (h:Rules w b l):b<w.heap.size:=by
 obtain⟨es,clock,h1,_⟩:=h;exact(dA.1 h1).1
theorem Rules.mono {w w':World} {b:Nat} {l:List IE} (h:Rules w b l) (hb:Below w.heap.size w w'):Rules w' b l:=by
 have kY:=h.lt;obtain⟨es,clock,h1,h2,h3,h4⟩:=h;exact⟨es,clock,by rw[hb.block b kY];exact h1,h2,fun i e x he hx=>(h3 i e x he hx).mono fun _ _ _ _ s=>s.mono hb,h4⟩
structure lG (b:Nat) (w w':World):Prop where
 os:w'.os=w.os
 tape:w'.tape=w.tape
 output:w'.output=w.output
 size:w.heap.size≤w'.heap.size
 block:∀k,k<w.heap.size→k≠b→w'.heap[k]? =w.heap[k]?
theorem lG.refl (b:Nat) (w:World):lG b w w:=⟨rfl,rfl,rfl,aY _,fun _ _ _=>rfl⟩
theorem lG.trans {b:Nat} {w w' w'':World} (h:lG b w w') (k:lG b w' w''):lG b w w'':=
 ⟨k.os.trans h.os,k.tape.trans h.tape,k.output.trans h.output,bU h.size k.size,fun i hi pQ=>(k.block i (dD hi h.size) pQ).trans (h.block i hi pQ)⟩
theorem lG.of_below {b:Nat} {w w':World} (h:Below w.heap.size w w'):lG b w w':=⟨h.os,h.tape,h.output,h.size,fun k hk _=>h.block k hk⟩
theorem lG.alloc {b:Nat} {w w':World} (h:lG b w w') (o:Obj):lG b w (w'.alloc o):=h.trans (lG.of_below ((bF _ _).alloc (aY _) _))
theorem lG.below {b:Nat} {w w':World} (h:lG b w w') {B:Nat} (h1:B≤b) (h2:B≤w.heap.size):Below B w w':=⟨h.os,h.tape,h.output,h.size,fun k hk=>h.block k aG aG⟩
theorem lG.cell {b:Nat} {w w':World} (h:lG b w w') {p:Addr} (h1:p.block<w.heap.size) (h2:p.block≠b):w'.cell? p=w.cell? p:=by
 unfold World.cell?;rw[h.block _ h1 h2]
theorem aMG {d t d' t':Int} (h:Z7 d t=Z7 d' t'):(d,t)=(d',t'):=by
 unfold Z7 at h;injection h with h
 simp at h;rw[h.1,h.2]
theorem a90 {w:World} {es:Array MapEntry} {l:List IE} (h2:es.size=l.length) (h3:∀(i:Nat) e x,es[i]? =some e→l[i]? =some x→aDL w e x):∀e∈es.toList,∃k,keyOf Tryz.prog 261 e.key=some k:=by
 intro e he;obtain⟨i,hi,hie⟩:=gU.1 he;have vN:i<es.size:=by simpa using hi
 obtain⟨wP,hk,_⟩:=h3 i e l[i] (by rw[←hie];simp[vN]) (bH aG);rw[hk];exact ZF wP.1 wP.2
theorem aDM {w:World} {b:Nat} {l:List IE} (h:Rules w b l) {d t:Int} (hd:(Lit.int .i64 d).wf=true) (ht:(Lit.int .i64 t).wf=true) (sJ:∀x∈l,x.1≠(d,t))
  {a:Option Addr} {n c:Nat} {types:List Int} (hs:Sl w a n c 1 (ints .i64 types)) (count:Int):
  ∃w',(Instr.mapUpdate 198 (.map (some b)) (Z7 d t) (.agg #[.slice a n c,.int .i64 count])).run Tryz.prog w= .ok () w'∧Rules w' b (l++ [((d,t),(types,count))])∧lG b w w':=by
 have kY:=h.lt;obtain⟨es,clock,h1,h2,h3,h4,h5⟩:=h;obtain⟨kl,xK⟩:=ZF hd ht;have bTC:=aSI.find w xK es.toList (a90 h2 h3);have bTD:(Instr.findKey 261 (Z7 d t) es.toList).run Tryz.prog w= .ok none w:=by
  rcases bTC with ⟨h,_⟩|⟨j,e,_,hj,he⟩
  ·exact h
  ·exfalso
   have hj':es[j]? =some e:=by simpa using hj
   have hjl:j<es.size:=(dA.1 hj').1;obtain⟨_,hk,_⟩:=h3 j e l[j] hj' (bH aG);rw[hk]at he;exact sJ _ (bP aG) (aMG he)
 have aM6:(Instr.mapUpdate 198 (.map (some b)) (Z7 d t) (.agg #[.slice a n c,.int .i64 count])).run Tryz.prog w= .ok () (ChangeMaps.setBlock w b (.map (es.push ⟨Z7 d t,.agg #[.slice a n c,.int .i64 count],clock⟩) (clock+1))):=by
  simp[Instr.mapUpdate,run_underlying Tryz.underlying198,MapKept.run_getObj_map h1,aSI.check w false xK,bTD,MapKept.run_setObj_map _ h1,Result.andThen,ChangeMaps.setBlock]
 have pQ:∀k,k≠b→(ChangeMaps.setBlock w b (.map (es.push ⟨Z7 d t,.agg #[.slice a n c,.int .i64 count],clock⟩) (clock+1))).heap[k]? =w.heap[k]? :=fun k hk=>by
  simp[ChangeMaps.setBlock,Ne.symm hk]
 have bTE:(ChangeMaps.setBlock w b (.map (es.push ⟨Z7 d t,.agg #[.slice a n c,.int .i64 count],clock⟩) (clock+1))).heap[b]? =some (.map (es.push ⟨Z7 d t,.agg #[.slice a n c,.int .i64 count],clock⟩) (clock+1)):=by
  simp[ChangeMaps.setBlock,kY]
 have tC:(ChangeMaps.setBlock w b (.map (es.push ⟨Z7 d t,.agg #[.slice a n c,.int .i64 count],clock⟩) (clock+1))).heap.size=w.heap.size:=by
  simp[ChangeMaps.setBlock]
 have hb:lG b w (ChangeMaps.setBlock w b (.map (es.push ⟨Z7 d t,.agg #[.slice a n c,.int .i64 count],clock⟩) (clock+1))):=
  ⟨rfl,rfl,rfl,by rw[tC];exact aY _,fun k _ hk=>pQ k hk⟩
 have qU:∀(a':Option Addr) (n' c':Nat) (l':List Int),Sl w a' n' c' 1 (ints .i64 l')→Sl (ChangeMaps.setBlock w b (.map (es.push ⟨Z7 d t,.agg #[.slice a n c,.int .i64 count],clock⟩) (clock+1))) a' n' c' 1 (ints .i64 l'):=by
  intro a' n' c' l' hs;refine⟨hs.len,hs.le,hs.max,fun i hi=>?_,hs.fit⟩;obtain⟨b2,o2,e2,aS2,hc2⟩:=hs.lies i hi;have EH:b2≠b:=by
   rintro rfl;have FX:0<(ints .i64 l').length:=by rw[hs.len];omega
   have:=hc2 0 _ (bH FX);unfold World.cell? at this;rw[h1]at this;cases this
  refine⟨b2,o2,e2,by rw[tC];exact aS2,fun j v hv=>?_⟩;have:=hc2 j v hv;unfold World.cell? at this ⊢;rw[pQ _ EH];exact this
 refine⟨_,aM6,?_,hb⟩;refine⟨_,_,bTE,by simp[h2],fun i e x he hx=>?_,by simp[h4],fun i e he=>?_⟩;rotate_left
 ·rcases eB i es.size with hi|hi
  ·rw[Array.getElem?_push_lt hi]at he;exact h5 i e (by rw[←he];simp[hi])
  ·have hi2:i=es.size:=by
    have:=(dA.1 he).1;simp at this;omega
   subst hi2;rw[Array.getElem?_push_size]at he;have hbn:e.born=clock:=congrArg MapEntry.born (Option.some.inj he).symm;exact hbn.trans h4
 rcases eB i es.size with hi|hi
 ·rw[Array.getElem?_push_lt hi]at he;rw[fJ aG]at hx;exact(h3 i e x (by rw[←he];simp[hi]) hx).mono qU
 ·rw[iA aG]at hx;have hi2:i=es.size:=by
   have:=(dP.1 hx).1;simp at this;omega
  subst hi2;rw[h2]at hx;simp at hx;rw[Array.getElem?_push_size]at he;injection he with he;rw[←he,←hx];exact⟨⟨hd,ht⟩,rfl,a,n,c,rfl,qU _ _ _ _ hs⟩
theorem aDN {w:World} {b:Nat} {l:List IE} (h:Rules w b l) {d t:Int} (hd:(Lit.int .i64 d).wf=true) (ht:(Lit.int .i64 t).wf=true):
  ((Instr.lookup 198 (.map (some b)) (Z7 d t) true).run Tryz.prog w= .ok (.tuple #[.agg #[.slice none 0 0,.int .i64 0],.bool false]) w∧∀x∈l,x.1≠(d,t))∨
  ∃x∈l,x.1=(d,t)∧∃a n c,Sl w a n c 1 (ints .i64 x.2.1)∧(Instr.lookup 198 (.map (some b)) (Z7 d t) true).run Tryz.prog w= .ok (.tuple #[.agg #[.slice a n c,.int .i64 x.2.2],.bool true]) w:=by
 obtain⟨es,clock,h1,h2,h3,_⟩:=h;obtain⟨kl,xK⟩:=ZF hd ht;have hz:(zeroValue 258).run Tryz.prog w= .ok (.agg #[.slice none 0 0,.int .i64 0]) w:=by kernel_rfl
 rcases aSI.find w xK es.toList (a90 h2 h3)with ⟨f1,f2⟩|⟨j,e,f1,f2,f3⟩
 ·left
  refine⟨by simp[Instr.lookup,run_underlying Tryz.underlying198,MapKept.run_getObj_map h1,aSI.check w _ xK,f1,hz,Result.andThen],fun x hx he=>?_⟩;obtain⟨i,hi,rfl⟩:=gU.1 hx;have vN:i<es.size:=by omega
  obtain⟨_,hk,_⟩:=h3 i es[i] l[i] (by simp[vN]) (bH hi);rw[he]at hk;exact f2 es[i] (by simp) hk
 ·right
  have hj':es[j]? =some e:=by simpa using f2
  have hjl:j<es.size:=(dA.1 hj').1;obtain⟨_,hk,a,n,c,hv,hs⟩:=h3 j e l[j] hj' (bH aG);rw[hk]at f3;refine⟨l[j],bP aG,aMG f3,a,n,c,hs,?_⟩;rw[hv]at f1;simp[Instr.lookup,run_underlying Tryz.underlying198,MapKept.run_getObj_map h1,aSI.check w _ xK,f1,Result.andThen]
section
variable {w:World} {ops:Array Oper} {rest:List Oper} {o:Oper} {a:Act} {Q:Exit→Act→World→Prop}
theorem a3G (hg:o.guard=none) (m x v:Operand) (hop:o.op=Op.mapUpdate 198 m x v) (b:Nat) (l:List IE) (d t count:Int) (a1:Option Addr) (n c:Nat) (types:List Int)
  (hm:a.eval m= .map (some b)) (hx:a.eval x=Z7 d t) (hv:a.eval v= .agg #[.slice a1 n c,.int .i64 count]) (hr:Rules w b l) (hd:(Lit.int .i64 d).wf=true) (ht:(Lit.int .i64 t).wf=true) (sJ:∀x∈l,x.1≠(d,t)) (hs:Sl w a1 n c 1 (ints .i64 types))
  (hK:∀w',Rules w' b (l++ [((d,t),(types,count))])→lG b w w'→wpList Tryz.prog ops Q rest (a.put o.dst undef) w'):wpList Tryz.prog ops Q (o::rest) a w:=by
 refine wpList_plain hg fun K' hK'=>?_;obtain⟨w',aM6,r1,r2⟩:=aDM hr hd ht sJ hs count;unfold Oper.wp;simp[execOp,hop,hm,hx,hv,aM6,Result.andThen];exact hK' _ _ (hK w' r1 r2)
theorem a3H (hg:o.guard=none) (m x:Operand) (hop:o.op=Op.lookup 198 m x true) (b:Nat) (l:List IE) (d t:Int)
  (hm:a.eval m= .map (some b)) (hx:a.eval x=Z7 d t) (hr:Rules w b l) (hd:(Lit.int .i64 d).wf=true) (ht:(Lit.int .i64 t).wf=true) (sJ:∀x∈l,x.1≠(d,t))
  (hK:wpList Tryz.prog ops Q rest (a.put o.dst (.tuple #[.agg #[.slice none 0 0,.int .i64 0],.bool false])) w):wpList Tryz.prog ops Q (o::rest) a w:=by
 refine wpList_plain hg fun K' hK'=>?_;rcases aDN hr hd ht with ⟨aM6,_⟩|⟨x,hx,he,_⟩
 ·unfold Oper.wp;simp[execOp,hop,hm,hx,aM6,Result.andThen];exact hK' _ _ hK
 ·exact absurd he (sJ x hx)
theorem a1Q (hg:o.guard=none) (m x:Operand) (hop:o.op=Op.lookup 198 m x true) (b:Nat) (l:List IE) (d t:Int)
  (hm:a.eval m= .map (some b)) (hx:a.eval x=Z7 d t) (hr:Rules w b l) (hd:(Lit.int .i64 d).wf=true) (ht:(Lit.int .i64 t).wf=true) (UJ:∃x∈l,x.1=(d,t))
  (hK:∀x∈l,x.1=(d,t)→∀a1 n c,Sl w a1 n c 1 (ints .i64 x.2.1)→wpList Tryz.prog ops Q rest (a.put o.dst (.tuple #[.agg #[.slice a1 n c,.int .i64 x.2.2],.bool true])) w):wpList Tryz.prog ops Q (o::rest) a w:=by
 refine wpList_plain hg fun K' hK'=>?_;rcases aDN hr hd ht with ⟨_,hn⟩|⟨x,OL,he,a1,n,c,hs,aM6⟩
 ·obtain⟨x,hx,he⟩:=UJ;exact absurd he (hn x hx)
 ·unfold Oper.wp;simp[execOp,hop,hm,hx,aM6,Result.andThen];exact hK' _ _ (hK x OL he a1 n c hs)
end
theorem Rules.made (w:World):Rules (w.alloc (.map #[] 0)) w.heap.size []:=⟨#[],0,nS w _,rfl,fun i e x he _=>by simp at he,rfl,fun i e he=>by simp at he⟩
theorem aSJ (b:Nat) (dir tag count:Int) (a:Option Addr) (n c:Nat) (types:List Int) (l:List IE) (w:World) (hr:Rules w b l) (hd:(Lit.int .i64 dir).wf=true) (ht:(Lit.int .i64 tag).wf=true) (sJ:∀x∈l,x.1≠(dir,tag)) (hs:Sl w a n c 1 (ints .i64 types)):
  Calls Tryz.prog 193 #[.agg #[.map (some b),.int .i64 dir],.int .i64 tag,.int .i64 count,.slice a n c] w fun e w'=>e= .returned (.tuple #[])∧Rules w' b (l++ [((dir,tag),(types,count))])∧lG b w w':=by
 have kY:=hr.lt;go_enter Tryz.func193,Tryz.ntmps193;go_wp2_with (at_mapUpdate;refine a3G rfl (.tmp 9) (.tmp 13) (.tmp 16) rfl b l dir tag count a n c types rfl rfl rfl (hr.mono ((bF _ _).alloc (aY _) _)) hd ht sJ (AZ hs _) ?_;intro w2 KT kP)
 go_end0
 exact⟨rfl,KT,((lG.refl b w).alloc _).trans kP⟩
end Go.Proofs.YtceclmpmpldmlaaGreat
namespace Tt
open Go
def qE:List (Int×List Int×Int):= [(256, [3,4],1),(257, [3,4],1),(259, [3],1),(274, [3],1),(296, [3],1),(531, [3],1),(270, [2],0),(271, [2],0),(272, [2],0),(305, [2],0),(315, [2],0),(33432, [2],0),(306, [2],20),(282, [5],1),(283, [5],1)]
def nM:List (Int×List Int×Int):= [(33434, [5],1),(33437, [5],1),(37378, [5],1),(37386, [5],1),(34850, [3],1),(37383, [3],1),(37384, [3],1),(37385, [3],1),(40961, [3],1),(41986, [3],1),(36864, [7],4),(37121, [7],4),(40960, [7],4),(37377, [10],1),(37380, [10],1),(36867, [2],20),(36868, [2],20),(40962, [3,4],1),(40963, [3,4],1),(34855, [3],0),(37510, [7],0),(37520, [2],0),(41728, [7],1),(42016, [2],33),(42034, [5],4)]
def NY:List (Int×List Int×Int):= [(0, [1],4),(5, [1],1),(6, [5],1),(1, [2],2),(3, [2],2),(2, [5],3),(4, [5],3),(7, [5],3),(18, [2],0),(29, [2],11)]
def G5:List (Int×List Int×Int):= [(45056, [7],4),(45313, [4],1),(45569, [4],1),(45570, [4],1),(45572, [5],1),(45574, [5],1),(45573, [10],1),(45576, [10],1)]
theorem nA:(qE.map (·.1)).Nodup:=by decide
theorem lH:(nM.map (·.1)).Nodup:=by decide
theorem tH:(NY.map (·.1)).Nodup:=by decide
theorem vX:(G5.map (·.1)).Nodup:=by decide
end Tt
namespace Go.Proofs.YtceclmpmpldmlaaGreat
open Go.RowKit Tt
def rJ (dir:Int) (ts:List (Int×List Int×Int)):List IE:=ts.map fun t=>((dir,t.1),(t.2.1,t.2.2))
theorem lM (b:Nat) (dir:Int) (ts:List (Int×List Int×Int)) (hnd:(ts.map (·.1)).Nodup) (l:List IE) (hd:(Lit.int .i64 dir).wf=true) (hl:∀x∈l,x.1.1≠dir) (k:Nat) (tag count:Int) (types:List Int) (hk:ts[k]? =some (tag,types,count)) (ht:(Lit.int .i64 tag).wf=true)
  (a:Option Addr) (n c:Nat) (w:World) (hr:Rules w b (l++rJ dir (ts.take k))) (hs:Sl w a n c 1 (ints .i64 types)):
  Calls Tryz.prog 193 #[.agg #[.map (some b),.int .i64 dir],.int .i64 tag,.int .i64 count,.slice a n c] w fun e w'=>e= .returned (.tuple #[])∧Rules w' b (l++rJ dir (ts.take (k+1)))∧lG b w w':=by
 have xK:k<ts.length:=(dP.1 hk).1;have hke:ts[k]=(tag,types,count):=(dP.1 hk).2;have sJ:∀x∈l++rJ dir (ts.take k),x.1≠(dir,tag):=by
  intro x hx he;rcases bO.1 hx with h|h
  ·exact hl x h (by rw[he])
  ·unfold rJ at h;obtain⟨y,hy,rfl⟩:=dH.1 h;simp at he;obtain⟨i,hi,hie⟩:=gU.1 hy;rw[eX]at hi;rw[List.getElem_take]at hie;have hp:=gH.1 hnd i k (by simp;omega) (by simpa using xK) aG;simp[hie,hke,he]at hp
 have e:l++rJ dir (ts.take (k+1))=l++rJ dir (ts.take k)++ [((dir,tag),(types,count))]:=by
  rw[dR,hk];simp[rJ]
 rw[e];exact aSJ b dir tag count a n c types _ w hr hd ht sJ hs
theorem a92 (b:Nat) (dir:Int) (l:List IE) (w:World) (hr:Rules w b l) (hd:(Lit.int .i64 dir).wf=true) (hl:∀x∈l,x.1.1≠dir):
  Calls Tryz.prog 192 #[.func (.func 193) #[.agg #[.map (some b),.int .i64 dir]] #[]] w fun e w'=>e= .returned (.tuple #[])∧Rules w' b (l++rJ dir qE)∧lG b w w':=by
 have R0:Hid (Rules w b (l++rJ dir (qE.take 0))):=aA (by simpa [rJ] using hr);have B0:Hid (lG b w w):=aA (lG.refl _ _);obtain⟨Hl,Hd⟩:=aJ hl hd;clear hr hl hd;go_enter Tryz.func192,Tryz.ntmps192;go_wp2;go_loopw [9] (fun i wr=>∃(k:Nat) (ki:Int),k≤2∧ki=k∧i= .int .i64 ki∧Hid (Rules wr b (l++rJ dir (qE.take (0+k))))∧Hid (lG b w wr)) (fun i _=>2 - (intOf i).toNat)
 case atStart=>exact⟨0,0,by omega,rfl,rfl,R0,B0⟩
 case round=>
  obtain⟨k,ki,hk,rF,rfl,hR,hB⟩:=hrel;rename World=>v1
  by_cases kY:k<2
  ·rcases(by omega:k=0∨k=1)with rfl|rfl
   ·obtain rfl:ki=0:=by omega
    clear hk kY rF;have qJ:∀W,(Instr.index 288 (.agg #[.int .i64 256,.int .i64 257]) (.int .i64 0)).run Tryz.prog W= .ok (.int .i64 256) W:=fun W=>by kernel_rfl
    go_wp2_with fail
    refine(lM b dir qE nA l Hd.o Hl.o 0 _ _ [3,4] rfl aH _ _ _ _ (hR.o.mono ((bF _ _).alloc (aY _) _)) (Sl.new v1 3 1 2 #[.int .i64 3,.int .i64 4] (0,0) aH rfl)).mono ?_;rintro e yy ⟨rfl,oK,oL⟩;have tV:=aA oK;have tX:Hid (lG b w yy):=aA ((hB.o.alloc _).trans oL);clear oK oL;go_wp2;go_roundw
    case rel=>exact⟨1,1,by omega,rfl,rfl,tV,tX⟩
    case measure=>simp[intOf]
   ·obtain rfl:ki=1:=by omega
    clear hk kY rF;have qJ:∀W,(Instr.index 288 (.agg #[.int .i64 256,.int .i64 257]) (.int .i64 1)).run Tryz.prog W= .ok (.int .i64 257) W:=fun W=>by kernel_rfl
    go_wp2_with fail
    refine(lM b dir qE nA l Hd.o Hl.o 1 _ _ [3,4] rfl aH _ _ _ _ (hR.o.mono ((bF _ _).alloc (aY _) _)) (Sl.new v1 3 1 2 #[.int .i64 3,.int .i64 4] (0,0) aH rfl)).mono ?_;rintro e yy ⟨rfl,oK,oL⟩;have tV:=aA oK;have tX:Hid (lG b w yy):=aA ((hB.o.alloc _).trans oL);clear oK oL;go_wp2;go_roundw
    case rel=>exact⟨2,2,by omega,rfl,rfl,tV,tX⟩
    case measure=>simp[intOf]
  ·obtain rfl:k=2:=by omega
   obtain rfl:ki=2:=by omega
   clear hk kY rF;have R1:=hR;have B1:=hB;clear hR hB;go_wp2;go_loopw [18] (fun i wr=>∃(k:Nat) (ki:Int),k≤4∧ki=k∧i= .int .i64 ki∧Hid (Rules wr b (l++rJ dir (qE.take (2+k))))∧Hid (lG b w wr)) (fun i _=>4 - (intOf i).toNat)
   case atStart=>exact⟨0,0,by omega,rfl,rfl,R1,B1⟩
   case round=>
    obtain⟨k,ki,hk,rF,rfl,hR,hB⟩:=hrel;rename World=>v2
    by_cases kY:k<4
    ·rcases(by omega:k=0∨k=1∨k=2∨k=3)with rfl|rfl|rfl|rfl
     ·obtain rfl:ki=0:=by omega
      clear hk kY rF;have qJ:∀W,(Instr.index 222 (.agg #[.int .i64 259,.int .i64 274,.int .i64 296,.int .i64 531]) (.int .i64 0)).run Tryz.prog W= .ok (.int .i64 259) W:=fun W=>by kernel_rfl
      go_wp2_with fail
      refine(lM b dir qE nA l Hd.o Hl.o 2 _ _ [3] rfl aH _ _ _ _ (hR.o.mono ((bF _ _).alloc (aY _) _)) (Sl.new v2 3 1 1 #[.int .i64 3] (0,0) aH rfl)).mono ?_;rintro e yy ⟨rfl,oK,oL⟩;have tV:=aA oK;have tX:Hid (lG b w yy):=aA ((hB.o.alloc _).trans oL);clear oK oL;go_wp2;go_roundw
      case rel=>exact⟨1,1,by omega,rfl,rfl,tV,tX⟩
      case measure=>simp[intOf]
     ·obtain rfl:ki=1:=by omega
      clear hk kY rF;have qJ:∀W,(Instr.index 222 (.agg #[.int .i64 259,.int .i64 274,.int .i64 296,.int .i64 531]) (.int .i64 1)).run Tryz.prog W= .ok (.int .i64 274) W:=fun W=>by kernel_rfl
      go_wp2_with fail
      refine(lM b dir qE nA l Hd.o Hl.o 3 _ _ [3] rfl aH _ _ _ _ (hR.o.mono ((bF _ _).alloc (aY _) _)) (Sl.new v2 3 1 1 #[.int .i64 3] (0,0) aH rfl)).mono ?_;rintro e yy ⟨rfl,oK,oL⟩;have tV:=aA oK;have tX:Hid (lG b w yy):=aA ((hB.o.alloc _).trans oL);clear oK oL;go_wp2;go_roundw
      case rel=>exact⟨2,2,by omega,rfl,rfl,tV,tX⟩
      case measure=>simp[intOf]
     ·obtain rfl:ki=2:=by omega
      clear hk kY rF;have qJ:∀W,(Instr.index 222 (.agg #[.int .i64 259,.int .i64 274,.int .i64 296,.int .i64 531]) (.int .i64 2)).run Tryz.prog W= .ok (.int .i64 296) W:=fun W=>by kernel_rfl
      go_wp2_with fail
      refine(lM b dir qE nA l Hd.o Hl.o 4 _ _ [3] rfl aH _ _ _ _ (hR.o.mono ((bF _ _).alloc (aY _) _)) (Sl.new v2 3 1 1 #[.int .i64 3] (0,0) aH rfl)).mono ?_;rintro e yy ⟨rfl,oK,oL⟩;have tV:=aA oK;have tX:Hid (lG b w yy):=aA ((hB.o.alloc _).trans oL);clear oK oL;go_wp2;go_roundw
      case rel=>exact⟨3,3,by omega,rfl,rfl,tV,tX⟩
      case measure=>simp[intOf]
     ·obtain rfl:ki=3:=by omega
      clear hk kY rF;have qJ:∀W,(Instr.index 222 (.agg #[.int .i64 259,.int .i64 274,.int .i64 296,.int .i64 531]) (.int .i64 3)).run Tryz.prog W= .ok (.int .i64 531) W:=fun W=>by kernel_rfl
      go_wp2_with fail
      refine(lM b dir qE nA l Hd.o Hl.o 5 _ _ [3] rfl aH _ _ _ _ (hR.o.mono ((bF _ _).alloc (aY _) _)) (Sl.new v2 3 1 1 #[.int .i64 3] (0,0) aH rfl)).mono ?_;rintro e yy ⟨rfl,oK,oL⟩;have tV:=aA oK;have tX:Hid (lG b w yy):=aA ((hB.o.alloc _).trans oL);clear oK oL;go_wp2;go_roundw
      case rel=>exact⟨4,4,by omega,rfl,rfl,tV,tX⟩
      case measure=>simp[intOf]
    ·obtain rfl:k=4:=by omega
     obtain rfl:ki=4:=by omega
     clear hk kY rF;have R2:=hR;have B2:=hB;clear hR hB;go_wp2;go_loopw [27] (fun i wr=>∃(k:Nat) (ki:Int),k≤6∧ki=k∧i= .int .i64 ki∧Hid (Rules wr b (l++rJ dir (qE.take (6+k))))∧Hid (lG b w wr)) (fun i _=>6 - (intOf i).toNat)
     case atStart=>exact⟨0,0,by omega,rfl,rfl,R2,B2⟩
     case round=>
      obtain⟨k,ki,hk,rF,rfl,hR,hB⟩:=hrel;rename World=>v3
      by_cases kY:k<6
      ·rcases(by omega:k=0∨k=1∨k=2∨k=3∨k=4∨k=5)with rfl|rfl|rfl|rfl|rfl|rfl
       ·obtain rfl:ki=0:=by omega
        clear hk kY rF;have qJ:∀W,(Instr.index 289 (.agg #[.int .i64 270,.int .i64 271,.int .i64 272,.int .i64 305,.int .i64 315,.int .i64 33432]) (.int .i64 0)).run Tryz.prog W= .ok (.int .i64 270) W:=fun W=>by kernel_rfl
        go_wp2_with fail
        refine(lM b dir qE nA l Hd.o Hl.o 6 _ _ [2] rfl aH _ _ _ _ (hR.o.mono ((bF _ _).alloc (aY _) _)) (Sl.new v3 3 1 1 #[.int .i64 2] (0,0) aH rfl)).mono ?_;rintro e yy ⟨rfl,oK,oL⟩;have tV:=aA oK;have tX:Hid (lG b w yy):=aA ((hB.o.alloc _).trans oL);clear oK oL;go_wp2;go_roundw
        case rel=>exact⟨1,1,by omega,rfl,rfl,tV,tX⟩
        case measure=>simp[intOf]
       ·obtain rfl:ki=1:=by omega
        clear hk kY rF;have qJ:∀W,(Instr.index 289 (.agg #[.int .i64 270,.int .i64 271,.int .i64 272,.int .i64 305,.int .i64 315,.int .i64 33432]) (.int .i64 1)).run Tryz.prog W= .ok (.int .i64 271) W:=fun W=>by kernel_rfl
        go_wp2_with fail
        refine(lM b dir qE nA l Hd.o Hl.o 7 _ _ [2] rfl aH _ _ _ _ (hR.o.mono ((bF _ _).alloc (aY _) _)) (Sl.new v3 3 1 1 #[.int .i64 2] (0,0) aH rfl)).mono ?_;rintro e yy ⟨rfl,oK,oL⟩;have tV:=aA oK;have tX:Hid (lG b w yy):=aA ((hB.o.alloc _).trans oL);clear oK oL;go_wp2;go_roundw
        case rel=>exact⟨2,2,by omega,rfl,rfl,tV,tX⟩
        case measure=>simp[intOf]
       ·obtain rfl:ki=2:=by omega
        clear hk kY rF;have qJ:∀W,(Instr.index 289 (.agg #[.int .i64 270,.int .i64 271,.int .i64 272,.int .i64 305,.int .i64 315,.int .i64 33432]) (.int .i64 2)).run Tryz.prog W= .ok (.int .i64 272) W:=fun W=>by kernel_rfl
        go_wp2_with fail
        refine(lM b dir qE nA l Hd.o Hl.o 8 _ _ [2] rfl aH _ _ _ _ (hR.o.mono ((bF _ _).alloc (aY _) _)) (Sl.new v3 3 1 1 #[.int .i64 2] (0,0) aH rfl)).mono ?_;rintro e yy ⟨rfl,oK,oL⟩;have tV:=aA oK;have tX:Hid (lG b w yy):=aA ((hB.o.alloc _).trans oL);clear oK oL;go_wp2;go_roundw
        case rel=>exact⟨3,3,by omega,rfl,rfl,tV,tX⟩
        case measure=>simp[intOf]
       ·obtain rfl:ki=3:=by omega
        clear hk kY rF;have qJ:∀W,(Instr.index 289 (.agg #[.int .i64 270,.int .i64 271,.int .i64 272,.int .i64 305,.int .i64 315,.int .i64 33432]) (.int .i64 3)).run Tryz.prog W= .ok (.int .i64 305) W:=fun W=>by kernel_rfl
        go_wp2_with fail
        refine(lM b dir qE nA l Hd.o Hl.o 9 _ _ [2] rfl aH _ _ _ _ (hR.o.mono ((bF _ _).alloc (aY _) _)) (Sl.new v3 3 1 1 #[.int .i64 2] (0,0) aH rfl)).mono ?_;rintro e yy ⟨rfl,oK,oL⟩;have tV:=aA oK;have tX:Hid (lG b w yy):=aA ((hB.o.alloc _).trans oL);clear oK oL;go_wp2;go_roundw
        case rel=>exact⟨4,4,by omega,rfl,rfl,tV,tX⟩
        case measure=>simp[intOf]
       ·obtain rfl:ki=4:=by omega
        clear hk kY rF;have qJ:∀W,(Instr.index 289 (.agg #[.int .i64 270,.int .i64 271,.int .i64 272,.int .i64 305,.int .i64 315,.int .i64 33432]) (.int .i64 4)).run Tryz.prog W= .ok (.int .i64 315) W:=fun W=>by kernel_rfl
        go_wp2_with fail
        refine(lM b dir qE nA l Hd.o Hl.o 10 _ _ [2] rfl aH _ _ _ _ (hR.o.mono ((bF _ _).alloc (aY _) _)) (Sl.new v3 3 1 1 #[.int .i64 2] (0,0) aH rfl)).mono ?_;rintro e yy ⟨rfl,oK,oL⟩;have tV:=aA oK;have tX:Hid (lG b w yy):=aA ((hB.o.alloc _).trans oL);clear oK oL;go_wp2;go_roundw
        case rel=>exact⟨5,5,by omega,rfl,rfl,tV,tX⟩
        case measure=>simp[intOf]
       ·obtain rfl:ki=5:=by omega
        clear hk kY rF;have qJ:∀W,(Instr.index 289 (.agg #[.int .i64 270,.int .i64 271,.int .i64 272,.int .i64 305,.int .i64 315,.int .i64 33432]) (.int .i64 5)).run Tryz.prog W= .ok (.int .i64 33432) W:=fun W=>by kernel_rfl
        go_wp2_with fail
        refine(lM b dir qE nA l Hd.o Hl.o 11 _ _ [2] rfl aH _ _ _ _ (hR.o.mono ((bF _ _).alloc (aY _) _)) (Sl.new v3 3 1 1 #[.int .i64 2] (0,0) aH rfl)).mono ?_;rintro e yy ⟨rfl,oK,oL⟩;have tV:=aA oK;have tX:Hid (lG b w yy):=aA ((hB.o.alloc _).trans oL);clear oK oL;go_wp2;go_roundw
        case rel=>exact⟨6,6,by omega,rfl,rfl,tV,tX⟩
        case measure=>simp[intOf]
      ·obtain rfl:k=6:=by omega
       obtain rfl:ki=6:=by omega
       clear hk kY rF;have R3:=hR;have B3:=hB;clear hR hB;go_wp2_with fail
       refine(lM b dir qE nA l Hd.o Hl.o 12 _ _ [2] rfl aH _ _ _ _ (R3.o.mono ((bF _ _).alloc (aY _) _)) (Sl.new v3 3 1 1 #[.int .i64 2] (0,0) aH rfl)).mono ?_;rintro e x4 ⟨rfl,rx4,bx4⟩;have Rx4:=aA rx4;have Bx4:Hid (lG b w x4):=aA ((B3.o.alloc _).trans bx4);clear rx4 bx4;go_wp2_with fail
       refine(lM b dir qE nA l Hd.o Hl.o 13 _ _ [5] rfl aH _ _ _ _ (Rx4.o.mono ((bF _ _).alloc (aY _) _)) (Sl.new x4 3 1 1 #[.int .i64 5] (0,0) aH rfl)).mono ?_;rintro e x5 ⟨rfl,rx5,bx5⟩;have Rx5:=aA rx5;have Bx5:Hid (lG b w x5):=aA ((Bx4.o.alloc _).trans bx5);clear rx5 bx5;go_wp2_with fail
       refine(lM b dir qE nA l Hd.o Hl.o 14 _ _ [5] rfl aH _ _ _ _ (Rx5.o.mono ((bF _ _).alloc (aY _) _)) (Sl.new x5 3 1 1 #[.int .i64 5] (0,0) aH rfl)).mono ?_;rintro e x6 ⟨rfl,rx6,bx6⟩;have Rx6:=aA rx6;have Bx6:Hid (lG b w x6):=aA ((Bx5.o.alloc _).trans bx6);clear rx6 bx6;go_wp2;go_end0
       exact⟨rfl,Rx6.o,Bx6.o⟩
