import Derived.WalkKit
import Derived.WalkSpells
import Derived.WalkLawsBesides
import Derived.BigQuiet
import Derived.Lib.Hide
import Derived.Deep.QuietTactic
import Derived.Laws.AppendOwnNone
import Derived.Laws.BytesArg
import Derived.Lib.Bytes
import Derived.Lib.SlBytesConst
import Derived.Test.YtceclmpmpldmlaaGreatRows
import Derived.Laws.CopyOwn
import Derived.ArgAppend
import Derived.Lib.SliceRun
import Derived.StillTail
import Derived.StillTailTactics
import Derived.Deep.RegionLaw
import Derived.Deep.CutRange
import Derived.Deep.Cut
import Derived.BigRegion
import Derived.Laws.ResultCell
import Derived.Laws.Rows
import Derived.Deep.RegionHeld
import Derived.Test.YtceclmpmpldmlaaGreatCwH
set_option linter.unusedSimpArgs false
set_option linter.unusedVariables false
namespace Tt
open Go Go.RowKit
theorem aAG {k:IntKind} {a b:Int} (h:a=b):Ending.returned (.int k a)= .returned (.int k b):=by rw[h]
theorem EP {a b:Bool} (h:a=b):Ending.returned (.bool a)= .returned (.bool b):=by rw[h]
structure Sl (w:World) (a:Option Addr) (n cap sz:Nat) (cs:List Value):Prop where
 len:cs.length=n*sz
 le:n≤cap
 max:cap≤9223372036854775807
 lies:∀i,i<n→∃b off,a=some ⟨b,off,none⟩∧b<w.heap.size∧∀j v,cs[j]? =some v→w.cell? ⟨b,off+j,none⟩=some v
 fit:a=none→cap=0
def ints (k:IntKind) (l:List Int):List Value:=l.map (Value.int k)
theorem qN {k:IntKind} {l:List Int} {i:Nat} (h:i<l.length):(ints k l)[i]? =some (.int k (l.getD i 0)):=by
 simp[ints,h]
theorem qO {k:IntKind} {l:List Int}:(ints k l).length=l.length:=by simp[ints]
theorem wQ {k:IntKind} {l:List Int}:∀u∈ints k l,u.oneCell'=true:=by
 intro u hu;simp only[ints,dH]at hu;obtain⟨x,_,rfl⟩:=hu;rfl
theorem vW {k:IntKind} {x y:List Int}:ints k (x++y)=ints k x++ints k y:=by simp[ints]
theorem Sl.at {w:World} {a:Option Addr} {n cap sz:Nat} {cs:List Value} (h:Sl w a n cap sz cs) {i:Nat} (hi:i<n):
  ∃b off,a=some ⟨b,off,none⟩∧b<w.heap.size∧∀j v,cs[j]? =some v→w.cell? ⟨b,off+j,none⟩=some v:=h.lies i hi
theorem Sl.p9 {w:World} {a:Option Addr} {n cap:Nat} {k:IntKind} {l:List Int} (h:Sl w a n cap 1 (ints k l)):l.length=n:=by
 rw[←@qO k,h.len,iH]
theorem Sl.mono {w w':World} {a:Option Addr} {n cap sz:Nat} {cs:List Value} (h:Sl w a n cap sz cs) (hb:Below w.heap.size w w'):Sl w' a n cap sz cs:=
 ⟨h.len,h.le,h.max,fun i hi=>by
  obtain⟨b,off,e,kY,hc⟩:=h.lies i hi;exact⟨b,off,e,dD kY hb.size,fun j v hv=>by rw[hb.cell (p:=⟨b,off+j,none⟩) kY];exact hc j v hv⟩,h.fit⟩
theorem Sl.drewN {w:World} {m:Nat} {a:Option Addr} {n cap sz:Nat} {cs:List Value} (h:Sl w a n cap sz cs):Sl (w.drewN m) a n cap sz cs:=⟨h.len,h.le,h.max,h.lies,h.fit⟩
def Qt (w w':World):Prop:=∃m,w'=w.drewN m
theorem Qt.refl (w:World):Qt w w:=⟨0,rfl⟩
theorem Qt.step {a b:World} (h:Qt a b) (m:Nat):Qt a (b.drewN m):=by obtain⟨k,rfl⟩:=h;exact⟨k+m,World.drewN_drewN ..⟩
theorem Qt.below {a b:World} (h:Qt a b) (B:Nat):Below B a b:=by obtain⟨k,rfl⟩:=h;exact⟨rfl,rfl,rfl,aY _,fun _ _=>rfl⟩
theorem Sl.qt {w w':World} {a:Option Addr} {n cap sz:Nat} {cs:List Value} (h:Sl w a n cap sz cs) (q:Qt w w'):Sl w' a n cap sz cs:=h.mono (q.below _)
theorem Qt.ex {w w':World} (h:Qt w w'):∃m,w'=w.drewN m:=h
theorem Sl.nil (w:World) (sz:Nat):Sl w none 0 0 sz []:=⟨by simp,aY _,by omega,fun i hi=>by omega,fun _=>rfl⟩
theorem Sl.kZ {w:World} {B:Nat} {E:TypeId} {sz:Nat} {a:Option Addr} {n c m:Nat} {xs:List Value} (h:w.ownsRow B E sz (.slice a n c) m xs):Sl w a n c sz xs∧m=n:=by
 obtain⟨hl,hr⟩:=h;rcases hr with ⟨hv,rfl⟩|⟨g,cap,cur,hv,hB,hg,hnc,hcm,SV,NV⟩
 ·injection hv with h1 h2 h3
  subst h1 h2 h3;rw[fM]at hl;obtain rfl:=dS hl;exact⟨Sl.nil _ _,rfl⟩
 ·injection hv with h1 h2 h3
  subst h1 h2 h3;refine⟨⟨hl,hnc,hcm,fun i hi=>⟨g,0,rfl,(dA.1 hg).1,fun j v hj=>?_⟩,(fun h=>by cases h)⟩,rfl⟩;rw[←NV]at hj;have hj':cur.toList[j]? =some v:=by
   rw[dM]at hj;split at hj
   ·exact hj
   ·cases hj
  simp[World.cell?,hg];simpa using hj'
theorem lN {w:World} {B B':Nat} {E:TypeId} {sz:Nat} {v:Value} {n:Nat} {xs:List Value} (h:w.ownsRow B E sz v n xs) (hB:B'≤B):w.ownsRow B' E sz v n xs:=by
 obtain⟨hl,hr⟩:=h;refine⟨hl,?_⟩;rcases hr with hn|⟨g,cap,cur,hv,hb,r⟩
 ·exact .inl hn
 ·exact .inr ⟨g,cap,cur,hv,bU hB hb,r⟩
theorem l6 {w w':World} {B:Nat} {E:TypeId} {sz:Nat} {v:Value} {n:Nat} {xs:List Value} (h:w.ownsRow B E sz v n xs) (hb:Below w.heap.size w w'):w'.ownsRow B E sz v n xs:=by
 obtain⟨hl,hr⟩:=h;refine⟨hl,?_⟩;rcases hr with hn|⟨g,cap,cur,hv,hB,hg,r⟩
 ·exact .inl hn
 ·exact .inr ⟨g,cap,cur,hv,hB,by rw[hb.block g (dA.1 hg).1];exact hg,r⟩
theorem aOL {w w':World} {B:Nat} {E:TypeId} {sz:Nat} {v:Value} {n:Nat} {xs:List Value} (h:w.ownsRow B E sz v n xs) (hk:∀k,B≤k→k<w.heap.size→w'.heap[k]? =w.heap[k]?):w'.ownsRow B E sz v n xs:=by
 obtain⟨hl,hr⟩:=h;refine⟨hl,?_⟩;rcases hr with hn|⟨g,cap,cur,hv,hB,hg,r⟩
 ·exact .inl hn
 ·exact .inr ⟨g,cap,cur,hv,hB,by rw[hk g hB (dA.1 hg).1];exact hg,r⟩
theorem lC (w:World) (B:Nat) (E:TypeId) (sz:Nat):w.ownsRow B E sz (.slice none 0 0) 0 []:=⟨by simp,.inl ⟨rfl,rfl⟩⟩
theorem nS (w:World) (o:Obj):(w.alloc o).heap[w.heap.size]? =some o:=by show(w.heap.push o)[w.heap.size]? =some o;simp
theorem wZ (w:World) (o:Obj) {n:Nat} (h:n=w.heap.size):(w.alloc o).heap[n]? =some o:=by rw[h];exact nS w o
theorem wR (w:World) (o:Obj) {n:Nat} (h:n<w.heap.size):(w.alloc o).heap[n]? =w.heap[n]? :=Below.heap_alloc w o n h
theorem a2N (w:World) (B:Nat) (E:TypeId) (sz n:Nat) (cur:Array Value) (hB:B≤w.heap.size) (hn:n≤maxLen) (hs:cur.size=n*sz):
  (w.alloc (.cells cur E)).ownsRow B E sz (.slice (some ⟨w.heap.size,0,none⟩) n n) n cur.toList:=by
 refine⟨by simpa using hs,.inr ⟨w.heap.size,n,cur,rfl,hB,nS w _,aY _,hn,hs,?_⟩⟩;rw[←hs,←dG,List.take_length]
theorem Sl.new (w:World) (E:TypeId) (sz n:Nat) (cur:Array Value) (fz:Nat×Nat) (hn:n≤9223372036854775807) (hs:cur.size=n*sz):
  Sl (w.alloc (.cells cur E fz)) (some ⟨w.heap.size,0,none⟩) n n sz cur.toList:=
 ⟨by simpa using hs,aY _,hn,fun i hi=>⟨w.heap.size,0,rfl,by simp,fun j v hj=>by
  have h:=nS w (.cells cur E fz);unfold World.cell?;rw[h];simpa using hj⟩,(fun h=>by cases h)⟩
theorem below_grown {B:Nat} {W w w':World} {v:Value} {E:TypeId} {sz n:Nat} {xs:List Value} (h:Below B W w) (hg:w.grownBy w' v.ownBlock) (hB:B≤w.heap.size) (ho:w.ownsRow B E sz v n xs):Below B W w':=
 h.grown hg hB fun k e=>(ho.lt k e).1
theorem AZ {w:World} {a:Option Addr} {n cap sz:Nat} {cs:List Value} (h:Sl w a n cap sz cs) (x:Obj):Sl (w.alloc x) a n cap sz cs:=h.mono ((bF _ _).alloc (aY _) _)
theorem aIH {w:World} {a:Option Addr} {n c sz:Nat} {cs:List Value} (h:Sl w a n c sz cs) (l hi:Nat) (h1:l≤hi) (h2:hi≤n) (n2 c2:Nat) (hn2:n2=hi - l) (hc2:c2=c - l):
  Sl w (if c=l then a else a.map (·.add (l*sz))) n2 c2 sz ((cs.drop (l*sz)).take (n2*sz)):=by
 have FI:=h.le;have c1B:(l+n2)*sz≤n*sz:=iW _ aG;rw[Nat.add_mul]at c1B;refine⟨?_,by omega,by have:=h.max;omega,fun i hi=>?_,fun he=>?_⟩
 ·rw[eX,gF,h.len];omega
 ·rw[if_neg aG];obtain⟨b,off,e,kY,aOJ⟩:=h.lies 0 aG;refine⟨b,off+l*sz,by rw[e];simp[fF],kY,fun j v hj=>?_⟩;have hj2:cs[l*sz+j]? =some v:=by
   rw[dM]at hj;split at hj
   ·rw[eY]at hj;exact hj
   ·cases hj
  rw[Nat.add_assoc];exact aOJ _ v hj2
 ·split at he
  ·have:=h.fit he;omega
  ·cases a with
   |none=>have:=h.fit rfl;omega
   |some y=>cases he
section
variable {P:Program} {T E:TypeId} {sz:Nat} (ht:P.underlying T=some (.slice E)) (hE:∀w,(Go.sizeOf E).run P w= .ok sz w)
include ht hE
end
theorem late {W w1:World} {p:Addr} {z:Value} (h:Below W.heap.size W w1) (hp:p.block<W.heap.size) (hz:W.cell? p=some z):w1.cell? p=some z:=(h.cell hp).trans hz
def pF (l:List Int):Prop:=∀x∈l,0≤x∧x<256
theorem pF.append {x y:List Int} (hx:pF x) (hy:pF y):pF (x++y):=fun z hz=>by
 rcases bO.1 hz with h|h
 ·exact hx z h
 ·exact hy z h
theorem pF.take {x:List Int} (hx:pF x) (k:Nat):pF (x.take k):=fun z hz=>hx z (gQ hz)
theorem pF.drop {x:List Int} (hx:pF x) (k:Nat):pF (x.drop k):=fun z hz=>hx z (gT hz)
theorem pF.get {x:List Int} (hx:pF x) (k:Nat):0≤x.getD k 0∧x.getD k 0<256:=by
 rw[aZ];rcases eB k x.length with h|h
 ·rw[bH h];exact hx _ (bP h)
 ·rw[fE h];simp
theorem aMD:∀{x y:List Int},pF x→pF y→(x.map fun n=>UInt8.ofNat n.toNat)=(y.map fun n=>UInt8.ofNat n.toNat)→x=y
 | [], [],_,_,_=>rfl
 | [],_::_,_,_,h=>by simp at h
 |_::_, [],_,_,h=>by simp at h
 |a::x,b::y,hx,hy,h=>by
  simp only[aW,iU]at h;obtain⟨h1,h2⟩:=h;have ha:=hx a (bQ ..);have hb:=hy b (bQ ..);have h3:=congrArg UInt8.toNat h1;simp[fH (show a.toNat<256 by omega),fH (show b.toNat<256 by omega)]at h3;have:a=b:=by omega
  rw[this,aMD (fun z hz=>hx z (bL _ hz)) (fun z hz=>hy z (bL _ hz)) h2]
theorem aME {x y:List Int} (hx:pF x) (hy:pF y):((strOfNums x).toList==(strOfNums y).toList)=(x==y):=by
 rw[Lib.strOfNums_toList,Lib.strOfNums_toList,dY,beq_iff_eq,beq_iff_eq];exact⟨fun h=>aMD hx hy h,fun h=>by rw[h]⟩
theorem a3C {P:Program} {w:World} {a:Option Addr} {n c:Nat} {xs:List Int} (h:Sl w a n c 1 (ints .u8 xs)) (src e dst:TypeId) (hs:P.underlying src=some (.slice e)) (he:P.underlying e=some (.int .u8)) (hd:P.underlying dst=some .string):
  (convert src dst (.slice a n c)).run P w= .ok (.string (strOfNums xs)) w:=by
 have hl:=h.p9;rcases iE n with h0|h0
 ·subst h0;have hx:xs= []:=dS hl;subst hx;rw[run_convert_bytes_string w src dst e _ 0 c hs he hd];cases a <;> simp[Conv.bytesToString,loadCells]
  all_goals rfl
 ·obtain⟨b,off,rfl,_,hc⟩:=h.at h0;exact run_convert_bytes_arg w src e hs he b off n c xs hl (fun i hi=>hc i _ (qN aG)) dst hd
section
variable {P:Program} {w:World} {ops:Array Oper} {rest:List Oper} {o:Oper} {a:Act} {Q:Exit→Act→World→Prop}
theorem qD (UA:o.guard=none) (s x:Operand) (t:TypeId)
  (ho:o.op= .call {callee:= .builtin .append,args:=#[s,x],argTypes:=#[t,t]})
  (base:Nat) (e:TypeId) (i:TypeInfo) (z:Value) (size bytes:Nat) (ht:P.underlying t=some (.slice e)) (hi:P.info? e=some i) (hz:i.zero=some z)
  (hsize:i.size=size) (qL:i.bytes=bytes) (UB:z.cells.size=size) (tC:0<size)
  (v:Value) (n:Nat) (xs:List Value) (hs:a.eval s=v) (mK:w.ownsRow base e size v n xs)
  (xa:Option Addr) (m c:Nat) (news:List Value) (hx:a.eval x= .slice xa m c) (hS:Sl w xa m c size news) (h1:∀u∈news,u.oneCell'=true)
  (hbytes:(n+m)*bytes≤140737488355328) (AX:0<bytes) (hbase:base≤w.heap.size)
  (h:∀(a':Option Addr) (c':Nat) (w':World),w'.ownsRow base e size (.slice a' (n+m) c') (n+m) (xs++news)→Below base w w'→w.grownBy w' v.ownBlock→wpList P ops Q rest (a.put o.dst (.slice a' (n+m) c')) w'):wpList P ops Q (o::rest) a w:=by
 have h63:n+m≤maxLen:=by
  have:(n+m)*1≤(n+m)*bytes:=Nat.mul_le_mul_left _ AX;unfold maxLen;omega
 have GA:∀(v':Value) (w':World),w'.ownsRow base e size v' (n+m) (xs++news)→∃(a':Option Addr) (c':Nat),v'= .slice a' (n+m) c':=by
  intro v' w' hw;rcases hw.2 with ⟨rfl,h0⟩|⟨g,cap,cur,rfl,_⟩
  ·exact⟨none,0,by rw[h0]⟩
  ·exact⟨_,_,rfl⟩
 cases xa with
 |none=>
  have hc:=hS.fit rfl;subst hc;have hm:m=0:=by have:=hS.le;omega
  subst hm;have hn0:news= []:=dS (by rw[hS.len];simp);subst hn0;rw[dB,dU]at h;refine wpList_append_own_none UA s x t ho base e i size ht hi v n xs hs mK hx ?_;obtain⟨a',c',rfl⟩:=GA v w (by simpa using mK);exact h _ _ w mK (bF _ _) (World.grownBy.refl _ _)
 |some ad=>
  refine wpList_append_own w UA s x t ho base e i z size bytes ht hi hz hsize qL UB tC v n xs hs mK ad m c news hx hS.len ?_ h1 h63 hbytes hbase ?_
  ·intro j u hu;have hj:j<news.length:=(dP.1 hu).1;have hm:0<m:=by
    rcases iE m with h0|h0
    ·rw[hS.len,h0]at hj;omega
    ·exact h0
   obtain⟨b,off,e1,_,hc⟩:=hS.lies 0 hm;injection e1 with e1;subst e1;rw[fF];exact hc j u hu
  ·intro v' w' h2 h3 _;obtain⟨a',c',rfl⟩:=GA v' w' h2;exact h _ _ w' h2 (below_grown (bF _ _) h3 hbase mK) h3
end
theorem aAH {x y:List Int} {k n:Nat} (hx:x.length=n) (hy:y.length=n) (hk:k<n) (h:x.take k=y.take k) (he:x.getD k 0=y.getD k 0):x.take (k+1)=y.take (k+1):=by
 rw[dR,dR,h];congr 1
 simp only[aZ]at he;rw[bH aG,bH aG]at he ⊢;simpa using he
theorem aS8 {x y:List Int} {k:Nat} (he:¬x.getD k 0=y.getD k 0):(x==y)=false:=by
 rw[beq_eq_false_iff_ne];rintro rfl;exact he rfl
theorem aII {x y:List Int} {k n:Nat} (hx:x.length=n) (hy:y.length=n) (hk:n≤k) (h:x.take k=y.take k):(x==y)=true:=by
 rw[bW aG,bW aG]at h;simp[h]
theorem KV {w:World} {B B':Nat} {E E':TypeId} {sz sz':Nat} {v v':Value} {n n':Nat} {xs xs':List Value} (h:w.ownsRow B E sz v n xs) (h':w.ownsRow B' E' sz' v' n' xs') (hE:E≠E'):v.ownBlock=none∨v.ownBlock≠v'.ownBlock:=by
 rcases h.2 with ⟨rfl,_⟩|⟨g,cap,cur,rfl,_,hg,_⟩
 ·exact .inl rfl
 ·refine .inr ?_;rcases h'.2 with ⟨rfl,_⟩|⟨g',cap',cur',rfl,_,hg',_⟩
  ·simp[Value.ownBlock]
  ·simp only[Value.ownBlock,ne_eq,fQ];rintro rfl;rw[hg]at hg';injection hg' with hg';injection hg' with _ h2 _;exact hE h2
def Row (w:World) (g:Nat) (E:TypeId) (k:IntKind) (l:List Int):Prop:=w.heap[g]? =some (.cells (ints k l).toArray E (0,0))
theorem Row.own {w:World} {g B:Nat} {E:TypeId} {k:IntKind} {l:List Int} {n:Nat} (h:Row w g E k l) (hl:l.length=n) (hB:B≤g) (hm:n≤maxLen):w.ownsRow B E 1 (.slice (some ⟨g,0,none⟩) n n) n (ints k l):=
 ⟨by rw[qO,hl,iH],.inr ⟨g,n,_,rfl,hB,h,aY _,hm,by simp[qO,hl],by simp;rw[bW (by rw[qO,hl];exact aY _)]⟩⟩
theorem Row.kZ {w:World} {g B:Nat} {E:TypeId} {k:IntKind} {l:List Int} {n:Nat} (h:w.ownsRow B E 1 (.slice (some ⟨g,0,none⟩) n n) n (ints k l)):Row w g E k l:=by
 rcases h.2 with ⟨hv,_⟩|⟨g',cap,cur,hv,_,hg,_,_,SV,NV⟩
 ·cases hv
 ·injection hv with h1 h2 h3
  injection h1 with h1;injection h1 with h1;subst h1 h3;unfold Row;rw[hg,←NV,bW (by rw[dG,SV];exact aY _)]
theorem Row.cell {w:World} {g:Nat} {E:TypeId} {k:IntKind} {l:List Int} (h:Row w g E k l) {i:Nat} (hi:i<l.length):w.cell? ⟨g,i,none⟩=some (.int k (l.getD i 0)):=by
 unfold World.cell?;rw[h];simpa using qN (k:=k) hi
theorem Row.frozen {w:World} {g:Nat} {E:TypeId} {k:IntKind} {l:List Int} (h:Row w g E k l) (i:Nat):w.frozen? ⟨g,i,none⟩=false:=by
 unfold World.frozen?;rw[h];simp
theorem Row.set {w:World} {g:Nat} {E:TypeId} {k:IntKind} {l:List Int} (h:Row w g E k l) (i:Nat) (v:Int):Row (w.setCell ⟨g,i,none⟩ (.int k v)) g E k (l.set i v):=by
 unfold Row at*;simp[World.setCell,iD,h,ints,List.map_set]
theorem OP {k:IntKind} {l cs:List Int} (i:Nat):splice (ints k l) i (ints k cs)=ints k (splice l i cs):=by
 unfold splice ints;simp
theorem Row.lt {w:World} {g:Nat} {E:TypeId} {k:IntKind} {l:List Int} (h:Row w g E k l):g<w.heap.size:=(dA.1 h).1
theorem Sl.new' {b:Nat} (w:World) (E:TypeId) (sz n:Nat) (cur:Array Value) (fz:Nat×Nat) (hb:b=w.heap.size) (hn:n≤9223372036854775807) (hs:cur.size=n*sz):
  Sl (w.alloc (.cells cur E fz)) (some ⟨b,0,none⟩) n n sz cur.toList:=by rw[hb];exact Sl.new w E sz n cur fz hn hs
section
variable {P:Program} {w:World} {ops:Array Oper} {rest:List Oper} {o:Oper} {a:Act} {Q:Exit→Act→World→Prop}
theorem zP (UA:o.guard=none) (d s:Operand) (dT sT:TypeId)
  (ho:o.op= .call {callee:= .builtin .copy,args:=#[d,s],argTypes:=#[dT,sT]}) (elem:TypeId) (hu:P.underlying dT=some (.slice elem)) (tC:(P.info? elem).map (·.size)=some 1)
  (g n:Nat) (k:IntKind) (l:List Int) (hd:a.eval d= .slice (some ⟨g,0,none⟩) n n) (hR:Row w g elem k l) (hl:l.length=n)
  (sa:Option Addr) (m c:Nat) (cs:List Int) (hs:a.eval s= .slice sa m c) (hS:Sl w sa m c 1 (ints k cs)) (B:Nat) (w0:World) (hb:Below B w0 w) (hBg:B≤g)
  (h:∀w',Row w' g elem k (splice l 0 (cs.take n))→Below B w0 w'→wpList P ops Q rest (a.put o.dst (goInt ((min m n:Nat):Int))) w'):wpList P ops Q (o::rest) a w:=by
 have hml:=hS.p9;have sI:(ints k (cs.take n)).length=min m n:=by rw[qO,eX,hml,Nat.min_comm]
 refine wpList_copy_splice UA d s dT sT ho elem hu tC (some ⟨g,0,none⟩) sa n n m c hd hs g 0 (ints k l) elem hR (ints k (cs.take n)) sI ?_ (by rw[sI,qO,hl];omega) wQ B w0 hb hBg ?_
 ·intro hp;rw[sI]at hp;obtain⟨b,off,e,_,hc⟩:=hS.lies 0 aG;refine⟨rfl,⟨b,off,none⟩,e,fun j v hj=>?_⟩;rw[fF];refine hc j v ?_;rw[ints,j3]at hj;rw[dM]at hj;split at hj
  ·exact hj
  ·cases hj
 ·intro w' hw pW;rw[OP]at hw;rw[sI];exact h w' hw.o pW
end
theorem OQ (g:Nat):∀(vs:List Value) (o:Nat) (w:World) (k:Nat),k≠g→(w.setCells g o vs).heap[k]? =w.heap[k]?
 | [],_,_,_,_=>rfl
 |v::r,o,w,k,h=>(OQ g r (o+1) _ k h).trans (eZ _ _ _ _ h)
theorem aS9 {w:World} {B B':Nat} {E E':TypeId} {sz sz':Nat} {v v':Value} {n n':Nat} {xs xs':List Value} (h:w.ownsRow B E sz v n xs) (h':w.ownsRow B' E' sz' v' n' xs') (hE:E≠E') {g:Nat} (hg':v'.ownBlock=some g) (o:Nat) (vs:List Value):(w.setCells g o vs).ownsRow B E sz v n xs:=by
 have hap:=KV h h' hE;obtain⟨hl,hr⟩:=h;rcases hr with hn|⟨g1,cap,cur,hv,hB,hg,r⟩
 ·exact⟨hl,.inl hn⟩
 ·refine⟨hl,.inr ⟨g1,cap,cur,hv,hB,(OQ g vs o w g1 ?_).trans hg,r⟩⟩;rintro rfl;subst hv;rcases hap with h1|h1
  ·cases h1
  ·exact h1 hg'.symm
section
variable {P:Program} {w:World} {ops:Array Oper} {rest:List Oper} {o:Oper} {a:Act} {Q:Exit→Act→World→Prop}
end
theorem a3D {P:Program} {o:Oper} {a:Act} {w:World} {K K':Act→Prop} (h:∀a,K a→K' a) (hh:o.quiet P a (fun w'=>w'=w) K):o.still P a w K':=by
 obtain⟨v,h1,h2⟩:=hh;have h3:=h1 w rfl;unfold Oper.quietAt at h3;unfold Oper.still;generalize (execOp a.eval o).run P w=r at*;cases r with
 |ok n w'=>
  cases n <;> simp only[Oper.quietUpon,Oper.stillUpon]at h3 ⊢
  case enter f args=>exact⟨h3.1,v,h3.2,h _ h2⟩
  case value u=>exact⟨h3.1,by rw[h3.2];exact h _ h2⟩
  case skip=>exact⟨h3.1,by have h2':=h _ h2;rw[h3.2]at h2';exact h2'⟩
 |halt x w'=>simp only[Oper.quietUpon]at h3
theorem DU {P:Program} {ops:Array Oper} {w:World} {Q:Act→Prop}:∀(l:List Oper) (a:Act),wpQuiet P ops (fun w'=>w'=w) Q l a→wpStill P ops w Q l a
 | [],a,h=>h
 |o::rest,a,h=>by
  unfold wpQuiet at h;unfold wpStill;split
  ·rename_i hw;rw[if_pos hw]at h;exact a3D (fun a=>DU rest a) h
  ·rename_i hw;rw[if_neg hw]at h;exact DU rest _ h
theorem KG {P:Program} {id:Nat} {Q:Exit→Act→World→Prop} {a:Act} {w:World} {l:List Oper} (n:Nat) (hm:P.follows .mixedOrders=true) (hB:Region.lexTailB .any l.toArray n=true)
  (l1 l2:List Oper) (h1:l.take n=l1) (h2:l.drop n=l2)
  (h:wpQuiet P l.toArray (fun w'=>w'=w.drew) (fun a'=>wpList P l.toArray Q l2 a' w.drew) l1 a):(Code.region id l.toArray true).wp P Q a w:=by
 subst h1 h2;exact wp_region_still_tail n hm hB (DU _ _ h)
def kG (w:World) (g:Nat) (T:TypeId) (cs:Array Value):Prop:=w.heap[g]? =some (.cells cs T (0,0))
theorem kG.lt {w:World} {g:Nat} {T:TypeId} {cs:Array Value} (h:kG w g T cs):g<w.heap.size:=(dA.1 h).1
theorem kG.cell {w:World} {g:Nat} {T:TypeId} {cs:Array Value} (h:kG w g T cs) {i:Nat} {v:Value} (hv:cs[i]? =some v):w.cell? ⟨g,i,none⟩=some v:=by
 unfold World.cell?;rw[h];simpa using hv
theorem kG.frozen {w:World} {g:Nat} {T:TypeId} {cs:Array Value} (h:kG w g T cs) (i:Nat):w.frozen? ⟨g,i,none⟩=false:=by
 unfold World.frozen?;rw[h];simp
theorem kG.mono {B:Nat} {w w':World} {g:Nat} {T:TypeId} {cs:Array Value} (h:kG w g T cs) (hb:Below B w w') (hg:g<B):kG w' g T cs:=(hb.block g hg).trans h
theorem kG.late {w w':World} {g:Nat} {T:TypeId} {cs:Array Value} (h:kG w g T cs) (hb:Below w.heap.size w w'):kG w' g T cs:=h.mono hb h.lt
theorem kG.set {w:World} {g:Nat} {T:TypeId} {cs:Array Value} (h:kG w g T cs) (i:Nat) (v:Value):kG (w.setCell ⟨g,i,none⟩ v) g T (cs.setIfInBounds i v):=by
 unfold kG at*;simp[World.setCell,iD,h]
theorem kG.mO {w:World} {g g':Nat} {T:TypeId} {cs:Array Value} (h:kG w g T cs) (pQ:g≠g') (i:Nat) (v:Value):kG (w.setCell ⟨g',i,none⟩ v) g T cs:=
 (eZ w ⟨g',i,none⟩ v g pQ).trans h
theorem kG.new (w:World) (T:TypeId) (cs:Array Value):kG (w.alloc (.cells cs T (0,0))) w.heap.size T cs:=nS w _
theorem kG.alloc {w:World} {g:Nat} {T:TypeId} {cs:Array Value} (h:kG w g T cs) (o:Obj):kG (w.alloc o) g T cs:=(wR w o h.lt).trans h
theorem lW {w:World} {B:Nat} {E:TypeId} {sz:Nat} {v:Value} {n:Nat} {xs:List Value} (h:w.ownsRow B E sz v n xs) {g:Nat} (hg:g<B) (i:Nat) (u:Value):(w.setCell ⟨g,i,none⟩ u).ownsRow B E sz v n xs:=
 aOL h fun k hk _=>eZ w ⟨g,i,none⟩ u k (by show k≠g;omega)
theorem kG.D5 {w:World} {g:Nat} {T:TypeId} {x y z:Value} (h:kG w g T #[x,y,z]) (a b c:Value):kG (((w.setCell ⟨g,0,none⟩ a).setCell ⟨g,1,none⟩ b).setCell ⟨g,2,none⟩ c) g T #[a,b,c]:=((h.set 0 a).set 1 b).set 2 c
theorem lT {B:Nat} {a w:World} (h:Below B a w) {g:Nat} (hg:B≤g) (x y z:Value):Below B a (((w.setCell ⟨g,0,none⟩ x).setCell ⟨g,1,none⟩ y).setCell ⟨g,2,none⟩ z):=((h.setCell hg _).setCell hg _).setCell hg _
theorem OT {w:World} {B:Nat} {E:TypeId} {sz:Nat} {v:Value} {n:Nat} {xs:List Value} (h:w.ownsRow B E sz v n xs) {g:Nat} (hg:g<B) (x y z:Value):(((w.setCell ⟨g,0,none⟩ x).setCell ⟨g,1,none⟩ y).setCell ⟨g,2,none⟩ z).ownsRow B E sz v n xs:=lW (lW (lW h hg 0 x) hg 1 y) hg 2 z
theorem kG.a3E {w:World} {g:Nat} {T:TypeId} {x y z u:Value} (h:kG w g T #[x,y,z,u]) (a b c d:Value):kG ((((w.setCell ⟨g,0,none⟩ a).setCell ⟨g,1,none⟩ b).setCell ⟨g,2,none⟩ c).setCell ⟨g,3,none⟩ d) g T #[a,b,c,d]:=(((h.set 0 a).set 1 b).set 2 c).set 3 d
theorem IC {B:Nat} {a w:World} (h:Below B a w) {g:Nat} (hg:B≤g) (x y z u:Value):Below B a ((((w.setCell ⟨g,0,none⟩ x).setCell ⟨g,1,none⟩ y).setCell ⟨g,2,none⟩ z).setCell ⟨g,3,none⟩ u):=(lT h hg x y z).setCell hg _
theorem kJ {P:Program} {fn:Func} {p u:Tmp} {ty:TypeId} (h:fn.results=#[.cell p ty,.tmp u]) (tmps:Array Value) (w:World) (g:Nat) (t:TypeId) (cs:Array Value) (d:TypeDesc)
  (hp:tmps.getD p undef= .pointer (some ⟨g,0,none⟩)) (hg:kG w g t cs)
  (hu:P.underlying ty=some d) (hd:(match d with| .struct _| .array _ _=>true|_=>false)=true) (hi:(P.info? ty).map (·.size)=some cs.size):
  (results fn tmps).run P w= .ok (.tuple #[.agg cs,tmps.getD u undef]) w:=by
 rw[results_cell_tmp h,hp];simp[asAddr,Result.andThen,run_loadVar_row w g t ty cs (0,0) d hg hu hd hi]
theorem kL {P:Program} {S:Type} (f:S→World) {id:Nat} {Q:Exit→Act→World→Prop} {a:Act} {w:World} {l:List Oper} (hm:P.follows .mixedOrders=true) (hB:Region.lexB .any l.toArray=true)
  (hC:∃s,w.drew=f s) (h:wpQuiet P l.toArray (fun W=>∃s,W=f s) (fun a'=>∀s,Q .normal a' (f s)) l a):(Code.region id l.toArray true).wp P Q a w:=by
 refine wp_region_quiet (C:=fun W=>∃s,W=f s) hm hB hC ?_;have:(fun a'=>∀s,Q .normal a' (f s))=(fun a'=>∀w',(∃s,w'=f s)→Q .normal a' w'):=by
  funext a'
  apply propext;exact⟨fun h w' ⟨s,e⟩=>e▸h s,fun h s=>h _ ⟨s,rfl⟩⟩
 rw[this]at h;simpa using h
theorem kM (w:World):∃(S:Type) (f:S→World),Nonempty S∧(∀s,Below w.heap.size w (f s))∧∀W,Below w.heap.size w W→∃s,W=f s:=
 ⟨{W // Below w.heap.size w W},Subtype.val,⟨⟨w,bF _ _⟩⟩,fun s=>s.2,fun W h=>⟨⟨W,h⟩,rfl⟩⟩
structure But (b:Nat) (w w':World):Prop where
 os:w'.os=w.os
 tape:w'.tape=w.tape
 output:w'.output=w.output
 size:w.heap.size≤w'.heap.size
 block:∀k,k<w.heap.size→k≠b→w'.heap[k]? =w.heap[k]?
theorem But.refl (b:Nat) (w:World):But b w w:=⟨rfl,rfl,rfl,aY _,fun _ _ _=>rfl⟩
theorem But.trans {b:Nat} {w w' w'':World} (h:But b w w') (k:But b w' w''):But b w w'':=
 ⟨k.os.trans h.os,k.tape.trans h.tape,k.output.trans h.output,bU h.size k.size,fun i hi hb=>(k.block i (dD hi h.size) hb).trans (h.block i hi hb)⟩
theorem But.of_below {b:Nat} {w w':World} (h:Below w.heap.size w w'):But b w w':=⟨h.os,h.tape,h.output,h.size,fun k hk _=>h.block k hk⟩
theorem But.later {b:Nat} {w w' w'':World} (h:But b w w') (k:Below w'.heap.size w' w''):But b w w'':=h.trans (But.of_below k)
theorem But.below {b:Nat} {w w':World} (h:But b w w') {B:Nat} (h1:B≤b) (h2:B≤w.heap.size):Below B w w':=⟨h.os,h.tape,h.output,h.size,fun k hk=>h.block k aG aG⟩
theorem But.set {b:Nat} {w w':World} (h:But b w w') (i:Nat) (v:Value):But b w (w'.setCell ⟨b,i,none⟩ v):=
 h.trans ⟨rfl,rfl,rfl,by simp,fun k _ hk=>eZ w' ⟨b,i,none⟩ v k hk⟩
theorem kG.but {b:Nat} {w w':World} {g:Nat} {T:TypeId} {cs:Array Value} (h:kG w g T cs) (hb:But b w w') (hg:g≠b):kG w' g T cs:=(hb.block g h.lt hg).trans h
theorem mV {b:Nat} {w w':World} {B:Nat} {E:TypeId} {sz:Nat} {v:Value} {n:Nat} {xs:List Value} (h:w.ownsRow B E sz v n xs) (hb:But b w w') (hv:v.ownBlock≠some b):w'.ownsRow B E sz v n xs:=by
 obtain⟨hl,hr⟩:=h;refine⟨hl,?_⟩;rcases hr with hn|⟨g,cap,cur,rfl,hB,hg,r⟩
 ·exact .inl hn
 ·exact .inr ⟨g,cap,cur,rfl,hB,by rw[hb.block g (dA.1 hg).1 (fun e=>hv (by rw[e];rfl))];exact hg,r⟩
theorem add_block (a:Addr) (k:Nat):(a.add k).block=a.block:=by
 unfold Addr.add;split <;> rfl
def In (a2 a:Option Addr):Prop:=∀x,a2=some x→∃y,a=some y∧y.block=x.block
theorem In.sub (a:Option Addr) (c l k:Nat):In (if c=l then a else a.map (·.add k)) a:=fun x hx=>by
 split at hx
 ·exact⟨x,hx,rfl⟩
 ·cases a with
  |none=>cases hx
  |some y=>
   simp only[gM,fQ]at hx;exact⟨y,rfl,by rw[←hx,add_block]⟩
section
variable {P:Program} {T E:TypeId} {sz:Nat} (ht:P.underlying T=some (.slice E)) (hE:∀w,(Go.sizeOf E).run P w= .ok sz w)
include ht hE
theorem bBH {w:World} {a:Option Addr} {n c:Nat} {cs:List Value} (h:Sl w a n c sz cs) (l hi:Int) (h0:0≤l) (h1:l≤hi) (h2:hi≤n) (n2 c2:Nat) (hn2:(n2:Int)=hi - l) (hc2:(c2:Int)=c - l):
  ∃a2,(∀W,(Instr.sliceAt T (.slice a n c) (some (.int .i64 l)) (some (.int .i64 hi)) none).run P W= .ok (.slice a2 n2 c2) W)∧Sl w a2 n2 c2 sz ((cs.drop (l.toNat*sz)).take (n2*sz))∧In a2 a:=by
 have he:P.elem T=E:=by unfold Program.elem;rw[ht]
 have FI:=h.le;refine⟨_,fun W=>?_,aIH h l.toNat hi.toNat aG aG n2 c2 aG aG,In.sub _ _ _ _⟩;rw[run_sliceAt_slice (h:=by rw[he];exact ht),run_slice_lh (ht:=by rw[he];exact ht) (h0:=h0) (h1:=h1) (h2:=by omega),he,hE];simp only[Result.andThen,sliced];congr 2 <;> omega
theorem b6Y {w:World} {a:Option Addr} {n c:Nat} {cs:List Value} (h:Sl w a n c sz cs) (hi:Int) (h1:0≤hi) (h2:hi≤n) (n2:Nat) (hn2:(n2:Int)=hi):
  ∃a2,(∀W,(Instr.sliceAt T (.slice a n c) none (some (.int .i64 hi)) none).run P W= .ok (.slice a2 n2 c) W)∧Sl w a2 n2 c sz (cs.take (n2*sz))∧In a2 a:=by
 have he:P.elem T=E:=by unfold Program.elem;rw[ht]
 have FI:=h.le;have hs:=aIH h 0 hi.toNat aG aG n2 c aG aG;rw[fM,gL]at hs;refine⟨_,fun W=>?_,hs,In.sub _ _ _ _⟩;rw[run_sliceAt_slice (h:=by rw[he];exact ht),run_slice_h (ht:=by rw[he];exact ht) (h0:=h1) (h2:=by omega),he,hE];simp only[Result.andThen,sliced,fM];congr 2;omega
theorem aMF {w:World} {a:Option Addr} {n c:Nat} {cs:List Value} (h:Sl w a n c sz cs) (l:Int) (h0:0≤l) (h1:l≤n) (n2 c2:Nat) (hn2:(n2:Int)=n - l) (hc2:(c2:Int)=c - l):
  ∃a2,(∀W,(Instr.sliceAt T (.slice a n c) (some (.int .i64 l)) none none).run P W= .ok (.slice a2 n2 c2) W)∧Sl w a2 n2 c2 sz (cs.drop (l.toNat*sz))∧In a2 a:=by
 have he:P.elem T=E:=by unfold Program.elem;rw[ht]
 have FI:=h.le;have hs:=aIH h l.toNat n aG aG n2 c2 aG aG;rw[bW (by rw[gF,h.len,show n2=n - l.toNat by omega,Nat.sub_mul];omega)]at hs;refine⟨_,fun W=>?_,hs,In.sub _ _ _ _⟩;rw[run_sliceAt_slice (h:=by rw[he];exact ht),run_slice_l (ht:=by rw[he];exact ht) (h0:=h0) (h1:=by omega),he,hE];simp only[Result.andThen,sliced];congr 2 <;> omega
end
def BA (o:Oper):Bool:=
 match o.op with
 | .move _| .assign _| .pick .. | .build .. | .load .. | .binOp .. | .unOp .. | .fieldAddr .. | .field .. | .indexAddr .. | .index .. | .extract .. | .slice .. | .convert .. | .makeInterface .. | .makeFunc .. | .lookup .. | .nilCheck _=>true
 | .call c=>match c.callee with| .builtin .len=>true| .builtin .max=>true| .builtin .min=>true|_=>false
 |_=>false
theorem aSA {P:Program} {s:Sem Value} {w w':World} {n:Next} (h:((do pure (Next.value (←s))):Sem Next).run P w= .ok n w'):∃v,n= .value v:=by
 rw[gZ]at h;cases hs:s.run P w with
 |ok v w1=>
  rw[hs]at h;simp only[Result.andThen,iV]at h;injection h with h1 h2;exact⟨v,h1.symm⟩
 |halt x w1=>
  rw[hs]at h;simp only[Result.andThen]at h;cases h
theorem aIJ {P:Program} {o:Oper} {ρ:Operand→Value} {w w':World} {n:Next} (hp:BA o=true) (h:(execOp ρ o).run P w= .ok n w'):∃v,n= .value v:=by
 unfold BA at hp;unfold execOp at h;cases ho:o.op <;> rw[ho]at hp h <;> first
  |exact absurd (show false=true from hp) jF
  |exact aSA h
  |(dsimp only at h;exact aSA h)
  |(dsimp only at h;rw[iV]at h;injection h with h1 _;exact⟨_,h1.symm⟩)
  |(dsimp only at h
    rw[gZ]at h;revert h
    generalize (asBool (ρ _)).run P w=r;intro h;cases r with
    |ok v w1=>simp only[Result.andThen,iV]at h;injection h with h1 _;exact⟨_,h1.symm⟩
    |halt x w1=>simp only[Result.andThen]at h;cases h)
  |skip
 case nilCheck x=>
  dsimp only at h
  have rp:∀(w w':World) (n:Next),(runtimePanic .nilDeref:Sem Next).run P w= .ok n w'→∃v,n= .value v:=by
   intro w w' n h;simp[runtimePanic,go_sem]at h
  split at h
  ·exact rp _ _ _ h
  ·exact rp _ _ _ h
  ·exact rp _ _ _ h
  ·split at h
   ·exact rp _ _ _ h
   ·rw[gZ]at h;revert h
    generalize (program:Sem Program).run P w=r0;intro h;cases r0 with
    |halt x w1=>simp only[Result.andThen]at h;cases h
    |ok p w1=>
     simp only[Result.andThen]at h;rw[gZ]at h;revert h
     generalize Sem.run P _ w1=r1;intro h;cases r1 with
     |halt x w2=>simp only[Result.andThen]at h;cases h
     |ok q w2=>
      simp only[Result.andThen]at h;split at h
      ·rw[gZ]at h;simp[unsupported,go_sem]at h
      ·simp[go_sem]at h;exact⟨_,h.1.symm⟩
   ·rw[iV]at h;injection h with h1 _;exact⟨_,h1.symm⟩
  ·rw[iV]at h;injection h with h1 _;exact⟨_,h1.symm⟩
 rename_i c;obtain⟨callee,ars,ats⟩:=c;cases callee with
 |builtin b=>
  dsimp only at h
  simp only[resolve,gZ,iV,Result.andThen_ok,invoke]at h;cases b <;> first
   |exact absurd (show false=true from hp) jF
   |exact aSA h
 |invoke r n=>exact absurd (show false=true from hp) jF
 |value f=>exact absurd (show false=true from hp) jF
section
variable {P:Program} {ops:Array Oper} {Q:Exit→Act→World→Prop} {S:World→Prop}
theorem BD {o:Oper} {a:Act} {v:Value} {w0:World} (hp:BA o=true) (h0:S w0) (hw:Region.wanted o (yielded ops a.tmps)=true) (h:∀w,S w→o.quietAt P a S w v):YieldsIf P ops S o v a:=by
 refine .inl ⟨hw,fun w hS=>?_⟩;have h1:=h w hS;unfold Oper.quietAt at h1;cases hr:(execOp a.eval o).run P w with
 |ok n w'=>
  obtain⟨u,rfl⟩:=aIJ hp hr;rw[hr]at h1;simp only[Oper.quietUpon]at h1;rw[h1.1,h1.2]
 |halt x w'=>
  rw[hr]at h1;simp only[Oper.quietUpon]at h1
def b2D (ops:Array Oper):List Nat→Array Bool→Bool
 | [],_=>true
 |i::r,listed=>(Region.ready .any ops listed).contains i&&Region.free .any ops listed i&&b2D ops r (listed.setIfInBounds i true)
def TF:List Nat→Array Bool→Array Bool
 | [],listed=>listed
 |i::r,listed=>TF r (listed.setIfInBounds i true)
theorem aSB (hs:Region.noSelect ops=true) (hQ:∀d v c a w,Q (.panic c) (a.put d v) w→Q (.panic c) a w):
  ∀(idx:List Nat) (q:List Oper) (fuel:Nat) (listed:Array Bool) (a:Act) (w:World),idx.map (fun i=>ops[i]?)=q.map some→b2D ops idx listed=true→q.all BA=true→S w→
   wpQuiet P ops S (fun a'=>wpAnyH P .any ops Q S fuel (TF idx listed) a' w) q a→wpAnyH P .any ops Q S (fuel+idx.length) listed a w:=by
 intro idx;induction idx with
 |nil=>
  intro q fuel listed a w hm _ _ _ h;cases q with
  |nil=>exact h
  |cons o q=>simp at hm
 |cons i idx ih=>
  intro q fuel listed a w hm hB hp hS h;cases q with
  |nil=>simp at hm
  |cons o q=>
   simp only[aW,iU]at hm;simp only[b2D,bK]at hB;simp only[jQ,bK]at hp;unfold wpQuiet at h;have key:∀v,YieldsIf P ops S o v a→wpQuiet P ops S (fun a'=>wpAnyH P .any ops Q S fuel (TF idx (listed.setIfInBounds i true)) a' w) q (a.put o.dst v)→wpAnyH P .any ops Q S (fuel+(i::idx).length) listed a w:=fun v hy hr=>
    wpAnyH_take hm.1 hs hB.1.2 hB.1.1 (fun c a w h=>hQ _ _ c a w h) hy hS (ih q fuel _ _ w hm.2 hB.2 hp.2 hS hr)
   by_cases hw:Region.wanted o (yielded ops a.tmps)=true
   ·rw[if_pos hw]at h;obtain⟨v,h1,h2⟩:=h;exact key v (BD hp.1 hS hw h1) h2
   ·rw[if_neg hw]at h;exact key undef (.inr ⟨by simpa using hw,rfl⟩) h
def Mid (K:Act→World→Prop) (Q:Exit→Act→World→Prop):Exit→Act→World→Prop
 | .normal,a,w=>K a w
 | .exit i,a,w=>Q (.exit i) a w
 | .goto l,a,w=>Q (.goto l) a w
 | .ret,a,w=>Q .ret a w
 | .panic c,a,w=>Q (.panic c) a w
 | .outgrown,a,w=>Q .outgrown a w
theorem Mid.mk {K:Act→World→Prop} {Q:Exit→Act→World→Prop} {a:Act} {w:World} (h:K a w):Mid K Q .normal a w:=h
theorem WI {o:Oper} {a:Act} {K K':Act→World→Prop} {r:Result Next} (h:o.upon P a K (Mid K' Q) r):o.upon P a K Q r:=by
 cases r with
 |ok n w'=>
  cases n <;> first
   |exact h
   |(simp only[Oper.upon]at h ⊢
     refine Calls.mono h ?_;intro e w'' he;cases e with
     |returned v=>exact he
     |panicked c=>exact he
     |outgrown=>obtain⟨a,w,h2⟩:=he;exact⟨a,w,h2⟩)
 |halt x w'=>cases x <;> exact h
theorem aOM {i fuel:Nat} {o:Oper} {listed:Array Bool} {a:Act} {w:World} (hr:Region.ready .any ops listed= [i]) (ho:ops[i]? =some o)
  (h:wpList P ops (Mid (fun a' w'=>S w'∧wpAnyH P .any ops Q S fuel (listed.setIfInBounds i true) a' w') Q) [o] a w):wpAnyH P .any ops Q S (fuel+1) listed a w:=by
 refine wpAnyH_all hr (by simp) fun j hj=>?_;obtain rfl:j=i:=by simpa using hj
 unfold wpOp;simp only[ho];unfold wpList at h;split
 ·rename_i hw;rw[if_pos hw]at h;rcases h with h|⟨h1,a2,w2,h2⟩
  ·exact .inl (WI h)
  ·exact .inr ⟨h1,a2,w2,h2⟩
 ·rename_i hw;rw[if_neg hw]at h;exact h
def aDC:Oper:={dst:=none,op:= .move (.const undef),type:=0,pos:= "",after:=#[],guard:=none}
def jW (l:List Oper) (idx:List Nat):List Oper:=idx.map fun i=>l.getD i aDC
theorem RN {l:List Oper}:∀(idx:List Nat),idx.all (·<l.length)=true→idx.map (fun i=>l.toArray[i]?)=(jW l idx).map some
 | [],_=>rfl
 |i::idx,h=>by
  simp only[jQ,bK,decide_eq_true_eq]at h;have ih:=RN (l:=l) idx h.2;unfold jW at ih ⊢;rw[aW,ih,aW,aW,aZ,bH h.1];simp[h.1]
theorem jZ {l:List Oper} {listed:Array Bool} {a:Act} {w:World} (idx:List Nat) (fuel:Nat) (hs:Region.noSelect l.toArray=true) (hQ:∀d v c a w,Q (.panic c) (a.put d v) w→Q (.panic c) a w)
  (hb:idx.all (·<l.length)=true) (hB:b2D l.toArray idx listed=true) (hp:(jW l idx).all BA=true) (hS:S w)
  (h:wpQuiet P l.toArray S (fun a'=>wpAnyH P .any l.toArray Q S fuel (TF idx listed) a' w) (jW l idx) a):wpAnyH P .any l.toArray Q S (fuel+idx.length) listed a w:=by
 exact aSB hs hQ idx _ fuel listed a w (RN idx hb) hB hp hS h
theorem jX {l:List Oper} {listed:Array Bool} {a:Act} {w:World} (i fuel:Nat) (hb:decide (i<l.length)=true) (hr:Region.ready .any l.toArray listed= [i])
  (h:wpList P l.toArray (Mid (fun a' w'=>S w'∧wpAnyH P .any l.toArray Q S fuel (listed.setIfInBounds i true) a' w') Q) (jW l [i]) a w):wpAnyH P .any l.toArray Q S (fuel+1) listed a w:=by
 have hi:i<l.length:=of_decide_eq_true hb;refine aOM (o:=l.getD i aDC) hr (by rw[aZ,bH hi];simp[hi]) h
theorem vC {l:List Oper} {listed:Array Bool} {a:Act} {w:World} (i j fuel:Nat) (hb:(decide (i<l.length)&&decide (j<l.length))=true) (hr:Region.ready .any l.toArray listed= [i,j])
  (h:wpList P l.toArray (Mid (fun a' w'=>S w'∧wpAnyH P .any l.toArray Q S fuel (listed.setIfInBounds i true) a' w') Q) (jW l [i]) a w)
  (h2:wpList P l.toArray (Mid (fun a' w'=>S w'∧wpAnyH P .any l.toArray Q S fuel (listed.setIfInBounds j true) a' w') Q) (jW l [j]) a w):wpAnyH P .any l.toArray Q S (fuel+1) listed a w:=by
 simp only[bK,decide_eq_true_eq]at hb;have key:∀k (o:Oper),l.toArray[k]? =some o→wpList P l.toArray (Mid (fun a' w'=>S w'∧wpAnyH P .any l.toArray Q S fuel (listed.setIfInBounds k true) a' w') Q) [o] a w→wpOp P l.toArray Q k (fun a' w'=>S w'∧wpAnyH P .any l.toArray Q S fuel (listed.setIfInBounds k true) a' w') a w:=fun k o ho h=>by
  unfold wpOp;simp only[ho];unfold wpList at h;split
  ·rename_i hw;rw[if_pos hw]at h;rcases h with h|⟨h1,a2,w2,h2⟩
   ·exact .inl (WI h)
   ·exact .inr ⟨h1,a2,w2,h2⟩
  ·rename_i hw;rw[if_neg hw]at h;exact h
 refine wpAnyH_all hr (by simp) fun k hk=>?_;simp only[cK,eG,or_false]at hk;rcases hk with rfl|rfl
 ·exact key _ (l.getD k aDC) (by rw[aZ,bH hb.1];simp[hb.1]) h
 ·exact key _ (l.getD k aDC) (by rw[aZ,bH hb.2];simp[hb.2]) h2
theorem kH {l:List Oper} {listed:Array Bool} {a:Act} {w:World} (hr:Region.ready .any l.toArray listed= []) (h:Q .normal a w):wpAnyH P .any l.toArray Q S 0 listed a w:=wpAnyH_done hr h 0
theorem kR {id:Nat} {a:Act} {w:World} {l:List Oper} (hm:P.follows .mixedOrders=true) (n:Nat) (hn:l.length=n)
  (h:wpAnyH P .any l.toArray Q S n (Array.replicate n false) a w.drew):(Code.region id l.toArray true).wp P Q a w:=by
 refine wp_region_held (S:=S) hm ?_;have e:l.toArray.size=n:=by simpa using hn
 rw[e];exact h
end
theorem GH {w:World} {B:Nat} {E:TypeId} {sz g n c m:Nat} {xs:List Value} (h:w.ownsRow B E sz (.slice (some ⟨g,0,none⟩) n c) m xs) (i:Nat) (u:Value):(w.setCell ⟨g,i,none⟩ u).ownsRow B E sz (.slice (some ⟨g,0,none⟩) n c) m (xs.set i u):=by
 obtain⟨hl,hr⟩:=h;refine⟨by rw[List.length_set];exact hl,?_⟩;rcases hr with ⟨hv,_⟩|⟨g',cap,cur,hv,hB,hg,hnc,hcm,SV,NV⟩
 ·cases hv
 ·injection hv with h1 h2 h3
  injection h1 with h1;injection h1 with h1;subst h1;refine .inr ⟨g,cap,cur.setIfInBounds i u,by rw[h2,h3],hB,by simp[World.setCell,iD,hg],hnc,hcm,by simp[SV],?_⟩;rw[←NV]
  simp[List.take_set]
theorem a3F {w:World} {B:Nat} {E:TypeId} {sz:Nat} {a:Option Addr} {n c m:Nat} {xs:List Value} (h:w.ownsRow B E sz (.slice a n c) m xs) {i:Nat} (hi:i<n):
  ∃g,a=some ⟨g,0,none⟩∧B≤g∧g<w.heap.size∧(∀j,w.frozen? ⟨g,j,none⟩=false)∧∀j v,xs[j]? =some v→w.cell? ⟨g,j,none⟩=some v:=by
 obtain⟨hs,hm⟩:=Sl.kZ h;subst hm;obtain⟨b,off,rfl,kY,hc⟩:=hs.at hi;rcases h.2 with ⟨hv,_⟩|⟨g,cap,cur,hv,hB,hg,_⟩
 ·cases hv
 ·injection hv with h1 h2 h3
  injection h1 with h1;injection h1 with h1 h4;subst h1 h4;exact⟨b,rfl,hB,kY,fun j=>by simp[World.frozen?,hg],fun j v hj=>by have:=hc j v hj;rwa [eU]at this⟩
theorem own_ne {w:World} {B:Nat} {E:TypeId} {sz:Nat} {v:Value} {n:Nat} {xs:List Value} (h:w.ownsRow B E sz v n xs) {g:Nat} (hg:g<B):v.ownBlock≠some g:=fun e=>by
 have:=(h.lt g e).1;omega
theorem aDD (p:Addr) (v:Value) (w:World) (h:w.cell? p=some v):∃(S:Type) (f:S→World),Nonempty S∧(∀s,(f s).cell? p=some v)∧∀W,W.cell? p=some v→∃s,W=f s:=
 ⟨{W:World // W.cell? p=some v},Subtype.val,⟨⟨w,h⟩⟩,fun s=>s.2,fun W h=>⟨⟨W,h⟩,rfl⟩⟩
