import Derived.Test.YtceclmpmpldmlaaGreatCw03
import Derived.Shelf.Bytes.SlIndexAt
import Derived.Lib.BytesEntry
import Derived.Laws.Tables
import Derived.Deep.RegionWith
set_option linter.unusedSimpArgs false
set_option linter.unusedVariables false
set_option maxRecDepth 100000
set_option maxHeartbeats 8000000
namespace Go.Proofs.YtceclmpmpldmlaaGreat
open Go.RowKit Tt
attribute [-go_sem] run_eql_struct
def bBO:List (Int×Int):= [(0,34665),(0,34853),(1,513),(1,514),(2,37500),(2,40965),(5,45057),(5,45058)]
def WK (d t:Int):Bool:=bBO.contains (d,t)
def OX (ps:List (Int×Int)):List Value:=ps.flatMap fun p=> [.int .i64 p.1,.int .i64 p.2]
theorem a3I:∀(ps:List (Int×Int)) (i:Nat),i<ps.length→(OX ps)[i*2]? =some (.int .i64 (ps.getD i (0,0)).1)∧(OX ps)[i*2+1]? =some (.int .i64 (ps.getD i (0,0)).2)
 | [],i,h=>by simp at h
 |p::r,0,_=>by simp[OX]
 |p::r,i+1,h=>by
  have:=a3I r i (by simpa using h);rw[show(i+1)*2=i*2+1+1 by omega];simpa [OX] using this
theorem b2F (a:Option Addr) (n c:Nat) (ps:List (Int×Int)) (d t:Int) (w:World) (hs:Sl w a n c 2 (OX ps)) (hl:ps.length=n):
  Calls Tryz.prog 263 #[.slice a n c,Z7 d t] w fun e w'=>∃k:Int,e= .returned (.int .i64 k)∧(0≤k↔(d,t)∈ps)∧Below w.heap.size w w':=by
 have hm:=hs.max;have FI:=hs.le;have hEq:=aSM;unfold Z7 at hEq ⊢;obtain⟨Hs,Hl⟩:=aJ hs hl;clear hs hl;go_enter Tryz.func263,Tryz.ntmps263;go_wp2;obtain⟨g,hg⟩:∃g,g=w.heap.size:=⟨_,rfl⟩;obtain⟨w1,xR⟩:∃w1,w1=w.alloc (.cells #[.int .i64 d,.int .i64 t] 261):=⟨_,rfl⟩;have NW:Hid (Sl w1 a n c 2 (OX ps)):=aA (by rw[xR];exact AZ Hs.o _);have kV:Hid (Below w.heap.size w w1):=aA (by rw[xR];exact(bF _ _).alloc (aY _) _);have bx0:w1.cell? ⟨g,0,none⟩=some (.int .i64 d):=by rw[xR,hg];unfold World.cell?;rw[nS];rfl
 have bx1:w1.cell? ⟨g,1,none⟩=some (.int .i64 t):=by rw[xR,hg];unfold World.cell?;rw[nS];rfl
 rw[←xR,←hg];have HG:=aA hg;clear xR hg Hs;go_loopw [8] (fun i wr=>∃k:Nat,k≤n∧i= .int .i64 k∧Hid (∀j,j<k→ps.getD j (0,0)≠(d,t))∧Qt w1 wr) (fun i _=>n - (intOf i).toNat)
 case atStart=>exact⟨0,by omega,rfl,aA (fun j hj=>by omega),Qt.refl _⟩
 case round=>
  obtain⟨k,hk,rfl,sJ,hq⟩:=hrel;by_cases kY:k<n
  ·obtain⟨b,off,rfl,OM,hc⟩:=NW.o.at kY;obtain⟨g1,g2⟩:=a3I ps k (by rw[Hl.o];exact kY);have f1:=hc _ _ g1;have f2:=hc _ _ g2;obtain⟨m,rfl⟩:=hq.ex;obtain⟨pd,pt,ZB⟩:∃pd pt,ps.getD k (0,0)=(pd,pt):=⟨_,_,rfl⟩;rw[ZB]at f1 f2;have Hpe:=aA ZB;clear hc g1 g2 ZB;rw[show off+(k*2+1)=off+k*2+1 by omega]at f2;cases a8U:(d==pd&&t==pt)
   ·go_wp2_with fail
    go_quiet (fail)
    go_wp2;go_roundw
    case rel=>
     refine⟨k+1,by omega,by go_num,aA (fun j hj=>?_),⟨_,rfl⟩⟩;rcases eB j k with h|h
     ·exact sJ.o j h
     ·obtain rfl:j=k:=by omega
      rw[Hpe.o];intro he;injection he with h1 h2;rw[h1,h2]at a8U
      simp at a8U
    case measure=>simp[intOf];omega
   ·go_wp2_with fail
    go_quiet (fail)
    go_wp2;go_ret;refine⟨k,rfl,⟨fun _=>?_,fun _=>by omega⟩,?_⟩
    ·simp at a8U;have:ps.getD k (0,0)∈ps:=by
      rw[aZ,bH (by rw[Hl.o];exact kY)];exact bP _
     rw[Hpe.o,←a8U.1,←a8U.2]at this;exact this
    ·exact kV.o.trans ((hq.step _).below _)
  ·go_wp2;go_ret;refine⟨-1,rfl,⟨fun h=>by omega,fun h=>?_⟩,kV.o.trans (hq.below _)⟩;exfalso
   obtain⟨i,hi,he⟩:=gU.1 h;refine sJ.o i (by rw[Hl.o]at hi;omega) ?_;rw[aZ,bH hi];exact he
theorem aAM (a:Option Addr) (n c:Nat) (ps:List (Int×Int)) (d t:Int) (w:World) (hs:Sl w a n c 2 (OX ps)) (hl:ps.length=n):
  Calls Tryz.prog 245 #[.slice a n c,Z7 d t] w fun e w'=>e= .returned (.bool (ps.contains (d,t)))∧Below w.heap.size w w':=by
 have hi:=fun W h=>b2F a n c ps d t W h hl;unfold Z7 at hi ⊢;obtain⟨r,hr⟩:=aC (ps.contains (d,t));rw[hr];have Hr:=aA hr;clear hr;go_enter Tryz.func245,Tryz.ntmps245;go_wp2_with fail
 refine(hi _ (AZ hs _)).mono ?_;rintro e w2 ⟨k,rfl,hk,hb⟩;have kP:=(aD w (.cells #[.int .i64 d,.int .i64 t] 261)).trans (hb.mono (by simp));clear hb hi;have hkr:decide (0≤k)=r:=by
  rw[←Hr.o];rw[dY,decide_eq_true_iff,List.contains_iff_mem];exact hk
 clear hk;go_wp2;go_ret;exact⟨EP rfl,kP⟩
theorem aAN (d t:Int) (w:World):
  Calls Tryz.prog 197 #[.int .i64 d,.int .i64 t] w fun e w'=>e= .returned (.bool (WK d t))∧Below w.heap.size w w':=by
 have hc:∀W:World,Sl W (some ⟨w.heap.size,0,none⟩) 8 8 2 (OX bBO)→Calls Tryz.prog 245 #[.slice (some ⟨w.heap.size,0,none⟩) 8 8,.agg #[.int .i64 d,.int .i64 t]] W fun e w'=>e= .returned (.bool (WK d t))∧Below W.heap.size W w':=fun W h=>aAM (some ⟨w.heap.size,0,none⟩) 8 8 bBO d t W h rfl;generalize WK d t=r at*;go_enter Tryz.func197,Tryz.ntmps197;go_wp2_with fail
 refine(hc _ (Sl.new w 261 2 8 _ (0,0) aH rfl)).mono ?_;rintro e w2 ⟨rfl,hb⟩;have kP:=(aD w _).trans (hb.mono (by simp));clear hb hc;go_wp2;go_ret;exact⟨rfl,kP⟩
end Go.Proofs.YtceclmpmpldmlaaGreat
namespace Go.Proofs.YtceclmpmpldmlaaGreat
open Go.RowKit Tt
def aSN:List (Int×Int×Int):= [(0,0,0),(1,1,1),(1,1,1),(2,2,1),(4,4,1),(8,4,3),(1,1,2),(1,1,1),(2,2,2),(4,4,2),(8,4,4),(4,4,5),(8,8,5)]
def lI (n:Int):Int×Int×Int:=if n<0∨12<n then(0,0,0)else aSN.getD n.toNat (0,0,0)
theorem ZH {n:Int} (h:n<0∨12<n):lI n=(0,0,0):=if_pos h
theorem DW (n:Int):0≤(lI n).1∧(lI n).1≤8:=by
 unfold lI;split
 ·exact⟨by decide,by decide⟩
 ·have:∀x∈aSN,0≤x.1∧x.1≤8:=by decide
  rw[aZ];cases h:aSN[n.toNat]? with
  |none=>exact⟨by decide,by decide⟩
  |some x=>exact this x (List.mem_of_getElem? h)
theorem a8A (a:Option Addr) (n c:Nat) (x:List Int) (cv:Int) (w:World) (hs:Sl w a n c 1 (ints .u8 x)):
  Calls Tryz.prog 159 #[.slice a n c,.int .u8 cv] w fun e w'=>e= .returned (.int .i64 (Lib.indexByte (Lib.bytesOf x) cv.toNat.toUInt8))∧w=w':=by
 have hl:=hs.p9;cases a with
 |none=>
  have h1:=hs.fit rfl;have h2:=hs.le;subst h1;obtain rfl:n=0:=by omega
  obtain rfl:x= []:=dS hl;go_enter Tryz.func159,Tryz.ntmps159;go_wp2;rw[run_callFunc_extern Tryz.func226 aF aF aF (e:=Extern.BytealgIndexByte.indexByte) aF,Lib.run_indexByteNil w 0 0 cv];simp only[Result.andThen];rw[Oper.upon_value];go_wp2;go_ret;exact⟨rfl,rfl⟩
 |some y=>
  have hc:∀i,i<n→w.cell? (y.add i)=some (.int .u8 (x.getD i 0)):=fun i hi=>by
   obtain⟨b,off,e,_,hc⟩:=hs.at hi;injection e with e;subst e;rw[fF];exact hc i _ (qN aG)
  go_enter Tryz.func159,Tryz.ntmps159;go_wp2;rw[run_callFunc_extern Tryz.func226 aF aF aF (e:=Extern.BytealgIndexByte.indexByte) aF,Lib.run_indexByteAt w y n c x hl hc cv];simp only[Result.andThen];rw[Oper.upon_value];go_wp2;go_ret;exact⟨rfl,rfl⟩
def zX:Array Value:=#[.int .i64 0,.int .i64 0,.int .i64 0,.int .i64 1,.int .i64 1,.int .i64 1,.int .i64 1,.int .i64 1,.int .i64 1,.int .i64 2,.int .i64 2,.int .i64 1,.int .i64 4,.int .i64 4,.int .i64 1,.int .i64 8,.int .i64 4,.int .i64 3,.int .i64 1,.int .i64 1,.int .i64 2,.int .i64 1,.int .i64 1,.int .i64 1,.int .i64 2,.int .i64 2,.int .i64 2,.int .i64 4,.int .i64 4,.int .i64 2,.int .i64 8,.int .i64 4,.int .i64 4,.int .i64 4,.int .i64 4,.int .i64 5,.int .i64 8,.int .i64 8,.int .i64 5]
theorem aAO {P:Program} {ops:Array Oper} {rest:List Oper} {o:Oper} {a:Act} {w:World} {Q:Exit→Act→World→Prop} (hg:o.guard=none) (t:TypeId) (parts:Array (Nat×Operand)) (ho:o.op= .build t parts) (cells:Array Value)
  (hf:P.built t (parts.map fun(i,x)=>(i,a.eval x)).toList=some cells)
  (h:wpList P ops Q rest (a.put o.dst (.agg cells)) w):wpList P ops Q (o::rest) a w:=
 wpList_build hg t parts ho (by rw[hf];rfl) (by rw[hf];exact h)
theorem kN {B:Nat} {w w':World} (h:Below B w w') {g:Nat} (hg:B≤g) (cs:Array Value):Below B w (w'.setRow g cs):=
 ⟨h.os,h.tape,h.output,by rw[setRow_size];exact h.size,fun k hk=>by rw[setRow_other _ _ _ _ aG];exact h.block k hk⟩
theorem aOS (w:World):Calls Tryz.prog 167 #[] w fun e w'=>e= .returned (.agg zX)∧Below w.heap.size w w':=by
 have ki:(Tryz.prog.info? 231).map (·.size)=some zX.size:=by kernel_rfl
 have ka:zX.all (·.oneCell')=true:=by kernel_rfl
 go_enter Tryz.func167,Tryz.ntmps167;go_wp2_with (first
  |(refine aAO rfl 231 _ rfl zX aF ?_)
  |(refine wpList_store_row rfl 231 (.tmp 0) (.tmp 13) rfl w.heap.size zX rfl rfl 231 _ (nS w _) ki rfl ka ?_))
 refine bodyPost_ret (results_cell_row rfl _ _ w.heap.size 231 zX (0,0) _ rfl (setRow_heap _ _ _ _ _ _ (nS w _)) Tryz.underlying231 rfl ki) rfl ?_;exact⟨rfl,kN ((bF _ _).alloc (aY _) _) (aY _) _⟩
theorem b2G {n:Int} (h0:0≤n) (h1:n≤12) (W:World):(Instr.index 231 (.agg zX) (.int .i64 n)).run Tryz.prog W= .ok (.agg #[.int .i64 (lI n).1,.int .i64 (lI n).2.1,.int .i64 (lI n).2.2]) W:=by
 rcases(by omega:n=0∨n=1∨n=2∨n=3∨n=4∨n=5∨n=6∨n=7∨n=8∨n=9∨n=10∨n=11∨n=12)with rfl|rfl|rfl|rfl|rfl|rfl|rfl|rfl|rfl|rfl|rfl|rfl|rfl
 all_goals kernel_rfl
theorem WL (n:Int) (w:World):Calls Tryz.prog 116 #[.int .i64 n] w fun e w'=>e= .returned (.agg #[.int .i64 (lI n).1,.int .i64 (lI n).2.1,.int .i64 (lI n).2.2])∧Below w.heap.size w w':=by
 by_cases h:n<0∨12<n
 ·rw[ZH h];by_cases h0:n<0
  ·go_enter Tryz.func116,Tryz.ntmps116;go_wp2;refine bodyPost_ret (results_cell_row rfl _ _ w.heap.size 185 #[.int .i64 0,.int .i64 0,.int .i64 0] (0,0) _ rfl (nS w _) Tryz.underlying185 rfl aF) rfl ?_;exact⟨rfl,(bF _ _).alloc (aY _) _⟩
  ·have h1:12<n:=by omega
   go_enter Tryz.func116,Tryz.ntmps116;go_wp2;refine bodyPost_ret (results_cell_row rfl _ _ w.heap.size 185 #[.int .i64 0,.int .i64 0,.int .i64 0] (0,0) _ rfl (nS w _) Tryz.underlying185 rfl aF) rfl ?_;exact⟨rfl,(bF _ _).alloc (aY _) _⟩
 ·have qJ:=fun W=>b2G (n:=n) aG aG W;have h0:¬n<0:=by omega
  have h1:¬12<n:=by omega
  obtain⟨s,p,i,hk⟩:∃s p i,lI n=(s,p,i):=⟨_,_,_,rfl⟩;rw[hk]at qJ ⊢;simp only at qJ ⊢;clear h hk;go_enter Tryz.func116,Tryz.ntmps116;go_wp2_with fail
  refine(aOS _).mono ?_;rintro e w1 ⟨rfl,hb⟩;have hg:w1.heap[w.heap.size]? =_:=(hb.block w.heap.size (by simp)).trans (nS w _);generalize zX=kc at*;have bJC:(#[.int .i64 s,.int .i64 p,.int .i64 i]:Array Value).all (·.oneCell')=true:=by simp[Value.oneCell']
  have bJD:(Tryz.prog.info? 185).map (·.size)=some (#[.int .i64 s,.int .i64 p,.int .i64 i]:Array Value).size:=by kernel_rfl
  obtain⟨bU8,bU9,Hg⟩:=aK bJC bJD hg;clear bJC bJD hg;go_wp2_with (refine wpList_store_row rfl 185 (.tmp 2) (.tmp 12) rfl w.heap.size #[.int .i64 s,.int .i64 p,.int .i64 i] rfl rfl 185 _ Hg.o bU9.o rfl bU8.o ?_)
  refine bodyPost_ret (results_cell_row rfl _ _ w.heap.size 185 #[.int .i64 s,.int .i64 p,.int .i64 i] (0,0) _ rfl (setRow_heap _ _ _ _ _ _ Hg.o) Tryz.underlying185 rfl aF) rfl ?_;exact⟨rfl,kN ((aD w _).trans (hb.mono (by simp))) (aY _) _⟩
def JU:List Int→Bool
 | []=>true
 | [x]=>x==0
 |x::y::r=>(x != 0)&&JU (y::r)
theorem ZI:∀l:List Int,JU l=true↔∀i,i<l.length→(l.getD i 0=0↔i+1=l.length)
 | []=>by simp[JU]
 | [x]=>by
  simp only[JU,beq_iff_eq,dO,iC];refine⟨fun h i hi=>?_,fun h=>?_⟩
  ·obtain rfl:i=0:=by omega
   simp[h]
  ·have:=h 0 aG;simpa using this
 |x::y::r=>by
  have ih:=ZI (y::r);simp only[JU,bK,bne_iff_ne,ne_eq];rw[ih];refine⟨fun⟨h0,h⟩ i hi=>?_,fun h=>⟨?_,fun i hi=>?_⟩⟩
  ·cases i with
   |zero=>simp[h0]
   |succ i=>
    rw[aU,h i (by simpa using hi)];simp
  ·have:=h 0 (by simp);simpa using this
  ·have:=h (i+1) (by simpa using hi);rw[aU]at this;rw[this];simp
theorem byte_zero {x:Int} (h:0≤x∧x<256):(UInt8.ofNat x.toNat==(0:Int).toNat.toUInt8)=(x==0):=by
 rw[dY,beq_iff_eq,beq_iff_eq];constructor
 ·intro h2;have h3:=congrArg UInt8.toNat h2;simp[fH (show x.toNat<256 by omega)]at h3;omega
 ·rintro rfl;rfl
theorem a94:∀l:List Int,pF l→(Lib.indexByte (Lib.bytesOf l) (0:Int).toNat.toUInt8=(l.length:Int) - 1↔JU l=true)
 | [],_=>by simp[Lib.bytesOf,Lib.indexByte,JU]
 | [x],h=>by
  have hx:=byte_zero (h x (by simp));simp only[Lib.bytesOf,aW,aX,Lib.indexByte,JU,hx];cases hc:x==0 <;> simp
 |x::y::r,h=>by
  have hx:=byte_zero (h x (by simp));have ih:=a94 (y::r) (fun z hz=>h z (bL _ hz));have hg:=Lib.indexByte_ge (Lib.bytesOf (y::r)) (0:Int).toNat.toUInt8;have e:Lib.indexByte (Lib.bytesOf (x::y::r)) (0:Int).toNat.toUInt8=if(x==0)=true then 0 else if Lib.indexByte (Lib.bytesOf (y::r)) (0:Int).toNat.toUInt8== -1 then -1 else Lib.indexByte (Lib.bytesOf (y::r)) (0:Int).toNat.toUInt8+1:=by
   rw[←hx];rfl
  rw[e];simp only[JU,bK,bne_iff_ne,ne_eq,←ih];generalize Lib.indexByte (Lib.bytesOf (y::r)) (0:Int).toNat.toUInt8=k at*;have hl:((x::y::r).length:Int)=((y::r).length:Int)+1:=by simp
  have hl2:(1:Int)≤((y::r).length:Int):=by simp;omega
  rw[hl];generalize ((y::r).length:Int)=n at*;by_cases h0:x=0
  ·simp[h0];omega
  ·by_cases h1:k= -1
   ·simp[h0,h1];omega
   ·simp[h0,h1];omega
def wH (ty cnt:Int) (d:List Int):Bool:=
 decide ((lI ty).1≠0)&&decide (1≤cnt)&&decide (cnt≤65536)&&decide ((d.length:Int)=cnt*(lI ty).1)&&(ty != 2||JU d)
theorem OY {ty cnt:Int} {d:List Int} (h:(lI ty).1=0∨cnt<1∨65536<cnt∨(d.length:Int)≠cnt*(lI ty).1):wH ty cnt d=false:=by
 unfold wH;rcases h with h|h|h|h
 ·simp[h]
 ·rw[decide_eq_false (show ¬1≤cnt by omega)];simp
 ·rw[decide_eq_false (show ¬cnt≤65536 by omega)];simp
 ·rw[decide_eq_false h];simp
theorem aDO {ty cnt:Int} {d:List Int} (h1:(lI ty).1≠0) (h2:¬cnt<1) (h3:¬65536<cnt) (h4:(d.length:Int)=cnt*(lI ty).1):wH ty cnt d=(ty != 2||JU d):=by
 unfold wH;rw[decide_eq_true h1,decide_eq_true (show 1≤cnt by omega),decide_eq_true (show cnt≤65536 by omega),decide_eq_true h4];simp
theorem RO (ty cnt:Int) (a:Option Addr) (n c:Nat) (d:List Int) (w:World) (hs:Sl w a n c 1 (ints .u8 d)) (bd:pF d):
  Calls Tryz.prog 102 #[.agg #[.int .i64 ty,.int .i64 cnt,.slice a n c]] w fun e w'=>e= .returned (.bool (wH ty cnt d))∧Below w.heap.size w w':=by
 have hl:=hs.p9;obtain⟨m,hm⟩:=aC (wH ty cnt d);rw[hm];obtain⟨Hm,Hs,Hl,Bd⟩:=aL hm hs hl bd;have tC:=DW ty;have UC:=hs.max;have FI:=hs.le;clear hm hs hl bd;obtain⟨sz,pt,is,hk⟩:∃s p i,lI ty=(s,p,i):=⟨_,_,_,rfl⟩;rw[hk]at tC;simp only at tC;have Hk:=aA hk;clear hk;have hkc:=fun W=>WL ty W;rw[Hk.o]at hkc;simp only at hkc;go_enter Tryz.func102,Tryz.ntmps102;go_wp2_with fail
 refine(hkc _).mono ?_;rintro e w1 ⟨rfl,hb⟩;have kV:Below w.heap.size w w1:=(aD w _).trans (hb.mono (by simp));obtain⟨g,hg⟩:∃g,g=w.heap.size:=⟨_,rfl⟩;have rE:w1.heap[g]? =some (.cells #[.int .i64 ty,.int .i64 cnt,.slice a n c] 72):=by rw[hg];exact(hb.block w.heap.size (by simp)).trans (nS w _)
 have kY:g<w1.heap.size:=(dA.1 rE).1;have c0:w1.cell? ⟨g,0,none⟩=some (.int .i64 ty):=by unfold World.cell?;rw[rE];rfl
 have c1:w1.cell? ⟨g,1,none⟩=some (.int .i64 cnt):=by unfold World.cell?;rw[rE];rfl
 have c2:w1.cell? ⟨g,2,none⟩=some (.slice a n c):=by unfold World.cell?;rw[rE];rfl
 have Hs1:=aA (Hs.o.mono kV);rw[←hg];obtain⟨HG,HB⟩:=aJ hg kV;clear hb kV hg rE hkc;by_cases t1:sz=0
 ·subst t1;obtain rfl:m=false:=by rw[←Hm.o];exact OY (.inl (by rw[Hk.o]))
  go_wp2;go_ret;exact⟨rfl,HB.o.alloc HB.o.size _⟩
 by_cases t2:cnt<1
 ·obtain rfl:m=false:=by rw[←Hm.o];exact OY (.inr (.inl t2))
  go_wp2;go_ret;exact⟨rfl,HB.o.alloc HB.o.size _⟩
 by_cases t3:65536<cnt
 ·obtain rfl:m=false:=by rw[←Hm.o];exact OY (.inr (.inr (.inl t3)))
  go_wp2;go_ret;exact⟨rfl,HB.o.alloc HB.o.size _⟩
 have hw:IntKind.i64.wrap (cnt*sz)=cnt*sz:=by
  have:0≤cnt*sz:=jT aG aG;have:cnt*sz≤65536*8:=jL aG aG aG aG;rw[bJ];omega
 have f1:(sz==0)=false:=by simp[t1]
 by_cases t4:(n:Int)=cnt*sz
 ·have hmm:=aDO (ty:=ty) (cnt:=cnt) (d:=d) (by rw[Hk.o];exact t1) t2 t3 (by rw[Hl.o,Hk.o];exact t4);rw[Hm.o]at hmm;have Hmm:=aA hmm;have f4:((n:Int) != cnt*sz)=false:=by simp[t4]
  clear hmm t4;by_cases t5:ty=2
  ·subst t5;have hti:=(a94 d Bd.o);rw[Hl.o]at hti;have hi:=fun j=>(a8A a n c d 0 ((w1.alloc (.cells #[.int .i64 sz,.int .i64 pt,.int .i64 is] 185)).drewN j) (AZ Hs1.o _).drewN).mono (fun e w' (h:_∧_)=>(⟨h.1,by rw[←h.2];exact Qt.refl _⟩:_∧Qt _ w'));obtain⟨k,hkk⟩:=aC (Lib.indexByte (Lib.bytesOf d) (0:Int).toNat.toUInt8);rw[hkk]at hti hi;have hk2:=Lib.indexByte_ge (Lib.bytesOf d) (0:Int).toNat.toUInt8;rw[hkk]at hk2;have hmk:m=(k==(n:Int) - 1):=by
    rw[Hmm.o,dY,beq_iff_eq,hti];simp
   obtain⟨Hmk,Hi⟩:=aJ hmk hi;clear hti hkk hi hmk;go_wp2_with fail
   go_quiet ((go_at_call 159;exact Calls.quiet_of (Hi.o _)))
   go_wp2;go_ret;exact⟨EP Hmk.o.symm,(HB.o.alloc HB.o.size _).trans (Qt.below ⟨_,rfl⟩ _)⟩
  ·have f5:(ty==2)=false:=by simp[t5]
   have f6:(ty != 2)=true:=by simp[t5]
   have hmm:m=true:=by rw[Hmm.o,f6];rfl
   subst hmm;go_wp2_with fail
   go_quiet (fail)
   go_wp2;go_ret;exact⟨rfl,(HB.o.alloc HB.o.size _).trans (Qt.below ⟨_,rfl⟩ _)⟩
 ·obtain rfl:m=false:=by rw[←Hm.o];exact OY (.inr (.inr (.inr (by rw[Hl.o,Hk.o];exact t4))))
  have f4:((n:Int) != cnt*sz)=true:=by simp[t4]
  go_wp2;go_ret;exact⟨rfl,HB.o.alloc HB.o.size _⟩
theorem ZJ (n:Int) (w:World):Calls Tryz.prog 146 #[.int .i64 n] w fun e w'=>e= .returned (.int .i64 (lI n).1)∧w=w':=by
 by_cases h1:n=1
 ·subst h1;have e:(lI 1).1=1:=by decide
  rw[e];go_enter Tryz.func146,Tryz.ntmps146;go_wp2;go_ret;exact⟨rfl,rfl⟩
 by_cases h2:n=2
 ·subst h2;have e:(lI 2).1=1:=by decide
  rw[e];go_enter Tryz.func146,Tryz.ntmps146;go_wp2;go_ret;exact⟨rfl,rfl⟩
 by_cases h3:n=3
 ·subst h3;have e:(lI 3).1=2:=by decide
  rw[e];go_enter Tryz.func146,Tryz.ntmps146;go_wp2;go_ret;exact⟨rfl,rfl⟩
 by_cases h4:n=4
 ·subst h4;have e:(lI 4).1=4:=by decide
  rw[e];go_enter Tryz.func146,Tryz.ntmps146;go_wp2;go_ret;exact⟨rfl,rfl⟩
 by_cases h5:n=5
 ·subst h5;have e:(lI 5).1=8:=by decide
  rw[e];go_enter Tryz.func146,Tryz.ntmps146;go_wp2;go_ret;exact⟨rfl,rfl⟩
 by_cases h6:n=6
 ·subst h6;have e:(lI 6).1=1:=by decide
  rw[e];go_enter Tryz.func146,Tryz.ntmps146;go_wp2;go_ret;exact⟨rfl,rfl⟩
 by_cases h7:n=7
 ·subst h7;have e:(lI 7).1=1:=by decide
  rw[e];go_enter Tryz.func146,Tryz.ntmps146;go_wp2;go_ret;exact⟨rfl,rfl⟩
 by_cases h8:n=8
 ·subst h8;have e:(lI 8).1=2:=by decide
  rw[e];go_enter Tryz.func146,Tryz.ntmps146;go_wp2;go_ret;exact⟨rfl,rfl⟩
 by_cases h9:n=9
 ·subst h9;have e:(lI 9).1=4:=by decide
  rw[e];go_enter Tryz.func146,Tryz.ntmps146;go_wp2;go_ret;exact⟨rfl,rfl⟩
 by_cases h10:n=10
 ·subst h10;have e:(lI 10).1=8:=by decide
  rw[e];go_enter Tryz.func146,Tryz.ntmps146;go_wp2;go_ret;exact⟨rfl,rfl⟩
 by_cases h11:n=11
 ·subst h11;have e:(lI 11).1=4:=by decide
  rw[e];go_enter Tryz.func146,Tryz.ntmps146;go_wp2;go_ret;exact⟨rfl,rfl⟩
 by_cases h12:n=12
 ·subst h12;have e:(lI 12).1=8:=by decide
  rw[e];go_enter Tryz.func146,Tryz.ntmps146;go_wp2;go_ret;exact⟨rfl,rfl⟩
 have e:(lI n).1=0:=by
  rcases Classical.em (n<0∨12<n)with h|h
  ·rw[ZH h]
  ·obtain rfl:n=0:=by omega
   decide
 rw[e];go_enter Tryz.func146,Tryz.ntmps146;go_wp2;go_ret;exact⟨rfl,rfl⟩
theorem aDP {l:List Int} {i:Nat} (hi:i<l.length) (h:¬(l.getD i 0=0↔i+1=l.length)):JU l=false:=by
 cases hb:JU l
 ·rfl
 ·exact absurd ((ZI l).1 hb i hi) h
theorem aSO (ty cnt:Int) (a:Option Addr) (n c:Nat) (d:List Int) (w:World) (hs:Sl w a n c 1 (ints .u8 d)):
  Calls Tryz.prog 183 #[.agg #[.int .i64 ty,.int .i64 cnt,.slice a n c]] w fun e w'=>e= .returned (.bool (wH ty cnt d))∧Below w.heap.size w w':=by
 have hl:=hs.p9;obtain⟨m,hm⟩:=aC (wH ty cnt d);rw[hm];obtain⟨Hm,Hl⟩:=aJ hm hl;have tC:=DW ty;have UC:=hs.max;have FI:=hs.le;obtain⟨w1,xR⟩:∃w1,w1=w.alloc (.cells #[.int .i64 ty,.int .i64 cnt,.slice a n c] 72):=⟨_,rfl⟩;have kV:Below w.heap.size w w1:=by rw[xR];exact(bF _ _).alloc (aY _) _
 have Hs1:=aA (hs.mono kV);obtain⟨g,hg⟩:∃g,g=w.heap.size:=⟨_,rfl⟩;have rE:w1.heap[g]? =some (.cells #[.int .i64 ty,.int .i64 cnt,.slice a n c] 72):=by rw[hg,xR];exact nS w _
 have kY:g<w1.heap.size:=(dA.1 rE).1;have c0:w1.cell? ⟨g,0,none⟩=some (.int .i64 ty):=by unfold World.cell?;rw[rE];rfl
 have c1:w1.cell? ⟨g,1,none⟩=some (.int .i64 cnt):=by unfold World.cell?;rw[rE];rfl
 have c2:w1.cell? ⟨g,2,none⟩=some (.slice a n c):=by unfold World.cell?;rw[rE];rfl
 have HB:=aA kV;clear hm hl hs kV rE;obtain⟨sz,pt,is,hk⟩:∃s p i,lI ty=(s,p,i):=⟨_,_,_,rfl⟩;rw[hk]at tC;simp only at tC;have Hk:=aA hk;clear hk;have hkc:=fun j=>(ZJ ty (w1.drewN j)).mono (fun e w' (h:_∧_)=>(⟨h.1,by rw[←h.2];exact Qt.refl _⟩:_∧Qt _ w'));rw[Hk.o]at hkc;simp only at hkc;have Hkc:=aA hkc;clear hkc;go_enter Tryz.func183,Tryz.ntmps183;go_wp2_with fail
 rw[←xR,←hg];have HG:=aA hg;clear xR hg;by_cases t1:sz=0
 ·subst t1;obtain rfl:m=false:=by rw[←Hm.o];exact OY (.inl (by rw[Hk.o]))
  go_quiet ((go_at_call 146;exact Calls.quiet_of (Hkc.o _)))
  go_wp2;go_ret;exact⟨rfl,HB.o.trans (Qt.below ⟨_,rfl⟩ _)⟩
 have f1:(sz==0)=false:=by simp[t1]
 by_cases t2:cnt<1
 ·obtain rfl:m=false:=by rw[←Hm.o];exact OY (.inr (.inl t2))
  go_quiet ((go_at_call 146;exact Calls.quiet_of (Hkc.o _)))
  go_wp2;go_ret;exact⟨rfl,HB.o.trans (Qt.below ⟨_,rfl⟩ _)⟩
 have f2:decide (cnt<1)=false:=by simp;omega
 by_cases t3:65536<cnt
 ·obtain rfl:m=false:=by rw[←Hm.o];exact OY (.inr (.inr (.inl t3)))
  go_quiet ((go_at_call 146;exact Calls.quiet_of (Hkc.o _)))
  go_wp2;go_ret;exact⟨rfl,HB.o.trans (Qt.below ⟨_,rfl⟩ _)⟩
 have f3:decide (65536<cnt)=false:=by simp;omega
 have hw:IntKind.i64.wrap (cnt*sz)=cnt*sz:=by
  have:0≤cnt*sz:=jT aG aG;have:cnt*sz≤65536*8:=jL aG aG aG aG;rw[bJ];omega
 by_cases t4:(n:Int)=cnt*sz
 ·have hmm:=aDO (ty:=ty) (cnt:=cnt) (d:=d) (by rw[Hk.o];exact t1) t2 t3 (by rw[Hl.o,Hk.o];exact t4);rw[Hm.o]at hmm;have Hmm:=aA hmm;have f4:((n:Int) != cnt*sz)=false:=by simp[t4]
  clear hmm t4;go_quiet ((go_at_call 146;exact Calls.quiet_of (Hkc.o _)))
  go_wp2;go_loopw [3] (fun i wr=>∃k:Nat,k≤n∧i= .int .i64 k∧Hid (∀j,j<k→(d.getD j 0=0↔j+1=n))∧Qt w1 wr) (fun i _=>n - (intOf i).toNat)
  case atStart=>exact⟨0,by omega,rfl,aA (fun j hj=>by omega),⟨_,rfl⟩⟩
  case round=>
   obtain⟨k,hk,rfl,lY,hq⟩:=hrel;by_cases t5:ty=2
   ·subst t5;have hmt:m=JU d:=by rw[Hmm.o];rfl
    have Hmt:=aA hmt;clear hmt;by_cases kY:k<n
    ·obtain⟨b,off,rfl,OM,hc⟩:=Hs1.o.at kY;have e1:=hc k _ (qN (by rw[Hl.o];exact kY));clear hc;obtain⟨x,hx⟩:=aC (d.getD k 0);rw[hx]at e1;have Hx:=aA hx;clear hx;obtain⟨j,rfl⟩:=hq.ex;by_cases t6:x=0
     ·have g1:(x==0)=true:=by simp[t6]
      by_cases t7:k+1=n
      ·have g2:((k:Int)==(n:Int) - 1)=true:=by simp;omega
       have a7V:Hid (∀j,j<k+1→(d.getD j 0=0↔j+1=n)):=aA (fun j hj=>by
        rcases eB j k with h|h
        ·exact lY.o j h
        ·obtain rfl:j=k:=by omega
         rw[Hx.o];exact⟨fun _=>t7,fun _=>t6⟩)
       clear t6 t7 lY;go_wp2_with fail
       go_quiet (fail)
       go_wp2;go_roundw
       case rel=>exact⟨k+1,by omega,by go_num,a7V,⟨_,rfl⟩⟩
       case measure=>simp[intOf];omega
      ·have g2:((k:Int)==(n:Int) - 1)=false:=by simp;omega
       obtain rfl:m=false:=by rw[Hmt.o];exact aDP (i:=k) (by rw[Hl.o];exact kY) (by rw[Hx.o,Hl.o];exact fun h=>t7 (h.1 t6))
       clear t6 t7 lY;go_wp2_with fail
       go_quiet (fail)
       go_wp2;go_ret;exact⟨rfl,HB.o.trans ((hq.step _).below _)⟩
     ·have g1:(x==0)=false:=by simp[t6]
      by_cases t7:k+1=n
      ·have g2:((k:Int)==(n:Int) - 1)=true:=by simp;omega
       obtain rfl:m=false:=by rw[Hmt.o];exact aDP (i:=k) (by rw[Hl.o];exact kY) (by rw[Hx.o,Hl.o];exact fun h=>t6 (h.2 t7))
       clear t6 t7 lY;go_wp2_with fail
       go_quiet (fail)
       go_wp2;go_ret;exact⟨rfl,HB.o.trans ((hq.step _).below _)⟩
      ·have g2:((k:Int)==(n:Int) - 1)=false:=by simp;omega
       have a7V:Hid (∀j,j<k+1→(d.getD j 0=0↔j+1=n)):=aA (fun j hj=>by
        rcases eB j k with h|h
        ·exact lY.o j h
        ·obtain rfl:j=k:=by omega
         rw[Hx.o];exact⟨fun h=>absurd h t6,fun h=>absurd h t7⟩)
       clear t6 t7 lY;go_wp2_with fail
       go_quiet (fail)
       go_wp2;go_roundw
       case rel=>exact⟨k+1,by omega,by go_num,a7V,⟨_,rfl⟩⟩
       case measure=>simp[intOf];omega
    ·obtain rfl:m=true:=by
      rw[Hmt.o];refine(ZI d).2 fun i hi=>?_;rw[Hl.o]at hi ⊢;exact lY.o i aG
     obtain⟨j,rfl⟩:=hq.ex;go_wp2;go_ret;exact⟨rfl,HB.o.trans (hq.below _)⟩
   ·have g1:(ty==2)=false:=by simp[t5]
    have g2:(ty != 2)=true:=by simp[t5]
    obtain rfl:m=true:=by rw[Hmm.o,g2];rfl
    obtain⟨j,rfl⟩:=hq.ex;by_cases kY:k<n
    ·go_wp2;go_ret;exact⟨rfl,HB.o.trans (hq.below _)⟩
    ·go_wp2;go_ret;exact⟨rfl,HB.o.trans (hq.below _)⟩
 ·obtain rfl:m=false:=by rw[←Hm.o];exact OY (.inr (.inr (.inr (by rw[Hl.o,Hk.o];exact t4))))
  have f4:((n:Int) != cnt*sz)=true:=by simp[t4]
  go_quiet ((go_at_call 146;exact Calls.quiet_of (Hkc.o _)))
  go_wp2;go_ret;exact⟨rfl,HB.o.trans (Qt.below ⟨_,rfl⟩ _)⟩
theorem aSP (a:Option Addr) (n c:Nat) (l:List Int) (x:Int) (w:World) (hs:Sl w a n c 1 (ints .i64 l)):
  Calls Tryz.prog 246 #[.slice a n c,.int .i64 x] w fun e w'=>∃k:Int,e= .returned (.int .i64 k)∧(0≤k↔x∈l)∧w=w':=by
 have hl:=hs.p9;have hm:=hs.max;have FI:=hs.le;have Hl:=aA hl;clear hl;go_enter Tryz.func246,Tryz.ntmps246;go_wp2;go_loopw [8] (fun i wr=>∃k:Nat,k≤n∧i= .int .i64 k∧Hid (∀j,j<k→l.getD j 0≠x)∧Hid (wr=w)) (fun i _=>n - (intOf i).toNat)
 case atStart=>exact⟨0,by omega,rfl,aA (fun j hj=>by omega),aA rfl⟩
 case round=>
  obtain⟨k,hk,rfl,sJ,hw⟩:=hrel;obtain rfl:=hw.o.symm;clear hw;by_cases kY:k<n
  ·obtain⟨b,off,rfl,OM,hc⟩:=hs.at kY;have f1:=hc k _ (qN (by rw[Hl.o];exact kY));clear hc;obtain⟨y,hy⟩:=aC (l.getD k 0);rw[hy]at f1;have Hy:=aA hy;clear hy;cases a8U:(x==y)
   ·go_wp2;go_roundw
    case rel=>
     refine⟨k+1,by omega,by go_num,aA (fun j hj=>?_),aA trivial⟩;rcases eB j k with h|h
     ·exact sJ.o j h
     ·obtain rfl:j=k:=by omega
      rw[Hy.o];intro he;rw[he]at a8U;simp at a8U
    case measure=>simp[intOf];omega
   ·go_wp2;go_ret;refine⟨k,rfl,⟨fun _=>?_,fun _=>by omega⟩,rfl⟩;simp at a8U;have:l.getD k 0∈l:=by
     rw[aZ,bH (by rw[Hl.o];exact kY)];exact bP _
    rw[Hy.o,←a8U]at this;exact this
  ·go_wp2;go_ret;refine⟨-1,rfl,⟨fun h=>by omega,fun h=>?_⟩,rfl⟩;exfalso
   obtain⟨i,hi,he⟩:=gU.1 h;refine sJ.o i (by rw[Hl.o]at hi;omega) ?_;rw[aZ,bH hi];exact he
theorem aSQ (a:Option Addr) (n c:Nat) (l:List Int) (x:Int) (w:World) (hs:Sl w a n c 1 (ints .i64 l)):
  Calls Tryz.prog 198 #[.slice a n c,.int .i64 x] w fun e w'=>e= .returned (.bool (l.contains x))∧w=w':=by
 have hi:=aSP a n c l x w hs;obtain⟨r,hr⟩:=aC (l.contains x);rw[hr];have Hr:=aA hr;clear hr;go_enter Tryz.func198,Tryz.ntmps198;go_wp2_with fail
 refine hi.mono ?_;rintro e w2 ⟨k,rfl,hk,rfl⟩;have hkr:decide (0≤k)=r:=by
  rw[←Hr.o,dY,decide_eq_true_iff,List.contains_iff_mem];exact hk
 clear hk hi;go_wp2;go_ret;exact⟨EP rfl,rfl⟩
def KW (dir tag ty cnt:Int) (d:List Int):Bool:=
 decide (0≤dir)&&decide (dir≤5)&&decide (0≤tag)&&decide (tag≤65535)&& !WK dir tag&&wH ty cnt d&&
  (decide ((BF dir tag).2<0)||((BF dir tag).1.contains ty&&((BF dir tag).2==0||(BF dir tag).2==cnt)))
theorem RP {dir tag ty cnt:Int} {d:List Int} (h:dir<0∨5<dir∨tag<0∨65535<tag∨WK dir tag=true∨wH ty cnt d=false):KW dir tag ty cnt d=false:=by
 unfold KW;rcases h with h|h|h|h|h|h
 ·rw[decide_eq_false (show ¬0≤dir by omega)];simp
 ·rw[decide_eq_false (show ¬dir≤5 by omega)];simp
 ·rw[decide_eq_false (show ¬0≤tag by omega)];simp
 ·rw[decide_eq_false (show ¬tag≤65535 by omega)];simp
 ·rw[h];simp
 ·rw[h];simp
theorem aOT {dir tag ty cnt:Int} {d:List Int} (h1:¬dir<0) (h2:¬5<dir) (h3:¬tag<0) (h4:¬65535<tag) (h5:WK dir tag=false) (h6:wH ty cnt d=true):
  KW dir tag ty cnt d=(decide ((BF dir tag).2<0)||((BF dir tag).1.contains ty&&((BF dir tag).2==0||(BF dir tag).2==cnt))):=by
 unfold KW;rw[decide_eq_true (show 0≤dir by omega),decide_eq_true (show dir≤5 by omega),decide_eq_true (show 0≤tag by omega),decide_eq_true (show tag≤65535 by omega),h5,h6];simp
structure OZ (w:World) (g:Nat) (tag ty cnt:Int) (a:Option Addr) (n c:Nat):Prop where
 c0:w.cell? ⟨g,0,none⟩=some (.int .i64 tag)
 c1:w.cell? ⟨g,1,none⟩=some (.int .i64 ty)
 c2:w.cell? ⟨g,2,none⟩=some (.int .i64 cnt)
 c3:w.cell? ⟨g,3,none⟩=some (.slice a n c)
 lt:g<w.heap.size
theorem OZ.new (w:World) (tag ty cnt:Int) (a:Option Addr) (n c:Nat) (E:TypeId):OZ (w.alloc (.cells #[.int .i64 tag,.int .i64 ty,.int .i64 cnt,.slice a n c] E)) w.heap.size tag ty cnt a n c:=by
 have h:=nS w (.cells #[.int .i64 tag,.int .i64 ty,.int .i64 cnt,.slice a n c] E);refine⟨?_,?_,?_,?_,by simp⟩ <;> (unfold World.cell?;rw[h];rfl)
theorem OZ.mono {w w':World} {g:Nat} {tag ty cnt:Int} {a:Option Addr} {n c:Nat} (h:OZ w g tag ty cnt a n c) (hb:Below w.heap.size w w'):OZ w' g tag ty cnt a n c:=
 ⟨(hb.cell (p:=⟨g,0,none⟩) h.lt).trans h.c0,(hb.cell (p:=⟨g,1,none⟩) h.lt).trans h.c1,(hb.cell (p:=⟨g,2,none⟩) h.lt).trans h.c2,(hb.cell (p:=⟨g,3,none⟩) h.lt).trans h.c3,dD h.lt hb.size⟩
theorem aSR (b:Nat) (dir tag ty cnt:Int) (a:Option Addr) (n c:Nat) (d:List Int) (w:World) (hr:Rules w b TH) (hs:Sl w a n c 1 (ints .u8 d)) (bd:pF d)
  (hd:(Lit.int .i64 dir).wf=true) (ht:(Lit.int .i64 tag).wf=true):
  Calls Tryz.prog 133 #[.map (some b),.int .i64 dir,.agg #[.int .i64 tag,.int .i64 ty,.int .i64 cnt,.slice a n c]] w fun e w'=>e= .returned (.bool (KW dir tag ty cnt d))∧Below w.heap.size w w':=by
 obtain⟨m,hm⟩:=aC (KW dir tag ty cnt d);rw[hm];obtain⟨Hm,Hd,Ht,Bd⟩:=aL hm hd ht bd;obtain⟨w1,xR⟩:∃w1,w1=w.alloc (.cells #[.int .i64 tag,.int .i64 ty,.int .i64 cnt,.slice a n c] 74):=⟨_,rfl⟩;have kV:Below w.heap.size w w1:=by rw[xR];exact(bF _ _).alloc (aY _) _
 obtain⟨Hs1,Hr1⟩:=aJ (hs.mono kV) (hr.mono kV);obtain⟨g,hg⟩:∃g,g=w.heap.size:=⟨_,rfl⟩;have ht1:OZ w1 g tag ty cnt a n c:=by rw[hg,xR];exact OZ.new ..
 obtain⟨c0,c1,c2,c3,kY⟩:=ht1;have HT1:Hid (OZ w1 g tag ty cnt a n c):=aA ⟨c0,c1,c2,c3,kY⟩;have HB:=aA kV;clear hm hd ht bd hr hs kV;go_enter Tryz.func133,Tryz.ntmps133;by_cases t1:dir<0
 ·obtain rfl:m=false:=by rw[←Hm.o];exact RP (.inl t1)
  go_wp2;go_ret;exact⟨rfl,(bF _ _).alloc (aY _) _⟩
 have f1:decide (dir<0)=false:=by simp;omega
 by_cases t2:5<dir
 ·obtain rfl:m=false:=by rw[←Hm.o];exact RP (.inr (.inl t2))
  go_wp2;go_ret;exact⟨rfl,(bF _ _).alloc (aY _) _⟩
 have f2:decide (6≤dir)=false:=by simp;omega
 by_cases t3:tag<0
 ·obtain rfl:m=false:=by rw[←Hm.o];exact RP (.inr (.inr (.inl t3)))
  go_wp2;go_ret;exact⟨rfl,(bF _ _).alloc (aY _) _⟩
 have f3:decide (tag<0)=false:=by simp;omega
 by_cases t4:65535<tag
 ·obtain rfl:m=false:=by rw[←Hm.o];exact RP (.inr (.inr (.inr (.inl t4))))
  go_wp2;go_ret;exact⟨rfl,(bF _ _).alloc (aY _) _⟩
 have f4:decide (65535<tag)=false:=by simp;omega
 go_wp2_with fail
 rw[←xR,←hg];have HG:=aA hg;clear xR hg;refine(aAN dir tag w1).mono ?_;rintro e w2 ⟨rfl,kP⟩;have HB2:=aA (HB.o.tm kP);obtain⟨c0,c1,c2,c3,kY⟩:=HT1.o.mono kP;have HT2:Hid (OZ w2 g tag ty cnt a n c):=aA ⟨c0,c1,c2,c3,kY⟩;obtain⟨Hs2,Hr2⟩:=aJ (Hs1.o.mono kP) (Hr1.o.mono kP);clear kP HT1 Hs1 Hr1;cases aI9:WK dir tag
 case true=>
  obtain rfl:m=false:=by rw[←Hm.o];exact RP (.inr (.inr (.inr (.inr (.inl aI9)))))
  clear aI9;go_wp2;go_ret;exact⟨rfl,HB2.o⟩
 have bUA:=aA aI9;clear aI9;go_wp2_with fail
 refine(RO ty cnt a n c d w2 Hs2.o Bd.o).mono ?_;rintro e w3 ⟨rfl,kT⟩;have HB3:=aA (HB2.o.tm kT);obtain⟨c0,c1,c2,c3,kY⟩:=HT2.o.mono kT;have Hr3:=aA (Hr2.o.mono kT);clear kT HT2 Hs2 Hr2 HB2 HB;cases hmay:wH ty cnt d
 case false=>
  obtain rfl:m=false:=by rw[←Hm.o];exact RP (.inr (.inr (.inr (.inr (.inr hmay)))))
  clear hmay;go_wp2;go_ret;exact⟨rfl,HB3.o⟩
 have hme:=aOT (d:=d) aG aG aG aG bUA.o hmay;rw[Hm.o]at hme;clear hmay t1 t2 t3 t4;by_cases hex:∃x∈TH,x.1=(dir,tag)
 ·have Hex:=aA hex;clear hex;have Hme:=aA hme;clear hme;go_wp2_with (at_lookup;refine a1Q rfl (.tmp 38) (.tmp 42) rfl b TH dir tag rfl rfl Hr3.o Hd.o Ht.o Hex.o ?_;intro x hx he a1 n1 c1' NW)
  have hk:=aIN x hx;have hnn:=(aAL x hx).1;rw[he]at hk;simp only at hk;clear hx he Hex;obtain⟨⟨xd,xt⟩,xl,xc⟩:=x;simp only at NW hnn hk;have b2H:=Hme.o;rw[hk,decide_eq_false (show ¬xc<0 by omega),Bool.false_or]at b2H;have bBP:=AZ NW (.cells #[.slice a1 n1 c1',.int .i64 xc] 258);clear NW hk Hme;have hcc:=aSQ a1 n1 c1' xl ty _ bBP;obtain⟨r,hrr⟩:=aC (xl.contains ty);rw[hrr]at b2H hcc;have bBQ:=aA b2H;clear b2H hrr bBP;go_wp2_with fail
  refine hcc.mono ?_;rintro e w4 ⟨rfl,rfl⟩;have hE:=HB3.o.alloc HB3.o.size (.cells #[.slice a1 n1 c1',.int .i64 xc] 258);cases r
  ·obtain rfl:m=false:=by rw[bBQ.o];rfl
   go_wp2;go_ret;exact⟨rfl,hE⟩
  ·by_cases t5:xc=0
   ·have g1:(xc==0)=true:=by simp[t5]
    obtain rfl:m=true:=by rw[bBQ.o,g1];rfl
    go_wp2;go_ret;exact⟨rfl,HB3.o.alloc HB3.o.size _⟩
   ·have g1:(xc==0)=false:=by simp[t5]
    obtain rfl:m=(xc==cnt):=by rw[bBQ.o,g1];simp
    go_wp2;go_ret;exact⟨rfl,hE⟩
 ·have sJ:∀x∈TH,x.1≠(dir,tag):=fun x hx he=>hex ⟨x,hx,he⟩;have hkn:=aOR sJ;rw[hkn]at hme;obtain rfl:m=true:=by rw[hme];rfl
  have Hno:=aA sJ;clear sJ hex hkn hme;go_wp2_with (at_lookup;refine a3H rfl (.tmp 38) (.tmp 42) rfl b TH dir tag rfl rfl Hr3.o Hd.o Ht.o Hno.o ?_)
  go_ret;exact⟨rfl,HB3.o.alloc HB3.o.size _⟩
abbrev Tg:=Int×Int×Int×List Int
structure Ts (w:World) (a:Option Addr) (n cap:Nat) (ts:List Tg):Prop where
 vs:∃vs:List Value,Sl w a n cap 4 vs∧∀i,i<n→∃a' n' c',vs[i*4]? =some (.int .i64 (ts.getD i (0,0,0, [])).1)∧vs[i*4+1]? =some (.int .i64 (ts.getD i (0,0,0, [])).2.1)∧vs[i*4+2]? =some (.int .i64 (ts.getD i (0,0,0, [])).2.2.1)∧
  vs[i*4+3]? =some (.slice a' n' c')∧Sl w a' n' c' 1 (ints .u8 (ts.getD i (0,0,0, [])).2.2.2)
 len:ts.length=n
theorem Ts.mono {w w':World} {a:Option Addr} {n cap:Nat} {ts:List Tg} (h:Ts w a n cap ts) (hb:Below w.heap.size w w'):Ts w' a n cap ts:=by
 obtain⟨⟨vs,h1,h2⟩,h3⟩:=h;exact⟨⟨vs,h1.mono hb,fun i hi=>by obtain⟨a',n',c',e0,e1,e2,e3,hs⟩:=h2 i hi;exact⟨a',n',c',e0,e1,e2,e3,hs.mono hb⟩⟩,h3⟩
theorem Ts.max {w:World} {a:Option Addr} {n cap:Nat} {ts:List Tg} (h:Ts w a n cap ts):n≤9223372036854775807:=by
 obtain⟨⟨vs,h1,h2⟩,h3⟩:=h;exact bU h1.le h1.max
theorem Ts.at {w:World} {a:Option Addr} {n cap:Nat} {ts:List Tg} (h:Ts w a n cap ts) {k:Nat} (hk:k<n):
  ∃b o a' n' c',a=some ⟨b,o,none⟩∧b<w.heap.size∧w.cell? ⟨b,o+k*4,none⟩=some (.int .i64 (ts.getD k (0,0,0, [])).1)∧w.cell? ⟨b,o+k*4+1,none⟩=some (.int .i64 (ts.getD k (0,0,0, [])).2.1)∧
   w.cell? ⟨b,o+k*4+2,none⟩=some (.int .i64 (ts.getD k (0,0,0, [])).2.2.1)∧w.cell? ⟨b,o+k*4+3,none⟩=some (.slice a' n' c')∧Sl w a' n' c' 1 (ints .u8 (ts.getD k (0,0,0, [])).2.2.2):=by
 obtain⟨⟨vs,h1,h2⟩,h3⟩:=h;obtain⟨b,o,rfl,hb,hc⟩:=h1.at hk;obtain⟨a',n',c',e0,e1,e2,e3,hs⟩:=h2 k hk;exact⟨b,o,a',n',c',rfl,hb,hc _ _ e0,hc _ _ e1,hc _ _ e2,hc _ _ e3,hs⟩
def a1R (x:Tg):Prop:=(Lit.int .i64 x.1).wf=true∧pF x.2.2.2
def P5 (dir:Int) (x:Tg):Bool:=KW dir x.1 x.2.1 x.2.2.1 x.2.2.2
