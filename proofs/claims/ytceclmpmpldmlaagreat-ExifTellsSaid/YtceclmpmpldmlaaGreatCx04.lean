import Derived.Test.YtceclmpmpldmlaaGreatCx03
import Derived.Shelf.Bytes.SlIndexAt
import Derived.Lib.BytesEntry
import Derived.Laws.Tables
set_option linter.unusedSimpArgs false
set_option linter.unusedVariables false
set_option maxRecDepth 100000
set_option maxHeartbeats 8000000
namespace Go.Proofs.YtceclmpmpldmlaaGreat
open Go.RowKit Tt
attribute [-go_sem] run_eql_struct
def aFX:List (Int×Int):= [(0,34665),(0,34853),(1,513),(1,514),(2,37500),(2,40965),(5,45057),(5,45058)]
def MF (d t:Int):Bool:=aFX.contains (d,t)
theorem aXS {d t:Int} (h:∀x∈aFX,x≠(d,t)):MF d t=false:=by
 unfold MF;rw[Bool.eq_false_iff];intro hc;have:=gJ.1 hc;exact h _ this rfl
def N7 (ps:List (Int×Int)):List Value:=ps.flatMap fun p=> [.int .i64 p.1,.int .i64 p.2]
theorem a0Y:∀(ps:List (Int×Int)) (i:Nat),i<ps.length→(N7 ps)[i*2]? =some (.int .i64 (ps.getD i (0,0)).1)∧(N7 ps)[i*2+1]? =some (.int .i64 (ps.getD i (0,0)).2)
 | [],i,h=>by simp at h
 |p::r,0,_=>by simp[N7]
 |p::r,i+1,h=>by
  have:=a0Y r i (by simpa using h);rw[show(i+1)*2=i*2+1+1 by omega];simpa [N7] using this
theorem aXT (a:Option Addr) (n c:Nat) (ps:List (Int×Int)) (d t:Int) (w:World) (hs:Sl w a n c 2 (N7 ps)) (hl:ps.length=n):
  Calls Tryz.prog 263 #[.slice a n c,WT d t] w fun e w'=>∃k:Int,e= .returned (.int .i64 k)∧(0≤k↔(d,t)∈ps)∧Below w.heap.size w w':=by
 have hm:=hs.max;have BX:=hs.le;have hEq:=aPC;unfold WT at hEq ⊢;obtain⟨Hs,Hl⟩:=aJ hs hl;clear hs hl;go_enter Tryz.func263,Tryz.ntmps263;go_wp2;obtain⟨g,hg⟩:∃g,g=w.heap.size:=⟨_,rfl⟩;obtain⟨w1,sS⟩:∃w1,w1=w.alloc (.cells #[.int .i64 d,.int .i64 t] 261):=⟨_,rfl⟩;have IY:Hid (Sl w1 a n c 2 (N7 ps)):=aA (by rw[sS];exact vU Hs.o _);have jY:Hid (Below w.heap.size w w1):=aA (by rw[sS];exact(aY _ _).alloc (aZ _) _);have bx0:w1.cell? ⟨g,0,none⟩=some (.int .i64 d):=by rw[sS,hg];unfold World.cell?;rw[mZ];rfl
 have bx1:w1.cell? ⟨g,1,none⟩=some (.int .i64 t):=by rw[sS,hg];unfold World.cell?;rw[mZ];rfl
 rw[←sS,←hg];have HG:=aA hg;clear sS hg Hs;go_loopw [8] (fun i wr=>∃k:Nat,k≤n∧i= .int .i64 k∧Hid (∀j,j<k→ps.getD j (0,0)≠(d,t))∧Qt w1 wr) (fun i _=>n - (intOf i).toNat)
 case atStart=>exact⟨0,by omega,rfl,aA (fun j hj=>by omega),Qt.refl _⟩
 case round=>
  obtain⟨k,hk,rfl,qW,hq⟩:=hrel;by_cases kD:k<n
  ·obtain⟨b,off,rfl,xI,hc⟩:=IY.o.at kD;obtain⟨g1,g2⟩:=a0Y ps k (by rw[Hl.o];exact kD);have f1:=hc _ _ g1;have f2:=hc _ _ g2;obtain⟨m,rfl⟩:=hq.ex;obtain⟨pd,pt,PY⟩:∃pd pt,ps.getD k (0,0)=(pd,pt):=⟨_,_,rfl⟩;rw[PY]at f1 f2;have Hpe:=aA PY;clear hc g1 g2 PY;rw[show off+(k*2+1)=off+k*2+1 by omega]at f2;cases a6X:(d==pd&&t==pt)
   ·go_wp2_with fail
    go_quiet (fail)
    go_wp2;go_roundw
    case rel=>
     refine⟨k+1,by omega,by go_num,aA (fun j hj=>?_),⟨_,rfl⟩⟩;rcases dM j k with h|h
     ·exact qW.o j h
     ·obtain rfl:j=k:=by omega
      rw[Hpe.o];intro he;injection he with h1 h2;rw[h1,h2]at a6X
      simp at a6X
    case measure=>simp[intOf];omega
   ·go_wp2_with fail
    go_quiet (fail)
    go_wp2;go_ret;refine⟨k,rfl,⟨fun _=>?_,fun _=>by omega⟩,?_⟩
    ·simp at a6X;have:ps.getD k (0,0)∈ps:=by
      rw[bH,bI (by rw[Hl.o];exact kD)];exact bJ _
     rw[Hpe.o,←a6X.1,←a6X.2]at this;exact this
    ·exact jY.o.trans ((hq.step _).below _)
  ·go_wp2;go_ret;refine⟨-1,rfl,⟨fun h=>by omega,fun h=>?_⟩,jY.o.trans (hq.below _)⟩;exfalso
   obtain⟨i,hi,he⟩:=fM.1 h;refine qW.o i (by rw[Hl.o]at hi;omega) ?_;rw[bH,bI hi];exact he
theorem a8R (a:Option Addr) (n c:Nat) (ps:List (Int×Int)) (d t:Int) (w:World) (hs:Sl w a n c 2 (N7 ps)) (hl:ps.length=n):
  Calls Tryz.prog 245 #[.slice a n c,WT d t] w fun e w'=>e= .returned (.bool (ps.contains (d,t)))∧Below w.heap.size w w':=by
 have hi:=fun W h=>aXT a n c ps d t W h hl;unfold WT at hi ⊢;obtain⟨r,hr⟩:=aC (ps.contains (d,t));rw[hr];have Hr:=aA hr;clear hr;go_enter Tryz.func245,Tryz.ntmps245;go_wp2_with fail
 refine(hi _ (vU hs _)).mono ?_;rintro e w2 ⟨k,rfl,hk,hb⟩;have jT:=(aD w (.cells #[.int .i64 d,.int .i64 t] 261)).trans (hb.mono (by simp));clear hb hi;have hkr:decide (0≤k)=r:=by
  rw[←Hr.o];rw[eD,decide_eq_true_iff,gJ];exact hk
 clear hk;go_wp2;go_ret;exact⟨zO rfl,jT⟩
theorem a8S (d t:Int) (w:World):
  Calls Tryz.prog 197 #[.int .i64 d,.int .i64 t] w fun e w'=>e= .returned (.bool (MF d t))∧Below w.heap.size w w':=by
 have hc:∀W:World,Sl W (some ⟨w.heap.size,0,none⟩) 8 8 2 (N7 aFX)→Calls Tryz.prog 245 #[.slice (some ⟨w.heap.size,0,none⟩) 8 8,.agg #[.int .i64 d,.int .i64 t]] W fun e w'=>e= .returned (.bool (MF d t))∧Below W.heap.size W w':=fun W h=>a8R (some ⟨w.heap.size,0,none⟩) 8 8 aFX d t W h rfl;generalize MF d t=r at*;go_enter Tryz.func197,Tryz.ntmps197;go_wp2_with fail
 refine(hc _ (Sl.new w 261 2 8 _ (0,0) aH rfl)).mono ?_;rintro e w2 ⟨rfl,hb⟩;have jT:=(aD w _).trans (hb.mono (by simp));clear hb hc;go_wp2;go_ret;exact⟨rfl,jT⟩
theorem a5Y (d t:Int) (w:World):
  Calls Tryz.prog 199 #[.int .i64 d,.int .i64 t] w fun e w'=>e= .returned (.bool (MF d t))∧w=w':=by
 have E:=a0W;by_cases hex:(d,t)∈aFX
 ·have hr:MF d t=true:=gJ.2 hex;rw[hr];simp only[aFX,cB,dK,or_false,fQ]at hex;rcases hex with ⟨rfl,rfl⟩|⟨rfl,rfl⟩|⟨rfl,rfl⟩|⟨rfl,rfl⟩|⟨rfl,rfl⟩|⟨rfl,rfl⟩|⟨rfl,rfl⟩|⟨rfl,rfl⟩
  all_goals (go_enter Tryz.func199,Tryz.ntmps199;go_wp2;go_ret;exact⟨rfl,rfl⟩)
 ·have hr:MF d t=false:=aXS (fun x hx he=>hex (he▸hx));rw[hr];simp only[aFX,cB,dK,or_false,fQ,not_or]at hex;obtain⟨h1,h2,h3,h4,h5,h6,h7,h8⟩:=hex;have f1:(d==0&&t==34665)=false:=by simpa using h1
  have f2:(d==0&&t==34853)=false:=by simpa using h2
  have f3:(d==1&&t==513)=false:=by simpa using h3
  have f4:(d==1&&t==514)=false:=by simpa using h4
  have f5:(d==2&&t==37500)=false:=by simpa using h5
  have f6:(d==2&&t==40965)=false:=by simpa using h6
  have f7:(d==5&&t==45057)=false:=by simpa using h7
  have f8:(d==5&&t==45058)=false:=by simpa using h8
  clear h1 h2 h3 h4 h5 h6 h7 h8;go_enter Tryz.func199,Tryz.ntmps199;go_wp2;go_ret;exact⟨rfl,rfl⟩
end Go.Proofs.YtceclmpmpldmlaaGreat
namespace Go.Proofs.YtceclmpmpldmlaaGreat
open Go.RowKit Tt
def aPM:List (Int×Int×Int):= [(0,0,0),(1,1,1),(1,1,1),(2,2,1),(4,4,1),(8,4,3),(1,1,2),(1,1,1),(2,2,2),(4,4,2),(8,4,4),(4,4,5),(8,8,5)]
def kU (n:Int):Int×Int×Int:=if n<0∨12<n then(0,0,0)else aPM.getD n.toNat (0,0,0)
theorem OZ {n:Int} (h:n<0∨12<n):kU n=(0,0,0):=if_pos h
theorem AY (n:Int):0≤(kU n).1∧(kU n).1≤8:=by
 unfold kU;split
 ·exact⟨by decide,by decide⟩
 ·have:∀x∈aPM,0≤x.1∧x.1≤8:=by decide
  rw[bH];cases h:aPM[n.toNat]? with
  |none=>exact⟨by decide,by decide⟩
  |some x=>exact this x (List.mem_of_getElem? h)
theorem a5Z (a:Option Addr) (n c:Nat) (x:List Int) (cv:Int) (w:World) (hs:Sl w a n c 1 (ints .u8 x)):
  Calls Tryz.prog 159 #[.slice a n c,.int .u8 cv] w fun e w'=>e= .returned (.int .i64 (Lib.indexByte (Lib.bytesOf x) cv.toNat.toUInt8))∧w=w':=by
 have hl:=hs.nU;cases a with
 |none=>
  have h1:=hs.fit rfl;have h2:=hs.le;subst h1;obtain rfl:n=0:=by omega
  obtain rfl:x= []:=dN hl;go_enter Tryz.func159,Tryz.ntmps159;go_wp2;rw[run_callFunc_extern Tryz.func226 aF aF aF (e:=Extern.BytealgIndexByte.indexByte) aF,Lib.run_indexByteNil w 0 0 cv];simp only[Result.andThen];rw[Oper.upon_value];go_wp2;go_ret;exact⟨rfl,rfl⟩
 |some y=>
  have hc:∀i,i<n→w.cell? (y.add i)=some (.int .u8 (x.getD i 0)):=fun i hi=>by
   obtain⟨b,off,e,_,hc⟩:=hs.at hi;injection e with e;subst e;rw[fH];exact hc i _ (oP aG)
  go_enter Tryz.func159,Tryz.ntmps159;go_wp2;rw[run_callFunc_extern Tryz.func226 aF aF aF (e:=Extern.BytealgIndexByte.indexByte) aF,Lib.run_indexByteAt w y n c x hl hc cv];simp only[Result.andThen];rw[Oper.upon_value];go_wp2;go_ret;exact⟨rfl,rfl⟩
def zC:Array Value:=#[.int .i64 0,.int .i64 0,.int .i64 0,.int .i64 1,.int .i64 1,.int .i64 1,.int .i64 1,.int .i64 1,.int .i64 1,.int .i64 2,.int .i64 2,.int .i64 1,.int .i64 4,.int .i64 4,.int .i64 1,.int .i64 8,.int .i64 4,.int .i64 3,.int .i64 1,.int .i64 1,.int .i64 2,.int .i64 1,.int .i64 1,.int .i64 1,.int .i64 2,.int .i64 2,.int .i64 2,.int .i64 4,.int .i64 4,.int .i64 2,.int .i64 8,.int .i64 4,.int .i64 4,.int .i64 4,.int .i64 4,.int .i64 5,.int .i64 8,.int .i64 8,.int .i64 5]
theorem a8T {P:Program} {ops:Array Oper} {rest:List Oper} {o:Oper} {a:Act} {w:World} {Q:Exit→Act→World→Prop} (hg:o.guard=none) (t:TypeId) (parts:Array (Nat×Operand)) (ho:o.op= .build t parts) (cells:Array Value)
  (hf:P.built t (parts.map fun(i,x)=>(i,a.eval x)).toList=some cells)
  (h:wpList P ops Q rest (a.put o.dst (.agg cells)) w):wpList P ops Q (o::rest) a w:=
 wpList_build hg t parts ho (by rw[hf];rfl) (by rw[hf];exact h)
theorem kH {B:Nat} {w w':World} (h:Below B w w') {g:Nat} (hg:B≤g) (cs:Array Value):Below B w (w'.setRow g cs):=
 ⟨h.os,h.tape,h.output,by rw[setRow_size];exact h.size,fun k hk=>by rw[setRow_other _ _ _ _ aG];exact h.block k hk⟩
theorem aMC (w:World):Calls Tryz.prog 167 #[] w fun e w'=>e= .returned (.agg zC)∧Below w.heap.size w w':=by
 have ki:(Tryz.prog.info? 231).map (·.size)=some zC.size:=by kernel_rfl
 have ka:zC.all (·.oneCell')=true:=by kernel_rfl
 go_enter Tryz.func167,Tryz.ntmps167;go_wp2_with (first
  |(refine a8T rfl 231 _ rfl zC aF ?_)
  |(refine wpList_store_row rfl 231 (.tmp 0) (.tmp 13) rfl w.heap.size zC rfl rfl 231 _ (mZ w _) ki rfl ka ?_))
 refine bodyPost_ret (results_cell_row rfl _ _ w.heap.size 231 zC (0,0) _ rfl (setRow_heap _ _ _ _ _ _ (mZ w _)) Tryz.underlying231 rfl ki) rfl ?_;exact⟨rfl,kH ((aY _ _).alloc (aZ _) _) (aZ _) _⟩
theorem aXU {n:Int} (h0:0≤n) (h1:n≤12) (W:World):(Instr.index 231 (.agg zC) (.int .i64 n)).run Tryz.prog W= .ok (.agg #[.int .i64 (kU n).1,.int .i64 (kU n).2.1,.int .i64 (kU n).2.2]) W:=by
 rcases(by omega:n=0∨n=1∨n=2∨n=3∨n=4∨n=5∨n=6∨n=7∨n=8∨n=9∨n=10∨n=11∨n=12)with rfl|rfl|rfl|rfl|rfl|rfl|rfl|rfl|rfl|rfl|rfl|rfl|rfl
 all_goals kernel_rfl
theorem a0Z (n:Int) (w:World):Calls Tryz.prog 116 #[.int .i64 n] w fun e w'=>e= .returned (.agg #[.int .i64 (kU n).1,.int .i64 (kU n).2.1,.int .i64 (kU n).2.2])∧Below w.heap.size w w':=by
 by_cases h:n<0∨12<n
 ·rw[OZ h];by_cases h0:n<0
  ·go_enter Tryz.func116,Tryz.ntmps116;go_wp2;refine bodyPost_ret (results_cell_row rfl _ _ w.heap.size 185 #[.int .i64 0,.int .i64 0,.int .i64 0] (0,0) _ rfl (mZ w _) Tryz.underlying185 rfl aF) rfl ?_;exact⟨rfl,(aY _ _).alloc (aZ _) _⟩
  ·have h1:12<n:=by omega
   go_enter Tryz.func116,Tryz.ntmps116;go_wp2;refine bodyPost_ret (results_cell_row rfl _ _ w.heap.size 185 #[.int .i64 0,.int .i64 0,.int .i64 0] (0,0) _ rfl (mZ w _) Tryz.underlying185 rfl aF) rfl ?_;exact⟨rfl,(aY _ _).alloc (aZ _) _⟩
 ·have pQ:=fun W=>aXU (n:=n) aG aG W;have h0:¬n<0:=by omega
  have h1:¬12<n:=by omega
  obtain⟨s,p,i,hk⟩:∃s p i,kU n=(s,p,i):=⟨_,_,_,rfl⟩;rw[hk]at pQ ⊢;simp only at pQ ⊢;clear h hk;go_enter Tryz.func116,Tryz.ntmps116;go_wp2_with fail
  refine(aMC _).mono ?_;rintro e w1 ⟨rfl,hb⟩;have hg:w1.heap[w.heap.size]? =_:=(hb.block w.heap.size (by simp)).trans (mZ w _);generalize zC=kc at*;have bD1:(#[.int .i64 s,.int .i64 p,.int .i64 i]:Array Value).all (·.oneCell')=true:=by simp[Value.oneCell']
  have bD2:(Tryz.prog.info? 185).map (·.size)=some (#[.int .i64 s,.int .i64 p,.int .i64 i]:Array Value).size:=by kernel_rfl
  obtain⟨bNN,bNO,Hg⟩:=aK bD1 bD2 hg;clear bD1 bD2 hg;go_wp2_with (refine wpList_store_row rfl 185 (.tmp 2) (.tmp 12) rfl w.heap.size #[.int .i64 s,.int .i64 p,.int .i64 i] rfl rfl 185 _ Hg.o bNO.o rfl bNN.o ?_)
  refine bodyPost_ret (results_cell_row rfl _ _ w.heap.size 185 #[.int .i64 s,.int .i64 p,.int .i64 i] (0,0) _ rfl (setRow_heap _ _ _ _ _ _ Hg.o) Tryz.underlying185 rfl aF) rfl ?_;exact⟨rfl,kH ((aD w _).trans (hb.mono (by simp))) (aZ _) _⟩
def GV:List Int→Bool
 | []=>true
 | [x]=>x==0
 |x::y::r=>(x != 0)&&GV (y::r)
theorem X0:∀l:List Int,GV l=true↔∀i,i<l.length→(l.getD i 0=0↔i+1=l.length)
 | []=>by simp[GV]
 | [x]=>by
  simp only[GV,beq_iff_eq,dP,iG];refine⟨fun h i hi=>?_,fun h=>?_⟩
  ·obtain rfl:i=0:=by omega
   simp[h]
  ·have:=h 0 aG;simpa using this
 |x::y::r=>by
  have ih:=X0 (y::r);simp only[GV,bV,bne_iff_ne,ne_eq];rw[ih];refine⟨fun⟨h0,h⟩ i hi=>?_,fun h=>⟨?_,fun i hi=>?_⟩⟩
  ·cases i with
   |zero=>simp[h0]
   |succ i=>
    rw[aU,h i (by simpa using hi)];simp
  ·have:=h 0 (by simp);simpa using this
  ·have:=h (i+1) (by simpa using hi);rw[aU]at this;rw[this];simp
theorem byte_zero {x:Int} (h:0≤x∧x<256):(UInt8.ofNat x.toNat==(0:Int).toNat.toUInt8)=(x==0):=by
 rw[eD,beq_iff_eq,beq_iff_eq];constructor
 ·intro h2;have h3:=congrArg UInt8.toNat h2;simp[gY (show x.toNat<256 by omega)]at h3;omega
 ·rintro rfl;rfl
theorem a7E:∀l:List Int,tV l→(Lib.indexByte (Lib.bytesOf l) (0:Int).toNat.toUInt8=(l.length:Int) - 1↔GV l=true)
 | [],_=>by simp[Lib.bytesOf,Lib.indexByte,GV]
 | [x],h=>by
  have hx:=byte_zero (h x (by simp));simp only[Lib.bytesOf,aW,aX,Lib.indexByte,GV,hx];cases hc:x==0 <;> simp
 |x::y::r,h=>by
  have hx:=byte_zero (h x (by simp));have ih:=a7E (y::r) (fun z hz=>h z (cZ _ hz));have hg:=Lib.indexByte_ge (Lib.bytesOf (y::r)) (0:Int).toNat.toUInt8;have e:Lib.indexByte (Lib.bytesOf (x::y::r)) (0:Int).toNat.toUInt8=if(x==0)=true then 0 else if Lib.indexByte (Lib.bytesOf (y::r)) (0:Int).toNat.toUInt8== -1 then -1 else Lib.indexByte (Lib.bytesOf (y::r)) (0:Int).toNat.toUInt8+1:=by
   rw[←hx];rfl
  rw[e];simp only[GV,bV,bne_iff_ne,ne_eq,←ih];generalize Lib.indexByte (Lib.bytesOf (y::r)) (0:Int).toNat.toUInt8=k at*;have hl:((x::y::r).length:Int)=((y::r).length:Int)+1:=by simp
  have hl2:(1:Int)≤((y::r).length:Int):=by simp;omega
  rw[hl];generalize ((y::r).length:Int)=n at*;by_cases h0:x=0
  ·simp[h0];omega
  ·by_cases h1:k= -1
   ·simp[h0,h1];omega
   ·simp[h0,h1];omega
def vH (ty cnt:Int) (d:List Int):Bool:=
 decide ((kU ty).1≠0)&&decide (1≤cnt)&&decide (cnt≤65536)&&decide ((d.length:Int)=cnt*(kU ty).1)&&(ty != 2||GV d)
theorem N8 {ty cnt:Int} {d:List Int} (h:(kU ty).1=0∨cnt<1∨65536<cnt∨(d.length:Int)≠cnt*(kU ty).1):vH ty cnt d=false:=by
 unfold vH;rcases h with h|h|h|h
 ·simp[h]
 ·rw[decide_eq_false (show ¬1≤cnt by omega)];simp
 ·rw[decide_eq_false (show ¬cnt≤65536 by omega)];simp
 ·rw[decide_eq_false h];simp
theorem aB6 {ty cnt:Int} {d:List Int} (h1:(kU ty).1≠0) (h2:¬cnt<1) (h3:¬65536<cnt) (h4:(d.length:Int)=cnt*(kU ty).1):vH ty cnt d=(ty != 2||GV d):=by
 unfold vH;rw[decide_eq_true h1,decide_eq_true (show 1≤cnt by omega),decide_eq_true (show cnt≤65536 by omega),decide_eq_true h4];simp
theorem a0L (ty cnt:Int) (a:Option Addr) (n c:Nat) (d:List Int) (w:World) (hs:Sl w a n c 1 (ints .u8 d)) (bd:tV d):
  Calls Tryz.prog 102 #[.agg #[.int .i64 ty,.int .i64 cnt,.slice a n c]] w fun e w'=>e= .returned (.bool (vH ty cnt d))∧Below w.heap.size w w':=by
 have hl:=hs.nU;obtain⟨m,hm⟩:=aC (vH ty cnt d);rw[hm];obtain⟨Hm,Hs,Hl,Bd⟩:=aL hm hs hl bd;have rX:=AY ty;have LX:=hs.max;have BX:=hs.le;clear hm hs hl bd;obtain⟨sz,pt,is,hk⟩:∃s p i,kU ty=(s,p,i):=⟨_,_,_,rfl⟩;rw[hk]at rX;simp only at rX;have Hk:=aA hk;clear hk;have hkc:=fun W=>a0Z ty W;rw[Hk.o]at hkc;simp only at hkc;go_enter Tryz.func102,Tryz.ntmps102;go_wp2_with fail
 refine(hkc _).mono ?_;rintro e w1 ⟨rfl,hb⟩;have jY:Below w.heap.size w w1:=(aD w _).trans (hb.mono (by simp));obtain⟨g,hg⟩:∃g,g=w.heap.size:=⟨_,rfl⟩;have yK:w1.heap[g]? =some (.cells #[.int .i64 ty,.int .i64 cnt,.slice a n c] 72):=by rw[hg];exact(hb.block w.heap.size (by simp)).trans (mZ w _)
 have kD:g<w1.heap.size:=(bW.1 yK).1;have c0:w1.cell? ⟨g,0,none⟩=some (.int .i64 ty):=by unfold World.cell?;rw[yK];rfl
 have c1:w1.cell? ⟨g,1,none⟩=some (.int .i64 cnt):=by unfold World.cell?;rw[yK];rfl
 have c2:w1.cell? ⟨g,2,none⟩=some (.slice a n c):=by unfold World.cell?;rw[yK];rfl
 have Hs1:=aA (Hs.o.mono jY);rw[←hg];obtain⟨HG,HB⟩:=aJ hg jY;clear hb jY hg yK hkc;by_cases t1:sz=0
 ·subst t1;obtain rfl:m=false:=by rw[←Hm.o];exact N8 (.inl (by rw[Hk.o]))
  go_wp2;go_ret;exact⟨rfl,HB.o.alloc HB.o.size _⟩
 by_cases t2:cnt<1
 ·obtain rfl:m=false:=by rw[←Hm.o];exact N8 (.inr (.inl t2))
  go_wp2;go_ret;exact⟨rfl,HB.o.alloc HB.o.size _⟩
 by_cases t3:65536<cnt
 ·obtain rfl:m=false:=by rw[←Hm.o];exact N8 (.inr (.inr (.inl t3)))
  go_wp2;go_ret;exact⟨rfl,HB.o.alloc HB.o.size _⟩
 have hw:IntKind.i64.wrap (cnt*sz)=cnt*sz:=by
  have:0≤cnt*sz:=iX aG aG;have:cnt*sz≤65536*8:=iO aG aG aG aG;rw[bF];omega
 have f1:(sz==0)=false:=by simp[t1]
 by_cases t4:(n:Int)=cnt*sz
 ·have UA:=aB6 (ty:=ty) (cnt:=cnt) (d:=d) (by rw[Hk.o];exact t1) t2 t3 (by rw[Hl.o,Hk.o];exact t4);rw[Hm.o]at UA;have Hmm:=aA UA;have f4:((n:Int) != cnt*sz)=false:=by simp[t4]
  clear UA t4;by_cases t5:ty=2
  ·subst t5;have hti:=(a7E d Bd.o);rw[Hl.o]at hti;have hi:=fun j=>(a5Z a n c d 0 ((w1.alloc (.cells #[.int .i64 sz,.int .i64 pt,.int .i64 is] 185)).drewN j) (vU Hs1.o _).drewN).mono (fun e w' (h:_∧_)=>(⟨h.1,by rw[←h.2];exact Qt.refl _⟩:_∧Qt _ w'));obtain⟨k,hkk⟩:=aC (Lib.indexByte (Lib.bytesOf d) (0:Int).toNat.toUInt8);rw[hkk]at hti hi;have hk2:=Lib.indexByte_ge (Lib.bytesOf d) (0:Int).toNat.toUInt8;rw[hkk]at hk2;have hmk:m=(k==(n:Int) - 1):=by
    rw[Hmm.o,eD,beq_iff_eq,hti];simp
   obtain⟨Hmk,Hi⟩:=aJ hmk hi;clear hti hkk hi hmk;go_wp2_with fail
   go_quiet ((go_at_call 159;exact Calls.quiet_of (Hi.o _)))
   go_wp2;go_ret;exact⟨zO Hmk.o.symm,(HB.o.alloc HB.o.size _).trans (Qt.below ⟨_,rfl⟩ _)⟩
  ·have f5:(ty==2)=false:=by simp[t5]
   have f6:(ty != 2)=true:=by simp[t5]
   have UA:m=true:=by rw[Hmm.o,f6];rfl
   subst UA;go_wp2_with fail
   go_quiet (fail)
   go_wp2;go_ret;exact⟨rfl,(HB.o.alloc HB.o.size _).trans (Qt.below ⟨_,rfl⟩ _)⟩
 ·obtain rfl:m=false:=by rw[←Hm.o];exact N8 (.inr (.inr (.inr (by rw[Hl.o,Hk.o];exact t4))))
  have f4:((n:Int) != cnt*sz)=true:=by simp[t4]
  go_wp2;go_ret;exact⟨rfl,HB.o.alloc HB.o.size _⟩
theorem JC (n:Int) (w:World):Calls Tryz.prog 146 #[.int .i64 n] w fun e w'=>e= .returned (.int .i64 (kU n).1)∧w=w':=by
 by_cases h1:n=1
 ·subst h1;have e:(kU 1).1=1:=by decide
  rw[e];go_enter Tryz.func146,Tryz.ntmps146;go_wp2;go_ret;exact⟨rfl,rfl⟩
 by_cases h2:n=2
 ·subst h2;have e:(kU 2).1=1:=by decide
  rw[e];go_enter Tryz.func146,Tryz.ntmps146;go_wp2;go_ret;exact⟨rfl,rfl⟩
 by_cases h3:n=3
 ·subst h3;have e:(kU 3).1=2:=by decide
  rw[e];go_enter Tryz.func146,Tryz.ntmps146;go_wp2;go_ret;exact⟨rfl,rfl⟩
 by_cases h4:n=4
 ·subst h4;have e:(kU 4).1=4:=by decide
  rw[e];go_enter Tryz.func146,Tryz.ntmps146;go_wp2;go_ret;exact⟨rfl,rfl⟩
 by_cases h5:n=5
 ·subst h5;have e:(kU 5).1=8:=by decide
  rw[e];go_enter Tryz.func146,Tryz.ntmps146;go_wp2;go_ret;exact⟨rfl,rfl⟩
 by_cases h6:n=6
 ·subst h6;have e:(kU 6).1=1:=by decide
  rw[e];go_enter Tryz.func146,Tryz.ntmps146;go_wp2;go_ret;exact⟨rfl,rfl⟩
 by_cases h7:n=7
 ·subst h7;have e:(kU 7).1=1:=by decide
  rw[e];go_enter Tryz.func146,Tryz.ntmps146;go_wp2;go_ret;exact⟨rfl,rfl⟩
 by_cases h8:n=8
 ·subst h8;have e:(kU 8).1=2:=by decide
  rw[e];go_enter Tryz.func146,Tryz.ntmps146;go_wp2;go_ret;exact⟨rfl,rfl⟩
 by_cases h9:n=9
 ·subst h9;have e:(kU 9).1=4:=by decide
  rw[e];go_enter Tryz.func146,Tryz.ntmps146;go_wp2;go_ret;exact⟨rfl,rfl⟩
 by_cases h10:n=10
 ·subst h10;have e:(kU 10).1=8:=by decide
  rw[e];go_enter Tryz.func146,Tryz.ntmps146;go_wp2;go_ret;exact⟨rfl,rfl⟩
 by_cases h11:n=11
 ·subst h11;have e:(kU 11).1=4:=by decide
  rw[e];go_enter Tryz.func146,Tryz.ntmps146;go_wp2;go_ret;exact⟨rfl,rfl⟩
 by_cases h12:n=12
 ·subst h12;have e:(kU 12).1=8:=by decide
  rw[e];go_enter Tryz.func146,Tryz.ntmps146;go_wp2;go_ret;exact⟨rfl,rfl⟩
 have e:(kU n).1=0:=by
  rcases Classical.em (n<0∨12<n)with h|h
  ·rw[OZ h]
  ·obtain rfl:n=0:=by omega
   decide
 rw[e];go_enter Tryz.func146,Tryz.ntmps146;go_wp2;go_ret;exact⟨rfl,rfl⟩
theorem aB7 {l:List Int} {i:Nat} (hi:i<l.length) (h:¬(l.getD i 0=0↔i+1=l.length)):GV l=false:=by
 cases hb:GV l
 ·rfl
 ·exact absurd ((X0 l).1 hb i hi) h
theorem JD (ty cnt:Int) (a:Option Addr) (n c:Nat) (d:List Int) (w:World) (hs:Sl w a n c 1 (ints .u8 d)):
  Calls Tryz.prog 183 #[.agg #[.int .i64 ty,.int .i64 cnt,.slice a n c]] w fun e w'=>e= .returned (.bool (vH ty cnt d))∧Below w.heap.size w w':=by
 have hl:=hs.nU;obtain⟨m,hm⟩:=aC (vH ty cnt d);rw[hm];obtain⟨Hm,Hl⟩:=aJ hm hl;have rX:=AY ty;have LX:=hs.max;have BX:=hs.le;obtain⟨w1,sS⟩:∃w1,w1=w.alloc (.cells #[.int .i64 ty,.int .i64 cnt,.slice a n c] 72):=⟨_,rfl⟩;have jY:Below w.heap.size w w1:=by rw[sS];exact(aY _ _).alloc (aZ _) _
 have Hs1:=aA (hs.mono jY);obtain⟨g,hg⟩:∃g,g=w.heap.size:=⟨_,rfl⟩;have yK:w1.heap[g]? =some (.cells #[.int .i64 ty,.int .i64 cnt,.slice a n c] 72):=by rw[hg,sS];exact mZ w _
 have kD:g<w1.heap.size:=(bW.1 yK).1;have c0:w1.cell? ⟨g,0,none⟩=some (.int .i64 ty):=by unfold World.cell?;rw[yK];rfl
 have c1:w1.cell? ⟨g,1,none⟩=some (.int .i64 cnt):=by unfold World.cell?;rw[yK];rfl
 have c2:w1.cell? ⟨g,2,none⟩=some (.slice a n c):=by unfold World.cell?;rw[yK];rfl
 have HB:=aA jY;clear hm hl hs jY yK;obtain⟨sz,pt,is,hk⟩:∃s p i,kU ty=(s,p,i):=⟨_,_,_,rfl⟩;rw[hk]at rX;simp only at rX;have Hk:=aA hk;clear hk;have hkc:=fun j=>(JC ty (w1.drewN j)).mono (fun e w' (h:_∧_)=>(⟨h.1,by rw[←h.2];exact Qt.refl _⟩:_∧Qt _ w'));rw[Hk.o]at hkc;simp only at hkc;have Hkc:=aA hkc;clear hkc;go_enter Tryz.func183,Tryz.ntmps183;go_wp2_with fail
 rw[←sS,←hg];have HG:=aA hg;clear sS hg;by_cases t1:sz=0
 ·subst t1;obtain rfl:m=false:=by rw[←Hm.o];exact N8 (.inl (by rw[Hk.o]))
  go_quiet ((go_at_call 146;exact Calls.quiet_of (Hkc.o _)))
  go_wp2;go_ret;exact⟨rfl,HB.o.trans (Qt.below ⟨_,rfl⟩ _)⟩
 have f1:(sz==0)=false:=by simp[t1]
 by_cases t2:cnt<1
 ·obtain rfl:m=false:=by rw[←Hm.o];exact N8 (.inr (.inl t2))
  go_quiet ((go_at_call 146;exact Calls.quiet_of (Hkc.o _)))
  go_wp2;go_ret;exact⟨rfl,HB.o.trans (Qt.below ⟨_,rfl⟩ _)⟩
 have f2:decide (cnt<1)=false:=by simp;omega
 by_cases t3:65536<cnt
 ·obtain rfl:m=false:=by rw[←Hm.o];exact N8 (.inr (.inr (.inl t3)))
  go_quiet ((go_at_call 146;exact Calls.quiet_of (Hkc.o _)))
  go_wp2;go_ret;exact⟨rfl,HB.o.trans (Qt.below ⟨_,rfl⟩ _)⟩
 have f3:decide (65536<cnt)=false:=by simp;omega
 have hw:IntKind.i64.wrap (cnt*sz)=cnt*sz:=by
  have:0≤cnt*sz:=iX aG aG;have:cnt*sz≤65536*8:=iO aG aG aG aG;rw[bF];omega
 by_cases t4:(n:Int)=cnt*sz
 ·have UA:=aB6 (ty:=ty) (cnt:=cnt) (d:=d) (by rw[Hk.o];exact t1) t2 t3 (by rw[Hl.o,Hk.o];exact t4);rw[Hm.o]at UA;have Hmm:=aA UA;have f4:((n:Int) != cnt*sz)=false:=by simp[t4]
  clear UA t4;go_quiet ((go_at_call 146;exact Calls.quiet_of (Hkc.o _)))
  go_wp2;go_loopw [3] (fun i wr=>∃k:Nat,k≤n∧i= .int .i64 k∧Hid (∀j,j<k→(d.getD j 0=0↔j+1=n))∧Qt w1 wr) (fun i _=>n - (intOf i).toNat)
  case atStart=>exact⟨0,by omega,rfl,aA (fun j hj=>by omega),⟨_,rfl⟩⟩
  case round=>
   obtain⟨k,hk,rfl,kS,hq⟩:=hrel;by_cases t5:ty=2
   ·subst t5;have hmt:m=GV d:=by rw[Hmm.o];rfl
    have Hmt:=aA hmt;clear hmt;by_cases kD:k<n
    ·obtain⟨b,off,rfl,xI,hc⟩:=Hs1.o.at kD;have e1:=hc k _ (oP (by rw[Hl.o];exact kD));clear hc;obtain⟨x,hx⟩:=aC (d.getD k 0);rw[hx]at e1;have Hx:=aA hx;clear hx;obtain⟨j,rfl⟩:=hq.ex;by_cases t6:x=0
     ·have g1:(x==0)=true:=by simp[t6]
      by_cases t7:k+1=n
      ·have g2:((k:Int)==(n:Int) - 1)=true:=by simp;omega
       have mQ:Hid (∀j,j<k+1→(d.getD j 0=0↔j+1=n)):=aA (fun j hj=>by
        rcases dM j k with h|h
        ·exact kS.o j h
        ·obtain rfl:j=k:=by omega
         rw[Hx.o];exact⟨fun _=>t7,fun _=>t6⟩)
       clear t6 t7 kS;go_wp2_with fail
       go_quiet (fail)
       go_wp2;go_roundw
       case rel=>exact⟨k+1,by omega,by go_num,mQ,⟨_,rfl⟩⟩
       case measure=>simp[intOf];omega
      ·have g2:((k:Int)==(n:Int) - 1)=false:=by simp;omega
       obtain rfl:m=false:=by rw[Hmt.o];exact aB7 (i:=k) (by rw[Hl.o];exact kD) (by rw[Hx.o,Hl.o];exact fun h=>t7 (h.1 t6))
       clear t6 t7 kS;go_wp2_with fail
       go_quiet (fail)
       go_wp2;go_ret;exact⟨rfl,HB.o.trans ((hq.step _).below _)⟩
     ·have g1:(x==0)=false:=by simp[t6]
      by_cases t7:k+1=n
      ·have g2:((k:Int)==(n:Int) - 1)=true:=by simp;omega
       obtain rfl:m=false:=by rw[Hmt.o];exact aB7 (i:=k) (by rw[Hl.o];exact kD) (by rw[Hx.o,Hl.o];exact fun h=>t6 (h.2 t7))
       clear t6 t7 kS;go_wp2_with fail
       go_quiet (fail)
       go_wp2;go_ret;exact⟨rfl,HB.o.trans ((hq.step _).below _)⟩
      ·have g2:((k:Int)==(n:Int) - 1)=false:=by simp;omega
       have mQ:Hid (∀j,j<k+1→(d.getD j 0=0↔j+1=n)):=aA (fun j hj=>by
        rcases dM j k with h|h
        ·exact kS.o j h
        ·obtain rfl:j=k:=by omega
         rw[Hx.o];exact⟨fun h=>absurd h t6,fun h=>absurd h t7⟩)
       clear t6 t7 kS;go_wp2_with fail
       go_quiet (fail)
       go_wp2;go_roundw
       case rel=>exact⟨k+1,by omega,by go_num,mQ,⟨_,rfl⟩⟩
       case measure=>simp[intOf];omega
    ·obtain rfl:m=true:=by
      rw[Hmt.o];refine(X0 d).2 fun i hi=>?_;rw[Hl.o]at hi ⊢;exact kS.o i aG
     obtain⟨j,rfl⟩:=hq.ex;go_wp2;go_ret;exact⟨rfl,HB.o.trans (hq.below _)⟩
   ·have g1:(ty==2)=false:=by simp[t5]
    have g2:(ty != 2)=true:=by simp[t5]
    obtain rfl:m=true:=by rw[Hmm.o,g2];rfl
    obtain⟨j,rfl⟩:=hq.ex;by_cases kD:k<n
    ·go_wp2;go_ret;exact⟨rfl,HB.o.trans (hq.below _)⟩
    ·go_wp2;go_ret;exact⟨rfl,HB.o.trans (hq.below _)⟩
 ·obtain rfl:m=false:=by rw[←Hm.o];exact N8 (.inr (.inr (.inr (by rw[Hl.o,Hk.o];exact t4))))
  have f4:((n:Int) != cnt*sz)=true:=by simp[t4]
  go_quiet ((go_at_call 146;exact Calls.quiet_of (Hkc.o _)))
  go_wp2;go_ret;exact⟨rfl,HB.o.trans (Qt.below ⟨_,rfl⟩ _)⟩
theorem aPN (a:Option Addr) (n c:Nat) (l:List Int) (x:Int) (w:World) (hs:Sl w a n c 1 (ints .i64 l)):
  Calls Tryz.prog 246 #[.slice a n c,.int .i64 x] w fun e w'=>∃k:Int,e= .returned (.int .i64 k)∧(0≤k↔x∈l)∧w=w':=by
 have hl:=hs.nU;have hm:=hs.max;have BX:=hs.le;have Hl:=aA hl;clear hl;go_enter Tryz.func246,Tryz.ntmps246;go_wp2;go_loopw [8] (fun i wr=>∃k:Nat,k≤n∧i= .int .i64 k∧Hid (∀j,j<k→l.getD j 0≠x)∧Hid (wr=w)) (fun i _=>n - (intOf i).toNat)
 case atStart=>exact⟨0,by omega,rfl,aA (fun j hj=>by omega),aA rfl⟩
 case round=>
  obtain⟨k,hk,rfl,qW,hw⟩:=hrel;obtain rfl:=hw.o.symm;clear hw;by_cases kD:k<n
  ·obtain⟨b,off,rfl,xI,hc⟩:=hs.at kD;have f1:=hc k _ (oP (by rw[Hl.o];exact kD));clear hc;obtain⟨y,hy⟩:=aC (l.getD k 0);rw[hy]at f1;have Hy:=aA hy;clear hy;cases a6X:(x==y)
   ·go_wp2;go_roundw
    case rel=>
     refine⟨k+1,by omega,by go_num,aA (fun j hj=>?_),aA trivial⟩;rcases dM j k with h|h
     ·exact qW.o j h
     ·obtain rfl:j=k:=by omega
      rw[Hy.o];intro he;rw[he]at a6X;simp at a6X
    case measure=>simp[intOf];omega
   ·go_wp2;go_ret;refine⟨k,rfl,⟨fun _=>?_,fun _=>by omega⟩,rfl⟩;simp at a6X;have:l.getD k 0∈l:=by
     rw[bH,bI (by rw[Hl.o];exact kD)];exact bJ _
    rw[Hy.o,←a6X]at this;exact this
  ·go_wp2;go_ret;refine⟨-1,rfl,⟨fun h=>by omega,fun h=>?_⟩,rfl⟩;exfalso
   obtain⟨i,hi,he⟩:=fM.1 h;refine qW.o i (by rw[Hl.o]at hi;omega) ?_;rw[bH,bI hi];exact he
theorem aPO (a:Option Addr) (n c:Nat) (l:List Int) (x:Int) (w:World) (hs:Sl w a n c 1 (ints .i64 l)):
  Calls Tryz.prog 198 #[.slice a n c,.int .i64 x] w fun e w'=>e= .returned (.bool (l.contains x))∧w=w':=by
 have hi:=aPN a n c l x w hs;obtain⟨r,hr⟩:=aC (l.contains x);rw[hr];have Hr:=aA hr;clear hr;go_enter Tryz.func198,Tryz.ntmps198;go_wp2_with fail
 refine hi.mono ?_;rintro e w2 ⟨k,rfl,hk,rfl⟩;have hkr:decide (0≤k)=r:=by
  rw[←Hr.o,eD,decide_eq_true_iff,gJ];exact hk
 clear hk hi;go_wp2;go_ret;exact⟨zO rfl,rfl⟩
def DJ (dir tag ty cnt:Int) (d:List Int):Bool:=
 decide (0≤dir)&&decide (dir≤5)&&decide (0≤tag)&&decide (tag≤65535)&& !MF dir tag&&vH ty cnt d&&
  (decide ((qG dir tag).2<0)||((qG dir tag).1.contains ty&&((qG dir tag).2==0||(qG dir tag).2==cnt)))
theorem yX {dir tag ty cnt:Int} {d:List Int} (h:dir<0∨5<dir∨tag<0∨65535<tag∨MF dir tag=true∨vH ty cnt d=false):DJ dir tag ty cnt d=false:=by
 unfold DJ;rcases h with h|h|h|h|h|h
 ·rw[decide_eq_false (show ¬0≤dir by omega)];simp
 ·rw[decide_eq_false (show ¬dir≤5 by omega)];simp
 ·rw[decide_eq_false (show ¬0≤tag by omega)];simp
 ·rw[decide_eq_false (show ¬tag≤65535 by omega)];simp
 ·rw[h];simp
 ·rw[h];simp
theorem a7F {dir tag ty cnt:Int} {d:List Int} (h1:¬dir<0) (h2:¬5<dir) (h3:¬tag<0) (h4:¬65535<tag) (h5:MF dir tag=false) (h6:vH ty cnt d=true):
  DJ dir tag ty cnt d=(decide ((qG dir tag).2<0)||((qG dir tag).1.contains ty&&((qG dir tag).2==0||(qG dir tag).2==cnt))):=by
 unfold DJ;rw[decide_eq_true (show 0≤dir by omega),decide_eq_true (show dir≤5 by omega),decide_eq_true (show 0≤tag by omega),decide_eq_true (show tag≤65535 by omega),h5,h6];simp
structure GX (w:World) (g:Nat) (tag ty cnt:Int) (a:Option Addr) (n c:Nat):Prop where
 c0:w.cell? ⟨g,0,none⟩=some (.int .i64 tag)
 c1:w.cell? ⟨g,1,none⟩=some (.int .i64 ty)
 c2:w.cell? ⟨g,2,none⟩=some (.int .i64 cnt)
 c3:w.cell? ⟨g,3,none⟩=some (.slice a n c)
 lt:g<w.heap.size
theorem GX.new (w:World) (tag ty cnt:Int) (a:Option Addr) (n c:Nat) (E:TypeId):GX (w.alloc (.cells #[.int .i64 tag,.int .i64 ty,.int .i64 cnt,.slice a n c] E)) w.heap.size tag ty cnt a n c:=by
 have h:=mZ w (.cells #[.int .i64 tag,.int .i64 ty,.int .i64 cnt,.slice a n c] E);refine⟨?_,?_,?_,?_,by simp⟩ <;> (unfold World.cell?;rw[h];rfl)
theorem GX.mono {w w':World} {g:Nat} {tag ty cnt:Int} {a:Option Addr} {n c:Nat} (h:GX w g tag ty cnt a n c) (hb:Below w.heap.size w w'):GX w' g tag ty cnt a n c:=
 ⟨(hb.cell (p:=⟨g,0,none⟩) h.lt).trans h.c0,(hb.cell (p:=⟨g,1,none⟩) h.lt).trans h.c1,(hb.cell (p:=⟨g,2,none⟩) h.lt).trans h.c2,(hb.cell (p:=⟨g,3,none⟩) h.lt).trans h.c3,cK h.lt hb.size⟩
theorem aPP (b:Nat) (dir tag ty cnt:Int) (a:Option Addr) (n c:Nat) (d:List Int) (w:World) (hr:Rules w b Q5) (hs:Sl w a n c 1 (ints .u8 d)) (bd:tV d)
  (hd:(Lit.int .i64 dir).wf=true) (ht:(Lit.int .i64 tag).wf=true):
  Calls Tryz.prog 133 #[.map (some b),.int .i64 dir,.agg #[.int .i64 tag,.int .i64 ty,.int .i64 cnt,.slice a n c]] w fun e w'=>e= .returned (.bool (DJ dir tag ty cnt d))∧Below w.heap.size w w':=by
 obtain⟨m,hm⟩:=aC (DJ dir tag ty cnt d);rw[hm];obtain⟨Hm,Hd,Ht,Bd⟩:=aL hm hd ht bd;obtain⟨w1,sS⟩:∃w1,w1=w.alloc (.cells #[.int .i64 tag,.int .i64 ty,.int .i64 cnt,.slice a n c] 74):=⟨_,rfl⟩;have jY:Below w.heap.size w w1:=by rw[sS];exact(aY _ _).alloc (aZ _) _
 obtain⟨Hs1,Hr1⟩:=aJ (hs.mono jY) (hr.mono jY);obtain⟨g,hg⟩:∃g,g=w.heap.size:=⟨_,rfl⟩;have ht1:GX w1 g tag ty cnt a n c:=by rw[hg,sS];exact GX.new ..
 obtain⟨c0,c1,c2,c3,kD⟩:=ht1;have HT1:Hid (GX w1 g tag ty cnt a n c):=aA ⟨c0,c1,c2,c3,kD⟩;have HB:=aA jY;clear hm hd ht bd hr hs jY;go_enter Tryz.func133,Tryz.ntmps133;by_cases t1:dir<0
 ·obtain rfl:m=false:=by rw[←Hm.o];exact yX (.inl t1)
  go_wp2;go_ret;exact⟨rfl,(aY _ _).alloc (aZ _) _⟩
 have f1:decide (dir<0)=false:=by simp;omega
 by_cases t2:5<dir
 ·obtain rfl:m=false:=by rw[←Hm.o];exact yX (.inr (.inl t2))
  go_wp2;go_ret;exact⟨rfl,(aY _ _).alloc (aZ _) _⟩
 have f2:decide (6≤dir)=false:=by simp;omega
 by_cases t3:tag<0
 ·obtain rfl:m=false:=by rw[←Hm.o];exact yX (.inr (.inr (.inl t3)))
  go_wp2;go_ret;exact⟨rfl,(aY _ _).alloc (aZ _) _⟩
 have f3:decide (tag<0)=false:=by simp;omega
 by_cases t4:65535<tag
 ·obtain rfl:m=false:=by rw[←Hm.o];exact yX (.inr (.inr (.inr (.inl t4))))
  go_wp2;go_ret;exact⟨rfl,(aY _ _).alloc (aZ _) _⟩
 have f4:decide (65535<tag)=false:=by simp;omega
 go_wp2_with fail
 rw[←sS,←hg];have HG:=aA hg;clear sS hg;refine(a8S dir tag w1).mono ?_;rintro e w2 ⟨rfl,jT⟩;have HB2:=aA (HB.o.tm jT);obtain⟨c0,c1,c2,c3,kD⟩:=HT1.o.mono jT;have HT2:Hid (GX w2 g tag ty cnt a n c):=aA ⟨c0,c1,c2,c3,kD⟩;obtain⟨Hs2,Hr2⟩:=aJ (Hs1.o.mono jT) (Hr1.o.mono jT);clear jT HT1 Hs1 Hr1;cases OQ:MF dir tag
 case true=>
  obtain rfl:m=false:=by rw[←Hm.o];exact yX (.inr (.inr (.inr (.inr (.inl OQ)))))
  clear OQ;go_wp2;go_ret;exact⟨rfl,HB2.o⟩
 have b5H:=aA OQ;clear OQ;go_wp2_with fail
 refine(a0L ty cnt a n c d w2 Hs2.o Bd.o).mono ?_;rintro e w3 ⟨rfl,jQ⟩;have HB3:=aA (HB2.o.tm jQ);obtain⟨c0,c1,c2,c3,kD⟩:=HT2.o.mono jQ;have Hr3:=aA (Hr2.o.mono jQ);clear jQ HT2 Hs2 Hr2 HB2 HB;cases KH:vH ty cnt d
 case false=>
  obtain rfl:m=false:=by rw[←Hm.o];exact yX (.inr (.inr (.inr (.inr (.inr KH)))))
  clear KH;go_wp2;go_ret;exact⟨rfl,HB3.o⟩
 have hme:=a7F (d:=d) aG aG aG aG b5H.o KH;rw[Hm.o]at hme;clear KH t1 t2 t3 t4;by_cases hex:∃x∈Q5,x.1=(dir,tag)
 ·have Hex:=aA hex;clear hex;have Hme:=aA hme;clear hme;go_wp2_with (at_lookup;refine ZP rfl (.tmp 38) (.tmp 42) rfl b Q5 dir tag rfl rfl Hr3.o Hd.o Ht.o Hex.o ?_;intro x hx he a1 n1 c1' IY)
  have hk:=aFU x hx;have hnn:=(a8Q x hx).1;rw[he]at hk;simp only at hk;clear hx he Hex;obtain⟨⟨xd,xt⟩,xl,xc⟩:=x;simp only at IY hnn hk;have aXV:=Hme.o;rw[hk,decide_eq_false (show ¬xc<0 by omega),jA]at aXV;have aPQ:=vU IY (.cells #[.slice a1 n1 c1',.int .i64 xc] 258);clear IY hk Hme;have hcc:=aPO a1 n1 c1' xl ty _ aPQ;obtain⟨r,hrr⟩:=aC (xl.contains ty);rw[hrr]at aXV hcc;have aMD:=aA aXV;clear aXV hrr aPQ;go_wp2_with fail
  refine hcc.mono ?_;rintro e w4 ⟨rfl,rfl⟩;have hE:=HB3.o.alloc HB3.o.size (.cells #[.slice a1 n1 c1',.int .i64 xc] 258);cases r
  ·obtain rfl:m=false:=by rw[aMD.o];rfl
   go_wp2;go_ret;exact⟨rfl,hE⟩
  ·by_cases t5:xc=0
   ·have g1:(xc==0)=true:=by simp[t5]
    obtain rfl:m=true:=by rw[aMD.o,g1];rfl
    go_wp2;go_ret;exact⟨rfl,HB3.o.alloc HB3.o.size _⟩
   ·have g1:(xc==0)=false:=by simp[t5]
    obtain rfl:m=(xc==cnt):=by rw[aMD.o,g1];simp
    go_wp2;go_ret;exact⟨rfl,hE⟩
 ·have qW:∀x∈Q5,x.1≠(dir,tag):=fun x hx he=>hex ⟨x,hx,he⟩;have hkn:=aM8 qW;rw[hkn]at hme;obtain rfl:m=true:=by rw[hme];rfl
  have Hno:=aA qW;clear qW hex hkn hme;go_wp2_with (at_lookup;refine a0V rfl (.tmp 38) (.tmp 42) rfl b Q5 dir tag rfl rfl Hr3.o Hd.o Ht.o Hno.o ?_)
  go_ret;exact⟨rfl,HB3.o.alloc HB3.o.size _⟩
theorem aME (dir tag ty cnt:Int) (a:Option Addr) (n c:Nat) (d:List Int) (w:World) (hs:Sl w a n c 1 (ints .u8 d)):
  Calls Tryz.prog 134 #[.int .i64 dir,.agg #[.int .i64 tag,.int .i64 ty,.int .i64 cnt,.slice a n c]] w fun e w'=>e= .returned (.bool (DJ dir tag ty cnt d))∧Below w.heap.size w w':=by
 obtain⟨m,hm⟩:=aC (DJ dir tag ty cnt d);rw[hm];have Hm:=aA hm;obtain⟨w1,sS⟩:∃w1,w1=w.alloc (.cells #[.int .i64 tag,.int .i64 ty,.int .i64 cnt,.slice a n c] 74):=⟨_,rfl⟩;have jY:Below w.heap.size w w1:=by rw[sS];exact(aY _ _).alloc (aZ _) _
 have Hs1:=aA (hs.mono jY);obtain⟨g,hg⟩:∃g,g=w.heap.size:=⟨_,rfl⟩;have ht1:GX w1 g tag ty cnt a n c:=by rw[hg,sS];exact GX.new ..
 obtain⟨c0,c1,c2,c3,kD⟩:=ht1;have HT1:Hid (GX w1 g tag ty cnt a n c):=aA ⟨c0,c1,c2,c3,kD⟩;have HB:=aA jY;clear hm hs jY;go_enter Tryz.func134,Tryz.ntmps134;by_cases t1:dir<0
 ·obtain rfl:m=false:=by rw[←Hm.o];exact yX (.inl t1)
  go_wp2;go_ret;exact⟨rfl,(aY _ _).alloc (aZ _) _⟩
 have f1:decide (dir<0)=false:=by simp;omega
 by_cases t2:5<dir
 ·obtain rfl:m=false:=by rw[←Hm.o];exact yX (.inr (.inl t2))
  go_wp2;go_ret;exact⟨rfl,(aY _ _).alloc (aZ _) _⟩
 have f2:decide (5<dir)=false:=by simp;omega
 by_cases t3:tag<0
 ·obtain rfl:m=false:=by rw[←Hm.o];exact yX (.inr (.inr (.inl t3)))
  go_wp2;go_ret;exact⟨rfl,(aY _ _).alloc (aZ _) _⟩
 have f3:decide (tag<0)=false:=by simp;omega
 by_cases t4:65535<tag
 ·obtain rfl:m=false:=by rw[←Hm.o];exact yX (.inr (.inr (.inr (.inl t4))))
  go_wp2;go_ret;exact⟨rfl,(aY _ _).alloc (aZ _) _⟩
 have f4:decide (65535<tag)=false:=by simp;omega
 go_wp2_with fail
 rw[←sS,←hg];have HG:=aA hg;clear sS hg;refine(a5Y dir tag w1).mono ?_;rintro e w2 ⟨rfl,rfl⟩;cases OQ:MF dir tag
 case true=>
  obtain rfl:m=false:=by rw[←Hm.o];exact yX (.inr (.inr (.inr (.inr (.inl OQ)))))
  clear OQ;go_wp2;go_ret;exact⟨rfl,HB.o⟩
 have b5H:=aA OQ;clear OQ;go_wp2_with fail
 refine(JD ty cnt a n c d w1 Hs1.o).mono ?_;rintro e w3 ⟨rfl,jQ⟩;obtain⟨HB3,HT3⟩:=aJ (HB.o.tm jQ) (HT1.o.mono jQ);clear jQ HT1 HB c0 c1 c2 c3 kD;obtain⟨c0,c1,c2,c3,kD⟩:=HT3.o;cases KH:vH ty cnt d
 case false=>
  obtain rfl:m=false:=by rw[←Hm.o];exact yX (.inr (.inr (.inr (.inr (.inr KH)))))
  clear KH;go_wp2;go_ret;exact⟨rfl,HB3.o⟩
 have hme:=a7F (d:=d) aG aG aG aG b5H.o KH;rw[Hm.o]at hme;have Hme:=aA hme;clear KH t1 t2 t3 t4 hme;go_wp2_with fail
 refine(aFW dir tag w3).mono ?_;rintro e w4 ⟨a4,n4,c4,rfl,hs4,mF⟩;obtain⟨HB4,HT4⟩:=aJ (HB3.o.tm mF) (HT3.o.mono mF);clear mF HT3 HB3 c0 c1 c2 c3 kD;obtain⟨c0,c1,c2,c3,kD⟩:=HT4.o;obtain⟨⟨xl,xc⟩,hk⟩:∃k,qG dir tag=k:=⟨_,rfl⟩;have hme:=Hme.o;rw[hk]at hme hs4;rw[hk];simp only at hme hs4;have hl4:=hs4.nU;have J3:=hs4.max;have bUW:=hs4.le;obtain⟨Hs4,Hl4⟩:=aJ hs4 hl4;clear hk hs4 hl4 Hme;by_cases t5:xc<0
 ·obtain rfl:m=true:=by rw[hme,decide_eq_true t5];rfl
  clear hme;go_wp2;go_ret;exact⟨rfl,HB4.o⟩
 ·rw[decide_eq_false t5,jA]at hme;have f5:decide (xc<0)=false:=by simp;omega
  have Hme:=aA hme;clear hme;go_wp2;go_loopw [7] (fun i wr=>∃k:Nat,k≤n4∧i= .int .i64 k∧Hid (∀j,j<k→xl.getD j 0≠ty)∧Qt w4 wr) (fun i _=>n4 - (intOf i).toNat)
  case atStart=>exact⟨0,by omega,rfl,aA (fun j hj=>by omega),Qt.refl _⟩
  case round=>
   obtain⟨k,hk,rfl,qW,hq⟩:=hrel;obtain⟨j,rfl⟩:=hq.ex;by_cases QH:k<n4
   ·obtain⟨b,off,rfl,xI,hc⟩:=Hs4.o.at QH;have e1:=hc k _ (oP (by rw[Hl4.o];exact QH));clear hc;obtain⟨y,hy⟩:=aC (xl.getD k 0);rw[hy]at e1;have Hy:=aA hy;clear hy;by_cases t6:y=ty
    ·subst t6;have WL:xl.contains y=true:=by
      have:xl.getD k 0∈xl:=by
       rw[bH,bI (by rw[Hl4.o];exact QH)];exact bJ _
      rw[Hy.o]at this;exact gJ.2 this
     have hme:=Hme.o;rw[WL,dD]at hme;have aMD:=aA hme;clear hme WL qW;by_cases t7:xc=0
     ·have g1:(xc==0)=true:=by simp[t7]
      obtain rfl:m=true:=by rw[aMD.o,g1];rfl
      go_wp2_with fail
      go_quiet (fail)
      go_wp2;go_ret;exact⟨rfl,HB4.o.trans (Qt.below ⟨_,rfl⟩ _)⟩
     ·have g1:(xc==0)=false:=by simp[t7]
      obtain rfl:m=(xc==cnt):=by rw[aMD.o,g1];simp
      go_wp2_with fail
      go_quiet (fail)
      go_wp2;go_ret;exact⟨rfl,HB4.o.trans (Qt.below ⟨_,rfl⟩ _)⟩
    ·have g1:(y==ty)=false:=by simp[t6]
     have mQ:Hid (∀j,j<k+1→xl.getD j 0≠ty):=aA (fun j hj=>by
      rcases dM j k with h|h
      ·exact qW.o j h
      ·obtain rfl:j=k:=by omega
       rw[Hy.o];exact t6)
     clear t6 qW;go_wp2_with fail
     go_quiet (fail)
     go_wp2;go_roundw
     case rel=>exact⟨k+1,by omega,by go_num,mQ,⟨_,rfl⟩⟩
     case measure=>simp[intOf];omega
   ·have hnm:xl.contains ty=false:=by
     rw[Bool.eq_false_iff];intro h;obtain⟨i,hi,he⟩:=fM.1 (gJ.1 h);refine qW.o i (by rw[Hl4.o]at hi;omega) ?_;rw[bH,bI hi];exact he
    obtain rfl:m=false:=by rw[Hme.o,hnm];rfl
    clear qW hnm;go_wp2;go_ret;exact⟨rfl,HB4.o.trans (hq.below _)⟩
