import Derived.Laws.Tables
import Derived.Test.YtceclmpmpldmlaaGreatCz02
set_option linter.unusedSimpArgs false
set_option linter.unusedVariables false
set_option maxRecDepth 100000
set_option maxHeartbeats 8000000
namespace Go.Proofs.YtceclmpmpldmlaaGreat
open Go.RowKit Tt
def vW:Array Value:=#[.int .i64 0,.int .i64 0,.int .i64 0,.int .i64 1,.int .i64 1,.int .i64 1,.int .i64 1,.int .i64 1,.int .i64 1,.int .i64 2,.int .i64 2,.int .i64 1,.int .i64 4,.int .i64 4,.int .i64 1,.int .i64 8,.int .i64 4,.int .i64 3,.int .i64 1,.int .i64 1,.int .i64 2,.int .i64 1,.int .i64 1,.int .i64 1,.int .i64 2,.int .i64 2,.int .i64 2,.int .i64 4,.int .i64 4,.int .i64 2,.int .i64 8,.int .i64 4,.int .i64 4,.int .i64 4,.int .i64 4,.int .i64 5,.int .i64 8,.int .i64 8,.int .i64 5]
theorem a4F {P:Program} {ops:Array Oper} {rest:List Oper} {o:Oper} {a:Act} {w:World} {Q:Exit→Act→World→Prop} (hg:o.guard=none) (t:TypeId) (parts:Array (Nat×Operand)) (ho:o.op= .build t parts) (cells:Array Value)
  (hf:P.built t (parts.map fun(i,x)=>(i,a.eval x)).toList=some cells)
  (h:wpList P ops Q rest (a.put o.dst (.agg cells)) w):wpList P ops Q (o::rest) a w:=
 wpList_build hg t parts ho (by rw[hf];rfl) (by rw[hf];exact h)
theorem jP {B:Nat} {w w':World} (h:Below B w w') {g:Nat} (hg:B≤g) (cs:Array Value):Below B w (w'.setRow g cs):=
 ⟨h.os,h.tape,h.output,by rw[setRow_size];exact h.size,fun k hk=>by rw[setRow_other _ _ _ _ (by omega)];exact h.block k hk⟩
theorem aJC (w:World):Calls Tryz.prog 167 #[] w fun e w'=>e= .returned (.agg vW)∧Below w.heap.size w w':=by
 have ki:(Tryz.prog.info? 231).map (·.size)=some vW.size:=by kernel_rfl
 have ka:vW.all (·.oneCell')=true:=by kernel_rfl
 go_enter Tryz.func167,Tryz.ntmps167;go_wp2_with (first
  |(refine a4F rfl 231 _ rfl vW (by kernel_rfl) ?_)
  |(refine wpList_store_row rfl 231 (.tmp 0) (.tmp 13) rfl w.heap.size vW rfl rfl 231 _ (mF w _) ki rfl ka ?_))
 refine bodyPost_ret (results_cell_row rfl _ _ w.heap.size 231 vW (0,0) _ rfl (setRow_heap _ _ _ _ _ _ (mF w _)) Tryz.underlying231 rfl ki) rfl ?_;exact⟨rfl,jP ((aW _ _).alloc (aU _) _) (aU _) _⟩
theorem aW4 {n:Int} (h0:0≤n) (h1:n≤12) (W:World):(Instr.index 231 (.agg vW) (.int .i64 n)).run Tryz.prog W= .ok (.agg #[.int .i64 (kH n).1,.int .i64 (kH n).2.1,.int .i64 (kH n).2.2]) W:=by
 rcases(by omega:n=0∨n=1∨n=2∨n=3∨n=4∨n=5∨n=6∨n=7∨n=8∨n=9∨n=10∨n=11∨n=12)with rfl|rfl|rfl|rfl|rfl|rfl|rfl|rfl|rfl|rfl|rfl|rfl|rfl
 all_goals kernel_rfl
theorem P6 (n:Int) (w:World):Calls Tryz.prog 116 #[.int .i64 n] w fun e w'=>e= .returned (.agg #[.int .i64 (kH n).1,.int .i64 (kH n).2.1,.int .i64 (kH n).2.2])∧Below w.heap.size w w':=by
 by_cases h:n<0∨12<n
 ·rw[SN h];by_cases h0:n<0
  ·go_enter Tryz.func116,Tryz.ntmps116;go_wp2;refine bodyPost_ret (results_cell_row rfl _ _ w.heap.size 185 #[.int .i64 0,.int .i64 0,.int .i64 0] (0,0) _ rfl (mF w _) Tryz.underlying185 rfl (by kernel_rfl)) rfl ?_;exact⟨rfl,(aW _ _).alloc (aU _) _⟩
  ·have h1:12<n:=by omega
   go_enter Tryz.func116,Tryz.ntmps116;go_wp2;refine bodyPost_ret (results_cell_row rfl _ _ w.heap.size 185 #[.int .i64 0,.int .i64 0,.int .i64 0] (0,0) _ rfl (mF w _) Tryz.underlying185 rfl (by kernel_rfl)) rfl ?_;exact⟨rfl,(aW _ _).alloc (aU _) _⟩
 ·have hidx:=fun W=>aW4 (n:=n) (by omega) (by omega) W;have h0:¬n<0:=by omega
  have h1:¬12<n:=by omega
  obtain⟨s,p,i,hk⟩:∃s p i,kH n=(s,p,i):=⟨_,_,_,rfl⟩;rw[hk]at hidx ⊢;simp only at hidx ⊢;clear h hk;go_enter Tryz.func116,Tryz.ntmps116;go_wp2_with fail
  refine(aJC _).mono ?_;rintro e w1 ⟨rfl,hb⟩;have hg:w1.heap[w.heap.size]? =_:=(hb.block w.heap.size (by simp)).trans (mF w _);generalize vW=kc at*;have bB1:(#[.int .i64 s,.int .i64 p,.int .i64 i]:Array Value).all (·.oneCell')=true:=by simp[Value.oneCell']
  have bB6:(Tryz.prog.info? 185).map (·.size)=some (#[.int .i64 s,.int .i64 p,.int .i64 i]:Array Value).size:=by kernel_rfl
  obtain⟨bKI,bKJ,Hg⟩:=aG bB1 bB6 hg;clear bB1 bB6 hg;go_wp2_with (refine wpList_store_row rfl 185 (.tmp 2) (.tmp 12) rfl w.heap.size #[.int .i64 s,.int .i64 p,.int .i64 i] rfl rfl 185 _ Hg.o bKJ.o rfl bKI.o ?_)
  refine bodyPost_ret (results_cell_row rfl _ _ w.heap.size 185 #[.int .i64 s,.int .i64 p,.int .i64 i] (0,0) _ rfl (setRow_heap _ _ _ _ _ _ Hg.o) Tryz.underlying185 rfl (by kernel_rfl)) rfl ?_;exact⟨rfl,jP ((aD w _).trans (hb.mono (by simp))) (aU _) _⟩
def DI:List Int→Bool
 | []=>true
 | [x]=>x==0
 |x::y::r=>(x != 0)&&DI (y::r)
theorem SQ:∀l:List Int,DI l=true↔∀i,i<l.length→(l.getD i 0=0↔i+1=l.length)
 | []=>by simp[DI]
 | [x]=>by
  simp only[DI,beq_iff_eq,dF,gN];refine⟨fun h i hi=>?_,fun h=>?_⟩
  ·obtain rfl:i=0:=by omega
   simp[h]
  ·have:=h 0 (by omega);simpa using this
 |x::y::r=>by
  have ih:=SQ (y::r);simp only[DI,bF,bne_iff_ne,ne_eq];rw[ih];refine⟨fun⟨h0,h⟩ i hi=>?_,fun h=>⟨?_,fun i hi=>?_⟩⟩
  ·cases i with
   |zero=>simp[h0]
   |succ i=>
    rw[aQ,h i (by simpa using hi)];simp
  ·have:=h 0 (by simp);simpa using this
  ·have:=h (i+1) (by simpa using hi);rw[aQ]at this;rw[this];simp
theorem byte_zero {x:Int} (h:0≤x∧x<256):(UInt8.ofNat x.toNat==(0:Int).toNat.toUInt8)=(x==0):=by
 rw[eP,beq_iff_eq,beq_iff_eq];constructor
 ·intro h2;have h3:=congrArg UInt8.toNat h2;simp[fC (show x.toNat<256 by omega)]at h3;omega
 ·rintro rfl;rfl
theorem a2E:∀l:List Int,mW l→(Lib.indexByte (Lib.bytesOf l) (0:Int).toNat.toUInt8=(l.length:Int) - 1↔DI l=true)
 | [],_=>by simp[Lib.bytesOf,Lib.indexByte,DI]
 | [x],h=>by
  have hx:=byte_zero (h x (by simp));simp only[Lib.bytesOf,aS,aT,Lib.indexByte,DI,hx];cases hc:x==0 <;> simp
 |x::y::r,h=>by
  have hx:=byte_zero (h x (by simp));have ih:=a2E (y::r) (fun z hz=>h z (aZ _ hz));have hg:=Lib.indexByte_ge (Lib.bytesOf (y::r)) (0:Int).toNat.toUInt8;have e:Lib.indexByte (Lib.bytesOf (x::y::r)) (0:Int).toNat.toUInt8=if(x==0)=true then 0 else if Lib.indexByte (Lib.bytesOf (y::r)) (0:Int).toNat.toUInt8== -1 then -1 else Lib.indexByte (Lib.bytesOf (y::r)) (0:Int).toNat.toUInt8+1:=by
   rw[←hx];rfl
  rw[e];simp only[DI,bF,bne_iff_ne,ne_eq,←ih];generalize Lib.indexByte (Lib.bytesOf (y::r)) (0:Int).toNat.toUInt8=k at*;have hl:((x::y::r).length:Int)=((y::r).length:Int)+1:=by simp
  have hl2:(1:Int)≤((y::r).length:Int):=by simp;omega
  rw[hl];generalize ((y::r).length:Int)=n at*;by_cases h0:x=0
  ·simp[h0];omega
  ·by_cases h1:k= -1
   ·simp[h0,h1];omega
   ·simp[h0,h1];omega
def rM (ty cnt:Int) (d:List Int):Bool:=
 decide ((kH ty).1≠0)&&decide (1≤cnt)&&decide (cnt≤65536)&&decide ((d.length:Int)=cnt*(kH ty).1)&&(ty != 2||DI d)
theorem J8 {ty cnt:Int} {d:List Int} (h:(kH ty).1=0∨cnt<1∨65536<cnt∨(d.length:Int)≠cnt*(kH ty).1):rM ty cnt d=false:=by
 unfold rM;rcases h with h|h|h|h
 ·simp[h]
 ·rw[decide_eq_false (show ¬1≤cnt by omega)];simp
 ·rw[decide_eq_false (show ¬cnt≤65536 by omega)];simp
 ·rw[decide_eq_false h];simp
theorem a8D {ty cnt:Int} {d:List Int} (h1:(kH ty).1≠0) (h2:¬cnt<1) (h3:¬65536<cnt) (h4:(d.length:Int)=cnt*(kH ty).1):rM ty cnt d=(ty != 2||DI d):=by
 unfold rM;rw[decide_eq_true h1,decide_eq_true (show 1≤cnt by omega),decide_eq_true (show cnt≤65536 by omega),decide_eq_true h4];simp
theorem LM (ty cnt:Int) (a:Option Addr) (n c:Nat) (d:List Int) (w:World) (hs:Sl w a n c 1 (ints .u8 d)) (bd:mW d):
  Calls Tryz.prog 102 #[.agg #[.int .i64 ty,.int .i64 cnt,.slice a n c]] w fun e w'=>e= .returned (.bool (rM ty cnt d))∧Below w.heap.size w w':=by
 have hl:=hs.nV;obtain⟨m,hm⟩:=aC (rM ty cnt d);rw[hm];obtain⟨Hm,Hs,Hl,Bd⟩:=aH hm hs hl bd;have hsz:=y9 ty;have hmx:=hs.max;have hle:=hs.le;clear hm hs hl bd;obtain⟨sz,pt,is,hk⟩:∃s p i,kH ty=(s,p,i):=⟨_,_,_,rfl⟩;rw[hk]at hsz;simp only at hsz;have Hk:=aA hk;clear hk;have hkc:=fun W=>P6 ty W;rw[Hk.o]at hkc;simp only at hkc;go_enter Tryz.func102,Tryz.ntmps102;go_wp2_with fail
 refine(hkc _).mono ?_;rintro e w1 ⟨rfl,hb⟩;have hb1:Below w.heap.size w w1:=(aD w _).trans (hb.mono (by simp));obtain⟨g,hg⟩:∃g,g=w.heap.size:=⟨_,rfl⟩;have hblk:w1.heap[g]? =some (.cells #[.int .i64 ty,.int .i64 cnt,.slice a n c] 72):=by rw[hg];exact(hb.block w.heap.size (by simp)).trans (mF w _)
 have hlt:g<w1.heap.size:=(bY.1 hblk).1;have c0:w1.cell? ⟨g,0,none⟩=some (.int .i64 ty):=by unfold World.cell?;rw[hblk];rfl
 have c1:w1.cell? ⟨g,1,none⟩=some (.int .i64 cnt):=by unfold World.cell?;rw[hblk];rfl
 have c2:w1.cell? ⟨g,2,none⟩=some (.slice a n c):=by unfold World.cell?;rw[hblk];rfl
 have Hs1:=aA (Hs.o.mono hb1);rw[←hg];obtain⟨HG,HB⟩:=aF hg hb1;clear hb hb1 hg hblk hkc;by_cases t1:sz=0
 ·subst t1;obtain rfl:m=false:=by rw[←Hm.o];exact J8 (.inl (by rw[Hk.o]))
  go_wp2;go_ret;exact⟨rfl,HB.o.alloc HB.o.size _⟩
 by_cases t2:cnt<1
 ·obtain rfl:m=false:=by rw[←Hm.o];exact J8 (.inr (.inl t2))
  go_wp2;go_ret;exact⟨rfl,HB.o.alloc HB.o.size _⟩
 by_cases t3:65536<cnt
 ·obtain rfl:m=false:=by rw[←Hm.o];exact J8 (.inr (.inr (.inl t3)))
  go_wp2;go_ret;exact⟨rfl,HB.o.alloc HB.o.size _⟩
 have hw:IntKind.i64.wrap (cnt*sz)=cnt*sz:=by
  have:0≤cnt*sz:=j6 (by omega) (by omega);have:cnt*sz≤65536*8:=iX (by omega) (by omega) (by omega) (by omega);rw[aY];omega
 have f1:(sz==0)=false:=by simp[t1]
 by_cases t4:(n:Int)=cnt*sz
 ·have hmm:=a8D (ty:=ty) (cnt:=cnt) (d:=d) (by rw[Hk.o];exact t1) t2 t3 (by rw[Hl.o,Hk.o];exact t4);rw[Hm.o]at hmm;have Hmm:=aA hmm;have f4:((n:Int) != cnt*sz)=false:=by simp[t4]
  clear hmm t4;by_cases t5:ty=2
  ·subst t5;have hti:=(a2E d Bd.o);rw[Hl.o]at hti;have hi:=fun j=>(a1C a n c d 0 ((w1.alloc (.cells #[.int .i64 sz,.int .i64 pt,.int .i64 is] 185)).drewN j) (wM Hs1.o _).drewN).mono (fun e w' (h:_∧_)=>(⟨h.1,by rw[←h.2];exact Qt.refl _⟩:_∧Qt _ w'));obtain⟨k,hkk⟩:=aC (Lib.indexByte (Lib.bytesOf d) (0:Int).toNat.toUInt8);rw[hkk]at hti hi;have hk2:=Lib.indexByte_ge (Lib.bytesOf d) (0:Int).toNat.toUInt8;rw[hkk]at hk2;have hmk:m=(k==(n:Int) - 1):=by
    rw[Hmm.o,eP,beq_iff_eq,hti];simp
   obtain⟨Hmk,Hi⟩:=aF hmk hi;clear hti hkk hi hmk;go_wp2_with fail
   go_quiet ((go_at_call 159;exact Calls.quiet_of (Hi.o _)))
   go_wp2;go_ret;exact⟨BK Hmk.o.symm,(HB.o.alloc HB.o.size _).trans (Qt.below ⟨_,rfl⟩ _)⟩
  ·have f5:(ty==2)=false:=by simp[t5]
   have f6:(ty != 2)=true:=by simp[t5]
   have hmm:m=true:=by rw[Hmm.o,f6];rfl
   subst hmm;go_wp2_with fail
   go_quiet (fail)
   go_wp2;go_ret;exact⟨rfl,(HB.o.alloc HB.o.size _).trans (Qt.below ⟨_,rfl⟩ _)⟩
 ·obtain rfl:m=false:=by rw[←Hm.o];exact J8 (.inr (.inr (.inr (by rw[Hl.o,Hk.o];exact t4))))
  have f4:((n:Int) != cnt*sz)=true:=by simp[t4]
  go_wp2;go_ret;exact⟨rfl,HB.o.alloc HB.o.size _⟩
theorem SS (n:Int) (w:World):Calls Tryz.prog 146 #[.int .i64 n] w fun e w'=>e= .returned (.int .i64 (kH n).1)∧w=w':=by
 by_cases h1:n=1
 ·subst h1;have e:(kH 1).1=1:=by decide
  rw[e];go_enter Tryz.func146,Tryz.ntmps146;go_wp2;go_ret;exact⟨rfl,rfl⟩
 by_cases h2:n=2
 ·subst h2;have e:(kH 2).1=1:=by decide
  rw[e];go_enter Tryz.func146,Tryz.ntmps146;go_wp2;go_ret;exact⟨rfl,rfl⟩
 by_cases h3:n=3
 ·subst h3;have e:(kH 3).1=2:=by decide
  rw[e];go_enter Tryz.func146,Tryz.ntmps146;go_wp2;go_ret;exact⟨rfl,rfl⟩
 by_cases h4:n=4
 ·subst h4;have e:(kH 4).1=4:=by decide
  rw[e];go_enter Tryz.func146,Tryz.ntmps146;go_wp2;go_ret;exact⟨rfl,rfl⟩
 by_cases h5:n=5
 ·subst h5;have e:(kH 5).1=8:=by decide
  rw[e];go_enter Tryz.func146,Tryz.ntmps146;go_wp2;go_ret;exact⟨rfl,rfl⟩
 by_cases h6:n=6
 ·subst h6;have e:(kH 6).1=1:=by decide
  rw[e];go_enter Tryz.func146,Tryz.ntmps146;go_wp2;go_ret;exact⟨rfl,rfl⟩
 by_cases h7:n=7
 ·subst h7;have e:(kH 7).1=1:=by decide
  rw[e];go_enter Tryz.func146,Tryz.ntmps146;go_wp2;go_ret;exact⟨rfl,rfl⟩
 by_cases h8:n=8
 ·subst h8;have e:(kH 8).1=2:=by decide
  rw[e];go_enter Tryz.func146,Tryz.ntmps146;go_wp2;go_ret;exact⟨rfl,rfl⟩
 by_cases h9:n=9
 ·subst h9;have e:(kH 9).1=4:=by decide
  rw[e];go_enter Tryz.func146,Tryz.ntmps146;go_wp2;go_ret;exact⟨rfl,rfl⟩
 by_cases h10:n=10
 ·subst h10;have e:(kH 10).1=8:=by decide
  rw[e];go_enter Tryz.func146,Tryz.ntmps146;go_wp2;go_ret;exact⟨rfl,rfl⟩
 by_cases h11:n=11
 ·subst h11;have e:(kH 11).1=4:=by decide
  rw[e];go_enter Tryz.func146,Tryz.ntmps146;go_wp2;go_ret;exact⟨rfl,rfl⟩
 by_cases h12:n=12
 ·subst h12;have e:(kH 12).1=8:=by decide
  rw[e];go_enter Tryz.func146,Tryz.ntmps146;go_wp2;go_ret;exact⟨rfl,rfl⟩
 have e:(kH n).1=0:=by
  rcases Classical.em (n<0∨12<n)with h|h
  ·rw[SN h]
  ·obtain rfl:n=0:=by omega
   decide
 rw[e];go_enter Tryz.func146,Tryz.ntmps146;go_wp2;go_ret;exact⟨rfl,rfl⟩
theorem a8E {l:List Int} {i:Nat} (hi:i<l.length) (h:¬(l.getD i 0=0↔i+1=l.length)):DI l=false:=by
 cases hb:DI l
 ·rfl
 ·exact absurd ((SQ l).1 hb i hi) h
theorem aN0 (ty cnt:Int) (a:Option Addr) (n c:Nat) (d:List Int) (w:World) (hs:Sl w a n c 1 (ints .u8 d)):
  Calls Tryz.prog 183 #[.agg #[.int .i64 ty,.int .i64 cnt,.slice a n c]] w fun e w'=>e= .returned (.bool (rM ty cnt d))∧Below w.heap.size w w':=by
 have hl:=hs.nV;obtain⟨m,hm⟩:=aC (rM ty cnt d);rw[hm];obtain⟨Hm,Hl⟩:=aF hm hl;have hsz:=y9 ty;have hmx:=hs.max;have hle:=hs.le;obtain⟨w1,hw1⟩:∃w1,w1=w.alloc (.cells #[.int .i64 ty,.int .i64 cnt,.slice a n c] 72):=⟨_,rfl⟩;have hb1:Below w.heap.size w w1:=by rw[hw1];exact(aW _ _).alloc (aU _) _
 have Hs1:=aA (hs.mono hb1);obtain⟨g,hg⟩:∃g,g=w.heap.size:=⟨_,rfl⟩;have hblk:w1.heap[g]? =some (.cells #[.int .i64 ty,.int .i64 cnt,.slice a n c] 72):=by rw[hg,hw1];exact mF w _
 have hlt:g<w1.heap.size:=(bY.1 hblk).1;have c0:w1.cell? ⟨g,0,none⟩=some (.int .i64 ty):=by unfold World.cell?;rw[hblk];rfl
 have c1:w1.cell? ⟨g,1,none⟩=some (.int .i64 cnt):=by unfold World.cell?;rw[hblk];rfl
 have c2:w1.cell? ⟨g,2,none⟩=some (.slice a n c):=by unfold World.cell?;rw[hblk];rfl
 have HB:=aA hb1;clear hm hl hs hb1 hblk;obtain⟨sz,pt,is,hk⟩:∃s p i,kH ty=(s,p,i):=⟨_,_,_,rfl⟩;rw[hk]at hsz;simp only at hsz;have Hk:=aA hk;clear hk;have hkc:=fun j=>(SS ty (w1.drewN j)).mono (fun e w' (h:_∧_)=>(⟨h.1,by rw[←h.2];exact Qt.refl _⟩:_∧Qt _ w'));rw[Hk.o]at hkc;simp only at hkc;have Hkc:=aA hkc;clear hkc;go_enter Tryz.func183,Tryz.ntmps183;go_wp2_with fail
 rw[←hw1,←hg];have HG:=aA hg;clear hw1 hg;by_cases t1:sz=0
 ·subst t1;obtain rfl:m=false:=by rw[←Hm.o];exact J8 (.inl (by rw[Hk.o]))
  go_quiet ((go_at_call 146;exact Calls.quiet_of (Hkc.o _)))
  go_wp2;go_ret;exact⟨rfl,HB.o.trans (Qt.below ⟨_,rfl⟩ _)⟩
 have f1:(sz==0)=false:=by simp[t1]
 by_cases t2:cnt<1
 ·obtain rfl:m=false:=by rw[←Hm.o];exact J8 (.inr (.inl t2))
  go_quiet ((go_at_call 146;exact Calls.quiet_of (Hkc.o _)))
  go_wp2;go_ret;exact⟨rfl,HB.o.trans (Qt.below ⟨_,rfl⟩ _)⟩
 have f2:decide (cnt<1)=false:=by simp;omega
 by_cases t3:65536<cnt
 ·obtain rfl:m=false:=by rw[←Hm.o];exact J8 (.inr (.inr (.inl t3)))
  go_quiet ((go_at_call 146;exact Calls.quiet_of (Hkc.o _)))
  go_wp2;go_ret;exact⟨rfl,HB.o.trans (Qt.below ⟨_,rfl⟩ _)⟩
 have f3:decide (65536<cnt)=false:=by simp;omega
 have hw:IntKind.i64.wrap (cnt*sz)=cnt*sz:=by
  have:0≤cnt*sz:=j6 (by omega) (by omega);have:cnt*sz≤65536*8:=iX (by omega) (by omega) (by omega) (by omega);rw[aY];omega
 by_cases t4:(n:Int)=cnt*sz
 ·have hmm:=a8D (ty:=ty) (cnt:=cnt) (d:=d) (by rw[Hk.o];exact t1) t2 t3 (by rw[Hl.o,Hk.o];exact t4);rw[Hm.o]at hmm;have Hmm:=aA hmm;have f4:((n:Int) != cnt*sz)=false:=by simp[t4]
  clear hmm t4;go_quiet ((go_at_call 146;exact Calls.quiet_of (Hkc.o _)))
  go_wp2;go_loopw [3] (fun i wr=>∃k:Nat,k≤n∧i= .int .i64 k∧Hid (∀j,j<k→(d.getD j 0=0↔j+1=n))∧Qt w1 wr) (fun i _=>n - (intOf i).toNat)
  case atStart=>exact⟨0,by omega,rfl,aA (fun j hj=>by omega),⟨_,rfl⟩⟩
  case round=>
   obtain⟨k,hk,rfl,hall,hq⟩:=hrel;by_cases t5:ty=2
   ·subst t5;have hmt:m=DI d:=by rw[Hmm.o];rfl
    have Hmt:=aA hmt;clear hmt;by_cases hlt:k<n
    ·obtain⟨b,off,rfl,hbx,hc⟩:=Hs1.o.at hlt;have e1:=hc k _ (oW (by rw[Hl.o];exact hlt));clear hc;obtain⟨x,hx⟩:=aC (d.getD k 0);rw[hx]at e1;have Hx:=aA hx;clear hx;obtain⟨j,rfl⟩:=hq.ex;by_cases t6:x=0
     ·have g1:(x==0)=true:=by simp[t6]
      by_cases t7:k+1=n
      ·have g2:((k:Int)==(n:Int) - 1)=true:=by simp;omega
       have hnext:Hid (∀j,j<k+1→(d.getD j 0=0↔j+1=n)):=aA (fun j hj=>by
        rcases eH j k with h|h
        ·exact hall.o j h
        ·obtain rfl:j=k:=by omega
         rw[Hx.o];exact⟨fun _=>t7,fun _=>t6⟩)
       clear t6 t7 hall;go_wp2_with fail
       go_quiet (fail)
       go_wp2;go_roundw
       case rel=>exact⟨k+1,by omega,by go_num,hnext,⟨_,rfl⟩⟩
       case measure=>simp[intOf];omega
      ·have g2:((k:Int)==(n:Int) - 1)=false:=by simp;omega
       obtain rfl:m=false:=by rw[Hmt.o];exact a8E (i:=k) (by rw[Hl.o];exact hlt) (by rw[Hx.o,Hl.o];exact fun h=>t7 (h.1 t6))
       clear t6 t7 hall;go_wp2_with fail
       go_quiet (fail)
       go_wp2;go_ret;exact⟨rfl,HB.o.trans ((hq.step _).below _)⟩
     ·have g1:(x==0)=false:=by simp[t6]
      by_cases t7:k+1=n
      ·have g2:((k:Int)==(n:Int) - 1)=true:=by simp;omega
       obtain rfl:m=false:=by rw[Hmt.o];exact a8E (i:=k) (by rw[Hl.o];exact hlt) (by rw[Hx.o,Hl.o];exact fun h=>t6 (h.2 t7))
       clear t6 t7 hall;go_wp2_with fail
       go_quiet (fail)
       go_wp2;go_ret;exact⟨rfl,HB.o.trans ((hq.step _).below _)⟩
      ·have g2:((k:Int)==(n:Int) - 1)=false:=by simp;omega
       have hnext:Hid (∀j,j<k+1→(d.getD j 0=0↔j+1=n)):=aA (fun j hj=>by
        rcases eH j k with h|h
        ·exact hall.o j h
        ·obtain rfl:j=k:=by omega
         rw[Hx.o];exact⟨fun h=>absurd h t6,fun h=>absurd h t7⟩)
       clear t6 t7 hall;go_wp2_with fail
       go_quiet (fail)
       go_wp2;go_roundw
       case rel=>exact⟨k+1,by omega,by go_num,hnext,⟨_,rfl⟩⟩
       case measure=>simp[intOf];omega
    ·obtain rfl:m=true:=by
      rw[Hmt.o];refine(SQ d).2 fun i hi=>?_;rw[Hl.o]at hi ⊢;exact hall.o i (by omega)
     obtain⟨j,rfl⟩:=hq.ex;go_wp2;go_ret;exact⟨rfl,HB.o.trans (hq.below _)⟩
   ·have g1:(ty==2)=false:=by simp[t5]
    have g2:(ty != 2)=true:=by simp[t5]
    obtain rfl:m=true:=by rw[Hmm.o,g2];rfl
    obtain⟨j,rfl⟩:=hq.ex;by_cases hlt:k<n
    ·go_wp2;go_ret;exact⟨rfl,HB.o.trans (hq.below _)⟩
    ·go_wp2;go_ret;exact⟨rfl,HB.o.trans (hq.below _)⟩
 ·obtain rfl:m=false:=by rw[←Hm.o];exact J8 (.inr (.inr (.inr (by rw[Hl.o,Hk.o];exact t4))))
  have f4:((n:Int) != cnt*sz)=true:=by simp[t4]
  go_quiet ((go_at_call 146;exact Calls.quiet_of (Hkc.o _)))
  go_wp2;go_ret;exact⟨rfl,HB.o.trans (Qt.below ⟨_,rfl⟩ _)⟩
def vX (a l e:Int):Bool:=decide (0≤a)&&decide (0≤l)&&decide (a≤e)&&decide (l≤e - a)
def zY (ty cnt:Int):Int:=if cnt<1∨65536<cnt then 0 else cnt*(kH ty).1
def oL (ty cnt:Int):Int:=if 4<zY ty cnt then zY ty cnt else 0
def aDF (ty cnt:Int):Bool:=decide (0<zY ty cnt)&&decide (zY ty cnt≤4)
theorem P7 (ty cnt:Int):0≤zY ty cnt∧zY ty cnt≤524288:=by
 unfold zY;have:=y9 ty;split
 ·omega
 ·rename_i h;have h1:cnt*(kH ty).1≤65536*8:=iX (by omega) this.2 this.1 (by omega);exact⟨j6 (by omega) this.1,by omega⟩
theorem XO (a l e:Int) (w:World) (h0:0≤e) (h1:e≤9223372036854775807):Calls Tryz.prog 111 #[.int .i64 a,.int .i64 l,.int .i64 e] w fun x w'=>x= .returned (.bool (vX a l e))∧w=w':=by
 unfold vX;by_cases ha:0≤a
 ·by_cases hl:0≤l
  ·by_cases he:a≤e
   ·have hw:=aB (e - a) (by omega);simp only[ha,hl,he,decide_true,dH];go_enter Tryz.func111,Tryz.ntmps111;go_wp2;go_ret;exact⟨rfl,rfl⟩
   ·simp only[ha,hl,he,decide_true,decide_false,dH,iY];go_enter Tryz.func111,Tryz.ntmps111;go_wp2;go_ret;exact⟨rfl,rfl⟩
  ·simp only[ha,hl,decide_true,decide_false,dH,iY];go_enter Tryz.func111,Tryz.ntmps111;go_wp2;go_ret;exact⟨rfl,rfl⟩
 ·simp only[ha,decide_false,iY];go_enter Tryz.func111,Tryz.ntmps111;go_wp2;go_ret;exact⟨rfl,rfl⟩
theorem a8F (n:Int) (w:World):Calls Tryz.prog 229 #[.int .i64 n] w fun e w'=>e= .returned (.int .i64 (kH n).1)∧Below w.heap.size w w':=by
 have hK:=P6 n w;generalize (kH n).1=s1 at*;generalize (kH n).2.1=s2 at*;generalize (kH n).2.2=s3 at*;have hF:∀W,(Instr.field 185 (.agg #[.int .i64 s1,.int .i64 s2,.int .i64 s3]) 0).run Tryz.prog W= .ok (.int .i64 s1) W:=fun W=>by kernel_rfl
 have hK':=aA hK;clear hK;go_enter Tryz.func229,Tryz.ntmps229;go_wp2_with fail
 refine hK'.o.mono ?_;rintro e w1 ⟨rfl,hb1⟩;have HB:=aA hb1;clear hb1;go_wp2_with fail
 go_ret;exact⟨rfl,HB.o⟩
theorem a8G (ty cnt:Int) (w:World):Calls Tryz.prog 165 #[.int .i64 ty,.int .i64 cnt] w fun e w'=>e= .returned (.int .i64 (zY ty cnt))∧Below w.heap.size w w':=by
 have hk:=y9 ty;unfold zY;by_cases h:cnt<1
 ·rw[if_pos (.inl h)];go_enter Tryz.func165,Tryz.ntmps165;go_wp2;go_ret;exact⟨rfl,aW _ _⟩
 ·have d1:decide (cnt<1)=false:=by simp;omega
  by_cases h2:65536<cnt
  ·rw[if_pos (.inr h2)];go_enter Tryz.func165,Tryz.ntmps165;go_wp2;go_ret;exact⟨rfl,aW _ _⟩
  ·have d2:decide (65536<cnt)=false:=by simp;omega
   rw[if_neg (by omega)];have h3:cnt*(kH ty).1≤65536*8:=iX (by omega) hk.2 hk.1 (by omega);have h4:0≤cnt*(kH ty).1:=j6 (by omega) hk.1;have hS:=fun W=>a8F ty W;generalize (kH ty).1=s at*;have hw:=aB (cnt*s) (by omega);obtain⟨hk',hS'⟩:=aF hk hS;clear hk hS;go_enter Tryz.func165,Tryz.ntmps165;go_wp2_with (go_at_call 229;refine(hS'.o _).mono ?_;rintro e w1 ⟨rfl,hb1⟩;have HB:=aA hb1;clear hb1)
   go_ret;exact⟨rfl,HB.o⟩
theorem aH3 (ty cnt:Int) (w:World):Calls Tryz.prog 161 #[.int .i64 ty,.int .i64 cnt] w fun e w'=>e= .returned (.int .i64 (oL ty cnt))∧Below w.heap.size w w':=by
 have hK:=a8G ty cnt w;unfold oL;generalize zY ty cnt=s at*;have hK':=aA hK;clear hK;by_cases h:4<s
 ·rw[if_pos h];go_enter Tryz.func161,Tryz.ntmps161;go_wp2_with (go_at_call 165;refine(hK'.o).mono ?_;rintro e w1 ⟨rfl,hb1⟩;have HB:=aA hb1;clear hb1)
  go_ret;exact⟨rfl,HB.o⟩
 ·have d:decide (4<s)=false:=by simp;omega
  rw[if_neg h];go_enter Tryz.func161,Tryz.ntmps161;go_wp2_with (go_at_call 165;refine(hK'.o).mono ?_;rintro e w1 ⟨rfl,hb1⟩;have HB:=aA hb1;clear hb1)
  go_ret;exact⟨rfl,HB.o⟩
theorem aW5 (ty cnt:Int) (w:World):Calls Tryz.prog 113 #[.int .i64 ty,.int .i64 cnt] w fun e w'=>e= .returned (.bool (aDF ty cnt))∧Below w.heap.size w w':=by
 have hK:=a8G ty cnt w;unfold aDF;generalize zY ty cnt=s at*;have hK':=aA hK;clear hK;by_cases h:0<s
 ·simp only[h,decide_true,dH];go_enter Tryz.func113,Tryz.ntmps113;go_wp2_with (go_at_call 165;refine(hK'.o).mono ?_;rintro e w1 ⟨rfl,hb1⟩;have HB:=aA hb1;clear hb1)
  go_ret;exact⟨rfl,HB.o⟩
 ·have d:decide (0<s)=false:=by simp;omega
  rw[d,iY];go_enter Tryz.func113,Tryz.ntmps113;go_wp2_with (go_at_call 165;refine(hK'.o).mono ?_;rintro e w1 ⟨rfl,hb1⟩;have HB:=aA hb1;clear hb1)
  go_ret;exact⟨rfl,HB.o⟩
def SV (ty cnt:Int) (b:List Int) (o:Int):Option (List Int):=
 if(kH ty).1=0∨cnt<1∨65536<cnt∨(b.length:Int)<cnt*(kH ty).1 then none
 else if rM ty cnt (oZ (b.take (cnt*(kH ty).1).toNat) (kH ty).2.1 o)=true then some (oZ (b.take (cnt*(kH ty).1).toNat) (kH ty).2.1 o)else none
theorem aH4 {ty cnt:Int} {b d:List Int} {o:Int} (h:SV ty cnt b o=some d):(d.length:Int)=cnt*(kH ty).1:=by
 unfold SV at h;split at h
 ·cases h
 ·split at h
  ·rename_i h1 h2;obtain rfl:_=d:=by simpa using h
   unfold rM at h2;simp at h2;exact h2.1.2
  ·cases h
theorem aH5 {ty cnt:Int} {b d:List Int} {o:Int} (h:SV ty cnt b o=some d) (hb:mW b):mW d:=by
 unfold SV at h;split at h
 ·cases h
 ·split at h
  ·obtain rfl:_=d:=by simpa using h
   exact P5 (hb.take _) _ _
  ·cases h
theorem b4D {ty cnt:Int} {b:List Int} {o:Int} (h:(kH ty).1=0∨cnt<1∨65536<cnt∨(b.length:Int)<cnt*(kH ty).1):SV ty cnt b o=none:=by
 unfold SV;rw[if_pos h]
theorem aH6 {ty cnt:Int} {b:List Int} {o:Int} (h:¬((kH ty).1=0∨cnt<1∨65536<cnt∨(b.length:Int)<cnt*(kH ty).1)):
  SV ty cnt b o=if rM ty cnt (oZ (b.take (cnt*(kH ty).1).toNat) (kH ty).2.1 o)=true then some (oZ (b.take (cnt*(kH ty).1).toNat) (kH ty).2.1 o)else none:=by
 unfold SV;rw[if_neg h]
abbrev b4E (w:World) (ty cnt:Int) (R:Option (List Int)) (e:Ending) (w':World):Prop:=
 ∃ty' cnt' a2 m c2,e= .returned (.tuple #[.agg #[.int .i64 ty',.int .i64 cnt',.slice a2 m c2],.bool R.isSome])∧Below w.heap.size w w'∧
  ∀d,R=some d→ty'=ty∧cnt'=cnt∧w'.ownsRow w.heap.size 5 1 (.slice a2 m c2) m (ints .u8 d)
theorem aN1 (ty cnt:Int) (a:Option Addr) (n c:Nat) (b:List Int) (o:Int) (w:World) (hs:Sl w a n c 1 (ints .u8 b)) (hby:mW b):
  Calls Tryz.prog 54 #[.int .i64 ty,.int .i64 cnt,.slice a n c,.int .i64 o] w (b4E w ty cnt (SV ty cnt b o)):=by
 have hbl:=hs.nV;have hle:=hs.le;have hmx:=hs.max;have hsz:=y9 ty;have hK:=P6 ty;have hno:=b4D (ty:=ty) (cnt:=cnt) (b:=b) (o:=o);have NQ:=aH6 (ty:=ty) (cnt:=cnt) (b:=b) (o:=o);generalize SV ty cnt b o=R at*;obtain⟨sz,hszz⟩:∃s,(kH ty).1=s:=⟨_,rfl⟩;obtain⟨pt,bB7⟩:∃s,(kH ty).2.1=s:=⟨_,rfl⟩;rw[hszz]at hsz hK hno NQ;rw[bB7]at hK NQ;generalize (kH ty).2.2=is at*;clear hszz bB7;rw[hbl]at hno NQ;obtain⟨hs',rZ⟩:=aF hs hby;obtain⟨qY,hK',a8H,hno'⟩:=aH hbl hK NQ hno;clear hs hby hbl hK NQ hno;go_enter Tryz.func54,Tryz.ntmps54;go_wp2_with fail
 refine(hK'.o _).mono ?_;rintro e w1 ⟨rfl,hb1⟩;have b0:jJ w1 w.heap.size 72 #[.int .i64 0,.int .i64 0,.slice none 0 0]:=jJ.late (jJ.new w _ _) hb1;have hbb:=(aD w (.cells #[.int .i64 0,.int .i64 0,.slice none 0 0] 72)).trans (hb1.mono (by simp));have bKK:=b0.lt;clear hb1;go_upto_region 2 with fail
 have b0:=b0.alloc (.cells #[.int .i64 sz,.int .i64 pt,.int .i64 is] 185);have hbb:=hbb.alloc hbb.size (.cells #[.int .i64 sz,.int .i64 pt,.int .i64 is] 185);have b1:jJ (w1.alloc (.cells #[.int .i64 sz,.int .i64 pt,.int .i64 is] 185)) w1.heap.size 185 #[.int .i64 sz,.int .i64 pt,.int .i64 is]:=jJ.new _ _ _;have h01:w.heap.size<w1.heap.size:=bKK;generalize (w1.alloc (.cells #[.int .i64 sz,.int .i64 pt,.int .i64 is] 185))=W at*;obtain⟨g1,hg1⟩:∃g,w1.heap.size=g:=⟨_,rfl⟩;rw[hg1]at b1 h01;rw[hg1];have c0:W.cell? ⟨g1,0,none⟩=some (.int .i64 sz):=b1.cell rfl;have p0:W.cell? ⟨w.heap.size,0,none⟩=some (.int .i64 0):=b0.cell rfl;have p1:W.cell? ⟨w.heap.size,1,none⟩=some (.int .i64 0):=b0.cell rfl;have p2:W.cell? ⟨w.heap.size,2,none⟩=some (.slice none 0 0):=b0.cell rfl;have y0:=b0.frozen 0;have y1:=b0.frozen 1;have y2:=b0.frozen 2;clear hg1;obtain⟨b0',CZ,b1'⟩:=aG b0 hbb b1;clear b0 hbb b1;by_cases t1:sz=0
 ·subst t1;obtain rfl:=hno'.o (.inl rfl);go_wp2;refine bodyPost_ret (jL rfl _ _ w.heap.size 72 #[.int .i64 0,.int .i64 0,.slice none 0 0] _ rfl (b0'.o.xK _ _ _) Tryz.underlying72 rfl (by kernel_rfl)) rfl ?_;exact⟨0,0,none,0,0,rfl,kM CZ.o (aU _) _ _ _,fun d h=>by cases h⟩
 have f1:(sz==0)=false:=by simp[t1]
 by_cases t2:cnt<1
 ·obtain rfl:=hno'.o (.inr (.inl t2));have f2:decide (cnt<1)=true:=by simp;omega
  go_wp2;refine bodyPost_ret (jL rfl _ _ w.heap.size 72 #[.int .i64 0,.int .i64 0,.slice none 0 0] _ rfl (b0'.o.xK _ _ _) Tryz.underlying72 rfl (by kernel_rfl)) rfl ?_;exact⟨0,0,none,0,0,rfl,kM CZ.o (aU _) _ _ _,fun d h=>by cases h⟩
 have f2:decide (cnt<1)=false:=by simp;omega
 by_cases t3:65536<cnt
 ·obtain rfl:=hno'.o (.inr (.inr (.inl t3)));have f3:decide (65536<cnt)=true:=by simp;omega
  go_wp2;refine bodyPost_ret (jL rfl _ _ w.heap.size 72 #[.int .i64 0,.int .i64 0,.slice none 0 0] _ rfl (b0'.o.xK _ _ _) Tryz.underlying72 rfl (by kernel_rfl)) rfl ?_;exact⟨0,0,none,0,0,rfl,kM CZ.o (aU _) _ _ _,fun d h=>by cases h⟩
 have f3:decide (65536<cnt)=false:=by simp;omega
 obtain⟨L,hL⟩:∃L:Nat,cnt*sz=L:=by
  have:=j6 (show 0≤cnt by omega) hsz.1;exact⟨(cnt*sz).toNat,by omega⟩
 have hL2:(L:Int)≤65536*8:=by rw[←hL];exact iX (by omega) (by omega) (by omega) (by omega)
 have hw:IntKind.i64.wrap (cnt*sz)=L:=by rw[aY,hL];omega
 by_cases t4:(n:Int)<cnt*sz
 ·obtain rfl:=hno'.o (.inr (.inr (.inr t4)));rw[hL]at t4;have f4:decide ((n:Int)<L)=true:=by simp;omega
  go_wp2;refine bodyPost_ret (jL rfl _ _ w.heap.size 72 #[.int .i64 0,.int .i64 0,.slice none 0 0] _ rfl (b0'.o.xK _ _ _) Tryz.underlying72 rfl (by kernel_rfl)) rfl ?_;exact⟨0,0,none,0,0,rfl,kM CZ.o (aU _) _ _ _,fun d h=>by cases h⟩
 have hyy:=a8H.o (by intro h;rcases h with h|h|h|h <;> contradiction);have hRR:R=if rM ty cnt (oZ (b.take L) pt o)=true then some (oZ (b.take L) pt o)else none:=by rw[hyy,hL];rfl
 rw[hL]at t4;have f4:decide ((n:Int)<L)=false:=by simp;omega
 obtain⟨a2,hsl,hs2,hin2⟩:=aZT (P:=Tryz.prog) (T:=24) (E:=5) (sz:=1) Tryz.underlying24 (fun W=>by kernel_rfl) hs'.o (L:Int) (by omega) (by omega) L rfl;rw[gU,show(ints .u8 b).take L=ints .u8 (b.take L) by simp[ints]]at hs2;obtain⟨Ty,f,hne,hbel,jH⟩:=jR W;have q0:∀s,(f s).cell? ⟨g1,0,none⟩=some (.int .i64 sz):=fun s=>(jJ.late b1'.o (hbel s)).cell rfl;have q1:∀s,(f s).cell? ⟨g1,1,none⟩=some (.int .i64 pt):=fun s=>(jJ.late b1'.o (hbel s)).cell rfl;obtain⟨HS,HD⟩:=aF (jH _ ((aW _ _).drew)) ((aW W.heap.size W).drew);have hLn:(L:Int)≤n:=by omega
 have hTN:=fun W' (h:Below w.heap.size w W')=>aMV a2 L c (b.take L) pt o W' (hs2.mono h) (by omega);clear hyy t1 t2 t3 p0 p1 p2 y0 y1 y2;obtain⟨jG,jA,VO,XP,aJD,bB8⟩:=aJ hbel jH hs2 hin2 hRR hTN;clear hbel jH hs2 hin2 hRR hTN;go_wp2_with fail
 clear c0;refine jU (S:=fun W=>∃s,W=f s) (by kernel_rfl) 15 rfl ?_;refine jF [0,1,2,3,4,5,6,7,8,9,10] 4 (by kernel_rfl) (fun d _ _ _ _ h=>by cases d <;> exact h) (by kernel_rfl) (by kernel_rfl) (by kernel_rfl) HS.o ?_;simp only[jB,aS,aT,aQ,aR];iterate 11 (go_big_quiet_step (fail))
 refine wpQuiet_nil ?_;refine qX 11 13 3 (by kernel_rfl) (by kernel_rfl) ?_ ?_;all_goals simp only[jB,aS,aT,aQ,aR]
 ·go_wp2_with fail
  refine(bB8.o _ (CZ.o.tm HD.o)).mono ?_;rintro e w2 ⟨a5,m5,c5,rfl,ho,hb2⟩;have hb:=HD.o.tm hb2;obtain⟨HS,hb',ho',hb2'⟩:=aH (jA.o _ hb) hb ho hb2;clear hb ho hb2;go_wp2_with fail
  first|refine Mid.mk ⟨HS.o,?_⟩|refine Mid.mk ?_
  refine jF [12] 2 (by kernel_rfl) (fun d _ _ _ _ h=>by cases d <;> exact h) (by kernel_rfl) (by kernel_rfl) (by kernel_rfl) HS.o ?_;simp only[jB,aS,aT,aQ,aR];iterate 1 (go_big_quiet_step (fail))
  refine wpQuiet_nil ?_;refine jC 13 1 (by kernel_rfl) (by kernel_rfl) ?_;simp only[jB,aS,aT,aQ,aR];go_wp2_with fail
  have ho3:=jY ho'.o (aD w2 (.cells #[.int .i64 0,.int .i64 0,.slice none 0 0] 72));have hb3:=hb'.o.alloc hb'.o.size (.cells #[.int .i64 0,.int .i64 0,.slice none 0 0] 72);have b3:jJ (w2.alloc (.cells #[.int .i64 0,.int .i64 0,.slice none 0 0] 72)) w2.heap.size 72 #[.int .i64 0,.int .i64 0,.slice none 0 0]:=jJ.new _ _ _;have h23:W.heap.size≤w2.heap.size:=hb'.o.size;have hog:(Value.slice a5 m5 c5).ownBlock≠some w2.heap.size:=fun hx=>by have:=(ho'.o.lt _ hx).2;omega
  have HS:=aA (jA.o _ hb3);obtain⟨g3,hg3⟩:∃g,w2.heap.size=g:=⟨_,rfl⟩;generalize (w2.alloc (.cells #[.int .i64 0,.int .i64 0,.slice none 0 0] 72))=w3 at*;rw[hg3]at b3 h23 hog;rw[hg3];obtain⟨EO,sO,b3'⟩:=aG ho3 hb3 b3;clear ho3 hb3 b3;clear hg3;first|refine Mid.mk ⟨HS.o,?_⟩|refine Mid.mk ?_
  refine jC 14 0 (by kernel_rfl) (by kernel_rfl) ?_;simp only[jB,aS,aT,aQ,aR];have p0:w3.cell? ⟨g3,0,none⟩=some (.int .i64 0):=b3'.o.cell rfl;have p1:w3.cell? ⟨g3,1,none⟩=some (.int .i64 0):=b3'.o.cell rfl;have p2:w3.cell? ⟨g3,2,none⟩=some (.slice none 0 0):=b3'.o.cell rfl;have y0:=b3'.o.frozen 0;have y1:=b3'.o.frozen 1;have y2:=b3'.o.frozen 2;go_wp2_with fail
  have b4:=b3'.o.xK (.int .i64 ty) (.int .i64 cnt) (.slice a5 m5 c5);have hb4:=kM sO.o h23 (.int .i64 ty) (.int .i64 cnt) (.slice a5 m5 c5);have SF:=lJ EO.o ((((But.refl g3 w3).set 0 (.int .i64 ty)).set 1 (.int .i64 cnt)).set 2 (.slice a5 m5 c5)) hog;have HS:=aA (jA.o _ hb4);refine Mid.mk ⟨HS.o,?_⟩;refine jK (by kernel_rfl) ?_;clear p0 p1 p2 y0 y1 y2 b3' sO EO;generalize (((w3.setCell ⟨g3,0,none⟩ (.int .i64 ty)).setCell ⟨g3,1,none⟩ (.int .i64 cnt)).setCell ⟨g3,2,none⟩ (.slice a5 m5 c5))=w4 at*;have c0:w4.cell? ⟨g3,0,none⟩=some (.int .i64 ty):=b4.cell rfl;have c1:w4.cell? ⟨g3,1,none⟩=some (.int .i64 cnt):=b4.cell rfl;have c2:w4.cell? ⟨g3,2,none⟩=some (.slice a5 m5 c5):=b4.cell rfl;have WQ:=b0'.o.late hb4;have tY:=CZ.o.tm hb4;have hM:=LM ty cnt a5 m5 c5 (oZ (b.take L) pt o) w4 (Sl.jX SF).1 (P5 (rZ.o.take _) _ _);have hW4:=hb4.size;have h0W:=b0'.o.lt;clear hb2' ho' hb';obtain⟨r,hr⟩:=aC (rM ty cnt (oZ (b.take L) pt o));rw[hr]at hM;have hRr:=aJD.o;rw[hr]at hRr;generalize hD:oZ (b.take L) pt o=D at*;obtain⟨b4',tC,a4G,VP,lG,hM',aN2,hr',hD'⟩:=aM b4 hb4 SF WQ tY hM hRr hr hD;clear b4 hb4 SF WQ tY hM hRr hr hD;go_wp2_with fail
  refine hM'.o.mono ?_;rintro e w5 ⟨rfl,hb5⟩;have b5:=VP.o.late hb5;have vD:=lG.o.tm hb5;have ho5:=jY a4G.o hb5;have b35:=b4'.o.late hb5;have c0:w5.cell? ⟨g3,0,none⟩=some (.int .i64 ty):=b35.cell rfl;have c1:w5.cell? ⟨g3,1,none⟩=some (.int .i64 cnt):=b35.cell rfl;have c2:w5.cell? ⟨g3,2,none⟩=some (.slice a5 m5 c5):=b35.cell rfl;have p0:w5.cell? ⟨w.heap.size,0,none⟩=some (.int .i64 0):=b5.cell rfl;have p1:w5.cell? ⟨w.heap.size,1,none⟩=some (.int .i64 0):=b5.cell rfl;have p2:w5.cell? ⟨w.heap.size,2,none⟩=some (.slice none 0 0):=b5.cell rfl;have y0:=b5.frozen 0;have y1:=b5.frozen 1;have y2:=b5.frozen 2;clear b35 hb5;obtain⟨b5',nQ,a8I⟩:=aG b5 vD ho5;clear b5 vD ho5;cases r
  ·have hRr:=aN2.o;simp only[Bool.false_eq_true,if_false]at hRr;subst hRr;go_wp2_with fail
   refine bodyPost_ret (jL rfl _ _ w.heap.size 72 #[.int .i64 0,.int .i64 0,.slice none 0 0] _ rfl (b5'.o.xK _ _ _) Tryz.underlying72 rfl (by kernel_rfl)) rfl ?_;exact⟨0,0,none,0,0,rfl,kM nQ.o (aU _) _ _ _,fun d h=>by cases h⟩
  ·have hRr:=aN2.o;simp only[if_true]at hRr;subst hRr;go_wp2_with fail
   refine bodyPost_ret (jL rfl _ _ w.heap.size 72 #[.int .i64 ty,.int .i64 cnt,.slice a5 m5 c5] _ rfl (b5'.o.xK _ _ _) Tryz.underlying72 rfl (by kernel_rfl)) rfl ?_;exact⟨ty,cnt,a5,m5,c5,rfl,kM nQ.o (aU _) _ _ _,fun d h=>by
    obtain rfl:D=d:=by simpa using h
    exact⟨rfl,rfl,kK (J5 (kK a8I.o (aU W.heap.size)) h0W _ _ _) (iZ h0W)⟩⟩
 ·go_wp2_with fail
  have hb3:=(aD W (.cells #[.int .i64 0,.int .i64 0,.slice none 0 0] 72)).drew;have b3:jJ (W.alloc (.cells #[.int .i64 0,.int .i64 0,.slice none 0 0] 72)).drew W.heap.size 72 #[.int .i64 0,.int .i64 0,.slice none 0 0]:=jJ.new W _ _;have a4H:(W.alloc (.cells #[.int .i64 0,.int .i64 0,.slice none 0 0] 72)).drew.heap.size=W.heap.size+1:=by show(W.alloc _).heap.size=_;simp
  have HS:=aA (jA.o _ hb3);obtain⟨w3,hw3⟩:∃w3,(W.alloc (.cells #[.int .i64 0,.int .i64 0,.slice none 0 0] 72)).drew=w3:=⟨_,rfl⟩;rw[hw3]at hb3 b3 a4H HS;rw[hw3];clear hw3;obtain⟨b3',sO⟩:=aF b3 hb3;clear b3 hb3;first|refine Mid.mk ⟨HS.o,?_⟩|refine Mid.mk ?_
  refine jC 11 2 (by kernel_rfl) (by kernel_rfl) ?_;simp only[jB,aS,aT,aQ,aR];go_wp2_with fail
  refine(bB8.o _ (CZ.o.tm sO.o)).mono ?_;rintro e w2 ⟨a5,m5,c5,rfl,ho,hb2⟩;have hb:=sO.o.tm hb2;have HS:=aA (jA.o _ hb);have b3:=b3'.o.late hb2;have hog:(Value.slice a5 m5 c5).ownBlock≠some W.heap.size:=fun hx=>by have:=(ho.lt _ hx).1;omega
  have ho:=kK ho sO.o.size;clear b3' sO a4H;obtain⟨hb',ho',hb2',b3'⟩:=aH hb ho hb2 b3;clear hb ho hb2 b3;go_wp2_with fail
  first|refine Mid.mk ⟨HS.o,?_⟩|refine Mid.mk ?_
  refine jF [12] 1 (by kernel_rfl) (fun d _ _ _ _ h=>by cases d <;> exact h) (by kernel_rfl) (by kernel_rfl) (by kernel_rfl) HS.o ?_;simp only[jB,aS,aT,aQ,aR];iterate 1 (go_big_quiet_step (fail))
  refine wpQuiet_nil ?_;refine jC 14 0 (by kernel_rfl) (by kernel_rfl) ?_;simp only[jB,aS,aT,aQ,aR];obtain⟨g3,hg3⟩:∃g,W.heap.size=g:=⟨_,rfl⟩;have h23:W.heap.size≤g3:=gT hg3;have sO:=hb';have EO:=ho';rw[hg3];rw[hg3]at hog b3';obtain⟨w3,hw3⟩:=aC w2;rw[hw3]at b3' sO EO;rw[hw3];clear hw3 hg3;have p0:w3.cell? ⟨g3,0,none⟩=some (.int .i64 0):=b3'.o.cell rfl;have p1:w3.cell? ⟨g3,1,none⟩=some (.int .i64 0):=b3'.o.cell rfl;have p2:w3.cell? ⟨g3,2,none⟩=some (.slice none 0 0):=b3'.o.cell rfl;have y0:=b3'.o.frozen 0;have y1:=b3'.o.frozen 1;have y2:=b3'.o.frozen 2;go_wp2_with fail
  have b4:=b3'.o.xK (.int .i64 ty) (.int .i64 cnt) (.slice a5 m5 c5);have hb4:=kM sO.o h23 (.int .i64 ty) (.int .i64 cnt) (.slice a5 m5 c5);have SF:=lJ EO.o ((((But.refl g3 w3).set 0 (.int .i64 ty)).set 1 (.int .i64 cnt)).set 2 (.slice a5 m5 c5)) hog;have HS:=aA (jA.o _ hb4);refine Mid.mk ⟨HS.o,?_⟩;refine jK (by kernel_rfl) ?_;clear p0 p1 p2 y0 y1 y2 b3' sO EO;generalize (((w3.setCell ⟨g3,0,none⟩ (.int .i64 ty)).setCell ⟨g3,1,none⟩ (.int .i64 cnt)).setCell ⟨g3,2,none⟩ (.slice a5 m5 c5))=w4 at*;have c0:w4.cell? ⟨g3,0,none⟩=some (.int .i64 ty):=b4.cell rfl;have c1:w4.cell? ⟨g3,1,none⟩=some (.int .i64 cnt):=b4.cell rfl;have c2:w4.cell? ⟨g3,2,none⟩=some (.slice a5 m5 c5):=b4.cell rfl;have WQ:=b0'.o.late hb4;have tY:=CZ.o.tm hb4;have hM:=LM ty cnt a5 m5 c5 (oZ (b.take L) pt o) w4 (Sl.jX SF).1 (P5 (rZ.o.take _) _ _);have hW4:=hb4.size;have h0W:=b0'.o.lt;clear hb2' ho' hb';obtain⟨r,hr⟩:=aC (rM ty cnt (oZ (b.take L) pt o));rw[hr]at hM;have hRr:=aJD.o;rw[hr]at hRr;generalize hD:oZ (b.take L) pt o=D at*;obtain⟨b4',tC,a4G,VP,lG,hM',aN2,hr',hD'⟩:=aM b4 hb4 SF WQ tY hM hRr hr hD;clear b4 hb4 SF WQ tY hM hRr hr hD;go_wp2_with fail
  refine hM'.o.mono ?_;rintro e w5 ⟨rfl,hb5⟩;have b5:=VP.o.late hb5;have vD:=lG.o.tm hb5;have ho5:=jY a4G.o hb5;have b35:=b4'.o.late hb5;have c0:w5.cell? ⟨g3,0,none⟩=some (.int .i64 ty):=b35.cell rfl;have c1:w5.cell? ⟨g3,1,none⟩=some (.int .i64 cnt):=b35.cell rfl;have c2:w5.cell? ⟨g3,2,none⟩=some (.slice a5 m5 c5):=b35.cell rfl;have p0:w5.cell? ⟨w.heap.size,0,none⟩=some (.int .i64 0):=b5.cell rfl;have p1:w5.cell? ⟨w.heap.size,1,none⟩=some (.int .i64 0):=b5.cell rfl;have p2:w5.cell? ⟨w.heap.size,2,none⟩=some (.slice none 0 0):=b5.cell rfl;have y0:=b5.frozen 0;have y1:=b5.frozen 1;have y2:=b5.frozen 2;clear b35 hb5;obtain⟨b5',nQ,a8I⟩:=aG b5 vD ho5;clear b5 vD ho5;cases r
  ·have hRr:=aN2.o;simp only[Bool.false_eq_true,if_false]at hRr;subst hRr;go_wp2_with fail
   refine bodyPost_ret (jL rfl _ _ w.heap.size 72 #[.int .i64 0,.int .i64 0,.slice none 0 0] _ rfl (b5'.o.xK _ _ _) Tryz.underlying72 rfl (by kernel_rfl)) rfl ?_;exact⟨0,0,none,0,0,rfl,kM nQ.o (aU _) _ _ _,fun d h=>by cases h⟩
  ·have hRr:=aN2.o;simp only[if_true]at hRr;subst hRr;go_wp2_with fail
   refine bodyPost_ret (jL rfl _ _ w.heap.size 72 #[.int .i64 ty,.int .i64 cnt,.slice a5 m5 c5] _ rfl (b5'.o.xK _ _ _) Tryz.underlying72 rfl (by kernel_rfl)) rfl ?_;exact⟨ty,cnt,a5,m5,c5,rfl,kM nQ.o (aU _) _ _ _,fun d h=>by
    obtain rfl:D=d:=by simpa using h
    exact⟨rfl,rfl,kK (J5 (kK a8I.o (aU W.heap.size)) h0W _ _ _) (iZ h0W)⟩⟩
