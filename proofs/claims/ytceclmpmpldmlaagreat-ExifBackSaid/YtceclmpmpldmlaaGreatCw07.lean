import Derived.Lib.ConvBytes
import Derived.Laws.AppendOwn
import Derived.LoopN
import Derived.Test.YtceclmpmpldmlaaGreatCw06
set_option linter.unusedSimpArgs false
set_option linter.unusedVariables false
set_option maxRecDepth 100000
set_option maxHeartbeats 8000000
namespace Go.Proofs.YtceclmpmpldmlaaGreat
open Go.RowKit Tt
def wS (s:Int):Int:=if s=1 then 256 else if s=2 then 65536 else if s=4 then 4294967296 else 0
def U0:Nat→Int→List Int
 |0,_=> []
 |k+1,n=>n % 256::U0 k (n / 256)
theorem RS:∀(k:Nat) (n:Int),(U0 k n).length=k
 |0,_=>rfl
 |k+1,n=>by simp[U0,RS k]
theorem aAU:∀(k:Nat) (n:Int),pF (U0 k n)
 |0,_=>fun x hx=>by cases hx
 |k+1,n=>fun x hx=>by
  rcases cK.1 hx with rfl|h
  ·omega
  ·exact aAU k _ x h
def mH (n s o:Int):Bool:=decide (1≤o)&&decide (o≤2)&&decide (0≤n)&&decide (n<wS s)
def lQ (n s o:Int):List Int:=if mH n s o=true then(if o=1 then U0 s.toNat n else(U0 s.toNat n).reverse)else []
theorem ZP (s:Int) (w:World):Calls Tryz.prog 241 #[.int .i64 s] w fun e w'=>e= .returned (.int .i64 (wS s))∧w=w':=by
 by_cases h1:s=1
 ·subst h1;go_enter Tryz.func241,Tryz.ntmps241;go_wp2;go_ret;exact⟨rfl,rfl⟩
 ·by_cases h2:s=2
  ·subst h2;go_enter Tryz.func241,Tryz.ntmps241;go_wp2;go_ret;exact⟨rfl,rfl⟩
  ·by_cases h3:s=4
   ·subst h3;go_enter Tryz.func241,Tryz.ntmps241;go_wp2;go_ret;exact⟨rfl,rfl⟩
   ·have e:wS s=0:=by unfold wS;rw[if_neg h1,if_neg h2,if_neg h3]
    rw[e];go_enter Tryz.func241,Tryz.ntmps241;go_wp2;go_ret;exact⟨rfl,rfl⟩
theorem aSZ {s:Int} (h:0<wS s):s=1∨s=2∨s=4:=by
 unfold wS at h;split at h
 ·exact .inl ‹_›
 ·split at h
  ·exact .inr (.inl ‹_›)
  ·split at h
   ·exact .inr (.inr ‹_›)
   ·omega
theorem aMJ (s:Int):wS s≤4294967296:=by
 unfold wS;split
 ·omega
 ·split
  ·omega
  ·split <;> omega
theorem a99:(Tryz.prog.info? 5).map (fun i=>(i.zero,i.size,i.bytes))=some (some (.int .u8 0),1,1):=by kernel_rfl
theorem a9A (n s o:Int) (w:World):
  Calls Tryz.prog 188 #[.int .i64 n,.int .i64 s,.int .i64 o] w fun e w'=>∃a m c,e= .returned (.tuple #[.slice a m c,.bool (mH n s o)])∧w'.ownsRow w.heap.size 5 1 (.slice a m c) m (ints .u8 (lQ n s o))∧Below w.heap.size w w':=by
 obtain⟨i0,hi,yZ,qC,wY⟩:=info_parts a99;by_cases h1:o<1
 ·have e:mH n s o=false:=by unfold mH;rw[decide_eq_false (show ¬1≤o by omega)];rfl
  have e2:lQ n s o= []:=by unfold lQ;rw[e];rfl
  rw[e,e2];clear e e2;go_enter Tryz.func188,Tryz.ntmps188;go_wp2;go_ret2;exact⟨_,_,_,rfl,lC _ _ _ _,bF _ _⟩
 ·by_cases h2:2<o
  ·have e:mH n s o=false:=by unfold mH;rw[decide_eq_false (show ¬o≤2 by omega)];simp
   have e2:lQ n s o= []:=by unfold lQ;rw[e];rfl
   rw[e,e2];clear e e2;go_enter Tryz.func188,Tryz.ntmps188;go_wp2;go_ret2;exact⟨_,_,_,rfl,lC _ _ _ _,bF _ _⟩
  ·by_cases h3:n<0
   ·have e:mH n s o=false:=by unfold mH;rw[decide_eq_false (show ¬0≤n by omega)];simp
    have e2:lQ n s o= []:=by unfold lQ;rw[e];rfl
    rw[e,e2];clear e e2;go_enter Tryz.func188,Tryz.ntmps188;go_wp2;go_ret2;exact⟨_,_,_,rfl,lC _ _ _ _,bF _ _⟩
   ·by_cases h4:wS s≤n
    ·have e:mH n s o=false:=by unfold mH;rw[decide_eq_false (show ¬n<wS s by omega)];simp
     have e2:lQ n s o= []:=by unfold lQ;rw[e];rfl
     rw[e,e2];clear e e2;generalize hT:wS s=T at h4;have HT:=aA hT;clear hT;go_enter Tryz.func188,Tryz.ntmps188;go_wp2_with (go_at_call 241;refine(ZP _ _).mono ?_;rw[HT.o];rintro e w' ⟨rfl,rfl⟩)
     go_ret2;exact⟨_,_,_,rfl,lC _ _ _ _,bF _ _⟩
    ·have e:mH n s o=true:=by unfold mH;rw[decide_eq_true (show 1≤o by omega),decide_eq_true (show o≤2 by omega),decide_eq_true (show 0≤n by omega),decide_eq_true (show n<wS s by omega)];rfl
     obtain⟨S,hS,hSb⟩:∃S:Nat,s=S∧S≤4:=by
      rcases aSZ (s:=s) aG with rfl|rfl|rfl
      ·exact⟨1,rfl,by omega⟩
      ·exact⟨2,rfl,by omega⟩
      ·exact⟨4,rfl,by omega⟩
     obtain⟨B,hB,hT⟩:∃B:Int,B≤4294967296∧wS s≤B:=⟨_,gX _,aMJ s⟩;have HB:=aA hB;clear hB;generalize hTT:wS s=T at h4 hT;subst hS;have HT:=aA hTT;clear hTT;rcases(show o=1∨o=2 by omega)with ho|ho
     ·have e2:lQ n S o=U0 S n:=by unfold lQ;rw[if_pos e,if_pos ho];rfl
      rw[e,e2];obtain⟨hnB,H3,HSb⟩:=aK (show n≤B by omega) h3 hSb;have q1:decide (o<1)=false:=by simp;omega
      have q2:decide (2<o)=false:=by simp;omega
      have q3:(o==1)=true:=by simp;omega
      have q4:decide (n<0)=false:=by simp;omega
      have q5:decide (T≤n)=false:=by simp;omega
      clear ho h3 h4;clear e e2 h1 h2 hT hSb;go_enter Tryz.func188,Tryz.ntmps188;go_wp2_with (go_at_call 241;refine(ZP _ _).mono ?_;rw[HT.o];rintro e w' ⟨rfl,rfl⟩)
      go_loopw [0,8,9] (fun nv v i wr=>∃(k:Nat) (nk:Int) (a4:Option Addr) (c4:Nat) (l:List Int),k≤S∧nv= .int .i64 nk∧0≤nk∧Hid (nk≤B)∧v= .slice a4 k c4∧i= .int .i64 k∧Hid (wr.ownsRow w.heap.size 5 1 (.slice a4 k c4) k (ints .u8 l))∧Hid (l++U0 (S - k) nk=U0 S n)∧Hid (Below w.heap.size w wr)) (fun _ _ i _=>S - (intOf i).toNat)
      case atStart=>exact⟨0,n,none,0, [],by omega,rfl,by have:=H3.o;omega,hnB,rfl,rfl,aA (lC _ _ _ _),aA (by simp),aA (bF _ _)⟩
      case round=>
       obtain⟨k,nk,a4,c4,l,hk,rfl,hn0,hn1,rfl,rfl,Ho,Hl,Hb⟩:=hrel;by_cases kY:k<S
       ·have hk4:k≤4:=by have:=HSb.o;omega
        have hnn:=hn1.o;have hBB:=HB.o;obtain⟨r,hr⟩:=aC (nk % 256);obtain⟨q,hq⟩:=aC (nk / 256);have OL:Int.tmod nk 256=r:=by rw[iR hn0];exact hr
        have T9:Int.tdiv nk 256=q:=by rw[Int.tdiv_eq_ediv_of_nonneg hn0];exact hq
        have RU:IntKind.u8.wrap r=r:=by rw[IntKind.wrap_u8];omega
        have TJ:=aB r aG;have hm5:=aB q aG;obtain⟨Hq0,HqB,Hr,Hq,Hn0⟩:=aM (show 0≤q by omega) (show q≤B by omega) hr hq hn0;clear hr hq hnn hBB hn0;go_wp2_with (at_builtin;refine qD rfl _ _ 24 rfl w.heap.size 5 i0 _ 1 1 Tryz.underlying24 hi yZ qC wY rfl aH _ k _ rfl (fB Ho.o _) _ 1 1 _ rfl (Sl.new wr 5 1 1 _ (0,0) aG rfl) (by simp[Value.oneCell']) (by have:=HSb.o;omega) aH (by have:=Hb.o.size;simp;omega) ?_;intro a5 c5 w2 ob kP MB;clear MB;obtain⟨Ob,Hb2⟩:=aJ ob ((Hb.o.alloc Hb.o.size _).trans kP);clear ob kP)
        go_roundw
        case rel=>exact⟨k+1,q,a5,c5,l++ [r],by omega,rfl,Hq0.o,HqB,rfl,by have:=HSb.o;go_num,aA (by have h1:=Ob.o;rw[vW];exact h1),aA (by
         have h0:=Hl.o;rw[show S - k=(S - (k+1))+1 by omega]at h0;simp only[U0]at h0;rw[dJ,←Hr.o,←Hq.o];exact h0),Hb2⟩
        case measure=>have:=HSb.o;simp[intOf];omega
       ·obtain rfl:k=S:=by omega
        have hl:=Hl.o;rw[iP]at hl;simp only[U0,dU]at hl;have HL:=aA hl;clear hl;go_wp2;go_ret2;exact⟨_,_,_,rfl,by rw[←HL.o];exact Ho.o,Hb.o⟩
     ·have e2:lQ n S o=(U0 S n).reverse:=by unfold lQ;rw[if_pos e,if_neg (show ¬o=1 by omega)];rfl
      rw[e,e2];obtain⟨hnB,H3,HSb⟩:=aK (show n≤B by omega) h3 hSb;have q1:decide (o<1)=false:=by simp;omega
      have q2:decide (2<o)=false:=by simp;omega
      have q3:(o==1)=false:=by simp;omega
      have q4:decide (n<0)=false:=by simp;omega
      have q5:decide (T≤n)=false:=by simp;omega
      clear ho h3 h4;clear e e2 h1 h2 hT hSb;go_enter Tryz.func188,Tryz.ntmps188;go_wp2_with (go_at_call 241;refine(ZP _ _).mono ?_;rw[HT.o];rintro e w' ⟨rfl,rfl⟩)
      go_loopw [0,8,9] (fun nv v i wr=>∃(k:Nat) (nk:Int) (a4:Option Addr) (c4:Nat) (l:List Int),k≤S∧nv= .int .i64 nk∧0≤nk∧Hid (nk≤B)∧v= .slice a4 k c4∧i= .int .i64 k∧Hid (wr.ownsRow w.heap.size 5 1 (.slice a4 k c4) k (ints .u8 l))∧Hid (l.reverse++U0 (S - k) nk=U0 S n)∧Hid (Below w.heap.size w wr)) (fun _ _ i _=>S - (intOf i).toNat)
      case atStart=>exact⟨0,n,none,0, [],by omega,rfl,by have:=H3.o;omega,hnB,rfl,rfl,aA (lC _ _ _ _),aA (by simp),aA (bF _ _)⟩
      case round=>
       obtain⟨k,nk,a4,c4,l,hk,rfl,hn0,hn1,rfl,rfl,Ho,Hl,Hb⟩:=hrel;by_cases kY:k<S
       ·have hk4:k≤4:=by have:=HSb.o;omega
        have hnn:=hn1.o;have hBB:=HB.o;obtain⟨r,hr⟩:=aC (nk % 256);obtain⟨q,hq⟩:=aC (nk / 256);have OL:Int.tmod nk 256=r:=by rw[iR hn0];exact hr
        have T9:Int.tdiv nk 256=q:=by rw[Int.tdiv_eq_ediv_of_nonneg hn0];exact hq
        have RU:IntKind.u8.wrap r=r:=by rw[IntKind.wrap_u8];omega
        have TJ:=aB r aG;have hm5:=aB q aG;obtain⟨Hq0,HqB,Hr,Hq,Hn0⟩:=aM (show 0≤q by omega) (show q≤B by omega) hr hq hn0;clear hr hq hnn hBB hn0;go_wp2_with (at_builtin;refine qD rfl _ _ 24 rfl wr.heap.size 5 i0 _ 1 1 Tryz.underlying24 hi yZ qC wY rfl aH _ 1 _ rfl (a2N wr wr.heap.size 5 1 1 _ (aY _) (by unfold maxLen;omega) rfl) _ k c4 _ rfl (AZ (Sl.kZ Ho.o).1 _) wQ (by have:=HSb.o;omega) aH (by simp) ?_;intro a5 c5 w2 ob kP MB;clear MB;obtain⟨Ob,Hb2⟩:=aJ (lN ob Hb.o.size) ((Hb.o.alloc Hb.o.size _).trans (kP.mono Hb.o.size));clear ob kP)
        go_roundw
        case rel=>exact⟨k+1,q,a5,c5,r::l,by omega,rfl,Hq0.o,HqB,by rw[Nat.add_comm],by have:=HSb.o;go_num,aA (by have h1:=Ob.o;rw[Nat.add_comm 1 k]at h1;exact h1),aA (by
         have h0:=Hl.o;rw[show S - k=(S - (k+1))+1 by omega]at h0;simp only[U0]at h0;rw[←Hr.o,←Hq.o];simpa using h0),Hb2⟩
        case measure=>have:=HSb.o;simp[intOf];omega
       ·obtain rfl:k=S:=by omega
        have hl:=Hl.o;rw[iP]at hl;simp only[U0,dU]at hl;have HL:=aA hl;clear hl;go_wp2;go_ret2;exact⟨_,_,_,rfl,by rw[←HL.o,List.reverse_reverse];exact Ho.o,Hb.o⟩
end Go.Proofs.YtceclmpmpldmlaaGreat
namespace Tt
open Go Go.RowKit
def b2O (s:ByteArray):List Int:=s.data.toList.map fun b=>(b.toNat:Int)
section
variable {P:Program} {w:World} {ops:Array Oper} {rest:List Oper} {o:Oper} {a:Act} {Q:Exit→Act→World→Prop}
end
end Tt
namespace Go.Proofs.YtceclmpmpldmlaaGreat
open Go.RowKit Tt
theorem bBZ (w:World):Calls Tryz.prog 188 #[.int .i64 1,.int .i64 1,.int .i64 2] w fun e w'=>∃a c,e= .returned (.tuple #[.slice a 1 c,.bool true])∧Sl w' a 1 c 1 (ints .u8 [1])∧Below w.heap.size w w':=by
 refine(a9A _ _ _ _).mono ?_;rintro e w' ⟨a,m,c,rfl,ho,hb⟩;rw[show lQ 1 1 2= [1] by decide]at ho;have hs:=(Sl.kZ ho).1;obtain rfl:m=1:=by have:=hs.p9;simpa using this.symm
 exact⟨a,c,by rw[show mH 1 1 2=true by decide],hs,hb⟩
def aIU (dir tag count:Int) (types:List Int):Bool:=(max (BF dir tag).2 0==count)&&(decide (0≤(BF dir tag).2)==decide (0<types.length))&&((BF dir tag).1==types)
def s1:ByteArray:=⟨#[50,48,50,48,58,48,49,58,48,50,32,48,51,58,48,52,58,48,53]⟩
def s2:ByteArray:=⟨#[50,48,50,48,58,48,49,58,48,50,32,48,51,58,48,52,58,48]⟩
theorem k1:aIU 0 274 1 [3]=true:=by decide+kernel
theorem k2:aIU 1 256 1 [3,4]=true:=by decide+kernel
theorem k3:aIU 3 274 0 []=true:=by decide+kernel
theorem r1:WK 0 34665=true:=by decide+kernel
theorem r2:WK 2 34665=false:=by decide+kernel
theorem m1:KW 2 36867 2 20 (b2O s1++ [0])=true:=by decide+kernel
theorem m2:KW 2 36867 2 19 (b2O s2++ [0])=false:=by decide+kernel
theorem m3:KW 2 4660 1 1 [1]=true:=by decide+kernel
theorem t1:wH 2 (s1.size+1) (b2O s1++ [0])=true:=by decide+kernel
theorem t2:wH 2 (s2.size+1) (b2O s2++ [0])=true:=by decide+kernel
theorem b2P {ts:List Tg} (h:xW ts=false):(∀x∈ts,x.2.2.2.length≤600)∧ts.length≤60:=by
 unfold xW at h;simp only[jM,List.any_eq_false,decide_eq_true_eq,decide_eq_false_iff_not]at h;exact⟨fun x hx=>by have:=h.1 x hx;omega,by omega⟩
def Pw (ts:List Tg):Prop:=ts.Pairwise (fun a b=>a.1<b.1)
theorem aDV (t:Int):∀{ts:List Tg},Pw ts→∃A M C,ts=A++M++C∧(∀a∈A,a.1<t)∧(∀c∈C,t<c.1)∧(M= []∨∃y,M= [y]∧y.1=t)
 | [],_=>⟨[], [], [],rfl,by simp,by simp,.inl rfl⟩
 |x::r,h=>by
  obtain⟨h1,h2⟩:=eP.1 h;rcases Int.lt_trichotomy x.1 t with hx|hx|hx
  ·obtain⟨A,M,C,rfl,hA,hC,hM⟩:=aDV t h2;exact⟨x::A,M,C,by simp,by intro a ha;rcases cK.1 ha with rfl|ha;exact hx;exact hA a ha,hC,hM⟩
  ·exact⟨[], [x],r,rfl,by simp,fun c hc=>by have:=h1 c hc;omega,.inr ⟨x,rfl,hx⟩⟩
  ·exact⟨[], [],x::r,rfl,by simp,fun c hc=>by rcases cK.1 hc with rfl|hc;exact hx;have:=h1 c hc;omega,.inl rfl⟩
section
variable {A M C:List Tg} {t:Int} (hA:∀a∈A,a.1<t) (hC:∀c∈C,t<c.1) (hM:M= []∨∃y,M= [y]∧y.1=t)
include hA hC hM
omit hA hC in
theorem b71:∀y∈M,y.1=t:=fun y hy=>by
 rcases hM with rfl|⟨z,rfl,hz⟩
 ·cases hy
 ·obtain rfl:y=z:=by simpa using hy
  exact hz
theorem aMK {x:Tg} (hx:x.1=t):EW (A++M++C) x=A++x::C:=by
 unfold EW;rw[hx];have e1:(A++M++C).takeWhile (fun y=>decide (y.1<t))=A:=by
  rw[dJ,List.takeWhile_append_of_pos (fun y hy=>by simpa using hA y hy)];have:(M++C).takeWhile (fun y=>decide (y.1<t))= []:=by
   rcases hM with rfl|⟨y,rfl,hy⟩
   ·cases C with
    |nil=>rfl
    |cons c r=>rw[fG,List.takeWhile_cons_of_neg (by have:=hC c bQ;simp;omega)]
   ·rw[List.singleton_append,List.takeWhile_cons_of_neg (by simp;omega)]
  rw[this,dU]
 have e2:(A++M++C).filter (fun y=>decide (t<y.1))=C:=by
  rw[eT,eT,WN (l:=A) (fun y hy=>by have:=hA y hy;simp;omega),WN (l:=M) (fun y hy=>by have:=b71 hM y hy;simp;omega),GL (fun y hy=>by simpa using hC y hy)];rfl
 rw[e1,e2]
theorem aDW:vD (A++M++C) t=A++C:=by
 unfold vD;rw[eT,eT,GL (l:=A) (fun y hy=>by have:=hA y hy;simp;omega),WN (l:=M) (fun y hy=>by have:=b71 hM y hy;simp;omega),GL (fun y hy=>by have:=hC y hy;simp;omega)];rw[dU]
omit hM in
theorem bC0 {x:Tg} (hx:x.1=t) (h:Pw (A++M++C)):Pw (A++x::C):=by
 unfold Pw at h ⊢;rw[fU,fU]at h;rw[fU];refine⟨h.1.1,eP.2 ⟨fun c hc=>by have:=hC c hc;omega,h.2.1⟩,fun a ha b hb=>?_⟩;rcases cK.1 hb with rfl|hb
 ·have:=hA a ha;omega
 ·have:=hA a ha;have:=hC b hb;omega
end
theorem a3P {L:List Tg} (h:Pw L) {y:Tg} (hy:y∈L):pI L y.1=(true,y.2):=by
 obtain⟨s,r,rfl⟩:=List.append_of_mem hy;refine ZO (fun z hz=>?_) rfl;have:=(fU.1 h).2.2 z hz y bQ;omega
theorem mem_set {ts:List Tg} {x y:Tg} (h:y∈EW ts x):y=x∨y∈ts:=by
 unfold EW at h;rcases bO.1 h with h|h
 ·exact .inr ((List.takeWhile_sublist _).mem h)
 ·rcases cK.1 h with h|h
  ·exact .inl h
  ·exact .inr (iK.1 h).1
theorem aML {ts:List Tg} {x:Tg}:x∈EW ts x:=by unfold EW;simp
structure bJK (ts:List Tg) (x:Tg) (b:Bool) (v:Int×Int×List Int):Prop where
 pw:Pw (EW ts x)
 pwd:Pw (vD (EW ts x) x.1)
 pwl:Pw (vD ts x.1)
 found:pI (EW ts x) x.1=(true,x.2)
 bJL:b=true→(EW ts x).length=ts.length
 bJM:b=false→(EW ts x).length=ts.length+1
 each:∀y∈ts,∃q,pI (EW ts x) y.1=(true,q)∧(y.1≠x.1→q=y.2)
 gone:pI (vD (EW ts x) x.1) x.1=(false,0,0, [])
 c47:(vD (EW ts x) x.1).length+1=(EW ts x).length
 same:vD (EW ts x) x.1=vD ts x.1
 c1U:b=true→EW (vD (EW ts x) x.1) (x.1,v)=ts
 bJN:b=false→vD (EW ts x) x.1=ts
theorem aAV {ts:List Tg} (h:Pw ts) (x:Tg) {b:Bool} {v:Int×Int×List Int} (hf:pI ts x.1=(b,v)):bJK ts x b v:=by
 obtain⟨A,M,C,rfl,hA,hC,hM⟩:=aDV x.1 h;have e1:=aMK hA hC hM (x:=x) rfl;have e2:vD (A++M++C) x.1=A++C:=aDW hA hC hM;have e3:vD (A++x::C) x.1=A++C:=by
  have:=aDW (M:= [x]) hA hC (.inr ⟨x,rfl,rfl⟩);rwa [dJ,List.singleton_append]at this
 have p1:Pw (A++x::C):=bC0 hA hC rfl h;have p2:Pw (A++C):=by rw[←e2];exact h.sublist List.filter_sublist
 have hb:(b=true∧∃y,M= [y]∧y.1=x.1∧v=y.2)∨(b=false∧M= []):=by
  rcases hM with rfl|⟨y,rfl,hy⟩
  ·right
   rw[RQ (fun y hy=>by rw[dU]at hy;rcases bO.1 hy with hy|hy;have:=hA y hy;omega;have:=hC y hy;omega)]at hf;simp only[iF]at hf;exact⟨hf.1.symm,rfl⟩
  ·left
   rw[dJ,List.singleton_append,ZO (fun y hy=>by have:=hA y hy;omega) hy]at hf;simp only[iF]at hf;exact⟨hf.1.symm,y,rfl,hy,hf.2.symm⟩
 refine⟨?_,?_,?_,?_,?_,?_,?_,?_,?_,?_,?_,?_⟩
 ·rw[e1];exact p1
 ·rw[e1,e3];exact p2
 ·rw[e2];exact p2
 ·exact a3P (by rw[e1];exact p1) aML
 ·intro ht;rcases hb with ⟨_,y,rfl,_⟩|⟨h0,_⟩
  ·rw[e1];simp <;> omega
  ·rw[ht]at h0;cases h0
 ·intro ht;rcases hb with ⟨h0,_⟩|⟨_,rfl⟩
  ·rw[ht]at h0;cases h0
  ·rw[e1];simp <;> omega
 ·intro y hy;rw[e1];by_cases hyx:y.1=x.1
  ·rw[hyx];exact⟨x.2,a3P p1 (by simp),fun hn=>absurd rfl hn⟩
  ·refine⟨y.2,a3P p1 ?_,fun _=>rfl⟩;rcases bO.1 hy with hy|hy
   ·rcases bO.1 hy with hy|hy
    ·exact List.mem_append_left _ hy
    ·rcases hM with rfl|⟨z,rfl,hz⟩
     ·cases hy
     ·obtain rfl:y=z:=by simpa using hy
      exact absurd hz hyx
   ·exact List.mem_append_right _ (bL _ hy)
 ·rw[e1,e3];exact RQ fun y hy=>by
   rcases bO.1 hy with hy|hy
   ·have:=hA y hy;omega
   ·have:=hC y hy;omega
 ·rw[e1,e3];simp <;> omega
 ·rw[e1,e3,e2]
 ·intro ht;rcases hb with ⟨_,y,rfl,hy,rfl⟩|⟨h0,_⟩
  ·rw[e1,e3];have:=aMK (M:= []) (x:=(x.1,y.2)) hA hC (.inl rfl) rfl;rw[dU]at this;rw[this,←hy];simp
  ·rw[ht]at h0;cases h0
 ·intro ht;rcases hb with ⟨h0,_⟩|⟨_,rfl⟩
  ·rw[ht]at h0;cases h0
  ·rw[e1,e3];simp
end Go.Proofs.YtceclmpmpldmlaaGreat
namespace Tt
open Go Go.RowKit
section
variable {P:Program} {ops:Array Oper} {Q:Exit→Act→World→Prop} {t:Nat} {C:World→Prop}
def rO (P:Program) (ops:Array Oper) (Q:Exit→Act→World→Prop) (t:Nat) (C:World→Prop):Nat→Array Bool→Act→World→Prop
 |0,listed,a,w=>Region.ready .any ops listed= []∧Q .normal a w
 |fuel+1,listed,a,w=>
  (Region.ready .any ops listed= []→Q .normal a w)∧
  ∀i∈Region.ready .any ops listed,wpOp P ops Q i (fun a' w'=>((listed.setIfInBounds i true).getD t true=false→C w')∧rO P ops Q t C fuel (listed.setIfInBounds i true) a' w') a w
theorem a3Q:∀(fuel:Nat) (listed:Array Bool) (a:Act) (w:World),rO P ops Q t C fuel listed a w→wpAny P .any ops Q fuel listed a w
 |0,_,_,_,h=>h
 |fuel+1,_,_,_,h=>⟨h.1,fun i hi=>wpOp_mono (fun a' w' h'=>a3Q fuel _ a' w' h'.2) (h.2 i hi)⟩
def aAW (ops:Array Oper) (t i:Nat):Bool:=match ops[t]? with
 |some o=>o.after.any fun e=>Region.binds .any e&&e.on==i
 |none=>false
theorem UN {i:Nat} {listed:Array Bool} (hw:aAW ops t i=true) (hr:i∈Region.ready .any ops listed):t ∉ Region.ready .any ops listed:=fun ht=>by
 obtain⟨hun,ot,hot,lY⟩:=mem_ready.1 ht;unfold aAW at hw;rw[hot]at hw;simp only[Array.any_eq_true,bK,beq_iff_eq]at hw;obtain⟨k,hk,hb,he⟩:=hw;have h1:=lY ot.after[k] (Array.getElem_mem hk) hb;have h0:=(mem_ready.1 hr).1;rw[he]at h1;rcases eB i listed.size with h'|h'
 ·simp[h']at h0 h1;rw[h0]at h1;cases h1
 ·simp[iQ h']at h1
theorem aAX {i:Nat} {oi:Oper} {v:Value} (hi:ops[i]? =some oi) (hsel:∀(j:Nat) (o:Oper) cs b,ops[j]? =some o→o.op≠ .select cs b)
  (hQ:∀c a w,Q (.panic c) (a.put oi.dst v) w→Q (.panic c) a w) (hwt:aAW ops t i=true):
  ∀(fuel:Nat) (listed:Array Bool) (a:Act) (w:World),
   (∀j oj,ops[j]? =some oj→j≠i→listed.getD j true=false→(∀e∈oj.after,Region.binds .any e=true→e.on≠i)→oi.apart ops oj=true)→
   i∈Region.ready .any ops listed→listed.getD t true=false→t≠i→YieldsIf P ops C oi v a→C w→
   rO P ops Q t C fuel (listed.setIfInBounds i true) (a.put oi.dst v) w→rO P ops Q t C (fuel+1) listed a w:=by
 intro fuel;induction fuel with
 |zero=>
  intro listed a w _ hr ht hti hy hS H;refine⟨fun h=>(by rw[h]at hr;cases hr),fun j hj=>?_⟩;by_cases IB:j=i
  ·subst IB;exact hy.wpOp hi hS ⟨fun _=>hS,H⟩
  ·have:=ready_mono hj IB;rw[H.1]at this;cases this
 |succ fuel ih=>
  intro listed a w a1O hr ht hti hy hS H;refine⟨fun h=>(by rw[h]at hr;cases hr),fun j hj=>?_⟩;by_cases IB:j=i
  ·subst IB;exact hy.wpOp hi hS ⟨fun _=>hS,H⟩
  ·have hjt:j≠t:=by rintro rfl;exact UN hwt hr hj
   have h1:=H.2 j (ready_mono hj IB);obtain⟨b1Z,oj,hoj,lY⟩:=mem_ready.1 hj;have bIF:∀e∈oj.after,Region.binds .any e=true→e.on≠i:=fun e he hb heq=>by
    have h1:=lY e he hb;have h0:=(mem_ready.1 hr).1;rw[heq]at h1;rcases eB i listed.size with h'|h'
    ·simp[h']at h0 h1;rw[h0]at h1;cases h1
    ·simp[iQ h']at h1
   have h2:=wpOp_putIf hoj (a1O j oj hoj IB b1Z bIF) (fun cs b=>hsel i oi cs b hi) (fun cs b=>hsel j oj cs b hoj) hQ hy h1;have aM9:∀k ok,ops[k]? =some ok→k≠i→(listed.setIfInBounds j true).getD k true=false→
     (∀e∈ok.after,Region.binds .any e=true→e.on≠i)→oi.apart ops ok=true:=fun k ok hk rF hun sJ=>by
    refine a1O k ok hk rF ?_ sJ;by_cases hjk:j=k
    ·subst hjk;exact b1Z
    ·rw[getD_set_ne true hjk]at hun;exact hun
   have ht2:(listed.setIfInBounds j true).getD t true=false:=by rw[getD_set_ne true hjt];exact ht
   have ht3:((listed.setIfInBounds i true).setIfInBounds j true).getD t true=false:=by rw[getD_set_ne true hjt,getD_set_ne true (Ne.symm hti)];exact ht
   refine wpOp_mono (fun a' w' h3=>⟨fun _=>h3.2.1 ht3,ih (listed.setIfInBounds j true) a' w' aM9 (ready_mono hr (Ne.symm IB)) ht2 hti h3.1 (h3.2.1 ht3) ?_⟩) h2;rw[Array.setIfInBounds_comm _ _ IB];exact h3.2.2
theorem aDX {i:Nat} {oi:Oper} {v:Value} (hi:ops[i]? =some oi) (hsel:∀(j:Nat) (o:Oper) cs b,ops[j]? =some o→o.op≠ .select cs b)
  (hQ:∀c a w,Q (.panic c) (a.put oi.dst v) w→Q (.panic c) a w) (hti:t≠i):
  ∀(fuel:Nat) (listed:Array Bool) (a:Act) (w:World),
   (∀j oj,ops[j]? =some oj→j≠i→listed.getD j true=false→(∀e∈oj.after,Region.binds .any e=true→e.on≠i)→oi.apart ops oj=true)→
   i∈Region.ready .any ops listed→YieldsIf P ops (fun _=>True) oi v a→(listed.getD t true=false→C w)→
   rO P ops Q t C fuel (listed.setIfInBounds i true) (a.put oi.dst v) w→rO P ops Q t C (fuel+1) listed a w:=by
 intro fuel;induction fuel with
 |zero=>
  intro listed a w _ hr hy hS H;refine⟨fun h=>(by rw[h]at hr;cases hr),fun j hj=>?_⟩;by_cases IB:j=i
  ·subst IB;exact hy.wpOp hi trivial ⟨fun h=>hS (by rwa [getD_set_ne true (Ne.symm hti)]at h),H⟩
  ·have:=ready_mono hj IB;rw[H.1]at this;cases this
 |succ fuel ih=>
  intro listed a w a1O hr hy hS H;refine⟨fun h=>(by rw[h]at hr;cases hr),fun j hj=>?_⟩;by_cases IB:j=i
  ·subst IB;exact hy.wpOp hi trivial ⟨fun h=>hS (by rwa [getD_set_ne true (Ne.symm hti)]at h),H⟩
  ·have h1:=H.2 j (ready_mono hj IB);obtain⟨b1Z,oj,hoj,lY⟩:=mem_ready.1 hj;have bIF:∀e∈oj.after,Region.binds .any e=true→e.on≠i:=fun e he hb heq=>by
    have h1:=lY e he hb;have h0:=(mem_ready.1 hr).1;rw[heq]at h1;rcases eB i listed.size with h'|h'
    ·simp[h']at h0 h1;rw[h0]at h1;cases h1
    ·simp[iQ h']at h1
   have h2:=wpOp_putIf hoj (a1O j oj hoj IB b1Z bIF) (fun cs b=>hsel i oi cs b hi) (fun cs b=>hsel j oj cs b hoj) hQ hy h1;have aM9:∀k ok,ops[k]? =some ok→k≠i→(listed.setIfInBounds j true).getD k true=false→
     (∀e∈ok.after,Region.binds .any e=true→e.on≠i)→oi.apart ops ok=true:=fun k ok hk rF hun sJ=>by
    refine a1O k ok hk rF ?_ sJ;by_cases hjk:j=k
    ·subst hjk;exact b1Z
    ·rw[getD_set_ne true hjk]at hun;exact hun
   have hsw:∀(w':World),(((listed.setIfInBounds i true).setIfInBounds j true).getD t true=false→C w')→((listed.setIfInBounds j true).getD t true=false→C w'):=fun w' h h'=>h (by
    rw[Array.setIfInBounds_comm _ _ (Ne.symm IB),getD_set_ne true (Ne.symm hti)];exact h')
   refine wpOp_mono (fun a' w' h3=>⟨hsw w' h3.2.1,ih (listed.setIfInBounds j true) a' w' aM9 (ready_mono hr (Ne.symm IB)) h3.1 (hsw w' h3.2.1) ?_⟩) h2;rw[Array.setIfInBounds_comm _ _ IB];exact h3.2.2
def b2Q (ops:Array Oper) (t:Nat):List Nat→Array Bool→Bool
 | [],_=>true
 |i::r,listed=>(Region.ready .any ops listed).contains i&&Region.free .any ops listed i&&aAW ops t i&&(t != i)&&(listed.getD t true==false)&&b2Q ops t r (listed.setIfInBounds i true)
def b2R (ops:Array Oper) (t:Nat):List Nat→Array Bool→Bool
 | [],_=>true
 |i::r,listed=>(Region.ready .any ops listed).contains i&&Region.free .any ops listed i&&(t != i)&&b2R ops t r (listed.setIfInBounds i true)
theorem aT0 (hs:Region.noSelect ops=true) (hQ:∀d v c a w,Q (.panic c) (a.put d v) w→Q (.panic c) a w):
  ∀(idx:List Nat) (q:List Oper) (fuel:Nat) (listed:Array Bool) (a:Act) (w:World),idx.map (fun i=>ops[i]?)=q.map some→b2Q ops t idx listed=true→q.all BA=true→C w→
   wpQuiet P ops C (fun a'=>rO P ops Q t C fuel (TF idx listed) a' w) q a→rO P ops Q t C (fuel+idx.length) listed a w:=by
 intro idx;induction idx with
 |nil=>
  intro q fuel listed a w hm _ _ _ h;cases q with
  |nil=>exact h
  |cons o q=>simp at hm
 |cons i idx ih=>
  intro q fuel listed a w hm hB hp hS h;cases q with
  |nil=>simp at hm
  |cons o q=>
   simp only[aW,iU]at hm;simp only[b2Q,bK,bne_iff_ne,beq_iff_eq]at hB;obtain⟨⟨⟨⟨⟨b1,b2⟩,b3⟩,b4⟩,b5⟩,b6⟩:=hB;simp only[jQ,bK]at hp;unfold wpQuiet at h;have key:∀v,YieldsIf P ops C o v a→wpQuiet P ops C (fun a'=>rO P ops Q t C fuel (TF idx (listed.setIfInBounds i true)) a' w) q (a.put o.dst v)→rO P ops Q t C (fuel+(i::idx).length) listed a w:=fun v hy hr=>
    aAX hm.1 (Region.noSelect_spec hs) (fun c a w h=>hQ _ _ c a w h) b3 _ _ _ _ (Region.free_spec hm.1 b2) (by simpa using b1) b5 b4 hy hS (ih q fuel _ _ w hm.2 b6 hp.2 hS hr)
   by_cases hw:Region.wanted o (yielded ops a.tmps)=true
   ·rw[if_pos hw]at h;obtain⟨v,h1,h2⟩:=h;exact key v (BD hp.1 hS hw h1) h2
   ·rw[if_neg hw]at h;exact key undef (.inr ⟨by simpa using hw,rfl⟩) h
theorem aOZ (hs:Region.noSelect ops=true) (hQ:∀d v c a w,Q (.panic c) (a.put d v) w→Q (.panic c) a w):
  ∀(idx:List Nat) (q:List Oper) (fuel:Nat) (listed:Array Bool) (a:Act) (w:World),idx.map (fun i=>ops[i]?)=q.map some→b2R ops t idx listed=true→q.all BA=true→C w→
   wpQuiet P ops (fun _=>True) (fun a'=>rO P ops Q t C fuel (TF idx listed) a' w) q a→rO P ops Q t C (fuel+idx.length) listed a w:=by
 intro idx;induction idx with
 |nil=>
  intro q fuel listed a w hm _ _ _ h;cases q with
  |nil=>exact h
  |cons o q=>simp at hm
 |cons i idx ih=>
  intro q fuel listed a w hm hB hp hS h;cases q with
  |nil=>simp at hm
  |cons o q=>
   simp only[aW,iU]at hm;simp only[b2R,bK,bne_iff_ne]at hB;obtain⟨⟨⟨b1,b2⟩,b4⟩,b6⟩:=hB;simp only[jQ,bK]at hp;unfold wpQuiet at h;have key:∀v,YieldsIf P ops (fun _=>True) o v a→wpQuiet P ops (fun _=>True) (fun a'=>rO P ops Q t C fuel (TF idx (listed.setIfInBounds i true)) a' w) q (a.put o.dst v)→rO P ops Q t C (fuel+(i::idx).length) listed a w:=fun v hy hr=>
    aDX hm.1 (Region.noSelect_spec hs) (fun c a w h=>hQ _ _ c a w h) b4 _ _ _ _ (Region.free_spec hm.1 b2) (by simpa using b1) hy (fun _=>hS) (ih q fuel _ _ w hm.2 b6 hp.2 hS hr)
   by_cases hw:Region.wanted o (yielded ops a.tmps)=true
   ·rw[if_pos hw]at h;obtain⟨v,h1,h2⟩:=h;exact key v (BD (w0:=w) hp.1 trivial hw h1) h2
   ·rw[if_neg hw]at h;exact key undef (.inr ⟨by simpa using hw,rfl⟩) h
theorem pR {l:List Oper} {listed:Array Bool} {a:Act} {w:World} (idx:List Nat) (fuel:Nat) (hs:Region.noSelect l.toArray=true) (hQ:∀d v c a w,Q (.panic c) (a.put d v) w→Q (.panic c) a w)
  (hb:idx.all (·<l.length)=true) (hB:b2Q l.toArray t idx listed=true) (hp:(jW l idx).all BA=true) (hS:C w)
  (h:wpQuiet P l.toArray C (fun a'=>rO P l.toArray Q t C fuel (TF idx listed) a' w) (jW l idx) a):rO P l.toArray Q t C (fuel+idx.length) listed a w:=
 aT0 hs hQ idx _ fuel listed a w (RN idx hb) hB hp hS h
theorem DX {l:List Oper} {listed:Array Bool} {a:Act} {w:World} (idx:List Nat) (fuel:Nat) (hs:Region.noSelect l.toArray=true) (hQ:∀d v c a w,Q (.panic c) (a.put d v) w→Q (.panic c) a w)
  (hb:idx.all (·<l.length)=true) (hB:b2R l.toArray t idx listed=true) (hp:(jW l idx).all BA=true) (hS:C w)
  (h:wpQuiet P l.toArray (fun _=>True) (fun a'=>rO P l.toArray Q t C fuel (TF idx listed) a' w) (jW l idx) a):rO P l.toArray Q t C (fuel+idx.length) listed a w:=
 aOZ hs hQ idx _ fuel listed a w (RN idx hb) hB hp hS h
theorem aP0 {i fuel:Nat} {o:Oper} {listed:Array Bool} {a:Act} {w:World} (hr:Region.ready .any ops listed= [i]) (ho:ops[i]? =some o)
  (h:wpList P ops (Mid (fun a' w'=>((listed.setIfInBounds i true).getD t true=false→C w')∧rO P ops Q t C fuel (listed.setIfInBounds i true) a' w') Q) [o] a w):rO P ops Q t C (fuel+1) listed a w:=by
 refine⟨fun h0=>(by rw[hr]at h0;cases h0),fun j hj=>?_⟩;rw[hr]at hj;obtain rfl:j=i:=by simpa using hj
 unfold wpOp;simp only[ho];unfold wpList at h;split
 ·rename_i hw;rw[if_pos hw]at h;rcases h with h|⟨h1,a2,w2,h2⟩
  ·exact .inl (WI h)
  ·exact .inr ⟨h1,a2,w2,h2⟩
 ·rename_i hw;rw[if_neg hw]at h;exact h
theorem mJ {l:List Oper} {listed:Array Bool} {a:Act} {w:World} (i fuel:Nat) (hb:decide (i<l.length)=true) (hr:Region.ready .any l.toArray listed= [i])
  (h:wpList P l.toArray (Mid (fun a' w'=>((listed.setIfInBounds i true).getD t true=false→C w')∧rO P l.toArray Q t C fuel (listed.setIfInBounds i true) a' w') Q) (jW l [i]) a w):rO P l.toArray Q t C (fuel+1) listed a w:=by
 have hi:i<l.length:=of_decide_eq_true hb;exact aP0 (o:=l.getD i aDC) hr (by rw[aZ,bH hi];simp[hi]) h
theorem zY {l:List Oper} {listed:Array Bool} {a:Act} {w:World} (hr:Region.ready .any l.toArray listed= []) (h:Q .normal a w):rO P l.toArray Q t C 0 listed a w:=⟨hr,h⟩
theorem xX {id:Nat} {a:Act} {w:World} {l:List Oper} (hm:P.follows .mixedOrders=true) (n:Nat) (hn:l.length=n)
  (h:rO P l.toArray Q t C n (Array.replicate n false) a w.drew):(Code.region id l.toArray true).wp P Q a w:=by
 refine wp_region_any hm (a3Q (t:=t) (C:=C) _ _ _ _ ?_);have e:l.toArray.size=n:=by simpa using hn
 rw[e];exact h
def noP (Q:Exit→Act→World→Prop):Exit→Act→World→Prop
 | .panic _,_,_=>False
 |e,a,w=>Q e a w
theorem a3R {c:Code} {a:Act} {w:World} (h:c.wp P (noP Q) a w):c.wp P Q a w:=wp_mono h (fun e a w h=>by cases e <;> first|exact h|exact h.elim)
theorem II {a:Act} {w:World} (h:Q .normal a w):noP Q .normal a w:=h
theorem xO:∀(d:Option Tmp) (v:Value) (c:List PanicEntry) (a:Act) (w:World),noP Q (.panic c) (a.put d v) w→noP Q (.panic c) a w:=fun _ _ _ _ _ h=>h
end
end Tt
namespace Go.Proofs.YtceclmpmpldmlaaGreat
open Go.RowKit Tt
theorem aIV (w:World) (g:Nat) (T:TypeId) (cs:Array Value) (h:kG w g T cs):∃(S:Type) (f:S→World),Nonempty S∧(∀s,kG (f s) g T cs)∧∀W,kG W g T cs→∃s,W=f s:=
 ⟨{W:World // kG W g T cs},Subtype.val,⟨⟨w,h⟩⟩,fun s=>s.2,fun W h=>⟨⟨W,h⟩,rfl⟩⟩
def aT1 (o n i:Nat) (l:List Int) (cs cs':Array Value):Prop:=
 cs'.size=cs.size∧(∀k,k<n→cs'[o+k]? =some (.int .u8 (if k<i∨n≤k+i then l.getD (n - 1 - k) 0 else l.getD k 0)))∧∀k,(k<o∨o+n≤k)→cs'[k]? =cs[k]?
theorem aDY (g o n c:Nat) (cs:Array Value) (l:List Int) (T:TypeId) (w:World) (hb:kG w g T cs) (hl:l.length=n) (hn:n≤1000000) (hc:∀k,k<n→cs[o+k]? =some (.int .u8 (l.getD k 0))):
  Calls Tryz.prog 149 #[.slice (some ⟨g,o,none⟩) n c] w fun e w'=>e= .returned (.tuple #[])∧∃cs':Array Value,kG w' g T cs'∧cs'.size=cs.size∧(∀k,k<n→cs'[o+k]? =some (.int .u8 (l.getD (n - 1 - k) 0)))∧(∀k,(k<o∨o+n≤k)→cs'[k]? =cs[k]?)∧But g w w':=by
 have hw0:IntKind.i64.wrap ((n:Int) - 1)=n - 1:=by rw[bJ];omega
 obtain⟨pW,FX,KU⟩:=aK hb hl hc;clear hb hl hc;go_enter Tryz.func149,Tryz.ntmps149;go_wp2;go_loopw [2,3] (fun iv jv wr=>∃(i:Nat) (cs':Array Value),2*i≤n+1∧iv= .int .i64 i∧jv= .int .i64 ((n:Int) - 1 - i)∧Hid (kG wr g T cs')∧Hid (aT1 o n i l cs cs')∧Hid (But g w wr)) (fun iv _ _=>n - (intOf iv).toNat)
 case atStart=>
  refine⟨0,cs,by omega,rfl,by simp,pW,aA ⟨rfl,fun k hk=>?_,fun _ _=>rfl⟩,aA (But.refl _ _)⟩;rw[KU.o k hk,if_neg aG]
 case round=>
  obtain⟨i,cs',CY,rfl,rfl,hbk,htu,xY⟩:=hrel;by_cases hij:2*i+1<n
  ·obtain⟨j,hj⟩:∃j:Nat,j=n - 1 - i:=⟨_,rfl⟩;have IB:((n:Int) - 1 - i)=(j:Int):=by omega
   rw[IB];have kY:(i:Int)<(j:Int):=by omega
   have z8:i<n:=by omega
   have hjn:j<n:=by omega
   have hww:IntKind.i64.wrap ((i:Int)+1)=i+1:=by rw[bJ];omega
   have c48:IntKind.i64.wrap ((j:Int) - 1)=j - 1:=by rw[bJ];omega
   have ci:=htu.o.2.1 i z8;have cj:=htu.o.2.1 j hjn;rw[if_neg aG]at ci cj;obtain⟨x,hx⟩:=aC (l.getD i 0);obtain⟨y,hy⟩:=aC (l.getD j 0);rw[hx]at ci;rw[hy]at cj;obtain⟨Ty,f,pQ,hfb,kE⟩:=aIV wr g T cs' hbk.o;have q0:∀s,(f s).cell? ⟨g,o+i,none⟩=some (.int .u8 x):=fun s=>(hfb s).cell ci;have q1:∀s,(f s).cell? ⟨g,o+j,none⟩=some (.int .u8 y):=fun s=>(hfb s).cell cj;have HS:=aA (kE wr.drew hbk.o);have p0:wr.drew.cell? ⟨g,o+i,none⟩=some (.int .u8 x):=kG.cell (w:=wr.drew) hbk.o ci;have y0:wr.drew.frozen? ⟨g,o+i,none⟩=false:=kG.frozen (w:=wr.drew) hbk.o (o+i);have kP:kG (wr.drew.setCell ⟨g,o+i,none⟩ (.int .u8 y)) g T (cs'.setIfInBounds (o+i) (.int .u8 y)):=kG.set (w:=wr.drew) hbk.o (o+i) _;have p1:(wr.drew.setCell ⟨g,o+i,none⟩ (.int .u8 y)).cell? ⟨g,o+j,none⟩=some (.int .u8 y):=kP.cell (by rw[dZ aG];exact cj);have y1:(wr.drew.setCell ⟨g,o+i,none⟩ (.int .u8 y)).frozen? ⟨g,o+j,none⟩=false:=kP.frozen (o+j);have kT:kG (wr.setCell ⟨g,o+i,none⟩ (.int .u8 y)) g T (cs'.setIfInBounds (o+i) (.int .u8 y)):=kG.set (w:=wr) hbk.o (o+i) _;have z0:wr.cell? ⟨g,o+j,none⟩=some (.int .u8 y):=kG.cell (w:=wr) hbk.o cj;have z1:wr.frozen? ⟨g,o+j,none⟩=false:=kG.frozen (w:=wr) hbk.o (o+j);have z2:(wr.setCell ⟨g,o+i,none⟩ (.int .u8 y)).cell? ⟨g,o+j,none⟩=some (.int .u8 y):=kT.cell (by rw[dZ aG];exact cj);have z3:(wr.setCell ⟨g,o+i,none⟩ (.int .u8 y)).frozen? ⟨g,o+j,none⟩=false:=kT.frozen (o+j);clear kT;have c4A:¬(i=j):=by omega
   have c4B:¬(j=i):=by omega
   obtain⟨c4C,jV,pG,ci',cj',TV,hy',hj',bUD⟩:=aQ hfb kE kP ci cj hx hy hj IB;clear hfb kE kP ci cj hx hy hj IB;go_wp2_with fail
   refine xX (t:=13) (C:=fun W=>∃s,W=f s) aF 16 rfl ?_;refine DX [0,1,2,3,4,5,6,8,9,10] 6 aF aI aF aF aF HS.o ?_;simp only[jW,aW,aX,aU,aV];iterate 10 (go_big_quiet_step (fail))
   refine wpQuiet_nil ?_;refine pR [7,11] 4 aF aI aF aF aF HS.o ?_;simp only[jW,aW,aX,aU,aV];iterate 2 (go_big_quiet_step (fail))
   refine wpQuiet_nil ?_;refine DX [12] 3 aF aI aF aF aF HS.o ?_;simp only[jW,aW,aX,aU,aV];iterate 1 (go_big_quiet_step (fail))
   refine wpQuiet_nil ?_;clear q0 q1;refine mJ 13 2 aF aF ?_;simp only[jW,aW,aX,aU,aV];go_wp2_with fail
   first|refine Mid.mk ⟨fun h=>(by simp[TF]at h),?_⟩|refine Mid.mk ?_
   refine mJ 14 1 aF aF ?_;simp only[jW,aW,aX,aU,aV];go_wp2_with fail
   first|refine Mid.mk ⟨fun h=>(by simp[TF]at h),?_⟩|refine Mid.mk ?_
   refine mJ 15 0 aF aF ?_;simp only[jW,aW,aX,aU,aV];go_wp2_with fail
   first|refine Mid.mk ⟨fun h=>(by simp[TF]at h),?_⟩|refine Mid.mk ?_
   refine zY aF ?_;clear p0 p1 y0 y1 z0 z1 z2 z3;go_wp2_with fail
   go_roundw
   case rel=>
    refine⟨i+1,_,by omega,by go_num,by have:=bUD.o;show Value.int .i64 _=_;congr 1;omega,aA (pG.o.set (o+j) (.int .u8 x)),aA ⟨by simp[htu.o.1],fun k hk=>?_,fun k hk=>?_⟩,aA (((xY.o.trans (But.of_below ((bF wr.heap.size wr).drew))).set _ _).set _ _)⟩
    ·have hjj:=hj'.o;have tC:o+k<cs'.size:=by have:=htu.o.2.1 k hk;exact(dA.1 this).1
     by_cases rF:k=i
     ·subst rF;rw[dZ aG,Array.getElem?_setIfInBounds_self_of_lt tC,if_pos aG,←hy'.o,hjj]
     ·by_cases hkj:k=j
      ·subst hkj;rw[Array.getElem?_setIfInBounds_self_of_lt (by simpa using tC),if_pos aG,←TV.o,show n - 1 - k=i by omega]
      ·rw[dZ aG,dZ aG,htu.o.2.1 k hk];by_cases h1:k<i∨n≤k+i
       ·rw[if_pos h1,if_pos aG]
       ·rw[if_neg h1,if_neg aG]
    ·rw[dZ aG,dZ aG];exact htu.o.2.2 k hk
   case measure=>simp[intOf];omega
  ·have hd:decide ((i:Int)<(n:Int) - 1 - i)=false:=by simp;omega
   go_wp2_with fail
   refine bodyPost_end (results_none rfl _ _ _) rfl ?_;refine⟨rfl,cs',hbk.o,htu.o.1,fun k hk=>?_,htu.o.2.2,xY.o⟩;rw[htu.o.2.1 k hk];by_cases h1:k<i∨n≤k+i
   ·rw[if_pos h1]
   ·rw[if_neg h1,show n - 1 - k=k by omega]
def fst {α:Type} (p:α→Bool) (l:List α):Int:=match l.findIdx? p with|some i=>i|none=> -1
theorem P9 {α:Type} {p:α→Bool} {l:List α} {k:Nat} (hk:k<l.length) (h:p l[k]=true) (hn:∀i (hi:i<k),p (l[i]'aG)=false):fst p l=k:=by
 unfold fst;rw[gY.2 ⟨hk,h,fun j hj=>by rw[hn j hj];simp⟩]
theorem UO {α:Type} {p:α→Bool} {l:List α} (hn:∀i (hi:i<l.length),p l[i]=false):fst p l= -1:=by
 unfold fst;rw[List.findIdx?_eq_none_iff.2 (fun x hx=>by obtain⟨i,hi,rfl⟩:=fP hx;exact hn i hi)]
theorem EL {α:Type} {p:α→Bool} {l:List α}:decide (0≤fst p l)=l.any p:=by
 unfold fst;cases h:l.findIdx? p with
 |none=>
  rw[List.findIdx?_eq_none_iff]at h;simp only[show decide ((0:Int)≤ -1)=false from rfl];exact(List.any_eq_false.2 (fun x hx=>by rw[h x hx];simp)).symm
 |some i=>
  obtain⟨hi,hp,_⟩:=gY.1 h;have h1:decide ((0:Int)≤(i:Int))=true:=by simp
  simp only[h1];exact(jP.2 ⟨_,bP hi,hp⟩).symm
theorem kF {α:Type} {l:List α} {k:Nat} (hk:k<l.length) (d:α):l.getD k d=l[k]:=by rw[aZ,bH hk];rfl
theorem aT2 (MJ:Nat) (hf:MJ=110) (cap:Value) (a:Option Addr) (n c:Nat) (ls:List Int) (p:Int→Bool) (w:World) (hs:Sl w a n c 1 (ints .i64 ls))
  (hc:∀W (x:Int),Below w.heap.size w W→Calls Tryz.prog MJ #[.int .i64 x,cap] W fun e W'=>e= .returned (.bool (p x))∧Below W.heap.size W W'):
  Calls Tryz.prog 163 #[.slice a n c,.func (.func MJ) #[] #[cap]] w fun e w'=>e= .returned (.int .i64 (fst p ls))∧Below w.heap.size w w':=by
 have hl:=hs.p9;have hm:=hs.max;have FI:=hs.le;obtain⟨sK,KU,FX⟩:=aK hs hc hl;clear hs hc hl;rcases hf with rfl
 all_goals
  go_enter Tryz.func163,Tryz.ntmps163;go_wp2;go_loopw [8] (fun iv wr=>∃k:Nat,k≤n∧iv= .int .i64 k∧Hid (∀i (hi:i<ls.length),i<k→p ls[i]=false)∧Hid (Below w.heap.size w wr)) (fun iv _=>n - (intOf iv).toNat)
  case atStart=>exact⟨0,by omega,rfl,aA (fun j _ hj=>by omega),aA (bF _ _)⟩
  case round=>
   obtain⟨k,hk,rfl,lY,hb⟩:=hrel;by_cases kY:k<n
   ·have hww:IntKind.i64.wrap ((k:Int)+1)=k+1:=by rw[bJ];omega
    have xK:k<ls.length:=by rw[FX.o];exact kY
    obtain⟨b,o,rfl,EI,f⟩:=(sK.o.mono hb.o).at kY;have f0:=f k _ (qN xK);rw[kF xK]at f0;clear f;obtain⟨r,hr⟩:=aC (p (ls[k]'xK));have HC:=KU.o wr (ls[k]'xK) hb.o;rw[hr]at HC;generalize (ls[k]'xK)=x1 at f0 HC;obtain⟨WO,sH⟩:=aJ HC hr;clear HC hr;go_wp2_with fail
    refine WO.o.mono ?_;rintro e w2 ⟨rfl,kP⟩;have lK:=hb.o.tm kP;clear kP;cases r with
    |true=>
     have kX:=aA lK;clear lK;go_wp2;go_ret;exact⟨by rw[P9 xK sH.o (fun i hi=>lY.o i aG hi)];rfl,kX.o⟩
    |false=>
     have oQ:∀i (hi:i<ls.length),i<k+1→p ls[i]=false:=fun i hi h=>by
      rcases eB i k with h1|h1
      ·exact lY.o i hi h1
      ·obtain rfl:i=k:=by omega
       exact sH.o
     obtain⟨kX,nG⟩:=aJ lK oQ;clear lK oQ;go_wp2;go_roundw
     case rel=>exact⟨k+1,by omega,by go_num,nG,kX⟩
     case measure=>simp[intOf];omega
   ·obtain rfl:k=n:=by omega
    go_wp2;go_ret;exact⟨by rw[UO (fun i hi=>lY.o i hi (by rw[FX.o]at hi;exact hi))];rfl,hb.o⟩
theorem aT3 (MJ:Nat) (hf:MJ=110) (cap:Value) (a:Option Addr) (n c:Nat) (ls:List Int) (p:Int→Bool) (w:World) (hs:Sl w a n c 1 (ints .i64 ls))
  (hc:∀W (x:Int),Below w.heap.size w W→Calls Tryz.prog MJ #[.int .i64 x,cap] W fun e W'=>e= .returned (.bool (p x))∧Below W.heap.size W W'):
  Calls Tryz.prog 109 #[.slice a n c,.func (.func MJ) #[] #[cap]] w fun e w'=>e= .returned (.bool (ls.any p))∧Below w.heap.size w w':=by
 have HX:=aT2 MJ hf cap a n c ls p w hs hc;obtain⟨r,hr⟩:=aC (fst p ls);have ha:=EL (p:=p) (l:=ls);rw[hr]at HX ha;obtain⟨q,hq⟩:=aC (ls.any p);rw[hq]at ha ⊢;clear hs hc;obtain⟨HX',sH,hq'⟩:=aK HX hr hq;clear HX hr hq;rcases hf with rfl
 all_goals
  go_enter Tryz.func109,Tryz.ntmps109;go_wp2_with fail
  refine HX'.o.mono ?_;rintro e w2 ⟨rfl,kP⟩;have pG:=aA kP;clear kP;go_wp2;go_ret;exact⟨rfl,pG.o⟩
