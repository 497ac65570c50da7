import Derived.Test.YtceclmpmpldmlaaGreatCw07
import Derived.Laws.Bits64
set_option linter.unusedSimpArgs false
set_option linter.unusedVariables false
set_option maxRecDepth 100000
set_option maxHeartbeats 8000000
namespace Go.Proofs.YtceclmpmpldmlaaGreat
open Go.RowKit Tt
def MK (size order:Int):Bool:=(size==1||size==2||size==4)&&(order==1||order==2)
theorem aP1 (n size:Int) (g:Nat) (w:World) (h:w.cell? ⟨g,0,none⟩=some (.int .i64 size)):
  Calls Tryz.prog 110 #[.int .i64 n,.pointer (some ⟨g,0,none⟩)] w fun e w'=>e= .returned (.bool (n==size))∧w=w':=by
 go_enter Tryz.func110,Tryz.ntmps110;go_wp2;go_ret;exact⟨rfl,rfl⟩
theorem KZ (size order:Int) (w:World):
  Calls Tryz.prog 49 #[.int .i64 size,.int .i64 order] w fun e w'=>e= .returned (.bool (MK size order))∧Below w.heap.size w w':=by
 obtain⟨W1,vS⟩:∃W1,W1=(w.alloc (.cells #[.int .i64 size] 3)).alloc (.cells #[.int .i64 1,.int .i64 2,.int .i64 4] 48):=⟨_,rfl⟩;have kV:Below w.heap.size w W1:=by rw[vS];exact((bF _ _).alloc (aY _) _).alloc (by simp) _
 have hc:W1.cell? ⟨w.heap.size,0,none⟩=some (.int .i64 size):=by
  rw[vS];unfold World.cell?;rw[wR _ _ (by simp),nS];rfl
 have qU:Sl W1 (some ⟨w.heap.size+1,0,none⟩) 3 3 1 (ints .i64 [1,2,4]):=by
  rw[vS];exact Sl.new' _ _ 1 3 #[.int .i64 1,.int .i64 2,.int .i64 4] (0,0) (by simp) aG rfl
 have bTF:([1,2,4]:List Int).any (fun n=>n==size)=(size==1||size==2||size==4):=by
  simp only[List.any_cons,List.any_nil,Bool.or_false];rw[show((1:Int)==size)=(size==1) by exact Bool.beq_comm ..,show((2:Int)==size)=(size==2) by exact Bool.beq_comm ..,show((4:Int)==size)=(size==4) by exact Bool.beq_comm ..,Bool.or_assoc]
 have hc1:w.heap.size<W1.heap.size:=by rw[vS];simp;omega
 have HC:=aT3 110 rfl (.pointer (some ⟨w.heap.size,0,none⟩)) _ 3 3 [1,2,4] (fun n=>n==size) W1 qU
  (fun W x hb=>(aP1 x size _ _ (late hb hc1 hc)).mono fun e w' ⟨h1,h2⟩=>⟨h1,by rw[h2];exact bF _ _⟩)
 rw[bTF]at HC;have HC:=aA HC;obtain⟨r,hr⟩:=aC (MK size order);rw[hr];have Hb:=aA kV;clear hc qU kV bTF hc1;go_enter Tryz.func49,Tryz.ntmps49;go_upto_region 2 with fail
 rw[←vS];obtain⟨FY,sH⟩:=aJ vS hr;clear vS hr;go_wp2_with fail
 refine HC.o.mono ?_;rintro e w2 ⟨rfl,kP⟩;have Hb:=aA (Hb.o.tm kP);clear kP;have KT:=sH.o;unfold MK at KT;generalize (size==1||size==2||size==4)=s at*;have h1:∃b,(order==1)=b:=⟨_,rfl⟩;have h2:∃b,(order==2)=b:=⟨_,rfl⟩;obtain⟨b1,h1⟩:=h1;obtain⟨b2,h2⟩:=h2;rw[h1,h2]at KT;have aS3:=aA KT;clear KT;cases s <;> cases b1 <;> cases b2
 all_goals
  go_wp2;go_ret;exact⟨by rw[←aS3.o];rfl,Hb.o⟩
end Go.Proofs.YtceclmpmpldmlaaGreat
namespace Tt
open Go Go.RowKit
theorem bC1 (a b:Nat) (ha:a<9223372036854775808) (hb:b<9223372036854775808):bits .or .i64 (a:Int) (b:Int)=((a|||b:Nat):Int):=by
 have hx:a|||b<2 ^ 63:=Nat.or_lt_two_pow aG aG
 have h1:(BitVec.ofInt 64 (a:Int)).toNat=a:=by rw[fV,gP];exact fH aG
 have h2:(BitVec.ofInt 64 (b:Int)).toNat=b:=by rw[fV,gP];exact fH aG
 show IntKind.i64.wrap ((BitVec.ofInt 64 (a:Int)|||BitVec.ofInt 64 (b:Int)).toNat:Int)=_
 rw[BitVec.toNat_or,h1,h2,bJ];omega
theorem b2S (a b:Nat) (ha:a<9223372036854775808) (hb:b<9223372036854775808):bits .and .i64 (a:Int) (b:Int)=((a&&& b:Nat):Int):=by
 have hx:a&&& b<2 ^ 63:=Nat.and_lt_two_pow _ aG;have h1:(BitVec.ofInt 64 (a:Int)).toNat=a:=by rw[fV,gP];exact fH aG
 have h2:(BitVec.ofInt 64 (b:Int)).toNat=b:=by rw[fV,gP];exact fH aG
 show IntKind.i64.wrap ((BitVec.ofInt 64 (a:Int)&&& BitVec.ofInt 64 (b:Int)).toNat:Int)=_
 rw[BitVec.toNat_and,h1,h2,bJ];omega
theorem b2T {N B:Int} (h0:0≤N) (h1:N<36028797018963968) (h2:0≤B) (h3:B<256):bits .or .i64 (N*256) B=N*256+B:=by
 obtain⟨a,rfl⟩:∃a:Nat,N=a:=⟨N.toNat,by omega⟩;obtain⟨b,rfl⟩:∃b:Nat,B=b:=⟨B.toNat,by omega⟩;have h:=bC1 (a*256) b aG aG;have h4:=Nat.two_pow_add_eq_or_of_lt (i:=8) (b:=b) aG a;have h5:(2 ^ 8*a:Nat)=a*256:=by omega
 rw[h5]at h4;rw[←h4]at h;rw[show((a*256:Nat):Int)=(a:Int)*256 by omega,show((a*256+b:Nat):Int)=(a:Int)*256+b by omega]at h;exact h
def be (l:List Int):Int:=l.foldl (fun n b=>n*256+b) 0
theorem aAY (l:List Int) (b:Int):be (l++ [b])=be l*256+b:=by unfold be;rw[fT];rfl
theorem take_snoc' {l:List Int} {j:Nat} (h:j<l.length):l.take (j+1)=l.take j++ [l.getD j 0]:=by
 rw[dR,bH h,aZ,bH h];rfl
theorem aMM {l:List Int} {j:Nat} (h:j<l.length):be (l.take (j+1))=be (l.take j)*256+l.getD j 0:=by rw[take_snoc' h,aAY]
theorem WQ {l:List Int} (h:pF l):∀{j:Nat},j≤l.length→0≤be (l.take j)∧be (l.take j)<256 ^ j
 |0,_=>by simp[be]
 |j+1,hj=>by
  have h1:=WQ h (j:=j) aG;have h2:=h.get j;rw[aMM aG,Int.pow_succ];omega
end Tt
namespace Go.Proofs.YtceclmpmpldmlaaGreat
open Go.RowKit Tt
def UQ (z:List Int) (at_:Nat) (size:Nat) (order:Int):List Int:=if order=1 then((z.drop at_).take size).reverse else(z.drop at_).take size
def a1S (n:Nat) (at_ size order:Int):Bool:=MK size order&&decide (0≤at_)&&decide (at_≤n - size)
def mM (z:List Int) (at_ size order:Int):Int:=if a1S z.length at_ size order=true then be (UQ z at_.toNat size.toNat order)else 0
theorem a3S {z:List Int} {at_ size:Nat} {order:Int} (h:at_+size≤z.length):(UQ z at_ size order).length=size:=by
 unfold UQ;split <;> simp <;> omega
theorem a3T {z:List Int} (hb:pF z) (at_ size:Nat) (order:Int):pF (UQ z at_ size order):=by
 unfold UQ;split
 ·intro x hx;exact(hb.drop _).take _ x (List.mem_reverse.1 hx)
 ·exact(hb.drop _).take _
theorem aT4 {z:List Int} {at_ size i:Nat} {order:Int} (h:at_+size≤z.length) (hi:i<size):(UQ z at_ size order).getD i 0=z.getD (if order=1 then at_+size - 1 - i else at_+i) 0:=by
 unfold UQ;split
 ·rw[aZ,List.getElem?_reverse (by simp;omega),dM];rw[if_pos (by simp;omega),eY,aZ];congr 2
  simp;omega
 ·rw[aZ,dM,if_pos hi,eY,aZ]
theorem a9B {size order:Int} (h:MK size order=true):(size=1∨size=2∨size=4)∧(order=1∨order=2):=by
 unfold MK at h;simp at h;omega
theorem aAZ (a:Option Addr) (n c:Nat) (z:List Int) (at_ size order:Int) (w:World) (hs:Sl w a n c 1 (ints .u8 z)) (hb:pF z):
  Calls Tryz.prog 14 #[.slice a n c,.int .i64 at_,.int .i64 size,.int .i64 order] w fun e w'=>e= .returned (.tuple #[.int .i64 (mM z at_ size order),.bool (a1S n at_ size order)])∧Below w.heap.size w w':=by
 have vO:=hs.p9;have FI:=hs.le;have UC:=hs.max;have hmm:=fun W=>KZ size order W;have hgv:mM z at_ size order=if a1S n at_ size order=true then be (UQ z at_.toNat size.toNat order)else 0:=by unfold mM;rw[vO]
 rw[hgv];obtain⟨m,hm⟩:=aC (MK size order);rw[hm]at hmm;have hgb:a1S n at_ size order=(m&&decide (0≤at_)&&decide (at_≤n - size)):=by unfold a1S;rw[hm]
 rw[hgb];obtain⟨sK,pW,oC,aD9⟩:=aL hs hb vO hmm;clear hs hb vO hmm;clear hgv hgb;cases m
 ·clear hm;go_enter Tryz.func14,Tryz.ntmps14;go_wp2_with (go_at_call 49;refine(aD9.o _).mono ?_;rintro e w1 ⟨rfl,kV⟩;have HB1:=aA kV;clear kV)
  go_ret2;exact⟨rfl,HB1.o⟩
 ·obtain⟨tC,yL⟩:=a9B hm;clear hm;by_cases ha:at_<0
  ·have d1:decide (at_<0)=true:=by simp;omega
   have d2:decide (0≤at_)=false:=by simp;omega
   rw[d2];clear tC yL;go_enter Tryz.func14,Tryz.ntmps14;go_wp2_with (go_at_call 49;refine(aD9.o _).mono ?_;rintro e w1 ⟨rfl,kV⟩;have HB1:=aA kV;clear kV)
   go_ret2;exact⟨rfl,HB1.o⟩
  ·have d1:decide (at_<0)=false:=by simp;omega
   have d2:decide (0≤at_)=true:=by simp;omega
   rw[d2];obtain⟨A,rfl⟩:∃A:Nat,at_=A:=⟨at_.toNat,by omega⟩;obtain⟨s,rfl⟩:∃s:Nat,size=s:=⟨size.toNat,by omega⟩;have NW:1≤s:=by omega
   have hs4:s≤4:=by omega
   rw[cB,cB];have hwn:IntKind.i64.wrap ((n:Int) - s)=n - s:=by rw[bJ];omega
   by_cases kP:(n:Int) - s<A
   ·have d3:decide ((n:Int) - s<A)=true:=by simp;omega
    have d4:decide ((A:Int)≤n - s)=false:=by simp;omega
    rw[d4];clear tC yL;go_enter Tryz.func14,Tryz.ntmps14;go_wp2_with (go_at_call 49;refine(aD9.o _).mono ?_;rintro e w1 ⟨rfl,kV⟩;have HB1:=aA kV;clear kV)
    go_ret2;exact⟨rfl,HB1.o⟩
   ·have d3:decide ((n:Int) - s<A)=false:=by simp;omega
    have d4:decide ((A:Int)≤n - s)=true:=by simp;omega
    rw[d4];have xM:=a3S (order:=order) (show A+s≤z.length by rw[oC.o];omega);have bC2:=a3T pW.o A s order;have aID:=fun i hi=>aT4 (z:=z) (at_:=A) (size:=s) (i:=i) (order:=order) (by rw[oC.o];omega) hi;obtain⟨L,hL⟩:=aC (UQ z A s order);rw[hL]at xM bC2 aID ⊢;clear tC hL;obtain⟨HL,HLB,HG⟩:=aK xM bC2 aID;clear xM bC2 aID;have hAs:A+s≤n:=by omega
    go_enter Tryz.func14,Tryz.ntmps14;go_wp2_with (go_at_call 49;refine(aD9.o _).mono ?_;rintro e w1 ⟨rfl,kV⟩;have HB1:=aA kV;clear kV)
    go_loop [10,30] (fun v i=>∃k:Nat,k≤s∧i= .int .i64 k∧v= .int .i64 (be (L.take k))) (fun _ i=>s - (intOf i).toNat)
    case atStart=>exact⟨0,by omega,rfl,rfl⟩
    case round=>
     obtain⟨k,hk,rfl,rfl⟩:=hrel;by_cases kY:k<s
     ·have EI:=WQ HLB.o (j:=k) (by rw[HL.o];omega);have KE:=aMM (l:=L) (j:=k) (by rw[HL.o];exact kY);have mQ:=HLB.o.get k;have hgk:=HG.o k kY;have h24:be (L.take k)<16777216:=by
       have:k=0∨k=1∨k=2∨k=3:=by omega
       rcases this with rfl|rfl|rfl|rfl <;> simp at EI ⊢ <;> omega
      obtain⟨j,hj⟩:∃j,(if order=1 then A+s - 1 - k else A+k)=j:=⟨_,rfl⟩;have hjn:j<n:=by rw[←hj];split <;> omega
      obtain⟨b,o,rfl,bJO,hc⟩:=(sK.o.mono HB1.o).at (i:=j) hjn;have f1:=hc j _ (qN (by rw[oC.o];exact hjn));rw[hj]at hgk;rw[←hgk]at f1;obtain⟨B,hB⟩:=aC (L.getD k 0);obtain⟨N,hN⟩:=aC (be (L.take k));rw[hB]at f1 KE mQ;rw[hN]at KE EI h24;rw[hN];have xR:=aB (N*256) aG;have hor:=b2T (N:=N) (B:=B) aG aG mQ.1 mQ.2;have hw2:IntKind.i64.wrap ((A:Int)+k)=A+k:=by rw[bJ];omega
      have xE:IntKind.i64.wrap ((A:Int)+s)=A+s:=by rw[bJ];omega
      have hw4:IntKind.i64.wrap ((A:Int)+s - 1)=A+s - 1:=by rw[bJ];omega
      have hw5:IntKind.i64.wrap ((A:Int)+s - 1 - k)=A+s - 1 - k:=by rw[bJ];omega
      obtain⟨a8B,JK,hB',hN',c4D⟩:=aM KE EI hB hN hgk;clear KE EI hB hN hgk;obtain⟨AX,c1V⟩:=mQ;clear hc;by_cases ho:order=1
      ·have d5:(order==1)=true:=by simp[ho]
       rw[if_pos ho]at hj;have IB:(A:Int)+s - 1 - k=(j:Int):=by omega
       rw[IB]at hw5;have bUE:(j:Int)<n:=by omega
       obtain⟨JG,hj'⟩:=aJ ho hj;clear ho hj;clear yL hw2;go_wp2;go_round
       case rel=>exact⟨k+1,by omega,by go_num,by rw[a8B.o]⟩
       case measure=>simp[intOf];omega
      ·have d5:(order==1)=false:=by simp[ho]
       rw[if_neg ho]at hj;have IB:(A:Int)+k=(j:Int):=by omega
       rw[IB]at hw2;have bUE:(j:Int)<n:=by omega
       obtain⟨JG,hj'⟩:=aJ ho hj;clear ho hj;clear yL xE hw4 hw5;go_wp2;go_round
       case rel=>exact⟨k+1,by omega,by go_num,by rw[a8B.o]⟩
       case measure=>simp[intOf];omega
     ·obtain rfl:k=s:=by omega
      go_wp2;go_ret2;exact⟨by rw[bW (by rw[HL.o];omega)];rfl,HB1.o⟩
theorem aDZ {x y:List Int} (h:x.length=y.length) (hg:∀k,k<x.length→x.getD k 0=y.getD k 0):x=y:=by
 refine gG h (fun k h1 h2=>?_);have:=hg k h1;rwa [kF h1,kF h2]at this
theorem EX (g o n c:Nat) (p:List Int) (T:TypeId) (w:World) (hr:Row w g T .u8 p) (h1:o+n≤p.length) (hn:n≤1000000):
  Calls Tryz.prog 149 #[.slice (some ⟨g,o,none⟩) n c] w fun e w'=>e= .returned (.tuple #[])∧∃p':List Int,Row w' g T .u8 p'∧p'.length=p.length∧(∀k,k<p.length→p'.getD k 0=if o≤k∧k<o+n then p.getD (2*o+n - 1 - k) 0 else p.getD k 0)∧But g w w':=by
 have tC:(ints .u8 p).toArray.size=p.length:=by simp[ints]
 have aID:∀k,k<p.length→(ints .u8 p).toArray[k]? =some (.int .u8 (p.getD k 0)):=fun k hk=>by
  rw[List.getElem?_toArray];exact qN hk
 refine(aDY g o n c (ints .u8 p).toArray ((p.drop o).take n) T w hr (by simp;omega) hn (fun k hk=>?_)).mono ?_
 ·rw[aID _ aG];congr 2
  rw[aZ,aZ,dM,if_pos hk,eY]
 ·rintro e w' ⟨rfl,cs',hb,hs,CY,c1C,xY⟩;refine⟨rfl,(List.range p.length).map (fun k=>if o≤k∧k<o+n then p.getD (2*o+n - 1 - k) 0 else p.getD k 0),?_,by simp,fun k hk=>?_,xY⟩
  ·have:cs'=(ints .u8 ((List.range p.length).map (fun k=>if o≤k∧k<o+n then p.getD (2*o+n - 1 - k) 0 else p.getD k 0))).toArray:=by
    refine Array.ext_getElem? (fun k=>?_);by_cases hk:k<p.length
    ·refine Eq.trans ?_ (Eq.trans (qN (k:= .u8) (l:=(List.range p.length).map (fun k=>if o≤k∧k<o+n then p.getD (2*o+n - 1 - k) 0 else p.getD k 0)) (i:=k) (by simpa using hk)).symm (by simp));rw[kF (by simpa using hk)];simp only[fI,List.getElem_range];by_cases hi:o≤k∧k<o+n
     ·have:=CY (k - o) aG;rw[show o+(k - o)=k by omega]at this;rw[this,if_pos hi];congr 2
      rw[aZ,aZ,dM,if_pos aG,eY];congr 2;omega
     ·rw[c1C k aG,if_neg hi,aID k hk]
    ·rw[iQ (by rw[hs,tC];omega),iQ (by simp[ints];omega)]
   unfold Row;rw[←this];exact hb
  ·rw[kF (by simpa using hk)];simp
theorem b2U (s:Int) (h:s=1∨s=2∨s=4) (w:World):Calls Tryz.prog 148 #[.int .i64 s] w fun e w'=>e= .returned (.int .i64 (wS s))∧w=w':=by
 rcases h with rfl|rfl|rfl
 all_goals
  go_enter Tryz.func148,Tryz.ntmps148;go_wp2;go_ret;exact⟨rfl,rfl⟩
theorem aP2 {n s o:Int} (h:MK s o=false):mH n s o=false:=by
 unfold MK at h;unfold mH wS;simp at h ⊢;intro h1 h2 h3;split <;> (try split) <;> (try split) <;> omega
theorem aMN:∀(k:Nat) (n:Int) (i:Nat),i<k→(U0 k n).getD i 0=n / 2 ^ (8*i) % 256
 |0,_,_,h=>by omega
 |k+1,n,0,_=>by simp[U0]
 |k+1,n,i+1,h=>by
  simp only[U0,aU];rw[aMN k _ i aG,Int.ediv_ediv_of_nonneg aH];congr 2
  rw[show 8*(i+1)=8+8*i by omega,Int.pow_add];rfl
def a3U (s:Nat) (n:Int) (i:Nat):List Int:=List.replicate (s - i) 0++((U0 s n).take i).reverse
theorem aP3 {s i:Nat} (n:Int) (h:i<s):(a3U s n i).set (s - 1 - i) (n / 2 ^ (8*i) % 256)=a3U s n (i+1):=by
 have hl:=RS s n;unfold a3U;rw[show s - i=(s - (i+1))+1 by omega,List.replicate_succ',dJ,show s - 1 - i=s - (i+1) by omega,List.set_append_right _ _ (by simp),List.length_replicate,iP,take_snoc' (by rw[hl];exact h),aMN s n i h];simp
theorem L6 {L:Nat}:(madeCells (Value.int .u8 0).cells (L*1)).toList=ints .u8 (List.replicate L 0):=by
 rw[iH];show(madeCells #[Value.int .u8 0] L).toList=_
 rw[toList_madeCells_one];simp[ints]
theorem JV (n s o:Int) (w:World):Calls Tryz.prog 88 #[.int .i64 n,.int .i64 s,.int .i64 o] w fun e w'=>∃a m c,e= .returned (.tuple #[.slice a m c,.bool (mH n s o)])∧w'.ownsRow w.heap.size 5 1 (.slice a m c) m (ints .u8 (lQ n s o))∧Below w.heap.size w w':=by
 obtain⟨i0,hi,yZ,qC,wY⟩:=info_parts a99;have hmm:=fun W=>KZ s o W;obtain⟨m,hm⟩:=aC (MK s o);rw[hm]at hmm;have aD9:=aA hmm;clear hmm;cases m
 ·have e1:=aP2 (n:=n) hm;have e2:lQ n s o= []:=by unfold lQ;rw[e1];rfl
  rw[e1,e2];clear e1 e2 hm;go_enter Tryz.func88,Tryz.ntmps88;go_wp2_with (go_at_call 49;refine(aD9.o _).mono ?_;rintro e w1 ⟨rfl,kV⟩;have HB1:=aA kV;clear kV)
  go_ret2;exact⟨none,0,0,rfl,lC _ _ _ _,HB1.o⟩
 ·obtain⟨tC,yL⟩:=a9B hm;clear hm;by_cases h0:n<0
  ·have e1:mH n s o=false:=by unfold mH;rw[decide_eq_false (show ¬0≤n by omega)];simp
   have e2:lQ n s o= []:=by unfold lQ;rw[e1];rfl
   rw[e1,e2];clear e1 e2 tC yL;go_enter Tryz.func88,Tryz.ntmps88;go_wp2_with (go_at_call 49;refine(aD9.o _).mono ?_;rintro e w1 ⟨rfl,kV⟩;have HB1:=aA kV;clear kV)
   go_ret2;exact⟨none,0,0,rfl,lC _ _ _ _,HB1.o⟩
  ·have d1:decide (n<0)=false:=by simp;omega
   have HT:=aA (fun W=>b2U s tC W);by_cases h1:wS s≤n
   ·have e1:mH n s o=false:=by unfold mH;rw[decide_eq_false (show ¬n<wS s by omega)];simp
    have e2:lQ n s o= []:=by unfold lQ;rw[e1];rfl
    have d2:decide (wS s≤n)=true:=by simp;omega
    rw[e1,e2];clear e1 e2 tC yL;generalize wS s=T at*;go_enter Tryz.func88,Tryz.ntmps88;go_wp2_with (first|(go_at_call 49;refine(aD9.o _).mono ?_;rintro e w1 ⟨rfl,kV⟩;have HB1:=aA kV;clear kV)|(go_at_call 148;refine(HT.o _).mono ?_;rintro e w1 ⟨rfl,rfl⟩))
    go_ret2;exact⟨none,0,0,rfl,lC _ _ _ _,HB1.o⟩
   ·have e1:mH n s o=true:=by unfold mH;simp;omega
    have d2:decide (wS s≤n)=false:=by simp;omega
    have hT:=aMJ s;rw[e1];obtain⟨L,rfl⟩:∃L:Nat,s=L:=⟨s.toNat,by omega⟩;have hL1:1≤L:=by omega
    have hL4:L≤4:=by omega
    have e2:lQ n L o=if o=1 then U0 L n else(U0 L n).reverse:=by unfold lQ;rw[if_pos e1];rfl
    clear e1 tC;generalize wS L=T at*;have zN:=fun i (h:i<L)=>aP3 (s:=L) (i:=i) n h;have hll:=RS L n;have hp0:a3U L n 0=List.replicate L 0:=by unfold a3U;simp
    have GY:a3U L n L=(U0 L n).reverse:=by unfold a3U;simp[bW (iG hll)]
    have b72:∀i,i≤L→(a3U L n i).length=L:=fun i h=>by unfold a3U;simp[hll];omega
    obtain⟨Z4,e2',aT5,bUF,a7Y,a3V⟩:=aN zN e2 hll hp0 GY b72;clear zN e2 hll hp0 GY b72;go_enter Tryz.func88,Tryz.ntmps88;go_wp2_with (first|(go_at_call 49;refine(aD9.o _).mono ?_;rintro e w1 ⟨rfl,kV⟩;have HB1:=aA kV;clear kV)|(go_at_call 148;refine(HT.o _).mono ?_;rintro e w1 ⟨rfl,rfl⟩)|(at_make;refine wpList_make_full w1 rfl _ _ 24 rfl w1.heap.size 5 i0 _ 1 Tryz.underlying24 hi yZ qC .i64 .i64 _ _ L rfl rfl rfl rfl (by rw[wY];omega) (by unfold maxLen;omega) (aY _) ?_;intro w2 mK MB;obtain⟨b2V,Hg2⟩:=aJ mK MB;clear mK MB))
    have R2:Row w2 w1.heap.size 5 .u8 (List.replicate L 0):=by have h:=b2V.o;rw[L6]at h;exact Row.kZ h
    have kP:Below w.heap.size w w2:=HB1.o.trans (((bF _ _).grown Hg2.o (aY _) (fun k e=>by cases e)).mono HB1.o.size);obtain⟨g,hg⟩:=aC w1.heap.size;have JJ:w.heap.size≤g:=by rw[←hg];exact HB1.o.size
    rw[hg]at R2;rw[hg];clear HB1 b2V Hg2 hg;obtain⟨R2',pG⟩:=aJ R2 kP;clear R2 kP;go_loopw [28] (fun i wr=>∃(k:Nat),k≤L∧i= .int .i64 k∧Hid (Row wr g 5 .u8 (a3U L n k))∧Hid (Below w.heap.size w wr)) (fun i _=>L - (intOf i).toNat)
    case atStart=>exact⟨0,by omega,rfl,aA (by rw[bUF.o];exact R2'.o),pG⟩
    case round=>
     obtain⟨k,hk,rfl,hr,hb⟩:=hrel;by_cases kY:k<L
     ·have hsh:(2:Int) ^ (8*(k:Int)).toNat=2 ^ (8*k):=by congr 1
      obtain⟨q,hq⟩:∃q:Nat,q=L - 1 - k:=⟨_,rfl⟩;have xR:IntKind.i64.wrap ((L:Int) - 1)=L - 1:=by rw[bJ];omega
      have hw2:IntKind.i64.wrap ((L:Int) - 1 - k)=q:=by rw[bJ];omega
      have xE:IntKind.u64.wrap (k:Int)=k:=by rw[IntKind.wrap_u64];omega
      have hw4:IntKind.u64.wrap (8*(k:Int))=8*k:=by rw[IntKind.wrap_u64];omega
      have hqL:(q:Int)<L:=by omega
      have f0:=hr.o.frozen q;have f1:=hr.o.cell (i:=q) (by rw[a3V.o k hk];omega);have bC6:=Z4.o k kY;have hw5:IntKind.u8.wrap (n / 2 ^ (8*k))=n / 2 ^ (8*k) % 256:=IntKind.wrap_u8 _;rw[←hq]at bC6;obtain⟨bJP,hq'⟩:=aJ bC6 hq;clear bC6 hq;clear yL;go_wp2;go_roundw
      case rel=>exact⟨k+1,by omega,by go_num,aA (by have h:=hr.o.set q (n / 2 ^ (8*k) % 256);rw[bJP.o]at h;exact h),aA (hb.o.setCell (p:=⟨g,q,none⟩) JJ _)⟩
      case measure=>simp[intOf];omega
     ·obtain rfl:k=L:=by omega
      by_cases ho:o=1
      ·have d5:(o==1)=true:=by simp[ho]
       obtain⟨HR,JG⟩:=aJ (EX g 0 k k (a3U k n k) 5 wr hr.o (by rw[a3V.o k hk];omega) aG) ho;clear ho;clear yL;go_wp2_with (go_at_call 149;refine(HR.o).mono ?_;rintro e w3 ⟨rfl,p',hr3,hl3,Z0,kT⟩;obtain⟨HR3,HL3,HG3,HB3⟩:=aL hr3 hl3 Z0 kT;clear hr3 hl3 Z0 kT)
       go_ret2;refine⟨some ⟨g,0,none⟩,k,k,rfl,?_,hb.o.trans (HB3.o.below JJ hb.o.size)⟩;rw[e2'.o,if_pos JG.o];have:p'=U0 k n:=by
        have h1:=a3V.o k hk;have h2:=aT5.o;refine aDZ (by rw[HL3.o,h1,h2]) (fun i hik=>?_);rw[HL3.o,h1]at hik;rw[HG3.o i (by rw[h1];exact hik),if_pos aG,a7Y.o,aZ,List.getElem?_reverse (by rw[h2];omega),aZ,h2];congr 2;omega
       rw[←this];exact HR3.o.own (by rw[HL3.o,a3V.o k hk]) JJ (by unfold maxLen;omega)
      ·have d5:(o==1)=false:=by simp[ho]
       have JG:=aA ho;clear ho;clear yL;go_wp2;go_ret2;refine⟨some ⟨g,0,none⟩,k,k,rfl,?_,hb.o⟩;rw[e2'.o,if_neg JG.o,←a7Y.o];exact hr.o.own (a3V.o k hk) JJ (by unfold maxLen;omega)
def PD (s o:Int):Bool:=MK s o||(s==8&&MK 1 o)
def FM (n p i:Nat):Nat:=if i<n - n % p then i - i % p+p - 1 - i % p else i
def turned (p:Nat) (b:List Int):List Int:=(List.range b.length).map fun i=>b.getD (FM b.length p i) 0
def rA (b:List Int) (s o:Int):List Int:=if PD s o=true then(if o=1 then turned s.toNat b else b)else []
theorem qF (p:Nat) (b:List Int):(turned p b).length=b.length:=by simp[turned]
theorem UR {p i:Nat} {b:List Int} (h:i<b.length):(turned p b).getD i 0=b.getD (FM b.length p i) 0:=by
 rw[kF (by rw[qF];exact h)];simp[turned]
theorem aP4 {n p i:Nat} (hp:0<p) (h:i<n):FM n p i<n:=by
 unfold FM;split
 ·rename_i h1;have:=Nat.mod_lt i hp;have h2:=Nat.div_add_mod i p;have h3:=Nat.div_add_mod n p;have h4:i / p<n / p:=by
   rw[Nat.div_lt_iff_lt_mul hp,Nat.mul_comm];omega
  have h5:p*(i / p+1)≤p*(n / p):=Nat.mul_le_mul_left p h4;rw[Nat.mul_succ]at h5;omega
 ·exact h
theorem a3W {s o:Int} (h:PD s o=true):(s=1∨s=2∨s=4∨s=8)∧(o=1∨o=2):=by
 unfold PD MK at h;simp at h;omega
theorem aIW {p:Nat} {b:List Int} (hb:pF b):pF (turned p b):=by
 intro x hx;unfold turned at hx;obtain⟨i,_,rfl⟩:=dH.1 hx;exact hb.get _
theorem a3X {b:List Int} (hb:pF b) (s o:Int):pF (rA b s o):=by
 unfold rA;split
 ·split
  ·exact aIW hb
  ·exact hb
 ·intro x hx;cases hx
def UU (p q:Nat) (b cs:List Int):Prop:=cs.length=b.length∧∀k,k<b.length→cs.getD k 0=if k<q then b.getD (FM b.length p k) 0 else b.getD k 0
theorem JW {p q:Nat} {b cs cs':List Int} (hp:p=1∨p=2∨p=4∨p=8) (hq:q % p=0) (hqn:q+p≤b.length) (h:UU p q b cs) (hl:cs'.length=cs.length)
  (hg:∀k,k<cs.length→cs'.getD k 0=if q≤k∧k<q+p then cs.getD (2*q+p - 1 - k) 0 else cs.getD k 0):UU p (q+p) b cs':=by
 obtain⟨h1,h2⟩:=h;refine⟨hl.trans h1,fun k hk=>?_⟩;rw[hg k aG];by_cases hi:q≤k∧k<q+p
 ·rw[if_pos hi,if_pos hi.2,h2 _ aG,if_neg aG];congr 1
  unfold FM;rcases hp with rfl|rfl|rfl|rfl
  all_goals
   rw[if_pos aG];omega
 ·rw[if_neg hi,h2 k hk];by_cases hk2:k<q
  ·rw[if_pos hk2,if_pos aG]
  ·rw[if_neg hk2,if_neg aG]
theorem ML {p q:Nat} {b cs:List Int} (hp:p=1∨p=2∨p=4∨p=8) (hq:q % p=0) (hqn:b.length<q+p) (hqb:q≤b.length) (h:UU p q b cs):cs=turned p b:=by
 refine aDZ (by rw[h.1,qF]) (fun k hk=>?_);rw[h.1]at hk;rw[h.2 k hk,UR hk];by_cases hk2:k<q
 ·rw[if_pos hk2]
 ·rw[if_neg hk2];unfold FM;rcases hp with rfl|rfl|rfl|rfl
  all_goals rw[if_neg aG]
theorem MN {b z:List Int} {n:Nat} (hb:b.length=n) (hz:z.length=n):splice z 0 (b.take n)=b:=by
 unfold splice;simp[hb,hz,bW (iG hb)]
theorem aB0 {P:Program} {T E:TypeId} (ht:P.underlying T=some (.slice E)) (hE:∀w,(Go.sizeOf E).run P w= .ok 1 w) (g n q p:Nat) (hp:1≤p) (h:q+p≤n) (W:World):
  (Instr.sliceAt T (.slice (some ⟨g,0,none⟩) n n) (some (.int .i64 (q:Int))) (some (.int .i64 ((q:Int)+p))) none).run P W= .ok (.slice (some ⟨g,q,none⟩) p (n - q)) W:=by
 have he:P.elem T=E:=by unfold Program.elem;rw[ht]
 rw[run_sliceAt_slice (h:=by rw[he];exact ht),run_slice_lh (ht:=by rw[he];exact ht) (h0:=by omega) (h1:=by omega) (h2:=by omega),he,hE];simp only[Result.andThen,sliced];have e1:((q:Int)+p - q).toNat=p:=by omega
 have e2:¬n=q:=by omega
 simp[e1,e2,Addr.add];omega
theorem aT6 (a:Option Addr) (n c:Nat) (b:List Int) (s o:Int) (w:World) (hs:Sl w a n c 1 (ints .u8 b)) (hn:n≤1000000000):
  Calls Tryz.prog 117 #[.slice a n c,.int .i64 s,.int .i64 o] w fun e w'=>∃a2 m c2,e= .returned (.slice a2 m c2)∧w'.ownsRow w.heap.size 5 1 (.slice a2 m c2) m (ints .u8 (rA b s o))∧Below w.heap.size w w':=by
 obtain⟨i0,hi,yZ,qC,wY⟩:=info_parts a99;have D9:=hs.p9;have FI:=hs.le;have UC:=hs.max;have OL:=fun W=>KZ s o W;have T9:=fun W=>KZ 1 o W;obtain⟨t,ht⟩:=aC (PD s o);have hts:rA b s o=if t=true then(if o=1 then turned s.toNat b else b)else []:=by unfold rA;rw[ht]
 obtain⟨R,hR⟩:=aC (rA b s o);rw[hR];rw[hR]at hts;replace hts:=hts.symm
 have KS:=ht;unfold PD at KS;obtain⟨r1,hr1⟩:∃r,MK s o=r:=⟨_,rfl⟩;obtain⟨r2,KT⟩:∃r,MK 1 o=r:=⟨_,rfl⟩;rw[hr1]at OL KS;rw[KT]at T9 KS;obtain⟨MI,ZQ,sK,vE,UW⟩:=aM OL T9 hs D9 hts;clear OL T9 hs D9 hts;clear hr1 KT hR;go_enter Tryz.func117,Tryz.ntmps117;cases t
 ·clear ht;cases r1
  ·by_cases h8:s=8
   ·subst h8;obtain rfl:r2=false:=by simpa using KS
    clear KS;go_wp2_with fail
    refine(MI.o _).mono ?_;rintro e w1 ⟨rfl,kV⟩;have HB1:=aA kV;clear kV;go_wp2_with fail
    refine(ZQ.o _).mono ?_;rintro e w2 ⟨rfl,kP⟩;have HB2:=aA (HB1.o.tm kP);clear kP;go_wp2_with fail
    go_ret;exact⟨none,0,0,rfl,by rw[←UW.o];exact lC _ _ _ _,HB2.o⟩
   ·have d8:(s != 8)=true:=by simp[h8]
    clear KS;go_wp2_with fail
    refine(MI.o _).mono ?_;rintro e w1 ⟨rfl,kV⟩;have HB1:=aA kV;clear kV;go_wp2_with fail
    go_ret;exact⟨none,0,0,rfl,by rw[←UW.o];exact lC _ _ _ _,HB1.o⟩
  ·simp at KS
 ·obtain⟨tC,yL⟩:=a3W ht;obtain⟨p,rfl⟩:∃p:Nat,s=p:=⟨s.toNat,by omega⟩;have hp:p=1∨p=2∨p=4∨p=8:=by omega
  have hp1:1≤p:=by omega
  have hp8:p≤8:=by omega
  clear ht tC;cases r1
  ·have h8:p=8:=by simp at KS;omega
   subst h8;obtain rfl:r2=true:=by simpa using KS
   clear KS hp;go_wp2_with fail
   refine(MI.o _).mono ?_;rintro e w1 ⟨rfl,kV⟩;have HB1:=aA kV;clear kV;go_wp2_with fail
   refine(ZQ.o _).mono ?_;rintro e w2 ⟨rfl,kP⟩;have HB2:=aA (HB1.o.tm kP);clear kP HB1;go_wp2_with (first|(at_make;refine wpList_make_full w2 rfl _ _ 24 rfl w2.heap.size 5 i0 _ 1 Tryz.underlying24 hi yZ qC .i64 .i64 _ _ n rfl rfl rfl rfl (by rw[wY];omega) (by unfold maxLen;omega) (aY _) ?_;intro w3 mK MB;have R3:=Row.kZ (by rw[L6]at mK;exact mK);have H3:=(HB2).o.trans (((bF _ _).grown MB (aY _) (fun k e=>by cases e)).mono (HB2).o.size);clear mK MB)|(refine zP rfl (.tmp 25) (.tmp 26) 24 24 rfl 5 Tryz.underlying24 (by rw[hi];simp[qC]) w2.heap.size n .u8 _ rfl R3 (by simp) a n c b rfl (sK.o.mono H3) w.heap.size w H3 (HB2).o.size ?_;intro w4 hr4 mX;rw[MN vE.o (by simp)]at hr4;clear R3 H3))
   obtain⟨g,hg⟩:=aC w2.heap.size;have JJ:w.heap.size≤g:=by rw[←hg];exact(HB2).o.size
   rw[hg]at hr4;rw[hg];clear HB2 hg;obtain⟨a3Y,xG⟩:=aJ hr4 mX;clear hr4 mX;by_cases ho:o=1
   ·have d1:(o==1)=true:=by simp[ho]
    have JG:=aA ho;clear ho;clear yL;go_loopw [8] (fun i wr=>∃(q:Nat) (cs:List Int),q≤n∧i= .int .i64 q∧Hid (q % 8=0)∧Hid (Row wr g 5 .u8 cs)∧Hid (UU 8 q b cs)∧Hid (Below w.heap.size w wr)) (fun i _=>n - (intOf i).toNat)
    case atStart=>exact⟨0,b,by omega,rfl,aA (by simp),a3Y,aA ⟨rfl,fun k hk=>by simp⟩,xG⟩
    case round=>
     obtain⟨q,cs,hq,rfl,hqm,hr,htu,hb⟩:=hrel;have xR:IntKind.i64.wrap ((q:Int)+8)=q+8:=by rw[bJ];omega
     have sI:=htu.o.1;rw[vE.o]at sI;by_cases kY:q+8≤n
     ·have d2:decide ((q:Int)+8≤n)=true:=by simp;omega
      have hRV:=fun cc=>EX g q 8 cc cs 5 wr hr.o aG aG;have qU:=aB0 (P:=Tryz.prog) (T:=24) (E:=5) Tryz.underlying24 (fun W=>by kernel_rfl) g n q 8 aG kY;have aIX:=aA hRV;clear hRV;go_wp2_with (go_at_call 149;refine(aIX.o _).mono ?_;rintro e w5 ⟨rfl,p',hr5,hl5,qA,nV⟩;obtain⟨HR5,HL5,HG5,HB5⟩:=aL hr5 hl5 qA nV;clear hr5 hl5 qA nV)
      go_roundw
      case rel=>exact⟨q+8,p',by omega,by go_num,aA (by have:=hqm.o;first|omega|(rw[Nat.add_mod_right];exact this)),HR5,aA (JW aG hqm.o (by rw[vE.o];omega) htu.o HL5.o HG5.o),aA (hb.o.trans (HB5.o.below JJ hb.o.size))⟩
      case measure=>simp[intOf];omega
     ·have d2:decide ((q:Int)+8≤n)=false:=by simp;omega
      go_wp2;go_ret;refine⟨some ⟨g,0,none⟩,n,n,rfl,?_,hb.o⟩;have:=ML (p:=8) aG hqm.o (by rw[vE.o];omega) (by rw[vE.o];exact hq) htu.o;have KT:=hr.o;rw[this]at KT;have hR:=UW.o;rw[if_pos trivial,if_pos JG.o]at hR;rw[cB]at hR;rw[←hR];exact KT.own (by rw[qF];exact vE.o) JJ (by unfold maxLen;omega)
   ·have d1:(o==1)=false:=by simp[ho]
    have JG:=aA ho;clear ho;clear yL;go_loopw [8] (fun i wr=>i= .int .i64 0∧wr=w4) (fun i _=>0)
    case atStart=>exact⟨rfl,rfl⟩
    case round=>
     obtain⟨rfl,rfl⟩:=hrel;go_wp2;go_ret;refine⟨some ⟨g,0,none⟩,n,n,rfl,?_,xG.o⟩;rw[←UW.o,if_pos trivial,if_neg JG.o];exact a3Y.o.own vE.o JJ (by unfold maxLen;omega)
  ·clear KS;go_wp2_with fail
   refine(MI.o _).mono ?_;rintro e w2 ⟨rfl,kP⟩;have HB2:=aA kP;clear kP;go_wp2_with (first|(at_make;refine wpList_make_full w2 rfl _ _ 24 rfl w2.heap.size 5 i0 _ 1 Tryz.underlying24 hi yZ qC .i64 .i64 _ _ n rfl rfl rfl rfl (by rw[wY];omega) (by unfold maxLen;omega) (aY _) ?_;intro w3 mK MB;have R3:=Row.kZ (by rw[L6]at mK;exact mK);have H3:=(HB2).o.trans (((bF _ _).grown MB (aY _) (fun k e=>by cases e)).mono (HB2).o.size);clear mK MB)|(refine zP rfl (.tmp 25) (.tmp 26) 24 24 rfl 5 Tryz.underlying24 (by rw[hi];simp[qC]) w2.heap.size n .u8 _ rfl R3 (by simp) a n c b rfl (sK.o.mono H3) w.heap.size w H3 (HB2).o.size ?_;intro w4 hr4 mX;rw[MN vE.o (by simp)]at hr4;clear R3 H3))
   obtain⟨g,hg⟩:=aC w2.heap.size;have JJ:w.heap.size≤g:=by rw[←hg];exact(HB2).o.size
   rw[hg]at hr4;rw[hg];clear HB2 hg;obtain⟨a3Y,xG⟩:=aJ hr4 mX;clear hr4 mX;by_cases ho:o=1
   ·have d1:(o==1)=true:=by simp[ho]
    have JG:=aA ho;clear ho;clear yL;go_loopw [8] (fun i wr=>∃(q:Nat) (cs:List Int),q≤n∧i= .int .i64 q∧Hid (q % p=0)∧Hid (Row wr g 5 .u8 cs)∧Hid (UU p q b cs)∧Hid (Below w.heap.size w wr)) (fun i _=>n - (intOf i).toNat)
    case atStart=>exact⟨0,b,by omega,rfl,aA (by simp),a3Y,aA ⟨rfl,fun k hk=>by simp⟩,xG⟩
    case round=>
     obtain⟨q,cs,hq,rfl,hqm,hr,htu,hb⟩:=hrel;have xR:IntKind.i64.wrap ((q:Int)+p)=q+p:=by rw[bJ];omega
     have sI:=htu.o.1;rw[vE.o]at sI;by_cases kY:q+p≤n
     ·have d2:decide ((q:Int)+p≤n)=true:=by simp;omega
      have hRV:=fun cc=>EX g q p cc cs 5 wr hr.o aG aG;have qU:=aB0 (P:=Tryz.prog) (T:=24) (E:=5) Tryz.underlying24 (fun W=>by kernel_rfl) g n q p aG kY;have aIX:=aA hRV;clear hRV;go_wp2_with (go_at_call 149;refine(aIX.o _).mono ?_;rintro e w5 ⟨rfl,p',hr5,hl5,qA,nV⟩;obtain⟨HR5,HL5,HG5,HB5⟩:=aL hr5 hl5 qA nV;clear hr5 hl5 qA nV)
      go_roundw
      case rel=>exact⟨q+p,p',by omega,by go_num,aA (by have:=hqm.o;first|omega|(rw[Nat.add_mod_right];exact this)),HR5,aA (JW aG hqm.o (by rw[vE.o];omega) htu.o HL5.o HG5.o),aA (hb.o.trans (HB5.o.below JJ hb.o.size))⟩
      case measure=>simp[intOf];omega
     ·have d2:decide ((q:Int)+p≤n)=false:=by simp;omega
      go_wp2;go_ret;refine⟨some ⟨g,0,none⟩,n,n,rfl,?_,hb.o⟩;have:=ML (p:=p) aG hqm.o (by rw[vE.o];omega) (by rw[vE.o];exact hq) htu.o;have KT:=hr.o;rw[this]at KT;have hR:=UW.o;rw[if_pos trivial,if_pos JG.o]at hR;rw[cB]at hR;rw[←hR];exact KT.own (by rw[qF];exact vE.o) JJ (by unfold maxLen;omega)
   ·have d1:(o==1)=false:=by simp[ho]
    have JG:=aA ho;clear ho;clear yL;go_loopw [8] (fun i wr=>i= .int .i64 0∧wr=w4) (fun i _=>0)
    case atStart=>exact⟨rfl,rfl⟩
    case round=>
     obtain⟨rfl,rfl⟩:=hrel;go_wp2;go_ret;refine⟨some ⟨g,0,none⟩,n,n,rfl,?_,xG.o⟩;rw[←UW.o,if_pos trivial,if_neg JG.o];exact a3Y.o.own vE.o JJ (by unfold maxLen;omega)
end Go.Proofs.YtceclmpmpldmlaaGreat
namespace Tt
open Go Go.RowKit
def fl {α:Type} (f:α→List Value) (l:List α):List Value:=l.flatMap f
section
variable {α:Type} {f:α→List Value} {k:Nat}
theorem a2Q (x:α) (r:List α):fl f (x::r)=f x++fl f r:=rfl
theorem a9C (x y:List α):fl f (x++y)=fl f x++fl f y:=by simp[fl]
theorem yM (x:List α) (y:α):fl f (x++ [y])=fl f x++f y:=by rw[a9C];simp[fl]
theorem UY (hf:∀x,(f x).length=k):∀(l:List α),(fl f l).length=l.length*k
 | []=>by simp[fl]
 |x::r=>by rw[a2Q,cO,UY hf r,hf x,dO,Nat.succ_mul,Nat.add_comm]
theorem aIY (hf:∀x,(f x).length=k) (d:α):∀{l:List α} {i j:Nat},i<l.length→j<k→(fl f l)[i*k+j]? =(f (l.getD i d))[j]?
 |x::r,0,j,_,hj=>by rw[a2Q,fJ (by rw[hf x];omega),fM,eU];rfl
 |x::r,i+1,j,hi,hj=>by
  have e:(i+1)*k+j - k=i*k+j:=by rw[Nat.succ_mul];omega
  rw[a2Q,iA (by rw[hf x,Nat.succ_mul];omega),hf x,e,aIY hf d (by simpa using hi) hj];rfl
theorem bC7 (h1:∀x,∀u∈f x,u.oneCell'=true) {l:List α}:∀u∈fl f l,u.oneCell'=true:=by
 intro u hu;obtain⟨x,_,hx⟩:=eH.1 hu;exact h1 x u hx
theorem Sl.xZ {w:World} {a:Option Addr} {n c:Nat} {l:List α} (hf:∀x,(f x).length=k) (hk:0<k) (h:Sl w a n c k (fl f l)):l.length=n:=by
 have:=h.len;rw[UY hf]at this;exact Nat.eq_of_mul_eq_mul_right hk this
theorem Sl.elem {w:World} {a:Option Addr} {n c:Nat} {l:List α} (hf:∀x,(f x).length=k) (hk:0<k) (d:α) (h:Sl w a n c k (fl f l)) {i:Nat} (hi:i<n):
  ∃b o,a=some ⟨b,o,none⟩∧b<w.heap.size∧∀j v,(f (l.getD i d))[j]? =some v→w.cell? ⟨b,o+i*k+j,none⟩=some v:=by
 have hl:=h.xZ hf hk;obtain⟨b,o,rfl,hb,hc⟩:=h.at hi;refine⟨b,o,rfl,hb,fun j v hj=>?_⟩;have hjk:j<k:=by
  have:=(dP.1 hj).1;rwa [hf]at this
 have:=hc (i*k+j) v ((aIY hf d aG hjk).trans hj);rwa [←Nat.add_assoc]at this
end
end Tt
namespace Go.Proofs.YtceclmpmpldmlaaGreat
open Go.RowKit Tt
abbrev Lk:=Int×Int
def lkc (x:Lk):List Value:= [.int .i64 x.1,.int .i64 x.2]
theorem sO (x:Lk):(lkc x).length=2:=rfl
theorem aE0 (MJ:Nat) (hf:MJ=254∨MJ=214) (cap:Value) (a:Option Addr) (n c:Nat) (ls:List Lk) (p:Lk→Bool) (w:World) (hs:Sl w a n c 2 (fl lkc ls))
  (hc:∀W (x:Lk),Below w.heap.size w W→Calls Tryz.prog MJ #[.agg #[.int .i64 x.1,.int .i64 x.2],cap] W fun e W'=>e= .returned (.bool (p x))∧Below W.heap.size W W'):
  Calls Tryz.prog 91 #[.slice a n c,.func (.func MJ) #[] #[cap]] w fun e w'=>e= .returned (.int .i64 (fst p ls))∧Below w.heap.size w w':=by
 have hl:=hs.xZ sO aH;have hm:=hs.max;have FI:=hs.le;obtain⟨sK,KU,FX⟩:=aK hs hc hl;clear hs hc hl;rcases hf with rfl|rfl
 all_goals
  go_enter Tryz.func91,Tryz.ntmps91;go_wp2;go_loopw [8] (fun iv wr=>∃k:Nat,k≤n∧iv= .int .i64 k∧Hid (∀i (hi:i<ls.length),i<k→p ls[i]=false)∧Hid (Below w.heap.size w wr)) (fun iv _=>n - (intOf iv).toNat)
  case atStart=>exact⟨0,by omega,rfl,aA (fun j _ hj=>by omega),aA (bF _ _)⟩
  case round=>
   obtain⟨k,hk,rfl,lY,hb⟩:=hrel;by_cases kY:k<n
   ·have hww:IntKind.i64.wrap ((k:Int)+1)=k+1:=by rw[bJ];omega
    have xK:k<ls.length:=by rw[FX.o];exact kY
    obtain⟨b,o,rfl,EI,f⟩:=(sK.o.mono hb.o).elem sO aH (0,0) kY;rw[kF xK]at f;have f0:=f 0 _ rfl;have f1:=f 1 _ rfl;clear f;rw[dB]at f0;obtain⟨r,hr⟩:=aC (p (ls[k]'xK));have HC:=KU.o wr (ls[k]'xK) hb.o;rw[hr]at HC;generalize (ls[k]'xK).1=x1 at*;generalize (ls[k]'xK).2=x2 at*;obtain⟨WO,sH⟩:=aJ HC hr;clear HC hr;go_wp2_with fail
    refine WO.o.mono ?_;rintro e w2 ⟨rfl,kP⟩;have lK:=hb.o.tm kP;clear kP;cases r with
    |true=>
     have kX:=aA lK;clear lK;go_wp2;go_ret;exact⟨by rw[P9 xK sH.o (fun i hi=>lY.o i aG hi)];rfl,kX.o⟩
    |false=>
     have oQ:∀i (hi:i<ls.length),i<k+1→p ls[i]=false:=fun i hi h=>by
      rcases eB i k with h1|h1
      ·exact lY.o i hi h1
      ·obtain rfl:i=k:=by omega
       exact sH.o
     obtain⟨kX,nG⟩:=aJ lK oQ;clear lK oQ;go_wp2;go_roundw
     case rel=>exact⟨k+1,by omega,by go_num,nG,kX⟩
     case measure=>simp[intOf];omega
   ·obtain rfl:k=n:=by omega
    go_wp2;go_ret;exact⟨by rw[UO (fun i hi=>lY.o i hi (by rw[FX.o]at hi;exact hi))];rfl,hb.o⟩
theorem aT7 (MJ:Nat) (hf:MJ=254∨MJ=214) (cap:Value) (a:Option Addr) (n c:Nat) (ls:List Lk) (p:Lk→Bool) (w:World) (hs:Sl w a n c 2 (fl lkc ls))
  (hc:∀W (x:Lk),Below w.heap.size w W→Calls Tryz.prog MJ #[.agg #[.int .i64 x.1,.int .i64 x.2],cap] W fun e W'=>e= .returned (.bool (p x))∧Below W.heap.size W W'):
  Calls Tryz.prog 227 #[.slice a n c,.func (.func MJ) #[] #[cap]] w fun e w'=>e= .returned (.bool (ls.any p))∧Below w.heap.size w w':=by
 have HX:=aE0 MJ hf cap a n c ls p w hs hc;obtain⟨r,hr⟩:=aC (fst p ls);have ha:=EL (p:=p) (l:=ls);rw[hr]at HX ha;obtain⟨q,hq⟩:=aC (ls.any p);rw[hq]at ha ⊢;clear hs hc;obtain⟨HX',sH,hq'⟩:=aK HX hr hq;clear HX hr hq;rcases hf with rfl|rfl
 all_goals
  go_enter Tryz.func227,Tryz.ntmps227;go_wp2_with fail
  refine HX'.o.mono ?_;rintro e w2 ⟨rfl,kP⟩;have pG:=aA kP;clear kP;go_wp2;go_ret;exact⟨rfl,pG.o⟩
theorem aT8 (MJ:Nat) (hf:MJ=114) (a:Option Addr) (n c:Nat) (ls:List Int) (p:Int→Bool) (w:World) (hs:Sl w a n c 1 (ints .u8 ls))
  (hc:∀W (x:Int),Below w.heap.size w W→Calls Tryz.prog MJ #[.int .u8 x] W fun e W'=>e= .returned (.bool (p x))∧Below W.heap.size W W'):
  Calls Tryz.prog 166 #[.slice a n c,.func (.func MJ) #[] #[]] w fun e w'=>e= .returned (.int .i64 (fst p ls))∧Below w.heap.size w w':=by
 have hl:=hs.p9;have hm:=hs.max;have FI:=hs.le;obtain⟨sK,KU,FX⟩:=aK hs hc hl;clear hs hc hl;rcases hf with rfl
 all_goals
  go_enter Tryz.func166,Tryz.ntmps166;go_wp2;go_loopw [8] (fun iv wr=>∃k:Nat,k≤n∧iv= .int .i64 k∧Hid (∀i (hi:i<ls.length),i<k→p ls[i]=false)∧Hid (Below w.heap.size w wr)) (fun iv _=>n - (intOf iv).toNat)
  case atStart=>exact⟨0,by omega,rfl,aA (fun j _ hj=>by omega),aA (bF _ _)⟩
  case round=>
   obtain⟨k,hk,rfl,lY,hb⟩:=hrel;by_cases kY:k<n
   ·have hww:IntKind.i64.wrap ((k:Int)+1)=k+1:=by rw[bJ];omega
    have xK:k<ls.length:=by rw[FX.o];exact kY
    obtain⟨b,o,rfl,EI,f⟩:=(sK.o.mono hb.o).at kY;have f0:=f k _ (qN xK);rw[kF xK]at f0;clear f;obtain⟨r,hr⟩:=aC (p (ls[k]'xK));have HC:=KU.o wr (ls[k]'xK) hb.o;rw[hr]at HC;generalize (ls[k]'xK)=x1 at f0 HC;obtain⟨WO,sH⟩:=aJ HC hr;clear HC hr;go_wp2_with fail
    refine WO.o.mono ?_;rintro e w2 ⟨rfl,kP⟩;have lK:=hb.o.tm kP;clear kP;cases r with
    |true=>
     have kX:=aA lK;clear lK;go_wp2;go_ret;exact⟨by rw[P9 xK sH.o (fun i hi=>lY.o i aG hi)];rfl,kX.o⟩
    |false=>
     have oQ:∀i (hi:i<ls.length),i<k+1→p ls[i]=false:=fun i hi h=>by
      rcases eB i k with h1|h1
      ·exact lY.o i hi h1
      ·obtain rfl:i=k:=by omega
       exact sH.o
     obtain⟨kX,nG⟩:=aJ lK oQ;clear lK oQ;go_wp2;go_roundw
     case rel=>exact⟨k+1,by omega,by go_num,nG,kX⟩
     case measure=>simp[intOf];omega
   ·obtain rfl:k=n:=by omega
    go_wp2;go_ret;exact⟨by rw[UO (fun i hi=>lY.o i hi (by rw[FX.o]at hi;exact hi))];rfl,hb.o⟩
theorem aT9 (MJ:Nat) (hf:MJ=114) (a:Option Addr) (n c:Nat) (ls:List Int) (p:Int→Bool) (w:World) (hs:Sl w a n c 1 (ints .u8 ls))
  (hc:∀W (x:Int),Below w.heap.size w W→Calls Tryz.prog MJ #[.int .u8 x] W fun e W'=>e= .returned (.bool (p x))∧Below W.heap.size W W'):
  Calls Tryz.prog 115 #[.slice a n c,.func (.func MJ) #[] #[]] w fun e w'=>e= .returned (.bool (ls.any p))∧Below w.heap.size w w':=by
 have HX:=aT8 MJ hf a n c ls p w hs hc;obtain⟨r,hr⟩:=aC (fst p ls);have ha:=EL (p:=p) (l:=ls);rw[hr]at HX ha;obtain⟨q,hq⟩:=aC (ls.any p);rw[hq]at ha ⊢;clear hs hc;obtain⟨HX',sH,hq'⟩:=aK HX hr hq;clear HX hr hq;rcases hf with rfl
 all_goals
  go_enter Tryz.func115,Tryz.ntmps115;go_wp2_with fail
  refine HX'.o.mono ?_;rintro e w2 ⟨rfl,kP⟩;have pG:=aA kP;clear kP;go_wp2;go_ret;exact⟨rfl,pG.o⟩
