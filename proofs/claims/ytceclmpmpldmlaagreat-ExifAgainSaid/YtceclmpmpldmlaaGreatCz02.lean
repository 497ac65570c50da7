import Derived.Test.YtceclmpmpldmlaaGreatCz01
import Derived.Lib.ConvBytes
import Derived.Laws.AppendOwn
import Derived.Shelf.Bytes.SlIndexAt
import Derived.Lib.BytesEntry
set_option linter.unusedSimpArgs false
set_option linter.unusedVariables false
set_option maxRecDepth 100000
set_option maxHeartbeats 8000000
namespace Go.Proofs.YtceclmpmpldmlaaGreat
open Go.RowKit Tt
def rJ (s:Int):Int:=if s=1 then 256 else if s=2 then 65536 else if s=4 then 4294967296 else 0
def MZ:Nat→Int→List Int
 |0,_=> []
 |k+1,n=>n % 256::MZ k (n / 256)
theorem LJ:∀(k:Nat) (n:Int),(MZ k n).length=k
 |0,_=>rfl
 |k+1,n=>by simp[MZ,LJ k]
theorem a4D:∀(k:Nat) (n:Int),mW (MZ k n)
 |0,_=>fun x hx=>by cases hx
 |k+1,n=>fun x hx=>by
  rcases bQ.1 hx with rfl|h
  ·omega
  ·exact a4D k _ x h
def kX (n s o:Int):Bool:=decide (1≤o)&&decide (o≤2)&&decide (0≤n)&&decide (n<rJ s)
def kL (n s o:Int):List Int:=if kX n s o=true then(if o=1 then MZ s.toNat n else(MZ s.toNat n).reverse)else []
theorem SL (s:Int) (w:World):Calls Tryz.prog 241 #[.int .i64 s] w fun e w'=>e= .returned (.int .i64 (rJ s))∧w=w':=by
 by_cases h1:s=1
 ·subst h1;go_enter Tryz.func241,Tryz.ntmps241;go_wp2;go_ret;exact⟨rfl,rfl⟩
 ·by_cases h2:s=2
  ·subst h2;go_enter Tryz.func241,Tryz.ntmps241;go_wp2;go_ret;exact⟨rfl,rfl⟩
  ·by_cases h3:s=4
   ·subst h3;go_enter Tryz.func241,Tryz.ntmps241;go_wp2;go_ret;exact⟨rfl,rfl⟩
   ·have e:rJ s=0:=by unfold rJ;rw[if_neg h1,if_neg h2,if_neg h3]
    rw[e];go_enter Tryz.func241,Tryz.ntmps241;go_wp2;go_ret;exact⟨rfl,rfl⟩
theorem aMT {s:Int} (h:0<rJ s):s=1∨s=2∨s=4:=by
 unfold rJ at h;split at h
 ·exact .inl ‹_›
 ·split at h
  ·exact .inr (.inl ‹_›)
  ·split at h
   ·exact .inr (.inr ‹_›)
   ·omega
theorem aH1 (s:Int):rJ s≤4294967296:=by
 unfold rJ;split
 ·omega
 ·split
  ·omega
  ·split <;> omega
theorem a2B:(Tryz.prog.info? 5).map (fun i=>(i.zero,i.size,i.bytes))=some (some (.int .u8 0),1,1):=by kernel_rfl
theorem a2C (n s o:Int) (w:World):
  Calls Tryz.prog 188 #[.int .i64 n,.int .i64 s,.int .i64 o] w fun e w'=>∃a m c,e= .returned (.tuple #[.slice a m c,.bool (kX n s o)])∧w'.ownsRow w.heap.size 5 1 (.slice a m c) m (ints .u8 (kL n s o))∧Below w.heap.size w w':=by
 obtain⟨i0,hi,hz0,hz1,hz2⟩:=info_parts a2B;by_cases h1:o<1
 ·have e:kX n s o=false:=by unfold kX;rw[decide_eq_false (show ¬1≤o by omega)];rfl
  have e2:kL n s o= []:=by unfold kL;rw[e];rfl
  rw[e,e2];clear e e2;go_enter Tryz.func188,Tryz.ntmps188;go_wp2;go_ret2;exact⟨_,_,_,rfl,kC _ _ _ _,aW _ _⟩
 ·by_cases h2:2<o
  ·have e:kX n s o=false:=by unfold kX;rw[decide_eq_false (show ¬o≤2 by omega)];simp
   have e2:kL n s o= []:=by unfold kL;rw[e];rfl
   rw[e,e2];clear e e2;go_enter Tryz.func188,Tryz.ntmps188;go_wp2;go_ret2;exact⟨_,_,_,rfl,kC _ _ _ _,aW _ _⟩
  ·by_cases h3:n<0
   ·have e:kX n s o=false:=by unfold kX;rw[decide_eq_false (show ¬0≤n by omega)];simp
    have e2:kL n s o= []:=by unfold kL;rw[e];rfl
    rw[e,e2];clear e e2;go_enter Tryz.func188,Tryz.ntmps188;go_wp2;go_ret2;exact⟨_,_,_,rfl,kC _ _ _ _,aW _ _⟩
   ·by_cases h4:rJ s≤n
    ·have e:kX n s o=false:=by unfold kX;rw[decide_eq_false (show ¬n<rJ s by omega)];simp
     have e2:kL n s o= []:=by unfold kL;rw[e];rfl
     rw[e,e2];clear e e2;generalize hT:rJ s=T at h4;have HT:=aA hT;clear hT;go_enter Tryz.func188,Tryz.ntmps188;go_wp2_with (go_at_call 241;refine(SL _ _).mono ?_;rw[HT.o];rintro e w' ⟨rfl,rfl⟩)
     go_ret2;exact⟨_,_,_,rfl,kC _ _ _ _,aW _ _⟩
    ·have e:kX n s o=true:=by unfold kX;rw[decide_eq_true (show 1≤o by omega),decide_eq_true (show o≤2 by omega),decide_eq_true (show 0≤n by omega),decide_eq_true (show n<rJ s by omega)];rfl
     obtain⟨S,hS,hSb⟩:∃S:Nat,s=S∧S≤4:=by
      rcases aMT (s:=s) (by omega)with rfl|rfl|rfl
      ·exact⟨1,rfl,by omega⟩
      ·exact⟨2,rfl,by omega⟩
      ·exact⟨4,rfl,by omega⟩
     obtain⟨B,hB,hT⟩:∃B:Int,B≤4294967296∧rJ s≤B:=⟨_,fP _,aH1 s⟩;have HB:=aA hB;clear hB;generalize hTT:rJ s=T at h4 hT;subst hS;have HT:=aA hTT;clear hTT;rcases(show o=1∨o=2 by omega)with ho|ho
     ·have e2:kL n S o=MZ S n:=by unfold kL;rw[if_pos e,if_pos ho];rfl
      rw[e,e2];obtain⟨hnB,H3,HSb⟩:=aG (show n≤B by omega) h3 hSb;have q1:decide (o<1)=false:=by simp;omega
      have q2:decide (2<o)=false:=by simp;omega
      have q3:(o==1)=true:=by simp;omega
      have q4:decide (n<0)=false:=by simp;omega
      have q5:decide (T≤n)=false:=by simp;omega
      clear ho h3 h4;clear e e2 h1 h2 hT hSb;go_enter Tryz.func188,Tryz.ntmps188;go_wp2_with (go_at_call 241;refine(SL _ _).mono ?_;rw[HT.o];rintro e w' ⟨rfl,rfl⟩)
      go_loopw [0,8,9] (fun nv v i wr=>∃(k:Nat) (nk:Int) (a4:Option Addr) (c4:Nat) (l:List Int),k≤S∧nv= .int .i64 nk∧0≤nk∧Hid (nk≤B)∧v= .slice a4 k c4∧i= .int .i64 k∧Hid (wr.ownsRow w.heap.size 5 1 (.slice a4 k c4) k (ints .u8 l))∧Hid (l++MZ (S - k) nk=MZ S n)∧Hid (Below w.heap.size w wr)) (fun _ _ i _=>S - (intOf i).toNat)
      case atStart=>exact⟨0,n,none,0, [],by omega,rfl,by have:=H3.o;omega,hnB,rfl,rfl,aA (kC _ _ _ _),aA (by simp),aA (aW _ _)⟩
      case round=>
       obtain⟨k,nk,a4,c4,l,hk,rfl,hn0,hn1,rfl,rfl,Ho,Hl,Hb⟩:=hrel;by_cases hlt:k<S
       ·have hk4:k≤4:=by have:=HSb.o;omega
        have hnn:=hn1.o;have hBB:=HB.o;obtain⟨r,hr⟩:=aC (nk % 256);obtain⟨q,hq⟩:=aC (nk / 256);have hm1:Int.tmod nk 256=r:=by rw[iC hn0];exact hr
        have hm2:Int.tdiv nk 256=q:=by rw[Int.tdiv_eq_ediv_of_nonneg hn0];exact hq
        have LK:IntKind.u8.wrap r=r:=by rw[IntKind.wrap_u8];omega
        have MJ:=aB r (by omega);have hm5:=aB q (by omega);obtain⟨Hq0,HqB,Hr,Hq,Hn0⟩:=aI (show 0≤q by omega) (show q≤B by omega) hr hq hn0;clear hr hq hnn hBB hn0;go_wp2_with (at_builtin;refine o5 rfl _ _ 24 rfl w.heap.size 5 i0 _ 1 1 Tryz.underlying24 hi hz0 hz1 hz2 rfl (by decide) _ k _ rfl (World.ownsRow.alloc Ho.o _) _ 1 1 _ rfl (Sl.new wr 5 1 1 _ (0,0) (by omega) rfl) (by simp[Value.oneCell']) (by have:=HSb.o;omega) (by decide) (by have:=Hb.o.size;simp;omega) ?_;intro a5 c5 w2 ob hb2 hg2;clear hg2;obtain⟨Ob,Hb2⟩:=aF ob ((Hb.o.alloc Hb.o.size _).trans hb2);clear ob hb2)
        go_roundw
        case rel=>exact⟨k+1,q,a5,c5,l++ [r],by omega,rfl,Hq0.o,HqB,rfl,by have:=HSb.o;go_num,aA (by have h1:=Ob.o;rw[rR];exact h1),aA (by
         have h0:=Hl.o;rw[show S - k=(S - (k+1))+1 by omega]at h0;simp only[MZ]at h0;rw[dB,←Hr.o,←Hq.o];exact h0),Hb2⟩
        case measure=>have:=HSb.o;simp[intOf];omega
       ·obtain rfl:k=S:=by omega
        have hl:=Hl.o;rw[gZ]at hl;simp only[MZ,dM]at hl;have HL:=aA hl;clear hl;go_wp2;go_ret2;exact⟨_,_,_,rfl,by rw[←HL.o];exact Ho.o,Hb.o⟩
     ·have e2:kL n S o=(MZ S n).reverse:=by unfold kL;rw[if_pos e,if_neg (show ¬o=1 by omega)];rfl
      rw[e,e2];obtain⟨hnB,H3,HSb⟩:=aG (show n≤B by omega) h3 hSb;have q1:decide (o<1)=false:=by simp;omega
      have q2:decide (2<o)=false:=by simp;omega
      have q3:(o==1)=false:=by simp;omega
      have q4:decide (n<0)=false:=by simp;omega
      have q5:decide (T≤n)=false:=by simp;omega
      clear ho h3 h4;clear e e2 h1 h2 hT hSb;go_enter Tryz.func188,Tryz.ntmps188;go_wp2_with (go_at_call 241;refine(SL _ _).mono ?_;rw[HT.o];rintro e w' ⟨rfl,rfl⟩)
      go_loopw [0,8,9] (fun nv v i wr=>∃(k:Nat) (nk:Int) (a4:Option Addr) (c4:Nat) (l:List Int),k≤S∧nv= .int .i64 nk∧0≤nk∧Hid (nk≤B)∧v= .slice a4 k c4∧i= .int .i64 k∧Hid (wr.ownsRow w.heap.size 5 1 (.slice a4 k c4) k (ints .u8 l))∧Hid (l.reverse++MZ (S - k) nk=MZ S n)∧Hid (Below w.heap.size w wr)) (fun _ _ i _=>S - (intOf i).toNat)
      case atStart=>exact⟨0,n,none,0, [],by omega,rfl,by have:=H3.o;omega,hnB,rfl,rfl,aA (kC _ _ _ _),aA (by simp),aA (aW _ _)⟩
      case round=>
       obtain⟨k,nk,a4,c4,l,hk,rfl,hn0,hn1,rfl,rfl,Ho,Hl,Hb⟩:=hrel;by_cases hlt:k<S
       ·have hk4:k≤4:=by have:=HSb.o;omega
        have hnn:=hn1.o;have hBB:=HB.o;obtain⟨r,hr⟩:=aC (nk % 256);obtain⟨q,hq⟩:=aC (nk / 256);have hm1:Int.tmod nk 256=r:=by rw[iC hn0];exact hr
        have hm2:Int.tdiv nk 256=q:=by rw[Int.tdiv_eq_ediv_of_nonneg hn0];exact hq
        have LK:IntKind.u8.wrap r=r:=by rw[IntKind.wrap_u8];omega
        have MJ:=aB r (by omega);have hm5:=aB q (by omega);obtain⟨Hq0,HqB,Hr,Hq,Hn0⟩:=aI (show 0≤q by omega) (show q≤B by omega) hr hq hn0;clear hr hq hnn hBB hn0;go_wp2_with (at_builtin;refine o5 rfl _ _ 24 rfl wr.heap.size 5 i0 _ 1 1 Tryz.underlying24 hi hz0 hz1 hz2 rfl (by decide) _ 1 _ rfl (WN wr wr.heap.size 5 1 1 _ (aU _) (by unfold maxLen;omega) rfl) _ k c4 _ rfl (wM (Sl.jX Ho.o).1 _) sM (by have:=HSb.o;omega) (by decide) (by simp) ?_;intro a5 c5 w2 ob hb2 hg2;clear hg2;obtain⟨Ob,Hb2⟩:=aF (kK ob Hb.o.size) ((Hb.o.alloc Hb.o.size _).trans (hb2.mono Hb.o.size));clear ob hb2)
        go_roundw
        case rel=>exact⟨k+1,q,a5,c5,r::l,by omega,rfl,Hq0.o,HqB,by rw[Nat.add_comm],by have:=HSb.o;go_num,aA (by have h1:=Ob.o;rw[Nat.add_comm 1 k]at h1;exact h1),aA (by
         have h0:=Hl.o;rw[show S - k=(S - (k+1))+1 by omega]at h0;simp only[MZ]at h0;rw[←Hr.o,←Hq.o];simpa using h0),Hb2⟩
        case measure=>have:=HSb.o;simp[intOf];omega
       ·obtain rfl:k=S:=by omega
        have hl:=Hl.o;rw[gZ]at hl;simp only[MZ,dM]at hl;have HL:=aA hl;clear hl;go_wp2;go_ret2;exact⟨_,_,_,rfl,by rw[←HL.o,List.reverse_reverse];exact Ho.o,Hb.o⟩
theorem a8B {x y:List Int} (h:x.length=y.length) (hg:∀k,k<x.length→x.getD k 0=y.getD k 0):x=y:=by
 refine gH h (fun k h1 h2=>?_);have:=hg k h1;rwa [jI h1,jI h2]at this
theorem yN (g o n c:Nat) (p:List Int) (T:TypeId) (w:World) (hr:Row w g T .u8 p) (h1:o+n≤p.length) (hn:n≤1000000):
  Calls Tryz.prog 149 #[.slice (some ⟨g,o,none⟩) n c] w fun e w'=>e= .returned (.tuple #[])∧∃p':List Int,Row w' g T .u8 p'∧p'.length=p.length∧(∀k,k<p.length→p'.getD k 0=if o≤k∧k<o+n then p.getD (2*o+n - 1 - k) 0 else p.getD k 0)∧But g w w':=by
 have hsz:(ints .u8 p).toArray.size=p.length:=by simp[ints]
 have hget:∀k,k<p.length→(ints .u8 p).toArray[k]? =some (.int .u8 (p.getD k 0)):=fun k hk=>by
  rw[List.getElem?_toArray];exact oW hk
 refine(a8A g o n c (ints .u8 p).toArray ((p.drop o).take n) T w hr (by simp;omega) hn (fun k hk=>?_)).mono ?_
 ·rw[hget _ (by omega)];congr 2
  rw[aV,aV,dI,if_pos hk,eT]
 ·rintro e w' ⟨rfl,cs',hb,hs,hin,hout,tX⟩;refine⟨rfl,(List.range p.length).map (fun k=>if o≤k∧k<o+n then p.getD (2*o+n - 1 - k) 0 else p.getD k 0),?_,by simp,fun k hk=>?_,tX⟩
  ·have:cs'=(ints .u8 ((List.range p.length).map (fun k=>if o≤k∧k<o+n then p.getD (2*o+n - 1 - k) 0 else p.getD k 0))).toArray:=by
    refine Array.ext_getElem? (fun k=>?_);by_cases hk:k<p.length
    ·refine Eq.trans ?_ (Eq.trans (oW (k:= .u8) (l:=(List.range p.length).map (fun k=>if o≤k∧k<o+n then p.getD (2*o+n - 1 - k) 0 else p.getD k 0)) (i:=k) (by simpa using hk)).symm (by simp));rw[jI (by simpa using hk)];simp only[fD,List.getElem_range];by_cases hi:o≤k∧k<o+n
     ·have:=hin (k - o) (by omega);rw[show o+(k - o)=k by omega]at this;rw[this,if_pos hi];congr 2
      rw[aV,aV,dI,if_pos (by omega),eT];congr 2;omega
     ·rw[hout k (by omega),if_neg hi,hget k hk]
    ·rw[iA (by rw[hs,hsz];omega),iA (by simp[ints];omega)]
   unfold Row;rw[←this];exact hb
  ·rw[jI (by simpa using hk)];simp
theorem aW1 (s:Int) (h:s=1∨s=2∨s=4) (w:World):Calls Tryz.prog 148 #[.int .i64 s] w fun e w'=>e= .returned (.int .i64 (rJ s))∧w=w':=by
 rcases h with rfl|rfl|rfl
 all_goals
  go_enter Tryz.func148,Tryz.ntmps148;go_wp2;go_ret;exact⟨rfl,rfl⟩
theorem aJ9 {n s o:Int} (h:FY s o=false):kX n s o=false:=by
 unfold FY at h;unfold kX rJ;simp at h ⊢;intro h1 h2 h3;split <;> (try split) <;> (try split) <;> omega
theorem aH2:∀(k:Nat) (n:Int) (i:Nat),i<k→(MZ k n).getD i 0=n / 2 ^ (8*i) % 256
 |0,_,_,h=>by omega
 |k+1,n,0,_=>by simp[MZ]
 |k+1,n,i+1,h=>by
  simp only[MZ,aQ];rw[aH2 k _ i (by omega),Int.ediv_ediv_of_nonneg (by decide)];congr 2
  rw[show 8*(i+1)=8+8*i by omega,Int.pow_add];rfl
def XJ (s:Nat) (n:Int) (i:Nat):List Int:=List.replicate (s - i) 0++((MZ s n).take i).reverse
theorem aJA {s i:Nat} (n:Int) (h:i<s):(XJ s n i).set (s - 1 - i) (n / 2 ^ (8*i) % 256)=XJ s n (i+1):=by
 have hl:=LJ s n;unfold XJ;rw[show s - i=(s - (i+1))+1 by omega,List.replicate_succ',dB,show s - 1 - i=s - (i+1) by omega,List.set_append_right _ _ (by simp),List.length_replicate,gZ,take_snoc' (by rw[hl];exact h),aH2 s n i h];simp
theorem EN {L:Nat}:(madeCells (Value.int .u8 0).cells (L*1)).toList=ints .u8 (List.replicate L 0):=by
 rw[gU];show(madeCells #[Value.int .u8 0] L).toList=_
 rw[toList_madeCells_one];simp[ints]
theorem DC (n s o:Int) (w:World):Calls Tryz.prog 88 #[.int .i64 n,.int .i64 s,.int .i64 o] w fun e w'=>∃a m c,e= .returned (.tuple #[.slice a m c,.bool (kX n s o)])∧w'.ownsRow w.heap.size 5 1 (.slice a m c) m (ints .u8 (kL n s o))∧Below w.heap.size w w':=by
 obtain⟨i0,hi,hz0,hz1,hz2⟩:=info_parts a2B;have hmm:=fun W=>EM s o W;obtain⟨m,hm⟩:=aC (FY s o);rw[hm]at hmm;have hmm':=aA hmm;clear hmm;cases m
 ·have e1:=aJ9 (n:=n) hm;have e2:kL n s o= []:=by unfold kL;rw[e1];rfl
  rw[e1,e2];clear e1 e2 hm;go_enter Tryz.func88,Tryz.ntmps88;go_wp2_with (go_at_call 49;refine(hmm'.o _).mono ?_;rintro e w1 ⟨rfl,hb1⟩;have HB1:=aA hb1;clear hb1)
  go_ret2;exact⟨none,0,0,rfl,kC _ _ _ _,HB1.o⟩
 ·obtain⟨hsz,uN⟩:=a2A hm;clear hm;by_cases h0:n<0
  ·have e1:kX n s o=false:=by unfold kX;rw[decide_eq_false (show ¬0≤n by omega)];simp
   have e2:kL n s o= []:=by unfold kL;rw[e1];rfl
   rw[e1,e2];clear e1 e2 hsz uN;go_enter Tryz.func88,Tryz.ntmps88;go_wp2_with (go_at_call 49;refine(hmm'.o _).mono ?_;rintro e w1 ⟨rfl,hb1⟩;have HB1:=aA hb1;clear hb1)
   go_ret2;exact⟨none,0,0,rfl,kC _ _ _ _,HB1.o⟩
  ·have d1:decide (n<0)=false:=by simp;omega
   have HT:=aA (fun W=>aW1 s hsz W);by_cases h1:rJ s≤n
   ·have e1:kX n s o=false:=by unfold kX;rw[decide_eq_false (show ¬n<rJ s by omega)];simp
    have e2:kL n s o= []:=by unfold kL;rw[e1];rfl
    have d2:decide (rJ s≤n)=true:=by simp;omega
    rw[e1,e2];clear e1 e2 hsz uN;generalize rJ s=T at*;go_enter Tryz.func88,Tryz.ntmps88;go_wp2_with (first|(go_at_call 49;refine(hmm'.o _).mono ?_;rintro e w1 ⟨rfl,hb1⟩;have HB1:=aA hb1;clear hb1)|(go_at_call 148;refine(HT.o _).mono ?_;rintro e w1 ⟨rfl,rfl⟩))
    go_ret2;exact⟨none,0,0,rfl,kC _ _ _ _,HB1.o⟩
   ·have e1:kX n s o=true:=by unfold kX;simp;omega
    have d2:decide (rJ s≤n)=false:=by simp;omega
    have hT:=aH1 s;rw[e1];obtain⟨L,rfl⟩:∃L:Nat,s=L:=⟨s.toNat,by omega⟩;have hL1:1≤L:=by omega
    have hL4:L≤4:=by omega
    have e2:kL n L o=if o=1 then MZ L n else(MZ L n).reverse:=by unfold kL;rw[if_pos e1];rfl
    clear e1 hsz;generalize rJ L=T at*;have hst:=fun i (h:i<L)=>aJA (s:=L) (i:=i) n h;have hll:=LJ L n;have hp0:XJ L n 0=List.replicate L 0:=by unfold XJ;simp
    have hpl:XJ L n L=(MZ L n).reverse:=by unfold XJ;simp[bP (gT hll)]
    have aZU:∀i,i≤L→(XJ L n i).length=L:=fun i h=>by unfold XJ;simp[hll];omega
    obtain⟨hst',e2',aMU,bKH,hpl',XK⟩:=aJ hst e2 hll hp0 hpl aZU;clear hst e2 hll hp0 hpl aZU;go_enter Tryz.func88,Tryz.ntmps88;go_wp2_with (first|(go_at_call 49;refine(hmm'.o _).mono ?_;rintro e w1 ⟨rfl,hb1⟩;have HB1:=aA hb1;clear hb1)|(go_at_call 148;refine(HT.o _).mono ?_;rintro e w1 ⟨rfl,rfl⟩)|(at_make;refine wpList_make_full w1 rfl _ _ 24 rfl w1.heap.size 5 i0 _ 1 Tryz.underlying24 hi hz0 hz1 .i64 .i64 _ _ L rfl rfl rfl rfl (by rw[hz2];omega) (by unfold maxLen;omega) (aU _) ?_;intro w2 hown hg2;obtain⟨aW2,Hg2⟩:=aF hown hg2;clear hown hg2))
    have R2:Row w2 w1.heap.size 5 .u8 (List.replicate L 0):=by have h:=aW2.o;rw[EN]at h;exact Row.jX h
    have hb2:Below w.heap.size w w2:=HB1.o.trans (((aW _ _).grown Hg2.o (aU _) (fun k e=>by cases e)).mono HB1.o.size);obtain⟨g,hg⟩:=aC w1.heap.size;have hgw:w.heap.size≤g:=by rw[←hg];exact HB1.o.size
    rw[hg]at R2;rw[hg];clear HB1 aW2 Hg2 hg;obtain⟨R2',hb2'⟩:=aF R2 hb2;clear R2 hb2;go_loopw [28] (fun i wr=>∃(k:Nat),k≤L∧i= .int .i64 k∧Hid (Row wr g 5 .u8 (XJ L n k))∧Hid (Below w.heap.size w wr)) (fun i _=>L - (intOf i).toNat)
    case atStart=>exact⟨0,by omega,rfl,aA (by rw[bKH.o];exact R2'.o),hb2'⟩
    case round=>
     obtain⟨k,hk,rfl,hr,hb⟩:=hrel;by_cases hlt:k<L
     ·have hsh:(2:Int) ^ (8*(k:Int)).toNat=2 ^ (8*k):=by congr 1
      obtain⟨q,hq⟩:∃q:Nat,q=L - 1 - k:=⟨_,rfl⟩;have hw1:IntKind.i64.wrap ((L:Int) - 1)=L - 1:=by rw[aY];omega
      have hw2:IntKind.i64.wrap ((L:Int) - 1 - k)=q:=by rw[aY];omega
      have hw3:IntKind.u64.wrap (k:Int)=k:=by rw[gI];omega
      have hw4:IntKind.u64.wrap (8*(k:Int))=8*k:=by rw[gI];omega
      have hqL:(q:Int)<L:=by omega
      have f0:=hr.o.frozen q;have f1:=hr.o.cell (i:=q) (by rw[XK.o k hk];omega);have b4B:=hst'.o k hlt;have hw5:IntKind.u8.wrap (n / 2 ^ (8*k))=n / 2 ^ (8*k) % 256:=IntKind.wrap_u8 _;rw[←hq]at b4B;obtain⟨bB0,hq'⟩:=aF b4B hq;clear b4B hq;clear uN;go_wp2;go_roundw
      case rel=>exact⟨k+1,by omega,by go_num,aA (by have h:=hr.o.set q (n / 2 ^ (8*k) % 256);rw[bB0.o]at h;exact h),aA (hb.o.setCell (p:=⟨g,q,none⟩) hgw _)⟩
      case measure=>simp[intOf];omega
     ·obtain rfl:k=L:=by omega
      by_cases ho:o=1
      ·have d5:(o==1)=true:=by simp[ho]
       obtain⟨HR,ho'⟩:=aF (yN g 0 k k (XJ k n k) 5 wr hr.o (by rw[XK.o k hk];omega) (by omega)) ho;clear ho;clear uN;go_wp2_with (go_at_call 149;refine(HR.o).mono ?_;rintro e w3 ⟨rfl,p',hr3,hl3,hg3,hb3⟩;obtain⟨HR3,HL3,HG3,HB3⟩:=aH hr3 hl3 hg3 hb3;clear hr3 hl3 hg3 hb3)
       go_ret2;refine⟨some ⟨g,0,none⟩,k,k,rfl,?_,hb.o.trans (HB3.o.below hgw hb.o.size)⟩;rw[e2'.o,if_pos ho'.o];have:p'=MZ k n:=by
        have h1:=XK.o k hk;have h2:=aMU.o;refine a8B (by rw[HL3.o,h1,h2]) (fun i hik=>?_);rw[HL3.o,h1]at hik;rw[HG3.o i (by rw[h1];exact hik),if_pos (by omega),hpl'.o,aV,List.getElem?_reverse (by rw[h2];omega),aV,h2];congr 2;omega
       rw[←this];exact HR3.o.own (by rw[HL3.o,XK.o k hk]) hgw (by unfold maxLen;omega)
      ·have d5:(o==1)=false:=by simp[ho]
       have ho':=aA ho;clear ho;clear uN;go_wp2;go_ret2;refine⟨some ⟨g,0,none⟩,k,k,rfl,?_,hb.o⟩;rw[e2'.o,if_neg ho'.o,←hpl'.o];exact hr.o.own (XK.o k hk) hgw (by unfold maxLen;omega)
end Go.Proofs.YtceclmpmpldmlaaGreat
namespace Tt
open Go Go.RowKit
def aW3 (s:ByteArray):List Int:=s.data.toList.map fun b=>(b.toNat:Int)
section
variable {P:Program} {w:World} {ops:Array Oper} {rest:List Oper} {o:Oper} {a:Act} {Q:Exit→Act→World→Prop}
end
end Tt
namespace Go.Proofs.YtceclmpmpldmlaaGreat
open Go.RowKit Tt
def J7 (s o:Int):Bool:=FY s o||(s==8&&FY 1 o)
def zR (n p i:Nat):Nat:=if i<n - n % p then i - i % p+p - 1 - i % p else i
def turned (p:Nat) (b:List Int):List Int:=(List.range b.length).map fun i=>b.getD (zR b.length p i) 0
def oZ (b:List Int) (s o:Int):List Int:=if J7 s o=true then(if o=1 then turned s.toNat b else b)else []
theorem o7 (p:Nat) (b:List Int):(turned p b).length=b.length:=by simp[turned]
theorem NK {p i:Nat} {b:List Int} (h:i<b.length):(turned p b).getD i 0=b.getD (zR b.length p i) 0:=by
 rw[jI (by rw[o7];exact h)];simp[turned]
theorem aJB {n p i:Nat} (hp:0<p) (h:i<n):zR n p i<n:=by
 unfold zR;split
 ·rename_i h1;have:=Nat.mod_lt i hp;have h2:=Nat.div_add_mod i p;have h3:=Nat.div_add_mod n p;have h4:i / p<n / p:=by
   rw[Nat.div_lt_iff_lt_mul hp,Nat.mul_comm];omega
  have h5:p*(i / p+1)≤p*(n / p):=Nat.mul_le_mul_left p h4;rw[Nat.mul_succ]at h5;omega
 ·exact h
theorem XL {s o:Int} (h:J7 s o=true):(s=1∨s=2∨s=4∨s=8)∧(o=1∨o=2):=by
 unfold J7 FY at h;simp at h;omega
theorem aDC {p:Nat} {b:List Int} (hb:mW b):mW (turned p b):=by
 intro x hx;unfold turned at hx;obtain⟨i,_,rfl⟩:=cB.1 hx;exact hb.get _
theorem P5 {b:List Int} (hb:mW b) (s o:Int):mW (oZ b s o):=by
 unfold oZ;split
 ·split
  ·exact aDC hb
  ·exact hb
 ·intro x hx;cases hx
def NM (p q:Nat) (b cs:List Int):Prop:=cs.length=b.length∧∀k,k<b.length→cs.getD k 0=if k<q then b.getD (zR b.length p k) 0 else b.getD k 0
theorem DF {p q:Nat} {b cs cs':List Int} (hp:p=1∨p=2∨p=4∨p=8) (hq:q % p=0) (hqn:q+p≤b.length) (h:NM p q b cs) (hl:cs'.length=cs.length)
  (hg:∀k,k<cs.length→cs'.getD k 0=if q≤k∧k<q+p then cs.getD (2*q+p - 1 - k) 0 else cs.getD k 0):NM p (q+p) b cs':=by
 obtain⟨h1,h2⟩:=h;refine⟨hl.trans h1,fun k hk=>?_⟩;rw[hg k (by omega)];by_cases hi:q≤k∧k<q+p
 ·rw[if_pos hi,if_pos hi.2,h2 _ (by omega),if_neg (by omega)];congr 1
  unfold zR;rcases hp with rfl|rfl|rfl|rfl
  all_goals
   rw[if_pos (by omega)];omega
 ·rw[if_neg hi,h2 k hk];by_cases hk2:k<q
  ·rw[if_pos hk2,if_pos (by omega)]
  ·rw[if_neg hk2,if_neg (by omega)]
theorem FZ {p q:Nat} {b cs:List Int} (hp:p=1∨p=2∨p=4∨p=8) (hq:q % p=0) (hqn:b.length<q+p) (hqb:q≤b.length) (h:NM p q b cs):cs=turned p b:=by
 refine a8B (by rw[h.1,o7]) (fun k hk=>?_);rw[h.1]at hk;rw[h.2 k hk,NK hk];by_cases hk2:k<q
 ·rw[if_pos hk2]
 ·rw[if_neg hk2];unfold zR;rcases hp with rfl|rfl|rfl|rfl
  all_goals rw[if_neg (by omega)]
theorem G5 {b z:List Int} {n:Nat} (hb:b.length=n) (hz:z.length=n):splice z 0 (b.take n)=b:=by
 unfold splice;simp[hb,hz,bP (gT hb)]
theorem a4E {P:Program} {T E:TypeId} (ht:P.underlying T=some (.slice E)) (hE:∀w,(Go.sizeOf E).run P w= .ok 1 w) (g n q p:Nat) (hp:1≤p) (h:q+p≤n) (W:World):
  (Instr.sliceAt T (.slice (some ⟨g,0,none⟩) n n) (some (.int .i64 (q:Int))) (some (.int .i64 ((q:Int)+p))) none).run P W= .ok (.slice (some ⟨g,q,none⟩) p (n - q)) W:=by
 have he:P.elem T=E:=by unfold Program.elem;rw[ht]
 rw[run_sliceAt_slice (h:=by rw[he];exact ht),run_slice_lh (ht:=by rw[he];exact ht) (h0:=by omega) (h1:=by omega) (h2:=by omega),he,hE];simp only[Result.andThen,sliced];have e1:((q:Int)+p - q).toNat=p:=by omega
 have e2:¬n=q:=by omega
 simp[e1,e2,Addr.add];omega
theorem aMV (a:Option Addr) (n c:Nat) (b:List Int) (s o:Int) (w:World) (hs:Sl w a n c 1 (ints .u8 b)) (hn:n≤1000000000):
  Calls Tryz.prog 117 #[.slice a n c,.int .i64 s,.int .i64 o] w fun e w'=>∃a2 m c2,e= .returned (.slice a2 m c2)∧w'.ownsRow w.heap.size 5 1 (.slice a2 m c2) m (ints .u8 (oZ b s o))∧Below w.heap.size w w':=by
 obtain⟨i0,hi,hz0,hz1,hz2⟩:=info_parts a2B;have hbl:=hs.nV;have hle:=hs.le;have hmx:=hs.max;have hm1:=fun W=>EM s o W;have hm2:=fun W=>EM 1 o W;obtain⟨t,ht⟩:=aC (J7 s o);have hts:oZ b s o=if t=true then(if o=1 then turned s.toNat b else b)else []:=by unfold oZ;rw[ht]
 obtain⟨R,hR⟩:=aC (oZ b s o);rw[hR];rw[hR]at hts;replace hts:=hts.symm
 have ht':=ht;unfold J7 at ht';obtain⟨r1,hr1⟩:∃r,FY s o=r:=⟨_,rfl⟩;obtain⟨r2,hr2⟩:∃r,FY 1 o=r:=⟨_,rfl⟩;rw[hr1]at hm1 ht';rw[hr2]at hm2 ht';obtain⟨G6,VN,hs',qY,NN⟩:=aI hm1 hm2 hs hbl hts;clear hm1 hm2 hs hbl hts;clear hr1 hr2 hR;go_enter Tryz.func117,Tryz.ntmps117;cases t
 ·clear ht;cases r1
  ·by_cases h8:s=8
   ·subst h8;obtain rfl:r2=false:=by simpa using ht'
    clear ht';go_wp2_with fail
    refine(G6.o _).mono ?_;rintro e w1 ⟨rfl,hb1⟩;have HB1:=aA hb1;clear hb1;go_wp2_with fail
    refine(VN.o _).mono ?_;rintro e w2 ⟨rfl,hb2⟩;have HB2:=aA (HB1.o.tm hb2);clear hb2;go_wp2_with fail
    go_ret;exact⟨none,0,0,rfl,by rw[←NN.o];exact kC _ _ _ _,HB2.o⟩
   ·have d8:(s != 8)=true:=by simp[h8]
    clear ht';go_wp2_with fail
    refine(G6.o _).mono ?_;rintro e w1 ⟨rfl,hb1⟩;have HB1:=aA hb1;clear hb1;go_wp2_with fail
    go_ret;exact⟨none,0,0,rfl,by rw[←NN.o];exact kC _ _ _ _,HB1.o⟩
  ·simp at ht'
 ·obtain⟨hsz,uN⟩:=XL ht;obtain⟨p,rfl⟩:∃p:Nat,s=p:=⟨s.toNat,by omega⟩;have hp:p=1∨p=2∨p=4∨p=8:=by omega
  have hp1:1≤p:=by omega
  have hp8:p≤8:=by omega
  clear ht hsz;cases r1
  ·have h8:p=8:=by simp at ht';omega
   subst h8;obtain rfl:r2=true:=by simpa using ht'
   clear ht' hp;go_wp2_with fail
   refine(G6.o _).mono ?_;rintro e w1 ⟨rfl,hb1⟩;have HB1:=aA hb1;clear hb1;go_wp2_with fail
   refine(VN.o _).mono ?_;rintro e w2 ⟨rfl,hb2⟩;have HB2:=aA (HB1.o.tm hb2);clear hb2 HB1;go_wp2_with (first|(at_make;refine wpList_make_full w2 rfl _ _ 24 rfl w2.heap.size 5 i0 _ 1 Tryz.underlying24 hi hz0 hz1 .i64 .i64 _ _ n rfl rfl rfl rfl (by rw[hz2];omega) (by unfold maxLen;omega) (aU _) ?_;intro w3 hown hg2;have R3:=Row.jX (by rw[EN]at hown;exact hown);have H3:=(HB2).o.trans (((aW _ _).grown hg2 (aU _) (fun k e=>by cases e)).mono (HB2).o.size);clear hown hg2)|(refine vM rfl (.tmp 25) (.tmp 26) 24 24 rfl 5 Tryz.underlying24 (by rw[hi];simp[hz1]) w2.heap.size n .u8 _ rfl R3 (by simp) a n c b rfl (hs'.o.mono H3) w.heap.size w H3 (HB2).o.size ?_;intro w4 hr4 hb4;rw[G5 qY.o (by simp)]at hr4;clear R3 H3))
   obtain⟨g,hg⟩:=aC w2.heap.size;have hgw:w.heap.size≤g:=by rw[←hg];exact(HB2).o.size
   rw[hg]at hr4;rw[hg];clear HB2 hg;obtain⟨XM,tC⟩:=aF hr4 hb4;clear hr4 hb4;by_cases ho:o=1
   ·have d1:(o==1)=true:=by simp[ho]
    have ho':=aA ho;clear ho;clear uN;go_loopw [8] (fun i wr=>∃(q:Nat) (cs:List Int),q≤n∧i= .int .i64 q∧Hid (q % 8=0)∧Hid (Row wr g 5 .u8 cs)∧Hid (NM 8 q b cs)∧Hid (Below w.heap.size w wr)) (fun i _=>n - (intOf i).toNat)
    case atStart=>exact⟨0,b,by omega,rfl,aA (by simp),XM,aA ⟨rfl,fun k hk=>by simp⟩,tC⟩
    case round=>
     obtain⟨q,cs,hq,rfl,hqm,hr,htu,hb⟩:=hrel;have hw1:IntKind.i64.wrap ((q:Int)+8)=q+8:=by rw[aY];omega
     have hcl:=htu.o.1;rw[qY.o]at hcl;by_cases hlt:q+8≤n
     ·have d2:decide ((q:Int)+8≤n)=true:=by simp;omega
      have hRV:=fun cc=>yN g q 8 cc cs 5 wr hr.o (by omega) (by omega);have hsl:=a4E (P:=Tryz.prog) (T:=24) (E:=5) Tryz.underlying24 (fun W=>by kernel_rfl) g n q 8 (by omega) hlt;have aDD:=aA hRV;clear hRV;go_wp2_with (go_at_call 149;refine(aDD.o _).mono ?_;rintro e w5 ⟨rfl,p',hr5,hl5,hg5,hb5⟩;obtain⟨HR5,HL5,HG5,HB5⟩:=aH hr5 hl5 hg5 hb5;clear hr5 hl5 hg5 hb5)
      go_roundw
      case rel=>exact⟨q+8,p',by omega,by go_num,aA (by have:=hqm.o;first|omega|(rw[Nat.add_mod_right];exact this)),HR5,aA (DF (by omega) hqm.o (by rw[qY.o];omega) htu.o HL5.o HG5.o),aA (hb.o.trans (HB5.o.below hgw hb.o.size))⟩
      case measure=>simp[intOf];omega
     ·have d2:decide ((q:Int)+8≤n)=false:=by simp;omega
      go_wp2;go_ret;refine⟨some ⟨g,0,none⟩,n,n,rfl,?_,hb.o⟩;have:=FZ (p:=8) (by omega) hqm.o (by rw[qY.o];omega) (by rw[qY.o];exact hq) htu.o;have hr2:=hr.o;rw[this]at hr2;have hR:=NN.o;rw[if_pos trivial,if_pos ho'.o]at hR;rw[bU]at hR;rw[←hR];exact hr2.own (by rw[o7];exact qY.o) hgw (by unfold maxLen;omega)
   ·have d1:(o==1)=false:=by simp[ho]
    have ho':=aA ho;clear ho;clear uN;go_loopw [8] (fun i wr=>i= .int .i64 0∧wr=w4) (fun i _=>0)
    case atStart=>exact⟨rfl,rfl⟩
    case round=>
     obtain⟨rfl,rfl⟩:=hrel;go_wp2;go_ret;refine⟨some ⟨g,0,none⟩,n,n,rfl,?_,tC.o⟩;rw[←NN.o,if_pos trivial,if_neg ho'.o];exact XM.o.own qY.o hgw (by unfold maxLen;omega)
  ·clear ht';go_wp2_with fail
   refine(G6.o _).mono ?_;rintro e w2 ⟨rfl,hb2⟩;have HB2:=aA hb2;clear hb2;go_wp2_with (first|(at_make;refine wpList_make_full w2 rfl _ _ 24 rfl w2.heap.size 5 i0 _ 1 Tryz.underlying24 hi hz0 hz1 .i64 .i64 _ _ n rfl rfl rfl rfl (by rw[hz2];omega) (by unfold maxLen;omega) (aU _) ?_;intro w3 hown hg2;have R3:=Row.jX (by rw[EN]at hown;exact hown);have H3:=(HB2).o.trans (((aW _ _).grown hg2 (aU _) (fun k e=>by cases e)).mono (HB2).o.size);clear hown hg2)|(refine vM rfl (.tmp 25) (.tmp 26) 24 24 rfl 5 Tryz.underlying24 (by rw[hi];simp[hz1]) w2.heap.size n .u8 _ rfl R3 (by simp) a n c b rfl (hs'.o.mono H3) w.heap.size w H3 (HB2).o.size ?_;intro w4 hr4 hb4;rw[G5 qY.o (by simp)]at hr4;clear R3 H3))
   obtain⟨g,hg⟩:=aC w2.heap.size;have hgw:w.heap.size≤g:=by rw[←hg];exact(HB2).o.size
   rw[hg]at hr4;rw[hg];clear HB2 hg;obtain⟨XM,tC⟩:=aF hr4 hb4;clear hr4 hb4;by_cases ho:o=1
   ·have d1:(o==1)=true:=by simp[ho]
    have ho':=aA ho;clear ho;clear uN;go_loopw [8] (fun i wr=>∃(q:Nat) (cs:List Int),q≤n∧i= .int .i64 q∧Hid (q % p=0)∧Hid (Row wr g 5 .u8 cs)∧Hid (NM p q b cs)∧Hid (Below w.heap.size w wr)) (fun i _=>n - (intOf i).toNat)
    case atStart=>exact⟨0,b,by omega,rfl,aA (by simp),XM,aA ⟨rfl,fun k hk=>by simp⟩,tC⟩
    case round=>
     obtain⟨q,cs,hq,rfl,hqm,hr,htu,hb⟩:=hrel;have hw1:IntKind.i64.wrap ((q:Int)+p)=q+p:=by rw[aY];omega
     have hcl:=htu.o.1;rw[qY.o]at hcl;by_cases hlt:q+p≤n
     ·have d2:decide ((q:Int)+p≤n)=true:=by simp;omega
      have hRV:=fun cc=>yN g q p cc cs 5 wr hr.o (by omega) (by omega);have hsl:=a4E (P:=Tryz.prog) (T:=24) (E:=5) Tryz.underlying24 (fun W=>by kernel_rfl) g n q p (by omega) hlt;have aDD:=aA hRV;clear hRV;go_wp2_with (go_at_call 149;refine(aDD.o _).mono ?_;rintro e w5 ⟨rfl,p',hr5,hl5,hg5,hb5⟩;obtain⟨HR5,HL5,HG5,HB5⟩:=aH hr5 hl5 hg5 hb5;clear hr5 hl5 hg5 hb5)
      go_roundw
      case rel=>exact⟨q+p,p',by omega,by go_num,aA (by have:=hqm.o;first|omega|(rw[Nat.add_mod_right];exact this)),HR5,aA (DF (by omega) hqm.o (by rw[qY.o];omega) htu.o HL5.o HG5.o),aA (hb.o.trans (HB5.o.below hgw hb.o.size))⟩
      case measure=>simp[intOf];omega
     ·have d2:decide ((q:Int)+p≤n)=false:=by simp;omega
      go_wp2;go_ret;refine⟨some ⟨g,0,none⟩,n,n,rfl,?_,hb.o⟩;have:=FZ (p:=p) (by omega) hqm.o (by rw[qY.o];omega) (by rw[qY.o];exact hq) htu.o;have hr2:=hr.o;rw[this]at hr2;have hR:=NN.o;rw[if_pos trivial,if_pos ho'.o]at hR;rw[bU]at hR;rw[←hR];exact hr2.own (by rw[o7];exact qY.o) hgw (by unfold maxLen;omega)
   ·have d1:(o==1)=false:=by simp[ho]
    have ho':=aA ho;clear ho;clear uN;go_loopw [8] (fun i wr=>i= .int .i64 0∧wr=w4) (fun i _=>0)
    case atStart=>exact⟨rfl,rfl⟩
    case round=>
     obtain⟨rfl,rfl⟩:=hrel;go_wp2;go_ret;refine⟨some ⟨g,0,none⟩,n,n,rfl,?_,tC.o⟩;rw[←NN.o,if_pos trivial,if_neg ho'.o];exact XM.o.own qY.o hgw (by unfold maxLen;omega)
end Go.Proofs.YtceclmpmpldmlaaGreat
namespace Tt
open Go Go.RowKit
def fl {α:Type} (f:α→List Value) (l:List α):List Value:=l.flatMap f
section
variable {α:Type} {f:α→List Value} {k:Nat}
theorem WO (x:α) (r:List α):fl f (x::r)=f x++fl f r:=rfl
theorem a2D (x y:List α):fl f (x++y)=fl f x++fl f y:=by simp[fl]
theorem uO (x:List α) (y:α):fl f (x++ [y])=fl f x++f y:=by rw[a2D];simp[fl]
theorem NP (hf:∀x,(f x).length=k):∀(l:List α),(fl f l).length=l.length*k
 | []=>by simp[fl]
 |x::r=>by rw[WO,bO,NP hf r,hf x,dF,Nat.succ_mul,Nat.add_comm]
theorem aDE (hf:∀x,(f x).length=k) (d:α):∀{l:List α} {i j:Nat},i<l.length→j<k→(fl f l)[i*k+j]? =(f (l.getD i d))[j]?
 |x::r,0,j,_,hj=>by rw[WO,fV (by rw[hf x];omega),fJ,eX];rfl
 |x::r,i+1,j,hi,hj=>by
  have e:(i+1)*k+j - k=i*k+j:=by rw[Nat.succ_mul];omega
  rw[WO,iB (by rw[hf x,Nat.succ_mul];omega),hf x,e,aDE hf d (by simpa using hi) hj];rfl
theorem b4C (h1:∀x,∀u∈f x,u.oneCell'=true) {l:List α}:∀u∈fl f l,u.oneCell'=true:=by
 intro u hu;obtain⟨x,_,hx⟩:=dK.1 hu;exact h1 x u hx
theorem Sl.uY {w:World} {a:Option Addr} {n c:Nat} {l:List α} (hf:∀x,(f x).length=k) (hk:0<k) (h:Sl w a n c k (fl f l)):l.length=n:=by
 have:=h.len;rw[NP hf]at this;exact Nat.eq_of_mul_eq_mul_right hk this
theorem Sl.elem {w:World} {a:Option Addr} {n c:Nat} {l:List α} (hf:∀x,(f x).length=k) (hk:0<k) (d:α) (h:Sl w a n c k (fl f l)) {i:Nat} (hi:i<n):
  ∃b o,a=some ⟨b,o,none⟩∧b<w.heap.size∧∀j v,(f (l.getD i d))[j]? =some v→w.cell? ⟨b,o+i*k+j,none⟩=some v:=by
 have hl:=h.uY hf hk;obtain⟨b,o,rfl,hb,hc⟩:=h.at hi;refine⟨b,o,rfl,hb,fun j v hj=>?_⟩;have hjk:j<k:=by
  have:=(dZ.1 hj).1;rwa [hf]at this
 have:=hc (i*k+j) v ((aDE hf d (by omega) hjk).trans hj);rwa [←Nat.add_assoc]at this
end
end Tt
namespace Go.Proofs.YtceclmpmpldmlaaGreat
open Go.RowKit Tt
abbrev Lk:=Int×Int
def lkc (x:Lk):List Value:= [.int .i64 x.1,.int .i64 x.2]
theorem qD (x:Lk):(lkc x).length=2:=rfl
theorem a8C (FX:Nat) (hf:FX=254∨FX=214) (cap:Value) (a:Option Addr) (n c:Nat) (ls:List Lk) (p:Lk→Bool) (w:World) (hs:Sl w a n c 2 (fl lkc ls))
  (hc:∀W (x:Lk),Below w.heap.size w W→Calls Tryz.prog FX #[.agg #[.int .i64 x.1,.int .i64 x.2],cap] W fun e W'=>e= .returned (.bool (p x))∧Below W.heap.size W W'):
  Calls Tryz.prog 91 #[.slice a n c,.func (.func FX) #[] #[cap]] w fun e w'=>e= .returned (.int .i64 (fst p ls))∧Below w.heap.size w w':=by
 have hl:=hs.uY qD (by decide);have hm:=hs.max;have hle:=hs.le;obtain⟨hs',hc',hl'⟩:=aG hs hc hl;clear hs hc hl;rcases hf with rfl|rfl
 all_goals
  go_enter Tryz.func91,Tryz.ntmps91;go_wp2;go_loopw [8] (fun iv wr=>∃k:Nat,k≤n∧iv= .int .i64 k∧Hid (∀i (hi:i<ls.length),i<k→p ls[i]=false)∧Hid (Below w.heap.size w wr)) (fun iv _=>n - (intOf iv).toNat)
  case atStart=>exact⟨0,by omega,rfl,aA (fun j _ hj=>by omega),aA (aW _ _)⟩
  case round=>
   obtain⟨k,hk,rfl,hall,hb⟩:=hrel;by_cases hlt:k<n
   ·have hww:IntKind.i64.wrap ((k:Int)+1)=k+1:=by rw[aY];omega
    have hkl:k<ls.length:=by rw[hl'.o];exact hlt
    obtain⟨b,o,rfl,hbb,f⟩:=(hs'.o.mono hb.o).elem qD (by decide) (0,0) hlt;rw[jI hkl]at f;have f0:=f 0 _ rfl;have f1:=f 1 _ rfl;clear f;rw[cK]at f0;obtain⟨r,hr⟩:=aC (p (ls[k]'hkl));have HC:=hc'.o wr (ls[k]'hkl) hb.o;rw[hr]at HC;generalize (ls[k]'hkl).1=x1 at*;generalize (ls[k]'hkl).2=x2 at*;obtain⟨SK,hr'⟩:=aF HC hr;clear HC hr;go_wp2_with fail
    refine SK.o.mono ?_;rintro e w2 ⟨rfl,hb2⟩;have hbw:=hb.o.tm hb2;clear hb2;cases r with
    |true=>
     have jW:=aA hbw;clear hbw;go_wp2;go_ret;exact⟨by rw[J6 hkl hr'.o (fun i hi=>hall.o i (by omega) hi)];rfl,jW.o⟩
    |false=>
     have nK:∀i (hi:i<ls.length),i<k+1→p ls[i]=false:=fun i hi h=>by
      rcases eH i k with h1|h1
      ·exact hall.o i hi h1
      ·obtain rfl:i=k:=by omega
       exact hr'.o
     obtain⟨jW,lW⟩:=aF hbw nK;clear hbw nK;go_wp2;go_roundw
     case rel=>exact⟨k+1,by omega,by go_num,lW,jW⟩
     case measure=>simp[intOf];omega
   ·obtain rfl:k=n:=by omega
    go_wp2;go_ret;exact⟨by rw[NI (fun i hi=>hall.o i hi (by rw[hl'.o]at hi;exact hi))];rfl,hb.o⟩
theorem aMW (FX:Nat) (hf:FX=254∨FX=214) (cap:Value) (a:Option Addr) (n c:Nat) (ls:List Lk) (p:Lk→Bool) (w:World) (hs:Sl w a n c 2 (fl lkc ls))
  (hc:∀W (x:Lk),Below w.heap.size w W→Calls Tryz.prog FX #[.agg #[.int .i64 x.1,.int .i64 x.2],cap] W fun e W'=>e= .returned (.bool (p x))∧Below W.heap.size W W'):
  Calls Tryz.prog 227 #[.slice a n c,.func (.func FX) #[] #[cap]] w fun e w'=>e= .returned (.bool (ls.any p))∧Below w.heap.size w w':=by
 have HX:=a8C FX hf cap a n c ls p w hs hc;obtain⟨r,hr⟩:=aC (fst p ls);have ha:=yI (p:=p) (l:=ls);rw[hr]at HX ha;obtain⟨q,hq⟩:=aC (ls.any p);rw[hq]at ha ⊢;clear hs hc;obtain⟨HX',hr',hq'⟩:=aG HX hr hq;clear HX hr hq;rcases hf with rfl|rfl
 all_goals
  go_enter Tryz.func227,Tryz.ntmps227;go_wp2_with fail
  refine HX'.o.mono ?_;rintro e w2 ⟨rfl,hb2⟩;have hb2':=aA hb2;clear hb2;go_wp2;go_ret;exact⟨rfl,hb2'.o⟩
theorem aMX (FX:Nat) (hf:FX=114) (a:Option Addr) (n c:Nat) (ls:List Int) (p:Int→Bool) (w:World) (hs:Sl w a n c 1 (ints .u8 ls))
  (hc:∀W (x:Int),Below w.heap.size w W→Calls Tryz.prog FX #[.int .u8 x] W fun e W'=>e= .returned (.bool (p x))∧Below W.heap.size W W'):
  Calls Tryz.prog 166 #[.slice a n c,.func (.func FX) #[] #[]] w fun e w'=>e= .returned (.int .i64 (fst p ls))∧Below w.heap.size w w':=by
 have hl:=hs.nV;have hm:=hs.max;have hle:=hs.le;obtain⟨hs',hc',hl'⟩:=aG hs hc hl;clear hs hc hl;rcases hf with rfl
 all_goals
  go_enter Tryz.func166,Tryz.ntmps166;go_wp2;go_loopw [8] (fun iv wr=>∃k:Nat,k≤n∧iv= .int .i64 k∧Hid (∀i (hi:i<ls.length),i<k→p ls[i]=false)∧Hid (Below w.heap.size w wr)) (fun iv _=>n - (intOf iv).toNat)
  case atStart=>exact⟨0,by omega,rfl,aA (fun j _ hj=>by omega),aA (aW _ _)⟩
  case round=>
   obtain⟨k,hk,rfl,hall,hb⟩:=hrel;by_cases hlt:k<n
   ·have hww:IntKind.i64.wrap ((k:Int)+1)=k+1:=by rw[aY];omega
    have hkl:k<ls.length:=by rw[hl'.o];exact hlt
    obtain⟨b,o,rfl,hbb,f⟩:=(hs'.o.mono hb.o).at hlt;have f0:=f k _ (oW hkl);rw[jI hkl]at f0;clear f;obtain⟨r,hr⟩:=aC (p (ls[k]'hkl));have HC:=hc'.o wr (ls[k]'hkl) hb.o;rw[hr]at HC;generalize (ls[k]'hkl)=x1 at f0 HC;obtain⟨SK,hr'⟩:=aF HC hr;clear HC hr;go_wp2_with fail
    refine SK.o.mono ?_;rintro e w2 ⟨rfl,hb2⟩;have hbw:=hb.o.tm hb2;clear hb2;cases r with
    |true=>
     have jW:=aA hbw;clear hbw;go_wp2;go_ret;exact⟨by rw[J6 hkl hr'.o (fun i hi=>hall.o i (by omega) hi)];rfl,jW.o⟩
    |false=>
     have nK:∀i (hi:i<ls.length),i<k+1→p ls[i]=false:=fun i hi h=>by
      rcases eH i k with h1|h1
      ·exact hall.o i hi h1
      ·obtain rfl:i=k:=by omega
       exact hr'.o
     obtain⟨jW,lW⟩:=aF hbw nK;clear hbw nK;go_wp2;go_roundw
     case rel=>exact⟨k+1,by omega,by go_num,lW,jW⟩
     case measure=>simp[intOf];omega
   ·obtain rfl:k=n:=by omega
    go_wp2;go_ret;exact⟨by rw[NI (fun i hi=>hall.o i hi (by rw[hl'.o]at hi;exact hi))];rfl,hb.o⟩
theorem aMY (FX:Nat) (hf:FX=114) (a:Option Addr) (n c:Nat) (ls:List Int) (p:Int→Bool) (w:World) (hs:Sl w a n c 1 (ints .u8 ls))
  (hc:∀W (x:Int),Below w.heap.size w W→Calls Tryz.prog FX #[.int .u8 x] W fun e W'=>e= .returned (.bool (p x))∧Below W.heap.size W W'):
  Calls Tryz.prog 115 #[.slice a n c,.func (.func FX) #[] #[]] w fun e w'=>e= .returned (.bool (ls.any p))∧Below w.heap.size w w':=by
 have HX:=aMX FX hf a n c ls p w hs hc;obtain⟨r,hr⟩:=aC (fst p ls);have ha:=yI (p:=p) (l:=ls);rw[hr]at HX ha;obtain⟨q,hq⟩:=aC (ls.any p);rw[hq]at ha ⊢;clear hs hc;obtain⟨HX',hr',hq'⟩:=aG HX hr hq;clear HX hr hq;rcases hf with rfl
 all_goals
  go_enter Tryz.func115,Tryz.ntmps115;go_wp2_with fail
  refine HX'.o.mono ?_;rintro e w2 ⟨rfl,hb2⟩;have hb2':=aA hb2;clear hb2;go_wp2;go_ret;exact⟨rfl,hb2'.o⟩
def aMZ:List (Int×Int×Int):= [(0,0,0),(1,1,1),(1,1,1),(2,2,1),(4,4,1),(8,4,3),(1,1,2),(1,1,1),(2,2,2),(4,4,2),(8,4,4),(4,4,5),(8,8,5)]
def kH (n:Int):Int×Int×Int:=if n<0∨12<n then(0,0,0)else aMZ.getD n.toNat (0,0,0)
theorem SN {n:Int} (h:n<0∨12<n):kH n=(0,0,0):=if_pos h
theorem y9 (n:Int):0≤(kH n).1∧(kH n).1≤8:=by
 unfold kH;split
 ·exact⟨by decide,by decide⟩
 ·have:∀x∈aMZ,0≤x.1∧x.1≤8:=by decide
  rw[aV];cases h:aMZ[n.toNat]? with
  |none=>exact⟨by decide,by decide⟩
  |some x=>exact this x (List.mem_of_getElem? h)
theorem a1C (a:Option Addr) (n c:Nat) (x:List Int) (cv:Int) (w:World) (hs:Sl w a n c 1 (ints .u8 x)):
  Calls Tryz.prog 159 #[.slice a n c,.int .u8 cv] w fun e w'=>e= .returned (.int .i64 (Lib.indexByte (Lib.bytesOf x) cv.toNat.toUInt8))∧w=w':=by
 have hl:=hs.nV;cases a with
 |none=>
  have h1:=hs.fit rfl;have h2:=hs.le;subst h1;obtain rfl:n=0:=by omega
  obtain rfl:x= []:=dP hl;go_enter Tryz.func159,Tryz.ntmps159;go_wp2;rw[run_callFunc_extern Tryz.func226 (by kernel_rfl) (by kernel_rfl) (by kernel_rfl) (e:=Extern.BytealgIndexByte.indexByte) (by kernel_rfl),Lib.run_indexByteNil w 0 0 cv];simp only[Result.andThen];rw[Oper.upon_value];go_wp2;go_ret;exact⟨rfl,rfl⟩
 |some y=>
  have hc:∀i,i<n→w.cell? (y.add i)=some (.int .u8 (x.getD i 0)):=fun i hi=>by
   obtain⟨b,off,e,_,hc⟩:=hs.at hi;injection e with e;subst e;rw[Addr.add_lit];exact hc i _ (oW (by omega))
  go_enter Tryz.func159,Tryz.ntmps159;go_wp2;rw[run_callFunc_extern Tryz.func226 (by kernel_rfl) (by kernel_rfl) (by kernel_rfl) (e:=Extern.BytealgIndexByte.indexByte) (by kernel_rfl),Lib.run_indexByteAt w y n c x hl hc cv];simp only[Result.andThen];rw[Oper.upon_value];go_wp2;go_ret;exact⟨rfl,rfl⟩
