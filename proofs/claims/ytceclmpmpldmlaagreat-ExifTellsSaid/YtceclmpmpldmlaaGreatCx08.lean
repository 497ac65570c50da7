import Derived.Test.YtceclmpmpldmlaaGreatCx07
import Derived.Laws.Bits64
set_option linter.unusedSimpArgs false
set_option linter.unusedVariables false
set_option maxRecDepth 100000
set_option maxHeartbeats 8000000
namespace Go.Proofs.YtceclmpmpldmlaaGreat
open Go.RowKit Tt
theorem aG6 (w:World) (g:Nat) (T:TypeId) (cs:Array Value) (h:jW w g T cs):∃(S:Type) (f:S→World),Nonempty S∧(∀s,jW (f s) g T cs)∧∀W,jW W g T cs→∃s,W=f s:=
 ⟨{W:World // jW W g T cs},Subtype.val,⟨⟨w,h⟩⟩,fun s=>s.2,fun W h=>⟨⟨W,h⟩,rfl⟩⟩
def aQ6 (o n i:Nat) (l:List Int) (cs cs':Array Value):Prop:=
 cs'.size=cs.size∧(∀k,k<n→cs'[o+k]? =some (.int .u8 (if k<i∨n≤k+i then l.getD (n - 1 - k) 0 else l.getD k 0)))∧∀k,(k<o∨o+n≤k)→cs'[k]? =cs[k]?
theorem aBO (g o n c:Nat) (cs:Array Value) (l:List Int) (T:TypeId) (w:World) (hb:jW w g T cs) (hl:l.length=n) (hn:n≤1000000) (hc:∀k,k<n→cs[o+k]? =some (.int .u8 (l.getD k 0))):
  Calls Tryz.prog 149 #[.slice (some ⟨g,o,none⟩) n c] w fun e w'=>e= .returned (.tuple #[])∧∃cs':Array Value,jW w' g T cs'∧cs'.size=cs.size∧(∀k,k<n→cs'[o+k]? =some (.int .u8 (l.getD (n - 1 - k) 0)))∧(∀k,(k<o∨o+n≤k)→cs'[k]? =cs[k]?)∧But g w w':=by
 have hw0:IntKind.i64.wrap ((n:Int) - 1)=n - 1:=by rw[bF];omega
 obtain⟨mO,yI,hc'⟩:=aK hb hl hc;clear hb hl hc;go_enter Tryz.func149,Tryz.ntmps149;go_wp2;go_loopw [2,3] (fun iv jv wr=>∃(i:Nat) (cs':Array Value),2*i≤n+1∧iv= .int .i64 i∧jv= .int .i64 ((n:Int) - 1 - i)∧Hid (jW wr g T cs')∧Hid (aQ6 o n i l cs cs')∧Hid (But g w wr)) (fun iv _ _=>n - (intOf iv).toNat)
 case atStart=>
  refine⟨0,cs,by omega,rfl,by simp,mO,aA ⟨rfl,fun k hk=>?_,fun _ _=>rfl⟩,aA (But.refl _ _)⟩;rw[hc'.o k hk,if_neg aG]
 case round=>
  obtain⟨i,cs',yJ,rfl,rfl,WV,htu,Q7⟩:=hrel;by_cases hij:2*i+1<n
  ·obtain⟨j,hj⟩:∃j:Nat,j=n - 1 - i:=⟨_,rfl⟩;have J9:((n:Int) - 1 - i)=(j:Int):=by omega
   rw[J9];have kD:(i:Int)<(j:Int):=by omega
   have rD:i<n:=by omega
   have hjn:j<n:=by omega
   have hww:IntKind.i64.wrap ((i:Int)+1)=i+1:=by rw[bF];omega
   have bUY:IntKind.i64.wrap ((j:Int) - 1)=j - 1:=by rw[bF];omega
   have ci:=htu.o.2.1 i rD;have cj:=htu.o.2.1 j hjn;rw[if_neg aG]at ci cj;obtain⟨x,hx⟩:=aC (l.getD i 0);obtain⟨y,hy⟩:=aC (l.getD j 0);rw[hx]at ci;rw[hy]at cj;obtain⟨Ty,f,oJ,U1,jK⟩:=aG6 wr g T cs' WV.o;have q0:∀s,(f s).cell? ⟨g,o+i,none⟩=some (.int .u8 x):=fun s=>(U1 s).cell ci;have q1:∀s,(f s).cell? ⟨g,o+j,none⟩=some (.int .u8 y):=fun s=>(U1 s).cell cj;have HS:=aA (jK wr.drew WV.o);have p0:wr.drew.cell? ⟨g,o+i,none⟩=some (.int .u8 x):=jW.cell (w:=wr.drew) WV.o ci;have y0:wr.drew.frozen? ⟨g,o+i,none⟩=false:=jW.frozen (w:=wr.drew) WV.o (o+i);have jT:jW (wr.drew.setCell ⟨g,o+i,none⟩ (.int .u8 y)) g T (cs'.setIfInBounds (o+i) (.int .u8 y)):=jW.set (w:=wr.drew) WV.o (o+i) _;have p1:(wr.drew.setCell ⟨g,o+i,none⟩ (.int .u8 y)).cell? ⟨g,o+j,none⟩=some (.int .u8 y):=jT.cell (by rw[dX aG];exact cj);have y1:(wr.drew.setCell ⟨g,o+i,none⟩ (.int .u8 y)).frozen? ⟨g,o+j,none⟩=false:=jT.frozen (o+j);have jQ:jW (wr.setCell ⟨g,o+i,none⟩ (.int .u8 y)) g T (cs'.setIfInBounds (o+i) (.int .u8 y)):=jW.set (w:=wr) WV.o (o+i) _;have z0:wr.cell? ⟨g,o+j,none⟩=some (.int .u8 y):=jW.cell (w:=wr) WV.o cj;have z1:wr.frozen? ⟨g,o+j,none⟩=false:=jW.frozen (w:=wr) WV.o (o+j);have z2:(wr.setCell ⟨g,o+i,none⟩ (.int .u8 y)).cell? ⟨g,o+j,none⟩=some (.int .u8 y):=jQ.cell (by rw[dX aG];exact cj);have z3:(wr.setCell ⟨g,o+i,none⟩ (.int .u8 y)).frozen? ⟨g,o+j,none⟩=false:=jQ.frozen (o+j);clear jQ;have bUZ:¬(i=j):=by omega
   have bV0:¬(j=i):=by omega
   obtain⟨bDJ,jF,mE,ci',cj',TR,hy',RF,bNR⟩:=aQ U1 jK jT ci cj hx hy hj J9;clear U1 jK jT ci cj hx hy hj J9;go_wp2_with fail
   refine vN (t:=13) (C:=fun W=>∃s,W=f s) aF 16 rfl ?_;refine X7 [0,1,2,3,4,5,6,8,9,10] 6 aF aI aF aF aF HS.o ?_;simp only[jI,aW,aX,aU,aV];iterate 10 (go_big_quiet_step (fail))
   refine wpQuiet_nil ?_;refine nC [7,11] 4 aF aI aF aF aF HS.o ?_;simp only[jI,aW,aX,aU,aV];iterate 2 (go_big_quiet_step (fail))
   refine wpQuiet_nil ?_;refine X7 [12] 3 aF aI aF aF aF HS.o ?_;simp only[jI,aW,aX,aU,aV];iterate 1 (go_big_quiet_step (fail))
   refine wpQuiet_nil ?_;clear q0 q1;refine kV 13 2 aF aF ?_;simp only[jI,aW,aX,aU,aV];go_wp2_with fail
   first|refine Mid.mk ⟨fun h=>(by simp[WY]at h),?_⟩|refine Mid.mk ?_
   refine kV 14 1 aF aF ?_;simp only[jI,aW,aX,aU,aV];go_wp2_with fail
   first|refine Mid.mk ⟨fun h=>(by simp[WY]at h),?_⟩|refine Mid.mk ?_
   refine kV 15 0 aF aF ?_;simp only[jI,aW,aX,aU,aV];go_wp2_with fail
   first|refine Mid.mk ⟨fun h=>(by simp[WY]at h),?_⟩|refine Mid.mk ?_
   refine zD aF ?_;clear p0 p1 y0 y1 z0 z1 z2 z3;go_wp2_with fail
   go_roundw
   case rel=>
    refine⟨i+1,_,by omega,by go_num,by have:=bNR.o;show Value.int .i64 _=_;congr 1;omega,aA (mE.o.set (o+j) (.int .u8 x)),aA ⟨by simp[htu.o.1],fun k hk=>?_,fun k hk=>?_⟩,aA (((Q7.o.trans (But.of_below ((aY wr.heap.size wr).drew))).set _ _).set _ _)⟩
    ·have hjj:=RF.o;have rX:o+k<cs'.size:=by have:=htu.o.2.1 k hk;exact(bW.1 this).1
     by_cases rC:k=i
     ·subst rC;rw[dX aG,Array.getElem?_setIfInBounds_self_of_lt rX,if_pos aG,←hy'.o,hjj]
     ·by_cases hkj:k=j
      ·subst hkj;rw[Array.getElem?_setIfInBounds_self_of_lt (by simpa using rX),if_pos aG,←TR.o,show n - 1 - k=i by omega]
      ·rw[dX aG,dX aG,htu.o.2.1 k hk];by_cases h1:k<i∨n≤k+i
       ·rw[if_pos h1,if_pos aG]
       ·rw[if_neg h1,if_neg aG]
    ·rw[dX aG,dX aG];exact htu.o.2.2 k hk
   case measure=>simp[intOf];omega
  ·have hd:decide ((i:Int)<(n:Int) - 1 - i)=false:=by simp;omega
   go_wp2_with fail
   refine bodyPost_end (results_none rfl _ _ _) rfl ?_;refine⟨rfl,cs',WV.o,htu.o.1,fun k hk=>?_,htu.o.2.2,Q7.o⟩;rw[htu.o.2.1 k hk];by_cases h1:k<i∨n≤k+i
   ·rw[if_pos h1]
   ·rw[if_neg h1,show n - 1 - k=k by omega]
def fst {α:Type} (p:α→Bool) (l:List α):Int:=match l.findIdx? p with|some i=>i|none=> -1
theorem RL {α:Type} {p:α→Bool} {l:List α} {k:Nat} (hk:k<l.length) (h:p l[k]=true) (hn:∀i (hi:i<k),p (l[i]'aG)=false):fst p l=k:=by
 unfold fst;rw[List.findIdx?_eq_some_iff_getElem.2 ⟨hk,h,fun j hj=>by rw[hn j hj];simp⟩]
theorem X8 {α:Type} {p:α→Bool} {l:List α} (hn:∀i (hi:i<l.length),p l[i]=false):fst p l= -1:=by
 unfold fst;rw[List.findIdx?_eq_none_iff.2 (fun x hx=>by obtain⟨i,hi,rfl⟩:=eH hx;exact hn i hi)]
theorem BU {α:Type} {p:α→Bool} {l:List α}:decide (0≤fst p l)=l.any p:=by
 unfold fst;cases h:l.findIdx? p with
 |none=>
  rw[List.findIdx?_eq_none_iff]at h;simp only[show decide ((0:Int)≤ -1)=false from rfl];exact(List.any_eq_false.2 (fun x hx=>by rw[h x hx];simp)).symm
 |some i=>
  obtain⟨hi,hp,_⟩:=List.findIdx?_eq_some_iff_getElem.1 h;have h1:decide ((0:Int)≤(i:Int))=true:=by simp
  simp only[h1];exact(List.any_eq_true.2 ⟨_,bJ hi,hp⟩).symm
theorem jO {α:Type} {l:List α} {k:Nat} (hk:k<l.length) (d:α):l.getD k d=l[k]:=by rw[bH,bI hk];rfl
theorem aQ7 (fid:Nat) (hf:fid=110) (cap:Value) (a:Option Addr) (n c:Nat) (ls:List Int) (p:Int→Bool) (w:World) (hs:Sl w a n c 1 (ints .i64 ls))
  (hc:∀W (x:Int),Below w.heap.size w W→Calls Tryz.prog fid #[.int .i64 x,cap] W fun e W'=>e= .returned (.bool (p x))∧Below W.heap.size W W'):
  Calls Tryz.prog 163 #[.slice a n c,.func (.func fid) #[] #[cap]] w fun e w'=>e= .returned (.int .i64 (fst p ls))∧Below w.heap.size w w':=by
 have hl:=hs.nU;have hm:=hs.max;have BX:=hs.le;obtain⟨pX,hc',yI⟩:=aK hs hc hl;clear hs hc hl;rcases hf with rfl
 all_goals
  go_enter Tryz.func163,Tryz.ntmps163;go_wp2;go_loopw [8] (fun iv wr=>∃k:Nat,k≤n∧iv= .int .i64 k∧Hid (∀i (hi:i<ls.length),i<k→p ls[i]=false)∧Hid (Below w.heap.size w wr)) (fun iv _=>n - (intOf iv).toNat)
  case atStart=>exact⟨0,by omega,rfl,aA (fun j _ hj=>by omega),aA (aY _ _)⟩
  case round=>
   obtain⟨k,hk,rfl,kS,hb⟩:=hrel;by_cases kD:k<n
   ·have hww:IntKind.i64.wrap ((k:Int)+1)=k+1:=by rw[bF];omega
    have D6:k<ls.length:=by rw[yI.o];exact kD
    obtain⟨b,o,rfl,yZ,f⟩:=(pX.o.mono hb.o).at kD;have f0:=f k _ (oP D6);rw[jO D6]at f0;clear f;obtain⟨r,hr⟩:=aC (p (ls[k]'D6));have HC:=hc'.o wr (ls[k]'D6) hb.o;rw[hr]at HC;generalize (ls[k]'D6)=x1 at f0 HC;obtain⟨HC',qX⟩:=aJ HC hr;clear HC hr;go_wp2_with fail
    refine HC'.o.mono ?_;rintro e w2 ⟨rfl,jT⟩;have jZ:=hb.o.tm jT;clear jT;cases r with
    |true=>
     have jM:=aA jZ;clear jZ;go_wp2;go_ret;exact⟨by rw[RL D6 qX.o (fun i hi=>kS.o i aG hi)];rfl,jM.o⟩
    |false=>
     have nP:∀i (hi:i<ls.length),i<k+1→p ls[i]=false:=fun i hi h=>by
      rcases dM i k with h1|h1
      ·exact kS.o i hi h1
      ·obtain rfl:i=k:=by omega
       exact qX.o
     obtain⟨jM,lW⟩:=aJ jZ nP;clear jZ nP;go_wp2;go_roundw
     case rel=>exact⟨k+1,by omega,by go_num,lW,jM⟩
     case measure=>simp[intOf];omega
   ·obtain rfl:k=n:=by omega
    go_wp2;go_ret;exact⟨by rw[X8 (fun i hi=>kS.o i hi (by rw[yI.o]at hi;exact hi))];rfl,hb.o⟩
theorem aQ8 (fid:Nat) (hf:fid=110) (cap:Value) (a:Option Addr) (n c:Nat) (ls:List Int) (p:Int→Bool) (w:World) (hs:Sl w a n c 1 (ints .i64 ls))
  (hc:∀W (x:Int),Below w.heap.size w W→Calls Tryz.prog fid #[.int .i64 x,cap] W fun e W'=>e= .returned (.bool (p x))∧Below W.heap.size W W'):
  Calls Tryz.prog 109 #[.slice a n c,.func (.func fid) #[] #[cap]] w fun e w'=>e= .returned (.bool (ls.any p))∧Below w.heap.size w w':=by
 have HX:=aQ7 fid hf cap a n c ls p w hs hc;obtain⟨r,hr⟩:=aC (fst p ls);have ha:=BU (p:=p) (l:=ls);rw[hr]at HX ha;obtain⟨q,hq⟩:=aC (ls.any p);rw[hq]at ha ⊢;clear hs hc;obtain⟨HX',qX,hq'⟩:=aK HX hr hq;clear HX hr hq;rcases hf with rfl
 all_goals
  go_enter Tryz.func109,Tryz.ntmps109;go_wp2_with fail
  refine HX'.o.mono ?_;rintro e w2 ⟨rfl,jT⟩;have mE:=aA jT;clear jT;go_wp2;go_ret;exact⟨rfl,mE.o⟩
def EX (size order:Int):Bool:=(size==1||size==2||size==4)&&(order==1||order==2)
theorem aMM (n size:Int) (g:Nat) (w:World) (h:w.cell? ⟨g,0,none⟩=some (.int .i64 size)):
  Calls Tryz.prog 110 #[.int .i64 n,.pointer (some ⟨g,0,none⟩)] w fun e w'=>e= .returned (.bool (n==size))∧w=w':=by
 go_enter Tryz.func110,Tryz.ntmps110;go_wp2;go_ret;exact⟨rfl,rfl⟩
theorem UR (size order:Int) (w:World):
  Calls Tryz.prog 49 #[.int .i64 size,.int .i64 order] w fun e w'=>e= .returned (.bool (EX size order))∧Below w.heap.size w w':=by
 obtain⟨W1,pR⟩:∃W1,W1=(w.alloc (.cells #[.int .i64 size] 3)).alloc (.cells #[.int .i64 1,.int .i64 2,.int .i64 4] 48):=⟨_,rfl⟩;have jY:Below w.heap.size w W1:=by rw[pR];exact((aY _ _).alloc (aZ _) _).alloc (by simp) _
 have hc:W1.cell? ⟨w.heap.size,0,none⟩=some (.int .i64 size):=by
  rw[pR];unfold World.cell?;rw[sG _ _ (by simp),mZ];rfl
 have nL:Sl W1 (some ⟨w.heap.size+1,0,none⟩) 3 3 1 (ints .i64 [1,2,4]):=by
  rw[pR];exact Sl.new' _ _ 1 3 #[.int .i64 1,.int .i64 2,.int .i64 4] (0,0) (by simp) aG rfl
 have bMA:([1,2,4]:List Int).any (fun n=>n==size)=(size==1||size==2||size==4):=by
  simp only[List.any_cons,List.any_nil,Bool.or_false];rw[show((1:Int)==size)=(size==1) by exact Bool.beq_comm ..,show((2:Int)==size)=(size==2) by exact Bool.beq_comm ..,show((4:Int)==size)=(size==4) by exact Bool.beq_comm ..,Bool.or_assoc]
 have hc1:w.heap.size<W1.heap.size:=by rw[pR];simp;omega
 have HC:=aQ8 110 rfl (.pointer (some ⟨w.heap.size,0,none⟩)) _ 3 3 [1,2,4] (fun n=>n==size) W1 nL
  (fun W x hb=>(aMM x size _ _ (late hb hc1 hc)).mono fun e w' ⟨h1,h2⟩=>⟨h1,by rw[h2];exact aY _ _⟩)
 rw[bMA]at HC;have HC:=aA HC;obtain⟨r,hr⟩:=aC (EX size order);rw[hr];have Hb:=aA jY;clear hc nL jY bMA hc1;go_enter Tryz.func49,Tryz.ntmps49;go_upto_region 2 with fail
 rw[←pR];obtain⟨y8,qX⟩:=aJ pR hr;clear pR hr;go_wp2_with fail
 refine HC.o.mono ?_;rintro e w2 ⟨rfl,jT⟩;have Hb:=aA (Hb.o.tm jT);clear jT;have U9:=qX.o;unfold EX at U9;generalize (size==1||size==2||size==4)=s at*;have h1:∃b,(order==1)=b:=⟨_,rfl⟩;have h2:∃b,(order==2)=b:=⟨_,rfl⟩;obtain⟨b1,h1⟩:=h1;obtain⟨b2,h2⟩:=h2;rw[h1,h2]at U9;have aXE:=aA U9;clear U9;cases s <;> cases b1 <;> cases b2
 all_goals
  go_wp2;go_ret;exact⟨by rw[←aXE.o];rfl,Hb.o⟩
end Go.Proofs.YtceclmpmpldmlaaGreat
namespace Tt
open Go Go.RowKit
theorem b5R (a b:Nat) (ha:a<9223372036854775808) (hb:b<9223372036854775808):bits .or .i64 (a:Int) (b:Int)=((a|||b:Nat):Int):=by
 have hx:a|||b<2 ^ 63:=Nat.or_lt_two_pow aG aG
 have h1:(BitVec.ofInt 64 (a:Int)).toNat=a:=by rw[iZ,BitVec.toNat_ofNat];exact gY aG
 have h2:(BitVec.ofInt 64 (b:Int)).toNat=b:=by rw[iZ,BitVec.toNat_ofNat];exact gY aG
 show IntKind.i64.wrap ((BitVec.ofInt 64 (a:Int)|||BitVec.ofInt 64 (b:Int)).toNat:Int)=_
 rw[BitVec.toNat_or,h1,h2,bF];omega
theorem aY7 (a b:Nat) (ha:a<9223372036854775808) (hb:b<9223372036854775808):bits .and .i64 (a:Int) (b:Int)=((a&&& b:Nat):Int):=by
 have hx:a&&& b<2 ^ 63:=Nat.and_lt_two_pow _ aG;have h1:(BitVec.ofInt 64 (a:Int)).toNat=a:=by rw[iZ,BitVec.toNat_ofNat];exact gY aG
 have h2:(BitVec.ofInt 64 (b:Int)).toNat=b:=by rw[iZ,BitVec.toNat_ofNat];exact gY aG
 show IntKind.i64.wrap ((BitVec.ofInt 64 (a:Int)&&& BitVec.ofInt 64 (b:Int)).toNat:Int)=_
 rw[BitVec.toNat_and,h1,h2,bF];omega
theorem aY8 {N B:Int} (h0:0≤N) (h1:N<36028797018963968) (h2:0≤B) (h3:B<256):bits .or .i64 (N*256) B=N*256+B:=by
 obtain⟨a,rfl⟩:∃a:Nat,N=a:=⟨N.toNat,by omega⟩;obtain⟨b,rfl⟩:∃b:Nat,B=b:=⟨B.toNat,by omega⟩;have h:=b5R (a*256) b aG aG;have h4:=Nat.two_pow_add_eq_or_of_lt (i:=8) (b:=b) aG a;have h5:(2 ^ 8*a:Nat)=a*256:=by omega
 rw[h5]at h4;rw[←h4]at h;rw[show((a*256:Nat):Int)=(a:Int)*256 by omega,show((a*256+b:Nat):Int)=(a:Int)*256+b by omega]at h;exact h
def be (l:List Int):Int:=l.foldl (fun n b=>n*256+b) 0
theorem aY9 (l:List Int) (b:Int):be (l++ [b])=be l*256+b:=by unfold be;rw[gN];rfl
theorem take_snoc' {l:List Int} {j:Nat} (h:j<l.length):l.take (j+1)=l.take j++ [l.getD j 0]:=by
 rw[dS,bI h,bH,bI h];rfl
theorem a8Z {l:List Int} {j:Nat} (h:j<l.length):be (l.take (j+1))=be (l.take j)*256+l.getD j 0:=by rw[take_snoc' h,aY9]
theorem a1C {l:List Int} (h:tV l):∀{j:Nat},j≤l.length→0≤be (l.take j)∧be (l.take j)<256 ^ j
 |0,_=>by simp[be]
 |j+1,hj=>by
  have h1:=a1C h (j:=j) aG;have h2:=h.get j;rw[a8Z aG,Int.pow_succ];omega
end Tt
namespace Go.Proofs.YtceclmpmpldmlaaGreat
open Go.RowKit Tt
def X9 (z:List Int) (at_:Nat) (size:Nat) (order:Int):List Int:=if order=1 then((z.drop at_).take size).reverse else(z.drop at_).take size
def EY (n:Nat) (at_ size order:Int):Bool:=EX size order&&decide (0≤at_)&&decide (at_≤n - size)
def yN (z:List Int) (at_ size order:Int):Int:=if EY z.length at_ size order=true then be (X9 z at_.toNat size.toNat order)else 0
theorem a1D {z:List Int} {at_ size:Nat} {order:Int} (h:at_+size≤z.length):(X9 z at_ size order).length=size:=by
 unfold X9;split <;> simp <;> omega
theorem a1E {z:List Int} (hb:tV z) (at_ size:Nat) (order:Int):tV (X9 z at_ size order):=by
 unfold X9;split
 ·intro x hx;exact(hb.drop _).take _ x (List.mem_reverse.1 hx)
 ·exact(hb.drop _).take _
theorem aBP {z:List Int} {at_ size i:Nat} {order:Int} (h:at_+size≤z.length) (hi:i<size):(X9 z at_ size order).getD i 0=z.getD (if order=1 then at_+size - 1 - i else at_+i) 0:=by
 unfold X9;split
 ·rw[bH,List.getElem?_reverse (by simp;omega),dW];rw[if_pos (by simp;omega),fV,bH];congr 2
  simp;omega
 ·rw[bH,dW,if_pos hi,fV,bH]
theorem a7J {size order:Int} (h:EX size order=true):(size=1∨size=2∨size=4)∧(order=1∨order=2):=by
 unfold EX at h;simp at h;omega
theorem aYA (a:Option Addr) (n c:Nat) (z:List Int) (at_ size order:Int) (w:World) (hs:Sl w a n c 1 (ints .u8 z)) (hb:tV z):
  Calls Tryz.prog 14 #[.slice a n c,.int .i64 at_,.int .i64 size,.int .i64 order] w fun e w'=>e= .returned (.tuple #[.int .i64 (yN z at_ size order),.bool (EY n at_ size order)])∧Below w.heap.size w w':=by
 have qJ:=hs.nU;have BX:=hs.le;have LX:=hs.max;have UA:=fun W=>UR size order W;have hgv:yN z at_ size order=if EY n at_ size order=true then be (X9 z at_.toNat size.toNat order)else 0:=by unfold yN;rw[qJ]
 rw[hgv];obtain⟨m,hm⟩:=aC (EX size order);rw[hm]at UA;have hgb:EY n at_ size order=(m&&decide (0≤at_)&&decide (at_≤n - size)):=by unfold EY;rw[hm]
 rw[hgb];obtain⟨pX,mO,mX,aAR⟩:=aL hs hb qJ UA;clear hs hb qJ UA;clear hgv hgb;cases m
 ·clear hm;go_enter Tryz.func14,Tryz.ntmps14;go_wp2_with (go_at_call 49;refine(aAR.o _).mono ?_;rintro e w1 ⟨rfl,jY⟩;have HB1:=aA jY;clear jY)
  go_ret2;exact⟨rfl,HB1.o⟩
 ·obtain⟨rX,GA⟩:=a7J hm;clear hm;by_cases ha:at_<0
  ·have d1:decide (at_<0)=true:=by simp;omega
   have d2:decide (0≤at_)=false:=by simp;omega
   rw[d2];clear rX GA;go_enter Tryz.func14,Tryz.ntmps14;go_wp2_with (go_at_call 49;refine(aAR.o _).mono ?_;rintro e w1 ⟨rfl,jY⟩;have HB1:=aA jY;clear jY)
   go_ret2;exact⟨rfl,HB1.o⟩
  ·have d1:decide (at_<0)=false:=by simp;omega
   have d2:decide (0≤at_)=true:=by simp;omega
   rw[d2];obtain⟨A,rfl⟩:∃A:Nat,at_=A:=⟨at_.toNat,by omega⟩;obtain⟨s,rfl⟩:∃s:Nat,size=s:=⟨size.toNat,by omega⟩;have IY:1≤s:=by omega
   have hs4:s≤4:=by omega
   rw[bM,bM];have hwn:IntKind.i64.wrap ((n:Int) - s)=n - s:=by rw[bF];omega
   by_cases jT:(n:Int) - s<A
   ·have d3:decide ((n:Int) - s<A)=true:=by simp;omega
    have d4:decide ((A:Int)≤n - s)=false:=by simp;omega
    rw[d4];clear rX GA;go_enter Tryz.func14,Tryz.ntmps14;go_wp2_with (go_at_call 49;refine(aAR.o _).mono ?_;rintro e w1 ⟨rfl,jY⟩;have HB1:=aA jY;clear jY)
    go_ret2;exact⟨rfl,HB1.o⟩
   ·have d3:decide ((n:Int) - s<A)=false:=by simp;omega
    have d4:decide ((A:Int)≤n - s)=true:=by simp;omega
    rw[d4];have yV:=a1D (order:=order) (show A+s≤z.length by rw[mX.o];omega);have aG7:=a1E mO.o A s order;have a0H:=fun i hi=>aBP (z:=z) (at_:=A) (size:=s) (i:=i) (order:=order) (by rw[mX.o];omega) hi;obtain⟨L,hL⟩:=aC (X9 z A s order);rw[hL]at yV aG7 a0H ⊢;clear rX hL;obtain⟨HL,HLB,HG⟩:=aK yV aG7 a0H;clear yV aG7 a0H;have hAs:A+s≤n:=by omega
    go_enter Tryz.func14,Tryz.ntmps14;go_wp2_with (go_at_call 49;refine(aAR.o _).mono ?_;rintro e w1 ⟨rfl,jY⟩;have HB1:=aA jY;clear jY)
    go_loop [10,30] (fun v i=>∃k:Nat,k≤s∧i= .int .i64 k∧v= .int .i64 (be (L.take k))) (fun _ i=>s - (intOf i).toNat)
    case atStart=>exact⟨0,by omega,rfl,rfl⟩
    case round=>
     obtain⟨k,hk,rfl,rfl⟩:=hrel;by_cases kD:k<s
     ·have yZ:=a1C HLB.o (j:=k) (by rw[HL.o];omega);have zM:=a8Z (l:=L) (j:=k) (by rw[HL.o];exact kD);have oU:=HLB.o.get k;have hgk:=HG.o k kD;have h24:be (L.take k)<16777216:=by
       have:k=0∨k=1∨k=2∨k=3:=by omega
       rcases this with rfl|rfl|rfl|rfl <;> simp at yZ ⊢ <;> omega
      obtain⟨j,hj⟩:∃j,(if order=1 then A+s - 1 - k else A+k)=j:=⟨_,rfl⟩;have hjn:j<n:=by rw[←hj];split <;> omega
      obtain⟨b,o,rfl,aQ9,hc⟩:=(pX.o.mono HB1.o).at (i:=j) hjn;have f1:=hc j _ (oP (by rw[mX.o];exact hjn));rw[hj]at hgk;rw[←hgk]at f1;obtain⟨B,hB⟩:=aC (L.getD k 0);obtain⟨N,hN⟩:=aC (be (L.take k));rw[hB]at f1 zM oU;rw[hN]at zM yZ h24;rw[hN];have sS:=aB (N*256) aG;have hor:=aY8 (N:=N) (B:=B) aG aG oU.1 oU.2;have MQ:IntKind.i64.wrap ((A:Int)+k)=A+k:=by rw[bF];omega
      have HY:IntKind.i64.wrap ((A:Int)+s)=A+s:=by rw[bF];omega
      have ZL:IntKind.i64.wrap ((A:Int)+s - 1)=A+s - 1:=by rw[bF];omega
      have hw5:IntKind.i64.wrap ((A:Int)+s - 1 - k)=A+s - 1 - k:=by rw[bF];omega
      obtain⟨I7,AZ,hB',YD,bV1⟩:=aM zM yZ hB hN hgk;clear zM yZ hB hN hgk;obtain⟨pW,bT2⟩:=oU;clear hc;by_cases ho:order=1
      ·have d5:(order==1)=true:=by simp[ho]
       rw[if_pos ho]at hj;have J9:(A:Int)+s - 1 - k=(j:Int):=by omega
       rw[J9]at hw5;have b5S:(j:Int)<n:=by omega
       obtain⟨J8,RF⟩:=aJ ho hj;clear ho hj;clear GA MQ;go_wp2;go_round
       case rel=>exact⟨k+1,by omega,by go_num,by rw[I7.o]⟩
       case measure=>simp[intOf];omega
      ·have d5:(order==1)=false:=by simp[ho]
       rw[if_neg ho]at hj;have J9:(A:Int)+k=(j:Int):=by omega
       rw[J9]at MQ;have b5S:(j:Int)<n:=by omega
       obtain⟨J8,RF⟩:=aJ ho hj;clear ho hj;clear GA HY ZL hw5;go_wp2;go_round
       case rel=>exact⟨k+1,by omega,by go_num,by rw[I7.o]⟩
       case measure=>simp[intOf];omega
     ·obtain rfl:k=s:=by omega
      go_wp2;go_ret2;exact⟨by rw[bK (by rw[HL.o];omega)];rfl,HB1.o⟩
theorem aBQ {x y:List Int} (h:x.length=y.length) (hg:∀k,k<x.length→x.getD k 0=y.getD k 0):x=y:=by
 refine fE h (fun k h1 h2=>?_);have:=hg k h1;rwa [jO h1,jO h2]at this
theorem NG (g o n c:Nat) (p:List Int) (T:TypeId) (w:World) (hr:Row w g T .u8 p) (h1:o+n≤p.length) (hn:n≤1000000):
  Calls Tryz.prog 149 #[.slice (some ⟨g,o,none⟩) n c] w fun e w'=>e= .returned (.tuple #[])∧∃p':List Int,Row w' g T .u8 p'∧p'.length=p.length∧(∀k,k<p.length→p'.getD k 0=if o≤k∧k<o+n then p.getD (2*o+n - 1 - k) 0 else p.getD k 0)∧But g w w':=by
 have rX:(ints .u8 p).toArray.size=p.length:=by simp[ints]
 have a0H:∀k,k<p.length→(ints .u8 p).toArray[k]? =some (.int .u8 (p.getD k 0)):=fun k hk=>by
  rw[List.getElem?_toArray];exact oP hk
 refine(aBO g o n c (ints .u8 p).toArray ((p.drop o).take n) T w hr (by simp;omega) hn (fun k hk=>?_)).mono ?_
 ·rw[a0H _ aG];congr 2
  rw[bH,bH,dW,if_pos hk,fV]
 ·rintro e w' ⟨rfl,cs',hb,hs,yJ,bSK,Q7⟩;refine⟨rfl,(List.range p.length).map (fun k=>if o≤k∧k<o+n then p.getD (2*o+n - 1 - k) 0 else p.getD k 0),?_,by simp,fun k hk=>?_,Q7⟩
  ·have:cs'=(ints .u8 ((List.range p.length).map (fun k=>if o≤k∧k<o+n then p.getD (2*o+n - 1 - k) 0 else p.getD k 0))).toArray:=by
    refine Array.ext_getElem? (fun k=>?_);by_cases hk:k<p.length
    ·refine Eq.trans ?_ (Eq.trans (oP (k:= .u8) (l:=(List.range p.length).map (fun k=>if o≤k∧k<o+n then p.getD (2*o+n - 1 - k) 0 else p.getD k 0)) (i:=k) (by simpa using hk)).symm (by simp));rw[jO (by simpa using hk)];simp only[dZ,List.getElem_range];by_cases hi:o≤k∧k<o+n
     ·have:=yJ (k - o) aG;rw[show o+(k - o)=k by omega]at this;rw[this,if_pos hi];congr 2
      rw[bH,bH,dW,if_pos aG,fV];congr 2;omega
     ·rw[bSK k aG,if_neg hi,a0H k hk]
    ·rw[gW (by rw[hs,rX];omega),gW (by simp[ints];omega)]
   unfold Row;rw[←this];exact hb
  ·rw[jO (by simpa using hk)];simp
theorem aYB (s:Int) (h:s=1∨s=2∨s=4) (w:World):Calls Tryz.prog 148 #[.int .i64 s] w fun e w'=>e= .returned (.int .i64 (rF s))∧w=w':=by
 rcases h with rfl|rfl|rfl
 all_goals
  go_enter Tryz.func148,Tryz.ntmps148;go_wp2;go_ret;exact⟨rfl,rfl⟩
theorem aMN {n s o:Int} (h:EX s o=false):lZ n s o=false:=by
 unfold EX at h;unfold lZ rF;simp at h ⊢;intro h1 h2 h3;split <;> (try split) <;> (try split) <;> omega
theorem aK3:∀(k:Nat) (n:Int) (i:Nat),i<k→(ZV k n).getD i 0=n / 2 ^ (8*i) % 256
 |0,_,_,h=>by omega
 |k+1,n,0,_=>by simp[ZV]
 |k+1,n,i+1,h=>by
  simp only[ZV,aU];rw[aK3 k _ i aG,Int.ediv_ediv_of_nonneg aH];congr 2
  rw[show 8*(i+1)=8+8*i by omega,Int.pow_add];rfl
def a1F (s:Nat) (n:Int) (i:Nat):List Int:=List.replicate (s - i) 0++((ZV s n).take i).reverse
theorem aMO {s i:Nat} (n:Int) (h:i<s):(a1F s n i).set (s - 1 - i) (n / 2 ^ (8*i) % 256)=a1F s n (i+1):=by
 have hl:=UQ s n;unfold a1F;rw[show s - i=(s - (i+1))+1 by omega,List.replicate_succ',dH,show s - 1 - i=s - (i+1) by omega,List.set_append_right _ _ (by simp),List.length_replicate,iP,take_snoc' (by rw[hl];exact h),aK3 s n i h];simp
theorem NH {L:Nat}:(madeCells (Value.int .u8 0).cells (L*1)).toList=ints .u8 (List.replicate L 0):=by
 rw[jD];show(madeCells #[Value.int .u8 0] L).toList=_
 rw[toList_madeCells_one];simp[ints]
theorem KV (n s o:Int) (w:World):Calls Tryz.prog 88 #[.int .i64 n,.int .i64 s,.int .i64 o] w fun e w'=>∃a m c,e= .returned (.tuple #[.slice a m c,.bool (lZ n s o)])∧w'.ownsRow w.heap.size 5 1 (.slice a m c) m (ints .u8 (kZ n s o))∧Below w.heap.size w w':=by
 obtain⟨i0,hi,sN,oG,qK⟩:=info_parts aBK;have UA:=fun W=>UR s o W;obtain⟨m,hm⟩:=aC (EX s o);rw[hm]at UA;have aAR:=aA UA;clear UA;cases m
 ·have e1:=aMN (n:=n) hm;have e2:kZ n s o= []:=by unfold kZ;rw[e1];rfl
  rw[e1,e2];clear e1 e2 hm;go_enter Tryz.func88,Tryz.ntmps88;go_wp2_with (go_at_call 49;refine(aAR.o _).mono ?_;rintro e w1 ⟨rfl,jY⟩;have HB1:=aA jY;clear jY)
  go_ret2;exact⟨none,0,0,rfl,kF _ _ _ _,HB1.o⟩
 ·obtain⟨rX,GA⟩:=a7J hm;clear hm;by_cases h0:n<0
  ·have e1:lZ n s o=false:=by unfold lZ;rw[decide_eq_false (show ¬0≤n by omega)];simp
   have e2:kZ n s o= []:=by unfold kZ;rw[e1];rfl
   rw[e1,e2];clear e1 e2 rX GA;go_enter Tryz.func88,Tryz.ntmps88;go_wp2_with (go_at_call 49;refine(aAR.o _).mono ?_;rintro e w1 ⟨rfl,jY⟩;have HB1:=aA jY;clear jY)
   go_ret2;exact⟨none,0,0,rfl,kF _ _ _ _,HB1.o⟩
  ·have d1:decide (n<0)=false:=by simp;omega
   have HT:=aA (fun W=>aYB s rX W);by_cases h1:rF s≤n
   ·have e1:lZ n s o=false:=by unfold lZ;rw[decide_eq_false (show ¬n<rF s by omega)];simp
    have e2:kZ n s o= []:=by unfold kZ;rw[e1];rfl
    have d2:decide (rF s≤n)=true:=by simp;omega
    rw[e1,e2];clear e1 e2 rX GA;generalize rF s=T at*;go_enter Tryz.func88,Tryz.ntmps88;go_wp2_with (first|(go_at_call 49;refine(aAR.o _).mono ?_;rintro e w1 ⟨rfl,jY⟩;have HB1:=aA jY;clear jY)|(go_at_call 148;refine(HT.o _).mono ?_;rintro e w1 ⟨rfl,rfl⟩))
    go_ret2;exact⟨none,0,0,rfl,kF _ _ _ _,HB1.o⟩
   ·have e1:lZ n s o=true:=by unfold lZ;simp;omega
    have d2:decide (rF s≤n)=false:=by simp;omega
    have hT:=aK0 s;rw[e1];obtain⟨L,rfl⟩:∃L:Nat,s=L:=⟨s.toNat,by omega⟩;have hL1:1≤L:=by omega
    have hL4:L≤4:=by omega
    have e2:kZ n L o=if o=1 then ZV L n else(ZV L n).reverse:=by unfold kZ;rw[if_pos e1];rfl
    clear e1 rX;generalize rF L=T at*;have vI:=fun i (h:i<L)=>aMO (s:=L) (i:=i) n h;have hll:=UQ L n;have hp0:a1F L n 0=List.replicate L 0:=by unfold a1F;simp
    have BP:a1F L n L=(ZV L n).reverse:=by unfold a1F;simp[bK (gT hll)]
    have b1D:∀i,i≤L→(a1F L n i).length=L:=fun i h=>by unfold a1F;simp[hll];omega
    obtain⟨zN,e2',bDK,bNS,YG,a1G⟩:=aN vI e2 hll hp0 BP b1D;clear vI e2 hll hp0 BP b1D;go_enter Tryz.func88,Tryz.ntmps88;go_wp2_with (first|(go_at_call 49;refine(aAR.o _).mono ?_;rintro e w1 ⟨rfl,jY⟩;have HB1:=aA jY;clear jY)|(go_at_call 148;refine(HT.o _).mono ?_;rintro e w1 ⟨rfl,rfl⟩)|(at_make;refine wpList_make_full w1 rfl _ _ 24 rfl w1.heap.size 5 i0 _ 1 Tryz.underlying24 hi sN oG .i64 .i64 _ _ L rfl rfl rfl rfl (by rw[qK];omega) (by unfold maxLen;omega) (aZ _) ?_;intro w2 kY HZ;obtain⟨bDL,Hg2⟩:=aJ kY HZ;clear kY HZ))
    have R2:Row w2 w1.heap.size 5 .u8 (List.replicate L 0):=by have h:=bDL.o;rw[NH]at h;exact Row.jU h
    have jT:Below w.heap.size w w2:=HB1.o.trans (((aY _ _).grown Hg2.o (aZ _) (fun k e=>by cases e)).mono HB1.o.size);obtain⟨g,hg⟩:=aC w1.heap.size;have WO:w.heap.size≤g:=by rw[←hg];exact HB1.o.size
    rw[hg]at R2;rw[hg];clear HB1 bDL Hg2 hg;obtain⟨R2',mE⟩:=aJ R2 jT;clear R2 jT;go_loopw [28] (fun i wr=>∃(k:Nat),k≤L∧i= .int .i64 k∧Hid (Row wr g 5 .u8 (a1F L n k))∧Hid (Below w.heap.size w wr)) (fun i _=>L - (intOf i).toNat)
    case atStart=>exact⟨0,by omega,rfl,aA (by rw[bNS.o];exact R2'.o),mE⟩
    case round=>
     obtain⟨k,hk,rfl,hr,hb⟩:=hrel;by_cases kD:k<L
     ·have KN:(2:Int) ^ (8*(k:Int)).toNat=2 ^ (8*k):=by congr 1
      obtain⟨q,hq⟩:∃q:Nat,q=L - 1 - k:=⟨_,rfl⟩;have sS:IntKind.i64.wrap ((L:Int) - 1)=L - 1:=by rw[bF];omega
      have MQ:IntKind.i64.wrap ((L:Int) - 1 - k)=q:=by rw[bF];omega
      have HY:IntKind.u64.wrap (k:Int)=k:=by rw[IntKind.wrap_u64];omega
      have ZL:IntKind.u64.wrap (8*(k:Int))=8*k:=by rw[IntKind.wrap_u64];omega
      have hqL:(q:Int)<L:=by omega
      have f0:=hr.o.frozen q;have f1:=hr.o.cell (i:=q) (by rw[a1G.o k hk];omega);have b5T:=zN.o k kD;have hw5:IntKind.u8.wrap (n / 2 ^ (8*k))=n / 2 ^ (8*k) % 256:=IntKind.wrap_u8 _;rw[←hq]at b5T;obtain⟨bDM,hq'⟩:=aJ b5T hq;clear b5T hq;clear GA;go_wp2;go_roundw
      case rel=>exact⟨k+1,by omega,by go_num,aA (by have h:=hr.o.set q (n / 2 ^ (8*k) % 256);rw[bDM.o]at h;exact h),aA (hb.o.setCell (p:=⟨g,q,none⟩) WO _)⟩
      case measure=>simp[intOf];omega
     ·obtain rfl:k=L:=by omega
      by_cases ho:o=1
      ·have d5:(o==1)=true:=by simp[ho]
       obtain⟨HR,J8⟩:=aJ (NG g 0 k k (a1F k n k) 5 wr hr.o (by rw[a1G.o k hk];omega) aG) ho;clear ho;clear GA;go_wp2_with (go_at_call 149;refine(HR.o).mono ?_;rintro e w3 ⟨rfl,p',hr3,hl3,hg3,jQ⟩;obtain⟨HR3,HL3,HG3,HB3⟩:=aL hr3 hl3 hg3 jQ;clear hr3 hl3 hg3 jQ)
       go_ret2;refine⟨some ⟨g,0,none⟩,k,k,rfl,?_,hb.o.trans (HB3.o.below WO hb.o.size)⟩;rw[e2'.o,if_pos J8.o];have:p'=ZV k n:=by
        have h1:=a1G.o k hk;have h2:=bDK.o;refine aBQ (by rw[HL3.o,h1,h2]) (fun i hik=>?_);rw[HL3.o,h1]at hik;rw[HG3.o i (by rw[h1];exact hik),if_pos aG,YG.o,bH,List.getElem?_reverse (by rw[h2];omega),bH,h2];congr 2;omega
       rw[←this];exact HR3.o.own (by rw[HL3.o,a1G.o k hk]) WO (by unfold maxLen;omega)
      ·have d5:(o==1)=false:=by simp[ho]
       have J8:=aA ho;clear ho;clear GA;go_wp2;go_ret2;refine⟨some ⟨g,0,none⟩,k,k,rfl,?_,hb.o⟩;rw[e2'.o,if_neg J8.o,←YG.o];exact hr.o.own (a1G.o k hk) WO (by unfold maxLen;omega)
