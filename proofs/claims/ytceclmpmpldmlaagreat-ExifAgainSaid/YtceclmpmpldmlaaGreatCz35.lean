import Derived.Test.YtceclmpmpldmlaaGreatCz34
import Derived.Shelf.Slices.In.SortNone
set_option linter.unusedSimpArgs false
set_option linter.unusedVariables false
set_option maxRecDepth 100000
set_option maxHeartbeats 8000000
namespace Tt
open Go Go.RowKit
def Ap (v u:Value):Prop:=∀k,v.ownBlock=some k→u.ownBlock≠some k
theorem Ap.symm {v u:Value} (h:Ap v u):Ap u v:=fun k e e'=>h k e' e
theorem Ap.grown {v v' u:Value} {w:World} {B:Nat} {E:TypeId} {sz n:Nat} {xs:List Value} (h:Ap v u) (ho:∀k,v'.ownBlock=some k→v.ownBlock=some k∨w.heap.size≤k) (hu:w.ownsRow B E sz u n xs):Ap v' u:=fun k e e'=>by
 rcases ho k e with h1|h1
 ·exact h k h1 e'
 ·have:=(hu.lt k e').2;omega
theorem Ap.nil (u:Value):Ap (.slice none 0 0) u:=fun k e=>by cases e
end Tt
namespace Go.Proofs.YtceclmpmpldmlaaGreat
open Go.RowKit Tt
theorem aFY (x:Lk) (g:Nat) (tg:Int) (w:World) (hc:w.cell? ⟨g,0,none⟩=some (.int .i64 tg)) (hg:g<w.heap.size):
  Calls Tryz.prog 254 #[.agg #[.int .i64 x.1,.int .i64 x.2],.pointer (some ⟨g,0,none⟩)] w fun e w'=>e= .returned (.bool (x.1==tg))∧Below w.heap.size w w':=by
 have hc2:(w.alloc (.cells #[.int .i64 x.1,.int .i64 x.2] 32)).cell? ⟨g,0,none⟩=some (.int .i64 tg):=late (aD w _) hg hc;go_enter Tryz.func254,Tryz.ntmps254;go_wp2;go_ret;exact⟨rfl,(aW _ _).alloc (aU _) _⟩
theorem aS2 (x:Lk) (g:Nat) (tg:Int) (w:World) (hc:w.cell? ⟨g,0,none⟩=some (.int .i64 tg)) (hg:g<w.heap.size):
  Calls Tryz.prog 214 #[.agg #[.int .i64 x.1,.int .i64 x.2],.pointer (some ⟨g,0,none⟩)] w fun e w'=>e= .returned (.bool (x.1==tg))∧Below w.heap.size w w':=by
 have hc2:(w.alloc (.cells #[.int .i64 x.1,.int .i64 x.2] 32)).cell? ⟨g,0,none⟩=some (.int .i64 tg):=late (aD w _) hg hc;go_enter Tryz.func214,Tryz.ntmps214;go_wp2;go_ret;exact⟨rfl,(aW _ _).alloc (aU _) _⟩
def OP (s:lV) (l:List mK):List mK:=l.filter fun x=>kT s x.1
def pY (s:lV) (l:List mK):List mK:=l.filter fun x=> !kT s x.1&&nY s x.1
def mO (s:lV) (l:List mK):List mK:=l.filter fun x=> !qQ s x.1
theorem yH {α:Type} {l:List α} {i:Nat} {d:α} (p:α→Bool) (h:i<l.length):(l.take (i+1)).filter p=(l.take i).filter p++(if p (l.getD i d)=true then [l.getD i d]else []):=by
 rw[fA h,eF,jI h];congr 1
 by_cases hp:p l[i]=true <;> simp[hp]
structure Three (B:Nat) (w:World) (v1 v2 v3:Value) (l1 l2 l3:List mK):Prop where
 r1:w.ownsRow B 55 4 v1 l1.length (fl mY l1)
 r2:w.ownsRow B 55 4 v2 l2.length (fl mY l2)
 r3:w.ownsRow B 55 4 v3 l3.length (fl mY l3)
 a12:Ap v1 v2
 a13:Ap v1 v3
 a23:Ap v2 v3
theorem Three.later {B:Nat} {w w':World} {v1 v2 v3:Value} {l1 l2 l3:List mK} (h:Three B w v1 v2 v3 l1 l2 l3) (hb:Below w.heap.size w w'):Three B w' v1 v2 v3 l1 l2 l3:=
 ⟨jY h.r1 hb,jY h.r2 hb,jY h.r3 hb,h.a12,h.a13,h.a23⟩
theorem Three.app1 {B:Nat} {w w':World} {v1 v2 v3 v1':Value} {l1 l2 l3:List mK} {x:mK} (h:Three B w v1 v2 v3 l1 l2 l3) (hg:w.grownBy w' v1.ownBlock) (ho:∀k,v1'.ownBlock=some k→v1.ownBlock=some k∨w.heap.size≤k)
  (ob:w'.ownsRow B 55 4 v1' (l1.length+1) (fl mY l1++mY x)):Three B w' v1' v2 v3 (l1++ [x]) l2 l3:=
 ⟨by rw[bO,uO];exact ob,uR h.r2 hg (fun i e=>h.a12.symm i e),uR h.r3 hg (fun i e=>h.a13.symm i e),h.a12.grown ho h.r2,h.a13.grown ho h.r3,h.a23⟩
theorem Three.bFO {B:Nat} {w w':World} {v1 v2 v3 v2':Value} {l1 l2 l3:List mK} {x:mK} (h:Three B w v1 v2 v3 l1 l2 l3) (hg:w.grownBy w' v2.ownBlock) (ho:∀k,v2'.ownBlock=some k→v2.ownBlock=some k∨w.heap.size≤k)
  (ob:w'.ownsRow B 55 4 v2' (l2.length+1) (fl mY l2++mY x)):Three B w' v1 v2' v3 l1 (l2++ [x]) l3:=
 ⟨uR h.r1 hg (fun i e=>h.a12 i e),by rw[bO,uO];exact ob,uR h.r3 hg (fun i e=>h.a23.symm i e),(Ap.grown h.a12.symm ho h.r1).symm,h.a13,h.a23.grown ho h.r3⟩
theorem Three.bFP {B:Nat} {w w':World} {v1 v2 v3 v3':Value} {l1 l2 l3:List mK} {x:mK} (h:Three B w v1 v2 v3 l1 l2 l3) (hg:w.grownBy w' v3.ownBlock) (ho:∀k,v3'.ownBlock=some k→v3.ownBlock=some k∨w.heap.size≤k)
  (ob:w'.ownsRow B 55 4 v3' (l3.length+1) (fl mY l3++mY x)):Three B w' v1 v2 v3' l1 l2 (l3++ [x]):=
 ⟨uR h.r1 hg (fun i e=>h.a13 i e),uR h.r2 hg (fun i e=>h.a23 i e),by rw[bO,uO];exact ob,h.a12,(Ap.grown h.a13.symm ho h.r1).symm,(Ap.grown h.a23.symm ho h.r2).symm⟩
theorem aS3 {w:World} {B:Nat} {E:TypeId} {sz:Nat} {v:Value} {n:Nat} {xs:List Value} (h:w.ownsRow B E sz v n xs):∃a c,v= .slice a n c:=by
 rcases h.2 with ⟨rfl,h0⟩|⟨g,cap,cur,rfl,_⟩
 ·exact⟨none,0,by rw[h0]⟩
 ·exact⟨_,_,rfl⟩
theorem aLX (a:Option Addr) (n c:Nat) (es:List mK) (z:VQ) (w:World) (hs:Sl w a n c 4 (fl mY es)) (hl:Sl w z.1.1 z.1.2.1 z.1.2.2 2 (fl lkc z.2.1)) (hn:n≤1000000):
  Calls Tryz.prog 212 #[.slice a n c,.agg #[.slice z.1.1 z.1.2.1 z.1.2.2,.int .i64 z.2.2.1,.int .i64 z.2.2.2.1,.int .i64 z.2.2.2.2]] w fun e w'=>∃v1 v2 v3,e= .returned (.tuple #[v1,v2,v3])∧Three w.heap.size w' v1 v2 v3 (OP z.2 es) (pY z.2 es) (mO z.2 es)∧Below w.heap.size w w':=by
 obtain⟨⟨la,ln,lc⟩,sh⟩:=z;obtain⟨nH,sat,jE,nD⟩:=sh;simp only at hl ⊢;have hmf:∀(fn:Fn) (first cap:Array Value) (w:World),(Instr.makeFunc fn first cap).run Tryz.prog w= .ok (.func fn first cap) w:=fun _ _ _ _=>rfl;have hel:=hs.uY mG (by decide);have hle:=hs.le;have hmx:=hs.max;obtain⟨i0,z0,hi0,hz,hz1,hz2,hz3⟩:=M9 aRY aI7;obtain⟨sh,hsh⟩:∃sh:lV,(nH,sat,jE,nD)=sh:=⟨_,rfl⟩;have hlk:∀t,kT sh t=nH.any fun y=>y.1==t:=fun t=>by rw[←hsh];rfl
 have hpr:∀t,nY sh t=(decide (0<sat)&&(decide (t=sat)||decide (t=jE))):=fun t=>by rw[←hsh];rfl
 rw[hsh];have b1:=jJ.new w 35 #[.slice la ln lc,.int .i64 sat,.int .i64 jE,.int .i64 nD];have hb1:=aD w (.cells #[.slice la ln lc,.int .i64 sat,.int .i64 jE,.int .i64 nD] 35);clear hsh;obtain⟨hs',hl',aOG,aJK,aY2⟩:=aI hs hl hel hlk hpr;clear hs hl hel hlk hpr;go_enter Tryz.func212,Tryz.ntmps212;go_upto_region 1 with fail
 obtain⟨w1,hw1⟩:=aC (w.alloc (.cells #[.slice la ln lc,.int .i64 sat,.int .i64 jE,.int .i64 nD] 35));rw[hw1]at b1 hb1;try rw[hw1]
 clear hw1;obtain⟨b1',hb1'⟩:=aF b1 hb1;clear b1 hb1;go_wp2_with fail
 go_loopw [4,5,6,11] (fun tv pv rv iv wr=>∃i:Nat,i≤n∧iv= .int .i64 i∧Hid (Three w.heap.size wr tv pv rv (OP sh (es.take i)) (pY sh (es.take i)) (mO sh (es.take i)))∧Hid (jJ wr w.heap.size 35 #[.slice la ln lc,.int .i64 sat,.int .i64 jE,.int .i64 nD])∧Hid (Below w.heap.size w wr)) (fun _ _ _ iv _=>n - (intOf iv).toNat)
 case atStart=>exact⟨0,by omega,rfl,aA ⟨kC _ _ _ _,kC _ _ _ _,kC _ _ _ _,Ap.nil _,Ap.nil _,Ap.nil _⟩,b1',hb1'⟩
 case round=>
  obtain⟨i,hi,rfl,H,hbS,hb⟩:=hrel;by_cases hlt:i<n
  ·obtain⟨bb,oo,rfl,hbb,fe⟩:=(hs'.o.mono hb.o).elem mG (by decide) (0,0,0,0) hlt;obtain⟨⟨x1,x2,x3,x4⟩,hx⟩:∃x,es.getD i (0,0,0,0)=x:=⟨_,rfl⟩;rw[hx]at fe;have f0:=fe 0 _ rfl;have f1:=fe 1 _ rfl;have f2:=fe 2 _ rfl;have f3:=fe 3 _ rfl;simp only[cK]at f0 f1 f2 f3;clear fe;have hin:(i:Int)<n:=by omega
   have aLY:=yH (l:=es) (i:=i) (d:=(0,0,0,0)) (fun x=>kT sh x.1) (by rw[aOG.o];exact hlt);have aLZ:=yH (l:=es) (i:=i) (d:=(0,0,0,0)) (fun x=> !kT sh x.1&&nY sh x.1) (by rw[aOG.o];exact hlt);have aYA:=yH (l:=es) (i:=i) (d:=(0,0,0,0)) (fun x=> !qQ sh x.1) (by rw[aOG.o];exact hlt);rw[hx]at aLY aLZ aYA;simp only[qQ]at aLY aLZ aYA;obtain⟨a1,c1,rfl⟩:=aS3 H.o.r1;obtain⟨a2,c2,rfl⟩:=aS3 H.o.r2;obtain⟨a3,c3,rfl⟩:=aS3 H.o.r3;have hn1:(OP sh (es.take i)).length≤i:=by unfold OP;have:=List.length_filter_le (fun x:mK=>kT sh x.1) (es.take i);rw[eO]at this;omega
   have hn2:(pY sh (es.take i)).length≤i:=by unfold pY;have:=List.length_filter_le (fun x:mK=> !kT sh x.1&&nY sh x.1) (es.take i);rw[eO]at this;omega
   have hn3:(mO sh (es.take i)).length≤i:=by unfold mO;have:=List.length_filter_le (fun x:mK=> !qQ sh x.1) (es.take i);rw[eO]at this;omega
   change OP sh (es.take (i+1))=OP sh (es.take i)++_ at aLY
   change pY sh (es.take (i+1))=pY sh (es.take i)++_ at aLZ
   have aS4:mO sh (es.take (i+1))=mO sh (es.take i)++(if(!(kT sh x1||nY sh x1))=true then [(x1,x2,x3,x4)]else []):=aYA;clear aYA;rw[aJK.o,aY2.o]at aLZ aS4;rw[aJK.o]at aLY;clear hx;obtain⟨a0D,a0E,OQ⟩:=aG aLY aLZ aS4;clear aLY aLZ aS4;go_upto_region 5 with fail
   have b8:=jJ.new wr 55 #[.int .i64 x1,.int .i64 x2,.int .i64 x3,.int .i64 x4];have hal:=aD wr (.cells #[.int .i64 x1,.int .i64 x2,.int .i64 x3,.int .i64 x4] 55);have bS:=hbS.o.late hal;have H5:=H.o.later hal;have hb5:=hb.o.tm hal;clear f0 f1 f2 f3 hal;generalize wr.alloc (.cells #[.int .i64 x1,.int .i64 x2,.int .i64 x3,.int .i64 x4] 55)=w5 at*;generalize wr.heap.size=g8 at*;have c0:w5.cell? ⟨w.heap.size,0,none⟩=some (.slice la ln lc):=bS.cell rfl;have aS5:=b8.lt;have HC:=aMW 254 (.inl rfl) (.pointer (some ⟨g8,0,none⟩)) la ln lc nH (fun y=>y.1==x1) w5 (hl'.o.mono hb5) (fun W y hW=>aFY y g8 x1 W (late hW aS5 (b8.cell rfl)) (cO aS5 hW.size));obtain⟨r,hr⟩:=aC (nH.any fun y=>y.1==x1);rw[hr]at HC;replace a0D:=aA (by have h:=a0D.o;rw[hr]at h;exact h)
   replace a0E:=aA (by have h:=a0E.o;rw[hr]at h;exact h)
   replace OQ:=aA (by have h:=OQ.o;rw[hr]at h;exact h)
   obtain⟨SK,b8',bS',H5',EW,hr'⟩:=aJ HC b8 bS H5 hb5 hr;clear HC b8 bS H5 hb5 hr;go_wp2_with fail
   refine SK.o.mono ?_;rintro e w8 ⟨rfl,oV⟩;have b88:=b8'.o.late oV;have bS8:=bS'.o.late oV;obtain⟨H8,HB8⟩:=aF (H5'.o.later oV) (EW.o.tm oV);clear c0 oV b8' bS' H5' EW SK;have q0:w8.cell? ⟨g8,0,none⟩=some (.int .i64 x1):=b88.cell rfl;have q1:w8.cell? ⟨g8,1,none⟩=some (.int .i64 x2):=b88.cell rfl;have q2:w8.cell? ⟨g8,2,none⟩=some (.int .i64 x3):=b88.cell rfl;have q3:w8.cell? ⟨g8,3,none⟩=some (.int .i64 x4):=b88.cell rfl;have s1:w8.cell? ⟨w.heap.size,1,none⟩=some (.int .i64 sat):=bS8.cell rfl;have s2:w8.cell? ⟨w.heap.size,2,none⟩=some (.int .i64 jE):=bS8.cell rfl;obtain⟨aX5,a1V⟩:=aF b88 bS8;clear b88 bS8;cases r with
   |true=>
    have h1:OP sh (es.take (i+1))=OP sh (es.take i)++ [(x1,x2,x3,x4)]:=by rw[a0D.o];simp[*]
    have h2:pY sh (es.take (i+1))=pY sh (es.take i):=by rw[a0E.o];simp[*]
    have h3:mO sh (es.take (i+1))=mO sh (es.take i):=by rw[OQ.o];simp[*]
    go_wp2_with (at_builtin;refine lI rfl _ _ 154 rfl w.heap.size 55 i0 z0 4 32 Tryz.underlying154 hi0 hz hz1 hz2 hz3 (by decide) _ _ _ rfl (H8.o.later (aD w8 (.cells #[.int .i64 x1,.int .i64 x2,.int .i64 x3,.int .i64 x4] 55))).r1 ⟨w8.heap.size,0,none⟩ 1 1 (mY (x1,x2,x3,x4)) rfl (Sl.new w8 55 4 1 #[.int .i64 x1,.int .i64 x2,.int .i64 x3,.int .i64 x4] (0,0) (by omega) rfl) (xI _) (by omega) (by decide) (by have:=HB8.o.size;simp;omega) ?_;intro a5 c5 wa ob hga hoa;obtain⟨Ob,Hga,Hoa⟩:=aG ob hga hoa;clear ob hga hoa)
    have hal:=aD w8 (.cells #[.int .i64 x1,.int .i64 x2,.int .i64 x3,.int .i64 x4] 55);have H9:=(H8.o.later hal).app1 Hga.o Hoa.o Ob.o;have bS9:=(a1V.o.late hal).grown Hga.o (kE (H8.o.later hal).r1 (a1V.o.late hal) (by decide));have rO:=below_grown (HB8.o.tm hal) Hga.o (bK HB8.o.size hal.size) (H8.o.later hal).r1;clear q0 q1 q2 q3 s1 s2 hal;rw[←h1,←h2,←h3]at H9;obtain⟨H9',a7C,nZ⟩:=aG H9 bS9 rO;clear H9 bS9 rO;go_roundw
    case rel=>exact⟨i+1,by omega,by go_num,by first|exact H9'|(have h:=H9';simpa [*] using h),a7C,nZ⟩
    case measure=>simp[intOf];omega
   |false=>
    by_cases hp0:0<sat
    ·have d1:decide (0<sat)=true:=by simp;omega
     by_cases hp1:x1=sat
     ·have d2:(x1==sat)=true:=by simp[hp1]
      have h1:OP sh (es.take (i+1))=OP sh (es.take i):=by rw[a0D.o];simp[*]
      have h2:pY sh (es.take (i+1))=pY sh (es.take i)++ [(x1,x2,x3,x4)]:=by rw[a0E.o];simp[*]
      have h3:mO sh (es.take (i+1))=mO sh (es.take i):=by rw[OQ.o];simp[*]
      clear hp1 hp0;go_wp2_with (at_builtin;refine lI rfl _ _ 154 rfl w.heap.size 55 i0 z0 4 32 Tryz.underlying154 hi0 hz hz1 hz2 hz3 (by decide) _ _ _ rfl (H8.o.later (aD w8 (.cells #[.int .i64 x1,.int .i64 x2,.int .i64 x3,.int .i64 x4] 55))).r2 ⟨w8.heap.size,0,none⟩ 1 1 (mY (x1,x2,x3,x4)) rfl (Sl.new w8 55 4 1 #[.int .i64 x1,.int .i64 x2,.int .i64 x3,.int .i64 x4] (0,0) (by omega) rfl) (xI _) (by omega) (by decide) (by have:=HB8.o.size;simp;omega) ?_;intro a5 c5 wa ob hga hoa;obtain⟨Ob,Hga,Hoa⟩:=aG ob hga hoa;clear ob hga hoa)
      have hal:=aD w8 (.cells #[.int .i64 x1,.int .i64 x2,.int .i64 x3,.int .i64 x4] 55);have H9:=(H8.o.later hal).bFO Hga.o Hoa.o Ob.o;have bS9:=(a1V.o.late hal).grown Hga.o (kE (H8.o.later hal).r2 (a1V.o.late hal) (by decide));have rO:=below_grown (HB8.o.tm hal) Hga.o (bK HB8.o.size hal.size) (H8.o.later hal).r2;clear q0 q1 q2 q3 s1 s2 hal;rw[←h1,←h2,←h3]at H9;obtain⟨H9',a7C,nZ⟩:=aG H9 bS9 rO;clear H9 bS9 rO;go_roundw
      case rel=>exact⟨i+1,by omega,by go_num,by first|exact H9'|(have h:=H9';simpa [*] using h),a7C,nZ⟩
      case measure=>simp[intOf];omega
     ·have d2:(x1==sat)=false:=by simp[hp1]
      by_cases hp2:x1=jE
      ·have d3:(x1==jE)=true:=by simp[hp2]
       have h1:OP sh (es.take (i+1))=OP sh (es.take i):=by rw[a0D.o];simp[*]
       have h2:pY sh (es.take (i+1))=pY sh (es.take i)++ [(x1,x2,x3,x4)]:=by rw[a0E.o];simp[*]
       have h3:mO sh (es.take (i+1))=mO sh (es.take i):=by rw[OQ.o];simp[*]
       clear hp1 hp0 hp2;go_wp2_with (at_builtin;refine lI rfl _ _ 154 rfl w.heap.size 55 i0 z0 4 32 Tryz.underlying154 hi0 hz hz1 hz2 hz3 (by decide) _ _ _ rfl (H8.o.later (aD w8 (.cells #[.int .i64 x1,.int .i64 x2,.int .i64 x3,.int .i64 x4] 55))).r2 ⟨w8.heap.size,0,none⟩ 1 1 (mY (x1,x2,x3,x4)) rfl (Sl.new w8 55 4 1 #[.int .i64 x1,.int .i64 x2,.int .i64 x3,.int .i64 x4] (0,0) (by omega) rfl) (xI _) (by omega) (by decide) (by have:=HB8.o.size;simp;omega) ?_;intro a5 c5 wa ob hga hoa;obtain⟨Ob,Hga,Hoa⟩:=aG ob hga hoa;clear ob hga hoa)
       have hal:=aD w8 (.cells #[.int .i64 x1,.int .i64 x2,.int .i64 x3,.int .i64 x4] 55);have H9:=(H8.o.later hal).bFO Hga.o Hoa.o Ob.o;have bS9:=(a1V.o.late hal).grown Hga.o (kE (H8.o.later hal).r2 (a1V.o.late hal) (by decide));have rO:=below_grown (HB8.o.tm hal) Hga.o (bK HB8.o.size hal.size) (H8.o.later hal).r2;clear q0 q1 q2 q3 s1 s2 hal;rw[←h1,←h2,←h3]at H9;obtain⟨H9',a7C,nZ⟩:=aG H9 bS9 rO;clear H9 bS9 rO;go_roundw
       case rel=>exact⟨i+1,by omega,by go_num,by first|exact H9'|(have h:=H9';simpa [*] using h),a7C,nZ⟩
       case measure=>simp[intOf];omega
      ·have d3:(x1==jE)=false:=by simp[hp2]
       have h1:OP sh (es.take (i+1))=OP sh (es.take i):=by rw[a0D.o];simp[*]
       have h2:pY sh (es.take (i+1))=pY sh (es.take i):=by rw[a0E.o];simp[*]
       have h3:mO sh (es.take (i+1))=mO sh (es.take i)++ [(x1,x2,x3,x4)]:=by rw[OQ.o];simp[*]
       clear hp1 hp0 hp2;go_wp2_with (at_builtin;refine lI rfl _ _ 154 rfl w.heap.size 55 i0 z0 4 32 Tryz.underlying154 hi0 hz hz1 hz2 hz3 (by decide) _ _ _ rfl (H8.o.later (aD w8 (.cells #[.int .i64 x1,.int .i64 x2,.int .i64 x3,.int .i64 x4] 55))).r3 ⟨w8.heap.size,0,none⟩ 1 1 (mY (x1,x2,x3,x4)) rfl (Sl.new w8 55 4 1 #[.int .i64 x1,.int .i64 x2,.int .i64 x3,.int .i64 x4] (0,0) (by omega) rfl) (xI _) (by omega) (by decide) (by have:=HB8.o.size;simp;omega) ?_;intro a5 c5 wa ob hga hoa;obtain⟨Ob,Hga,Hoa⟩:=aG ob hga hoa;clear ob hga hoa)
       have hal:=aD w8 (.cells #[.int .i64 x1,.int .i64 x2,.int .i64 x3,.int .i64 x4] 55);have H9:=(H8.o.later hal).bFP Hga.o Hoa.o Ob.o;have bS9:=(a1V.o.late hal).grown Hga.o (kE (H8.o.later hal).r3 (a1V.o.late hal) (by decide));have rO:=below_grown (HB8.o.tm hal) Hga.o (bK HB8.o.size hal.size) (H8.o.later hal).r3;clear q0 q1 q2 q3 s1 s2 hal;rw[←h1,←h2,←h3]at H9;obtain⟨H9',a7C,nZ⟩:=aG H9 bS9 rO;clear H9 bS9 rO;go_roundw
       case rel=>exact⟨i+1,by omega,by go_num,by first|exact H9'|(have h:=H9';simpa [*] using h),a7C,nZ⟩
       case measure=>simp[intOf];omega
    ·have d1:decide (0<sat)=false:=by simp;omega
     have h1:OP sh (es.take (i+1))=OP sh (es.take i):=by rw[a0D.o];simp[*]
     have h2:pY sh (es.take (i+1))=pY sh (es.take i):=by rw[a0E.o];simp[*]
     have h3:mO sh (es.take (i+1))=mO sh (es.take i)++ [(x1,x2,x3,x4)]:=by rw[OQ.o];simp[*]
     clear hp0;go_wp2_with (at_builtin;refine lI rfl _ _ 154 rfl w.heap.size 55 i0 z0 4 32 Tryz.underlying154 hi0 hz hz1 hz2 hz3 (by decide) _ _ _ rfl (H8.o.later (aD w8 (.cells #[.int .i64 x1,.int .i64 x2,.int .i64 x3,.int .i64 x4] 55))).r3 ⟨w8.heap.size,0,none⟩ 1 1 (mY (x1,x2,x3,x4)) rfl (Sl.new w8 55 4 1 #[.int .i64 x1,.int .i64 x2,.int .i64 x3,.int .i64 x4] (0,0) (by omega) rfl) (xI _) (by omega) (by decide) (by have:=HB8.o.size;simp;omega) ?_;intro a5 c5 wa ob hga hoa;obtain⟨Ob,Hga,Hoa⟩:=aG ob hga hoa;clear ob hga hoa)
     have hal:=aD w8 (.cells #[.int .i64 x1,.int .i64 x2,.int .i64 x3,.int .i64 x4] 55);have H9:=(H8.o.later hal).bFP Hga.o Hoa.o Ob.o;have bS9:=(a1V.o.late hal).grown Hga.o (kE (H8.o.later hal).r3 (a1V.o.late hal) (by decide));have rO:=below_grown (HB8.o.tm hal) Hga.o (bK HB8.o.size hal.size) (H8.o.later hal).r3;clear q0 q1 q2 q3 s1 s2 hal;rw[←h1,←h2,←h3]at H9;obtain⟨H9',a7C,nZ⟩:=aG H9 bS9 rO;clear H9 bS9 rO;go_roundw
     case rel=>exact⟨i+1,by omega,by go_num,by first|exact H9'|(have h:=H9';simpa [*] using h),a7C,nZ⟩
     case measure=>simp[intOf];omega
  ·obtain rfl:i=n:=by omega
   have H2:=H.o;rw[bP (by rw[aOG.o];exact aU _)]at H2;have H2':=aA H2;clear H2;go_wp2_with fail
   refine bodyPost_ret (results_tmp3 rfl _ _ _) rfl ?_;exact⟨_,_,_,rfl,H2'.o,hb.o⟩
def fs4 (fs:Array Field):List (String×TypeId×Nat):=fs.toList.map fun f=>(f.name,f.type,f.offset)
theorem fx:fs4 (Tryz.prog.fieldsOf 55)= [("Tag",3,0),("Type",3,1),("Count",3,2),("Slot",3,3)]:=by kernel_rfl
theorem aS6 {P:Program} {d:Nat} {T:TypeId} {kk:IntKind} (hT:P.underlying T=some (.int kk)) (hA:∀W,(isAgg T).run P W= .ok false W) (xs ys:Array Value) (W:World):∀(fs:List Field) (l:List (String×Nat×Int×Int)),fs.map (fun f=>(f.name,f.type,f.offset))=l.map (fun q=>(q.1,T,q.2.1))→(∀q∈l,q.1≠ "_" ∧xs[q.2.1]? =some (.int .i64 q.2.2.1)∧ys[q.2.1]? =some (.int .i64 q.2.2.2))→
  (Op.eqFields (d+1) xs ys fs).run P W= .ok (l.all fun q=>q.2.2.1==q.2.2.2) W
 | [],l,h,_=>by
  cases l with
  |nil=>rfl
  |cons q l=>simp at h
 |f::fs, [],h,_=>by simp at h
 |f::fs,q::l,h,hq=>by
  simp only[aS,List.cons.injEq,Prod.mk.injEq]at h;obtain⟨⟨h1,h2,h3⟩,h4⟩:=h;obtain⟨g1,g2,g3⟩:=hq q (by simp);have ih:=aS6 (d:=d) hT hA xs ys W fs l h4 (fun q hq'=>hq q (aZ _ hq'));simp only[Op.eqFields];rw[h1,if_pos g1,h2,h3];simp only[Sem.run_bind,part,hA,Result.andThen_ok,g2,g3,Bool.false_eq_true,if_false,Sem.run_pure,run_equalIn_int W d T .i64 kk q.2.2.1 q.2.2.2 hT,j3];cases hb:(q.2.2.1==q.2.2.2)
  ·simp
  ·simp[ih]
theorem aI8 (x y:mK) (W:World):(binOp .eql 55 (.agg #[.int .i64 x.1,.int .i64 x.2.1,.int .i64 x.2.2.1,.int .i64 x.2.2.2]) (.agg #[.int .i64 y.1,.int .i64 y.2.1,.int .i64 y.2.2.1,.int .i64 y.2.2.2])).run Tryz.prog W= .ok (.bool (decide (x=y))) W:=by
 have hfx:=fx;unfold fs4 at hfx;rw[run_eql_struct,run_equalIn_agg W 9999 _ _ _ (by kernel_rfl) (by kernel_rfl),aS6 (T:=3) (kk:= .i64) Tryz.underlying3 (fun W=>by kernel_rfl) _ _ W _ [("Tag",0,x.1,y.1),("Type",1,x.2.1,y.2.1),("Count",2,x.2.2.1,y.2.2.1),("Slot",3,x.2.2.2,y.2.2.2)] hfx (by simp)];simp only[Result.andThen];refine congrArg (fun b=>Result.ok (Value.bool b) W) ?_;rw[eP];obtain⟨a,b,c,d⟩:=x;obtain⟨a',b',c',d'⟩:=y;simp
theorem OT {X:Nat→Prop} {B g:Nat} {w w':World} (h:But g w w') (hg:g<B):Kp X X B w w':=⟨h.size,fun k hB hk hx=>⟨h.block k hk (by omega),hx⟩⟩
structure Sk (X:Nat→Prop) (B B':Nat) (w:World) (v:Value) (sz n:Nat) (cs:List Value):Prop where
 at_:∃a c,v= .slice a n c∧Sl w a n c sz cs∧∀x,a=some x→B≤x.block∧x.block<B'∧¬X x.block
theorem aI9 {w w':World} {a:Option Addr} {n c sz:Nat} {cs:List Value} (h:Sl w a n c sz cs) (hs:w.heap.size≤w'.heap.size) (hb:∀x,a=some x→x.block<w.heap.size→w'.heap[x.block]? =w.heap[x.block]?):Sl w' a n c sz cs:=
 ⟨h.len,h.le,h.max,fun i hi=>by
  obtain⟨g,off,e,hlt,hc⟩:=h.lies i hi;refine⟨g,off,e,cO hlt hs,fun j v hv=>?_⟩;have h1:=hc j v hv;have h2:=hb _ e hlt;unfold World.cell? at h1 ⊢;rw[h2];exact h1,h.fit⟩
theorem Sk.keep {X X':Nat→Prop} {B B':Nat} {w w':World} {v:Value} {sz n:Nat} {cs:List Value} (h:Sk X B B' w v sz n cs) (k:Kp X X' B w w') (hB:B'≤w.heap.size):Sk X' B B' w' v sz n cs:=by
 obtain⟨a,c,rfl,h1,h2⟩:=h.at_;exact⟨a,c,rfl,aI9 h1 k.size (fun x hx hlt=>(k.block x.block (h2 x hx).1 hlt (h2 x hx).2.2).1),fun x hx=>⟨(h2 x hx).1,(h2 x hx).2.1,(k.block x.block (h2 x hx).1 (by have:=(h2 x hx).2.1;omega) (h2 x hx).2.2).2⟩⟩
theorem Sk.grown {X:Nat→Prop} {B B':Nat} {w w':World} {v:Value} {sz n:Nat} {cs:List Value} {row:Option Nat} (h:Sk X B B' w v sz n cs) (hg:w.grownBy w' row) (hr:∀k,row=some k→B'≤k):Sk X B B' w' v sz n cs:=by
 obtain⟨a,c,rfl,h1,h2⟩:=h.at_;exact⟨a,c,rfl,aI9 h1 hg.size (fun x hx hlt=>hg.block _ hlt (fun e=>by have:=hr _ e.symm;have:=(h2 x hx).2.1;omega)),h2⟩
theorem Sk.jX {X:Nat→Prop} {B B':Nat} {w:World} {v:Value} {E:TypeId} {sz n:Nat} {xs:List Value} (h:w.ownsRow B E sz v n xs) (hB:w.heap.size≤B') (hX:∀k,v.ownBlock=some k→¬X k):Sk X B B' w v sz n xs:=by
 have hlt:=h.lt;rcases h.2 with ⟨rfl,h0⟩|⟨g,cap,cur,rfl,hr⟩
 ·subst h0;exact⟨none,0,rfl,(Sl.jX h).1,fun x hx=>by cases hx⟩
 ·exact⟨_,_,rfl,(Sl.jX h).1,fun x hx=>by
   injection hx with hx;subst hx;have:=hlt g rfl;exact⟨this.1,by show g<B';omega,hX g rfl⟩⟩
def KT (n:Nat) (p:Nat→Bool):Nat:=((List.range n).filter p).length
theorem MC (n:Nat) (p:Nat→Bool):KT (n+1) p=KT n p+(if p n=true then 1 else 0):=by
 unfold KT;rw[gM,eF,bO];congr 1
 cases h:p n <;> simp[h]
theorem a7D (n:Nat) (p:Nat→Bool):KT n p≤n:=by
 unfold KT;exact bK (List.length_filter_le _ _) (by simp)
theorem UC {p q:Nat→Bool} (h:∀k,p k=true→q k=true):∀n,KT n p≤KT n q
 |0=>by simp[KT]
 |n+1=>by
  rw[MC,MC];have ih:=UC h n;by_cases hp:p n=true
  ·rw[if_pos hp,if_pos (h n hp)];omega
  ·rw[if_neg hp];split <;> omega
theorem a7E {p q:Nat→Bool} (h:∀k,p k=true→q k=true) {k:Nat} (h1:p k=false) (h2:q k=true):∀n,k<n→KT n p+1≤KT n q
 |0,hk=>by omega
 |n+1,hk=>by
  rw[MC,MC];by_cases hkn:k=n
  ·subst hkn;have:=UC h k;rw[h2,h1];simp;exact this
  ·have ih:=a7E h h1 h2 n (by omega);by_cases hp:p n=true
   ·rw[if_pos hp,if_pos (h n hp)];omega
   ·rw[if_neg hp];split <;> omega
def Inv (n:Nat) (s:St):Prop:=s.jQ.length≤KT n (fun(k:Nat)=>lD s k)
theorem Inv.le {n:Nat} {s:St} (h:Inv n s):s.jQ.length≤n:=bK h (a7D _ _)
theorem Inv.a0F {n:Nat} {s s':St} (h:Inv n s) (e:s'.jQ=s.jQ):Inv n s':=by
 unfold Inv lD at*;rw[e];exact h
theorem FP {n:Nat} {x:lK} {s s':St} (h:mH n x s= .ok s') (hl:1≤x.2.2.2.2) (hi:Inv n s):Inv n s':=by
 have hf:=MB h;unfold mH at h;rw[if_pos hf]at h;split at h
 ·rename_i hfr;injection h with h;subst h;unfold PE vX at hf;simp only[bF,decide_eq_true_eq]at hf;obtain⟨A,hA⟩:∃A:Nat,x.2.2.2.1=A:=⟨x.2.2.2.1.toNat,by omega⟩
  have h0:lD s (A:Int)=false:=by
   unfold JC at hfr;have:=cZ.1 hfr 0 (bW.2 (by omega));rw[hA]at this;simpa using this
  have h1:lD {s with jQ:=s.jQ++ [x]} (A:Int)=true:=by
   rw[KQ];unfold SY;rw[hA];simp;omega
  have:=a7E (p:=fun(k:Nat)=>lD s k) (q:=fun(k:Nat)=>lD {s with jQ:=s.jQ++ [x]} k) (fun k hk=>by rw[KQ,hk];rfl) h0 h1 n (by omega);unfold Inv at*;simp only[bO,iD];omega
 ·cases h
theorem UD {α σ:Type} {step:σ→α→Except Int σ} {P:σ→Prop} (hs:∀s x s',step s x= .ok s'→P s→P s'):∀{l:List α} {s s':σ},loopS step l s= .ok s'→P s→P s'
 | [],s,s',h,hp=>by
  injection h with h;subst h;exact hp
 |x::r,s,s',h,hp=>by
  simp only[loopS]at h;cases hx:step s x with
  |error e=>rw[hx]at h;cases h
  |ok s1=>
   rw[hx]at h;exact UD hs h (hs _ _ _ hx hp)
theorem RQ {z:List Int} {o p no:Int} {s:St} {l:List mK} {s':St} (h:lM z o p no s= .ok (l,s')) (hi:Inv z.length s):Inv z.length s':=by
 unfold lM at h;split at h
 ·split at h
  ·rename_i h0;cases ht:mH z.length (2,no,0,p,6+12*kZ z p 2 o) s with
   |error e=>rw[ht]at h;cases h
   |ok s1=>
    rw[ht]at h;simp only at h;split at h
    ·injection h with h
     injection h with h1 h2;subst h2;exact FP ht (by show 1≤6+12*kZ z p 2 o;omega) hi
    ·cases h
  ·cases h
 ·cases h
theorem a0G {z:List Int} {o:Int} {x:mK} {no:Int} {s:St} {v:nC} {s':St} (h:oI z o x no s= .ok (v,s')) (hi:Inv z.length s):Inv z.length s':=by
 unfold oI at h;split at h
 ·split at h
  ·rename_i h0;cases ht:mH z.length (3,no,x.1,x.2.2.2,oL x.2.1 x.2.2.1) s with
   |error e=>rw[ht]at h;cases h
   |ok s1=>
    rw[ht]at h;simp only at h;cases hv:SV x.2.1 x.2.2.1 (z.drop x.2.2.2.toNat) o with
    |none=>rw[hv]at h;cases h
    |some d=>
     rw[hv]at h;injection h with h;injection h with h1 h2;subst h2;exact FP ht (by show 1≤oL x.2.1 x.2.2.1;omega) hi
  ·cases hv:inS x o with
   |none=>rw[hv]at h;cases h
   |some d=>
    rw[hv]at h;injection h with h;injection h with h1 h2;subst h2;exact hi.a0F rfl
 ·cases h
theorem aM0 {z:List Int} {o:Int} {sh:lV} {no:Int} {acc acc':List nC×St} {x:mK} (h:stepT z o sh no acc x= .ok acc') (hi:Inv z.length acc.2):Inv z.length acc'.2:=by
 unfold stepT at h;split at h
 ·split at h
  ·injection h with h
   subst h;exact hi
  ·cases h
 ·cases hv:oI z o x no acc.2 with
  |error e=>rw[hv]at h;cases h
  |ok r=>
   obtain⟨v,s'⟩:=r;rw[hv]at h;injection h with h;subst h;exact a0G hv hi
theorem aM1 {z:List Int} {f:Nat} {rec:Int→Int→St→Except Int ((jD f×Int)×St)} (hr:∀p sh s r s',rec p sh s= .ok (r,s')→Inv z.length s→Inv z.length s') {sh:lV} {acc acc':List (Int×jD f)×St} {x:mK} (h:oJ rec sh acc x= .ok acc') (hi:Inv z.length acc.2):Inv z.length acc'.2:=by
 unfold oJ at h;split at h
 ·cases hv:rec x.2.2.2 (sh.1.getD (fst (fun y=>y.1==x.1) sh.1).toNat (0,0)).2 acc.2 with
  |error e=>rw[hv]at h;cases h
  |ok r=>
   obtain⟨⟨d,next⟩,s'⟩:=r;rw[hv]at h;simp only at h;split at h
   ·injection h with h
    subst h;exact hr _ _ _ _ _ hv hi
   ·cases h
 ·injection h with h
  subst h;exact hi
theorem aM2 {z:List Int} {sh:lV} {l:List mK} {no:Int} {s:St} {b:List Int} {s':St} (h:sQ z sh l no s= .ok (b,s')) (hi:Inv z.length s):Inv z.length s':=by
 unfold sQ at h;split at h
 ·rename_i x y _;split at h
  ·rename_i h0;cases ht:mH z.length (4,no,0,x.2.2.2,y.2.2.2) s with
   |error e=>rw[ht]at h;cases h
   |ok s1=>
    rw[ht]at h;injection h with h;injection h with h1 h2;subst h2;exact FP ht (by show 1≤y.2.2.2;omega) hi
  ·cases h
 ·injection h with h
  injection h with h1 h2;subst h2;exact hi
theorem a0H {z:List Int} {o:Int} {L:List lV}:∀{f:Nat} {p sh:Int} {s:St} {r:jD f×Int} {s':St},nR z o L f p sh s= .ok (r,s')→Inv z.length s→Inv z.length s'
 |0,_,_,_,_,_,h,_=>by simp[nR]at h
 |f+1,p,sh,s,r,s',h,hi=>by
  simp only[nR]at h;cases he:lM z o p s.no {s with no:=IntKind.i64.wrap (s.no+1)}with
  |error e=>rw[he]at h;cases h
  |ok q=>
   obtain⟨l,s1⟩:=q;rw[he]at h;simp only at h;have i1:=RQ he (hi.a0F rfl);cases ht:loopS (stepT z o (L.getD sh.toNat jM) s.no) l ([],s1)with
   |error e=>rw[ht]at h;cases h
   |ok q=>
    obtain⟨tags,s2⟩:=q;rw[ht]at h;simp only at h;have i2:=UD (P:=fun a:List nC×St=>Inv z.length a.2) (fun _ _ _ h hp=>aM0 h hp) ht i1;split at h
    ·cases h
    ·cases hd:loopS (oJ (nR z o L f) (L.getD sh.toNat jM)) l ([],s2)with
     |error e=>rw[hd]at h;cases h
     |ok q=>
      obtain⟨subs,s3⟩:=q;rw[hd]at h;simp only at h;have i3:=UD (P:=fun a:List (Int×jD f)×St=>Inv z.length a.2) (fun _ _ _ h hp=>aM1 (fun _ _ _ _ _ h hi=>a0H h hi) h hp) hd i2;cases hb:sQ z (L.getD sh.toNat jM) l s.no s3 with
      |error e=>rw[hb]at h;cases h
      |ok q=>
       obtain⟨blob,s4⟩:=q;rw[hb]at h;injection h with h;injection h with h1 h2;subst h2;exact aM2 hb i3
theorem bFQ {z:List Int} (hb:mW z) (q o:Int):0≤kZ z q 4 o∧kZ z q 4 o≤4294967295:=by
 have:=RO hb q 4 o;rw[show((4:Nat):Int)=4 from rfl,show(256:Int) ^ 4=4294967296 by decide]at this;omega
theorem aM3 {z:List Int} {o:Int} {L:List lV} {f:Nat} {p sh:Int} {s:St} {d:jD f} {nx:Int} {s':St} (hb:mW z) (h:nR z o L f p sh s= .ok ((d,nx),s')):0≤nx∧nx≤4294967295:=by
 cases f with
 |zero=>simp[nR]at h
 |succ f=>
  simp only[nR]at h;split at h
  ·cases h
  ·split at h
   ·cases h
   ·split at h
    ·cases h
    ·split at h
     ·cases h
     ·split at h
      ·cases h
      ·injection h with h
       injection h with h1 h2;injection h1 with h3 h4;subst h4;exact bFQ hb _ _
section
attribute [local go_sem] Lib.run_eql_slice_nil
theorem aFZ (a:Option Addr) (n c:Nat) (z:List Int) (w:World) (hs:Sl w a n c 1 (ints .u8 z)) (hl:n≤140737488355328):
  Calls Tryz.prog 61 #[.slice a n c] w fun e w'=>∃a' c',e= .returned (.slice a' n c')∧w'.ownsRow w.heap.size 5 1 (.slice a' n c') n (ints .u8 z)∧Below w.heap.size w w':=by
 obtain⟨i0,hi,hz0,hz1,hz2⟩:=info_parts a2B;cases a with
 |none=>
  have hc:=hs.fit rfl;subst hc;have hn:n=0:=by have:=hs.le;omega
  subst hn;have hp:z= []:=dP hs.nV;subst hp;clear hs;go_enter Tryz.func61,Tryz.ntmps61;go_wp2;go_ret;exact⟨_,_,rfl,kC _ _ _ _,aW _ _⟩
 |some ad=>
  have hs':=aA hs;clear hs;go_enter Tryz.func61,Tryz.ntmps61;go_wp2_with (at_builtin;refine o5 rfl _ _ 24 rfl w.heap.size 5 i0 _ 1 1 Tryz.underlying24 hi hz0 hz1 hz2 rfl (by decide) _ 0 [] rfl (WN w w.heap.size 5 1 0 #[] (aU _) (by unfold maxLen;omega) rfl) _ n c _ rfl (wM hs'.o _) sM (by omega) (by decide) (by simp) ?_;intro a5 c5 w2 ob hb2 hg2;rw[eX]at ob ⊢;rw[eG]at ob;clear hg2;obtain⟨Ob,Hb2⟩:=aF ob (((aW _ _).alloc (aU _) _).trans hb2);clear ob hb2)
  go_ret;exact⟨_,_,rfl,Ob.o,Hb2.o⟩
end
abbrev Xv (sv:Value):Nat→Prop:=fun k=>sv.ownBlock=some k
theorem a0I {X Y Z:Nat→Prop} {B:Nat} {w w1 w2:World} (h:Kp X Y B w w1) (k:Kp Y Z B w1 w2):Kp X Z B w w2:=
 ⟨bK h.size k.size,fun i hB hi hx=>by
  have h1:=h.block i hB hi hx;have h2:=k.block i hB (cO hi h.size) h1.2;exact⟨h2.1.trans h1.1,h2.2⟩⟩
theorem ME {w w':World} {r:Nat} (h:w.grownBy w' (some r)):But r w w':=⟨h.os,h.tape,h.output,h.size,fun k hk hne=>h.block k hk (fun e=>hne (by injection e))⟩
theorem DZ {w w':World} (h:w.grownBy w' none):Below w.heap.size w w':=⟨h.os,h.tape,h.output,h.size,fun k hk=>h.block k hk (fun e=>by cases e)⟩
structure Pst (K:WkS) (A B B2 gd gs:Nat):Prop where
 g:K.g<A
 gt:K.gt<A
 w0:K.w0.heap.size≤A
 gd1:A≤gd
 gd2:gd<B
 gs1:A≤gs
 gs2:gs<B
 gds:gd≠gs
 bb:B≤B2
structure Pk (K:WkS) (A B B2 gd gs:Nat) (w w4:World) (sv sv3:Value) (zc:Array Value) (s:St) (yL:Value) (tk:List Nat) (vt vs vb:Value) (tags:List nC) (wr:World):Prop where
 ok:vL K s yL tk wr
 inv:Inv K.n s
 mv:Mv K.g K.gt sv yL w wr
 nb:∀k,yL.ownBlock=some k→k<A∨B≤k
 kp:Kp (Xv sv3) (Xv yL) B w4 wr
 tg:kR (Xv yL) B2 wr vt tags
 bD:jJ wr gd 26 #[vt,vs,vb]
 bS:jJ wr gs 35 zc
 sz:B2≤wr.heap.size
section
variable {K:WkS} {A B B2 gd gs:Nat} {w w4:World} {sv sv3:Value} {zc:Array Value} {s:St} {yL:Value} {tk:List Nat} {vt vs vb:Value} {tags:List nC} {wr wr':World}
theorem Pk.later (h:Pk K A B B2 gd gs w w4 sv sv3 zc s yL tk vt vs vb tags wr) (hb:Below wr.heap.size wr wr'):Pk K A B B2 gd gs w w4 sv sv3 zc s yL tk vt vs vb tags wr':=
 ⟨h.ok.later hb,h.inv,h.mv.later hb,h.nb,a0I h.kp (Kp.later hb),h.tg.keep (Kp.later hb),h.bD.late hb,h.bS.late hb,bK h.sz hb.size⟩
theorem Pk.mv2 {s':St} {wG:Value} {tk':List Nat} (h:Pk K A B B2 gd gs w w4 sv sv3 zc s yL tk vt vs vb tags wr) (p:Pst K A B B2 gd gs) (m:Mv K.g K.gt yL wG wr wr') (ok':vL K s' wG tk' wr') (bO7:Inv K.n s'):Pk K A B B2 gd gs w w4 sv sv3 zc s' wG tk' vt vs vb tags wr':=
 have:=p.g;have:=p.gt;have:=p.gd1;have:=p.gd2;have:=p.gs1;have:=p.gs2;have:=p.bb;have hsz:=h.sz;⟨ok',bO7,h.mv.trans m,fun k e=>by rcases m.own k e with h1|h1 <;> first|exact h.nb k h1|omega,a0I h.kp (Kp.mv m (by omega) (by omega)),h.tg.keep (Kp.mv m (by omega) (by omega)),
  h.bD.mv m (by omega) (by omega) (fun e=>by have:=h.nb _ e;omega),h.bS.mv m (by omega) (by omega) (fun e=>by have:=h.nb _ e;omega),bK hsz m.size⟩
theorem Pk.bFR {vt' vs' vb':Value} {a0J:List nC} (h:Pk K A B B2 gd gs w w4 sv sv3 zc s yL tk vt vs vb tags wr) (p:Pst K A B B2 gd gs) (hb:But gd wr wr') (WZ:jJ wr' gd 26 #[vt',vs',vb']) (tg':kR (Xv yL) B2 wr vt' a0J) (hw:w.heap.size=A):Pk K A B B2 gd gs w w4 sv sv3 zc s yL tk vt' vs' vb' a0J wr':=
 have:=p.g;have:=p.gt;have:=p.gd1;have:=p.gd2;have:=p.w0;have:=p.bb;⟨h.ok.but hb (by omega) (by omega) (fun e=>by have:=h.nb _ e;omega) (by omega),h.inv,h.mv.uT (by omega) hb,h.nb,a0I h.kp (OT hb p.gd2),tg'.keep (OT hb (by omega)),WZ,h.bS.but hb (Ne.symm p.gds),bK h.sz hb.size⟩
theorem Pk.bFS {vt':Value} {a0J:List nC} {r:Nat} (h:Pk K A B B2 gd gs w w4 sv sv3 zc s yL tk vt vs vb tags wr) (p:Pst K A B B2 gd gs) (hb:But r wr wr') (hr:B2≤r) (hx:yL.ownBlock≠some r) (hw4:w4.heap.size=B2) (hw:w.heap.size=A) (tg':kR (Xv yL) B2 wr' vt tags):Pk K A B B2 gd gs w w4 sv sv3 zc s yL tk vt vs vb tags wr':=
 have:=p.g;have:=p.gt;have:=p.gd1;have:=p.gd2;have:=p.w0;have:=p.bb;have:=p.gs2;⟨h.ok.but hb (by omega) (by omega) hx (by omega),h.inv,h.mv.uT (by omega) hb,h.nb,⟨bK h.kp.size hb.size,fun k hB hk hX=>⟨(hb.block k (cO hk h.kp.size) (by omega)).trans (h.kp.block k hB hk hX).1,(h.kp.block k hB hk hX).2⟩⟩,tg',h.bD.but hb (by omega),h.bS.but hb (by omega),bK h.sz hb.size⟩
theorem Pk.app {w8 w9 w10:World} {vt' vs' vb':Value} {a0J:List nC} {row:Option Nat} (h:Pk K A B B2 gd gs w w4 sv sv3 zc s yL tk vt vs vb tags w8) (p:Pst K A B B2 gd gs) (hg:w8.grownBy w9 row) (hr:∀r,row=some r→B2≤r∧yL.ownBlock≠some r) (hw4:w4.heap.size=B2) (hw:w.heap.size=A)
  (hb:But gd w9 w10) (WZ:jJ w10 gd 26 #[vt',vs',vb']) (tg':kR (Xv yL) B2 w9 vt' a0J):Pk K A B B2 gd gs w w4 sv sv3 zc s yL tk vt' vs' vb' a0J w10:=by
 have:=p.g;have:=p.gt;have:=p.gd1;have:=p.gd2;have:=p.w0;have:=p.bb;have:=p.gs2;cases row with
 |none=>exact(h.later (DZ hg)).bFR p hb WZ tg' hw
 |some r=>
  have hr:=hr r rfl;have hbr:=ME hg;exact⟨(h.ok.but hbr (by omega) (by omega) hr.2 (by omega)).but hb (by omega) (by omega) (fun e=>by have:=h.nb _ e;omega) (by omega),h.inv,(h.mv.uT (by omega) hbr).uT (by omega) hb,h.nb,
   ⟨bK h.kp.size (bK hbr.size hb.size),fun k hB hk hX=>⟨(hb.block k (cO hk (bK h.kp.size hbr.size)) (by omega)).trans ((hbr.block k (cO hk h.kp.size) (by omega)).trans (h.kp.block k hB hk hX).1),(h.kp.block k hB hk hX).2⟩⟩,
   tg'.keep (OT hb (by omega)),WZ,(h.bS.but hbr (by omega)).but hb (Ne.symm p.gds),bK h.sz (bK hbr.size hb.size)⟩
end
theorem yM {α σ:Type} {step:σ→α→Except Int σ} {x:α} {r:List α} {s s':σ} (h:step s x= .ok s'):loopS step (x::r) s=loopS step r s':=by simp[loopS,h]
theorem rG {α σ:Type} {step:σ→α→Except Int σ} {x:α} {r:List α} {s:σ} {e:Int} (h:step s x= .error e):loopS step (x::r) s= .error e:=by simp[loopS,h]
theorem Sk.sl {X:Nat→Prop} {B B':Nat} {w:World} {a:Option Addr} {n n' c sz:Nat} {cs:List Value} (h:Sk X B B' w (.slice a n c) sz n' cs):n=n'∧Sl w a n c sz cs:=by
 obtain⟨a',c',e,h1,_⟩:=h.at_;injection e with e1 e2 e3;subst e1 e2 e3;exact⟨rfl,h1⟩
theorem Sk.val {X:Nat→Prop} {B B':Nat} {w:World} {v:Value} {n sz:Nat} {cs:List Value} (h:Sk X B B' w v sz n cs):∃a c,v= .slice a n c:=by
 obtain⟨a',c',e,_⟩:=h.at_;exact⟨a',c',e⟩
theorem Sk.tail {X:Nat→Prop} {B B':Nat} {w:World} {a a2:Option Addr} {n c n2 c2 sz:Nat} {cs cs2:List Value} (h:Sk X B B' w (.slice a n c) sz n cs) (hs:Sl w a2 n2 c2 sz cs2) (hi:In a2 a):Sk X B B' w (.slice a2 n2 c2) sz n2 cs2:=by
 obtain⟨a',c',e,_,h2⟩:=h.at_;injection e with e1 e2 e3;subst e1 e3
 exact⟨a2,c2,rfl,hs,fun x hx=>by
  obtain⟨y,hy,hb⟩:=hi x hx;rw[←hb];exact h2 y hy⟩
theorem aYB {α:Type} {f:α→List Value} {k:Nat} (hf:∀x,(f x).length=k) (x:α) (r:List α):(fl f (x::r)).drop k=fl f r:=by
 rw[WO,List.drop_append,hf x,gZ,gK (by rw[hf x];exact aU _)];simp
theorem mM.slices {X:Nat→Prop} {B:Nat} {w:World}:∀{f:Nat} {d:jD f} {v:Dz},mM X B w f d v→∃a1 n1 c1 a2 n2 c2 a3 n3 c3,v=(.slice a1 n1 c1,.slice a2 n2 c2,.slice a3 n3 c3)
 |0,_,_,h=>h.elim
 |f+1,d,v,h=>by
  obtain⟨_,⟨zs,_,h1,_⟩,⟨ds,_,h2,_⟩,h3⟩:=h;obtain⟨a1,c1,e1⟩:=zW h1.1;obtain⟨a2,c2,e2⟩:=zW h2.1;obtain⟨a3,c3,e3⟩:=zW h3.1;obtain⟨v1,v2,v3⟩:=v;simp only at e1 e2 e3;subst e1 e2 e3;exact⟨_,_,_,_,_,_,_,_,_,rfl⟩
def aIA (f:Nat) (w:World) (r:jD f×Int) (wG:Value) (e:Ending) (w':World):Prop:=
 ∃v:Dz,e= .returned (.tuple #[.agg #[v.1,v.2.1,v.2.2],.int .i64 r.2])∧mM (Xv wG) w.heap.size w' f r.1 v
