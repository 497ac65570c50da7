import Derived.Test.YtceclmpmpldmlaaGreatCw29
import Derived.Shelf.Slices.In.SortNone
set_option linter.unusedSimpArgs false
set_option linter.unusedVariables false
set_option maxRecDepth 100000
set_option maxHeartbeats 8000000
namespace Tt
open Go Go.RowKit
def Ap (v u:Value):Prop:=∀k,v.ownBlock=some k→u.ownBlock≠some k
theorem Ap.symm {v u:Value} (h:Ap v u):Ap u v:=fun k e e'=>h k e' e
theorem Ap.grown {v v' u:Value} {w:World} {B:Nat} {E:TypeId} {sz n:Nat} {xs:List Value} (h:Ap v u) (ho:∀k,v'.ownBlock=some k→v.ownBlock=some k∨w.heap.size≤k) (hu:w.ownsRow B E sz u n xs):Ap v' u:=fun k e e'=>by
 rcases ho k e with h1|h1
 ·exact h k h1 e'
 ·have:=(hu.lt k e').2;omega
theorem Ap.nil (u:Value):Ap (.slice none 0 0) u:=fun k e=>by cases e
end Tt
namespace Go.Proofs.YtceclmpmpldmlaaGreat
open Go.RowKit Tt
theorem aKQ (x:Lk) (g:Nat) (tg:Int) (w:World) (hc:w.cell? ⟨g,0,none⟩=some (.int .i64 tg)) (hg:g<w.heap.size):
  Calls Tryz.prog 254 #[.agg #[.int .i64 x.1,.int .i64 x.2],.pointer (some ⟨g,0,none⟩)] w fun e w'=>e= .returned (.bool (x.1==tg))∧Below w.heap.size w w':=by
 have hc2:(w.alloc (.cells #[.int .i64 x.1,.int .i64 x.2] 32)).cell? ⟨g,0,none⟩=some (.int .i64 tg):=late (aD w _) hg hc;go_enter Tryz.func254,Tryz.ntmps254;go_wp2;go_ret;exact⟨rfl,(bF _ _).alloc (aY _) _⟩
theorem aWN (x:Lk) (g:Nat) (tg:Int) (w:World) (hc:w.cell? ⟨g,0,none⟩=some (.int .i64 tg)) (hg:g<w.heap.size):
  Calls Tryz.prog 214 #[.agg #[.int .i64 x.1,.int .i64 x.2],.pointer (some ⟨g,0,none⟩)] w fun e w'=>e= .returned (.bool (x.1==tg))∧Below w.heap.size w w':=by
 have hc2:(w.alloc (.cells #[.int .i64 x.1,.int .i64 x.2] 32)).cell? ⟨g,0,none⟩=some (.int .i64 tg):=late (aD w _) hg hc;go_enter Tryz.func214,Tryz.ntmps214;go_wp2;go_ret;exact⟨rfl,(bF _ _).alloc (aY _) _⟩
def VO (s:nP) (l:List oJ):List oJ:=l.filter fun x=>nQ s x.1
def sG (s:nP) (l:List oJ):List oJ:=l.filter fun x=> !nQ s x.1&&yT s x.1
def nY (s:nP) (l:List oJ):List oJ:=l.filter fun x=> !xI s x.1
theorem EG {α:Type} {l:List α} {i:Nat} {d:α} (p:α→Bool) (h:i<l.length):(l.take (i+1)).filter p=(l.take i).filter p++(if p (l.getD i d)=true then [l.getD i d]else []):=by
 rw[fC h,eT,kF h];congr 1
 by_cases hp:p l[i]=true <;> simp[hp]
structure Three (B:Nat) (w:World) (v1 v2 v3:Value) (l1 l2 l3:List oJ):Prop where
 r1:w.ownsRow B 55 4 v1 l1.length (fl oF l1)
 r2:w.ownsRow B 55 4 v2 l2.length (fl oF l2)
 r3:w.ownsRow B 55 4 v3 l3.length (fl oF l3)
 a12:Ap v1 v2
 a13:Ap v1 v3
 a23:Ap v2 v3
theorem Three.later {B:Nat} {w w':World} {v1 v2 v3:Value} {l1 l2 l3:List oJ} (h:Three B w v1 v2 v3 l1 l2 l3) (hb:Below w.heap.size w w'):Three B w' v1 v2 v3 l1 l2 l3:=
 ⟨l6 h.r1 hb,l6 h.r2 hb,l6 h.r3 hb,h.a12,h.a13,h.a23⟩
theorem Three.app1 {B:Nat} {w w':World} {v1 v2 v3 v1':Value} {l1 l2 l3:List oJ} {x:oJ} (h:Three B w v1 v2 v3 l1 l2 l3) (hg:w.grownBy w' v1.ownBlock) (ho:∀k,v1'.ownBlock=some k→v1.ownBlock=some k∨w.heap.size≤k)
  (ob:w'.ownsRow B 55 4 v1' (l1.length+1) (fl oF l1++oF x)):Three B w' v1' v2 v3 (l1++ [x]) l2 l3:=
 ⟨by rw[cO,yM];exact ob,yQ h.r2 hg (fun i e=>h.a12.symm i e),yQ h.r3 hg (fun i e=>h.a13.symm i e),h.a12.grown ho h.r2,h.a13.grown ho h.r3,h.a23⟩
theorem Three.bLZ {B:Nat} {w w':World} {v1 v2 v3 v2':Value} {l1 l2 l3:List oJ} {x:oJ} (h:Three B w v1 v2 v3 l1 l2 l3) (hg:w.grownBy w' v2.ownBlock) (ho:∀k,v2'.ownBlock=some k→v2.ownBlock=some k∨w.heap.size≤k)
  (ob:w'.ownsRow B 55 4 v2' (l2.length+1) (fl oF l2++oF x)):Three B w' v1 v2' v3 l1 (l2++ [x]) l3:=
 ⟨yQ h.r1 hg (fun i e=>h.a12 i e),by rw[cO,yM];exact ob,yQ h.r3 hg (fun i e=>h.a23.symm i e),(Ap.grown h.a12.symm ho h.r1).symm,h.a13,h.a23.grown ho h.r3⟩
theorem Three.bM0 {B:Nat} {w w':World} {v1 v2 v3 v3':Value} {l1 l2 l3:List oJ} {x:oJ} (h:Three B w v1 v2 v3 l1 l2 l3) (hg:w.grownBy w' v3.ownBlock) (ho:∀k,v3'.ownBlock=some k→v3.ownBlock=some k∨w.heap.size≤k)
  (ob:w'.ownsRow B 55 4 v3' (l3.length+1) (fl oF l3++oF x)):Three B w' v1 v2 v3' l1 l2 (l3++ [x]):=
 ⟨yQ h.r1 hg (fun i e=>h.a13 i e),yQ h.r2 hg (fun i e=>h.a23 i e),by rw[cO,yM];exact ob,h.a12,(Ap.grown h.a13.symm ho h.r1).symm,(Ap.grown h.a23.symm ho h.r2).symm⟩
theorem aWO {w:World} {B:Nat} {E:TypeId} {sz:Nat} {v:Value} {n:Nat} {xs:List Value} (h:w.ownsRow B E sz v n xs):∃a c,v= .slice a n c:=by
 rcases h.2 with ⟨rfl,h0⟩|⟨g,cap,cur,rfl,_⟩
 ·exact⟨none,0,by rw[h0]⟩
 ·exact⟨_,_,rfl⟩
theorem aR4 (a:Option Addr) (n c:Nat) (es:List oJ) (z:Shz) (w:World) (hs:Sl w a n c 4 (fl oF es)) (hl:Sl w z.1.1 z.1.2.1 z.1.2.2 2 (fl lkc z.2.1)) (hn:n≤1000000):
  Calls Tryz.prog 212 #[.slice a n c,.agg #[.slice z.1.1 z.1.2.1 z.1.2.2,.int .i64 z.2.2.1,.int .i64 z.2.2.2.1,.int .i64 z.2.2.2.2]] w fun e w'=>∃v1 v2 v3,e= .returned (.tuple #[v1,v2,v3])∧Three w.heap.size w' v1 v2 v3 (VO z.2 es) (sG z.2 es) (nY z.2 es)∧Below w.heap.size w w':=by
 obtain⟨⟨la,ln,lc⟩,sh⟩:=z;obtain⟨oN,sat,kC,oM⟩:=sh;simp only at hl ⊢;have hmf:∀(fn:Fn) (first cap:Array Value) (w:World),(Instr.makeFunc fn first cap).run Tryz.prog w= .ok (.func fn first cap) w:=fun _ _ _ _=>rfl;have hel:=hs.xZ nT aH;have FI:=hs.le;have UC:=hs.max;obtain⟨i0,z0,AY,hz,qC,wY,ZA⟩:=SK aWJ aNE;obtain⟨sh,hsh⟩:∃sh:nP,(oN,sat,kC,oM)=sh:=⟨_,rfl⟩;have OC:∀t,nQ sh t=oN.any fun y=>y.1==t:=fun t=>by rw[←hsh];rfl
 have TB:∀t,yT sh t=(decide (0<sat)&&(decide (t=sat)||decide (t=kC))):=fun t=>by rw[←hsh];rfl
 rw[hsh];have b1:=kG.new w 35 #[.slice la ln lc,.int .i64 sat,.int .i64 kC,.int .i64 oM];have kV:=aD w (.cells #[.slice la ln lc,.int .i64 sat,.int .i64 kC,.int .i64 oM] 35);clear hsh;obtain⟨sK,FX,aUQ,aOY,b4M⟩:=aM hs hl hel OC TB;clear hs hl hel OC TB;go_enter Tryz.func212,Tryz.ntmps212;go_upto_region 1 with fail
 obtain⟨w1,xR⟩:=aC (w.alloc (.cells #[.slice la ln lc,.int .i64 sat,.int .i64 kC,.int .i64 oM] 35));rw[xR]at b1 kV;try rw[xR]
 clear xR;obtain⟨b1',lZ⟩:=aJ b1 kV;clear b1 kV;go_wp2_with fail
 go_loopw [4,5,6,11] (fun tv pv rv iv wr=>∃i:Nat,i≤n∧iv= .int .i64 i∧Hid (Three w.heap.size wr tv pv rv (VO sh (es.take i)) (sG sh (es.take i)) (nY sh (es.take i)))∧Hid (kG wr w.heap.size 35 #[.slice la ln lc,.int .i64 sat,.int .i64 kC,.int .i64 oM])∧Hid (Below w.heap.size w wr)) (fun _ _ _ iv _=>n - (intOf iv).toNat)
 case atStart=>exact⟨0,by omega,rfl,aA ⟨lC _ _ _ _,lC _ _ _ _,lC _ _ _ _,Ap.nil _,Ap.nil _,Ap.nil _⟩,b1',lZ⟩
 case round=>
  obtain⟨i,hi,rfl,H,hbS,hb⟩:=hrel;by_cases kY:i<n
  ·obtain⟨bb,oo,rfl,EI,fe⟩:=(sK.o.mono hb.o).elem nT aH (0,0,0,0) kY;obtain⟨⟨x1,x2,x3,x4⟩,hx⟩:∃x,es.getD i (0,0,0,0)=x:=⟨_,rfl⟩;rw[hx]at fe;have f0:=fe 0 _ rfl;have f1:=fe 1 _ rfl;have f2:=fe 2 _ rfl;have f3:=fe 3 _ rfl;simp only[dB]at f0 f1 f2 f3;clear fe;have CY:(i:Int)<n:=by omega
   have aR5:=EG (l:=es) (i:=i) (d:=(0,0,0,0)) (fun x=>nQ sh x.1) (by rw[aUQ.o];exact kY);have aR6:=EG (l:=es) (i:=i) (d:=(0,0,0,0)) (fun x=> !nQ sh x.1&&yT sh x.1) (by rw[aUQ.o];exact kY);have b4N:=EG (l:=es) (i:=i) (d:=(0,0,0,0)) (fun x=> !xI sh x.1) (by rw[aUQ.o];exact kY);rw[hx]at aR5 aR6 b4N;simp only[xI]at aR5 aR6 b4N;obtain⟨a1,c1,rfl⟩:=aWO H.o.r1;obtain⟨a2,c2,rfl⟩:=aWO H.o.r2;obtain⟨a3,c3,rfl⟩:=aWO H.o.r3;have hn1:(VO sh (es.take i)).length≤i:=by unfold VO;have:=List.length_filter_le (fun x:oJ=>nQ sh x.1) (es.take i);rw[eX]at this;omega
   have hn2:(sG sh (es.take i)).length≤i:=by unfold sG;have:=List.length_filter_le (fun x:oJ=> !nQ sh x.1&&yT sh x.1) (es.take i);rw[eX]at this;omega
   have hn3:(nY sh (es.take i)).length≤i:=by unfold nY;have:=List.length_filter_le (fun x:oJ=> !xI sh x.1) (es.take i);rw[eX]at this;omega
   change VO sh (es.take (i+1))=VO sh (es.take i)++_ at aR5
   change sG sh (es.take (i+1))=sG sh (es.take i)++_ at aR6
   have aWP:nY sh (es.take (i+1))=nY sh (es.take i)++(if(!(nQ sh x1||yT sh x1))=true then [(x1,x2,x3,x4)]else []):=b4N;clear b4N;rw[aOY.o,b4M.o]at aR6 aWP;rw[aOY.o]at aR5;clear hx;obtain⟨a6D,a6E,VP⟩:=aK aR5 aR6 aWP;clear aR5 aR6 aWP;go_upto_region 5 with fail
   have b8:=kG.new wr 55 #[.int .i64 x1,.int .i64 x2,.int .i64 x3,.int .i64 x4];have kU:=aD wr (.cells #[.int .i64 x1,.int .i64 x2,.int .i64 x3,.int .i64 x4] 55);have bS:=hbS.o.late kU;have H5:=H.o.later kU;have nV:=hb.o.tm kU;clear f0 f1 f2 f3 kU;generalize wr.alloc (.cells #[.int .i64 x1,.int .i64 x2,.int .i64 x3,.int .i64 x4] 55)=w5 at*;generalize wr.heap.size=g8 at*;have c0:=bS.cell (i:=0) rfl;have aWQ:=b8.lt;have HC:=aT7 254 (.inl rfl) (.pointer (some ⟨g8,0,none⟩)) la ln lc oN (fun y=>y.1==x1) w5 (FX.o.mono nV) (fun W y hW=>aKQ y g8 x1 W (late hW aWQ (b8.cell rfl)) (dD aWQ hW.size));obtain⟨r,hr⟩:=aC (oN.any fun y=>y.1==x1);rw[hr]at HC;replace a6D:=aA (by have h:=a6D.o;rw[hr]at h;exact h)
   replace a6E:=aA (by have h:=a6E.o;rw[hr]at h;exact h)
   replace VP:=aA (by have h:=VP.o;rw[hr]at h;exact h)
   obtain⟨WO,b8',bS',H5',LF,sH⟩:=aN HC b8 bS H5 nV hr;clear HC b8 bS H5 nV hr;go_wp2_with fail
   refine WO.o.mono ?_;rintro e w8 ⟨rfl,rW⟩;have b88:=b8'.o.late rW;have bS8:=bS'.o.late rW;obtain⟨H8,HB8⟩:=aJ (H5'.o.later rW) (LF.o.tm rW);clear c0 rW b8' bS' H5' LF WO;have q0:=b88.cell (i:=0) rfl;have q1:=b88.cell (i:=1) rfl;have q2:=b88.cell (i:=2) rfl;have q3:=b88.cell (i:=3) rfl;have s1:=bS8.cell (i:=1) rfl;have s2:=bS8.cell (i:=2) rfl;obtain⟨b41,a8O⟩:=aJ b88 bS8;clear b88 bS8;cases r with
   |true=>
    have h1:VO sh (es.take (i+1))=VO sh (es.take i)++ [(x1,x2,x3,x4)]:=by rw[a6D.o];simp[*]
    have h2:sG sh (es.take (i+1))=sG sh (es.take i):=by rw[a6E.o];simp[*]
    have h3:nY sh (es.take (i+1))=nY sh (es.take i):=by rw[VP.o];simp[*]
    go_wp2_with (at_builtin;refine mU rfl _ _ 154 rfl w.heap.size 55 i0 z0 4 32 Tryz.underlying154 AY hz qC wY ZA aH _ _ _ rfl (H8.o.later (aD w8 (.cells #[.int .i64 x1,.int .i64 x2,.int .i64 x3,.int .i64 x4] 55))).r1 ⟨w8.heap.size,0,none⟩ 1 1 (oF (x1,x2,x3,x4)) rfl (Sl.new w8 55 4 1 #[.int .i64 x1,.int .i64 x2,.int .i64 x3,.int .i64 x4] (0,0) aG rfl) (BV _) aG aH (by have:=HB8.o.size;simp;omega) ?_;intro a5 c5 wa ob VZ hoa;obtain⟨Ob,Hga,Hoa⟩:=aK ob VZ hoa;clear ob VZ hoa)
    have kU:=aD w8 (.cells #[.int .i64 x1,.int .i64 x2,.int .i64 x3,.int .i64 x4] 55);have H9:=(H8.o.later kU).app1 Hga.o Hoa.o Ob.o;have bS9:=(a8O.o.late kU).grown Hga.o (lF (H8.o.later kU).r1 (a8O.o.late kU) aH);have vP:=below_grown (HB8.o.tm kU) Hga.o (bU HB8.o.size kU.size) (H8.o.later kU).r1;clear q0 q1 q2 q3 s1 s2 kU;rw[←h1,←h2,←h3]at H9;obtain⟨H9',aCG,qB⟩:=aK H9 bS9 vP;clear H9 bS9 vP;go_roundw
    case rel=>exact⟨i+1,by omega,by go_num,by first|exact H9'|(have h:=H9';simpa [*] using h),aCG,qB⟩
    case measure=>simp[intOf];omega
   |false=>
    by_cases hp0:0<sat
    ·have d1:decide (0<sat)=true:=by simp;omega
     by_cases hp1:x1=sat
     ·have d2:(x1==sat)=true:=by simp[hp1]
      have h1:VO sh (es.take (i+1))=VO sh (es.take i):=by rw[a6D.o];simp[*]
      have h2:sG sh (es.take (i+1))=sG sh (es.take i)++ [(x1,x2,x3,x4)]:=by rw[a6E.o];simp[*]
      have h3:nY sh (es.take (i+1))=nY sh (es.take i):=by rw[VP.o];simp[*]
      clear hp1 hp0;go_wp2_with (at_builtin;refine mU rfl _ _ 154 rfl w.heap.size 55 i0 z0 4 32 Tryz.underlying154 AY hz qC wY ZA aH _ _ _ rfl (H8.o.later (aD w8 (.cells #[.int .i64 x1,.int .i64 x2,.int .i64 x3,.int .i64 x4] 55))).r2 ⟨w8.heap.size,0,none⟩ 1 1 (oF (x1,x2,x3,x4)) rfl (Sl.new w8 55 4 1 #[.int .i64 x1,.int .i64 x2,.int .i64 x3,.int .i64 x4] (0,0) aG rfl) (BV _) aG aH (by have:=HB8.o.size;simp;omega) ?_;intro a5 c5 wa ob VZ hoa;obtain⟨Ob,Hga,Hoa⟩:=aK ob VZ hoa;clear ob VZ hoa)
      have kU:=aD w8 (.cells #[.int .i64 x1,.int .i64 x2,.int .i64 x3,.int .i64 x4] 55);have H9:=(H8.o.later kU).bLZ Hga.o Hoa.o Ob.o;have bS9:=(a8O.o.late kU).grown Hga.o (lF (H8.o.later kU).r2 (a8O.o.late kU) aH);have vP:=below_grown (HB8.o.tm kU) Hga.o (bU HB8.o.size kU.size) (H8.o.later kU).r2;clear q0 q1 q2 q3 s1 s2 kU;rw[←h1,←h2,←h3]at H9;obtain⟨H9',aCG,qB⟩:=aK H9 bS9 vP;clear H9 bS9 vP;go_roundw
      case rel=>exact⟨i+1,by omega,by go_num,by first|exact H9'|(have h:=H9';simpa [*] using h),aCG,qB⟩
      case measure=>simp[intOf];omega
     ·have d2:(x1==sat)=false:=by simp[hp1]
      by_cases TA:x1=kC
      ·have d3:(x1==kC)=true:=by simp[TA]
       have h1:VO sh (es.take (i+1))=VO sh (es.take i):=by rw[a6D.o];simp[*]
       have h2:sG sh (es.take (i+1))=sG sh (es.take i)++ [(x1,x2,x3,x4)]:=by rw[a6E.o];simp[*]
       have h3:nY sh (es.take (i+1))=nY sh (es.take i):=by rw[VP.o];simp[*]
       clear hp1 hp0 TA;go_wp2_with (at_builtin;refine mU rfl _ _ 154 rfl w.heap.size 55 i0 z0 4 32 Tryz.underlying154 AY hz qC wY ZA aH _ _ _ rfl (H8.o.later (aD w8 (.cells #[.int .i64 x1,.int .i64 x2,.int .i64 x3,.int .i64 x4] 55))).r2 ⟨w8.heap.size,0,none⟩ 1 1 (oF (x1,x2,x3,x4)) rfl (Sl.new w8 55 4 1 #[.int .i64 x1,.int .i64 x2,.int .i64 x3,.int .i64 x4] (0,0) aG rfl) (BV _) aG aH (by have:=HB8.o.size;simp;omega) ?_;intro a5 c5 wa ob VZ hoa;obtain⟨Ob,Hga,Hoa⟩:=aK ob VZ hoa;clear ob VZ hoa)
       have kU:=aD w8 (.cells #[.int .i64 x1,.int .i64 x2,.int .i64 x3,.int .i64 x4] 55);have H9:=(H8.o.later kU).bLZ Hga.o Hoa.o Ob.o;have bS9:=(a8O.o.late kU).grown Hga.o (lF (H8.o.later kU).r2 (a8O.o.late kU) aH);have vP:=below_grown (HB8.o.tm kU) Hga.o (bU HB8.o.size kU.size) (H8.o.later kU).r2;clear q0 q1 q2 q3 s1 s2 kU;rw[←h1,←h2,←h3]at H9;obtain⟨H9',aCG,qB⟩:=aK H9 bS9 vP;clear H9 bS9 vP;go_roundw
       case rel=>exact⟨i+1,by omega,by go_num,by first|exact H9'|(have h:=H9';simpa [*] using h),aCG,qB⟩
       case measure=>simp[intOf];omega
      ·have d3:(x1==kC)=false:=by simp[TA]
       have h1:VO sh (es.take (i+1))=VO sh (es.take i):=by rw[a6D.o];simp[*]
       have h2:sG sh (es.take (i+1))=sG sh (es.take i):=by rw[a6E.o];simp[*]
       have h3:nY sh (es.take (i+1))=nY sh (es.take i)++ [(x1,x2,x3,x4)]:=by rw[VP.o];simp[*]
       clear hp1 hp0 TA;go_wp2_with (at_builtin;refine mU rfl _ _ 154 rfl w.heap.size 55 i0 z0 4 32 Tryz.underlying154 AY hz qC wY ZA aH _ _ _ rfl (H8.o.later (aD w8 (.cells #[.int .i64 x1,.int .i64 x2,.int .i64 x3,.int .i64 x4] 55))).r3 ⟨w8.heap.size,0,none⟩ 1 1 (oF (x1,x2,x3,x4)) rfl (Sl.new w8 55 4 1 #[.int .i64 x1,.int .i64 x2,.int .i64 x3,.int .i64 x4] (0,0) aG rfl) (BV _) aG aH (by have:=HB8.o.size;simp;omega) ?_;intro a5 c5 wa ob VZ hoa;obtain⟨Ob,Hga,Hoa⟩:=aK ob VZ hoa;clear ob VZ hoa)
       have kU:=aD w8 (.cells #[.int .i64 x1,.int .i64 x2,.int .i64 x3,.int .i64 x4] 55);have H9:=(H8.o.later kU).bM0 Hga.o Hoa.o Ob.o;have bS9:=(a8O.o.late kU).grown Hga.o (lF (H8.o.later kU).r3 (a8O.o.late kU) aH);have vP:=below_grown (HB8.o.tm kU) Hga.o (bU HB8.o.size kU.size) (H8.o.later kU).r3;clear q0 q1 q2 q3 s1 s2 kU;rw[←h1,←h2,←h3]at H9;obtain⟨H9',aCG,qB⟩:=aK H9 bS9 vP;clear H9 bS9 vP;go_roundw
       case rel=>exact⟨i+1,by omega,by go_num,by first|exact H9'|(have h:=H9';simpa [*] using h),aCG,qB⟩
       case measure=>simp[intOf];omega
    ·have d1:decide (0<sat)=false:=by simp;omega
     have h1:VO sh (es.take (i+1))=VO sh (es.take i):=by rw[a6D.o];simp[*]
     have h2:sG sh (es.take (i+1))=sG sh (es.take i):=by rw[a6E.o];simp[*]
     have h3:nY sh (es.take (i+1))=nY sh (es.take i)++ [(x1,x2,x3,x4)]:=by rw[VP.o];simp[*]
     clear hp0;go_wp2_with (at_builtin;refine mU rfl _ _ 154 rfl w.heap.size 55 i0 z0 4 32 Tryz.underlying154 AY hz qC wY ZA aH _ _ _ rfl (H8.o.later (aD w8 (.cells #[.int .i64 x1,.int .i64 x2,.int .i64 x3,.int .i64 x4] 55))).r3 ⟨w8.heap.size,0,none⟩ 1 1 (oF (x1,x2,x3,x4)) rfl (Sl.new w8 55 4 1 #[.int .i64 x1,.int .i64 x2,.int .i64 x3,.int .i64 x4] (0,0) aG rfl) (BV _) aG aH (by have:=HB8.o.size;simp;omega) ?_;intro a5 c5 wa ob VZ hoa;obtain⟨Ob,Hga,Hoa⟩:=aK ob VZ hoa;clear ob VZ hoa)
     have kU:=aD w8 (.cells #[.int .i64 x1,.int .i64 x2,.int .i64 x3,.int .i64 x4] 55);have H9:=(H8.o.later kU).bM0 Hga.o Hoa.o Ob.o;have bS9:=(a8O.o.late kU).grown Hga.o (lF (H8.o.later kU).r3 (a8O.o.late kU) aH);have vP:=below_grown (HB8.o.tm kU) Hga.o (bU HB8.o.size kU.size) (H8.o.later kU).r3;clear q0 q1 q2 q3 s1 s2 kU;rw[←h1,←h2,←h3]at H9;obtain⟨H9',aCG,qB⟩:=aK H9 bS9 vP;clear H9 bS9 vP;go_roundw
     case rel=>exact⟨i+1,by omega,by go_num,by first|exact H9'|(have h:=H9';simpa [*] using h),aCG,qB⟩
     case measure=>simp[intOf];omega
  ·obtain rfl:i=n:=by omega
   have H2:=H.o;rw[bW (by rw[aUQ.o];exact aY _)]at H2;have H2':=aA H2;clear H2;go_wp2_with fail
   refine bodyPost_ret (results_tmp3 rfl _ _ _) rfl ?_;exact⟨_,_,_,rfl,H2'.o,hb.o⟩
def fs4 (fs:Array Field):List (String×TypeId×Nat):=fs.toList.map fun f=>(f.name,f.type,f.offset)
theorem fx:fs4 (Tryz.prog.fieldsOf 55)= [("Tag",3,0),("Type",3,1),("Count",3,2),("Slot",3,3)]:=by kernel_rfl
theorem aWR {P:Program} {d:Nat} {T:TypeId} {kk:IntKind} (hT:P.underlying T=some (.int kk)) (hA:∀W,(isAgg T).run P W= .ok false W) (xs ys:Array Value) (W:World):∀(fs:List Field) (l:List (String×Nat×Int×Int)),fs.map (fun f=>(f.name,f.type,f.offset))=l.map (fun q=>(q.1,T,q.2.1))→(∀q∈l,q.1≠ "_" ∧xs[q.2.1]? =some (.int .i64 q.2.2.1)∧ys[q.2.1]? =some (.int .i64 q.2.2.2))→
  (Op.eqFields (d+1) xs ys fs).run P W= .ok (l.all fun q=>q.2.2.1==q.2.2.2) W
 | [],l,h,_=>by
  cases l with
  |nil=>rfl
  |cons q l=>simp at h
 |f::fs, [],h,_=>by simp at h
 |f::fs,q::l,h,hq=>by
  simp only[aW,iU,iF]at h;obtain⟨⟨h1,h2,h3⟩,h4⟩:=h;obtain⟨g1,g2,g3⟩:=hq q (by simp);have ih:=aWR (d:=d) hT hA xs ys W fs l h4 (fun q hq'=>hq q (bL _ hq'));simp only[Op.eqFields];rw[h1,if_pos g1,h2,h3];simp only[gZ,part,hA,Result.andThen_ok,g2,g3,Bool.false_eq_true,if_false,iV,run_equalIn_int W d T .i64 kk q.2.2.1 q.2.2.2 hT,jQ];cases hb:(q.2.2.1==q.2.2.2)
  ·simp
  ·simp[ih]
theorem aNF (x y:oJ) (W:World):(binOp .eql 55 (.agg #[.int .i64 x.1,.int .i64 x.2.1,.int .i64 x.2.2.1,.int .i64 x.2.2.2]) (.agg #[.int .i64 y.1,.int .i64 y.2.1,.int .i64 y.2.2.1,.int .i64 y.2.2.2])).run Tryz.prog W= .ok (.bool (decide (x=y))) W:=by
 have hfx:=fx;unfold fs4 at hfx;rw[run_eql_struct,run_equalIn_agg W 9999 _ _ _ aF aF,aWR (T:=3) (kk:= .i64) Tryz.underlying3 (fun W=>by kernel_rfl) _ _ W _ [("Tag",0,x.1,y.1),("Type",1,x.2.1,y.2.1),("Count",2,x.2.2.1,y.2.2.1),("Slot",3,x.2.2.2,y.2.2.2)] hfx (by simp)];simp only[Result.andThen];refine congrArg (fun b=>Result.ok (Value.bool b) W) ?_;rw[dY];obtain⟨a,b,c,d⟩:=x;obtain⟨a',b',c',d'⟩:=y;simp
theorem VQ {X:Nat→Prop} {B g:Nat} {w w':World} (h:But g w w') (hg:g<B):Kp X X B w w':=⟨h.size,fun k hB hk hx=>⟨h.block k hk aG,hx⟩⟩
structure Sk (X:Nat→Prop) (B B':Nat) (w:World) (v:Value) (sz n:Nat) (cs:List Value):Prop where
 at_:∃a c,v= .slice a n c∧Sl w a n c sz cs∧∀x,a=some x→B≤x.block∧x.block<B'∧¬X x.block
theorem aNG {w w':World} {a:Option Addr} {n c sz:Nat} {cs:List Value} (h:Sl w a n c sz cs) (hs:w.heap.size≤w'.heap.size) (hb:∀x,a=some x→x.block<w.heap.size→w'.heap[x.block]? =w.heap[x.block]?):Sl w' a n c sz cs:=
 ⟨h.len,h.le,h.max,fun i hi=>by
  obtain⟨g,off,e,kY,hc⟩:=h.lies i hi;refine⟨g,off,e,dD kY hs,fun j v hv=>?_⟩;have h1:=hc j v hv;have h2:=hb _ e kY;unfold World.cell? at h1 ⊢;rw[h2];exact h1,h.fit⟩
theorem Sk.keep {X X':Nat→Prop} {B B':Nat} {w w':World} {v:Value} {sz n:Nat} {cs:List Value} (h:Sk X B B' w v sz n cs) (k:Kp X X' B w w') (hB:B'≤w.heap.size):Sk X' B B' w' v sz n cs:=by
 obtain⟨a,c,rfl,h1,h2⟩:=h.at_;exact⟨a,c,rfl,aNG h1 k.size (fun x hx kY=>(k.block x.block (h2 x hx).1 kY (h2 x hx).2.2).1),fun x hx=>⟨(h2 x hx).1,(h2 x hx).2.1,(k.block x.block (h2 x hx).1 (by have:=(h2 x hx).2.1;omega) (h2 x hx).2.2).2⟩⟩
theorem Sk.grown {X:Nat→Prop} {B B':Nat} {w w':World} {v:Value} {sz n:Nat} {cs:List Value} {row:Option Nat} (h:Sk X B B' w v sz n cs) (hg:w.grownBy w' row) (hr:∀k,row=some k→B'≤k):Sk X B B' w' v sz n cs:=by
 obtain⟨a,c,rfl,h1,h2⟩:=h.at_;exact⟨a,c,rfl,aNG h1 hg.size (fun x hx kY=>hg.block _ kY (fun e=>by have:=hr _ e.symm;have:=(h2 x hx).2.1;omega)),h2⟩
theorem Sk.kZ {X:Nat→Prop} {B B':Nat} {w:World} {v:Value} {E:TypeId} {sz n:Nat} {xs:List Value} (h:w.ownsRow B E sz v n xs) (hB:w.heap.size≤B') (hX:∀k,v.ownBlock=some k→¬X k):Sk X B B' w v sz n xs:=by
 have kY:=h.lt;rcases h.2 with ⟨rfl,h0⟩|⟨g,cap,cur,rfl,hr⟩
 ·subst h0;exact⟨none,0,rfl,(Sl.kZ h).1,fun x hx=>by cases hx⟩
 ·exact⟨_,_,rfl,(Sl.kZ h).1,fun x hx=>by
   injection hx with hx;subst hx;have:=kY g rfl;exact⟨this.1,by show g<B';omega,hX g rfl⟩⟩
def a6F (n:Nat) (p:Nat→Bool):Nat:=((List.range n).filter p).length
theorem SN (n:Nat) (p:Nat→Bool):a6F (n+1) p=a6F n p+(if p n=true then 1 else 0):=by
 unfold a6F;rw[fZ,eT,cO];congr 1
 cases h:p n <;> simp[h]
theorem b4O (n:Nat) (p:Nat→Bool):a6F n p≤n:=by
 unfold a6F;exact bU (List.length_filter_le _ _) (by simp)
theorem aA0 {p q:Nat→Bool} (h:∀k,p k=true→q k=true):∀n,a6F n p≤a6F n q
 |0=>by simp[a6F]
 |n+1=>by
  rw[SN,SN];have ih:=aA0 h n;by_cases hp:p n=true
  ·rw[if_pos hp,if_pos (h n hp)];omega
  ·rw[if_neg hp];split <;> omega
theorem aNH {p q:Nat→Bool} (h:∀k,p k=true→q k=true) {k:Nat} (h1:p k=false) (h2:q k=true):∀n,k<n→a6F n p+1≤a6F n q
 |0,hk=>by omega
 |n+1,hk=>by
  rw[SN,SN];by_cases hkn:k=n
  ·subst hkn;have:=aA0 h k;rw[h2,h1];simp;exact this
  ·have ih:=aNH h h1 h2 n aG;by_cases hp:p n=true
   ·rw[if_pos hp,if_pos (h n hp)];omega
   ·rw[if_neg hp];split <;> omega
def Inv (n:Nat) (s:St):Prop:=s.o5.length≤a6F n (fun(k:Nat)=>nH s k)
theorem Inv.le {n:Nat} {s:St} (h:Inv n s):s.o5.length≤n:=bU h (b4O _ _)
theorem Inv.a6G {n:Nat} {s s':St} (h:Inv n s) (e:s'.o5=s.o5):Inv n s':=by
 unfold Inv nH at*;rw[e];exact h
theorem M0 {n:Nat} {x:mZ} {s s':St} (h:oG n x s= .ok s') (hl:1≤x.2.2.2.2) (hi:Inv n s):Inv n s':=by
 have hf:=SL h;unfold oG at h;rw[if_pos hf]at h;split at h
 ·rename_i hfr;injection h with h;subst h;unfold WX zZ at hf;simp only[bK,decide_eq_true_eq]at hf;obtain⟨A,hA⟩:∃A:Nat,x.2.2.2.1=A:=⟨x.2.2.2.1.toNat,by omega⟩
  have h0:nH s (A:Int)=false:=by
   unfold WW at hfr;have:=dI.1 hfr 0 (cZ.2 aG);rw[hA]at this;simpa using this
  have h1:nH {s with o5:=s.o5++ [x]} (A:Int)=true:=by
   rw[QL];unfold ZT;rw[hA];simp;omega
  have:=aNH (p:=fun(k:Nat)=>nH s k) (q:=fun(k:Nat)=>nH {s with o5:=s.o5++ [x]} k) (fun k hk=>by rw[QL,hk];rfl) h0 h1 n aG;unfold Inv at*;simp only[cO,iT];omega
 ·cases h
theorem a0I {α σ:Type} {step:σ→α→Except Int σ} {P:σ→Prop} (hs:∀s x s',step s x= .ok s'→P s→P s'):∀{l:List α} {s s':σ},loopS step l s= .ok s'→P s→P s'
 | [],s,s',h,hp=>by
  injection h with h;subst h;exact hp
 |x::r,s,s',h,hp=>by
  simp only[loopS]at h;cases hx:step s x with
  |error e=>rw[hx]at h;cases h
  |ok s1=>
   rw[hx]at h;exact a0I hs h (hs _ _ _ hx hp)
theorem YH {z:List Int} {o p no:Int} {s:St} {l:List oJ} {s':St} (h:nU z o p no s= .ok (l,s')) (hi:Inv z.length s):Inv z.length s':=by
 unfold nU at h;split at h
 ·split at h
  ·rename_i h0;cases ht:oG z.length (2,no,0,p,6+12*mM z p 2 o) s with
   |error e=>rw[ht]at h;cases h
   |ok s1=>
    rw[ht]at h;simp only at h;split at h
    ·injection h with h
     injection h with h1 h2;subst h2;exact M0 ht (by show 1≤6+12*mM z p 2 o;omega) hi
    ·cases h
  ·cases h
 ·cases h
theorem a6H {z:List Int} {o:Int} {x:oJ} {no:Int} {s:St} {v:oZ} {s':St} (h:rY z o x no s= .ok (v,s')) (hi:Inv z.length s):Inv z.length s':=by
 unfold rY at h;split at h
 ·split at h
  ·rename_i h0;cases ht:oG z.length (3,no,x.1,x.2.2.2,rT x.2.1 x.2.2.1) s with
   |error e=>rw[ht]at h;cases h
   |ok s1=>
    rw[ht]at h;simp only at h;cases hv:ofS x.2.1 x.2.2.1 (z.drop x.2.2.2.toNat) o with
    |none=>rw[hv]at h;cases h
    |some d=>
     rw[hv]at h;injection h with h;injection h with h1 h2;subst h2;exact M0 ht (by show 1≤rT x.2.1 x.2.2.1;omega) hi
  ·cases hv:inS x o with
   |none=>rw[hv]at h;cases h
   |some d=>
    rw[hv]at h;injection h with h;injection h with h1 h2;subst h2;exact hi.a6G rfl
 ·cases h
theorem aR7 {z:List Int} {o:Int} {sh:nP} {no:Int} {acc acc':List oZ×St} {x:oJ} (h:stepT z o sh no acc x= .ok acc') (hi:Inv z.length acc.2):Inv z.length acc'.2:=by
 unfold stepT at h;split at h
 ·split at h
  ·injection h with h
   subst h;exact hi
  ·cases h
 ·cases hv:rY z o x no acc.2 with
  |error e=>rw[hv]at h;cases h
  |ok r=>
   obtain⟨v,s'⟩:=r;rw[hv]at h;injection h with h;subst h;exact a6H hv hi
theorem aR8 {z:List Int} {f:Nat} {rec:Int→Int→St→Except Int ((jY f×Int)×St)} (hr:∀p sh s r s',rec p sh s= .ok (r,s')→Inv z.length s→Inv z.length s') {sh:nP} {acc acc':List (Int×jY f)×St} {x:oJ} (h:vF rec sh acc x= .ok acc') (hi:Inv z.length acc.2):Inv z.length acc'.2:=by
 unfold vF at h;split at h
 ·cases hv:rec x.2.2.2 (sh.1.getD (fst (fun y=>y.1==x.1) sh.1).toNat (0,0)).2 acc.2 with
  |error e=>rw[hv]at h;cases h
  |ok r=>
   obtain⟨⟨d,next⟩,s'⟩:=r;rw[hv]at h;simp only at h;split at h
   ·injection h with h
    subst h;exact hr _ _ _ _ _ hv hi
   ·cases h
 ·injection h with h
  subst h;exact hi
theorem aR9 {z:List Int} {sh:nP} {l:List oJ} {no:Int} {s:St} {b:List Int} {s':St} (h:zB z sh l no s= .ok (b,s')) (hi:Inv z.length s):Inv z.length s':=by
 unfold zB at h;split at h
 ·rename_i x y _;split at h
  ·rename_i h0;cases ht:oG z.length (4,no,0,x.2.2.2,y.2.2.2) s with
   |error e=>rw[ht]at h;cases h
   |ok s1=>
    rw[ht]at h;injection h with h;injection h with h1 h2;subst h2;exact M0 ht (by show 1≤y.2.2.2;omega) hi
  ·cases h
 ·injection h with h
  injection h with h1 h2;subst h2;exact hi
theorem a6I {z:List Int} {o:Int} {L:List nP}:∀{f:Nat} {p sh:Int} {s:St} {r:jY f×Int} {s':St},rV z o L f p sh s= .ok (r,s')→Inv z.length s→Inv z.length s'
 |0,_,_,_,_,_,h,_=>by simp[rV]at h
 |f+1,p,sh,s,r,s',h,hi=>by
  simp only[rV]at h;cases he:nU z o p s.no {s with no:=IntKind.i64.wrap (s.no+1)}with
  |error e=>rw[he]at h;cases h
  |ok q=>
   obtain⟨l,s1⟩:=q;rw[he]at h;simp only at h;have i1:=YH he (hi.a6G rfl);cases ht:loopS (stepT z o (L.getD sh.toNat kQ) s.no) l ([],s1)with
   |error e=>rw[ht]at h;cases h
   |ok q=>
    obtain⟨tags,s2⟩:=q;rw[ht]at h;simp only at h;have i2:=a0I (P:=fun a:List oZ×St=>Inv z.length a.2) (fun _ _ _ h hp=>aR7 h hp) ht i1;split at h
    ·cases h
    ·cases hd:loopS (vF (rV z o L f) (L.getD sh.toNat kQ)) l ([],s2)with
     |error e=>rw[hd]at h;cases h
     |ok q=>
      obtain⟨subs,s3⟩:=q;rw[hd]at h;simp only at h;have i3:=a0I (P:=fun a:List (Int×jY f)×St=>Inv z.length a.2) (fun _ _ _ h hp=>aR8 (fun _ _ _ _ _ h hi=>a6I h hi) h hp) hd i2;cases hb:zB z (L.getD sh.toNat kQ) l s.no s3 with
      |error e=>rw[hb]at h;cases h
      |ok q=>
       obtain⟨blob,s4⟩:=q;rw[hb]at h;injection h with h;injection h with h1 h2;subst h2;exact aR9 hb i3
theorem bM1 {z:List Int} (hb:pF z) (q o:Int):0≤mM z q 4 o∧mM z q 4 o≤4294967295:=by
 have:=YF hb q 4 o;rw[show((4:Nat):Int)=4 from rfl,show(256:Int) ^ 4=4294967296 by decide]at this;omega
theorem aRA {z:List Int} {o:Int} {L:List nP} {f:Nat} {p sh:Int} {s:St} {d:jY f} {nx:Int} {s':St} (hb:pF z) (h:rV z o L f p sh s= .ok ((d,nx),s')):0≤nx∧nx≤4294967295:=by
 cases f with
 |zero=>simp[rV]at h
 |succ f=>
  simp only[rV]at h;split at h
  ·cases h
  ·split at h
   ·cases h
   ·split at h
    ·cases h
    ·split at h
     ·cases h
     ·split at h
      ·cases h
      ·injection h with h
       injection h with h1 h2;injection h1 with h3 h4;subst h4;exact bM1 hb _ _
section
attribute [local go_sem] Lib.run_eql_slice_nil
theorem aKR (a:Option Addr) (n c:Nat) (z:List Int) (w:World) (hs:Sl w a n c 1 (ints .u8 z)) (hl:n≤140737488355328):
  Calls Tryz.prog 61 #[.slice a n c] w fun e w'=>∃a' c',e= .returned (.slice a' n c')∧w'.ownsRow w.heap.size 5 1 (.slice a' n c') n (ints .u8 z)∧Below w.heap.size w w':=by
 obtain⟨i0,hi,yZ,qC,wY⟩:=info_parts a99;cases a with
 |none=>
  have hc:=hs.fit rfl;subst hc;have hn:n=0:=by have:=hs.le;omega
  subst hn;have hp:z= []:=dS hs.p9;subst hp;clear hs;go_enter Tryz.func61,Tryz.ntmps61;go_wp2;go_ret;exact⟨_,_,rfl,lC _ _ _ _,bF _ _⟩
 |some ad=>
  have sK:=aA hs;clear hs;go_enter Tryz.func61,Tryz.ntmps61;go_wp2_with (at_builtin;refine qD rfl _ _ 24 rfl w.heap.size 5 i0 _ 1 1 Tryz.underlying24 hi yZ qC wY rfl aH _ 0 [] rfl (a2N w w.heap.size 5 1 0 #[] (aY _) (by unfold maxLen;omega) rfl) _ n c _ rfl (AZ sK.o _) wQ aG aH (by simp) ?_;intro a5 c5 w2 ob kP MB;rw[eU]at ob ⊢;rw[fG]at ob;clear MB;obtain⟨Ob,Hb2⟩:=aJ ob (((bF _ _).alloc (aY _) _).trans kP);clear ob kP)
  go_ret;exact⟨_,_,rfl,Ob.o,Hb2.o⟩
end
abbrev Xv (sv:Value):Nat→Prop:=fun k=>sv.ownBlock=some k
theorem a6J {X Y Z:Nat→Prop} {B:Nat} {w w1 w2:World} (h:Kp X Y B w w1) (k:Kp Y Z B w1 w2):Kp X Z B w w2:=
 ⟨bU h.size k.size,fun i hB hi hx=>by
  have h1:=h.block i hB hi hx;have h2:=k.block i hB (dD hi h.size) h1.2;exact⟨h2.1.trans h1.1,h2.2⟩⟩
theorem SQ {w w':World} {r:Nat} (h:w.grownBy w' (some r)):But r w w':=⟨h.os,h.tape,h.output,h.size,fun k hk pQ=>h.block k hk (fun e=>pQ (by injection e))⟩
theorem K9 {w w':World} (h:w.grownBy w' none):Below w.heap.size w w':=⟨h.os,h.tape,h.output,h.size,fun k hk=>h.block k hk (fun e=>by cases e)⟩
structure Pst (K:WkS) (A B B2 gd gs:Nat):Prop where
 g:K.g<A
 gt:K.gt<A
 w0:K.w0.heap.size≤A
 gd1:A≤gd
 gd2:gd<B
 gs1:A≤gs
 gs2:gs<B
 gds:gd≠gs
 bb:B≤B2
structure Pk (K:WkS) (A B B2 gd gs:Nat) (w w4:World) (sv sv3:Value) (zc:Array Value) (s:St) (EN:Value) (tk:List Nat) (vt vs vb:Value) (tags:List oZ) (wr:World):Prop where
 ok:zJ K s EN tk wr
 inv:Inv K.n s
 mv:Mv K.g K.gt sv EN w wr
 nb:∀k,EN.ownBlock=some k→k<A∨B≤k
 kp:Kp (Xv sv3) (Xv EN) B w4 wr
 tg:lX (Xv EN) B2 wr vt tags
 bD:kG wr gd 26 #[vt,vs,vb]
 bS:kG wr gs 35 zc
 sz:B2≤wr.heap.size
section
variable {K:WkS} {A B B2 gd gs:Nat} {w w4:World} {sv sv3:Value} {zc:Array Value} {s:St} {EN:Value} {tk:List Nat} {vt vs vb:Value} {tags:List oZ} {wr wr':World}
theorem Pk.later (h:Pk K A B B2 gd gs w w4 sv sv3 zc s EN tk vt vs vb tags wr) (hb:Below wr.heap.size wr wr'):Pk K A B B2 gd gs w w4 sv sv3 zc s EN tk vt vs vb tags wr':=
 ⟨h.ok.later hb,h.inv,h.mv.later hb,h.nb,a6J h.kp (Kp.later hb),h.tg.keep (Kp.later hb),h.bD.late hb,h.bS.late hb,bU h.sz hb.size⟩
theorem Pk.mv2 {s':St} {zS:Value} {tk':List Nat} (h:Pk K A B B2 gd gs w w4 sv sv3 zc s EN tk vt vs vb tags wr) (p:Pst K A B B2 gd gs) (m:Mv K.g K.gt EN zS wr wr') (ok':zJ K s' zS tk' wr') (bXB:Inv K.n s'):Pk K A B B2 gd gs w w4 sv sv3 zc s' zS tk' vt vs vb tags wr':=
 have:=p.g;have:=p.gt;have:=p.gd1;have:=p.gd2;have:=p.gs1;have:=p.gs2;have:=p.bb;have tC:=h.sz;⟨ok',bXB,h.mv.trans m,fun k e=>by rcases m.own k e with h1|h1 <;> first|exact h.nb k h1|omega,a6J h.kp (Kp.mv m aG aG),h.tg.keep (Kp.mv m aG aG),
  h.bD.mv m aG aG (fun e=>by have:=h.nb _ e;omega),h.bS.mv m aG aG (fun e=>by have:=h.nb _ e;omega),bU tC m.size⟩
theorem Pk.bM2 {vt' vs' vb':Value} {a6K:List oZ} (h:Pk K A B B2 gd gs w w4 sv sv3 zc s EN tk vt vs vb tags wr) (p:Pst K A B B2 gd gs) (hb:But gd wr wr') (bD':kG wr' gd 26 #[vt',vs',vb']) (tg':lX (Xv EN) B2 wr vt' a6K) (hw:w.heap.size=A):Pk K A B B2 gd gs w w4 sv sv3 zc s EN tk vt' vs' vb' a6K wr':=
 have:=p.g;have:=p.gt;have:=p.gd1;have:=p.gd2;have:=p.w0;have:=p.bb;⟨h.ok.but hb aG aG (fun e=>by have:=h.nb _ e;omega) aG,h.inv,h.mv.yS aG hb,h.nb,a6J h.kp (VQ hb p.gd2),tg'.keep (VQ hb aG),bD',h.bS.but hb (Ne.symm p.gds),bU h.sz hb.size⟩
theorem Pk.bM3 {vt':Value} {a6K:List oZ} {r:Nat} (h:Pk K A B B2 gd gs w w4 sv sv3 zc s EN tk vt vs vb tags wr) (p:Pst K A B B2 gd gs) (hb:But r wr wr') (hr:B2≤r) (hx:EN.ownBlock≠some r) (hw4:w4.heap.size=B2) (hw:w.heap.size=A) (tg':lX (Xv EN) B2 wr' vt tags):Pk K A B B2 gd gs w w4 sv sv3 zc s EN tk vt vs vb tags wr':=
 have:=p.g;have:=p.gt;have:=p.gd1;have:=p.gd2;have:=p.w0;have:=p.bb;have:=p.gs2;⟨h.ok.but hb aG aG hx aG,h.inv,h.mv.yS aG hb,h.nb,⟨bU h.kp.size hb.size,fun k hB hk hX=>⟨(hb.block k (dD hk h.kp.size) aG).trans (h.kp.block k hB hk hX).1,(h.kp.block k hB hk hX).2⟩⟩,tg',h.bD.but hb aG,h.bS.but hb aG,bU h.sz hb.size⟩
theorem Pk.app {w8 w9 w10:World} {vt' vs' vb':Value} {a6K:List oZ} {row:Option Nat} (h:Pk K A B B2 gd gs w w4 sv sv3 zc s EN tk vt vs vb tags w8) (p:Pst K A B B2 gd gs) (hg:w8.grownBy w9 row) (hr:∀r,row=some r→B2≤r∧EN.ownBlock≠some r) (hw4:w4.heap.size=B2) (hw:w.heap.size=A)
  (hb:But gd w9 w10) (bD':kG w10 gd 26 #[vt',vs',vb']) (tg':lX (Xv EN) B2 w9 vt' a6K):Pk K A B B2 gd gs w w4 sv sv3 zc s EN tk vt' vs' vb' a6K w10:=by
 have:=p.g;have:=p.gt;have:=p.gd1;have:=p.gd2;have:=p.w0;have:=p.bb;have:=p.gs2;cases row with
 |none=>exact(h.later (K9 hg)).bM2 p hb bD' tg' hw
 |some r=>
  have hr:=hr r rfl;have nR:=SQ hg;exact⟨(h.ok.but nR aG aG hr.2 aG).but hb aG aG (fun e=>by have:=h.nb _ e;omega) aG,h.inv,(h.mv.yS aG nR).yS aG hb,h.nb,
   ⟨bU h.kp.size (bU nR.size hb.size),fun k hB hk hX=>⟨(hb.block k (dD hk (bU h.kp.size nR.size)) aG).trans ((nR.block k (dD hk h.kp.size) aG).trans (h.kp.block k hB hk hX).1),(h.kp.block k hB hk hX).2⟩⟩,
   tg'.keep (VQ hb aG),bD',(h.bS.but nR aG).but hb (Ne.symm p.gds),bU h.sz (bU nR.size hb.size)⟩
end
theorem EO {α σ:Type} {step:σ→α→Except Int σ} {x:α} {r:List α} {s s':σ} (h:step s x= .ok s'):loopS step (x::r) s=loopS step r s':=by simp[loopS,h]
theorem vK {α σ:Type} {step:σ→α→Except Int σ} {x:α} {r:List α} {s:σ} {e:Int} (h:step s x= .error e):loopS step (x::r) s= .error e:=by simp[loopS,h]
theorem Sk.sl {X:Nat→Prop} {B B':Nat} {w:World} {a:Option Addr} {n n' c sz:Nat} {cs:List Value} (h:Sk X B B' w (.slice a n c) sz n' cs):n=n'∧Sl w a n c sz cs:=by
 obtain⟨a',c',e,h1,_⟩:=h.at_;injection e with e1 e2 e3;subst e1 e2 e3;exact⟨rfl,h1⟩
theorem Sk.val {X:Nat→Prop} {B B':Nat} {w:World} {v:Value} {n sz:Nat} {cs:List Value} (h:Sk X B B' w v sz n cs):∃a c,v= .slice a n c:=by
 obtain⟨a',c',e,_⟩:=h.at_;exact⟨a',c',e⟩
theorem Sk.tail {X:Nat→Prop} {B B':Nat} {w:World} {a a2:Option Addr} {n c n2 c2 sz:Nat} {cs cs2:List Value} (h:Sk X B B' w (.slice a n c) sz n cs) (hs:Sl w a2 n2 c2 sz cs2) (hi:In a2 a):Sk X B B' w (.slice a2 n2 c2) sz n2 cs2:=by
 obtain⟨a',c',e,_,h2⟩:=h.at_;injection e with e1 e2 e3;subst e1 e3
 exact⟨a2,c2,rfl,hs,fun x hx=>by
  obtain⟨y,hy,hb⟩:=hi x hx;rw[←hb];exact h2 y hy⟩
theorem b4P {α:Type} {f:α→List Value} {k:Nat} (hf:∀x,(f x).length=k) (x:α) (r:List α):(fl f (x::r)).drop k=fl f r:=by
 rw[a2Q,List.drop_append,hf x,iP,iB (by rw[hf x];exact aY _)];simp
theorem nX.slices {X:Nat→Prop} {B:Nat} {w:World}:∀{f:Nat} {d:jY f} {v:Dz},nX X B w f d v→∃a1 n1 c1 a2 n2 c2 a3 n3 c3,v=(.slice a1 n1 c1,.slice a2 n2 c2,.slice a3 n3 c3)
 |0,_,_,h=>h.elim
 |f+1,d,v,h=>by
  obtain⟨_,⟨zs,_,h1,_⟩,⟨ds,_,h2,_⟩,h3⟩:=h;obtain⟨a1,c1,e1⟩:=FV h1.1;obtain⟨a2,c2,e2⟩:=FV h2.1;obtain⟨a3,c3,e3⟩:=FV h3.1;obtain⟨v1,v2,v3⟩:=v;simp only at e1 e2 e3;subst e1 e2 e3;exact⟨_,_,_,_,_,_,_,_,_,rfl⟩
def aNI (f:Nat) (w:World) (r:jY f×Int) (zS:Value) (e:Ending) (w':World):Prop:=
 ∃v:Dz,e= .returned (.tuple #[.agg #[v.1,v.2.1,v.2.2],.int .i64 r.2])∧nX (Xv zS) w.heap.size w' f r.1 v
end Go.Proofs.YtceclmpmpldmlaaGreat
namespace Go.Proofs.YtceclmpmpldmlaaGreat
open Go.RowKit Tt
def bM4 (oo:Int) (R:Except Int (List (jY 16)×St)):Int:=match R with
 | .error e=>e
 | .ok (ds,_)=>ofC 16 oo ds
def bM5 (oo:Int) (R:Except Int (List (jY 16)×St)):pX:=match R with
 | .error _=>exZ
 | .ok (ds,_)=>ofE 16 oo ds
def YI (z:List Int):Int:=bM4 (mI z) (sQ z vB)
def YJ (z:List Int):pX:=bM5 (mI z) (sQ z vB)
theorem a2Z {x:pX} (h:lU x=0) (hs:vJ x):FB x=yD 16 x.o (lS x) vB∧aJW x=0:=by
 have hk:=I6 h hs;unfold FB aJW aJS;rw[if_pos h,if_pos h,if_pos hk];exact⟨rfl,hk⟩
theorem aNJ {x:pX} (hs:vJ x):aJW x=lU x:=by
 unfold aJW;split
 ·rename_i h;rw[I6 h hs,h]
 ·rfl
theorem VR {x:pX} (h:lU x=0) (hs:vJ x) (hb:a09 x):YI (FB x)=0∧YJ (FB x)=x∧sQ (FB x) vB= .ok (lS x,⟨kW 16 (lS x),noT 16 (lS x) (lS x).length,0⟩):=by
 have hk:=I6 h hs;obtain⟨s1,s2⟩:=FD h hs;have hy:=I5 hb;have e1:=(a1C hk hy).1;have e2:=a5O hk hy aG;rw[aFS]at e2;obtain⟨o1,o2⟩:=aFZ h hs;unfold YI YJ;rw[(a2Z h hs).1,e1,e2];exact⟨o1,o2,rfl⟩
theorem aWS {x y:pX} (h:lU x=0) (hs:vJ x) (hb:a09 x) (h2:lU y=0) (xV:vJ y) (kP:a09 y):FB x=FB y↔x=y:=by
 refine⟨fun e=>?_,fun e=>by rw[e]⟩;have a:=(VR h hs hb).2.1;have b:=(VR h2 xV kP).2.1;rw[←a,←b,e]
theorem aWT {x:pX} (h:lU x=0) (hs:vJ x) (hb:a09 x):((FB x).length:Int)=oU 16 (lS x):=by
 have hk:=I6 h hs;rw[(a2Z h hs).1,a9S hk (I5 hb)];have:=(Q6 hk (I5 hb)).n8;omega
def tL (w:World) (a:Option Addr) (n c:Nat) (ts:List oZ):Prop:=∃zs:List Tz,Tgr w a n c zs∧ts=zs.map nO
theorem tL.mono {w w':World} {a:Option Addr} {n c:Nat} {ts:List oZ} (h:tL w a n c ts) (hb:Below w.heap.size w w'):tL w' a n c ts:=by
 obtain⟨zs,h1,h2⟩:=h;exact⟨zs,h1.mono hb,h2⟩
theorem tL.len {w:World} {a:Option Addr} {n c:Nat} {ts:List oZ} (h:tL w a n c ts):ts.length=n:=by
 obtain⟨zs,h1,rfl⟩:=h;rw[dF];exact h1.len
theorem M4 (zs:List Tz):zs.map tag=zs.map nO:=rfl
theorem Tgr.tr {w:World} {a:Option Addr} {n c:Nat} {zs:List Tz} (h:Tgr w a n c zs):Tr w a n c zs:=⟨h.row,h.each⟩
theorem Tr.tgr {w:World} {a:Option Addr} {n c:Nat} {zs:List Tz} (h:Tr w a n c zs):Tgr w a n c zs:=⟨h.row,h.each⟩
theorem tL.ts {w:World} {a:Option Addr} {n c:Nat} {ts:List oZ} (h:tL w a n c ts):Ts w a n c ts:=by
 obtain⟨zs,h1,rfl⟩:=h;exact h1.tr.ts
theorem Ts.aKS {w:World} {a:Option Addr} {n c:Nat} {ts:List oZ} (h:Ts w a n c ts):tL w a n c ts:=by
 obtain⟨zs,h1,rfl⟩:=h.tr;exact⟨zs,h1.tgr,rfl⟩
theorem tL.max {w:World} {a:Option Addr} {n c:Nat} {ts:List oZ} (h:tL w a n c ts):n≤9223372036854775807:=by
 obtain⟨zs,h1,rfl⟩:=h;exact bU h1.row.le h1.row.max
structure ExA where
 za:Option Addr
 zn:Nat
 zc:Nat
 pa:Option Addr
 pn:Nat
 pc:Nat
 ga:Option Addr
 gn:Nat
 gc:Nat
 ia:Option Addr
 iN:Nat
 ic:Nat
 fa:Option Addr
 fn:Nat
 fc:Nat
 ma:Option Addr
 mn:Nat
 mc:Nat
 ta:Option Addr
 tn:Nat
 tc:Nat
abbrev VT (o:Int) (A:ExA):Array Value:=#[.int .i64 o,.slice A.za A.zn A.zc,.slice A.pa A.pn A.pc,.slice A.ga A.gn A.gc,.slice A.ia A.iN A.ic,.slice A.fa A.fn A.fc,.slice A.ma A.mn A.mc,.slice A.ta A.tn A.tc]
abbrev exV (o:Int) (A:ExA):Value:= .agg (VT o A)
abbrev aKT:ExA:=⟨none,0,0,none,0,0,none,0,0,none,0,0,none,0,0,none,0,0,none,0,0⟩
structure ExR (w:World) (x:pX) (A:ExA):Prop where
 z:tL w A.za A.zn A.zc x.z
 p:tL w A.pa A.pn A.pc x.p
 g:tL w A.ga A.gn A.gc x.g
 i:tL w A.ia A.iN A.ic x.i
 f:tL w A.fa A.fn A.fc x.f
 mr:Sl w A.ma A.mn A.mc 1 (ints .u8 x.mr)
 th:Sl w A.ta A.tn A.tc 1 (ints .u8 x.th)
theorem ExR.mono {w w':World} {x:pX} {A:ExA} (h:ExR w x A) (hb:Below w.heap.size w w'):ExR w' x A:=
 ⟨h.z.mono hb,h.p.mono hb,h.g.mono hb,h.i.mono hb,h.f.mono hb,h.mr.mono hb,h.th.mono hb⟩
theorem tL.nil (w:World):tL w none 0 0 []:=⟨[],⟨Sl.nil _ _,fun z hz=>by cases hz⟩,rfl⟩
structure NA (B:Nat) (w:World) (x:pX) (A:ExA):Prop where
 z:lX QJ B w (.slice A.za A.zn A.zc) x.z
 p:lX QJ B w (.slice A.pa A.pn A.pc) x.p
 g:lX QJ B w (.slice A.ga A.gn A.gc) x.g
 i:lX QJ B w (.slice A.ia A.iN A.ic) x.i
 f:lX QJ B w (.slice A.fa A.fn A.fc) x.f
 mr:w.ownsRow B 5 1 (.slice A.ma A.mn A.mc) A.mn (ints .u8 x.mr)
 th:w.ownsRow B 5 1 (.slice A.ta A.tn A.tc) A.tn (ints .u8 x.th)
