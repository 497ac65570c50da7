import Derived.Test.YtceclmpmpldmlaaGreatCx35
import Derived.Test.YtceclmpmpldmlaaGreatCx36
import Derived.Shelf.Slices.In.SortNone
set_option linter.unusedSimpArgs false
set_option linter.unusedVariables false
set_option maxRecDepth 100000
set_option maxHeartbeats 8000000
namespace Go.Proofs.YtceclmpmpldmlaaGreat
open Go.RowKit Tt
theorem bK9 (w:World):Calls Tryz.prog 215 #[.int .i64 3] w fun e w'=>e= .returned (.bool false)∧w=w':=by
 go_enter Tryz.func215,Tryz.ntmps215;go_wp2;go_ret;exact⟨rfl,rfl⟩
theorem bKA (w:World):Calls Tryz.prog 217 #[.int .i64 3] w fun e w'=>e= .returned (.int .i64 2)∧w=w':=by
 go_enter Tryz.func217,Tryz.ntmps217;go_wp2_with (go_at_call 146;refine(JC _ _).mono ?_;rintro e w' ⟨rfl,rfl⟩)
 go_ret;exact⟨rfl,rfl⟩
theorem aPU (n:Int) (h:lZ n 2 2=true) (w:World):Calls Tryz.prog 188 #[.int .i64 n,.int .i64 2,.int .i64 2] w fun e w'=>∃a c,e= .returned (.tuple #[.slice a 2 c,.bool true])∧Sl w' a 2 c 1 (ints .u8 (kZ n 2 2))∧Below w.heap.size w w':=by
 refine(BA _ _ _ _).mono ?_;rintro e w' ⟨a,m,c,rfl,ho,hb⟩;have hs:=(Sl.jU ho).1;obtain rfl:m=2:=by have:=hs.nU;rw[nQ h]at this;exact this.symm
 exact⟨a,c,by rw[h],hs,hb⟩
theorem bRK (n:Int) (hn:lZ n 2 2=true) (hmt:vH 3 1 (kZ n 2 2)=true) (a:Option Addr) (c:Nat) (w:World) (hs:Sl w a 1 c 1 (ints .i64 [n])):
  Calls Tryz.prog 147 #[.int .i64 3,.slice a 1 c,.int .i64 1] w fun e w'=>∃a' c',e= .returned (.tuple #[.agg #[.int .i64 3,.int .i64 1,.slice a' 2 c'],.bool true])∧w'.ownsRow w.heap.size 5 1 (.slice a' 2 c') 2 (ints .u8 (kZ n 2 2))∧Below w.heap.size w w':=by
 obtain⟨i0,hi,sN,oG,qK⟩:=info_parts aBK;obtain⟨b,o,rfl,xI,cx⟩:=hs.at (i:=0) aG;have c1:w.cell? ⟨b,o,none⟩=some (.int .i64 n):=cx 0 _ rfl;clear cx;have Hs:=aA hs;clear hs;go_enter Tryz.func147,Tryz.ntmps147;go_wp2;obtain⟨W0,hW0⟩:∃W0,W0=(w.alloc (.cells #[.int .i64 0,.int .i64 0,.slice none 0 0] 72)).alloc (.cells #[.int .i64 3,.int .i64 1,.slice none 0 0] 72):=⟨_,rfl⟩;obtain⟨g,hg⟩:∃g,g=w.heap.size+1:=⟨_,rfl⟩;have B0:jW W0 w.heap.size 72 #[.int .i64 0,.int .i64 0,.slice none 0 0]:=by rw[hW0];exact(jW.new _ _ _).alloc _
 have G0:jW W0 g 72 #[.int .i64 3,.int .i64 1,.slice none 0 0]:=by rw[hW0,hg];have:=jW.new (w.alloc (.cells #[.int .i64 0,.int .i64 0,.slice none 0 0] 72)) 72 #[.int .i64 3,.int .i64 1,.slice none 0 0];simpa using this
 have BW:Below w.heap.size w W0:=by rw[hW0];exact((aY _ _).alloc (aZ _) _).alloc (by simp) _
 obtain⟨B0,G0,BW,Hg⟩:=aL B0 G0 BW hg;have c2:W0.cell? ⟨b,o,none⟩=some (.int .i64 n):=late BW.o xI c1;rw[←hW0,←hg];clear hW0 hg c1;refine wp_loop_rounds 2 ?_;rw[rounds_succ];go_wp2_with (first
  |(go_at_call 215;refine(bK9 _).mono ?_;rintro e w' ⟨rfl,rfl⟩)
  |(go_at_call 217;refine(bKA _).mono ?_;rintro e w' ⟨rfl,rfl⟩)
  |(go_at_call 188;refine(aPU n hn _).mono ?_;rintro e w1 ⟨a1,c1,rfl,IY,jY⟩;obtain⟨Hs1,G1,Hb1⟩:=aK IY (G0.o.late jY) jY;clear IY jY;have q2:w1.cell? ⟨g,2,none⟩=some (.slice none 0 0):=G1.o.cell rfl)
  |(at_builtin;refine kK rfl _ _ 24 rfl W0.heap.size 5 i0 _ 1 1 Tryz.underlying24 hi sN oG qK rfl aH _ 0 [] rfl (kF _ _ _ _) a1 2 c1 _ rfl Hs1.o oK aG aH Hb1.o.size ?_;intro a5 c5 w2 ob jT HZ;clear HZ;obtain⟨Ob,Hb2⟩:=aJ ob (Hb1.o.trans jT);clear ob jT;have G2:=aA (G0.o.late Hb2.o);have z0:=G2.o.cell (i:=0) rfl;have z1:=G2.o.cell (i:=1) rfl;have z2:=G2.o.cell (i:=2) rfl;have fz:=G2.o.frozen 2))
 obtain⟨w3,HY⟩:∃w3,w3=w2.setCell ⟨g,2,none⟩ (.slice a5 2 c5):=⟨_,rfl⟩;rw[←HY];have B2:jW w2 w.heap.size 72 #[.int .i64 0,.int .i64 0,.slice none 0 0]:=B0.o.late Hb2.o;have G3:jW w3 g 72 #[.int .i64 3,.int .i64 1,.slice a5 2 c5]:=by rw[HY];exact G2.o.set 2 _
 have B3:jW w3 w.heap.size 72 #[.int .i64 0,.int .i64 0,.slice none 0 0]:=by rw[HY];exact B2.mV (by have:=Hg.o;omega) _ _
 have O3:w3.ownsRow W0.heap.size 5 1 (.slice a5 2 c5) 2 (ints .u8 (kZ n 2 2)):=by rw[HY];exact lD Ob.o G0.o.lt _ _
 have BB:Below w.heap.size w w3:=by rw[HY];exact(BW.o.tm Hb2.o).setCell (by show w.heap.size≤g;have:=Hg.o;omega) _
 have S3:=aA (Sl.jU O3).1;have HO3:=aA O3;have ZY:w.heap.size<W0.heap.size:=by have h1:=G0.o.lt;have h2:=Hg.o;omega
 obtain⟨aJ4,G3,B3,BB⟩:=aL ZY G3 B3 BB;clear HY z0 z1 z2 fz B2 O3 q2 ZY;have z0:=G3.o.cell (i:=0) rfl;have z1:=G3.o.cell (i:=1) rfl;have z2:=G3.o.cell (i:=2) rfl;have Hmt:=aA hmt;rw[rounds_succ];go_wp2_with (go_at_call 183;refine(JD 3 1 a5 2 c5 (kZ n 2 2) _ S3.o).mono ?_;rw[Hmt.o];rintro e w4 ⟨rfl,mF⟩;obtain⟨G4,B4,O4,Hb4⟩:=aL (G3.o.late mF) (B3.o.late mF) (kC HO3.o mF) mF;clear mF;have y0:=G4.o.cell (i:=0) rfl;have y1:=G4.o.cell (i:=1) rfl;have y2:=G4.o.cell (i:=2) rfl;have x0:=B4.o.cell (i:=0) rfl;have x1:=B4.o.cell (i:=1) rfl;have x2:=B4.o.cell (i:=2) rfl;have f0:=B4.o.frozen 0;have f1:=B4.o.frozen 1;have f2:=B4.o.frozen 2)
 have B5:=((B4.o.set 0 (.int .i64 3)).set 1 (.int .i64 1)).set 2 (.slice a5 2 c5);refine bodyPost_ret (mK rfl _ _ w.heap.size 72 #[.int .i64 3,.int .i64 1,.slice a5 2 c5] _ rfl B5 Tryz.underlying72 rfl aF) rfl ?_;have O5:=lD (lD (lD O4.o aJ4.o 0 (.int .i64 3)) aJ4.o 1 (.int .i64 1)) aJ4.o 2 (.slice a5 2 c5);exact⟨_,_,rfl,kI O5 (iI aJ4.o),(((BB.o.tm Hb4.o).setCell (aZ _) _).setCell (aZ _) _).setCell (aZ _) _⟩
theorem aJ5 (n:Int) (hn:lZ n 2 2=true) (hmt:vH 3 1 (kZ n 2 2)=true) (a:Option Addr) (c:Nat) (w:World) (hs:Sl w a 1 c 1 (ints .i64 [n])):
  Calls Tryz.prog 87 #[.int .i64 3,.slice a 1 c] w fun e w'=>∃a' c',e= .returned (.tuple #[.agg #[.int .i64 3,.int .i64 1,.slice a' 2 c'],.bool true])∧w'.ownsRow w.heap.size 5 1 (.slice a' 2 c') 2 (ints .u8 (kZ n 2 2))∧Below w.heap.size w w':=by
 have Hs:=aA hs;clear hs;go_enter Tryz.func87,Tryz.ntmps87;obtain⟨W0,hW0⟩:∃W0,W0=w.alloc (.cells #[.int .i64 0,.int .i64 0,.slice none 0 0] 72):=⟨_,rfl⟩;have B0:jW W0 w.heap.size 72 #[.int .i64 0,.int .i64 0,.slice none 0 0]:=by rw[hW0];exact jW.new _ _ _
 have BW:Below w.heap.size w W0:=by rw[hW0];exact(aY _ _).alloc (aZ _) _
 obtain⟨B0,BW⟩:=aJ B0 BW;have HS:=aA (Hs.o.mono BW.o);have ZY:w.heap.size<W0.heap.size:=B0.o.lt;have aJ4:=aA ZY;clear ZY;go_upto_region 1 with fail
 rw[←hW0];clear hW0;go_wp2_with (first
  |(go_at_call 146;refine(JC _ _).mono ?_;rintro e w' ⟨rfl,rfl⟩)
  |(go_at_call 147;refine(bRK n hn hmt a c _ HS.o).mono ?_;rintro e w4 ⟨a5,c5,rfl,hs5,mF⟩;obtain⟨S4,B4,Hb4⟩:=aK hs5 (B0.o.late mF) mF;clear mF hs5;have x0:=B4.o.cell (i:=0) rfl;have x1:=B4.o.cell (i:=1) rfl;have x2:=B4.o.cell (i:=2) rfl;have f0:=B4.o.frozen 0;have f1:=B4.o.frozen 1;have f2:=B4.o.frozen 2))
 have B5:=B4.o.ZO (.int .i64 3) (.int .i64 1) (.slice a5 2 c5);refine bodyPost_ret (mK rfl _ _ w.heap.size 72 #[.int .i64 3,.int .i64 1,.slice a5 2 c5] _ rfl B5 Tryz.underlying72 rfl aF) rfl ?_;exact⟨_,_,rfl,kI (UF S4.o aJ4.o _ _ _) (iI aJ4.o),nG (BW.o.tm Hb4.o) (aZ _) _ _ _⟩
def bRL:List rQ:= [([],0,0, -1)]
def xT (n:Int):rM:=(256,3,1,kZ n 2 2)
def xD:jR 2:=([xT 258], [], [])
theorem xc2:tY 2 2 [xD,xD] bRL=1:=by decide+kernel
end Go.Proofs.YtceclmpmpldmlaaGreat
namespace Tt
open Go Go.RowKit
end Tt
namespace Go.Proofs.YtceclmpmpldmlaaGreat
open Go.RowKit Tt
structure WkS where
 w0:World
 a:Option Addr
 n:Nat
 c:Nat
 z:List Int
 o:Int
 sa:Option Addr
 sn:Nat
 sc:Nat
 zs:List QN
 g:Nat
 gt:Nat
 tn:Nat
end Go.Proofs.YtceclmpmpldmlaaGreat
namespace Tt
open Go Go.RowKit
def Ap (v u:Value):Prop:=∀k,v.ownBlock=some k→u.ownBlock≠some k
end Tt
namespace Go.Proofs.YtceclmpmpldmlaaGreat
open Go.RowKit Tt
structure Three (B:Nat) (w:World) (v1 v2 v3:Value) (l1 l2 l3:List xB):Prop where
 r1:w.ownsRow B 55 4 v1 l1.length (fl sP l1)
 r2:w.ownsRow B 55 4 v2 l2.length (fl sP l2)
 r3:w.ownsRow B 55 4 v3 l3.length (fl sP l3)
 a12:Ap v1 v2
 a13:Ap v1 v3
 a23:Ap v2 v3
section
attribute [local go_sem] Lib.run_eql_slice_nil
end
section
variable {K:WkS} {A B B2 gd gs:Nat} {w w4:World} {sv sv3:Value} {zc:Array Value} {s:St} {svi:Value} {tk:List Nat} {vt vs vb:Value} {tags:List rM} {wr wr':World}
end
theorem qA.slices {X:Nat→Prop} {B:Nat} {w:World}:∀{f:Nat} {d:jR f} {v:Dz},qA X B w f d v→∃a1 n1 c1 a2 n2 c2 a3 n3 c3,v=(.slice a1 n1 c1,.slice a2 n2 c2,.slice a3 n3 c3)
 |0,_,_,h=>h.elim
 |f+1,d,v,h=>by
  obtain⟨_,⟨zs,_,h1,_⟩,⟨ds,_,h2,_⟩,h3⟩:=h;obtain⟨a1,c1,e1⟩:=SI h1.1;obtain⟨a2,c2,e2⟩:=SI h2.1;obtain⟨a3,c3,e3⟩:=SI h3.1;obtain⟨v1,v2,v3⟩:=v;simp only at e1 e2 e3;subst e1 e2 e3;exact⟨_,_,_,_,_,_,_,_,_,rfl⟩
end Go.Proofs.YtceclmpmpldmlaaGreat
namespace Go.Proofs.YtceclmpmpldmlaaGreat
open Go.RowKit Tt
theorem FV (a:Option Addr) (n c:Nat) (z:List Int) (i:Nat) (b:Option Addr) (m d:Nat) (l:List Int) (w:World) (hz:Sl w a n c 1 (ints .u8 z)) (hl:Sl w b m d 1 (ints .u8 l)) (hn:n≤1000000000000) (him:i+m≤n):
  Calls Tryz.prog 127 #[.slice a n c,.int .i64 (i:Int),.slice b m d] w fun e w'=>∃a' c',e= .returned (.slice a' n c')∧w'.ownsRow w.heap.size 5 1 (.slice a' n c') n (ints .u8 (splice z i l))∧Below w.heap.size w w':=by
 obtain⟨i0,hi,sN,oG,qK⟩:=info_parts a7R;have qJ:=hz.nU;have hll:=hl.nU;have BX:=hz.le;have sS:IntKind.i64.wrap ((i:Int)+m)=i+m:=by rw[bF];omega
 obtain⟨a1,hr1,IY,_⟩:=bCP (P:=Tryz.prog) (T:=24) Tryz.underlying24 a2M hz (i:Int) aG aG i rfl;obtain⟨a3,hr3,hs3,_⟩:=b1A (P:=Tryz.prog) (T:=24) Tryz.underlying24 a2M hz ((i:Int)+m) aG aG (n - (i+m)) (c - (i+m)) aG aG;have e1:(ints .u8 z).take (i*1)=ints .u8 (z.take i):=by rw[jD];simp[ints]
 have e3:(ints .u8 z).drop (((i:Int)+m).toNat*1)=ints .u8 (z.drop (i+l.length)):=by rw[jD,hll,show((i:Int)+m).toNat=i+m by omega];simp[ints]
 rw[e1]at IY;rw[e3]at hs3;obtain⟨aPQ,bAQ,yI,AQ,mX,bDK⟩:=aN IY hs3 hl hz qJ hll;clear IY hs3 hl hz qJ hll;go_enter Tryz.func127,Tryz.ntmps127;go_upto_region 2 with (at_builtin;refine kK rfl _ _ 24 rfl w.heap.size 5 i0 _ 1 1 Tryz.underlying24 hi sN oG qK rfl aH _ 0 [] rfl (GR w w.heap.size 5 1 0 #[] (aZ _) (by unfold maxLen;omega) rfl) a1 i c _ rfl (vU aPQ.o _) oK aG aH (by simp) ?_;intro b1 d1 w1 ob1 jY hg1;rw[dU,eX]at ob1;obtain⟨Ob1,Hb1⟩:=aJ ob1 ((aD w (.cells #[] 5)).trans jY);clear ob1 jY hg1)
 go_upto_region 3 with (at_builtin;refine kK rfl _ _ 24 rfl w.heap.size 5 i0 _ 1 1 Tryz.underlying24 hi sN oG qK rfl aH _ i _ rfl Ob1.o b m d _ rfl (yI.o.mono Hb1.o) oK aG aH Hb1.o.size ?_;intro b2 d2 w2 ob2 jT HZ;obtain⟨Ob2,Hb2⟩:=aJ ob2 (Hb1.o.trans jT);clear ob2 jT HZ)
 go_wp2_with (at_builtin;refine kK rfl _ _ 24 rfl w.heap.size 5 i0 _ 1 1 Tryz.underlying24 hi sN oG qK rfl aH _ (i+m) _ rfl Ob2.o a3 (n - (i+m)) (c - (i+m)) _ rfl (bAQ.o.mono Hb2.o) oK aG aH Hb2.o.size ?_;intro b4 d4 w4 ob4 mF hg4;rw[show i+m+(n - (i+m))=n by omega]at ob4;obtain⟨Ob4,Hb4⟩:=aJ ob4 (Hb2.o.trans mF);clear ob4 mF hg4)
 go_ret;refine⟨b4,d4,aFN (by congr 1),?_,Hb4.o⟩;have:=Ob4.o;rw[←mG,←mG,dH]at this;exact this
theorem xA (a:Option Addr) (n c:Nat) (z:List Int) (i:Nat) (v s o:Int) (w:World) (hz:Sl w a n c 1 (ints .u8 z)) (hn:n≤1000000000000) (hk:lZ v s o=true) (him:i+s.toNat≤n):
  Calls Tryz.prog 128 #[.slice a n c,.int .i64 (i:Int),.int .i64 v,.int .i64 s,.int .i64 o] w fun e w'=>∃a' c',e= .returned (.slice a' n c')∧w'.ownsRow w.heap.size 5 1 (.slice a' n c') n (ints .u8 (splice z i (kZ v s o)))∧Below w.heap.size w w':=by
 have hP:=BA v s o w;rw[hk]at hP;have BP:=nQ hk;obtain⟨l,hl⟩:=aC (kZ v s o);rw[hl]at hP BP ⊢;obtain⟨Q0,WM,yI,AQ,YG⟩:=aM hP hk hl hz BP;clear hP hk hl hz BP;go_enter Tryz.func128,Tryz.ntmps128;go_wp2_with fail
 refine Q0.o.mono ?_;rintro e w2 ⟨a2,m2,c2,rfl,vS,jT⟩;have BO:=(Sl.jU vS).1;have MV:m2=s.toNat:=by rw[←YG.o];exact BO.nU.symm
 subst MV;obtain⟨Q6,RP,mE⟩:=aK vS BO jT;clear vS BO jT;go_wp2_with fail
 refine(FV a n c z i a2 _ c2 l w2 (AQ.o.mono mE.o) RP.o hn him).mono ?_;rintro e w3 ⟨a3,c3,rfl,PZ,jQ⟩;have ET:=kI PZ mE.o.size;have mF:=mE.o.tm jQ;obtain⟨NA,ZR,qN,rT⟩:=aL PZ ET jQ mF;clear PZ ET jQ mF;go_wp2_with fail
 go_ret;exact⟨a3,c3,rfl,ZR.o,rT.o⟩
theorem b0O {α:Type} {p:α→Bool} {l:List α} {k:Nat} (hk:k<l.length) (h:p l[k]=true) (hn:∀i (hi:i<l.length),i<k→p l[i]=false):l.find? p=some l[k]:=by
 rw[List.find?_eq_some_iff_getElem];exact⟨h,k,hk,rfl,fun j hj=>by rw[hn j aG hj];rfl⟩
theorem b0P {α:Type} {p:α→Bool} {l:List α} (hn:∀i (hi:i<l.length),p l[i]=false):l.find? p=none:=by
 rw[List.find?_eq_none];intro x hx;obtain⟨i,hi,rfl⟩:=eH hx;rw[hn i hi];decide
theorem EA (a:Option Addr) (n c:Nat) (ls:List nY) (what no tag:Int) (w:World) (hs:Sl w a n c 5 (fl spC ls)):
  Calls Tryz.prog 130 #[.slice a n c,.int .i64 what,.int .i64 no,.int .i64 tag] w fun e w'=>e= .returned (.int .i64 (oV ls what no tag))∧Below w.heap.size w w':=by
 have hl:=hs.rP DW aH;have hm:=hs.max;have BX:=hs.le;obtain⟨pX,yI⟩:=aJ hs hl;clear hs hl;go_enter Tryz.func130,Tryz.ntmps130;go_wp2_with fail
 go_loopw [9] (fun iv wr=>∃k:Nat,k≤n∧iv= .int .i64 k∧Hid (∀i (hi:i<ls.length),i<k→atP what no tag ls[i]=false)∧Hid (Below w.heap.size w wr)) (fun iv _=>n - (intOf iv).toNat)
 case atStart=>exact⟨0,by omega,rfl,aA (fun j _ hj=>by omega),aA (aY _ _)⟩
 case round=>
  obtain⟨k,hk,rfl,kS,hb⟩:=hrel;by_cases kD:k<n
  ·have hww:IntKind.i64.wrap ((k:Int)+1)=k+1:=by rw[bF];omega
   have I4:(k:Int)<(n:Int):=by omega
   have D6:k<ls.length:=by rw[yI.o];exact kD
   obtain⟨b,o,rfl,yZ,f⟩:=(pX.o.mono hb.o).elem DW aH (0,0,0,0,0) kD;rw[jO D6]at f;have f0:=f 0 _ rfl;have f1:=f 1 _ rfl;have f2:=f 2 _ rfl;have f3:=f 3 _ rfl;clear f;rw[bU]at f0;have hp:atP what no tag ls[k]=(ls[k].1==what&&ls[k].2.1==no&&ls[k].2.2.1==tag):=rfl;have hfd:atP what no tag ls[k]=true→oV ls what no tag=ls[k].2.2.2.1:=fun h=>by
    unfold oV;rw[b0O D6 h (fun i hi h2=>kS.o i hi h2)]
   have zM:atP what no tag ls[k]=false→∀i (hi:i<ls.length),i<k+1→atP what no tag ls[i]=false:=fun h i hi h2=>by
    rcases dM i k with h1|h1
    ·exact kS.o i hi h1
    ·obtain rfl:i=k:=by omega
     exact h
   generalize ls[k]=x at*;obtain⟨x0,x1,x2,x3,x4⟩:=x;simp only at hp f0 f1 f2 f3 hfd;obtain⟨b0,pW⟩:∃b,(x0==what)=b:=⟨_,rfl⟩;obtain⟨b1,yZ⟩:∃b,(x1==no)=b:=⟨_,rfl⟩;obtain⟨b2,jT⟩:∃b,(x2==tag)=b:=⟨_,rfl⟩;rw[pW,yZ,jT]at hp;cases b0
   ·have hn:=zM hp;clear hfd zM hp;have hn':=aA hn;clear hn;go_wp2_with fail
    go_roundw
    case rel=>exact⟨k+1,by omega,by go_num,hn',hb⟩
    case measure=>simp[intOf];omega
   ·cases b1
    ·have hn:=zM hp;clear hfd zM hp;have hn':=aA hn;clear hn;go_wp2_with fail
     go_roundw
     case rel=>exact⟨k+1,by omega,by go_num,hn',hb⟩
     case measure=>simp[intOf];omega
    ·cases b2
     ·have hn:=zM hp;clear hfd zM hp;have hn':=aA hn;clear hn;go_wp2_with fail
      go_roundw
      case rel=>exact⟨k+1,by omega,by go_num,hn',hb⟩
      case measure=>simp[intOf];omega
     ·have hf:=hfd hp;clear hfd zM hp;have QJ:=aA hf;clear hf;go_wp2_with fail
      go_ret;exact⟨by rw[QJ.o];rfl,hb.o⟩
  ·obtain rfl:k=n:=by omega
   go_wp2_with fail
   go_ret;refine⟨?_,hb.o⟩;unfold oV;rw[b0P (fun i hi=>kS.o i hi (by rw[yI.o]at hi;exact hi))];rfl
theorem a4Q (t y k:Int) (a:Option Addr) (n c:Nat) (d:List Int) (o:Int) (w:World) (hs:Sl w a n c 1 (ints .u8 d)) (hn:n≤1000000000):
  Calls Tryz.prog 243 #[.agg #[.int .i64 y,.int .i64 k,.slice a n c],.int .i64 o] w fun e w'=>∃a2 m c2,e= .returned (.slice a2 m c2)∧w'.ownsRow w.heap.size 5 1 (.slice a2 m c2) m (ints .u8 (lT (t,y,k,d) o))∧Below w.heap.size w w':=by
 have jY:=aD w (.cells #[.int .i64 y,.int .i64 k,.slice a n c] 72);have b1:=jW.new w 72 #[.int .i64 y,.int .i64 k,.slice a n c];obtain⟨W1,pR⟩:=aC (w.alloc (.cells #[.int .i64 y,.int .i64 k,.slice a n c] 72));rw[pR]at jY b1;have hM:=JD y k a n c d W1 (hs.mono jY);have hbv:lT (t,y,k,d) o=if vH y k d=true then wK d (kU y).2.1 o else []:=rfl;obtain⟨R,hR⟩:=aC (lT (t,y,k,d) o);rw[hR]at hbv ⊢;obtain⟨r,hr⟩:=aC (vH y k d);rw[hr]at hM hbv;rw[←pR]at hM;clear hR;obtain⟨kR,b1',hM',pX,qX,y8,aH2⟩:=aO jY b1 hM hs hr pR hbv;clear jY b1 hM hs hr pR hbv
 go_enter Tryz.func243,Tryz.ntmps243;go_wp2_with fail
 refine hM'.o.mono ?_;rintro e w2 ⟨rfl,jT⟩;rw[y8.o]at jT;have jZ:=kR.o.tm jT;have b2:=b1'.o.late jT;cases r with
 |false=>
  obtain rfl:R= []:=aH2.o;obtain⟨jM,b2',mE⟩:=aK jZ b2 jT;clear jZ b2 jT;go_wp2_with fail
  go_ret;exact⟨none,0,0,rfl,kF _ _ _ _,jM.o⟩
 |true=>
  obtain rfl:R=wK d (kU y).2.1 o:=aH2.o;have hK:=fun W=>aMR y W;clear aH2;generalize hpt:(kU y).2.1=pt at*;obtain⟨Ty,ff,oJ,jN,jK⟩:=kE w2;obtain⟨HS,HD⟩:=aJ (jK _ ((aY _ _).drew)) ((aY w2.heap.size w2).drew);have q0:=fun s=>(b2.late (jN s)).cell (i:=0) rfl;have q2:=fun s=>(b2.late (jN s)).cell (i:=2) rfl;obtain⟨jM,b2',mE,hK',a6J,jH,jF⟩:=aO jZ b2 jT hK hpt jN jK;clear jZ b2 jT hK hpt jN jK;go_wp2_with fail
  refine kM (S:=fun W=>∃s,W=ff s) aF 8 rfl ?_;obtain⟨wD,qF⟩:=aC w2.drew;rw[qF]at HS HD ⊢;clear qF;refine jS [0,1,2,3,5] 3 aF aI aF aF aF HS.o ?_;simp only[jI,aW,aX,aU,aV];iterate 5 (go_big_quiet_step (fail))
  refine wpQuiet_nil ?_;refine jJ 4 2 aF aF ?_;simp only[jI,aW,aX,aU,aV];go_wp2_with fail
  refine(hK'.o wD).mono ?_;rintro e w3 ⟨rfl,rfl⟩;go_wp2_with fail
  first|refine Mid.mk ⟨HS.o,?_⟩|refine Mid.mk ?_
  refine jJ 6 1 aF aF ?_;simp only[jI,aW,aX,aU,aV];go_wp2_with fail
  refine(aMQ a n c d pt o wD (pX.o.mono (jM.o.tm HD.o)) hn).mono ?_;rintro e w4 ⟨a4,m4,c4,rfl,ET,mF⟩;have BH:=HD.o.tm mF;have qZ:=jM.o.tm BH;have ho5:=kI ET (show w.heap.size≤_ from bQ jM.o.size HD.o.size);have HS:=aA (jF.o _ BH);clear ET;obtain⟨rT,aKD,kW,a6K⟩:=aL mF BH qZ ho5;clear mF BH qZ ho5;go_wp2_with fail
  first|refine Mid.mk ⟨HS.o,?_⟩|refine Mid.mk ?_
  refine jJ 7 0 aF aF ?_;simp only[jI,aW,aX,aU,aV];go_wp2_with fail
  first|refine Mid.mk ⟨HS.o,?_⟩|refine Mid.mk ?_
  refine jV aF ?_;go_wp2_with fail
  go_ret;exact⟨a4,m4,c4,rfl,by rw[a6J.o];exact a6K.o,kW.o⟩
theorem bRM {b:List Int} {j:Nat} (h:b.length+j=4):b++List.replicate j 0=A9 b:=by unfold A9;rw[show 4 - b.length=j by omega]
def bKB:Value→Nat
 | .slice _ n _=>n
 |_=>0
theorem aW0 (tag y k:Int) (a:Option Addr) (n c:Nat) (d:List Int) (o:Int) (w:World) (hs:Sl w a n c 1 (ints .u8 d)) (hd:tV d) (hn:n≤1000000000) (ht:vV tag=true) (ho:o=1∨o=2) (hm:vH y k d=true):
  Calls Tryz.prog 242 #[.int .i64 tag,.agg #[.int .i64 y,.int .i64 k,.slice a n c],.int .i64 o] w fun e w'=>∃x0 x1 x2 x3,e= .returned (.tuple #[.agg #[.int .i64 x0,.int .i64 x1,.int .i64 x2,.int .i64 x3],.bool (XA y k)])∧Below w.heap.size w w'∧
   (XA y k=true→x0=tag∧x1=y∧x2=k∧x3=yN (A9 (lT (tag,y,k,d) o)) 0 4 o):=by
 obtain⟨i0,hi,sN,oG,qK⟩:=info_parts a7R;obtain⟨W1,pR,bA,bB,jY,s1⟩:=nM w 72 #[.int .i64 y,.int .i64 k,.slice a n c] 55 #[.int .i64 0,.int .i64 0,.int .i64 0,.int .i64 0];unfold vV at ht;simp at ht;have d1:decide (tag<0)=false:=by simp;omega
 have d2:decide (65535<tag)=false:=by simp;omega
 have d3:decide (o<1)=false:=by simp;omega
 have d4:decide (2<o)=false:=by simp;omega
 have hM:=JD y k a n c d W1 (hs.mono jY);rw[hm,←pR]at hM;have hI:=fun W=>aQH y k W;have I4:XA y k=true→(lT (tag,y,k,d) o).length≤4:=fun h=>by
  rw[SH (x:=(tag,y,k,d)) hm ho];have:=(aHN hm ho).long;unfold XA at h;simp at h;show d.length≤4
  omega
 have rU:=a2S (x:=(tag,y,k,d)) (o:=o) hd;obtain⟨b,hb⟩:=aC (lT (tag,y,k,d) o);rw[hb]at I4 rU ⊢;generalize XA y k=r at*;clear ht;obtain⟨kR,bA',bB',hM',MR,pX,y8,UB,bRN,wJ⟩:=aR jY bA bB hM hI hs pR hd I4 rU;obtain⟨EN,mO⟩:=aJ hm hb;clear jY bA bB hM hI hs pR hd I4 rU hm hb;go_enter Tryz.func242,Tryz.ntmps242;go_wp2_with fail
 refine hM'.o.mono ?_;rw[y8.o];rintro e w2 ⟨rfl,jT⟩;have bKC:=bA'.o.late jT;have aW1:=bB'.o.late jT;have lJ:=kR.o.tm jT;obtain⟨aLN,aLO,lG,mE⟩:=aL bKC aW1 lJ jT;clear bKC aW1 lJ jT;have v0:=aLN.o.cell (i:=0) rfl;have v1:=aLN.o.cell (i:=1) rfl;have v2:=aLN.o.cell (i:=2) rfl;go_wp2_with fail
 refine(MR.o _).mono ?_;rintro e w3 ⟨rfl,jQ⟩;have bKD:=aLN.o.late jQ;have aW2:=aLO.o.late jQ;have sD:=lG.o.tm jQ;clear v0 v1 v2;obtain⟨aLP,KF,nX,qN⟩:=aL bKD aW2 sD jQ;clear bKD aW2 sD jQ;cases r with
 |false=>
  have p0:=KF.o.cell (i:=0) rfl;have p1:=KF.o.cell (i:=1) rfl;have p2:=KF.o.cell (i:=2) rfl;have p3:=KF.o.cell (i:=3) rfl;have y0:=KF.o.frozen 0;have y1:=KF.o.frozen 1;have y2:=KF.o.frozen 2;have y3:=KF.o.frozen 3;have bN:=(((KF.o.set 0 (.int .i64 0)).set 1 (.int .i64 0)).set 2 (.int .i64 0)).set 3 (.int .i64 0);have hbN:=(((nX.o.setCell (p:=⟨w.heap.size+1,0,none⟩) (by show w.heap.size≤w.heap.size+1;omega) (.int .i64 0)).setCell (p:=⟨w.heap.size+1,1,none⟩) (by show w.heap.size≤w.heap.size+1;omega) (.int .i64 0)).setCell (p:=⟨w.heap.size+1,2,none⟩) (by show w.heap.size≤w.heap.size+1;omega) (.int .i64 0)).setCell (p:=⟨w.heap.size+1,3,none⟩) (by show w.heap.size≤w.heap.size+1;omega) (.int .i64 0);obtain⟨bN',bAR⟩:=aJ bN hbN;clear bN hbN;go_wp2_with fail
  refine bodyPost_ret (mK rfl _ _ (w.heap.size+1) 55 #[.int .i64 0,.int .i64 0,.int .i64 0,.int .i64 0] _ rfl bN'.o Tryz.underlying55 rfl aF) rfl ?_;exact⟨0,0,0,0,rfl,bAR.o,fun h=>by cases h⟩
 |true=>
  have v0:=aLP.o.cell (i:=0) rfl;have v1:=aLP.o.cell (i:=1) rfl;have v2:=aLP.o.cell (i:=2) rfl;go_wp2_with fail
  refine(a4Q tag y k a n c d o w3 (pX.o.mono nX.o) hn).mono ?_;rintro e w4 ⟨a4,m4,c4,rfl,ET,mF⟩;rw[mO.o]at ET;have vF:=(Sl.jU ET).1.nU;have J3:=bRN.o (by simp);rw[vF]at J3;have ho5:=kI ET nX.o.size;have qZ:=nX.o.tm mF;have bKE:=aLP.o.late mF;have aW3:=KF.o.late mF;clear v0 v1 v2 ET;obtain⟨bKF,aLQ,kW,rT,a6K,tL⟩:=aN bKE aW3 qZ mF ho5 vF;clear bKE aW3 qZ mF ho5 vF;go_wp2_with fail
  go_loopw [8] (fun bv wr=>∃(q:Nat) (a5:Option Addr) (c5:Nat) (R:List Int),q≤4∧bv= .slice a5 q c5∧Hid (m4≤q∧R=b++List.replicate (q - m4) 0)∧Hid (wr.ownsRow w.heap.size 5 1 (.slice a5 q c5) q (ints .u8 R))∧Hid (jW wr w.heap.size 72 #[.int .i64 y,.int .i64 k,.slice a n c])∧Hid (jW wr (w.heap.size+1) 55 #[.int .i64 0,.int .i64 0,.int .i64 0,.int .i64 0])∧Hid (Below w.heap.size w wr)) (fun bv _=>4 - bKB bv)
  case atStart=>exact⟨m4,a4,c4,b,J3,rfl,aA ⟨aZ _,by simp⟩,a6K,bKF,aLQ,kW⟩
  case round=>
   obtain⟨q,a5,c5,R,hq,rfl,HR,Ob,b3P,b3Q,oZ⟩:=hrel;by_cases kD:q<4
   ·have QH:(q:Int)<4:=by omega
    have e1:m4≤q+1∧R++ [0]=b++List.replicate (q+1 - m4) 0:=by
     obtain⟨h1,h2⟩:=HR.o;exact⟨by omega,by rw[h2,show q+1 - m4=(q - m4)+1 by omega,List.replicate_succ',dH]⟩
    have l9:=aD wr (.cells #[.int .u8 0] 5);have ob0:=Ob.o.alloc (.cells #[.int .u8 0] 5);have g0:=b3P.o.late l9;have g1:=b3Q.o.late l9;obtain⟨e1',oL,bAS,g0',g1'⟩:=aM e1 l9 ob0 g0 g1;clear e1 l9 ob0 g0 g1;go_wp2_with (at_builtin;refine kK rfl _ _ 24 rfl w.heap.size 5 i0 _ 1 1 Tryz.underlying24 hi sN oG qK rfl aH _ q _ rfl bAS.o _ 1 1 _ rfl (Sl.new wr 5 1 1 _ (0,0) aG rfl) (by simp[Value.oneCell']) aG aH (by have:=oZ.o.size;simp;omega) ?_;intro a6 c6 w6 ob6 wQ qQ;obtain⟨G0,G1,Ob6,Hb6⟩:=aL (g0'.o.grown qQ (mH bAS.o g0'.o aH)) (g1'.o.grown qQ (mH bAS.o g1'.o aH)) ob6 (((oZ.o).alloc oZ.o.size _).trans wQ);clear ob6 wQ qQ)
    go_roundw
    case rel=>exact⟨q+1,a6,c6,R++ [0],by omega,rfl,e1',aA (by rw[mG];exact Ob6.o),G0,G1,Hb6⟩
    case measure=>simp[bKB];omega
   ·obtain rfl:q=4:=by omega
    have ho6:=Ob.o;rw[HR.o.2,bRM (by rw[tL.o];have:=HR.o.1;omega)]at ho6;have hG:=aQD a5 4 c5 (A9 b) 0 4 o wr (Sl.jU ho6).1 (aKE wJ.o);obtain⟨gv,hgv⟩:∃v,yN (A9 b) 0 4 o=v:=⟨_,rfl⟩;rw[hgv]at hG;clear ho6;obtain⟨hG',b6I⟩:=aJ hG hgv;clear hG hgv;go_wp2_with fail
    refine hG'.o.mono ?_;rintro e w7 ⟨rfl,rE⟩;have bKG:=b3P.o.late rE;have bKH:=b3Q.o.late rE;have a6I:=oZ.o.tm rE;obtain⟨aW4,W9,aCG,a2E⟩:=aL bKG bKH a6I rE;clear bKG bKH a6I rE;have v0:=aW4.o.cell (i:=0) rfl;have v1:=aW4.o.cell (i:=1) rfl;have v2:=aW4.o.cell (i:=2) rfl;have p0:=W9.o.cell (i:=0) rfl;have p1:=W9.o.cell (i:=1) rfl;have p2:=W9.o.cell (i:=2) rfl;have p3:=W9.o.cell (i:=3) rfl;have y0:=W9.o.frozen 0;have y1:=W9.o.frozen 1;have y2:=W9.o.frozen 2;have y3:=W9.o.frozen 3;have bN:=(((W9.o.set 0 (.int .i64 tag)).set 1 (.int .i64 y)).set 2 (.int .i64 k)).set 3 (.int .i64 gv);have hbN:=(((aCG.o.setCell (p:=⟨w.heap.size+1,0,none⟩) (by show w.heap.size≤w.heap.size+1;omega) (.int .i64 tag)).setCell (p:=⟨w.heap.size+1,1,none⟩) (by show w.heap.size≤w.heap.size+1;omega) (.int .i64 y)).setCell (p:=⟨w.heap.size+1,2,none⟩) (by show w.heap.size≤w.heap.size+1;omega) (.int .i64 k)).setCell (p:=⟨w.heap.size+1,3,none⟩) (by show w.heap.size≤w.heap.size+1;omega) (.int .i64 gv);obtain⟨bN',bAR⟩:=aJ bN hbN;clear bN hbN;go_wp2_with fail
    refine bodyPost_ret (mK rfl _ _ (w.heap.size+1) 55 #[.int .i64 tag,.int .i64 y,.int .i64 k,.int .i64 gv] _ rfl bN'.o Tryz.underlying55 rfl aF) rfl ?_;exact⟨tag,y,k,gv,rfl,bAR.o,by simp[b6I.o]⟩
theorem ZH (x0 x1 x2 x3 o:Int) (w:World) (D5:DL (x0,x1,x2,x3) o=true):
  Calls Tryz.prog 244 #[.agg #[.int .i64 x0,.int .i64 x1,.int .i64 x2,.int .i64 x3],.int .i64 o] w fun e w'=>∃a c,e= .returned (.tuple #[.slice a 12 c,.bool true])∧w'.ownsRow w.heap.size 5 1 (.slice a 12 c) 12 (ints .u8 (MI (x0,x1,x2,x3) o))∧Below w.heap.size w w':=by
 obtain⟨i0,hi,sN,oG,qK⟩:=info_parts a7R;unfold DL at D5;simp only[bV]at D5;obtain⟨⟨⟨h0,h1⟩,h2⟩,h3⟩:=D5;have hP0:=fun W=>BA x0 2 o W;have hP1:=fun W=>BA x1 2 o W;have hP2:=fun W=>BA x2 4 o W;have MU:=fun W=>BA x3 4 o W;have hl0:=nQ h0;have hl1:=nQ h1;have hl2:=nQ h2;have hl3:=nQ h3;simp only[h0]at hP0;simp only[h1]at hP1;simp only[h2]at hP2;simp only[h3]at MU;have he:MI (x0,x1,x2,x3) o=kZ x0 2 o++kZ x1 2 o++kZ x2 4 o++kZ x3 4 o:=rfl;rw[he];generalize kZ x0 2 o=l0 at*;generalize kZ x1 2 o=l1 at*;generalize kZ x2 4 o=l2 at*;generalize kZ x3 4 o=l3 at*;clear he h0 h1 h2 h3;have bCO:=aD w (.cells #[.int .i64 x0,.int .i64 x1,.int .i64 x2,.int .i64 x3] 55);have bAT:=jW.new w 55 #[.int .i64 x0,.int .i64 x1,.int .i64 x2,.int .i64 x3];obtain⟨W1,pR⟩:=aC (w.alloc (.cells #[.int .i64 x0,.int .i64 x1,.int .i64 x2,.int .i64 x3] 55));rw[pR]at bCO bAT;obtain⟨bRO,aNR,aSE,a9T,bSS,b6G,bRP,bRQ,b3R,b3S⟩:=aR hP0 hP1 hP2 MU hl0 hl1 hl2 hl3 bCO bAT;clear hP0 hP1 hP2 MU hl0 hl1 hl2 hl3 bCO bAT;go_enter Tryz.func244,Tryz.ntmps244;go_upto_region 1 with fail
 try rw[pR]
 clear pR;have c0:=b3S.o.cell (i:=0) rfl;go_wp2_with fail
 refine(bRO.o _).mono ?_;rintro e w2 ⟨q2,m2,k2,rfl,hp2,jT⟩;obtain rfl:m2=2:=by have:=(Sl.jU hp2).1.nU;rw[bSS.o]at this;exact this.symm
 have BO:=(Sl.jU hp2).1;have aW1:=b3S.o.late jT;have lJ:=b3R.o.tm jT;clear c0 hp2;obtain⟨RP,aLO,lG,mE⟩:=aL BO aW1 lJ jT;clear BO aW1 lJ jT;have c1:=aLO.o.cell (i:=1) rfl;go_wp2_with fail
 refine(aNR.o _).mono ?_;rintro e w3 ⟨q3,m3,k3,rfl,hp3,jQ⟩;obtain rfl:m3=2:=by have:=(Sl.jU hp3).1.nU;rw[b6G.o]at this;exact this.symm
 have hs3:=(Sl.jU hp3).1;have aW2:=aLO.o.late jQ;have sD:=lG.o.tm jQ;clear c1 hp3;obtain⟨bAQ,KF,nX,qN⟩:=aL hs3 aW2 sD jQ;clear hs3 aW2 sD jQ;have c2:=KF.o.cell (i:=2) rfl;go_wp2_with fail
 refine(aSE.o _).mono ?_;rintro e w4 ⟨q4,m4,k4,rfl,hp4,mF⟩;obtain rfl:m4=4:=by have:=(Sl.jU hp4).1.nU;rw[bRP.o]at this;exact this.symm
 have hs4:=(Sl.jU hp4).1;have aW3:=KF.o.late mF;have qZ:=nX.o.tm mF;clear c2 hp4;obtain⟨b6W,aLQ,kW,rT⟩:=aL hs4 aW3 qZ mF;clear hs4 aW3 qZ mF;have c3:=aLQ.o.cell (i:=3) rfl;go_wp2_with fail
 refine(a9T.o _).mono ?_;rintro e w5 ⟨q5,m5,k5,rfl,hp5,nZ⟩;obtain rfl:m5=4:=by have:=(Sl.jU hp5).1.nU;rw[bRQ.o]at this;exact this.symm
 have hs5:=(Sl.jU hp5).1;have bKI:=aLQ.o.late nZ;have wN:=kW.o.tm nZ;clear c3 hp5;obtain⟨aRS,bUI,nN,xJ⟩:=aL hs5 bKI wN nZ;clear hs5 bKI wN nZ;have U9:=RP.o.mono ((qN.o.tm rT.o).tm xJ.o);have hr3:=bAQ.o.mono (rT.o.tm xJ.o);have hr4:=b6W.o.mono xJ.o;obtain⟨aXE,bRR,aH1⟩:=aK U9 hr3 hr4;clear U9 hr3 hr4;go_wp2_with (at_builtin;first
  |(refine kK rfl _ _ 24 rfl w5.heap.size 5 i0 _ 1 1 Tryz.underlying24 hi sN oG qK rfl aH _ 0 [] rfl (GR w5 w5.heap.size 5 1 0 #[] (aZ _) (by unfold maxLen;omega) rfl) q2 2 k2 _ rfl (vU aXE.o _) oK aG aH (by simp) ?_;intro e1 f1 v1 ob1 hg1 hx1;rw[dU,eX]at ob1;obtain⟨Ob1,Hb1⟩:=aJ ob1 ((aD w5 (.cells #[] 5)).trans hg1);clear ob1 hg1 hx1)
  |(refine kK rfl _ _ 24 rfl w5.heap.size 5 i0 _ 1 1 Tryz.underlying24 hi sN oG qK rfl aH _ 2 _ rfl Ob1.o q3 2 k3 _ rfl (bRR.o.mono Hb1.o) oK aG aH Hb1.o.size ?_;intro e2 f2 v2 ob2 HZ TU;obtain⟨Ob2,Hb2⟩:=aJ ob2 (Hb1.o.trans HZ);clear ob2 HZ TU)
  |(refine kK rfl _ _ 24 rfl w5.heap.size 5 i0 _ 1 1 Tryz.underlying24 hi sN oG qK rfl aH _ 4 _ rfl Ob2.o q4 4 k4 _ rfl (aH1.o.mono Hb2.o) oK aG aH Hb2.o.size ?_;intro e3 f3 v3 ob3 hg3 WR;obtain⟨Ob3,Hb3⟩:=aJ ob3 (Hb2.o.trans hg3);clear ob3 hg3 WR)
  |(refine kK rfl _ _ 24 rfl w5.heap.size 5 i0 _ 1 1 Tryz.underlying24 hi sN oG qK rfl aH _ 8 _ rfl Ob3.o q5 4 k5 _ rfl (aRS.o.mono Hb3.o) oK aG aH Hb3.o.size ?_;intro e4 f4 v4 ob4 hg4 hx4;obtain⟨Ob4,Hb4⟩:=aJ ob4 (Hb3.o.trans hg4);clear ob4 hg4 hx4)
  |fail)
 go_ret2;refine⟨e4,f4,rfl,?_,nN.o.tm Hb4.o⟩;have:=kI Ob4.o nN.o.size;rw[←mG,←mG,←mG]at this;exact this
