import Derived.Test.YtceclmpmpldmlaaGreatCx11
import Derived.Laws.StructEq
set_option linter.unusedSimpArgs false
set_option linter.unusedVariables false
set_option maxRecDepth 100000
set_option maxHeartbeats 8000000
namespace Go.Proofs.YtceclmpmpldmlaaGreat
open Go.RowKit Tt
theorem aMW (g:Nat) (e:Nat) (y z:Value) (T:TypeId) (long:Int) (w:World) (h:jW w g T #[.int .i64 e,y,z]) (h1:e<4611686018427387) (h2:0≤long) (h3:long<4611686018427387):
  Calls Tryz.prog 103 #[.pointer (some ⟨g,0,none⟩),.int .i64 long] w fun x w'=>x= .returned (.int .i64 (vK e))∧jW w' g T #[.int .i64 (vK e+long),y,z]∧But g w w':=by
 have hV:=fun W=>aQU e W aG;have hev:=NK (n:=e) aG;have c0:=h.cell (i:=0) rfl;have f0:=h.frozen 0;generalize vK e=q at*;have hw:=aB (q+long) aG;obtain⟨h',hV'⟩:=aJ h hV;clear h hV;go_enter Tryz.func103,Tryz.ntmps103;go_wp2_with fail
 refine(hV'.o _).mono ?_;rintro e w2 ⟨rfl,rfl⟩;go_wp2_with fail
 go_ret;exact⟨rfl,h'.o.set 0 _,(But.refl g w).set 0 _⟩
structure Pln (g:Nat) (w:World) (no:Int) (v:Value) (l:List nY):Prop where
 blk:jW w g 98 #[.int .i64 (mM l),.int .i64 no,v]
 JK:Spr (g+1) w v l
theorem Pln.later {g:Nat} {w w':World} {no:Int} {v:Value} {l:List nY} (h:Pln g w no v l) (hb:Below w.heap.size w w'):Pln g w' no v l:=⟨h.blk.late hb,kC h.JK hb⟩
theorem UY (g:Nat) (no:Int) (v:Value) (l:List nY) (x0 x1 x2 x4:Int) (w:World) (h:Pln g w no v l) (h0:0≤mM l) (h1:mM l<4611686018427387) (h2:0≤x4) (h3:x4<4611686018427387) (hl:l.length<1000000):
  Calls Tryz.prog 45 #[.pointer (some ⟨g,0,none⟩),.int .i64 x0,.int .i64 x1,.int .i64 x2,.int .i64 x4] w fun e w'=>∃v',e= .returned (.tuple #[])∧Pln g w' no v' (pG l x0 x1 x2 x4)∧Mv g g v v' w w':=by
 obtain⟨i0,z0,xH,hz,oG,qK,QG⟩:=wL bEG bEH;obtain⟨yK,WW⟩:=h;have oJ:v.ownBlock≠some g:=own_ne WW aG;have WO:=yK.lt;obtain⟨a,c,rfl⟩:=JN WW;obtain⟨e,he⟩:=Int.eq_ofNat_of_zero_le h0;have hea:=a1N l x0 x1 x2 x4;have hT:=fun W (h:jW W g 98 #[.int .i64 (mM l),.int .i64 no,.slice a l.length c])=>aMW g e (.int .i64 no) (.slice a l.length c) 98 x4 W (by rw[he]at h;exact h) aG h2 h3;suffices hgoal:Calls Tryz.prog 45 #[.pointer (some ⟨g,0,none⟩),.int .i64 x0,.int .i64 x1,.int .i64 x2,.int .i64 x4] w fun e w'=>∃v',e= .returned (.tuple #[])∧jW w' g 98 #[.int .i64 (mM (pG l x0 x1 x2 x4)),.int .i64 no,v']∧w'.ownsRow (g+1) 50 5 v' (pG l x0 x1 x2 x4).length (fl spC (pG l x0 x1 x2 x4))∧Mv g g (.slice a l.length c) v' w w' by
  refine hgoal.mono ?_;rintro e w' ⟨v',q1,q2,q3,q4⟩;exact⟨v',q1,⟨q2,q3⟩,q4⟩
 rw[hea];unfold Spr at WW;unfold pG;rw[BV,cO];simp only[dP,iG,dU];rw[←he]at hT;have hr:((e:Nat):Int)=mM l:=he.symm;clear hea h0 h1 he;generalize mM l=p at*;subst hr;generalize vK e=q at*;have c2:=yK.cell (i:=2) rfl;obtain⟨Ty,f,bWQ,aM0,jK⟩:=aAY ⟨g,2,none⟩ _ w c2;obtain⟨HS,HD,aXB,NQ,MP,jF,hT',c2'⟩:=aP (jK _ (show w.drew.cell? _=_ from c2)) ((aY w.heap.size w).drew) yK WW oJ jK hT c2;clear yK WW oJ jK hT c2;go_enter Tryz.func45,Tryz.ntmps45;go_wp2_with fail
 refine NE ?_;refine vN (t:=19) (C:=fun W=>∃s,W=f s) aF 20 rfl ?_;refine nC [0,1,2,3,4,5,6,7,8,9,10,11,13] 7 aF pU aF aF aF HS.o ?_;simp only[jI,aW,aX,aU,aV];iterate 13 (go_big_quiet_step (fail))
 refine wpQuiet_nil ?_;refine kV 12 6 aF aF ?_;simp only[jI,aW,aX,aU,aV];go_wp2_with fail
 refine(hT'.o _ (aXB.o.late HD.o)).mono ?_;rintro e1 w1 ⟨rfl,jY,b1G⟩;have Q7:=(But.of_below (b:=g) HD.o).trans b1G;have bMC:=KP NQ.o Q7 MP.o;have d2:=jY.cell (i:=2) rfl;have HS:=aA (jF.o _ d2);have hg1:=jY.lt;clear b1G d2;obtain⟨kR,b1H,bEI⟩:=aK jY Q7 bMC;clear jY Q7 bMC;go_wp2_with fail
 refine Mid.mk ⟨fun _=>HS.o,?_⟩;refine nC [14] 5 aF pU aF aF aF HS.o ?_;simp only[jI,aW,aX,aU,aV];iterate 1 (go_big_quiet_step (fail))
 refine wpQuiet_nil ?_;refine kV 15 4 aF aF ?_;simp only[jI,aW,aX,aU,aV];go_wp2_with fail
 have l9:=aD w1 (.cells #[.int .i64 x0,.int .i64 x1,.int .i64 x2,.int .i64 q,.int .i64 x4] 50);have AJ:Sl (w1.alloc (.cells #[.int .i64 x0,.int .i64 x1,.int .i64 x2,.int .i64 q,.int .i64 x4] 50)) (some ⟨w1.heap.size,0,none⟩) 1 1 5 (spC (x0,x1,x2,q,x4)):=Sl.new w1 50 5 1 #[.int .i64 x0,.int .i64 x1,.int .i64 x2,.int .i64 q,.int .i64 x4] (0,0) aG rfl;have jT:=kR.o.late l9;have bMD:=kC bEI.o l9;have d2:=jT.cell (i:=2) rfl;have HS:=aA (jF.o _ d2);clear d2;have bEJ:Mv g g (.slice a l.length c) (.slice a l.length c) w (w1.alloc (.cells #[.int .i64 x0,.int .i64 x1,.int .i64 x2,.int .i64 q,.int .i64 x4] 50)):=(Mv.a1P b1H.o (.inl rfl)).trans (Mv.of_below l9);have hB2:g+1≤(w1.alloc (.cells #[.int .i64 x0,.int .i64 x1,.int .i64 x2,.int .i64 q,.int .i64 x4] 50)).heap.size:=by simp;omega
 obtain⟨oL,GZ,mE,bEK,bEL⟩:=aM l9 AJ jT bMD bEJ;clear l9 AJ jT bMD bEJ;refine Mid.mk ⟨fun _=>HS.o,?_⟩;refine kV 16 3 aF aF ?_;simp only[jI,aW,aX,aU,aV];go_wp2_with (at_builtin;refine mU rfl _ _ 43 rfl (g+1) 50 i0 z0 5 40 Tryz.underlying43 xH hz oG qK QG aH (.slice a l.length c) l.length _ rfl bEK.o ⟨w1.heap.size,0,none⟩ 1 1 (spC (x0,x1,x2,q,x4)) rfl GZ.o (aK5 _) aG aH hB2 ?_;intro a8 c8 w8 ob hg8 NP;obtain⟨Ob,Hg8,Ho8⟩:=aK ob hg8 NP;clear ob hg8 NP)
 have J4:=mE.o.grown Hg8.o MP.o;have bEM:=bEL.o.trans (Mv.NM Hg8.o Ho8.o);have d2:=J4.cell (i:=2) rfl;have HS:=aA (jF.o _ d2);have f2:=J4.frozen 2;obtain⟨a96,bEN⟩:=aJ J4 bEM;clear J4 bEM;refine Mid.mk ⟨fun _=>HS.o,?_⟩;refine X7 [17,18] 1 aF pU aF aF aF HS.o ?_;simp only[jI,aW,aX,aU,aV];iterate 2 (go_big_quiet_step (fail))
 refine wpQuiet_nil ?_;refine kV 19 0 aF aF ?_;simp only[jI,aW,aX,aU,aV];go_wp2_with fail
 have yB:=a96.o.set 2 (.slice a8 (l.length+1) c8);have DK:=lD Ob.o (show g<g+1 by omega) 2 (.slice a8 (l.length+1) c8);have bEO:=bEN.o.trans (Mv.a1P (g:=g) (gt:=g) (sv:= .slice a8 (l.length+1) c8) ((But.refl g w8).set 2 (.slice a8 (l.length+1) c8)) (.inl rfl));obtain⟨tN,aGH,bEP⟩:=aK yB DK bEO;clear yB DK bEO;first|refine Mid.mk ?_|skip
 first|refine⟨fun h=>(iQ h.symm).elim,?_⟩|skip
 refine zD aF ?_;refine wT ?_;go_wp2_with fail
 refine bodyPost_end (results_none rfl _ _ _) rfl ?_;exact⟨_,rfl,tN.o,aGH.o,bEP.o⟩
theorem aGI (a a':Option Addr) (n n' c c':Nat) (x y:List Int) (w:World) (hx:Sl w a n c 1 (ints .u8 x)) (hy:Sl w a' n' c' 1 (ints .u8 y)):
  Calls Tryz.prog 26 #[.slice a n c,.slice a' n' c'] w fun e w'=>e= .returned (.bool (x==y))∧Qt w w':=by
 have hxl:x.length=n:=hx.nU;have hyl:y.length=n':=hy.nU;have hn:=hx.le;have hm:=hx.max;have hn':=hy.le;have EN:=hy.max;by_cases oJ:n=n'
 ·subst oJ;obtain⟨Hx,Hy⟩:=aJ hxl hyl;have oJ:((n:Int) != (n:Int))=false:=by simp
  clear hxl hyl;go_enter Tryz.func26,Tryz.ntmps26;go_wp2;go_loopw [4,5] (fun r i wr=>∃k:Nat,k≤n∧i= .int .i64 k∧(x.take k=y.take k)∧r= .bool false∧Qt w wr) (fun _ i _=>n - (intOf i).toNat)
  case atStart=>exact⟨0,Nat.zero_le _,rfl,rfl,rfl,Qt.refl _⟩
  case round=>
   obtain⟨k,hk,rfl,DI,rfl,hq⟩:=hrel;by_cases kD:k<n
   ·obtain⟨b,o,rfl,xI,cx⟩:=(hx.qt hq).at kD;obtain⟨b',o',rfl,rU,cy⟩:=(hy.qt hq).at kD;have c1:=cx k _ (oP (by rw[Hx.o];exact kD));have c2:=cy k _ (oP (by rw[Hy.o];exact kD));clear cx cy;have Htk:=aA DI;clear DI;by_cases he:x.getD k 0=y.getD k 0
    ·have hb:(x.getD k 0 != y.getD k 0)=false:=by rw[he];simp
     have He:=aA he;clear he;generalize hu:x.getD k 0=u at*;generalize hv:y.getD k 0=v at*;obtain⟨Hu,Hv⟩:=aJ hu hv;clear hu hv;go_wp2;go_quiet (fail)
     go_wp2;go_roundw
     case rel=>exact⟨k+1,by omega,by go_num,a8O Hx.o Hy.o kD Htk.o (Hu.o.trans (He.o.trans Hv.o.symm)),rfl,hq.step _⟩
     case measure=>simp[intOf];omega
    ·have hb:(x.getD k 0 != y.getD k 0)=true:=by simpa using he
     have He:=aA he;clear he;generalize hu:x.getD k 0=u at*;generalize hv:y.getD k 0=v at*;obtain⟨Hu,Hv⟩:=aJ hu hv;clear hu hv;go_wp2;go_quiet (fail)
     go_wp2;go_ret;exact⟨zO (aP1 (fun h=>He.o (Hu.o.symm.trans (h.trans Hv.o)))).symm,hq.step _⟩
   ·have Htk:=aA DI;clear DI;go_wp2;go_ret;exact⟨zO (aFO Hx.o Hy.o aG Htk.o).symm,hq⟩
 ·have oJ:((n:Int) != (n':Int))=true:=by simp;omega
  have e:(x==y)=false:=by rw[beq_eq_false_iff_ne];rintro rfl;omega
  go_enter Tryz.func26,Tryz.ntmps26;go_wp2;go_ret;exact⟨zO e.symm,Qt.refl _⟩
theorem b62 (y k y2 k2:Int) (a a':Option Addr) (n c n' c':Nat) (d d2:List Int) (w:World) (hs:Sl w a n c 1 (ints .u8 d)) (BO:Sl w a' n' c' 1 (ints .u8 d2)):
  Calls Tryz.prog 136 #[.agg #[.int .i64 y,.int .i64 k,.slice a n c],.agg #[.int .i64 y2,.int .i64 k2,.slice a' n' c']] w fun e w'=>e= .returned (.bool (y==y2&&k==k2&&d==d2))∧Below w.heap.size w w':=by
 have pW:=(aD w (.cells #[.int .i64 y,.int .i64 k,.slice a n c] 72)).alloc (by simp) (.cells #[.int .i64 y2,.int .i64 k2,.slice a' n' c'] 72);have HC:=aGI a a' n n' c c' d d2 _ (hs.mono pW) (BO.mono pW);obtain⟨b3,h3⟩:∃b,(d==d2)=b:=⟨_,rfl⟩;rw[h3]at HC;rw[h3];obtain⟨pX,RP,HC',h3',lF⟩:=aM hs BO HC h3 pW;clear hs BO HC h3 pW;go_enter Tryz.func136,Tryz.ntmps136;cases h1:(y==y2)with
 |false=>
  go_wp2_with fail
  go_ret;exact⟨rfl,lF.o⟩
 |true=>
  cases h2:(k==k2)with
  |false=>
   go_wp2_with fail
   go_ret;exact⟨rfl,lF.o⟩
  |true=>
   go_wp2_with fail
   refine HC'.o.mono ?_;rintro e w2 ⟨rfl,hq⟩;have hb:=lF.o.trans (hq.below w.heap.size);obtain⟨mO,hq'⟩:=aJ hb hq;clear hb hq;go_wp2_with fail
   go_ret;exact⟨by cases b3 <;> rfl,mO.o⟩
theorem a1Q {α:Type} {d:α} {x y:List α} {k n:Nat} (hx:x.length=n) (hy:y.length=n) (hk:k<n) (h:x.take k=y.take k) (he:x.getD k d=y.getD k d):x.take (k+1)=y.take (k+1):=by
 rw[dS,dS,h];congr 1
 simp only[bH]at he;rw[bI aG,bI aG]at he ⊢;simpa using he
theorem XD {α:Type} [BEq α] [LawfulBEq α] {d:α} {x y:List α} {k:Nat} (he:¬x.getD k d=y.getD k d):(x==y)=false:=by
 rw[beq_eq_false_iff_ne];rintro rfl;exact he rfl
theorem YS {α:Type} [BEq α] [LawfulBEq α] {x y:List α} {k n:Nat} (hx:x.length=n) (hy:y.length=n) (hk:n≤k) (h:x.take k=y.take k):(x==y)=true:=by
 rw[bK aG,bK aG]at h;simp[h]
attribute [-go_sem] run_neq_struct
end Go.Proofs.YtceclmpmpldmlaaGreat
namespace Go.Proofs.YtceclmpmpldmlaaGreat
open Go.RowKit Tt
structure Tgr (w:World) (a:Option Addr) (n c:Nat) (zs:List Tz):Prop where
 row:Sl w a n c 4 (fl tzc zs)
 each:∀z∈zs,Sl w z.1.2.2.2.1 z.1.2.2.2.2.1 z.1.2.2.2.2.2 1 (ints .u8 z.2)
theorem Tgr.mono {w w':World} {a:Option Addr} {n c:Nat} {zs:List Tz} (h:Tgr w a n c zs) (hb:Below w.heap.size w w'):Tgr w' a n c zs:=⟨h.row.mono hb,fun z hz=>(h.each z hz).mono hb⟩
theorem Tgr.len {w:World} {a:Option Addr} {n c:Nat} {zs:List Tz} (h:Tgr w a n c zs):zs.length=n:=h.row.rP a95 aH
theorem Tgr.at {w:World} {a:Option Addr} {n c:Nat} {zs:List Tz} (h:Tgr w a n c zs) {k:Nat} (hk:k<n):
  ∃b o,a=some ⟨b,o,none⟩∧b<w.heap.size∧w.cell? ⟨b,o+k*4,none⟩=some (.int .i64 (zs.getD k yL).1.1)∧w.cell? ⟨b,o+k*4+1,none⟩=some (.int .i64 (zs.getD k yL).1.2.1)∧w.cell? ⟨b,o+k*4+2,none⟩=some (.int .i64 (zs.getD k yL).1.2.2.1)∧
   w.cell? ⟨b,o+k*4+3,none⟩=some (.slice (zs.getD k yL).1.2.2.2.1 (zs.getD k yL).1.2.2.2.2.1 (zs.getD k yL).1.2.2.2.2.2)∧Sl w (zs.getD k yL).1.2.2.2.1 (zs.getD k yL).1.2.2.2.2.1 (zs.getD k yL).1.2.2.2.2.2 1 (ints .u8 (zs.getD k yL).2):=by
 obtain⟨b,o,rfl,hb,fe⟩:=h.row.elem a95 aH yL hk;have f0:=fe 0 _ rfl;refine⟨b,o,rfl,hb,by simpa using f0,fe 1 _ rfl,fe 2 _ rfl,fe 3 _ rfl,h.each _ ?_⟩;rw[jO (by rw[h.len];exact hk)];exact bJ _
theorem NR {α β:Type} (f:α→β) (l:List α) (d:α) (i:Nat):(l.map f).getD i (f d)=f (l.getD i d):=by
 simp only[bH,iJ];cases l[i]? <;> rfl
theorem a7N (a a':Option Addr) (n c n' c':Nat) (xs ys:List Tz) (w:World) (hx:Tgr w a n c xs) (hy:Tgr w a' n' c' ys):
  Calls Tryz.prog 74 #[.slice a n c,.slice a' n' c'] w fun e w'=>e= .returned (.bool (xs.map l8==ys.map l8))∧Below w.heap.size w w':=by
 have hxl:(xs.map l8).length=n:=by rw[bL];exact hx.len
 have hyl:(ys.map l8).length=n':=by rw[bL];exact hy.len
 have LX:=hx.row.max;have BX:=hx.row.le;have hmy:=hy.row.max;have bNX:=hy.row.le;obtain⟨r,hr⟩:=aC (xs.map l8==ys.map l8);rw[hr];have qX:=aA hr;clear hr;obtain⟨TR,hy',aGJ,aGK⟩:=aL hx hy hxl hyl;clear hx hy hxl hyl;by_cases hnn:n=n'
 ·subst hnn;have oJ:((n:Int) != (n:Int))=false:=by simp
  go_enter Tryz.func74,Tryz.ntmps74;go_wp2_with fail
  go_loopw [5] (fun iv wr=>∃(i:Nat),i≤n∧iv= .int .i64 i∧Hid ((xs.map l8).take i=(ys.map l8).take i)∧Hid (Below w.heap.size w wr)) (fun iv _=>n - (intOf iv).toNat)
  case atStart=>exact⟨0,by omega,rfl,aA rfl,aA (aY _ _)⟩
  case round=>
   obtain⟨i,yJ,rfl,DI,hb⟩:=hrel;by_cases hi:i<n
   ·have I4:(i:Int)<(n:Int):=by omega
    have sS:IntKind.i64.wrap ((i:Int)+1)=i+1:=by rw[bF];omega
    obtain⟨b,o,rfl,lC,f0,f1,f2,f3,rV⟩:=TR.o.at hi;obtain⟨b2,o2,rfl,wM,g0,g1,g2,g3,a1R⟩:=hy'.o.at hi;have LX:=NR l8 xs yL i;have hmy:=NR l8 ys yL i;obtain⟨⟨⟨y,t,k,xa,xn,xc⟩,d⟩,wO⟩:∃z,xs.getD i yL=z:=⟨_,rfl⟩;obtain⟨⟨⟨y2,t2,k2,xa2,xn2,xc2⟩,d2⟩,a1S⟩:∃z,ys.getD i yL=z:=⟨_,rfl⟩;rw[wO]at f0 f1 f2 f3 rV LX;rw[a1S]at g0 g1 g2 g3 a1R hmy;simp only[l8]at f0 f1 f2 f3 g0 g1 g2 g3 rV a1R LX hmy;obtain⟨Ty,f,oJ,jN,jK⟩:=zQ w.heap.size w;have q0:∀s,(f s).cell? ⟨b,o+i*4,none⟩=some (.int .i64 y):=fun s=>late (jN s) lC f0;have q1:∀s,(f s).cell? ⟨b,o+i*4+1,none⟩=some (.int .i64 t):=fun s=>late (jN s) lC f1;have q2:∀s,(f s).cell? ⟨b,o+i*4+2,none⟩=some (.int .i64 k):=fun s=>late (jN s) lC f2;have q3:∀s,(f s).cell? ⟨b,o+i*4+3,none⟩=some (.slice xa xn xc):=fun s=>late (jN s) lC f3;have r0:∀s,(f s).cell? ⟨b2,o2+i*4,none⟩=some (.int .i64 y2):=fun s=>late (jN s) wM g0;have r1:∀s,(f s).cell? ⟨b2,o2+i*4+1,none⟩=some (.int .i64 t2):=fun s=>late (jN s) wM g1;have r2:∀s,(f s).cell? ⟨b2,o2+i*4+2,none⟩=some (.int .i64 k2):=fun s=>late (jN s) wM g2;have r3:∀s,(f s).cell? ⟨b2,o2+i*4+3,none⟩=some (.slice xa2 xn2 xc2):=fun s=>late (jN s) wM g3;obtain⟨HS,HG⟩:=aJ (jK _ (hb.o.drew)) (fun s=>b62 t k t2 k2 xa xa2 xn xc xn2 xc2 d d2 (f s) (rV.mono (jN s)) (a1R.mono (jN s)));clear f0 f1 f2 f3 g0 g1 g2 g3 lC wM;obtain⟨jH,jF,JF,bEQ,NC,bER,b63,b65⟩:=aP jN jK rV a1R wO a1S LX hmy;clear jN jK rV a1R wO a1S LX hmy;by_cases hyy:y=y2
    ·subst hyy;have hyy:(y != y)=false:=by simp
     obtain⟨r',hr1⟩:∃b,(t==t2&&k==k2&&d==d2)=b:=⟨_,rfl⟩;rw[hr1]at HG;cases r' with
     |true=>
      have mQ:Hid ((xs.map l8).take (i+1)=(ys.map l8).take (i+1)):=aA (a1Q aGJ.o aGK.o hi DI.o (by
       rw[b63.o,b65.o];simp only[bV,beq_iff_eq]at hr1;rw[hr1.1.1,hr1.1.2,hr1.2]))
      clear hr1;go_wp2_with fail
      refine jL f aF aF HS.o ?_;iterate 25 (go_big_quiet_step ((go_at_call 136;refine(HG.o _).mono ?_;rintro e w3 ⟨rfl,jQ⟩;exact⟨rfl,jF.o _ ((jH.o _).tm jQ)⟩)))
      refine wpQuiet_nil ?_;intro s;have kJ:=jH.o s;have mR:=aA kJ;clear kJ;clear q0 q1 q2 q3 r0 r1 r2 r3;go_wp2_with fail
      go_roundw
      case rel=>exact⟨i+1,by omega,by go_num,mQ,mR⟩
      case measure=>simp[intOf];omega
     |false=>
      obtain rfl:r=false:=by
       rw[←qX.o];refine XD (k:=i) (d:=(0,0,0, [])) (fun e=>?_);rw[b63.o,b65.o]at e;simp only[fQ]at e;obtain⟨_,rfl,rfl,rfl⟩:=e;simp at hr1
      clear hr1;go_wp2_with fail
      refine jL f aF aF HS.o ?_;iterate 25 (go_big_quiet_step ((go_at_call 136;refine(HG.o _).mono ?_;rintro e w3 ⟨rfl,jQ⟩;exact⟨rfl,jF.o _ ((jH.o _).tm jQ)⟩)))
      refine wpQuiet_nil ?_;intro s;have kJ:=jH.o s;have mR:=aA kJ;clear kJ;clear q0 q1 q2 q3 r0 r1 r2 r3;go_wp2_with fail
      go_ret;exact⟨rfl,mR.o⟩
    ·obtain rfl:r=false:=by
      rw[←qX.o];refine XD (k:=i) (d:=(0,0,0, [])) (fun e=>?_);rw[b63.o,b65.o]at e;exact hyy (congrArg Prod.fst e)
     have hyy:(y != y2)=true:=by simpa using hyy
     go_wp2_with fail
     refine jL f aF aF HS.o ?_;iterate 25 (go_big_quiet_step (fail))
     refine wpQuiet_nil ?_;intro s;have kJ:=jH.o s;have mR:=aA kJ;clear kJ;clear q0 q1 q2 q3 r0 r1 r2 r3;go_wp2_with fail
     go_ret;exact⟨rfl,mR.o⟩
   ·obtain rfl:i=n:=by omega
    obtain rfl:r=true:=by rw[←qX.o];exact YS aGJ.o aGK.o aG DI.o
    go_wp2;go_ret;exact⟨rfl,hb.o⟩
 ·have oJ:((n:Int) != (n':Int))=true:=by simp;omega
  obtain rfl:r=false:=by
   rw[←qX.o,beq_eq_false_iff_ne];intro e;have:=congrArg List.length e;rw[aGJ.o,aGK.o]at this;exact hnn this
  go_enter Tryz.func74,Tryz.ntmps74;go_wp2_with fail
  go_ret;exact⟨rfl,aY _ _⟩
def wH (w:World):(f:Nat)→jR f→Dz→Prop
 |0,_,_=>False
 |f+1,d,v=>∃(ta:Option Addr) (tn tc:Nat) (zs:List Tz) (sa:Option Addr) (sn sc:Nat) (ds:List (Int×Dz)) (ba:Option Addr) (bn bc:Nat),v=(.slice ta tn tc,.slice sa sn sc,.slice ba bn bc)∧Tgr w ta tn tc zs∧d.1=zs.map l8∧
   Sl w sa sn sc 4 (fl sbC ds)∧ds.length=d.2.1.length∧(∀i (h:i<ds.length) (h':i<d.2.1.length),ds[i].1=d.2.1[i].1∧wH w f d.2.1[i].2 ds[i].2)∧Sl w ba bn bc 1 (ints .u8 d.2.2)
theorem wH.mono {w w':World} (hb:Below w.heap.size w w'):∀{f:Nat} {d:jR f} {v:Dz},wH w f d v→wH w' f d v
 |0,_,_,h=>h.elim
 |f+1,d,v,h=>by
  obtain⟨ta,tn,tc,zs,sa,sn,sc,ds,ba,bn,bc,h1,h2,h3,h4,h5,h6,h7⟩:=h;exact⟨ta,tn,tc,zs,sa,sn,sc,ds,ba,bn,bc,h1,h2.mono hb,h3,h4.mono hb,h5,fun i hi xG=>⟨(h6 i hi xG).1,(h6 i hi xG).2.mono hb⟩,h7.mono hb⟩
theorem Ck.v {X:Nat→Prop} {B:Nat} {w:World} {v:Value} {E:TypeId} {sz n:Nat} {xs:List Value} (h:Ck X B w v E sz n xs):∃a c,v= .slice a n c:=by
 rcases h.1.2 with ⟨rfl,h0⟩|⟨g,cap,cur,rfl,_⟩
 ·exact⟨none,0,by rw[h0]⟩
 ·exact⟨_,_,rfl⟩
theorem qA.rd {X:Nat→Prop} {B:Nat} {w:World}:∀{f:Nat} {d:jR f} {v:Dz},qA X B w f d v→wH w f d v
 |0,_,_,h=>h.elim
 |f+1,d,(v1,v2,v3),h=>by
  obtain⟨h0,⟨zs,h1,h2,h3⟩,⟨ds,h4,h5,h6⟩,h7⟩:=h;obtain⟨ta,tc,rfl⟩:=Ck.v h2;obtain⟨sa,sc,rfl⟩:=Ck.v h5;obtain⟨ba,bc,rfl⟩:=Ck.v h7;exact⟨ta,_,tc,zs,sa,_,sc,ds,ba,_,bc,rfl,⟨h2.sl,fun z hz=>(h3 z hz).sl⟩,h1,h5.sl,h4,fun i hi xG=>⟨(h6 i hi xG).1,(h6 i hi xG).2.rd⟩,h7.sl⟩
abbrev dz0:Int×Dz:=(0,.slice none 0 0,.slice none 0 0,.slice none 0 0)
theorem UZ {f:Nat} {a a':List rM} {b b':List (Int×jR f)} {c c':List Int} (h: @Eq (jR (f+1)) (a,b,c) (a',b',c')):a=a'∧b=b'∧c=c':=by
 have h':((a,b,c):List rM×List (Int×jR f)×List Int)=(a',b',c'):=h;cases h'
 exact⟨rfl,rfl,rfl⟩
theorem aC3:∀(f:Nat) (d d2:jR f) (v v2:Dz) (w:World),wH w f d v→wH w f d2 v2→∀b:Bool,(b=true↔d=d2)→
  Calls Tryz.prog 67 #[.agg #[v.1,v.2.1,v.2.2],.agg #[v2.1,v2.2.1,v2.2.2]] w fun e w'=>e= .returned (.bool b)∧Below w.heap.size w w'
 |0,_,_,_,_,_,h,_,_,_=>h.elim
 |f+1,(dt,dsu,dbl),(et,QO,ebl),v,v2,w,h,h2,b,hb=>by
  have IH:=aC3 f;obtain⟨ta,tn,tc,zs,sa,sn,sc,ds,ba,bn,bc,rfl,t1,t2,t3,t4,t5,t6⟩:=h;obtain⟨ua,un,uc,ys,ra,rn,rc,es,ca,cn,cc,rfl,u1,u2,u3,u4,u5,u6⟩:=h2;simp only at t2 t4 t5 t6 u2 u4 u5 u6 ⊢;have oQ:=t3.rP mJ aH;have hel:=u3.rP mJ aH;obtain⟨W,hW⟩:∃W,(w.alloc (.cells #[.slice ta tn tc,.slice sa sn sc,.slice ba bn bc] 26)).alloc (.cells #[.slice ua un uc,.slice ra rn rc,.slice ca cn cc] 26)=W:=⟨_,rfl⟩;have hbW:Below w.heap.size w W:=by rw[←hW];exact(aD w _).alloc (by simp) _
  have b0:jW W w.heap.size 26 #[.slice ta tn tc,.slice sa sn sc,.slice ba bn bc]:=by rw[←hW];exact(jW.new w _ _).alloc _
  have b1:jW W (w.heap.size+1) 26 #[.slice ua un uc,.slice ra rn rc,.slice ca cn cc]:=by rw[←hW];exact wB _ _ (by simp)
  obtain⟨rt,hrt⟩:∃b,(zs.map l8==ys.map l8)=b:=⟨_,rfl⟩;obtain⟨rb,hrb⟩:∃b,(dbl==ebl)=b:=⟨_,rfl⟩;have HT:=fun W' (h:Below W.heap.size W W')=>a7N ta ua tn tc un uc zs ys W' ((t1.mono hbW).mono h) ((u1.mono hbW).mono h);rw[hrt]at HT;have HB:=fun W' (h:Below W.heap.size W W')=>aGI ba ca bn cn bc cc dbl ebl W' ((t6.mono hbW).mono h) ((u6.mono hbW).mono h);rw[hrb]at HB;have c00:=b0.cell (i:=0) rfl;have c10:=b1.cell (i:=0) rfl;have tH:=t3.max;have b66:=t3.le;have hrm:=u3.max;have bNY:=u3.le;obtain⟨IH',t1',t2',t3',t4',t5',t6',u1',u2',u3',u4',u5'⟩:=aT IH t1 t2 t3 t4 t5 t6 u1 u2 u3 u4 u5;obtain⟨u6',sH,a97,MH,b0',b1',b67,bES,HT',HB',mO⟩:=aS u6 oQ hel hbW b0 b1 hrt hrb HT HB hb;clear IH t1 t2 t3 t4 t5 t6 u1 u2 u3 u4 u5 u6 oQ hel hbW b0 b1 hrt hrb HT HB hb;go_enter Tryz.func67,Tryz.ntmps67;go_upto_region 1 with fail
  try rw[hW]
  clear hW;go_wp2_with fail
  refine(HT'.o W (aY _ _)).mono ?_;rintro e w1 ⟨rfl,jY⟩;have b01:=b0'.o.late jY;have b11:=b1'.o.late jY;have c02:=b01.cell (i:=2) rfl;have c12:=b11.cell (i:=2) rfl;have c01:=b01.cell (i:=1) rfl;have c11:=b11.cell (i:=1) rfl;have bET:=MH.o.tm jY;clear c00 c10;obtain⟨bNZ,bO0,kR,aQV⟩:=aL b01 b11 jY bET;clear b01 b11 jY bET;cases rt with
  |false=>
   obtain rfl:b=false:=by
    rw[←eZ];intro e;have e2:=UZ (mO.o.1 e);rw[beq_eq_false_iff_ne]at b67;exact b67.o (by rw[←t2'.o,←u2'.o];exact e2.1)
   go_wp2_with fail
   go_ret;exact⟨rfl,aQV.o⟩
  |true=>
   go_wp2_with fail
   refine(HB'.o w1 kR.o).mono ?_;rintro e w2 ⟨rfl,nD⟩;have jT:=nD.below w1.heap.size;have b02:=bNZ.o.late jT;have b12:=bO0.o.late jT;have c01:=b02.cell (i:=1) rfl;have c11:=b12.cell (i:=1) rfl;have lJ:=aQV.o.tm jT;clear c02 c12;obtain⟨aQW,aQX,zH,mE,lG⟩:=aM b02 b12 nD jT lJ;clear b02 b12 nD jT lJ;cases rb with
   |false=>
    obtain rfl:b=false:=by
     rw[←eZ];intro e;have e2:=UZ (mO.o.1 e);have:=bES.o;rw[beq_eq_false_iff_ne]at this;exact this e2.2.2
    go_wp2_with fail
    go_ret;exact⟨rfl,lG.o⟩
   |true=>
    by_cases hnn:sn=rn
    ·subst hnn;have oJ:((sn:Int) != (sn:Int))=false:=by simp
     go_wp2_with fail
     clear c01 c11;go_loopw [5] (fun iv wr=>∃(i:Nat),i≤sn∧iv= .int .i64 i∧Hid (∀j (h:j<dsu.length) (h':j<QO.length),j<i→dsu[j]=QO[j])∧Hid (Below w.heap.size w wr)∧Hid (Below W.heap.size W wr)) (fun iv _=>sn - (intOf iv).toNat)
     case atStart=>exact⟨0,by omega,rfl,aA (fun j _ _ h=>by omega),lG,aA (kR.o.tm mE.o)⟩
     case round=>
      obtain⟨i,yJ,rfl,DI,lI,qY⟩:=hrel;have b03:=b0'.o.late qY.o;have b13:=b1'.o.late qY.o;have c01:=b03.cell (i:=1) rfl;obtain⟨aGL,aGM⟩:=aJ b03 b13;clear b03 b13;by_cases hi:i<sn
      ·have I4:(i:Int)<(sn:Int):=by omega
       have sS:IntKind.i64.wrap ((i:Int)+1)=i+1:=by rw[bF];omega
       have hdi:i<ds.length:=by rw[sH.o];exact hi
       have hei:i<es.length:=by rw[a97.o];exact hi
       have b68:i<dsu.length:=by have:=t4'.o;omega
       have b6A:i<QO.length:=by have:=u4'.o;omega
       obtain⟨x,o,hsa,hx,fe⟩:=((t3'.o.mono MH.o).mono qY.o).elem mJ aH dz0 hi;obtain⟨x2,o2,hra,TU,ge⟩:=((u3'.o.mono MH.o).mono qY.o).elem mJ aH dz0 hi;have T5:=t5'.o i hdi b68;have U5:=u5'.o i hei b6A;rw[jO hdi]at fe;rw[jO hei]at ge;obtain⟨⟨y,z1,z2,z3⟩,hds⟩:∃q,ds[i]=q:=⟨_,rfl⟩;obtain⟨⟨y2,q1,q2,q3⟩,hes⟩:∃q,es[i]=q:=⟨_,rfl⟩;rw[hds]at fe T5;rw[hes]at ge U5;obtain⟨T5a,T5b⟩:=T5;obtain⟨U5a,U5b⟩:=U5;simp only at T5a U5a;have f0:=fe 0 _ rfl;have f1:=fe 1 _ rfl;have f2:=fe 2 _ rfl;have f3:=fe 3 _ rfl;have g0:=ge 0 _ rfl;have g1:=ge 1 _ rfl;have g2:=ge 2 _ rfl;have g3:=ge 3 _ rfl;simp only[bU]at f0 f1 f2 f3 g0 g1 g2 g3;subst hsa hra;obtain⟨Ty,ff,oJ,jN,jK⟩:=kE wr;have p0:=fun s=>(aGL.o.late (jN s)).cell (i:=1) rfl;have p1:=fun s=>(aGM.o.late (jN s)).cell (i:=1) rfl;have r0:∀s,(ff s).cell? ⟨x,o+i*4,none⟩=some (.int .i64 y):=fun s=>late (jN s) hx f0;have r1:∀s,(ff s).cell? ⟨x,o+i*4+1,none⟩=some z1:=fun s=>late (jN s) hx f1;have r2:∀s,(ff s).cell? ⟨x,o+i*4+2,none⟩=some z2:=fun s=>late (jN s) hx f2;have r3:∀s,(ff s).cell? ⟨x,o+i*4+3,none⟩=some z3:=fun s=>late (jN s) hx f3;have k0:∀s,(ff s).cell? ⟨x2,o2+i*4,none⟩=some (.int .i64 y2):=fun s=>late (jN s) TU g0;have k1:∀s,(ff s).cell? ⟨x2,o2+i*4+1,none⟩=some q1:=fun s=>late (jN s) TU g1;have k2:∀s,(ff s).cell? ⟨x2,o2+i*4+2,none⟩=some q2:=fun s=>late (jN s) TU g2;have k3:∀s,(ff s).cell? ⟨x2,o2+i*4+3,none⟩=some q3:=fun s=>late (jN s) TU g3;obtain⟨b',a1T⟩:∃b':Bool,(b'=true↔dsu[i].2=QO[i].2):=by classical exact⟨decide (dsu[i].2=QO[i].2),by simp⟩
       have HG:=aA (fun s=>IH'.o dsu[i].2 QO[i].2 (z1,z2,z3) (q1,q2,q3) (ff s) (((T5b.mono MH.o).mono qY.o).mono (jN s)) (((U5b.mono MH.o).mono qY.o).mono (jN s)) b' a1T);simp only at HG;have HS:=aA (jK _ ((aY _ _).drew));clear f0 f1 f2 f3 g0 g1 g2 g3 fe ge hx TU;obtain⟨jH,jF,bEU,bO1,bEV,bO2,bSL,bSM⟩:=aP jN jK T5a T5b U5a U5b hds hes;clear jN jK T5a T5b U5a U5b hds hes;replace a1T:=aA a1T
       by_cases hyy:y=y2
       ·subst hyy;have hyy:(y != y)=false:=by simp
        cases b' with
        |true=>
         have mQ:Hid (∀j (h:j<dsu.length) (h':j<QO.length),j<i+1→dsu[j]=QO[j]):=aA (fun j h h' hj=>by
          by_cases J9:j<i
          ·exact DI.o j h h' J9
          ·obtain rfl:j=i:=by omega
           exact Prod.ext (by rw[←bEU.o,←bEV.o]) (a1T.o.1 rfl))
         go_wp2_with fail
         refine jL ff aF aF HS.o ?_;iterate 29 (go_big_quiet_step ((go_at_call 67;refine(HG.o _).mono ?_;rintro e w3 ⟨rfl,jQ⟩;exact⟨rfl,jF.o _ ((jH.o _).tm jQ)⟩)))
         refine wpQuiet_nil ?_;intro s;have kJ:=jH.o s;have mR:=aA kJ;clear kJ;clear p0 p1 r0 r1 r2 r3 k0 k1 k2 k3;go_wp2_with fail
         go_roundw
         case rel=>exact⟨i+1,by omega,by go_num,mQ,aA (lI.o.tm mR.o),aA (qY.o.tm mR.o)⟩
         case measure=>simp[intOf];omega
        |false=>
         obtain rfl:b=false:=by
          rw[←eZ];intro e;have e2:=(UZ (mO.o.1 e)).2.1;subst e2;have:=a1T.o.2 rfl;cases this
         go_wp2_with fail
         refine jL ff aF aF HS.o ?_;iterate 29 (go_big_quiet_step ((go_at_call 67;refine(HG.o _).mono ?_;rintro e w3 ⟨rfl,jQ⟩;exact⟨rfl,jF.o _ ((jH.o _).tm jQ)⟩)))
         refine wpQuiet_nil ?_;intro s;have kJ:=jH.o s;have mR:=aA kJ;clear kJ;clear p0 p1 r0 r1 r2 r3 k0 k1 k2 k3;go_wp2_with fail
         go_ret;exact⟨rfl,lI.o.tm mR.o⟩
       ·obtain rfl:b=false:=by
         rw[←eZ];intro e;have e2:=(UZ (mO.o.1 e)).2.1;subst e2;exact hyy (bEU.o.trans bEV.o.symm)
        have hyy:(y != y2)=true:=by simpa using hyy
        go_wp2_with fail
        refine jL ff aF aF HS.o ?_;iterate 29 (go_big_quiet_step ((go_at_call 67;refine(HG.o _).mono ?_;rintro e w3 ⟨rfl,jQ⟩;exact⟨rfl,jF.o _ ((jH.o _).tm jQ)⟩)))
        refine wpQuiet_nil ?_;intro s;have kJ:=jH.o s;have mR:=aA kJ;clear kJ;clear p0 p1 r0 r1 r2 r3 k0 k1 k2 k3;go_wp2_with fail
        go_ret;exact⟨rfl,lI.o.tm mR.o⟩
      ·obtain rfl:i=sn:=by omega
       obtain rfl:b=true:=by
        rw[mO.o];have e1:dt=et:=by rw[t2'.o,u2'.o];simpa using b67.o
        have e2:dbl=ebl:=by simpa using bES.o
        have e3:dsu=QO:=fE (by have:=t4'.o;have:=u4'.o;have:=sH.o;have:=a97.o;omega) (fun j h1 h2=>DI.o j h1 h2 (by have:=t4'.o;have:=sH.o;omega));rw[e1,e2,e3]
       go_wp2_with fail
       go_ret;exact⟨rfl,lI.o⟩
    ·have oJ:((sn:Int) != (rn:Int))=true:=by simp;omega
     obtain rfl:b=false:=by
      rw[←eZ];intro e;have e2:=UZ (mO.o.1 e);have e3:=congrArg List.length e2.2.1;have:=t4'.o;have:=u4'.o;have:=sH.o;have:=a97.o;omega
     go_wp2_with fail
     go_ret;exact⟨rfl,lG.o⟩
def yP (f:Nat) (w:World) (a:Option Addr) (n c:Nat) (ds:List (jR f)):Prop:=
 ∃V3:List Dz,V3.length=ds.length∧Sl w a n c 3 (fl YR V3)∧∀i (h:i<V3.length) (h':i<ds.length),wH w f ds[i] V3[i]
theorem yP.mono {f:Nat} {w w':World} {a:Option Addr} {n c:Nat} {ds:List (jR f)} (h:yP f w a n c ds) (hb:Below w.heap.size w w'):yP f w' a n c ds:=by
 obtain⟨V3,h1,h2,h3⟩:=h;exact⟨V3,h1,h2.mono hb,fun i hi xG=>(h3 i hi xG).mono hb⟩
abbrev dzz:Dz:=(.slice none 0 0,.slice none 0 0,.slice none 0 0)
theorem aMX (f:Nat) (o o2:Int) (sa:Option Addr) (sn sc:Nat) (ra:Option Addr) (rn rc:Nat) (ds es:List (jR f)) (w:World) (h:yP f w sa sn sc ds) (h2:yP f w ra rn rc es) (b:Bool) (hb:b=true↔o=o2∧ds=es):
  Calls Tryz.prog 25 #[.agg #[.int .i64 o,.slice sa sn sc],.agg #[.int .i64 o2,.slice ra rn rc]] w fun e w'=>e= .returned (.bool b)∧Below w.heap.size w w':=by
 obtain⟨V3,t4,t3,t5⟩:=h;obtain⟨ezs,u4,u3,u5⟩:=h2;have oQ:=t3.rP mP aH;have hel:=u3.rP mP aH;obtain⟨W,hW⟩:∃W,(w.alloc (.cells #[.int .i64 o,.slice sa sn sc] 39)).alloc (.cells #[.int .i64 o2,.slice ra rn rc] 39)=W:=⟨_,rfl⟩;have hbW:Below w.heap.size w W:=by rw[←hW];exact(aD w _).alloc (by simp) _
 have b0:jW W w.heap.size 39 #[.int .i64 o,.slice sa sn sc]:=by rw[←hW];exact(jW.new w _ _).alloc _
 have b1:jW W (w.heap.size+1) 39 #[.int .i64 o2,.slice ra rn rc]:=by rw[←hW];exact wB _ _ (by simp)
 have c00:=b0.cell (i:=0) rfl;have c10:=b1.cell (i:=0) rfl;have c01:=b0.cell (i:=1) rfl;have c11:=b1.cell (i:=1) rfl;have tH:=t3.max;have b66:=t3.le;have hrm:=u3.max;have bNY:=u3.le;obtain⟨t3',t4',t5',u3',u4',u5',sH,a97,MH,b0',b1',mO⟩:=aT t3 t4 t5 u3 u4 u5 oQ hel hbW b0 b1 hb;clear t3 t4 t5 u3 u4 u5 oQ hel hbW b0 b1 hb;go_enter Tryz.func25,Tryz.ntmps25;go_upto_region 1 with fail
 try rw[hW]
 clear hW;by_cases hoo:o=o2
 ·subst hoo;have ho:(o != o)=false:=by simp
  by_cases hnn:sn=rn
  ·subst hnn;have oJ:((sn:Int) != (sn:Int))=false:=by simp
   go_wp2_with fail
   clear c00 c01 c10 c11;go_loopw [5] (fun iv wr=>∃(i:Nat),i≤sn∧iv= .int .i64 i∧Hid (∀j (h:j<ds.length) (h':j<es.length),j<i→ds[j]=es[j])∧Hid (Below W.heap.size W wr)) (fun iv _=>sn - (intOf iv).toNat)
   case atStart=>exact⟨0,by omega,rfl,aA (fun j _ _ h=>by omega),aA (aY _ _)⟩
   case round=>
    obtain⟨i,yJ,rfl,DI,qY⟩:=hrel;have b03:=b0'.o.late qY.o;have b13:=b1'.o.late qY.o;have c01:=b03.cell (i:=1) rfl;obtain⟨aGL,aGM⟩:=aJ b03 b13;clear b03 b13;by_cases hi:i<sn
    ·have I4:(i:Int)<(sn:Int):=by omega
     have sS:IntKind.i64.wrap ((i:Int)+1)=i+1:=by rw[bF];omega
     have hdi:i<V3.length:=by rw[sH.o];exact hi
     have hei:i<ezs.length:=by rw[a97.o];exact hi
     have b68:i<ds.length:=by have:=t4'.o;omega
     have b6A:i<es.length:=by have:=u4'.o;omega
     obtain⟨x,o,hsa,hx,fe⟩:=((t3'.o.mono MH.o).mono qY.o).elem mP aH dzz hi;obtain⟨x2,o2,hra,TU,ge⟩:=((u3'.o.mono MH.o).mono qY.o).elem mP aH dzz hi;have T5b:=t5'.o i hdi b68;have U5b:=u5'.o i hei b6A;rw[jO hdi]at fe;rw[jO hei]at ge;obtain⟨⟨z1,z2,z3⟩,hds⟩:∃q,V3[i]=q:=⟨_,rfl⟩;obtain⟨⟨q1,q2,q3⟩,hes⟩:∃q,ezs[i]=q:=⟨_,rfl⟩;rw[hds]at fe T5b;rw[hes]at ge U5b;have f1:=fe 0 _ rfl;have f2:=fe 1 _ rfl;have f3:=fe 2 _ rfl;have g1:=ge 0 _ rfl;have g2:=ge 1 _ rfl;have g3:=ge 2 _ rfl;simp only[bU]at f1 f2 f3 g1 g2 g3;subst hsa hra;obtain⟨Ty,ff,oJ,jN,jK⟩:=kE wr;have p0:=fun s=>(aGL.o.late (jN s)).cell (i:=1) rfl;have p1:=fun s=>(aGM.o.late (jN s)).cell (i:=1) rfl;have r1:∀s,(ff s).cell? ⟨x,o+i*3,none⟩=some z1:=fun s=>late (jN s) hx f1;have r2:∀s,(ff s).cell? ⟨x,o+i*3+1,none⟩=some z2:=fun s=>late (jN s) hx f2;have r3:∀s,(ff s).cell? ⟨x,o+i*3+2,none⟩=some z3:=fun s=>late (jN s) hx f3;have k1:∀s,(ff s).cell? ⟨x2,o2+i*3,none⟩=some q1:=fun s=>late (jN s) TU g1;have k2:∀s,(ff s).cell? ⟨x2,o2+i*3+1,none⟩=some q2:=fun s=>late (jN s) TU g2;have k3:∀s,(ff s).cell? ⟨x2,o2+i*3+2,none⟩=some q3:=fun s=>late (jN s) TU g3;obtain⟨b',a1T⟩:∃b':Bool,(b'=true↔ds[i]=es[i]):=by classical exact⟨decide (ds[i]=es[i]),by simp⟩
     have HG:=aA (fun s=>aC3 f ds[i] es[i] (z1,z2,z3) (q1,q2,q3) (ff s) (((T5b.mono MH.o).mono qY.o).mono (jN s)) (((U5b.mono MH.o).mono qY.o).mono (jN s)) b' a1T);simp only at HG;have HS:=aA (jK _ ((aY _ _).drew));clear f1 f2 f3 g1 g2 g3 fe ge hx TU;obtain⟨jH,jF,bO1,bO2,bSL,bSM⟩:=aN jN jK T5b U5b hds hes;clear jN jK T5b U5b hds hes;replace a1T:=aA a1T
     cases b' with
     |true=>
      have mQ:Hid (∀j (h:j<ds.length) (h':j<es.length),j<i+1→ds[j]=es[j]):=aA (fun j h h' hj=>by
       by_cases J9:j<i
       ·exact DI.o j h h' J9
       ·obtain rfl:j=i:=by omega
        exact a1T.o.1 rfl)
      go_wp2_with fail
      refine jL ff aF aF HS.o ?_;iterate 12 (go_big_quiet_step ((go_at_call 67;refine(HG.o _).mono ?_;rintro e w3 ⟨rfl,jQ⟩;exact⟨rfl,jF.o _ ((jH.o _).tm jQ)⟩)))
      refine wpQuiet_nil ?_;intro s;have kJ:=jH.o s;have mR:=aA kJ;clear kJ;clear p0 p1 r1 r2 r3 k1 k2 k3;go_wp2_with fail
      go_roundw
      case rel=>exact⟨i+1,by omega,by go_num,mQ,aA (qY.o.tm mR.o)⟩
      case measure=>simp[intOf];omega
     |false=>
      obtain rfl:b=false:=by
       rw[←eZ];intro e;have e2:=(mO.o.1 e).2;subst e2;have:=a1T.o.2 rfl;cases this
      go_wp2_with fail
      refine jL ff aF aF HS.o ?_;iterate 12 (go_big_quiet_step ((go_at_call 67;refine(HG.o _).mono ?_;rintro e w3 ⟨rfl,jQ⟩;exact⟨rfl,jF.o _ ((jH.o _).tm jQ)⟩)))
      refine wpQuiet_nil ?_;intro s;have kJ:=jH.o s;have mR:=aA kJ;clear kJ;clear p0 p1 r1 r2 r3 k1 k2 k3;go_wp2_with fail
      go_ret;exact⟨rfl,MH.o.trans ((qY.o.tm mR.o).mono MH.o.size)⟩
    ·obtain rfl:i=sn:=by omega
     obtain rfl:b=true:=by
      rw[mO.o];exact⟨by simp,fE (by have:=t4'.o;have:=u4'.o;have:=sH.o;have:=a97.o;omega) (fun j h1 h2=>DI.o j h1 h2 (by have:=t4'.o;have:=sH.o;omega))⟩
     go_wp2_with fail
     go_ret;exact⟨rfl,MH.o.tm qY.o⟩
  ·have oJ:((sn:Int) != (rn:Int))=true:=by simp;omega
   obtain rfl:b=false:=by
    rw[←eZ];intro e;have e3:=congrArg List.length (mO.o.1 e).2;have:=t4'.o;have:=u4'.o;have:=sH.o;have:=a97.o;omega
   go_wp2_with fail
   go_ret;exact⟨rfl,MH.o⟩
 ·have ho:(o != o2)=true:=by simpa using hoo
  obtain rfl:b=false:=by
   rw[←eZ];intro e;exact hoo (mO.o.1 e).1
  go_wp2_with fail
  go_ret;exact⟨rfl,MH.o⟩
