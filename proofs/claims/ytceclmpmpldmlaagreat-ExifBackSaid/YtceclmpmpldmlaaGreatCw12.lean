import Derived.Test.YtceclmpmpldmlaaGreatCw11
import Derived.Laws.StructEq
set_option linter.unusedSimpArgs false
set_option linter.unusedVariables false
set_option maxRecDepth 100000
set_option maxHeartbeats 8000000
namespace Go.Proofs.YtceclmpmpldmlaaGreat
open Go.RowKit Tt
theorem aPE (g:Nat) (e:Nat) (y z:Value) (T:TypeId) (long:Int) (w:World) (h:kG w g T #[.int .i64 e,y,z]) (h1:e<4611686018427387) (h2:0≤long) (h3:long<4611686018427387):
  Calls Tryz.prog 103 #[.pointer (some ⟨g,0,none⟩),.int .i64 long] w fun x w'=>x= .returned (.int .i64 (qQ e))∧kG w' g T #[.int .i64 (qQ e+long),y,z]∧But g w w':=by
 have hV:=fun W=>aTL e W aG;have hev:=BN (n:=e) aG;have c0:=h.cell (i:=0) rfl;have f0:=h.frozen 0;generalize qQ e=q at*;have hw:=aB (q+long) aG;obtain⟨h',hV'⟩:=aJ h hV;clear h hV;go_enter Tryz.func103,Tryz.ntmps103;go_wp2_with fail
 refine(hV'.o _).mono ?_;rintro e w2 ⟨rfl,rfl⟩;go_wp2_with fail
 go_ret;exact⟨rfl,h'.o.set 0 _,(But.refl g w).set 0 _⟩
structure Pln (g:Nat) (w:World) (no:Int) (v:Value) (l:List mZ):Prop where
 blk:kG w g 98 #[.int .i64 (nI l),.int .i64 no,v]
 o5:Spr (g+1) w v l
theorem Pln.later {g:Nat} {w w':World} {no:Int} {v:Value} {l:List mZ} (h:Pln g w no v l) (hb:Below w.heap.size w w'):Pln g w' no v l:=⟨h.blk.late hb,l6 h.o5 hb⟩
theorem X5 (g:Nat) (no:Int) (v:Value) (l:List mZ) (x0 x1 x2 x4:Int) (w:World) (h:Pln g w no v l) (h0:0≤nI l) (h1:nI l<4611686018427387) (h2:0≤x4) (h3:x4<4611686018427387) (hl:l.length<1000000):
  Calls Tryz.prog 45 #[.pointer (some ⟨g,0,none⟩),.int .i64 x0,.int .i64 x1,.int .i64 x2,.int .i64 x4] w fun e w'=>∃v',e= .returned (.tuple #[])∧Pln g w' no v' (oH l x0 x1 x2 x4)∧Mv g g v v' w w':=by
 obtain⟨i0,z0,AY,hz,qC,wY,ZA⟩:=a2R bUR bUS;obtain⟨rE,hsp⟩:=h;have pQ:v.ownBlock≠some g:=own_ne hsp aG;have JJ:=rE.lt;obtain⟨a,c,rfl⟩:=a9E hsp;obtain⟨e,he⟩:=Int.eq_ofNat_of_zero_le h0;have hea:=PK l x0 x1 x2 x4;have hT:=fun W (h:kG W g 98 #[.int .i64 (nI l),.int .i64 no,.slice a l.length c])=>aPE g e (.int .i64 no) (.slice a l.length c) 98 x4 W (by rw[he]at h;exact h) aG h2 h3;suffices hgoal:Calls Tryz.prog 45 #[.pointer (some ⟨g,0,none⟩),.int .i64 x0,.int .i64 x1,.int .i64 x2,.int .i64 x4] w fun e w'=>∃v',e= .returned (.tuple #[])∧kG w' g 98 #[.int .i64 (nI (oH l x0 x1 x2 x4)),.int .i64 no,v']∧w'.ownsRow (g+1) 50 5 v' (oH l x0 x1 x2 x4).length (fl spC (oH l x0 x1 x2 x4))∧Mv g g (.slice a l.length c) v' w w' by
  refine hgoal.mono ?_;rintro e w' ⟨v',q1,q2,q3,q4⟩;exact⟨v',q1,⟨q2,q3⟩,q4⟩
 rw[hea];unfold Spr at hsp;unfold oH;rw[yM,cO];simp only[dO,iC,eU];rw[←he]at hT;have hr:((e:Nat):Int)=nI l:=he.symm;clear hea h0 h1 he;generalize nI l=p at*;subst hr;generalize qQ e=q at*;have c2:=rE.cell (i:=2) rfl;obtain⟨Ty,f,c77,aOJ,kE⟩:=aDD ⟨g,2,none⟩ _ w c2;obtain⟨HS,HD,RL,b31,YZ,jV,hT',c2'⟩:=aP (kE _ (show w.drew.cell? _=_ from c2)) ((bF w.heap.size w).drew) rE hsp pQ kE hT c2;clear rE hsp pQ kE hT c2;go_enter Tryz.func45,Tryz.ntmps45;go_wp2_with fail
 refine a3R ?_;refine xX (t:=19) (C:=fun W=>∃s,W=f s) aF 20 rfl ?_;refine pR [0,1,2,3,4,5,6,7,8,9,10,11,13] 7 aF xO aF aF aF HS.o ?_;simp only[jW,aW,aX,aU,aV];iterate 13 (go_big_quiet_step (fail))
 refine wpQuiet_nil ?_;refine mJ 12 6 aF aF ?_;simp only[jW,aW,aX,aU,aV];go_wp2_with fail
 refine(hT'.o _ (RL.o.late HD.o)).mono ?_;rintro e1 w1 ⟨rfl,kV,b77⟩;have xY:=(But.of_below (b:=g) HD.o).trans b77;have bTI:=mV b31.o xY YZ.o;have d2:=kV.cell (i:=2) rfl;have HS:=aA (jV.o _ d2);have hg1:=kV.lt;clear b77 d2;obtain⟨lZ,aMU,bK0⟩:=aK kV xY bTI;clear kV xY bTI;go_wp2_with fail
 refine Mid.mk ⟨fun _=>HS.o,?_⟩;refine pR [14] 5 aF xO aF aF aF HS.o ?_;simp only[jW,aW,aX,aU,aV];iterate 1 (go_big_quiet_step (fail))
 refine wpQuiet_nil ?_;refine mJ 15 4 aF aF ?_;simp only[jW,aW,aX,aU,aV];go_wp2_with fail
 have kU:=aD w1 (.cells #[.int .i64 x0,.int .i64 x1,.int .i64 x2,.int .i64 q,.int .i64 x4] 50);have C8:Sl (w1.alloc (.cells #[.int .i64 x0,.int .i64 x1,.int .i64 x2,.int .i64 q,.int .i64 x4] 50)) (some ⟨w1.heap.size,0,none⟩) 1 1 5 (spC (x0,x1,x2,q,x4)):=Sl.new w1 50 5 1 #[.int .i64 x0,.int .i64 x1,.int .i64 x2,.int .i64 q,.int .i64 x4] (0,0) aG rfl;have kP:=lZ.o.late kU;have bTJ:=l6 bK0.o kU;have d2:=kP.cell (i:=2) rfl;have HS:=aA (jV.o _ d2);clear d2;have aTM:Mv g g (.slice a l.length c) (.slice a l.length c) w (w1.alloc (.cells #[.int .i64 x0,.int .i64 x1,.int .i64 x2,.int .i64 q,.int .i64 x4] 50)):=(Mv.E5 aMU.o (.inl rfl)).trans (Mv.of_below kU);have hB2:g+1≤(w1.alloc (.cells #[.int .i64 x0,.int .i64 x1,.int .i64 x2,.int .i64 q,.int .i64 x4] 50)).heap.size:=by simp;omega
 obtain⟨qR,NP,pG,bK1,aEA⟩:=aM kU C8 kP bTJ aTM;clear kU C8 kP bTJ aTM;refine Mid.mk ⟨fun _=>HS.o,?_⟩;refine mJ 16 3 aF aF ?_;simp only[jW,aW,aX,aU,aV];go_wp2_with (at_builtin;refine mU rfl _ _ 43 rfl (g+1) 50 i0 z0 5 40 Tryz.underlying43 AY hz qC wY ZA aH (.slice a l.length c) l.length _ rfl bK1.o ⟨w1.heap.size,0,none⟩ 1 1 (spC (x0,x1,x2,q,x4)) rfl NP.o (aMT _) aG aH hB2 ?_;intro a8 c8 w8 ob hg8 zC;obtain⟨Ob,Hg8,Ho8⟩:=aK ob hg8 zC;clear ob hg8 zC)
 have rW:=pG.o.grown Hg8.o YZ.o;have yA:=aEA.o.trans (Mv.WY Hg8.o Ho8.o);have d2:=rW.cell (i:=2) rfl;have HS:=aA (jV.o _ d2);have f2:=rW.frozen 2;obtain⟨ZU,zD⟩:=aJ rW yA;clear rW yA;refine Mid.mk ⟨fun _=>HS.o,?_⟩;refine DX [17,18] 1 aF xO aF aF aF HS.o ?_;simp only[jW,aW,aX,aU,aV];iterate 2 (go_big_quiet_step (fail))
 refine wpQuiet_nil ?_;refine mJ 19 0 aF aF ?_;simp only[jW,aW,aX,aU,aV];go_wp2_with fail
 have vP:=ZU.o.set 2 (.slice a8 (l.length+1) c8);have TK:=lW Ob.o (show g<g+1 by omega) 2 (.slice a8 (l.length+1) c8);have aEB:=zD.o.trans (Mv.E5 (g:=g) (gt:=g) (sv:= .slice a8 (l.length+1) c8) ((But.refl g w8).set 2 (.slice a8 (l.length+1) c8)) (.inl rfl));obtain⟨qB,bK2,aEC⟩:=aK vP TK aEB;clear vP TK aEB;first|refine Mid.mk ?_|skip
 first|refine⟨fun h=>(jF h.symm).elim,?_⟩|skip
 refine zY aF ?_;refine II ?_;go_wp2_with fail
 refine bodyPost_end (results_none rfl _ _ _) rfl ?_;exact⟨_,rfl,qB.o,bK2.o,aEC.o⟩
theorem bCD (a a':Option Addr) (n n' c c':Nat) (x y:List Int) (w:World) (hx:Sl w a n c 1 (ints .u8 x)) (hy:Sl w a' n' c' 1 (ints .u8 y)):
  Calls Tryz.prog 26 #[.slice a n c,.slice a' n' c'] w fun e w'=>e= .returned (.bool (x==y))∧Qt w w':=by
 have hxl:x.length=n:=hx.p9;have hyl:y.length=n':=hy.p9;have hn:=hx.le;have hm:=hx.max;have hn':=hy.le;have hm':=hy.max;by_cases pQ:n=n'
 ·subst pQ;obtain⟨Hx,Hy⟩:=aJ hxl hyl;have pQ:((n:Int) != (n:Int))=false:=by simp
  clear hxl hyl;go_enter Tryz.func26,Tryz.ntmps26;go_wp2;go_loopw [4,5] (fun r i wr=>∃k:Nat,k≤n∧i= .int .i64 k∧(x.take k=y.take k)∧r= .bool false∧Qt w wr) (fun _ i _=>n - (intOf i).toNat)
  case atStart=>exact⟨0,jU _,rfl,rfl,rfl,Qt.refl _⟩
  case round=>
   obtain⟨k,hk,rfl,NV,rfl,hq⟩:=hrel;by_cases kY:k<n
   ·obtain⟨b,o,rfl,OM,cx⟩:=(hx.qt hq).at kY;obtain⟨b',o',rfl,qL,cy⟩:=(hy.qt hq).at kY;have c1:=cx k _ (qN (by rw[Hx.o];exact kY));have c2:=cy k _ (qN (by rw[Hy.o];exact kY));clear cx cy;have Htk:=aA NV;clear NV;by_cases he:x.getD k 0=y.getD k 0
    ·have hb:(x.getD k 0 != y.getD k 0)=false:=by rw[he];simp
     have He:=aA he;clear he;generalize hu:x.getD k 0=u at*;generalize hv:y.getD k 0=v at*;obtain⟨Hu,Hv⟩:=aJ hu hv;clear hu hv;go_wp2;go_quiet (fail)
     go_wp2;go_roundw
     case rel=>exact⟨k+1,by omega,by go_num,aAH Hx.o Hy.o kY Htk.o (Hu.o.trans (He.o.trans Hv.o.symm)),rfl,hq.step _⟩
     case measure=>simp[intOf];omega
    ·have hb:(x.getD k 0 != y.getD k 0)=true:=by simpa using he
     have He:=aA he;clear he;generalize hu:x.getD k 0=u at*;generalize hv:y.getD k 0=v at*;obtain⟨Hu,Hv⟩:=aJ hu hv;clear hu hv;go_wp2;go_quiet (fail)
     go_wp2;go_ret;exact⟨EP (aS8 (fun h=>He.o (Hu.o.symm.trans (h.trans Hv.o)))).symm,hq.step _⟩
   ·have Htk:=aA NV;clear NV;go_wp2;go_ret;exact⟨EP (aII Hx.o Hy.o aG Htk.o).symm,hq⟩
 ·have pQ:((n:Int) != (n':Int))=true:=by simp;omega
  have e:(x==y)=false:=by rw[beq_eq_false_iff_ne];rintro rfl;omega
  go_enter Tryz.func26,Tryz.ntmps26;go_wp2;go_ret;exact⟨EP e.symm,Qt.refl _⟩
theorem aJ2 {α:Type} {d:α} {x y:List α} {k n:Nat} (hx:x.length=n) (hy:y.length=n) (hk:k<n) (h:x.take k=y.take k) (he:x.getD k d=y.getD k d):x.take (k+1)=y.take (k+1):=by
 rw[dR,dR,h];congr 1
 simp only[aZ]at he;rw[bH aG,bH aG]at he ⊢;simpa using he
theorem aPF {α:Type} [BEq α] [LawfulBEq α] {d:α} {x y:List α} {k:Nat} (he:¬x.getD k d=y.getD k d):(x==y)=false:=by
 rw[beq_eq_false_iff_ne];rintro rfl;exact he rfl
theorem aED {α:Type} [BEq α] [LawfulBEq α] {x y:List α} {k n:Nat} (hx:x.length=n) (hy:y.length=n) (hk:n≤k) (h:x.take k=y.take k):(x==y)=true:=by
 rw[bW aG,bW aG]at h;simp[h]
attribute [-go_sem] run_neq_struct
end Go.Proofs.YtceclmpmpldmlaaGreat
namespace Go.Proofs.YtceclmpmpldmlaaGreat
open Go.RowKit Tt
structure Tgr (w:World) (a:Option Addr) (n c:Nat) (zs:List Tz):Prop where
 row:Sl w a n c 4 (fl tzc zs)
 each:∀z∈zs,Sl w z.1.2.2.2.1 z.1.2.2.2.2.1 z.1.2.2.2.2.2 1 (ints .u8 z.2)
theorem Tgr.mono {w w':World} {a:Option Addr} {n c:Nat} {zs:List Tz} (h:Tgr w a n c zs) (hb:Below w.heap.size w w'):Tgr w' a n c zs:=⟨h.row.mono hb,fun z hz=>(h.each z hz).mono hb⟩
theorem Tgr.len {w:World} {a:Option Addr} {n c:Nat} {zs:List Tz} (h:Tgr w a n c zs):zs.length=n:=h.row.xZ aMS aH
theorem Tgr.at {w:World} {a:Option Addr} {n c:Nat} {zs:List Tz} (h:Tgr w a n c zs) {k:Nat} (hk:k<n):
  ∃b o,a=some ⟨b,o,none⟩∧b<w.heap.size∧w.cell? ⟨b,o+k*4,none⟩=some (.int .i64 (zs.getD k JL).1.1)∧w.cell? ⟨b,o+k*4+1,none⟩=some (.int .i64 (zs.getD k JL).1.2.1)∧w.cell? ⟨b,o+k*4+2,none⟩=some (.int .i64 (zs.getD k JL).1.2.2.1)∧
   w.cell? ⟨b,o+k*4+3,none⟩=some (.slice (zs.getD k JL).1.2.2.2.1 (zs.getD k JL).1.2.2.2.2.1 (zs.getD k JL).1.2.2.2.2.2)∧Sl w (zs.getD k JL).1.2.2.2.1 (zs.getD k JL).1.2.2.2.2.1 (zs.getD k JL).1.2.2.2.2.2 1 (ints .u8 (zs.getD k JL).2):=by
 obtain⟨b,o,rfl,hb,fe⟩:=h.row.elem aMS aH JL hk;have f0:=fe 0 _ rfl;refine⟨b,o,rfl,hb,by simpa using f0,fe 1 _ rfl,fe 2 _ rfl,fe 3 _ rfl,h.each _ ?_⟩;rw[kF (by rw[h.len];exact hk)];exact bP _
theorem a4H {α β:Type} (f:α→β) (l:List α) (d:α) (i:Nat):(l.map f).getD i (f d)=f (l.getD i d):=by
 simp only[aZ,jK];cases l[i]? <;> rfl
def FN (w:World):(f:Nat)→jY f→Dz→Prop
 |0,_,_=>False
 |f+1,d,v=>∃(ta:Option Addr) (tn tc:Nat) (zs:List Tz) (sa:Option Addr) (sn sc:Nat) (ds:List (Int×Dz)) (ba:Option Addr) (bn bc:Nat),v=(.slice ta tn tc,.slice sa sn sc,.slice ba bn bc)∧Tgr w ta tn tc zs∧d.1=zs.map nO∧
   Sl w sa sn sc 4 (fl sbC ds)∧ds.length=d.2.1.length∧(∀i (h:i<ds.length) (h':i<d.2.1.length),ds[i].1=d.2.1[i].1∧FN w f d.2.1[i].2 ds[i].2)∧Sl w ba bn bc 1 (ints .u8 d.2.2)
theorem FN.mono {w w':World} (hb:Below w.heap.size w w'):∀{f:Nat} {d:jY f} {v:Dz},FN w f d v→FN w' f d v
 |0,_,_,h=>h.elim
 |f+1,d,v,h=>by
  obtain⟨ta,tn,tc,zs,sa,sn,sc,ds,ba,bn,bc,h1,h2,h3,h4,h5,h6,h7⟩:=h;exact⟨ta,tn,tc,zs,sa,sn,sc,ds,ba,bn,bc,h1,h2.mono hb,h3,h4.mono hb,h5,fun i hi vN=>⟨(h6 i hi vN).1,(h6 i hi vN).2.mono hb⟩,h7.mono hb⟩
theorem Ck.v {X:Nat→Prop} {B:Nat} {w:World} {v:Value} {E:TypeId} {sz n:Nat} {xs:List Value} (h:Ck X B w v E sz n xs):∃a c,v= .slice a n c:=by
 rcases h.1.2 with ⟨rfl,h0⟩|⟨g,cap,cur,rfl,_⟩
 ·exact⟨none,0,by rw[h0]⟩
 ·exact⟨_,_,rfl⟩
theorem nX.rd {X:Nat→Prop} {B:Nat} {w:World}:∀{f:Nat} {d:jY f} {v:Dz},nX X B w f d v→FN w f d v
 |0,_,_,h=>h.elim
 |f+1,d,(v1,v2,v3),h=>by
  obtain⟨h0,⟨zs,h1,h2,h3⟩,⟨ds,h4,h5,h6⟩,h7⟩:=h;obtain⟨ta,tc,rfl⟩:=Ck.v h2;obtain⟨sa,sc,rfl⟩:=Ck.v h5;obtain⟨ba,bc,rfl⟩:=Ck.v h7;exact⟨ta,_,tc,zs,sa,_,sc,ds,ba,_,bc,rfl,⟨h2.sl,fun z hz=>(h3 z hz).sl⟩,h1,h5.sl,h4,fun i hi vN=>⟨(h6 i hi vN).1,(h6 i hi vN).2.rd⟩,h7.sl⟩
def JX (f:Nat) (w:World) (a:Option Addr) (n c:Nat) (ds:List (jY f)):Prop:=
 ∃wU:List Dz,wU.length=ds.length∧Sl w a n c 3 (fl dvC wU)∧∀i (h:i<wU.length) (h':i<ds.length),FN w f ds[i] wU[i]
theorem JX.mono {f:Nat} {w w':World} {a:Option Addr} {n c:Nat} {ds:List (jY f)} (h:JX f w a n c ds) (hb:Below w.heap.size w w'):JX f w' a n c ds:=by
 obtain⟨wU,h1,h2,h3⟩:=h;exact⟨wU,h1,h2.mono hb,fun i hi vN=>(h3 i hi vN).mono hb⟩
abbrev dzz:Dz:=(.slice none 0 0,.slice none 0 0,.slice none 0 0)
theorem aMV (ty cnt:Int):0≤rT ty cnt∧rT ty cnt≤524288:=by
 unfold rT;have:=WR ty cnt;split <;> omega
theorem a2S (l:List mZ) (a b c e:Int) (h:0≤nI l) (he:0≤e):0≤nI (oH l a b c e)∧nI (oH l a b c e)≤nI l+e+1:=by
 rw[PK];have:=BN h;omega
theorem aJ3 (no:Int) (ts:List oZ) (x:oZ) (l:List mZ):nK no (ts++ [x]) l=if 0<rT x.2.1 x.2.2.1 then oH (nK no ts l) 3 no x.1 (rT x.2.1 x.2.2.1)else nK no ts l:=by
 unfold nK;rw[fT];rfl
def aEE (no:Int) (x:oZ) (l:List mZ):List mZ:=if 0<rT x.2.1 x.2.2.1 then oH l 3 no x.1 (rT x.2.1 x.2.2.1)else l
theorem aPG {no y t k s:Int} {d:List Int} {l:List mZ} (hs:rT t k=s) (h:0<s):aEE no (y,t,k,d) l=oH l 3 no y s:=by unfold aEE;simp only[hs];rw[if_pos h]
theorem aPH {no y t k s:Int} {d:List Int} {l:List mZ} (hs:rT t k=s) (h:¬0<s):aEE no (y,t,k,d) l=l:=by unfold aEE;simp only[hs];rw[if_neg h]
theorem aJ4 (no:Int) (l:List mZ) {zs:List Tz} {i:Nat} (hi:i<zs.length):nK no ((zs.map nO).take (i+1)) l=aEE no (nO (zs.getD i JL)) (nK no ((zs.map nO).take i) l):=by
 rw[dR,bH (by rw[dF];exact hi),fK,aJ3,fI,←kF hi JL];rfl
theorem PN (no:Int):∀(ts:List oZ) (l:List mZ),0≤nI l→0≤nI (nK no ts l)∧nI (nK no ts l)≤nI l+ts.length*524289∧(nK no ts l).length≤l.length+ts.length
 | [],l,h=>⟨h,by simp[nK],by simp[nK]⟩
 |x::ts,l,h=>by
  have ho:=aMV x.2.1 x.2.2.1;have e:nK no (x::ts) l=nK no ts (if 0<rT x.2.1 x.2.2.1 then oH l 3 no x.1 (rT x.2.1 x.2.2.1)else l):=rfl;rw[e];split
  ·have h1:=a2S l 3 no x.1 _ h ho.1;have h2:=PN no ts _ h1.1;rw[F5]at h2;simp only[dO];omega
  ·have h2:=PN no ts l h;simp only[dO];omega
theorem aPI (g:Nat) (dir no:Int) (v:Value) (l:List mZ) (ta sa ba:Option Addr) (tn tc sn sc bn bc:Nat) (zs:List Tz) (w0 w:World) (ht:Tgr w0 ta tn tc zs) (AX:Below w0.heap.size w0 w) (hg0:w0.heap.size≤g)
  (h:Pln g w no v l) (h0:0≤nI l) (h1:nI l<1000000000000) (hl:l.length<600000) (hn:tn<1000):
  Calls Tryz.prog 104 #[.pointer (some ⟨g,0,none⟩),.agg #[.slice ta tn tc,.slice sa sn sc,.slice ba bn bc],.int .i64 dir,.func (.func 45) #[.pointer (some ⟨g,0,none⟩)] #[]] w fun e w'=>∃v',e= .returned (.tuple #[])∧Pln g w' no v' (nK dir (zs.map nO) l)∧Mv g g v v' w w':=by
 have vO:=ht.len;have kV:=aD w (.cells #[.slice ta tn tc,.slice sa sn sc,.slice ba bn bc] 26);have mK:∀k,v.ownBlock=some k→w0.heap.size≤k:=fun k e=>by have:=(h.o5.lt k e).1;omega
 have JJ:=h.blk.lt;have hLB:∀i,i≤tn→0≤nI (nK dir ((zs.map nO).take i) l)∧nI (nK dir ((zs.map nO).take i) l)<4611686018427387∧(nK dir ((zs.map nO).take i) l).length<1000000:=fun i hi=>by
  have:=PN dir ((zs.map nO).take i) l h0;have xM:((zs.map nO).take i).length≤i:=by simp;omega
  omega
 obtain⟨KS,r9,h',oC,lZ,xQ,bUT⟩:=aO ht AX h vO kV mK hLB;clear ht AX h vO kV mK hLB;go_enter Tryz.func104,Tryz.ntmps104;go_wp2_with fail
 go_loopw [14] (fun iv wr=>∃(i:Nat) (v':Value),i≤tn∧iv= .int .i64 i∧Hid (Pln g wr no v' (nK dir ((zs.map nO).take i) l))∧Hid (Mv g g v v' w wr)) (fun iv _=>tn - (intOf iv).toNat)
 case atStart=>exact⟨0,v,by omega,rfl,aA (by simpa [nK] using h'.o.later lZ.o),aA (Mv.of_below lZ.o)⟩
 case round=>
  obtain⟨i,v',CY,rfl,hp,hm⟩:=hrel;by_cases hi:i<tn
  ·have hil:(i:Int)<(tn:Int):=by omega
   have xR:IntKind.i64.wrap ((i:Int)+1)=i+1:=by rw[bJ];omega
   have nR:=r9.o.trans (hm.o.below aG aG xQ.o r9.o.size);obtain⟨b,o,rfl,xL,f0,f1,f2,f3,DT⟩:=(KS.o.mono nR).at hi;have KE:=aJ4 dir l (show i<zs.length by rw[oC.o];exact hi);obtain⟨⟨⟨y,t,k,xa,xn,xc⟩,d⟩,hzi⟩:∃z,zs.getD i JL=z:=⟨_,rfl⟩;rw[hzi]at f0 f1 f2 f3 DT KE;simp only[nO]at f0 f1 f2 f3 KE;have hO:=fun W=>aMO t k W;have hol:=aMV t k;obtain⟨s,hs⟩:=aC (rT t k);rw[hs]at hO hol;have hL0:=bUT.o i CY;obtain⟨L,hL⟩:=aC (nK dir ((zs.map nO).take i) l);rw[hL]at hp KE hL0;have kU:=aD wr (.cells #[.int .i64 y,.int .i64 t,.int .i64 k,.slice xa xn xc] 74);have bk:=kG.new wr 74 #[.int .i64 y,.int .i64 t,.int .i64 k,.slice xa xn xc];obtain⟨aB9,a3N,b33,hO',sK,hL',a8B,qR,bk'⟩:=aQ nR DT hzi hO hs hL KE kU bk;clear nR DT hzi hO hs hL KE kU bk;go_wp2_with fail
   refine(hO'.o _).mono ?_;rintro e w2 ⟨rfl,kP⟩;have bk2:=bk'.o.late kP;have JM:=qR.o.tm kP;have c0:=bk2.cell (i:=0) rfl;clear f0 f1 f2 f3;obtain⟨pG,ZV,U1⟩:=aK kP bk2 JM;clear kP bk2 JM;by_cases KD:0<s
   ·have b22:=a8B.o.trans (aPG sK.o KD);have hP:=X5 g no v' L 3 dir y s w2 (hp.o.later U1.o) hL0.1 hL0.2.1 hol.1 aG hL0.2.2;rw[←b22]at hP;clear b22;have hP':=aA hP;clear hP;go_wp2_with fail
    refine hP'.o.mono ?_;rintro e w3 ⟨v2,rfl,hp3,RU⟩;have TJ:=(hm.o.later U1.o).trans RU;clear RU c0;obtain⟨a4I,a8D⟩:=aJ hp3 TJ;clear hp3 TJ;go_wp2_with fail
    go_roundw
    case rel=>exact⟨i+1,v2,by omega,by go_num,a4I,a8D⟩
    case measure=>simp[intOf];omega
   ·have b22:=a8B.o.trans (aPH sK.o KD);have hd:decide (0<s)=false:=by simp;omega
    have hp3:Pln g w2 no v' (nK dir ((zs.map nO).take (i+1)) l):=by rw[b22];exact hp.o.later U1.o
    have TJ:=hm.o.later U1.o;clear c0 b22;obtain⟨a4I,a8D⟩:=aJ hp3 TJ;clear hp3 TJ;go_wp2_with fail
    go_roundw
    case rel=>exact⟨i+1,v',by omega,by go_num,a4I,a8D⟩
    case measure=>simp[intOf];omega
  ·obtain rfl:i=tn:=by omega
   have KF:(zs.map nO).take i=zs.map nO:=bW (by rw[dF,oC.o];omega);rw[KF]at hp;go_wp2_with fail
   refine bodyPost_end (results_none rfl _ _ _) rfl ?_;exact⟨v',rfl,hp.o,hm.o⟩
end Go.Proofs.YtceclmpmpldmlaaGreat
namespace Tt
open Go Go.RowKit
theorem kG.mv {g gt:Nat} {v v':Value} {w w':World} {k:Nat} {T:TypeId} {cs:Array Value} (h:kG w k T cs) (hm:Mv g gt v v' w w') (h1:k≠g) (h2:k≠gt) (h3:v.ownBlock≠some k):kG w' k T cs:=(hm.block k h.lt h1 h2 h3).trans h
end Tt
namespace Go.Proofs.YtceclmpmpldmlaaGreat
open Go.RowKit Tt
def mD (f:Nat) (ss:List (Int×jY f)):List Flt:=ss.flatMap fun s=>lD f s.2
def l9 (f:Nat) (ss:List (Int×jY f)) (r:List mZ×Int):List mZ×Int:=ss.foldl (fun(r:List mZ×Int) s=>(yX f s.2 r.2 r.1,r.2+(lD f s.2).length)) r
theorem L8 (f:Nat) (d:jY (f+1)) (no:Int) (l:List mZ):yX (f+1) d no l=
  if 0<d.2.2.length then oH (l9 f d.2.1 (nK no d.1 (oH l 2 no 0 (6+12*(pU d.1.length d.2.1.length d.2.2.length:Nat))),no+1)).1 4 no 0 (d.2.2.length:Nat)
  else(l9 f d.2.1 (nK no d.1 (oH l 2 no 0 (6+12*(pU d.1.length d.2.1.length d.2.2.length:Nat))),no+1)).1:=rfl
def mY:(f:Nat)→jY f→Prop
 |0,_=>True
 |f+1,d=>d.1.length≤500∧d.2.2.length≤1000000∧d.2.1.length≤500∧∀s∈d.2.1,mY f s.2
theorem JY {t s b:Nat} (ht:t≤500) (hs:s≤500):pU t s b≤1002:=by unfold pU;split <;> omega
theorem yN (f:Nat) (s:Int×jY f) (ss:List (Int×jY f)) (r:List mZ×Int):l9 f (s::ss) r=l9 f ss (yX f s.2 r.2 r.1,r.2+(lD f s.2).length):=rfl
theorem aBA (f:Nat) (s:Int×jY f) (ss:List (Int×jY f)) (r:List mZ×Int):l9 f (ss++ [s]) r=(yX f s.2 (l9 f ss r).2 (l9 f ss r).1,(l9 f ss r).2+(lD f s.2).length):=by
 unfold l9;rw[fT];rfl
theorem zT (f:Nat) (ih:∀(d:jY f) (no:Int) (l:List mZ),mY f d→0≤nI l→0≤nI (yX f d no l)∧nI (yX f d no l)≤nI l+(lD f d).length*270000000∧(yX f d no l).length≤l.length+(lD f d).length*502):
  ∀(ss:List (Int×jY f)) (r:List mZ×Int),(∀s∈ss,mY f s.2)→0≤nI r.1→0≤nI (l9 f ss r).1∧nI (l9 f ss r).1≤nI r.1+(mD f ss).length*270000000∧(l9 f ss r).1.length≤r.1.length+(mD f ss).length*502∧(l9 f ss r).2=r.2+(mD f ss).length
 | [],r,_,h=>⟨h,by simp[l9,mD],by simp[l9,mD],by simp[l9,mD]⟩
 |s::ss,r,hs,h=>by
  have h1:=ih s.2 r.2 r.1 (hs s (bQ ..)) h;have h2:=zT f ih ss (yX f s.2 r.2 r.1,r.2+(lD f s.2).length) (fun x hx=>hs x (bL _ hx)) h1.1;rw[yN];have e:(mD f (s::ss)).length=(lD f s.2).length+(mD f ss).length:=by simp[mD]
  rw[e];simp only at h2;omega
theorem X6:∀(f:Nat) (d:jY f) (no:Int) (l:List mZ),mY f d→0≤nI l→0≤nI (yX f d no l)∧nI (yX f d no l)≤nI l+(lD f d).length*270000000∧(yX f d no l).length≤l.length+(lD f d).length*502:=by
 intro f;induction f with
 |zero=>intro d no l _ h;exact⟨h,by simp[yX,lD],by simp[yX,lD]⟩
 |succ f ih=>
  intro d no l hs h;obtain⟨h1,h2,h3,h4⟩:=hs;have he:=JY (b:=d.2.2.length) h1 h3;have a1:=a2S l 2 no 0 (6+12*(pU d.1.length d.2.1.length d.2.2.length:Nat)) h aG;have b1:=PN no d.1 _ a1.1;have c1:=zT f ih d.2.1 (nK no d.1 (oH l 2 no 0 (6+12*(pU d.1.length d.2.1.length d.2.2.length:Nat))),no+1) h4 b1.1;have e1:=a2S (l9 f d.2.1 (nK no d.1 (oH l 2 no 0 (6+12*(pU d.1.length d.2.1.length d.2.2.length:Nat))),no+1)).1 4 no 0 (d.2.2.length:Nat) c1.1 aG;have e:(lD (f+1) d).length=(mD f d.2.1).length+1:=by rw[pK];rfl
  rw[L8,e];rw[F5]at b1;simp only at c1;split
  ·rw[F5];omega
  ·omega
theorem xA (f:Nat) (ss:List (Int×jY f)) (i:Nat):(mD f (ss.take i)).length≤(mD f ss).length:=by
 conv=>rhs;rw[←fA i ss]
 unfold mD;rw[dQ,cO];omega
theorem MP (f:Nat) (ss:List (Int×jY f)) {i:Nat} (hi:i<ss.length):(mD f (ss.take (i+1))).length=(mD f (ss.take i)).length+(lD f ss[i].2).length:=by
 rw[dR,bH hi,fK];unfold mD;rw[dQ,cO];simp
theorem GQ (f:Nat) (ss:List (Int×jY f)) (r:List mZ×Int) {i:Nat} (hi:i<ss.length):l9 f (ss.take (i+1)) r=(yX f ss[i].2 (l9 f (ss.take i) r).2 (l9 f (ss.take i) r).1,(l9 f (ss.take i) r).2+(lD f ss[i].2).length):=by
 rw[dR,bH hi,fK,aBA]
theorem FN.v {w:World}:∀{f:Nat} {d:jY f} {v:Dz},FN w f d v→∃(ta:Option Addr) (tn tc:Nat) (sa:Option Addr) (sn sc:Nat) (ba:Option Addr) (bn bc:Nat),v=(.slice ta tn tc,.slice sa sn sc,.slice ba bn bc)
 |0,_,_,h=>h.elim
 |f+1,d,v,h=>by
  obtain⟨ta,tn,tc,zs,sa,sn,sc,ds,ba,bn,bc,h1,_⟩:=h;exact⟨ta,tn,tc,sa,sn,sc,ba,bn,bc,h1⟩
def bCE (f:Nat):Prop:=∀(g:Nat) (no:Int) (v:Value) (l:List mZ) (w0 w:World) (d:jY f) (dv:Dz),FN w0 f d dv→Below w0.heap.size w0 w→w0.heap.size≤g→Pln g w no v l→mY f d→
  0≤no→no+(lD f d).length<1000000→0≤nI l→nI l+(lD f d).length*270000000<1000000000000→l.length+(lD f d).length*502<600000→
  Calls Tryz.prog 46 #[.pointer (some ⟨g,0,none⟩),.agg #[dv.1,dv.2.1,dv.2.2]] w fun e w'=>∃v',e= .returned (.tuple #[])∧Pln g w' (no+(lD f d).length) v' (yX f d no l)∧Mv g g v v' w w'
theorem aPJ (f:Nat) (ih:bCE f):bCE (f+1):=by
 intro g no v l w0 w d dv hd AX hg0 hp hs sJ bK3 he0 he1 hl;obtain⟨ta,tn,tc,zs,sa,sn,sc,ds,ba,bn,bc,rfl,htg,hdt,qU,wG,vV,D9⟩:=hd;obtain⟨h1,h2,h3,h4⟩:=hs;have e:(lD (f+1) d).length=(mD f d.2.1).length+1:=by rw[pK];rfl
 have FI:=L8 f d no l;rw[e]at bK3 he1 hl;rw[e];have htn:d.1.length=tn:=by rw[hdt,dF];exact htg.len
 have UG:d.2.1.length=sn:=by rw[←wG];exact qU.xZ qV aH
 have hbn:d.2.2.length=bn:=D9.p9;have bK4:tn≤500:=by omega
 have bK5:sn≤500:=by omega
 have bCF:bn≤1000000:=by omega
 have b36:=JY (b:=d.2.2.length) h1 h3;have a1:=a2S l 2 no 0 (6+12*(pU d.1.length d.2.1.length d.2.2.length:Nat)) he0 aG;have b1:=PN no d.1 _ a1.1;rw[F5]at b1;have hE:=fun W=>X0 ta sa ba tn tc sn sc bn bc W aG aG;rw[htn,UG,hbn]at FI b36 a1 b1;generalize pU tn sn bn=m at*;have xR:IntKind.i64.wrap (12*(m:Int))=12*m:=by rw[bJ];omega
 have hw2:IntKind.i64.wrap (2+12*(m:Int))=2+12*m:=by rw[bJ];omega
 have xE:IntKind.i64.wrap (2+12*(m:Int)+4)=6+12*m:=by rw[bJ];omega
 have hw4:=aB (no+1) aG;have kV:=aD w (.cells #[.slice ta tn tc,.slice sa sn sc,.slice ba bn bc] 26);have bk:=kG.new w 26 #[.slice ta tn tc,.slice sa sn sc,.slice ba bn bc];have hp1:=hp.later kV;have c1:=hp1.blk.cell (i:=1) rfl;have f1:=hp1.blk.frozen 1;have mK:∀k,v.ownBlock=some k→w0.heap.size≤k:=fun k e=>by have:=(hp.o5.lt k e).1;omega
 have pQ:v.ownBlock≠some w.heap.size:=fun e=>by have:=(hp.o5.lt _ e).2;omega
 have JJ:=hp.blk.lt;obtain⟨W1,vS⟩:=aC (w.alloc (.cells #[.slice ta tn tc,.slice sa sn sc,.slice ba bn bc] 26));rw[vS]at kV bk hp1 c1 f1;have TA:Pln g (W1.setCell ⟨g,1,none⟩ (.int .i64 (no+1))) (no+1) v l:=⟨hp1.blk.set 1 _,lW hp1.o5 aG 1 _⟩;have T9:Mv g g v v W1 (W1.setCell ⟨g,1,none⟩ (.int .i64 (no+1))):=Mv.E5 ((But.refl g W1).set 1 _) (.inl rfl);have bk2:=bk.mv T9 aG aG pQ;have c78:w.heap.size<W1.heap.size:=bk.lt;have d0:=bk.cell (i:=0) rfl;have d1:=bk.cell (i:=1) rfl;have d2:=bk.cell (i:=2) rfl;obtain⟨r9,hp',aBB,yB,BO,vE,a7Z,b23,hE',lZ,bk',c79⟩:=aT AX hp htg qU vV D9 hdt FI hE kV bk hp1;obtain⟨aTN,ZQ,ZV,xQ,YZ,h4',ih',aTO,NZ,aBC,e'⟩:=aS TA T9 bk2 mK pQ h4 ih htn UG hbn e;clear AX hp htg qU vV D9 hdt FI hE kV bk hp1 TA T9 bk2 mK pQ h4 ih htn UG hbn e;go_enter Tryz.func46,Tryz.ntmps46;go_wp2_with fail
 refine(hE'.o _).mono ?_;rintro e w3 ⟨rfl,kT⟩;have hp3:=aTN.o.later kT;have RU:=ZQ.o.later kT;have bk3:=ZV.o.late kT;clear c1 f1 d0 d1 d2;have d0:=bk3.cell (i:=0) rfl;have d1:=bk3.cell (i:=1) rfl;have d2:=bk3.cell (i:=2) rfl;have hP:=X5 g (no+1) v l 2 no 0 (6+12*m) w3 hp3 he0 aG aG aG aG;obtain⟨sM,a4I,O0,aPK,hP'⟩:=aM kT hp3 RU bk3 hP;clear kT hp3 RU bk3 hP;go_wp2_with fail
 refine hP'.o.mono ?_;rintro e w4 ⟨v4,rfl,hp4,TJ⟩;have TJ:=O0.o.trans TJ;have bk4:=bk'.o.mv TJ aG aG YZ.o;have mX:=r9.o.trans (lZ.o.mono r9.o.size|>.trans (TJ.below aG aG xQ.o (by have:=r9.o.size;omega)));have Z9:∀k,v4.ownBlock=some k→w0.heap.size≤k:=fun k e=>by have:=(hp4.o5.lt k e).1;omega
 clear d0 d1 d2;have d0:=bk4.cell (i:=0) rfl;have d1:=bk4.cell (i:=1) rfl;have d2:=bk4.cell (i:=2) rfl;have hV:=aPI g no (no+1) v4 _ ta sa ba tn tc sn sc bn bc zs w0 w4 aBB.o mX hg0 hp4 a1.1 aG (by rw[F5];omega) aG;rw[←a7Z.o]at hV;obtain⟨c4H,a8D,c4I,xG,aB1,hV'⟩:=aN hp4 TJ bk4 mX Z9 hV;clear hp4 TJ bk4 mX Z9 hV;go_wp2_with fail
 refine hV'.o.mono ?_;rintro e w5 ⟨v5,rfl,hp5,hm5⟩;have hm5:=a8D.o.trans hm5;have bk5:=bk'.o.mv hm5 aG aG YZ.o;clear d0 d1 d2;have d1:=bk5.cell (i:=1) rfl;obtain⟨L1,hL1⟩:=aC (nK no d.1 (oH l 2 no 0 (6+12*m)));rw[hL1]at hp5 b1 b23;obtain⟨bUU,aTP,c4J⟩:=aK hp5 hm5 bk5;clear hp5 hm5 bk5;go_wp2_with fail
 go_loopw [35] (fun iv wr=>∃(i:Nat) (v':Value),i≤sn∧iv= .int .i64 i∧Hid (Pln g wr (l9 f (d.2.1.take i) (L1,no+1)).2 v' (l9 f (d.2.1.take i) (L1,no+1)).1)∧Hid (Mv g g v v' W1 wr)) (fun iv _=>sn - (intOf iv).toNat)
 case atStart=>exact⟨0,v5,by omega,rfl,aA (by simpa [l9] using bUU.o),aTP⟩
 case round=>
  obtain⟨i,v',CY,rfl,TB,hmr⟩:=hrel;by_cases hi:i<sn
  ·have hil:(i:Int)<(sn:Int):=by omega
   have hw5:IntKind.i64.wrap ((i:Int)+1)=i+1:=by rw[bJ];omega
   have nR:=r9.o.trans (lZ.o.mono r9.o.size|>.trans (hmr.o.below aG aG xQ.o (by have:=r9.o.size;omega)));have hid:i<d.2.1.length:=by rw[NZ.o];exact hi
   have rC:i<ds.length:=by rw[wG];exact hid
   obtain⟨b,o,rfl,xL,fe⟩:=(yB.o.mono nR).elem qV aH (0,(.slice none 0 0,.slice none 0 0,.slice none 0 0)) hi;rw[kF rC]at fe;obtain⟨hq1,rH⟩:=BO.o i rC hid;obtain⟨ua,un,uc,pa,pn,pc,ra,rn,rc,hv⟩:=rH.v;have g0:=fe 0 _ rfl;have g1:=fe 1 _ rfl;have g2:=fe 2 _ rfl;have g3:=fe 3 _ rfl;simp only[dB]at g0 g1 g2 g3;clear fe hq1;rw[hv]at rH g1 g2 g3;simp only at g0 g1 g2 g3;generalize ds[i].1=y at g0;have zN:=GQ f d.2.1 (L1,no+1) hid;have hft:=MP f d.2.1 hid;have b39:=xA f d.2.1 (i+1);have EJ:mY f d.2.1[i].2:=h4'.o _ (bP hid);have FJ:=zT f (X6 f) (d.2.1.take i) (L1,no+1) (fun x hx=>h4'.o x (gQ hx)) b1.1;simp only at FJ;generalize l9 f (d.2.1.take i) (L1,no+1)=R at zN FJ TB;generalize d.2.1[i].2=dd at zN hft EJ rH;obtain⟨Ls,ns⟩:=R;simp only at FJ TB zN;have kU:=aD wr (.cells #[.int .i64 y,.slice ua un uc,.slice pa pn pc,.slice ra rn rc] 28);have bs:=kG.new wr 28 #[.int .i64 y,.slice ua un uc,.slice pa pn pc,.slice ra rn rc];have hI:=ih'.o g ns v' Ls w0 _ dd _ rH (nR.tm kU) hg0 (TB.o.later kU) EJ aG aG FJ.1 aG aG;obtain⟨aB9,L9,bUV,c1W,JN,qR,bs',hI',GA,Z4⟩:=aR nR rH hft b39 EJ kU bs hI hv zN;clear nR rH hft b39 EJ kU bs hI hv zN;go_wp2_with fail
   refine hI'.o.mono ?_;rintro e w7 ⟨v7,rfl,hp7,hm7⟩;have hm7:=(hmr.o.later qR.o).trans hm7;obtain⟨bCG,bCH⟩:=aJ hp7 hm7;clear hp7 hm7;clear g0 g1 g2 g3;go_wp2_with fail
   go_roundw
   case rel=>exact⟨i+1,v7,by omega,by go_num,by rw[Z4.o];exact bCG,bCH⟩
   case measure=>simp[intOf];omega
  ·obtain rfl:i=sn:=by omega
   have KF:d.2.1.take i=d.2.1:=bW (by rw[NZ.o];omega);rw[KF]at TB;have FJ:=zT f (X6 f) d.2.1 (L1,no+1) h4'.o b1.1;generalize l9 f d.2.1 (L1,no+1)=R at*;obtain⟨Ls,ns⟩:=R;simp only at FJ TB;have bkr:=bk'.o.mv hmr.o aG aG YZ.o;have d2:=bkr.cell (i:=2) rfl;by_cases aEF:0<bn
   ·rw[if_pos aEF]at b23;have hdc:decide ((0:Int)<bn)=true:=by simp;omega
    have hP:=X5 g ns v' Ls 4 no 0 bn wr TB.o FJ.1 aG aG aG aG;obtain⟨hP',aJ5⟩:=aJ hP bkr;clear hP bkr;go_wp2_with fail
    refine hP'.o.mono ?_;rintro e w8 ⟨v8,rfl,hp8,hm8⟩;have hm8:=hmr.o.trans hm8;have hp9:Pln g w8 (no+((mD f d.2.1).length+1:Nat)) v8 (yX (f+1) d no l):=by
     rw[b23.o,show no+(((mD f d.2.1).length+1:Nat):Int)=ns by omega];exact hp8
    clear d2;obtain⟨c4K,bK6,bCI⟩:=aK hp8 hm8 hp9;clear hp8 hm8 hp9;go_wp2_with fail
    refine bodyPost_end (results_none rfl _ _ _) rfl ?_;exact⟨v8,rfl,bCI.o,(Mv.of_below lZ.o).trans bK6.o⟩
   ·rw[if_neg aEF]at b23;have hdc:decide ((0:Int)<bn)=false:=by simp;omega
    have hp9:Pln g wr (no+((mD f d.2.1).length+1:Nat)) v' (yX (f+1) d no l):=by
     rw[b23.o,show no+(((mD f d.2.1).length+1:Nat):Int)=ns by omega];exact TB.o
    obtain⟨bCI,aJ5⟩:=aJ hp9 bkr;clear hp9 bkr;go_wp2_with fail
    refine bodyPost_end (results_none rfl _ _ _) rfl ?_;exact⟨rfl,v',bCI.o,(Mv.of_below lZ.o).trans hmr.o⟩
theorem aTQ:∀f,bCE f:=by
 intro f;induction f with
 |zero=>intro g no v l w0 w d dv hd;exact hd.elim
 |succ f ih=>exact aPJ f ih
theorem bK7:(Tryz.prog.info? 26).map (fun i=>(i.size,i.bytes))=some (3,72):=by kernel_rfl
theorem bK8:(Tryz.prog.info? 26).map (fun i=>i.zero.map (fun z=>z.cells.size))=some (some 3):=by kernel_rfl
def aPL (w:World) (x:Flt) (v:Dz):Prop:=∃(ta:Option Addr) (tc:Nat) (sa:Option Addr) (sc:Nat) (ba:Option Addr) (bc:Nat) (zs:List Tz),
 v=(.slice ta x.1.length tc,.slice sa x.2.1 sc,.slice ba x.2.2.length bc)∧Tgr w ta x.1.length tc zs∧x.1=zs.map nO∧Sl w ba x.2.2.length bc 1 (ints .u8 x.2.2)
theorem aPL.mono {w w':World} {x:Flt} {v:Dz} (h:aPL w x v) (hb:Below w.heap.size w w'):aPL w' x v:=by
 obtain⟨ta,tc,sa,sc,ba,bc,zs,h1,h2,h3,h4⟩:=h;exact⟨ta,tc,sa,sc,ba,bc,zs,h1,h2.mono hb,h3,h4.mono hb⟩
theorem FN.flt {w:World} {f:Nat} {d:jY (f+1)} {v:Dz} (h:FN w (f+1) d v):aPL w (d.1,d.2.1.length,d.2.2) v:=by
 obtain⟨ta,tn,tc,zs,sa,sn,sc,ds,ba,bn,bc,h1,h2,h3,h4,h5,h6,h7⟩:=h;have e1:d.1.length=tn:=by rw[h3,dF];exact h2.len
 have e2:d.2.1.length=sn:=by rw[←h5];exact h4.xZ qV aH
 have e3:d.2.2.length=bn:=h7.p9;subst e1 e2 e3;exact⟨ta,tc,sa,sc,ba,bc,zs,h1,h2,h3,h7⟩
theorem aJ6 (f:Nat) (ss:List (Int×jY f)) {i:Nat} (hi:i<ss.length):mD f (ss.take (i+1))=mD f (ss.take i)++lD f ss[i].2:=by
 rw[dR,bH hi,fK];unfold mD;rw[dQ,eF,List.flatMap_nil,dU]
def oI (f:Nat) (ds:List (jY f)):List Flt:=ds.flatMap (lD f)
theorem aJ7 (f:Nat) (ds:List (jY f)) {i:Nat} (hi:i<ds.length):oI f (ds.take (i+1))=oI f (ds.take i)++lD f ds[i]:=by
 rw[dR,bH hi,fK];unfold oI;rw[dQ,eF,List.flatMap_nil,dU]
def FP (f:Nat) (ds:List (jY f)):List (Int×jY f):=ds.map (Prod.mk 0)
theorem H6 (f:Nat) (ds:List (jY f)):mD f (FP f ds)=oI f ds:=by
 unfold mD FP oI;rw[List.flatMap_map]
theorem aMW (f:Nat) (ds:List (jY f)) {i:Nat} (h:i<(FP f ds).length) (h':i<ds.length):(FP f ds)[i].2=ds[i]:=by simp[FP]
def kW (f:Nat) (ds:List (jY f)):List mZ:=(l9 f (FP f ds) (oH [] 1 (-1) 0 8,0)).1
def U2 (f:Nat) (ds:List (jY f)):Bool:=(oI f ds).all okF
def V3 (f:Nat) (ds:List (jY f)):Bool:=U2 f ds&&decide (nI (kW f ds)≤4294967295)
def oU (f:Nat) (ds:List (jY f)):Int:=if V3 f ds=true then nI (kW f ds)else 0
def aJ8 (x:Flt):Prop:=x.1.length≤500∧x.2.1≤500∧x.2.2.length≤1000000
theorem aJ9:∀(f:Nat) (d:jY f),mY f d→∀x∈lD f d,aJ8 x:=by
 intro f;induction f with
 |zero=>intro d _ x hx;simp[lD]at hx
 |succ f ih=>
  intro d hs x hx;obtain⟨h1,h2,h3,h4⟩:=hs;rw[pK,cK]at hx;rcases hx with rfl|hx
  ·exact⟨h1,h3,h2⟩
  ·obtain⟨s,hs,hx⟩:=eH.1 hx;exact ih s.2 (h4 s hs) x hx
theorem b3A {x:Flt} (h:aJ8 x):okF x=(decide (1≤pU x.1.length x.2.1 x.2.2.length)&&x.1.all WA):=by
 unfold okF;have:=JY (b:=x.2.2.length) h.1 h.2.1;rw[show decide (pU x.1.length x.2.1 x.2.2.length≤65535)=true by simp;omega,Bool.and_true]
theorem aEG (f:Nat) (ds:List (jY f)) (hs:∀d∈ds,mY f d) (hN:(oI f ds).length<1000):0≤nI (kW f ds)∧nI (kW f ds)<1000000000000:=by
 have b3B:∀x∈FP f ds,mY f x.2:=fun x hx=>by
  obtain⟨d,hd,rfl⟩:=dH.1 hx;exact hs d hd
 have FJ:=zT f (X6 f) (FP f ds) (oH [] 1 (-1) 0 8,0) b3B aH;have he8:nI (oH [] 1 (-1) 0 8)=8:=rfl;rw[H6]at FJ;simp only[he8]at FJ;unfold kW;omega
theorem aTR (y t k:Int) (xa:Option Addr) (xn xc:Nat) (d:List Int) (w:World) (hs:Sl w xa xn xc 1 (ints .u8 d)) (hd:pF d):
  Calls Tryz.prog 101 #[.agg #[.int .i64 y,.int .i64 t,.int .i64 k,.slice xa xn xc]] w fun e w'=>e= .returned (.bool (!wH t k d))∧Below w.heap.size w w':=by
 have kV:=aD w (.cells #[.int .i64 y,.int .i64 t,.int .i64 k,.slice xa xn xc] 74);have hM:=RO t k xa xn xc d _ (hs.mono kV) hd;generalize wH t k d=r at*;obtain⟨lZ,hM',sK,hd'⟩:=aL kV hM hs hd;clear kV hM hs hd;go_enter Tryz.func101,Tryz.ntmps101;go_wp2_with fail
 refine hM'.o.mono ?_;rintro e w2 ⟨rfl,kP⟩;have hb:=lZ.o.tm kP;clear kP;have pW:=aA hb;clear hb;go_wp2_with fail
 go_ret;exact⟨rfl,pW.o⟩
def aJA (x:oZ):Bool:= !WA x
theorem aTS (a:Option Addr) (n c:Nat) (zs:List Tz) (w:World) (hs:Tgr w a n c zs) (mQ:∀z∈zs,pF z.2):
  Calls Tryz.prog 158 #[.slice a n c,.func (.func 101) #[] #[]] w fun e w'=>e= .returned (.int .i64 (fst aJA (zs.map nO)))∧Below w.heap.size w w':=by
 have hl:(zs.map nO).length=n:=by rw[dF];exact hs.len
 have vO:=hs.len;have hm:=hs.row.max;have FI:=hs.row.le;obtain⟨sK,FX,GN⟩:=aK hs hl mQ;clear hs hl mQ;go_enter Tryz.func158,Tryz.ntmps158;go_wp2;go_loopw [8] (fun iv wr=>∃k:Nat,k≤n∧iv= .int .i64 k∧Hid (∀i (hi:i<(zs.map nO).length),i<k→aJA (zs.map nO)[i]=false)∧Hid (Below w.heap.size w wr)) (fun iv _=>n - (intOf iv).toNat)
 case atStart=>exact⟨0,by omega,rfl,aA (fun j _ hj=>by omega),aA (bF _ _)⟩
 case round=>
  obtain⟨i,hk,rfl,lY,hb⟩:=hrel;by_cases kY:i<n
  ·have hww:IntKind.i64.wrap ((i:Int)+1)=i+1:=by rw[bJ];omega
   have hil:(i:Int)<(n:Int):=by omega
   have xK:i<(zs.map nO).length:=by rw[FX.o];exact kY
   have hkz:i<zs.length:=by omega
   obtain⟨b,o,rfl,EI,f0,f1,f2,f3,DT⟩:=(sK.o.mono hb.o).at kY;have hxk:(zs.map nO)[i]=nO (zs.getD i JL):=by rw[fI,kF hkz]
   have FJ:pF (zs.getD i JL).2:=by rw[kF hkz];exact GN.o _ (bP hkz)
   obtain⟨⟨⟨y,t,kk,xa,xn,xc⟩,dd⟩,hzi⟩:∃z,zs.getD i JL=z:=⟨_,rfl⟩;rw[hzi]at f0 f1 f2 f3 DT hxk FJ;simp only[nO]at f0 f1 f2 f3 hxk DT FJ;have HC:=aTR y t kk xa xn xc dd wr DT FJ;have OM:aJA (zs.map nO)[i]= !wH t kk dd:=by rw[hxk];rfl
   obtain⟨r,hr⟩:=aC (!wH t kk dd);rw[hr]at HC OM;clear hxk;obtain⟨WO,sH,aTT,a3N,aBD,b33⟩:=aN HC hr OM DT FJ hzi;clear HC hr OM DT FJ hzi;go_wp2_with fail
   refine WO.o.mono ?_;rintro e w2 ⟨rfl,kP⟩;have lK:=hb.o.tm kP;clear kP f0 f1 f2 f3;cases r with
   |true=>
    have kX:=aA lK;clear lK;go_wp2;go_ret;exact⟨by rw[P9 xK aTT.o (fun j hj=>lY.o j aG hj)];rfl,kX.o⟩
   |false=>
    have oQ:∀j (hj:j<(zs.map nO).length),j<i+1→aJA (zs.map nO)[j]=false:=fun j hj h=>by
     rcases eB j i with h1|h1
     ·exact lY.o j hj h1
     ·obtain rfl:j=i:=by omega
      exact aTT.o
    obtain⟨kX,nG⟩:=aJ lK oQ;clear lK oQ;go_wp2;go_roundw
    case rel=>exact⟨i+1,by omega,by go_num,nG,kX⟩
    case measure=>simp[intOf];omega
  ·obtain rfl:i=n:=by omega
   go_wp2;go_ret;exact⟨by rw[UO (fun j hj=>lY.o j hj (by rw[FX.o]at hj;exact hj))];rfl,hb.o⟩
theorem aTU (a:Option Addr) (n c:Nat) (zs:List Tz) (w:World) (hs:Tgr w a n c zs) (mQ:∀z∈zs,pF z.2):
  Calls Tryz.prog 100 #[.slice a n c,.func (.func 101) #[] #[]] w fun e w'=>e= .returned (.bool (!(zs.map nO).all WA))∧Below w.heap.size w w':=by
 have hI:=aTS a n c zs w hs mQ;have e1:(!(zs.map nO).all WA)=decide (0≤fst aJA (zs.map nO)):=by
  rw[EL];generalize zs.map nO=l;induction l with
  |nil=>rfl
  |cons x l ih=>simp only[jQ,List.any_cons,aJA]at ih ⊢;rw[←ih];cases WA x <;> rfl
 rw[e1];generalize fst aJA (zs.map nO)=q at*;obtain⟨hI',sK,GN⟩:=aK hI hs mQ;clear hI hs mQ;go_enter Tryz.func100,Tryz.ntmps100;go_wp2_with fail
 refine hI'.o.mono ?_;rintro e w2 ⟨rfl,kP⟩;have pG:=aA kP;clear kP;go_wp2_with fail
 go_ret;exact⟨by congr 2,pG.o⟩
