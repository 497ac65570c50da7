import Derived.Test.YtceclmpmpldmlaaGreatCz05
import Derived.Laws.StructEq
set_option linter.unusedSimpArgs false
set_option linter.unusedVariables false
set_option maxRecDepth 100000
set_option maxHeartbeats 8000000
namespace Go.Proofs.YtceclmpmpldmlaaGreat
open Go.RowKit Tt
theorem aJN (g:Nat) (e:Nat) (y z:Value) (T:TypeId) (long:Int) (w:World) (h:jJ w g T #[.int .i64 e,y,z]) (h1:e<4611686018427387) (h2:0≤long) (h3:long<4611686018427387):
  Calls Tryz.prog 103 #[.pointer (some ⟨g,0,none⟩),.int .i64 long] w fun x w'=>x= .returned (.int .i64 (oK e))∧jJ w' g T #[.int .i64 (oK e+long),y,z]∧But g w w':=by
 have hV:=fun W=>aNC e W (by omega);have hev:=wU (n:=e) (by omega);have c0:w.cell? ⟨g,0,none⟩=some (.int .i64 e):=h.cell rfl;have f0:=h.frozen 0;generalize oK e=q at*;have hw:=aB (q+long) (by omega);obtain⟨h',hV'⟩:=aF h hV;clear h hV;go_enter Tryz.func103,Tryz.ntmps103;go_wp2_with fail
 refine(hV'.o _).mono ?_;rintro e w2 ⟨rfl,rfl⟩;go_wp2_with fail
 go_ret;exact⟨rfl,h'.o.set 0 _,(But.refl g w).set 0 _⟩
structure Pln (g:Nat) (w:World) (no:Int) (v:Value) (l:List lK):Prop where
 blk:jJ w g 98 #[.int .i64 (lS l),.int .i64 no,v]
 jQ:Spr (g+1) w v l
theorem Pln.later {g:Nat} {w w':World} {no:Int} {v:Value} {l:List lK} (h:Pln g w no v l) (hb:Below w.heap.size w w'):Pln g w' no v l:=⟨h.blk.late hb,jY h.jQ hb⟩
theorem PL (g:Nat) (no:Int) (v:Value) (l:List lK) (x0 x1 x2 x4:Int) (w:World) (h:Pln g w no v l) (h0:0≤lS l) (h1:lS l<4611686018427387) (h2:0≤x4) (h3:x4<4611686018427387) (hl:l.length<1000000):
  Calls Tryz.prog 45 #[.pointer (some ⟨g,0,none⟩),.int .i64 x0,.int .i64 x1,.int .i64 x2,.int .i64 x4] w fun e w'=>∃v',e= .returned (.tuple #[])∧Pln g w' no v' (mZ l x0 x1 x2 x4)∧Mv g g v v' w w':=by
 obtain⟨i0,z0,hi0,hz,hz1,hz2,hz3⟩:=WT bKV bKW;obtain⟨hblk,hsp⟩:=h;have hne:v.ownBlock≠some g:=own_ne hsp (by omega);have hgw:=hblk.lt;obtain⟨a,c,rfl⟩:=a2G hsp;obtain⟨e,he⟩:=Int.eq_ofNat_of_zero_le h0;have hea:=JE l x0 x1 x2 x4;have hT:=fun W (h:jJ W g 98 #[.int .i64 (lS l),.int .i64 no,.slice a l.length c])=>aJN g e (.int .i64 no) (.slice a l.length c) 98 x4 W (by rw[he]at h;exact h) (by omega) h2 h3;suffices hgoal:Calls Tryz.prog 45 #[.pointer (some ⟨g,0,none⟩),.int .i64 x0,.int .i64 x1,.int .i64 x2,.int .i64 x4] w fun e w'=>∃v',e= .returned (.tuple #[])∧jJ w' g 98 #[.int .i64 (lS (mZ l x0 x1 x2 x4)),.int .i64 no,v']∧w'.ownsRow (g+1) 50 5 v' (mZ l x0 x1 x2 x4).length (fl spC (mZ l x0 x1 x2 x4))∧Mv g g (.slice a l.length c) v' w w' by
  refine hgoal.mono ?_;rintro e w' ⟨v',q1,q2,q3,q4⟩;exact⟨v',q1,⟨q2,q3⟩,q4⟩
 rw[hea];unfold Spr at hsp;unfold mZ;rw[uO,bO];simp only[dF,gN,eX];rw[←he]at hT;have hr:((e:Nat):Int)=lS l:=he.symm;clear hea h0 h1 he;generalize lS l=p at*;subst hr;generalize oK e=q at*;have c2:w.cell? ⟨g,2,none⟩=some (.slice a l.length c):=hblk.cell rfl;obtain⟨Ty,f,hne0,hcell,jH⟩:=a81 ⟨g,2,none⟩ _ w c2;obtain⟨HS,HD,hblk',aWA,hne',jA,hT',c2'⟩:=aL (jH _ (show w.drew.cell? _=_ from c2)) ((aW w.heap.size w).drew) hblk hsp hne jH hT c2;clear hblk hsp hne jH hT c2;go_enter Tryz.func45,Tryz.ntmps45;go_wp2_with fail
 refine XG ?_;refine tV (t:=19) (C:=fun W=>∃s,W=f s) (by kernel_rfl) 20 rfl ?_;refine nU [0,1,2,3,4,5,6,7,8,9,10,11,13] 7 (by kernel_rfl) tL (by kernel_rfl) (by kernel_rfl) (by kernel_rfl) HS.o ?_;simp only[jB,aS,aT,aQ,aR];iterate 13 (go_big_quiet_step (fail))
 refine wpQuiet_nil ?_;refine l6 12 6 (by kernel_rfl) (by kernel_rfl) ?_;simp only[jB,aS,aT,aQ,aR];go_wp2_with fail
 refine(hT'.o _ (hblk'.o.late HD.o)).mono ?_;rintro e1 w1 ⟨rfl,hb1,aZY⟩;have tX:=(But.of_below (b:=g) HD.o).trans aZY;have hsp1:=lJ aWA.o tX hne'.o;have d2:w1.cell? ⟨g,2,none⟩=some (.slice a l.length c):=hb1.cell rfl;have HS:=aA (jA.o _ d2);have hg1:=hb1.lt;clear aZY d2;obtain⟨hb1',aHA,bBH⟩:=aG hb1 tX hsp1;clear hb1 tX hsp1;go_wp2_with fail
 refine Mid.mk ⟨fun _=>HS.o,?_⟩;refine nU [14] 5 (by kernel_rfl) tL (by kernel_rfl) (by kernel_rfl) (by kernel_rfl) HS.o ?_;simp only[jB,aS,aT,aQ,aR];iterate 1 (go_big_quiet_step (fail))
 refine wpQuiet_nil ?_;refine l6 15 4 (by kernel_rfl) (by kernel_rfl) ?_;simp only[jB,aS,aT,aQ,aR];go_wp2_with fail
 have hal:=aD w1 (.cells #[.int .i64 x0,.int .i64 x1,.int .i64 x2,.int .i64 q,.int .i64 x4] 50);have hnew:Sl (w1.alloc (.cells #[.int .i64 x0,.int .i64 x1,.int .i64 x2,.int .i64 q,.int .i64 x4] 50)) (some ⟨w1.heap.size,0,none⟩) 1 1 5 (spC (x0,x1,x2,q,x4)):=Sl.new w1 50 5 1 #[.int .i64 x0,.int .i64 x1,.int .i64 x2,.int .i64 q,.int .i64 x4] (0,0) (by omega) rfl;have hb2:=hb1'.o.late hal;have hsp2:=jY bBH.o hal;have d2:(w1.alloc (.cells #[.int .i64 x0,.int .i64 x1,.int .i64 x2,.int .i64 q,.int .i64 x4] 50)).cell? ⟨g,2,none⟩=some (.slice a l.length c):=hb2.cell rfl;have HS:=aA (jA.o _ d2);clear d2;have aND:Mv g g (.slice a l.length c) (.slice a l.length c) w (w1.alloc (.cells #[.int .i64 x0,.int .i64 x1,.int .i64 x2,.int .i64 q,.int .i64 x4] 50)):=(Mv.yA aHA.o (.inl rfl)).trans (Mv.of_below hal);have hB2:g+1≤(w1.alloc (.cells #[.int .i64 x0,.int .i64 x1,.int .i64 x2,.int .i64 q,.int .i64 x4] 50)).heap.size:=by simp;omega
 obtain⟨oM,I9,hb2',bBI,a8P⟩:=aI hal hnew hb2 hsp2 aND;clear hal hnew hb2 hsp2 aND;refine Mid.mk ⟨fun _=>HS.o,?_⟩;refine l6 16 3 (by kernel_rfl) (by kernel_rfl) ?_;simp only[jB,aS,aT,aQ,aR];go_wp2_with (at_builtin;refine lI rfl _ _ 43 rfl (g+1) 50 i0 z0 5 40 Tryz.underlying43 hi0 hz hz1 hz2 hz3 (by decide) (.slice a l.length c) l.length _ rfl bBI.o ⟨w1.heap.size,0,none⟩ 1 1 (spC (x0,x1,x2,q,x4)) rfl I9.o (aH9 _) (by omega) (by decide) hB2 ?_;intro a8 c8 w8 ob hg8 vF;obtain⟨Ob,Hg8,Ho8⟩:=aG ob hg8 vF;clear ob hg8 vF)
 have oV:=hb2'.o.grown Hg8.o hne'.o;have uD:=a8P.o.trans (Mv.PG Hg8.o Ho8.o);have d2:w8.cell? ⟨g,2,none⟩=some (.slice a l.length c):=oV.cell rfl;have HS:=aA (jA.o _ d2);have f2:=oV.frozen 2;obtain⟨T9,vG⟩:=aF oV uD;clear oV uD;refine Mid.mk ⟨fun _=>HS.o,?_⟩;refine y8 [17,18] 1 (by kernel_rfl) tL (by kernel_rfl) (by kernel_rfl) (by kernel_rfl) HS.o ?_;simp only[jB,aS,aT,aQ,aR];iterate 2 (go_big_quiet_step (fail))
 refine wpQuiet_nil ?_;refine l6 19 0 (by kernel_rfl) (by kernel_rfl) ?_;simp only[jB,aS,aT,aQ,aR];go_wp2_with fail
 have rO:=T9.o.set 2 (.slice a8 (l.length+1) c8);have MK:=kQ Ob.o (show g<g+1 by omega) 2 (.slice a8 (l.length+1) c8);have a8Q:=vG.o.trans (Mv.yA (g:=g) (gt:=g) (sv:= .slice a8 (l.length+1) c8) ((But.refl g w8).set 2 (.slice a8 (l.length+1) c8)) (.inl rfl));obtain⟨nZ,bBJ,a8R⟩:=aG rO MK a8Q;clear rO MK a8Q;first|refine Mid.mk ?_|skip
 first|refine⟨fun h=>(iR h.symm).elim,?_⟩|skip
 refine vV (by kernel_rfl) ?_;refine BM ?_;go_wp2_with fail
 refine bodyPost_end (results_none rfl _ _ _) rfl ?_;exact⟨_,rfl,nZ.o,bBJ.o,a8R.o⟩
theorem b4I (a a':Option Addr) (n n' c c':Nat) (x y:List Int) (w:World) (hx:Sl w a n c 1 (ints .u8 x)) (hy:Sl w a' n' c' 1 (ints .u8 y)):
  Calls Tryz.prog 26 #[.slice a n c,.slice a' n' c'] w fun e w'=>e= .returned (.bool (x==y))∧Qt w w':=by
 have hxl:x.length=n:=hx.nV;have hyl:y.length=n':=hy.nV;have hn:=hx.le;have hm:=hx.max;have hn':=hy.le;have hm':=hy.max;by_cases hne:n=n'
 ·subst hne;obtain⟨Hx,Hy⟩:=aF hxl hyl;have hne:((n:Int) != (n:Int))=false:=by simp
  clear hxl hyl;go_enter Tryz.func26,Tryz.ntmps26;go_wp2;go_loopw [4,5] (fun r i wr=>∃k:Nat,k≤n∧i= .int .i64 k∧(x.take k=y.take k)∧r= .bool false∧Qt w wr) (fun _ i _=>n - (intOf i).toNat)
  case atStart=>exact⟨0,iP _,rfl,rfl,rfl,Qt.refl _⟩
  case round=>
   obtain⟨k,hk,rfl,htk,rfl,hq⟩:=hrel;by_cases hlt:k<n
   ·obtain⟨b,o,rfl,hbx,cx⟩:=(hx.qt hq).at hlt;obtain⟨b',o',rfl,hby,cy⟩:=(hy.qt hq).at hlt;have c1:=cx k _ (oW (by rw[Hx.o];exact hlt));have c2:=cy k _ (oW (by rw[Hy.o];exact hlt));clear cx cy;have Htk:=aA htk;clear htk;by_cases he:x.getD k 0=y.getD k 0
    ·have hb:(x.getD k 0 != y.getD k 0)=false:=by rw[he];simp
     have He:=aA he;clear he;generalize hu:x.getD k 0=u at*;generalize hv:y.getD k 0=v at*;obtain⟨Hu,Hv⟩:=aF hu hv;clear hu hv;go_wp2;go_quiet (fail)
     go_wp2;go_roundw
     case rel=>exact⟨k+1,by omega,by go_num,a3Y Hx.o Hy.o hlt Htk.o (Hu.o.trans (He.o.trans Hv.o.symm)),rfl,hq.step _⟩
     case measure=>simp[intOf];omega
    ·have hb:(x.getD k 0 != y.getD k 0)=true:=by simpa using he
     have He:=aA he;clear he;generalize hu:x.getD k 0=u at*;generalize hv:y.getD k 0=v at*;obtain⟨Hu,Hv⟩:=aF hu hv;clear hu hv;go_wp2;go_quiet (fail)
     go_wp2;go_ret;exact⟨BK (aMK (fun h=>He.o (Hu.o.symm.trans (h.trans Hv.o)))).symm,hq.step _⟩
   ·have Htk:=aA htk;clear htk;go_wp2;go_ret;exact⟨BK (aD9 Hx.o Hy.o (by omega) Htk.o).symm,hq⟩
 ·have hne:((n:Int) != (n':Int))=true:=by simp;omega
  have e:(x==y)=false:=by rw[beq_eq_false_iff_ne];rintro rfl;omega
  go_enter Tryz.func26,Tryz.ntmps26;go_wp2;go_ret;exact⟨BK e.symm,Qt.refl _⟩
theorem aDJ {α:Type} {d:α} {x y:List α} {k n:Nat} (hx:x.length=n) (hy:y.length=n) (hk:k<n) (h:x.take k=y.take k) (he:x.getD k d=y.getD k d):x.take (k+1)=y.take (k+1):=by
 rw[dN,dN,h];congr 1
 simp only[aV]at he;rw[aX (by omega),aX (by omega)]at he ⊢;simpa using he
theorem aJO {α:Type} [BEq α] [LawfulBEq α] {d:α} {x y:List α} {k:Nat} (he:¬x.getD k d=y.getD k d):(x==y)=false:=by
 rw[beq_eq_false_iff_ne];rintro rfl;exact he rfl
theorem a8S {α:Type} [BEq α] [LawfulBEq α] {x y:List α} {k n:Nat} (hx:x.length=n) (hy:y.length=n) (hk:n≤k) (h:x.take k=y.take k):(x==y)=true:=by
 rw[bP (by omega),bP (by omega)]at h;simp[h]
attribute [-go_sem] run_neq_struct
structure Tgr (w:World) (a:Option Addr) (n c:Nat) (zs:List Tz):Prop where
 row:Sl w a n c 4 (fl tzc zs)
 each:∀z∈zs,Sl w z.1.2.2.2.1 z.1.2.2.2.2.1 z.1.2.2.2.2.2 1 (ints .u8 z.2)
theorem Tgr.mono {w w':World} {a:Option Addr} {n c:Nat} {zs:List Tz} (h:Tgr w a n c zs) (hb:Below w.heap.size w w'):Tgr w' a n c zs:=⟨h.row.mono hb,fun z hz=>(h.each z hz).mono hb⟩
theorem Tgr.len {w:World} {a:Option Addr} {n c:Nat} {zs:List Tz} (h:Tgr w a n c zs):zs.length=n:=h.row.uY aH8 (by decide)
theorem Tgr.at {w:World} {a:Option Addr} {n c:Nat} {zs:List Tz} (h:Tgr w a n c zs) {k:Nat} (hk:k<n):
  ∃b o,a=some ⟨b,o,none⟩∧b<w.heap.size∧w.cell? ⟨b,o+k*4,none⟩=some (.int .i64 (zs.getD k D5).1.1)∧w.cell? ⟨b,o+k*4+1,none⟩=some (.int .i64 (zs.getD k D5).1.2.1)∧w.cell? ⟨b,o+k*4+2,none⟩=some (.int .i64 (zs.getD k D5).1.2.2.1)∧
   w.cell? ⟨b,o+k*4+3,none⟩=some (.slice (zs.getD k D5).1.2.2.2.1 (zs.getD k D5).1.2.2.2.2.1 (zs.getD k D5).1.2.2.2.2.2)∧Sl w (zs.getD k D5).1.2.2.2.1 (zs.getD k D5).1.2.2.2.2.1 (zs.getD k D5).1.2.2.2.2.2 1 (ints .u8 (zs.getD k D5).2):=by
 obtain⟨b,o,rfl,hb,fe⟩:=h.row.elem aH8 (by decide) D5 hk;have f0:=fe 0 _ rfl;refine⟨b,o,rfl,hb,by simpa using f0,fe 1 _ rfl,fe 2 _ rfl,fe 3 _ rfl,h.each _ ?_⟩;rw[jI (by rw[h.len];exact hk)];exact bL _
theorem Y5 {α β:Type} (f:α→β) (l:List α) (d:α) (i:Nat):(l.map f).getD i (f d)=f (l.getD i d):=by
 simp only[aV,List.getElem?_map];cases l[i]? <;> rfl
def zS (w:World):(f:Nat)→jD f→Dz→Prop
 |0,_,_=>False
 |f+1,d,v=>∃(ta:Option Addr) (tn tc:Nat) (zs:List Tz) (sa:Option Addr) (sn sc:Nat) (ds:List (Int×Dz)) (ba:Option Addr) (bn bc:Nat),v=(.slice ta tn tc,.slice sa sn sc,.slice ba bn bc)∧Tgr w ta tn tc zs∧d.1=zs.map mE∧
   Sl w sa sn sc 4 (fl sbC ds)∧ds.length=d.2.1.length∧(∀i (h:i<ds.length) (h':i<d.2.1.length),ds[i].1=d.2.1[i].1∧zS w f d.2.1[i].2 ds[i].2)∧Sl w ba bn bc 1 (ints .u8 d.2.2)
theorem zS.mono {w w':World} (hb:Below w.heap.size w w'):∀{f:Nat} {d:jD f} {v:Dz},zS w f d v→zS w' f d v
 |0,_,_,h=>h.elim
 |f+1,d,v,h=>by
  obtain⟨ta,tn,tc,zs,sa,sn,sc,ds,ba,bn,bc,h1,h2,h3,h4,h5,h6,h7⟩:=h;exact⟨ta,tn,tc,zs,sa,sn,sc,ds,ba,bn,bc,h1,h2.mono hb,h3,h4.mono hb,h5,fun i hi hi'=>⟨(h6 i hi hi').1,(h6 i hi hi').2.mono hb⟩,h7.mono hb⟩
theorem Ck.v {X:Nat→Prop} {B:Nat} {w:World} {v:Value} {E:TypeId} {sz n:Nat} {xs:List Value} (h:Ck X B w v E sz n xs):∃a c,v= .slice a n c:=by
 rcases h.1.2 with ⟨rfl,h0⟩|⟨g,cap,cur,rfl,_⟩
 ·exact⟨none,0,by rw[h0]⟩
 ·exact⟨_,_,rfl⟩
theorem mM.rd {X:Nat→Prop} {B:Nat} {w:World}:∀{f:Nat} {d:jD f} {v:Dz},mM X B w f d v→zS w f d v
 |0,_,_,h=>h.elim
 |f+1,d,(v1,v2,v3),h=>by
  obtain⟨h0,⟨zs,h1,h2,h3⟩,⟨ds,h4,h5,h6⟩,h7⟩:=h;obtain⟨ta,tc,rfl⟩:=Ck.v h2;obtain⟨sa,sc,rfl⟩:=Ck.v h5;obtain⟨ba,bc,rfl⟩:=Ck.v h7;exact⟨ta,_,tc,zs,sa,_,sc,ds,ba,_,bc,rfl,⟨h2.sl,fun z hz=>(h3 z hz).sl⟩,h1,h5.sl,h4,fun i hi hi'=>⟨(h6 i hi hi').1,(h6 i hi hi').2.rd⟩,h7.sl⟩
def DJ (f:Nat) (w:World) (a:Option Addr) (n c:Nat) (ds:List (jD f)):Prop:=
 ∃tF:List Dz,tF.length=ds.length∧Sl w a n c 3 (fl WS tF)∧∀i (h:i<tF.length) (h':i<ds.length),zS w f ds[i] tF[i]
theorem DJ.mono {f:Nat} {w w':World} {a:Option Addr} {n c:Nat} {ds:List (jD f)} (h:DJ f w a n c ds) (hb:Below w.heap.size w w'):DJ f w' a n c ds:=by
 obtain⟨tF,h1,h2,h3⟩:=h;exact⟨tF,h1,h2.mono hb,fun i hi hi'=>(h3 i hi hi').mono hb⟩
abbrev dzz:Dz:=(.slice none 0 0,.slice none 0 0,.slice none 0 0)
theorem aHB (ty cnt:Int):0≤oL ty cnt∧oL ty cnt≤524288:=by
 unfold oL;have:=P7 ty cnt;split <;> omega
theorem WU (l:List lK) (a b c e:Int) (h:0≤lS l) (he:0≤e):0≤lS (mZ l a b c e)∧lS (mZ l a b c e)≤lS l+e+1:=by
 rw[JE];have:=wU h;omega
theorem aDK (no:Int) (ts:List nC) (x:nC) (l:List lK):lY no (ts++ [x]) l=if 0<oL x.2.1 x.2.2.1 then mZ (lY no ts l) 3 no x.1 (oL x.2.1 x.2.2.1)else lY no ts l:=by
 unfold lY;rw[fM];rfl
def a8T (no:Int) (x:nC) (l:List lK):List lK:=if 0<oL x.2.1 x.2.2.1 then mZ l 3 no x.1 (oL x.2.1 x.2.2.1)else l
theorem aJP {no y t k s:Int} {d:List Int} {l:List lK} (hs:oL t k=s) (h:0<s):a8T no (y,t,k,d) l=mZ l 3 no y s:=by unfold a8T;simp only[hs];rw[if_pos h]
theorem aJQ {no y t k s:Int} {d:List Int} {l:List lK} (hs:oL t k=s) (h:¬0<s):a8T no (y,t,k,d) l=l:=by unfold a8T;simp only[hs];rw[if_neg h]
theorem aDL (no:Int) (l:List lK) {zs:List Tz} {i:Nat} (hi:i<zs.length):lY no ((zs.map mE).take (i+1)) l=a8T no (mE (zs.getD i D5)) (lY no ((zs.map mE).take i) l):=by
 rw[dN,aX (by rw[bX];exact hi),fG,aDK,fD,←jI hi D5];rfl
theorem JG (no:Int):∀(ts:List nC) (l:List lK),0≤lS l→0≤lS (lY no ts l)∧lS (lY no ts l)≤lS l+ts.length*524289∧(lY no ts l).length≤l.length+ts.length
 | [],l,h=>⟨h,by simp[lY],by simp[lY]⟩
 |x::ts,l,h=>by
  have ho:=aHB x.2.1 x.2.2.1;have e:lY no (x::ts) l=lY no ts (if 0<oL x.2.1 x.2.2.1 then mZ l 3 no x.1 (oL x.2.1 x.2.2.1)else l):=rfl;rw[e];split
  ·have h1:=WU l 3 no x.1 _ h ho.1;have h2:=JG no ts _ h1.1;rw[yP]at h2;simp only[dF];omega
  ·have h2:=JG no ts l h;simp only[dF];omega
theorem aJR (g:Nat) (dir no:Int) (v:Value) (l:List lK) (ta sa ba:Option Addr) (tn tc sn sc bn bc:Nat) (zs:List Tz) (w0 w:World) (ht:Tgr w0 ta tn tc zs) (hb0:Below w0.heap.size w0 w) (hg0:w0.heap.size≤g)
  (h:Pln g w no v l) (h0:0≤lS l) (h1:lS l<1000000000000) (hl:l.length<600000) (hn:tn<1000):
  Calls Tryz.prog 104 #[.pointer (some ⟨g,0,none⟩),.agg #[.slice ta tn tc,.slice sa sn sc,.slice ba bn bc],.int .i64 dir,.func (.func 45) #[.pointer (some ⟨g,0,none⟩)] #[]] w fun e w'=>∃v',e= .returned (.tuple #[])∧Pln g w' no v' (lY dir (zs.map mE) l)∧Mv g g v v' w w':=by
 have hzl:=ht.len;have hb1:=aD w (.cells #[.slice ta tn tc,.slice sa sn sc,.slice ba bn bc] 26);have hown:∀k,v.ownBlock=some k→w0.heap.size≤k:=fun k e=>by have:=(h.jQ.lt k e).1;omega
 have hgw:=h.blk.lt;have hLB:∀i,i≤tn→0≤lS (lY dir ((zs.map mE).take i) l)∧lS (lY dir ((zs.map mE).take i) l)<4611686018427387∧(lY dir ((zs.map mE).take i) l).length<1000000:=fun i hi=>by
  have:=JG dir ((zs.map mE).take i) l h0;have hlen:((zs.map mE).take i).length≤i:=by simp;omega
  omega
 obtain⟨ht',oU,h',mV,hb1',hown',bKX⟩:=aK ht hb0 h hzl hb1 hown hLB;clear ht hb0 h hzl hb1 hown hLB;go_enter Tryz.func104,Tryz.ntmps104;go_wp2_with fail
 go_loopw [14] (fun iv wr=>∃(i:Nat) (v':Value),i≤tn∧iv= .int .i64 i∧Hid (Pln g wr no v' (lY dir ((zs.map mE).take i) l))∧Hid (Mv g g v v' w wr)) (fun iv _=>tn - (intOf iv).toNat)
 case atStart=>exact⟨0,v,by omega,rfl,aA (by simpa [lY] using h'.o.later hb1'.o),aA (Mv.of_below hb1'.o)⟩
 case round=>
  obtain⟨i,v',hin,rfl,hp,hm⟩:=hrel;by_cases hi:i<tn
  ·have hil:(i:Int)<(tn:Int):=by omega
   have hw1:IntKind.i64.wrap ((i:Int)+1)=i+1:=by rw[aY];omega
   have hbr:=oU.o.trans (hm.o.below (by omega) (by omega) hown'.o oU.o.size);obtain⟨b,o,rfl,hblt,f0,f1,f2,f3,hrd⟩:=(ht'.o.mono hbr).at hi;have hnx:=aDL dir l (show i<zs.length by rw[mV.o];exact hi);obtain⟨⟨⟨y,t,k,xa,xn,xc⟩,d⟩,hzi⟩:∃z,zs.getD i D5=z:=⟨_,rfl⟩;rw[hzi]at f0 f1 f2 f3 hrd hnx;simp only[mE]at f0 f1 f2 f3 hnx;have hO:=fun W=>aH3 t k W;have hol:=aHB t k;obtain⟨s,hs⟩:=aC (oL t k);rw[hs]at hO hol;have hL0:=bKX.o i hin;obtain⟨L,hL⟩:=aC (lY dir ((zs.map mE).take i) l);rw[hL]at hp hnx hL0;have hal:=aD wr (.cells #[.int .i64 y,.int .i64 t,.int .i64 k,.slice xa xn xc] 74);have bk:=jJ.new wr 74 #[.int .i64 y,.int .i64 t,.int .i64 k,.slice xa xn xc];obtain⟨a4P,a4J,aWB,UR,hs',hL',a1B,oM,bk'⟩:=aM hbr hrd hzi hO hs hL hnx hal bk;clear hbr hrd hzi hO hs hL hnx hal bk;go_wp2_with fail
   refine(UR.o _).mono ?_;rintro e w2 ⟨rfl,hb2⟩;have bk2:=bk'.o.late hb2;have D6:=oM.o.tm hb2;have c0:w2.cell? ⟨wr.heap.size,0,none⟩=some (.int .i64 y):=bk2.cell rfl;clear f0 f1 f2 f3;obtain⟨hb2',TA,N7⟩:=aG hb2 bk2 D6;clear hb2 bk2 D6;by_cases hs0:0<s
   ·have hnx2:=a1B.o.trans (aJP hs'.o hs0);have hP:=PL g no v' L 3 dir y s w2 (hp.o.later N7.o) hL0.1 hL0.2.1 hol.1 (by omega) hL0.2.2;rw[←hnx2]at hP;clear hnx2;have hP':=aA hP;clear hP;go_wp2_with fail
    refine hP'.o.mono ?_;rintro e w3 ⟨v2,rfl,hp3,LK⟩;have MJ:=(hm.o.later N7.o).trans LK;clear LK c0;obtain⟨Y6,a1E⟩:=aF hp3 MJ;clear hp3 MJ;go_wp2_with fail
    go_roundw
    case rel=>exact⟨i+1,v2,by omega,by go_num,Y6,a1E⟩
    case measure=>simp[intOf];omega
   ·have hnx2:=a1B.o.trans (aJQ hs'.o hs0);have hd:decide (0<s)=false:=by simp;omega
    have hp3:Pln g w2 no v' (lY dir ((zs.map mE).take (i+1)) l):=by rw[hnx2];exact hp.o.later N7.o
    have MJ:=hm.o.later N7.o;clear c0 hnx2;obtain⟨Y6,a1E⟩:=aF hp3 MJ;clear hp3 MJ;go_wp2_with fail
    go_roundw
    case rel=>exact⟨i+1,v',by omega,by go_num,Y6,a1E⟩
    case measure=>simp[intOf];omega
  ·obtain rfl:i=tn:=by omega
   have hfull:(zs.map mE).take i=zs.map mE:=bP (by rw[bX,mV.o];omega);rw[hfull]at hp;go_wp2_with fail
   refine bodyPost_end (results_none rfl _ _ _) rfl ?_;exact⟨v',rfl,hp.o,hm.o⟩
end Go.Proofs.YtceclmpmpldmlaaGreat
namespace Tt
open Go Go.RowKit
theorem jJ.mv {g gt:Nat} {v v':Value} {w w':World} {k:Nat} {T:TypeId} {cs:Array Value} (h:jJ w k T cs) (hm:Mv g gt v v' w w') (h1:k≠g) (h2:k≠gt) (h3:v.ownBlock≠some k):jJ w' k T cs:=(hm.block k h.lt h1 h2 h3).trans h
end Tt
namespace Go.Proofs.YtceclmpmpldmlaaGreat
open Go.RowKit Tt
def kD (f:Nat) (ss:List (Int×jD f)):List Flt:=ss.flatMap fun s=>jT f s.2
def jZ (f:Nat) (ss:List (Int×jD f)) (r:List lK×Int):List lK×Int:=ss.foldl (fun(r:List lK×Int) s=>(vB f s.2 r.2 r.1,r.2+(jT f s.2).length)) r
theorem EP (f:Nat) (d:jD (f+1)) (no:Int) (l:List lK):vB (f+1) d no l=
  if 0<d.2.2.length then mZ (jZ f d.2.1 (lY no d.1 (mZ l 2 no 0 (6+12*(mQ d.1.length d.2.1.length d.2.2.length:Nat))),no+1)).1 4 no 0 (d.2.2.length:Nat)
  else(jZ f d.2.1 (lY no d.1 (mZ l 2 no 0 (6+12*(mQ d.1.length d.2.1.length d.2.2.length:Nat))),no+1)).1:=rfl
def lC:(f:Nat)→jD f→Prop
 |0,_=>True
 |f+1,d=>d.1.length≤500∧d.2.2.length≤1000000∧d.2.1.length≤500∧∀s∈d.2.1,lC f s.2
theorem DK {t s b:Nat} (ht:t≤500) (hs:s≤500):mQ t s b≤1002:=by unfold mQ;split <;> omega
theorem uP (f:Nat) (s:Int×jD f) (ss:List (Int×jD f)) (r:List lK×Int):jZ f (s::ss) r=jZ f ss (vB f s.2 r.2 r.1,r.2+(jT f s.2).length):=rfl
theorem a4Q (f:Nat) (s:Int×jD f) (ss:List (Int×jD f)) (r:List lK×Int):jZ f (ss++ [s]) r=(vB f s.2 (jZ f ss r).2 (jZ f ss r).1,(jZ f ss r).2+(jT f s.2).length):=by
 unfold jZ;rw[fM];rfl
theorem vQ (f:Nat) (ih:∀(d:jD f) (no:Int) (l:List lK),lC f d→0≤lS l→0≤lS (vB f d no l)∧lS (vB f d no l)≤lS l+(jT f d).length*270000000∧(vB f d no l).length≤l.length+(jT f d).length*502):
  ∀(ss:List (Int×jD f)) (r:List lK×Int),(∀s∈ss,lC f s.2)→0≤lS r.1→0≤lS (jZ f ss r).1∧lS (jZ f ss r).1≤lS r.1+(kD f ss).length*270000000∧(jZ f ss r).1.length≤r.1.length+(kD f ss).length*502∧(jZ f ss r).2=r.2+(kD f ss).length
 | [],r,_,h=>⟨h,by simp[jZ,kD],by simp[jZ,kD],by simp[jZ,kD]⟩
 |s::ss,r,hs,h=>by
  have h1:=ih s.2 r.2 r.1 (hs s (bJ ..)) h;have h2:=vQ f ih ss (vB f s.2 r.2 r.1,r.2+(jT f s.2).length) (fun x hx=>hs x (aZ _ hx)) h1.1;rw[uP];have e:(kD f (s::ss)).length=(jT f s.2).length+(kD f ss).length:=by simp[kD]
  rw[e];simp only at h2;omega
theorem PN:∀(f:Nat) (d:jD f) (no:Int) (l:List lK),lC f d→0≤lS l→0≤lS (vB f d no l)∧lS (vB f d no l)≤lS l+(jT f d).length*270000000∧(vB f d no l).length≤l.length+(jT f d).length*502:=by
 intro f;induction f with
 |zero=>intro d no l _ h;exact⟨h,by simp[vB,jT],by simp[vB,jT]⟩
 |succ f ih=>
  intro d no l hs h;obtain⟨h1,h2,h3,h4⟩:=hs;have he:=DK (b:=d.2.2.length) h1 h3;have a1:=WU l 2 no 0 (6+12*(mQ d.1.length d.2.1.length d.2.2.length:Nat)) h (by omega);have b1:=JG no d.1 _ a1.1;have c1:=vQ f ih d.2.1 (lY no d.1 (mZ l 2 no 0 (6+12*(mQ d.1.length d.2.1.length d.2.2.length:Nat))),no+1) h4 b1.1;have e1:=WU (jZ f d.2.1 (lY no d.1 (mZ l 2 no 0 (6+12*(mQ d.1.length d.2.1.length d.2.2.length:Nat))),no+1)).1 4 no 0 (d.2.2.length:Nat) c1.1 (by omega);have e:(jT (f+1) d).length=(kD f d.2.1).length+1:=by rw[lN];rfl
  rw[EP,e];rw[yP]at b1;simp only at c1;split
  ·rw[yP];omega
  ·omega
theorem sZ (f:Nat) (ss:List (Int×jD f)) (i:Nat):(kD f (ss.take i)).length≤(kD f ss).length:=by
 conv=>rhs;rw[←eY i ss]
 unfold kD;rw[dW,bO];omega
theorem G8 (f:Nat) (ss:List (Int×jD f)) {i:Nat} (hi:i<ss.length):(kD f (ss.take (i+1))).length=(kD f (ss.take i)).length+(jT f ss[i].2).length:=by
 rw[dN,aX hi,fG];unfold kD;rw[dW,bO];simp
theorem AL (f:Nat) (ss:List (Int×jD f)) (r:List lK×Int) {i:Nat} (hi:i<ss.length):jZ f (ss.take (i+1)) r=(vB f ss[i].2 (jZ f (ss.take i) r).2 (jZ f (ss.take i) r).1,(jZ f (ss.take i) r).2+(jT f ss[i].2).length):=by
 rw[dN,aX hi,fG,a4Q]
theorem zS.v {w:World}:∀{f:Nat} {d:jD f} {v:Dz},zS w f d v→∃(ta:Option Addr) (tn tc:Nat) (sa:Option Addr) (sn sc:Nat) (ba:Option Addr) (bn bc:Nat),v=(.slice ta tn tc,.slice sa sn sc,.slice ba bn bc)
 |0,_,_,h=>h.elim
 |f+1,d,v,h=>by
  obtain⟨ta,tn,tc,zs,sa,sn,sc,ds,ba,bn,bc,h1,_⟩:=h;exact⟨ta,tn,tc,sa,sn,sc,ba,bn,bc,h1⟩
def b4J (f:Nat):Prop:=∀(g:Nat) (no:Int) (v:Value) (l:List lK) (w0 w:World) (d:jD f) (dv:Dz),zS w0 f d dv→Below w0.heap.size w0 w→w0.heap.size≤g→Pln g w no v l→lC f d→
  0≤no→no+(jT f d).length<1000000→0≤lS l→lS l+(jT f d).length*270000000<1000000000000→l.length+(jT f d).length*502<600000→
  Calls Tryz.prog 46 #[.pointer (some ⟨g,0,none⟩),.agg #[dv.1,dv.2.1,dv.2.2]] w fun e w'=>∃v',e= .returned (.tuple #[])∧Pln g w' (no+(jT f d).length) v' (vB f d no l)∧Mv g g v v' w w'
theorem aJS (f:Nat) (ih:b4J f):b4J (f+1):=by
 intro g no v l w0 w d dv hd hb0 hg0 hp hs hno bBK he0 he1 hl;obtain⟨ta,tn,tc,zs,sa,sn,sc,ds,ba,bn,bc,rfl,WV,hdt,hsl,hdl,hsub,hbl⟩:=hd;obtain⟨h1,h2,h3,h4⟩:=hs;have e:(jT (f+1) d).length=(kD f d.2.1).length+1:=by rw[lN];rfl
 have hle:=EP f d no l;rw[e]at bBK he1 hl;rw[e];have htn:d.1.length=tn:=by rw[hdt,bX];exact WV.len
 have hsn:d.2.1.length=sn:=by rw[←hdl];exact hsl.uY oO (by decide)
 have hbn:d.2.2.length=bn:=hbl.nV;have bBL:tn≤500:=by omega
 have bBM:sn≤500:=by omega
 have b4K:bn≤1000000:=by omega
 have aWC:=DK (b:=d.2.2.length) h1 h3;have a1:=WU l 2 no 0 (6+12*(mQ d.1.length d.2.1.length d.2.2.length:Nat)) he0 (by omega);have b1:=JG no d.1 _ a1.1;rw[yP]at b1;have hE:=fun W=>PK ta sa ba tn tc sn sc bn bc W (by omega) (by omega);rw[htn,hsn,hbn]at hle aWC a1 b1;generalize mQ tn sn bn=m at*;have hw1:IntKind.i64.wrap (12*(m:Int))=12*m:=by rw[aY];omega
 have hw2:IntKind.i64.wrap (2+12*(m:Int))=2+12*m:=by rw[aY];omega
 have hw3:IntKind.i64.wrap (2+12*(m:Int)+4)=6+12*m:=by rw[aY];omega
 have hw4:=aB (no+1) (by omega);have hb1:=aD w (.cells #[.slice ta tn tc,.slice sa sn sc,.slice ba bn bc] 26);have bk:=jJ.new w 26 #[.slice ta tn tc,.slice sa sn sc,.slice ba bn bc];have hp1:=hp.later hb1;have c1:=hp1.blk.cell (i:=1) rfl;have f1:=hp1.blk.frozen 1;have hown:∀k,v.ownBlock=some k→w0.heap.size≤k:=fun k e=>by have:=(hp.jQ.lt k e).1;omega
 have hne:v.ownBlock≠some w.heap.size:=fun e=>by have:=(hp.jQ.lt _ e).2;omega
 have hgw:=hp.blk.lt;obtain⟨W1,hW1⟩:=aC (w.alloc (.cells #[.slice ta tn tc,.slice sa sn sc,.slice ba bn bc] 26));rw[hW1]at hb1 bk hp1 c1 f1;have hp2:Pln g (W1.setCell ⟨g,1,none⟩ (.int .i64 (no+1))) (no+1) v l:=⟨hp1.blk.set 1 _,kQ hp1.jQ (by omega) 1 _⟩;have hm2:Mv g g v v W1 (W1.setCell ⟨g,1,none⟩ (.int .i64 (no+1))):=Mv.yA ((But.refl g W1).set 1 _) (.inl rfl);have bk2:=bk.mv hm2 (by omega) (by omega) hne;have hsz1:w.heap.size<W1.heap.size:=bk.lt;have d0:W1.cell? ⟨w.heap.size,0,none⟩=some (.slice ta tn tc):=bk.cell rfl;have d1:W1.cell? ⟨w.heap.size,1,none⟩=some (.slice sa sn sc):=bk.cell rfl;have d2:W1.cell? ⟨w.heap.size,2,none⟩=some (.slice ba bn bc):=bk.cell rfl;obtain⟨oU,hp',a4R,uE,wV,qY,hdt',hle',hE',hb1',bk',hp1'⟩:=aP hb0 hp WV hsl hsub hbl hdt hle hE hb1 bk hp1;obtain⟨aNE,VN,TA,hown',hne',h4',ih',aNF,IJ,a4S,e'⟩:=aO hp2 hm2 bk2 hown hne h4 ih htn hsn hbn e;clear hb0 hp WV hsl hsub hbl hdt hle hE hb1 bk hp1 hp2 hm2 bk2 hown hne h4 ih htn hsn hbn e;go_enter Tryz.func46,Tryz.ntmps46;go_wp2_with fail
 refine(hE'.o _).mono ?_;rintro e w3 ⟨rfl,hb3⟩;have hp3:=aNE.o.later hb3;have LK:=VN.o.later hb3;have bk3:=TA.o.late hb3;clear c1 f1 d0 d1 d2;have d0:w3.cell? ⟨w.heap.size,0,none⟩=some (.slice ta tn tc):=bk3.cell rfl;have d1:w3.cell? ⟨w.heap.size,1,none⟩=some (.slice sa sn sc):=bk3.cell rfl;have d2:w3.cell? ⟨w.heap.size,2,none⟩=some (.slice ba bn bc):=bk3.cell rfl;have hP:=PL g (no+1) v l 2 no 0 (6+12*m) w3 hp3 he0 (by omega) (by omega) (by omega) (by omega);obtain⟨sO,Y6,IK,aJT,hP'⟩:=aI hb3 hp3 LK bk3 hP;clear hb3 hp3 LK bk3 hP;go_wp2_with fail
 refine hP'.o.mono ?_;rintro e w4 ⟨v4,rfl,hp4,MJ⟩;have MJ:=IK.o.trans MJ;have bk4:=bk'.o.mv MJ (by omega) (by omega) hne'.o;have hb4:=oU.o.trans (hb1'.o.mono oU.o.size|>.trans (MJ.below (by omega) (by omega) hown'.o (by have:=oU.o.size;omega)));have SF:∀k,v4.ownBlock=some k→w0.heap.size≤k:=fun k e=>by have:=(hp4.jQ.lt k e).1;omega
 clear d0 d1 d2;have d0:w4.cell? ⟨w.heap.size,0,none⟩=some (.slice ta tn tc):=bk4.cell rfl;have d1:w4.cell? ⟨w.heap.size,1,none⟩=some (.slice sa sn sc):=bk4.cell rfl;have d2:w4.cell? ⟨w.heap.size,2,none⟩=some (.slice ba bn bc):=bk4.cell rfl;have hV:=aJR g no (no+1) v4 _ ta sa ba tn tc sn sc bn bc zs w0 w4 a4R.o hb4 hg0 hp4 a1.1 (by omega) (by rw[yP];omega) (by omega);rw[←hdt'.o]at hV;obtain⟨bTJ,a1E,bTK,tC,a4G,hV'⟩:=aJ hp4 MJ bk4 hb4 SF hV;clear hp4 MJ bk4 hb4 SF hV;go_wp2_with fail
 refine hV'.o.mono ?_;rintro e w5 ⟨v5,rfl,hp5,hm5⟩;have hm5:=a1E.o.trans hm5;have bk5:=bk'.o.mv hm5 (by omega) (by omega) hne'.o;clear d0 d1 d2;have d1:w5.cell? ⟨w.heap.size,1,none⟩=some (.slice sa sn sc):=bk5.cell rfl;obtain⟨L1,hL1⟩:=aC (lY no d.1 (mZ l 2 no 0 (6+12*m)));rw[hL1]at hp5 b1 hle';obtain⟨bKY,bBN,bTL⟩:=aG hp5 hm5 bk5;clear hp5 hm5 bk5;go_wp2_with fail
 go_loopw [35] (fun iv wr=>∃(i:Nat) (v':Value),i≤sn∧iv= .int .i64 i∧Hid (Pln g wr (jZ f (d.2.1.take i) (L1,no+1)).2 v' (jZ f (d.2.1.take i) (L1,no+1)).1)∧Hid (Mv g g v v' W1 wr)) (fun iv _=>sn - (intOf iv).toNat)
 case atStart=>exact⟨0,v5,by omega,rfl,aA (by simpa [jZ] using bKY.o),bBN⟩
 case round=>
  obtain⟨i,v',hin,rfl,hpr,hmr⟩:=hrel;by_cases hi:i<sn
  ·have hil:(i:Int)<(sn:Int):=by omega
   have hw5:IntKind.i64.wrap ((i:Int)+1)=i+1:=by rw[aY];omega
   have hbr:=oU.o.trans (hb1'.o.mono oU.o.size|>.trans (hmr.o.below (by omega) (by omega) hown'.o (by have:=oU.o.size;omega)));have hid:i<d.2.1.length:=by rw[IJ.o];exact hi
   have p9:i<ds.length:=by rw[hdl];exact hid
   obtain⟨b,o,rfl,hblt,fe⟩:=(uE.o.mono hbr).elem oO (by decide) (0,(.slice none 0 0,.slice none 0 0,.slice none 0 0)) hi;rw[jI p9]at fe;obtain⟨hq1,hq2⟩:=wV.o i p9 hid;obtain⟨ua,un,uc,pa,pn,pc,ra,rn,rc,hv⟩:=hq2.v;have g0:=fe 0 _ rfl;have g1:=fe 1 _ rfl;have g2:=fe 2 _ rfl;have g3:=fe 3 _ rfl;simp only[cK]at g0 g1 g2 g3;clear fe hq1;rw[hv]at hq2 g1 g2 g3;simp only at g0 g1 g2 g3;generalize ds[i].1=y at g0;have hst:=AL f d.2.1 (L1,no+1) hid;have hft:=G8 f d.2.1 hid;have aWD:=sZ f d.2.1 (i+1);have hsm:lC f d.2.1[i].2:=h4'.o _ (bL hid);have hbd:=vQ f (PN f) (d.2.1.take i) (L1,no+1) (fun x hx=>h4'.o x (fO hx)) b1.1;simp only at hbd;generalize jZ f (d.2.1.take i) (L1,no+1)=R at hst hbd hpr;generalize d.2.1[i].2=dd at hst hft hsm hq2;obtain⟨Ls,ns⟩:=R;simp only at hbd hpr hst;have hal:=aD wr (.cells #[.int .i64 y,.slice ua un uc,.slice pa pn pc,.slice ra rn rc] 28);have bs:=jJ.new wr 28 #[.int .i64 y,.slice ua un uc,.slice pa pn pc,.slice ra rn rc];have hI:=ih'.o g ns v' Ls w0 _ dd _ hq2 (hbr.tm hal) hg0 (hpr.o.later hal) hsm (by omega) (by omega) hbd.1 (by omega) (by omega);obtain⟨a4P,EQ,bKZ,bR0,NS,oM,bs',hI',hv',hst'⟩:=aN hbr hq2 hft aWD hsm hal bs hI hv hst;clear hbr hq2 hft aWD hsm hal bs hI hv hst;go_wp2_with fail
   refine hI'.o.mono ?_;rintro e w7 ⟨v7,rfl,hp7,hm7⟩;have hm7:=(hmr.o.later oM.o).trans hm7;obtain⟨b4L,b4M⟩:=aF hp7 hm7;clear hp7 hm7;clear g0 g1 g2 g3;go_wp2_with fail
   go_roundw
   case rel=>exact⟨i+1,v7,by omega,by go_num,by rw[hst'.o];exact b4L,b4M⟩
   case measure=>simp[intOf];omega
  ·obtain rfl:i=sn:=by omega
   have hfull:d.2.1.take i=d.2.1:=bP (by rw[IJ.o];omega);rw[hfull]at hpr;have hbd:=vQ f (PN f) d.2.1 (L1,no+1) h4'.o b1.1;generalize jZ f d.2.1 (L1,no+1)=R at*;obtain⟨Ls,ns⟩:=R;simp only at hbd hpr;have bkr:=bk'.o.mv hmr.o (by omega) (by omega) hne'.o;have d2:wr.cell? ⟨w.heap.size,2,none⟩=some (.slice ba bn bc):=bkr.cell rfl;by_cases a8U:0<bn
   ·rw[if_pos a8U]at hle';have hdc:decide ((0:Int)<bn)=true:=by simp;omega
    have hP:=PL g ns v' Ls 4 no 0 bn wr hpr.o hbd.1 (by omega) (by omega) (by omega) (by omega);obtain⟨hP',aDM⟩:=aF hP bkr;clear hP bkr;go_wp2_with fail
    refine hP'.o.mono ?_;rintro e w8 ⟨v8,rfl,hp8,hm8⟩;have hm8:=hmr.o.trans hm8;have hp9:Pln g w8 (no+((kD f d.2.1).length+1:Nat)) v8 (vB (f+1) d no l):=by
     rw[hle'.o,show no+(((kD f d.2.1).length+1:Nat):Int)=ns by omega];exact hp8
    clear d2;obtain⟨bTM,bBO,b4N⟩:=aG hp8 hm8 hp9;clear hp8 hm8 hp9;go_wp2_with fail
    refine bodyPost_end (results_none rfl _ _ _) rfl ?_;exact⟨v8,rfl,b4N.o,(Mv.of_below hb1'.o).trans bBO.o⟩
   ·rw[if_neg a8U]at hle';have hdc:decide ((0:Int)<bn)=false:=by simp;omega
    have hp9:Pln g wr (no+((kD f d.2.1).length+1:Nat)) v' (vB (f+1) d no l):=by
     rw[hle'.o,show no+(((kD f d.2.1).length+1:Nat):Int)=ns by omega];exact hpr.o
    obtain⟨b4N,aDM⟩:=aF hp9 bkr;clear hp9 bkr;go_wp2_with fail
    refine bodyPost_end (results_none rfl _ _ _) rfl ?_;exact⟨rfl,v',b4N.o,(Mv.of_below hb1'.o).trans hmr.o⟩
theorem aNG:∀f,b4J f:=by
 intro f;induction f with
 |zero=>intro g no v l w0 w d dv hd;exact hd.elim
 |succ f ih=>exact aJS f ih
theorem bBP:(Tryz.prog.info? 26).map (fun i=>(i.size,i.bytes))=some (3,72):=by kernel_rfl
theorem bBQ:(Tryz.prog.info? 26).map (fun i=>i.zero.map (fun z=>z.cells.size))=some (some 3):=by kernel_rfl
def aJU (w:World) (x:Flt) (v:Dz):Prop:=∃(ta:Option Addr) (tc:Nat) (sa:Option Addr) (sc:Nat) (ba:Option Addr) (bc:Nat) (zs:List Tz),
 v=(.slice ta x.1.length tc,.slice sa x.2.1 sc,.slice ba x.2.2.length bc)∧Tgr w ta x.1.length tc zs∧x.1=zs.map mE∧Sl w ba x.2.2.length bc 1 (ints .u8 x.2.2)
theorem aJU.mono {w w':World} {x:Flt} {v:Dz} (h:aJU w x v) (hb:Below w.heap.size w w'):aJU w' x v:=by
 obtain⟨ta,tc,sa,sc,ba,bc,zs,h1,h2,h3,h4⟩:=h;exact⟨ta,tc,sa,sc,ba,bc,zs,h1,h2.mono hb,h3,h4.mono hb⟩
theorem zS.flt {w:World} {f:Nat} {d:jD (f+1)} {v:Dz} (h:zS w (f+1) d v):aJU w (d.1,d.2.1.length,d.2.2) v:=by
 obtain⟨ta,tn,tc,zs,sa,sn,sc,ds,ba,bn,bc,h1,h2,h3,h4,h5,h6,h7⟩:=h;have e1:d.1.length=tn:=by rw[h3,bX];exact h2.len
 have e2:d.2.1.length=sn:=by rw[←h5];exact h4.uY oO (by decide)
 have e3:d.2.2.length=bn:=h7.nV;subst e1 e2 e3;exact⟨ta,tc,sa,sc,ba,bc,zs,h1,h2,h3,h7⟩
theorem aDN (f:Nat) (ss:List (Int×jD f)) {i:Nat} (hi:i<ss.length):kD f (ss.take (i+1))=kD f (ss.take i)++jT f ss[i].2:=by
 rw[dN,aX hi,fG];unfold kD;rw[dW,dO,List.flatMap_nil,dM]
def lX (f:Nat) (ds:List (jD f)):List Flt:=ds.flatMap (jT f)
theorem aDO (f:Nat) (ds:List (jD f)) {i:Nat} (hi:i<ds.length):lX f (ds.take (i+1))=lX f (ds.take i)++jT f ds[i]:=by
 rw[dN,aX hi,fG];unfold lX;rw[dW,dO,List.flatMap_nil,dM]
def wL (f:Nat) (ds:List (jD f)):List (Int×jD f):=ds.map (Prod.mk 0)
theorem AY (f:Nat) (ds:List (jD f)):kD f (wL f ds)=lX f ds:=by
 unfold kD wL lX;rw[List.flatMap_map]
theorem aHC (f:Nat) (ds:List (jD f)) {i:Nat} (h:i<(wL f ds).length) (h':i<ds.length):(wL f ds)[i].2=ds[i]:=by simp[wL]
def jV (f:Nat) (ds:List (jD f)):List lK:=(jZ f (wL f ds) (mZ [] 1 (-1) 0 8,0)).1
def ER (f:Nat) (ds:List (jD f)):Bool:=(lX f ds).all okF
def IL (f:Nat) (ds:List (jD f)):Bool:=ER f ds&&decide (lS (jV f ds)≤4294967295)
def mX (f:Nat) (ds:List (jD f)):Int:=if IL f ds=true then lS (jV f ds)else 0
def aDP (x:Flt):Prop:=x.1.length≤500∧x.2.1≤500∧x.2.2.length≤1000000
theorem aDQ:∀(f:Nat) (d:jD f),lC f d→∀x∈jT f d,aDP x:=by
 intro f;induction f with
 |zero=>intro d _ x hx;simp[jT]at hx
 |succ f ih=>
  intro d hs x hx;obtain⟨h1,h2,h3,h4⟩:=hs;rw[lN,bQ]at hx;rcases hx with rfl|hx
  ·exact⟨h1,h3,h2⟩
  ·obtain⟨s,hs,hx⟩:=dK.1 hx;exact ih s.2 (h4 s hs) x hx
theorem aWE {x:Flt} (h:aDP x):okF x=(decide (1≤mQ x.1.length x.2.1 x.2.2.length)&&x.1.all II):=by
 unfold okF;have:=DK (b:=x.2.2.length) h.1 h.2.1;rw[show decide (mQ x.1.length x.2.1 x.2.2.length≤65535)=true by simp;omega,Bool.and_true]
theorem a8V (f:Nat) (ds:List (jD f)) (hs:∀d∈ds,lC f d) (hN:(lX f ds).length<1000):0≤lS (jV f ds)∧lS (jV f ds)<1000000000000:=by
 have aWF:∀x∈wL f ds,lC f x.2:=fun x hx=>by
  obtain⟨d,hd,rfl⟩:=cB.1 hx;exact hs d hd
 have hbd:=vQ f (PN f) (wL f ds) (mZ [] 1 (-1) 0 8,0) aWF (by decide);have he8:lS (mZ [] 1 (-1) 0 8)=8:=rfl;rw[AY]at hbd;simp only[he8]at hbd;unfold jV;omega
theorem aNH (y t k:Int) (xa:Option Addr) (xn xc:Nat) (d:List Int) (w:World) (hs:Sl w xa xn xc 1 (ints .u8 d)) (hd:mW d):
  Calls Tryz.prog 101 #[.agg #[.int .i64 y,.int .i64 t,.int .i64 k,.slice xa xn xc]] w fun e w'=>e= .returned (.bool (!rM t k d))∧Below w.heap.size w w':=by
 have hb1:=aD w (.cells #[.int .i64 y,.int .i64 t,.int .i64 k,.slice xa xn xc] 74);have hM:=LM t k xa xn xc d _ (hs.mono hb1) hd;generalize rM t k d=r at*;obtain⟨hb1',hM',hs',hd'⟩:=aH hb1 hM hs hd;clear hb1 hM hs hd;go_enter Tryz.func101,Tryz.ntmps101;go_wp2_with fail
 refine hM'.o.mono ?_;rintro e w2 ⟨rfl,hb2⟩;have hb:=hb1'.o.tm hb2;clear hb2;have hb':=aA hb;clear hb;go_wp2_with fail
 go_ret;exact⟨rfl,hb'.o⟩
def aDR (x:nC):Bool:= !II x
theorem aNI (a:Option Addr) (n c:Nat) (zs:List Tz) (w:World) (hs:Tgr w a n c zs) (hbt:∀z∈zs,mW z.2):
  Calls Tryz.prog 158 #[.slice a n c,.func (.func 101) #[] #[]] w fun e w'=>e= .returned (.int .i64 (fst aDR (zs.map mE)))∧Below w.heap.size w w':=by
 have hl:(zs.map mE).length=n:=by rw[bX];exact hs.len
 have hzl:=hs.len;have hm:=hs.row.max;have hle:=hs.row.le;obtain⟨hs',hl',EB⟩:=aG hs hl hbt;clear hs hl hbt;go_enter Tryz.func158,Tryz.ntmps158;go_wp2;go_loopw [8] (fun iv wr=>∃k:Nat,k≤n∧iv= .int .i64 k∧Hid (∀i (hi:i<(zs.map mE).length),i<k→aDR (zs.map mE)[i]=false)∧Hid (Below w.heap.size w wr)) (fun iv _=>n - (intOf iv).toNat)
 case atStart=>exact⟨0,by omega,rfl,aA (fun j _ hj=>by omega),aA (aW _ _)⟩
 case round=>
  obtain⟨i,hk,rfl,hall,hb⟩:=hrel;by_cases hlt:i<n
  ·have hww:IntKind.i64.wrap ((i:Int)+1)=i+1:=by rw[aY];omega
   have hil:(i:Int)<(n:Int):=by omega
   have hkl:i<(zs.map mE).length:=by rw[hl'.o];exact hlt
   have hkz:i<zs.length:=by omega
   obtain⟨b,o,rfl,hbb,f0,f1,f2,f3,hrd⟩:=(hs'.o.mono hb.o).at hlt;have hxk:(zs.map mE)[i]=mE (zs.getD i D5):=by rw[fD,jI hkz]
   have hbd:mW (zs.getD i D5).2:=by rw[jI hkz];exact EB.o _ (bL hkz)
   obtain⟨⟨⟨y,t,kk,xa,xn,xc⟩,dd⟩,hzi⟩:∃z,zs.getD i D5=z:=⟨_,rfl⟩;rw[hzi]at f0 f1 f2 f3 hrd hxk hbd;simp only[mE]at f0 f1 f2 f3 hxk hrd hbd;have HC:=aNH y t kk xa xn xc dd wr hrd hbd;have hbx:aDR (zs.map mE)[i]= !rM t kk dd:=by rw[hxk];rfl
   obtain⟨r,hr⟩:=aC (!rM t kk dd);rw[hr]at HC hbx;clear hxk;obtain⟨SK,hr',aNJ,a4J,a4T,aWB⟩:=aJ HC hr hbx hrd hbd hzi;clear HC hr hbx hrd hbd hzi;go_wp2_with fail
   refine SK.o.mono ?_;rintro e w2 ⟨rfl,hb2⟩;have hbw:=hb.o.tm hb2;clear hb2 f0 f1 f2 f3;cases r with
   |true=>
    have jW:=aA hbw;clear hbw;go_wp2;go_ret;exact⟨by rw[J6 hkl aNJ.o (fun j hj=>hall.o j (by omega) hj)];rfl,jW.o⟩
   |false=>
    have nK:∀j (hj:j<(zs.map mE).length),j<i+1→aDR (zs.map mE)[j]=false:=fun j hj h=>by
     rcases eH j i with h1|h1
     ·exact hall.o j hj h1
     ·obtain rfl:j=i:=by omega
      exact aNJ.o
    obtain⟨jW,lW⟩:=aF hbw nK;clear hbw nK;go_wp2;go_roundw
    case rel=>exact⟨i+1,by omega,by go_num,lW,jW⟩
    case measure=>simp[intOf];omega
  ·obtain rfl:i=n:=by omega
   go_wp2;go_ret;exact⟨by rw[NI (fun j hj=>hall.o j hj (by rw[hl'.o]at hj;exact hj))];rfl,hb.o⟩
theorem aNK (a:Option Addr) (n c:Nat) (zs:List Tz) (w:World) (hs:Tgr w a n c zs) (hbt:∀z∈zs,mW z.2):
  Calls Tryz.prog 100 #[.slice a n c,.func (.func 101) #[] #[]] w fun e w'=>e= .returned (.bool (!(zs.map mE).all II))∧Below w.heap.size w w':=by
 have hI:=aNI a n c zs w hs hbt;have e1:(!(zs.map mE).all II)=decide (0≤fst aDR (zs.map mE)):=by
  rw[yI];generalize zs.map mE=l;induction l with
  |nil=>rfl
  |cons x l ih=>simp only[j3,List.any_cons,aDR]at ih ⊢;rw[←ih];cases II x <;> rfl
 rw[e1];generalize fst aDR (zs.map mE)=q at*;obtain⟨hI',hs',EB⟩:=aG hI hs hbt;clear hI hs hbt;go_enter Tryz.func100,Tryz.ntmps100;go_wp2_with fail
 refine hI'.o.mono ?_;rintro e w2 ⟨rfl,hb2⟩;have hb2':=aA hb2;clear hb2;go_wp2_with fail
 go_ret;exact⟨by congr 2,hb2'.o⟩
