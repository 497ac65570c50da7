import Derived.Test.YtceclmpmpldmlaaGreatCx05
set_option linter.unusedSimpArgs false
set_option linter.unusedVariables false
set_option maxRecDepth 100000
set_option maxHeartbeats 8000000
namespace Go.Proofs.YtceclmpmpldmlaaGreat
open Go.RowKit Tt
theorem aG1 (a:Option Addr) (n c:Nat) (x:List Int) (w:World) (hx:Sl w a n c 1 (ints .u8 x)) (hn:n≤140737488355328):
  Calls Tryz.prog 33 #[.slice a n c] w fun e w'=>∃a' c',e= .returned (.slice a' n c')∧w'.ownsRow w.heap.size 5 1 (.slice a' n c') n (ints .u8 x)∧Below w.heap.size w w':=by
 obtain⟨i0,hi,sN,oG,qK⟩:=info_parts aPS;go_enter Tryz.func33,Tryz.ntmps33;go_wp2_with (at_builtin;refine kK rfl _ _ 24 rfl w.heap.size 5 i0 _ 1 1 Tryz.underlying24 hi sN oG qK rfl aH _ 0 [] rfl (GR w w.heap.size 5 1 0 #[] (aZ _) (by unfold maxLen;omega) rfl) a n c _ rfl (vU hx _) oK aG aH (by simp) ?_;intro a' c' w1 kY jN aXF)
 rw[dU,eX]at kY;clear aXF;go_wp2;go_ret;exact⟨a',c',aFN rfl,kY,((aY _ _).alloc (aZ _) _).trans jN⟩
theorem aG2 (y k:Int) (a:Option Addr) (n c:Nat) (d:List Int) (w:World) (hs:Sl w a n c 1 (ints .u8 d)) (hl:n≤1000000):
  Calls Tryz.prog 118 #[.agg #[.int .i64 y,.int .i64 k,.slice a n c]] w fun e w'=>∃a' c',e= .returned (.agg #[.int .i64 y,.int .i64 k,.slice a' n c'])∧w'.ownsRow w.heap.size 5 1 (.slice a' n c') n (ints .u8 d)∧Below w.heap.size w w':=by
 have pX:=aA hs;clear hs;go_enter Tryz.func118,Tryz.ntmps118;go_wp2_with fail
 have pW:=(aD w (.cells #[.int .i64 y,.int .i64 k,.slice a n c] 72)).alloc (by simp) (.cells #[.int .i64 0,.int .i64 0,.slice none 0 0] 72);have b0:jW ((w.alloc (.cells #[.int .i64 y,.int .i64 k,.slice a n c] 72)).alloc (.cells #[.int .i64 0,.int .i64 0,.slice none 0 0] 72)) w.heap.size 72 #[.int .i64 y,.int .i64 k,.slice a n c]:=(sG _ _ (by simp)).trans (mZ _ _);have b1:jW ((w.alloc (.cells #[.int .i64 y,.int .i64 k,.slice a n c] 72)).alloc (.cells #[.int .i64 0,.int .i64 0,.slice none 0 0] 72)) (w.heap.size+1) 72 #[.int .i64 0,.int .i64 0,.slice none 0 0]:=wB _ _ (by simp);generalize (w.alloc (.cells #[.int .i64 y,.int .i64 k,.slice a n c] 72)).alloc (.cells #[.int .i64 0,.int .i64 0,.slice none 0 0] 72)=w1 at*;have YF:=b1.lt;obtain⟨Ty,f,oJ,jN,jK⟩:=zQ (w.heap.size+1) w1;have q0:=fun s=>(jW.mono b0 (jN s) aG).cell (i:=0) rfl;have q1:=fun s=>(jW.mono b0 (jN s) aG).cell (i:=1) rfl;have q2:=fun s=>(jW.mono b0 (jN s) aG).cell (i:=2) rfl;obtain⟨HS,HD,jH,jF,lF,b0',b1'⟩:=aO (jK _ ((aY _ _).drew)) ((aY w1.heap.size w1).drew) jN jK pW b0 b1;clear jN jK pW b0 b1;refine kM (S:=fun W=>∃s,W=f s) aF 9 rfl ?_;refine jS [0,1,2,3,4,5] 3 aF aI aF aF aF HS.o ?_;simp only[jI,aW,aX,aU,aV];iterate 6 (go_big_quiet_step (fail))
 refine wpQuiet_nil ?_;refine jJ 6 2 aF aF ?_;simp only[jI,aW,aX,aU,aV];go_wp2_with fail
 refine(aG1 a n c d _ (pX.o.mono (lF.o.tm HD.o)) aG).mono ?_;rintro e w2 ⟨a5,c5,rfl,ho,jT⟩;have hb:=HD.o.tm jT;have yZ:=lF.o.tm hb;have b1:=b1'.o.late hb;obtain⟨HS,mO,mE,AZ,b1',J8⟩:=aN (jF.o _ (hb.mono (iI YF))) hb jT yZ b1 ho;clear hb jT yZ b1 ho;go_wp2_with fail
 first|refine Mid.mk ⟨HS.o,?_⟩|refine Mid.mk ?_
 refine jS [7] 1 aF aI aF aF aF HS.o ?_;simp only[jI,aW,aX,aU,aV];iterate 1 (go_big_quiet_step (fail))
 refine wpQuiet_nil ?_;refine jJ 8 0 aF aF ?_;simp only[jI,aW,aX,aU,aV];have p0:=b1'.o.cell (i:=0) rfl;have p1:=b1'.o.cell (i:=1) rfl;have p2:=b1'.o.cell (i:=2) rfl;have y0:=b1'.o.frozen 0;have y1:=b1'.o.frozen 1;have y2:=b1'.o.frozen 2;go_wp2_with fail
 have HS:=aA (jF.o _ (nG (mO.o.mono (iI YF)) (aZ _) (.int .i64 y) (.int .i64 k) (.slice a5 n c5)));refine Mid.mk ⟨HS.o,?_⟩;refine jV aF ?_;go_wp2_with fail
 refine bodyPost_ret (results_cell_row rfl _ _ (w.heap.size+1) 72 #[.int .i64 y,.int .i64 k,.slice a5 n c5] (0,0) _ rfl (b1'.o.ZO _ _ _) Tryz.underlying72 rfl aF) rfl ?_;refine⟨_,_,rfl,kI (UF J8.o (cK YF HD.o.size) _ _ _) (bQ lF.o.size HD.o.size),nG AZ.o aG _ _ _⟩
theorem To.app {B:Nat} {W W':World} {a a':Option Addr} {n c c':Nat} {zs:List wF} (h:To B W a n c zs) {z:wF} (hz:Ow B W z) (hr:W'.ownsRow B 74 4 (.slice a' (n+1) c') (n+1) (zc zs++zcl z)) (hg:W.grownBy W' (Value.slice a n c).ownBlock):
  To B W' a' (n+1) c' (zs++ [z]):=⟨by rw[X4];simpa [zc] using hr,fun u hu=>by
 rcases bP.1 hu with hu|hu
 ·exact(h.each u hu).grown h.row hg
 ·obtain rfl:u=z:=by simpa using hu
  exact hz.grown h.row hg⟩
theorem YL (a:Option Addr) (n c:Nat) (zs:List wF) (w:World) (hs:Tr w a n c zs) (hl:n≤1000000) (hd:∀z∈zs,z.1.2.2.2.2.1≤1000000):
  Calls Tryz.prog 57 #[.slice a n c] w fun e w'=>∃a' c' zs',e= .returned (.slice a' n c')∧To w.heap.size w' a' n c' zs'∧zs'.map tag=zs.map tag∧Below w.heap.size w w':=by
 have qJ:=hs.len;obtain⟨i0,z0,xH,hz,oG,qK,QG⟩:=GU;obtain⟨pX,UB,mX⟩:=aK hs hd qJ;clear hs hd qJ;go_enter Tryz.func57,Tryz.ntmps57;go_wp2_with fail
 go_loopw [3,4] (fun ov iv wr=>∃(i:Nat) (a1:Option Addr) (c1:Nat) (zs':List wF),i≤n∧iv= .int .i64 i∧ov= .slice a1 i c1∧Hid (To w.heap.size wr a1 i c1 zs')∧Hid (zs'.map tag=(zs.take i).map tag)∧Hid (Below w.heap.size w wr)) (fun _ iv _=>n - (intOf iv).toNat)
 case atStart=>exact⟨0,none,0, [],by omega,rfl,rfl,aA ⟨kF _ _ _ _,fun z hz=>by cases hz⟩,aA rfl,aA (aY _ _)⟩
 case round=>
  obtain⟨i,a1,c1,zs',yJ,rfl,rfl,hto,aFJ,hb⟩:=hrel;by_cases hi:i<n
  ·have I4:(i:Int)<(n:Int):=by omega
   have sS:IntKind.i64.wrap ((i:Int)+1)=i+1:=by rw[bF];omega
   have sM:=UB.o _ (ES (zs:=zs) (i:=i) (by rw[mX.o];exact hi));have mQ:(zs.take (i+1)).map tag=(zs.take i).map tag++ [tag (zs.getD i rO)]:=by
    rw[eP (by rw[mX.o];exact hi),dI,bH,bI (by rw[mX.o];exact hi)];rfl
   obtain⟨b,o,rfl,lC,f0,f1,f2,f3,rV⟩:=pX.o.at hi;obtain⟨⟨⟨y,t,k,xa,xn,xc⟩,d⟩,wO⟩:∃z,zs.getD i rO=z:=⟨_,rfl⟩;rw[wO]at f0 f1 f2 f3 rV sM mQ;change Sl w xa xn xc 1 (ints .u8 d)at rV
   change xn≤1000000 at sM
   simp only at f0 f1 f2 f3;obtain⟨Ty,f,oJ,jN,jK⟩:=zQ w.heap.size w;have q0:∀s,(f s).cell? ⟨b,o+i*4,none⟩=some (.int .i64 y):=fun s=>late (jN s) lC f0;have q1:∀s,(f s).cell? ⟨b,o+i*4+1,none⟩=some (.int .i64 t):=fun s=>late (jN s) lC f1;have q2:∀s,(f s).cell? ⟨b,o+i*4+2,none⟩=some (.int .i64 k):=fun s=>late (jN s) lC f2;have q3:∀s,(f s).cell? ⟨b,o+i*4+3,none⟩=some (.slice xa xn xc):=fun s=>late (jN s) lC f3;obtain⟨HS,HD⟩:=aJ (jK _ (hb.o.drew)) ((aY wr.heap.size wr).drew);clear f0 f1 f2 f3 lC;obtain⟨jH,jF,JF,NC,D7⟩:=aM jN jK rV wO mQ;clear jN jK rV wO mQ;go_wp2_with fail
   refine kM (S:=fun W=>∃s,W=f s) aF 16 rfl ?_;refine jS [0,1,2,3,4,5,6,7,8,9,10] 5 aF aI aF aF aF HS.o ?_;simp only[jI,aW,aX,aU,aV];iterate 11 (go_big_quiet_step (fail))
   refine wpQuiet_nil ?_;refine jJ 11 4 aF aF ?_;simp only[jI,aW,aX,aU,aV];go_wp2_with fail
   have hrw:=JF.o.mono (hb.o.tm HD.o);refine(aG2 t k xa xn xc d _ hrw sM).mono ?_;rintro e w2 ⟨a6,c6,rfl,vS,jT⟩;have zF:=HD.o.tm jT;have jZ:=hb.o.tm zF;have aBI:=hto.o.later zF;have PZ:=kI vS (show w.heap.size≤_ from bQ hb.o.size HD.o.size);have HS:=aA (jF.o _ jZ);clear vS jT zF hrw;obtain⟨jM,UM,NA⟩:=aK jZ aBI PZ;clear jZ aBI PZ;go_wp2_with fail
   first|refine Mid.mk ⟨HS.o,?_⟩|refine Mid.mk ?_
   refine jS [12] 3 aF aI aF aF aF HS.o ?_;simp only[jI,aW,aX,aU,aV];iterate 1 (go_big_quiet_step (fail))
   refine wpQuiet_nil ?_;refine jJ 13 2 aF aF ?_;simp only[jI,aW,aX,aU,aV];go_wp2_with fail
   have l9:=aD w2 (.cells #[.int .i64 y,.int .i64 t,.int .i64 k,.slice a6 xn c6] 74);have jZ:=jM.o.tm l9;have aG3:=UM.o.later l9;have ET:=kC NA.o l9;have HS:=aA (jF.o _ jZ);clear l9;obtain⟨jM,aBJ,ZR⟩:=aK jZ aG3 ET;clear jZ aG3 ET;first|refine Mid.mk ⟨HS.o,?_⟩|refine Mid.mk ?_
   refine jJ 14 1 aF aF ?_;simp only[jI,aW,aX,aU,aV];go_wp2_with (at_builtin;refine kK rfl _ _ 22 rfl w.heap.size 74 i0 z0 4 48 Tryz.underlying22 xH hz oG qK QG aH _ i _ rfl aBJ.o.row _ 1 1 [.int .i64 y,.int .i64 t,.int .i64 k,.slice a6 xn c6] rfl (Sl.new' _ 74 4 1 #[.int .i64 y,.int .i64 t,.int .i64 k,.slice a6 xn c6] (0,0) (by simp) aG rfl) (by simp[Value.oneCell']) aG aH jM.o.size ?_;intro a7 c7 w7 ob rE hg7;obtain⟨Ob,Hg7⟩:=aJ ob hg7;clear ob rE hg7)
   have a18:=aBJ.o.app (z:=((y,t,k,a6,xn,c6),d)) ZR.o Ob.o Hg7.o;have jZ:=below_grown jM.o Hg7.o jM.o.size aBJ.o.row;obtain⟨HS,aPY,jM⟩:=aK (jF.o _ jZ) a18 jZ;clear a18 jZ;first|refine Mid.mk ⟨HS.o,?_⟩|refine Mid.mk ?_
   refine jJ 15 0 aF aF ?_;simp only[jI,aW,aX,aU,aV];go_wp2_with fail
   first|refine Mid.mk ⟨HS.o,?_⟩|refine Mid.mk ?_
   refine jV aF ?_;go_wp2_with fail
   go_roundw
   case rel=>exact⟨i+1,_,_,_,by omega,by go_num,rfl,aPY.o,aA (by rw[dI,aFJ.o,D7.o];rfl),jM.o⟩
   case measure=>simp[intOf];omega
  ·obtain rfl:i=n:=by omega
   go_wp2;go_ret;exact⟨_,_,zs',rfl,hto.o,by rw[aFJ.o,bK (by rw[mX.o];exact aZ _)],hb.o⟩
theorem UN {B:Nat} {W:World} {a:Option Addr} {n c:Nat} {zs:List wF} {z:wF} (h:W.ownsRow B 74 4 (.slice a (n+1) c) (n+1) (zc zs++zcl z)):W.ownsRow B 74 4 (.slice a (n+1) c) (n+1) (zc (zs++ [z])):=by
 rw[X4];simpa [zc] using h
theorem X6 {zs:List wF} {i:Nat} (hi:i<zs.length):zs.take (i+1)=zs.take i++ [zs.getD i rO]:=by
 rw[eP hi,bH,bI hi];rfl
theorem a19 {zs:List wF} {p:Tg→Bool}:(zs.filter (fun z=>p (tag z))).map tag=(zs.map tag).filter p:=by
 induction zs with
 |nil=>rfl
 |cons z r ih=>by_cases h:p (tag z) <;> simp[h,ih]
def C9 (ts:List Tg) (t:Int):Bool×Int×Int×List Int:=match ts.find? (fun y=>decide (y.1=t))with
 |some y=>(true,y.2)
 |none=>(false,0,0, [])
theorem a7G {ts:List Tg} {t:Int} (h:∀y∈ts,y.1≠t):C9 ts t=(false,0,0, []):=by
 unfold C9;rw[List.find?_eq_none.2 (fun y hy=>by simp[h y hy])]
theorem a7H {A C:List Tg} {t:Int} {y:Tg} (h:∀y∈A,y.1≠t) (hy:y.1=t):C9 (A++y::C) t=(true,y.2):=by
 unfold C9;rw[List.find?_append,List.find?_eq_none.2 (fun y hy=>by simp[h y hy]),List.find?_cons_of_pos (by simp[hy])];rfl
theorem aJZ {l:List Tg} {k:Nat} {p:Tg→Bool} (h1:∀y∈l.take k,p y=true) (h2:k<l.length→p (l.getD k (0,0,0, []))=false):l.takeWhile p=l.take k:=by
 conv=>lhs;rw[←fF k l]
 rw[List.takeWhile_append_of_pos h1];by_cases hk:k<l.length
 ·rw[List.drop_eq_getElem_cons hk,iA (by have:=h2 hk;rw[bH,bI hk]at this;simpa using this)];simp
 ·rw[gV aG];simp
theorem aPZ (a:Option Addr) (n c:Nat) (zs:List wF) (x1 x2 x3:Int) (xa:Option Addr) (xn xc:Nat) (d:List Int) (w:World) (hs:Tr w a n c zs) (hl:n≤100000) (hd:∀z∈zs,z.1.2.2.2.2.1≤1000000)
  (hx:Sl w xa xn xc 1 (ints .u8 d)) (hxn:xn≤1000000):
  Calls Tryz.prog 64 #[.slice a n c,.agg #[.int .i64 x1,.int .i64 x2,.int .i64 x3,.slice xa xn xc]] w fun e w'=>∃a' n' c' zs',e= .returned (.slice a' n' c')∧To w.heap.size w' a' n' c' zs'∧zs'.map tag=zG (zs.map tag) (x1,x2,x3,d)∧Below w.heap.size w w':=by
 have qJ:=hs.len;obtain⟨i0,z0,xH,hz,oG,qK,QG⟩:=GU;have pW:=aD w (.cells #[.int .i64 x1,.int .i64 x2,.int .i64 x3,.slice xa xn xc] 74);have b0:jW (w.alloc (.cells #[.int .i64 x1,.int .i64 x2,.int .i64 x3,.slice xa xn xc] 74)) w.heap.size 74 #[.int .i64 x1,.int .i64 x2,.int .i64 x3,.slice xa xn xc]:=mZ _ _;have rX:(w.alloc (.cells #[.int .i64 x1,.int .i64 x2,.int .i64 x3,.slice xa xn xc] 74)).heap.size=w.heap.size+1:=by simp
 obtain⟨Z,hZ⟩:∃Z:wF,Z=((x1,x2,x3,xa,xn,xc),d):=⟨_,rfl⟩;obtain⟨pX,UB,mX,TR,lF,b0',hZ',zL⟩:=aP hs hd qJ hx pW b0 hZ rX;clear hs hd qJ hx pW b0 hZ rX;go_enter Tryz.func64,Tryz.ntmps64;go_wp2_with fail
 obtain⟨w1,sS⟩:=aC (w.alloc (.cells #[.int .i64 x1,.int .i64 x2,.int .i64 x3,.slice xa xn xc] 74));rw[sS]at lF b0' zL ⊢;have b5M:=aA sS;clear sS;go_loopw [5,6] (fun ov iv wr=>∃(i:Nat) (a1:Option Addr) (c1:Nat),i≤n∧iv= .int .i64 i∧ov= .slice a1 i c1∧Hid (wr.ownsRow (w.heap.size+1) 74 4 (.slice a1 i c1) i (zc (zs.take i)))∧Hid (∀y∈(zs.map tag).take i,y.1<x1)∧Hid (Below (w.heap.size+1) w1 wr)) (fun _ iv _=>n - (intOf iv).toNat)
 case atStart=>exact⟨0,none,0,by omega,rfl,rfl,aA (kF _ _ _ _),aA (fun y hy=>by cases hy),aA (aY _ _)⟩
 case round=>
  obtain⟨i,a1,c1,yJ,rfl,rfl,kY,hlo,hb⟩:=hrel;have qR:=aA (lF.o.trans (hb.o.mono (Nat.le_succ _)));have br:=jW.mono b0'.o hb.o (Nat.lt_succ_self _);have p0:=br.cell (i:=0) rfl;have p1:=br.cell (i:=1) rfl;have p2:=br.cell (i:=2) rfl;have p3:=br.cell (i:=3) rfl;have br':=aA br;clear br;by_cases hi:i<n
  ·have I4:(i:Int)<(n:Int):=by omega
   have hww:IntKind.i64.wrap ((i:Int)+1)=i+1:=by rw[bF];omega
   obtain⟨b,o,rfl,lC,f0,f1,f2,f3,rV⟩:=(pX.o.mono qR.o).at hi;have mQ:=X6 (zs:=zs) (i:=i) (by rw[mX.o];exact hi);have DI:(zs.map tag).take (i+1)=(zs.map tag).take i++ [tag (zs.getD i rO)]:=by
    rw[←gX,mQ,dI,gX];rfl
   have QI:(zs.map tag).getD i (0,0,0, [])=tag (zs.getD i rO):=by
    rw[bH,iJ,bI (by rw[mX.o];exact hi),bH,bI (by rw[mX.o];exact hi)];rfl
   obtain⟨⟨⟨y,ty,k,ya,yn,yc⟩,yd⟩,wO⟩:∃z,zs.getD i rO=z:=⟨_,rfl⟩;rw[wO]at f0 f1 f2 f3 rV mQ DI QI;simp only at f0 f1 f2 f3;by_cases hyt:y<x1
   ·have bM8:∀y'∈(zs.map tag).take (i+1),y'.1<x1:=fun y' hy'=>by
     rw[DI]at hy';rcases bP.1 hy' with hy'|hy'
     ·exact hlo.o y' hy'
     ·obtain rfl:y'=_:=by simpa using hy'
      exact hyt
    obtain⟨D7,aXQ,EU,JF,NC,bD8⟩:=aN mQ DI QI rV wO bM8;clear mQ DI QI rV wO bM8;go_wp2_with fail
    go_quiet (fail)
    go_wp2_with (at_builtin;refine kK rfl _ _ 22 rfl (w.heap.size+1) 74 i0 z0 4 48 Tryz.underlying22 xH hz oG qK QG aH _ (i) _ rfl (eG kY.o _) _ 1 1 [.int .i64 y,.int .i64 ty,.int .i64 k,.slice ya yn yc] rfl (Sl.new' _ 74 4 1 #[.int .i64 y,.int .i64 ty,.int .i64 k,.slice ya yn yc] (0,0) (by simp) aG rfl) (by simp[Value.oneCell']) aG aH (bQ (gT zL.o.symm) ((hb.o.trans (((Qt.refl wr).step nq).below _)).alloc (by rw[←zL.o];exact hb.o.size) _).size) ?_;intro a7 c7 w7 ob rE hg7;have Ob:=aA (UN (z:=((y,ty,k,ya,yn,yc),yd)) ob);have Hb7:=aA (((hb.o.trans (((Qt.refl wr).step nq).below _)).alloc (by rw[←zL.o];exact hb.o.size) _).trans rE);clear ob rE hg7)
    go_roundw
    case rel=>exact⟨i+1,_,_,by omega,by go_num,rfl,by rw[D7.o];exact Ob,bD8,Hb7⟩
    case measure=>simp[intOf];omega
   ·have hd:decide (y<x1)=false:=by simp;omega
    obtain⟨htw,D7,aXQ,EU,JF,NC,bDA⟩:=aO (show(zs.map tag).takeWhile (fun y'=>decide (y'.1<x1))=(zs.map tag).take i from aJZ (fun y' hy'=>by simpa using hlo.o y' hy') (fun _=>by rw[QI];exact decide_eq_false hyt)) mQ DI QI rV wO hyt;clear mQ DI QI rV wO hyt;go_wp2_with fail
    go_quiet (fail)
    have yV:=mX.o;go_wp2_with (at_builtin;refine kK rfl _ _ 22 rfl (w.heap.size+1) 74 i0 z0 4 48 Tryz.underlying22 xH hz oG qK QG aH _ (i) _ rfl (eG kY.o _) _ 1 1 [.int .i64 x1,.int .i64 x2,.int .i64 x3,.slice xa xn xc] rfl (Sl.new' _ 74 4 1 #[.int .i64 x1,.int .i64 x2,.int .i64 x3,.slice xa xn xc] (0,0) (by simp) aG rfl) (by simp[Value.oneCell']) aG aH (bQ (gT zL.o.symm) ((hb.o.trans (((Qt.refl wr).step nq).below _)).alloc (by rw[←zL.o];exact hb.o.size) _).size) ?_;intro a7 c7 w7 ob rE hg7;have Ob:=aA (UN (z:=((x1,x2,x3,xa,xn,xc),d)) ob);have Hb7:=aA (((hb.o.trans (((Qt.refl wr).step nq).below _)).alloc (by rw[←zL.o];exact hb.o.size) _).trans rE);clear ob rE hg7)
    clear p0 p1 p2 p3 br';clear qR;go_loopw [5,7] (fun ov iv wr=>∃(j m:Nat) (a1:Option Addr) (c1:Nat),j≤n∧m≤i+1+j∧iv= .int .i64 j∧ov= .slice a1 m c1∧Hid (wr.ownsRow (w.heap.size+1) 74 4 (.slice a1 m c1) m (zc (zs.take i++ [((x1,x2,x3,xa,xn,xc),d)]++(zs.take j).filter (fun z=>decide (x1<(tag z).1)))))∧Hid (Below (w.heap.size+1) w1 wr)) (fun _ iv _=>n - (intOf iv).toNat)
    case atStart=>exact⟨0,i+1,a7,c7,by omega,by omega,rfl,rfl,aA (by have:=Ob.o;simpa using this),Hb7⟩
    case round=>
     obtain⟨j,m,a2,c2,hjn,hmj,rfl,rfl,FY,jT⟩:=hrel;have qR:=aA (lF.o.trans (jT.o.mono (Nat.le_succ _)));have br:=jW.mono b0'.o jT.o (Nat.lt_succ_self _);have p0:=br.cell (i:=0) rfl;have br':=aA br;clear br;by_cases hj:j<n
     ·have hjl:(j:Int)<(n:Int):=by omega
      have hww:IntKind.i64.wrap ((j:Int)+1)=j+1:=by rw[bF];omega
      obtain⟨b,o,ZT,lC,f0,f1,f2,f3,rV⟩:=(pX.o.mono qR.o).at hj;first|subst ZT|(simp only[fG,Addr.mk.injEq]at ZT;obtain⟨rfl,rfl, -⟩:=ZT)
      have mQ:=X6 (zs:=zs) (i:=j) (by rw[mX.o];exact hj);obtain⟨⟨⟨y,ty,k,ya,yn,yc⟩,yd⟩,wO⟩:∃z,zs.getD j rO=z:=⟨_,rfl⟩;rw[wO]at f0 f1 f2 f3 rV mQ;simp only at f0 f1 f2 f3;by_cases hyt:x1<y
      ·have hf:zs.take i++ [((x1,x2,x3,xa,xn,xc),d)]++(zs.take (j+1)).filter (fun z=>decide (x1<(tag z).1))=(zs.take i++ [((x1,x2,x3,xa,xn,xc),d)]++(zs.take j).filter (fun z=>decide (x1<(tag z).1)))++ [((y,ty,k,ya,yn,yc),yd)]:=by
        rw[mQ,fD,fI (by simp[tag,hyt])];simp
       obtain⟨QJ,D7,JF,NC⟩:=aL hf mQ rV wO;clear hf mQ rV wO;go_wp2_with fail
       go_quiet (fail)
       go_wp2_with (at_builtin;refine kK rfl _ _ 22 rfl (w.heap.size+1) 74 i0 z0 4 48 Tryz.underlying22 xH hz oG qK QG aH _ (m) _ rfl (eG FY.o _) _ 1 1 [.int .i64 y,.int .i64 ty,.int .i64 k,.slice ya yn yc] rfl (Sl.new' _ 74 4 1 #[.int .i64 y,.int .i64 ty,.int .i64 k,.slice ya yn yc] (0,0) (by simp) aG rfl) (by simp[Value.oneCell']) aG aH (bQ (gT zL.o.symm) ((jT.o.trans (((Qt.refl wr).step nq).below _)).alloc (by rw[←zL.o];exact jT.o.size) _).size) ?_;intro a7 c7 w7 ob rE hg7;have Ob:=aA (UN (z:=((y,ty,k,ya,yn,yc),yd)) ob);have Hb7:=aA (((jT.o.trans (((Qt.refl wr).step nq).below _)).alloc (by rw[←zL.o];exact jT.o.size) _).trans rE);clear ob rE hg7)
       go_roundw
       case rel=>exact⟨j+1,m+1,_,_,by omega,by omega,by go_num,rfl,by rw[QJ.o];exact Ob,Hb7⟩
       case measure=>simp[intOf];omega
      ·have hd:decide (x1<y)=false:=by simp;omega
       have hf:zs.take i++ [((x1,x2,x3,xa,xn,xc),d)]++(zs.take (j+1)).filter (fun z=>decide (x1<(tag z).1))=zs.take i++ [((x1,x2,x3,xa,xn,xc),d)]++(zs.take j).filter (fun z=>decide (x1<(tag z).1)):=by
        rw[mQ,fD,fZ (by show ¬decide (x1<y)=true;simp;omega)];simp
       obtain⟨QJ,D7,JF,NC,bDA⟩:=aM hf mQ rV wO hyt;clear hf mQ rV wO hyt;go_wp2_with fail
       go_quiet (fail)
       have jQ:=aA (jT.o.trans (((Qt.refl wr).step nq).below _));go_wp2_with fail
       go_roundw
       case rel=>exact⟨j+1,m,_,_,by omega,by omega,by go_num,rfl,by rw[QJ.o];exact FY,jQ⟩
       case measure=>simp[intOf];omega
     ·obtain rfl:j=n:=by omega
      have kS:zs.take j=zs:=bK (by rw[mX.o];exact aZ _);have WN:=FY.o;rw[kS]at WN;have WL:∀z∈zs.take i++ [((x1,x2,x3,xa,xn,xc),d)]++zs.filter (fun z=>decide (x1<(tag z).1)),Rd wr z∧z.1.2.2.2.2.1≤1000000:=fun z hz=>by
       rcases bP.1 hz with hz|hz
       ·rcases bP.1 hz with hz|hz
        ·exact⟨(pX.o.each z (eT hz)).mono qR.o,UB.o z (eT hz)⟩
        ·obtain rfl:z=_:=by simpa using hz
         exact⟨TR.o.mono qR.o,hxn⟩
       ·exact⟨(pX.o.each z (iF.1 hz).1).mono qR.o,UB.o z (iF.1 hz).1⟩
      have hT:Tr wr a2 m c2 (zs.take i++ [((x1,x2,x3,xa,xn,xc),d)]++zs.filter (fun z=>decide (x1<(tag z).1))):=⟨(Sl.jU WN).1,fun z hz=>(WL z hz).1⟩;have hO:=YL a2 m c2 _ wr hT aG (fun z hz=>(WL z hz).2);obtain⟨UO,b5N,hT',zZ,bM9⟩:=aM kS WN hT hO WL;clear kS WN hT hO WL;go_wp2_with fail
      refine zZ.o.mono ?_;rintro e w2 ⟨a6,c6,zs',rfl,vS,A8,wQ⟩;have PZ:=vS.le qR.o.size;have jZ:=qR.o.tm wQ;obtain⟨Q6,NA,D8,jM,CB⟩:=aM vS PZ A8 jZ wQ;clear vS PZ A8 jZ wQ;go_wp2_with fail
      go_ret;refine⟨_,_,_,zs',rfl,NA.o,?_,jM.o⟩;rw[D8.o];unfold zG;rw[htw.o,dI,dI,gX,a19 (p:=fun y=>decide (x1<y.1))];simp[tag]
  ·have hdi:decide ((i:Int)<(n:Int))=false:=by simp;omega
   have htw:=aA (show(zs.map tag).takeWhile (fun y'=>decide (y'.1<x1))=(zs.map tag).take i from aJZ (fun y' hy'=>by simpa using hlo.o y' hy') (fun h=>absurd h (by rw[bL,mX.o];omega)));go_wp2_with fail
   go_quiet (fail)
   have yV:=mX.o;go_wp2_with (at_builtin;refine kK rfl _ _ 22 rfl (w.heap.size+1) 74 i0 z0 4 48 Tryz.underlying22 xH hz oG qK QG aH _ (i) _ rfl (eG kY.o _) _ 1 1 [.int .i64 x1,.int .i64 x2,.int .i64 x3,.slice xa xn xc] rfl (Sl.new' _ 74 4 1 #[.int .i64 x1,.int .i64 x2,.int .i64 x3,.slice xa xn xc] (0,0) (by simp) aG rfl) (by simp[Value.oneCell']) aG aH (bQ (gT zL.o.symm) ((hb.o.trans (((Qt.refl wr).step nq).below _)).alloc (by rw[←zL.o];exact hb.o.size) _).size) ?_;intro a7 c7 w7 ob rE hg7;have Ob:=aA (UN (z:=((x1,x2,x3,xa,xn,xc),d)) ob);have Hb7:=aA (((hb.o.trans (((Qt.refl wr).step nq).below _)).alloc (by rw[←zL.o];exact hb.o.size) _).trans rE);clear ob rE hg7)
   clear p0 p1 p2 p3 br';clear qR;go_loopw [5,7] (fun ov iv wr=>∃(j m:Nat) (a1:Option Addr) (c1:Nat),j≤n∧m≤i+1+j∧iv= .int .i64 j∧ov= .slice a1 m c1∧Hid (wr.ownsRow (w.heap.size+1) 74 4 (.slice a1 m c1) m (zc (zs.take i++ [((x1,x2,x3,xa,xn,xc),d)]++(zs.take j).filter (fun z=>decide (x1<(tag z).1)))))∧Hid (Below (w.heap.size+1) w1 wr)) (fun _ iv _=>n - (intOf iv).toNat)
   case atStart=>exact⟨0,i+1,a7,c7,by omega,by omega,rfl,rfl,aA (by have:=Ob.o;simpa using this),Hb7⟩
   case round=>
    obtain⟨j,m,a2,c2,hjn,hmj,rfl,rfl,FY,jT⟩:=hrel;have qR:=aA (lF.o.trans (jT.o.mono (Nat.le_succ _)));have br:=jW.mono b0'.o jT.o (Nat.lt_succ_self _);have p0:=br.cell (i:=0) rfl;have br':=aA br;clear br;by_cases hj:j<n
    ·have hjl:(j:Int)<(n:Int):=by omega
     have hww:IntKind.i64.wrap ((j:Int)+1)=j+1:=by rw[bF];omega
     obtain⟨b,o,ZT,lC,f0,f1,f2,f3,rV⟩:=(pX.o.mono qR.o).at hj;first|subst ZT|(simp only[fG,Addr.mk.injEq]at ZT;obtain⟨rfl,rfl, -⟩:=ZT)
     have mQ:=X6 (zs:=zs) (i:=j) (by rw[mX.o];exact hj);obtain⟨⟨⟨y,ty,k,ya,yn,yc⟩,yd⟩,wO⟩:∃z,zs.getD j rO=z:=⟨_,rfl⟩;rw[wO]at f0 f1 f2 f3 rV mQ;simp only at f0 f1 f2 f3;by_cases hyt:x1<y
     ·have hf:zs.take i++ [((x1,x2,x3,xa,xn,xc),d)]++(zs.take (j+1)).filter (fun z=>decide (x1<(tag z).1))=(zs.take i++ [((x1,x2,x3,xa,xn,xc),d)]++(zs.take j).filter (fun z=>decide (x1<(tag z).1)))++ [((y,ty,k,ya,yn,yc),yd)]:=by
       rw[mQ,fD,fI (by simp[tag,hyt])];simp
      obtain⟨QJ,D7,JF,NC⟩:=aL hf mQ rV wO;clear hf mQ rV wO;go_wp2_with fail
      go_quiet (fail)
      go_wp2_with (at_builtin;refine kK rfl _ _ 22 rfl (w.heap.size+1) 74 i0 z0 4 48 Tryz.underlying22 xH hz oG qK QG aH _ (m) _ rfl (eG FY.o _) _ 1 1 [.int .i64 y,.int .i64 ty,.int .i64 k,.slice ya yn yc] rfl (Sl.new' _ 74 4 1 #[.int .i64 y,.int .i64 ty,.int .i64 k,.slice ya yn yc] (0,0) (by simp) aG rfl) (by simp[Value.oneCell']) aG aH (bQ (gT zL.o.symm) ((jT.o.trans (((Qt.refl wr).step nq).below _)).alloc (by rw[←zL.o];exact jT.o.size) _).size) ?_;intro a7 c7 w7 ob rE hg7;have Ob:=aA (UN (z:=((y,ty,k,ya,yn,yc),yd)) ob);have Hb7:=aA (((jT.o.trans (((Qt.refl wr).step nq).below _)).alloc (by rw[←zL.o];exact jT.o.size) _).trans rE);clear ob rE hg7)
      go_roundw
      case rel=>exact⟨j+1,m+1,_,_,by omega,by omega,by go_num,rfl,by rw[QJ.o];exact Ob,Hb7⟩
      case measure=>simp[intOf];omega
     ·have hd:decide (x1<y)=false:=by simp;omega
      have hf:zs.take i++ [((x1,x2,x3,xa,xn,xc),d)]++(zs.take (j+1)).filter (fun z=>decide (x1<(tag z).1))=zs.take i++ [((x1,x2,x3,xa,xn,xc),d)]++(zs.take j).filter (fun z=>decide (x1<(tag z).1)):=by
       rw[mQ,fD,fZ (by show ¬decide (x1<y)=true;simp;omega)];simp
      obtain⟨QJ,D7,JF,NC,bDA⟩:=aM hf mQ rV wO hyt;clear hf mQ rV wO hyt;go_wp2_with fail
      go_quiet (fail)
      have jQ:=aA (jT.o.trans (((Qt.refl wr).step nq).below _));go_wp2_with fail
      go_roundw
      case rel=>exact⟨j+1,m,_,_,by omega,by omega,by go_num,rfl,by rw[QJ.o];exact FY,jQ⟩
      case measure=>simp[intOf];omega
    ·obtain rfl:j=n:=by omega
     have kS:zs.take j=zs:=bK (by rw[mX.o];exact aZ _);have WN:=FY.o;rw[kS]at WN;have WL:∀z∈zs.take i++ [((x1,x2,x3,xa,xn,xc),d)]++zs.filter (fun z=>decide (x1<(tag z).1)),Rd wr z∧z.1.2.2.2.2.1≤1000000:=fun z hz=>by
      rcases bP.1 hz with hz|hz
      ·rcases bP.1 hz with hz|hz
       ·exact⟨(pX.o.each z (eT hz)).mono qR.o,UB.o z (eT hz)⟩
       ·obtain rfl:z=_:=by simpa using hz
        exact⟨TR.o.mono qR.o,hxn⟩
      ·exact⟨(pX.o.each z (iF.1 hz).1).mono qR.o,UB.o z (iF.1 hz).1⟩
     have hT:Tr wr a2 m c2 (zs.take i++ [((x1,x2,x3,xa,xn,xc),d)]++zs.filter (fun z=>decide (x1<(tag z).1))):=⟨(Sl.jU WN).1,fun z hz=>(WL z hz).1⟩;have hO:=YL a2 m c2 _ wr hT aG (fun z hz=>(WL z hz).2);obtain⟨UO,b5N,hT',zZ,bM9⟩:=aM kS WN hT hO WL;clear kS WN hT hO WL;go_wp2_with fail
     refine zZ.o.mono ?_;rintro e w2 ⟨a6,c6,zs',rfl,vS,A8,wQ⟩;have PZ:=vS.le qR.o.size;have jZ:=qR.o.tm wQ;obtain⟨Q6,NA,D8,jM,CB⟩:=aM vS PZ A8 jZ wQ;clear vS PZ A8 jZ wQ;go_wp2_with fail
     go_ret;refine⟨_,_,_,zs',rfl,NA.o,?_,jM.o⟩;rw[D8.o];unfold zG;rw[htw.o,dI,dI,gX,a19 (p:=fun y=>decide (x1<y.1))];simp[tag]
def wS (ts:List Tg):Bool:=ts.any (fun x=>decide (600<x.2.2.2.length))||decide (60<ts.length)
def EW (ts:List Tg):Bool:=decide (∀i,i<ts.length - 1→(ts.getD i (0,0,0, [])).1<(ts.getD (i+1) (0,0,0, [])).1)
theorem KU {ts:List Tg}:EW ts=true↔∀i,i+1<ts.length→(ts.getD i (0,0,0, [])).1<(ts.getD (i+1) (0,0,0, [])).1:=by
 unfold EW;rw[decide_eq_true_iff];exact⟨fun h i hi=>h i aG,fun h i hi=>h i aG⟩
theorem a7I {ts:List Tg} {i:Nat} (hi:i+1<ts.length) (h:(ts.getD (i+1) (0,0,0, [])).1≤(ts.getD i (0,0,0, [])).1):EW ts=false:=by
 cases hb:EW ts
 ·rfl
 ·have:=KU.1 hb i hi;omega
theorem aMJ (a:Option Addr) (n c:Nat) (ts:List Tg) (w:World) (h:Ts w a n c ts):
  Calls Tryz.prog 135 #[.slice a n c] w fun e w'=>e= .returned (.bool (EW ts))∧Qt w w':=by
 have hm:=h.max;have hl:=h.len;obtain⟨H,Hl⟩:=aJ h hl;clear h hl;obtain⟨r,hr⟩:=aC (EW ts);rw[hr];have Hr:=aA hr;clear hr;go_enter Tryz.func135,Tryz.ntmps135;go_wp2;go_loopw [3] (fun i wr=>∃k:Nat,k≤n∧i= .int .i64 ((k:Int)+1)∧Hid (∀j,j<k→j+1<n→(ts.getD j (0,0,0, [])).1<(ts.getD (j+1) (0,0,0, [])).1)∧Qt w wr) (fun i _=>n+1 - (intOf i).toNat)
 case atStart=>exact⟨0,by omega,rfl,aA (fun j hj=>by omega),Qt.refl _⟩
 case round=>
  obtain⟨k,hk,rfl,kS,hq⟩:=hrel;by_cases kD:k+1<n
  ·obtain⟨b,o,a1,n1,c1,rfl,hb,e0,_,_,_,_⟩:=H.o.at kD;obtain⟨b',o',a2,n2,c2,ZT,_,e0',_,_,_,_⟩:=H.o.at (show k<n by omega);injection ZT with ZT;injection ZT with jY jT;subst jY jT;obtain⟨u,hu⟩:∃u,(ts.getD k (0,0,0, [])).1=u:=⟨_,rfl⟩;obtain⟨v,hv⟩:∃v,(ts.getD (k+1) (0,0,0, [])).1=v:=⟨_,rfl⟩;rw[hu]at e0';rw[hv]at e0;obtain⟨Hu,Hv⟩:=aJ hu hv;clear hu hv;have QH:((k:Int)+1)<(n:Int):=by omega
   have hw:IntKind.i64.wrap ((k:Int)+1 - 1)=(k:Int):=by rw[bF];omega
   have MQ:((k:Int)+1).toNat=k+1:=by omega
   obtain⟨j,rfl⟩:=hq.ex;by_cases he:v≤u
   ·have f1:decide (v≤u)=true:=decide_eq_true he;obtain rfl:r=false:=by rw[←Hr.o];exact a7I (i:=k) (by rw[Hl.o];exact kD) (by rw[Hu.o,Hv.o];exact he)
    clear he;go_wp2_with fail
    go_quiet (fail)
    go_wp2;go_ret;exact⟨rfl,hq.step _⟩
   ·have f1:decide (v≤u)=false:=decide_eq_false he;have mQ:Hid (∀j,j<k+1→j+1<n→(ts.getD j (0,0,0, [])).1<(ts.getD (j+1) (0,0,0, [])).1):=aA (fun j hj hj2=>by
     rcases dM j k with h|h
     ·exact kS.o j h hj2
     ·obtain rfl:j=k:=by omega
      rw[Hu.o,Hv.o];omega)
    clear he kS;go_wp2_with fail
    go_quiet (fail)
    go_wp2;go_roundw
    case rel=>exact⟨k+1,by omega,by go_num,mQ,⟨_,rfl⟩⟩
    case measure=>simp[intOf];omega
  ·obtain rfl:r=true:=by rw[←Hr.o];exact KU.2 (fun i hi=>kS.o i (by rw[Hl.o]at hi;omega) (by rw[Hl.o]at hi;exact hi))
   clear kS;go_wp2;go_ret;exact⟨rfl,hq⟩
def pK (dir:Int) (ts:List Tg):Bool:=ts.all (ER dir)&&EW ts&&decide (0≤dir)&&decide (dir≤5)
theorem aQ0 {ts:List Tg} {n k:Nat} (hl:ts.length=n) (hk:k<n):ts.getD k (0,0,0, [])∈ts:=by
 rw[bH,bI aG];exact bJ _
theorem aQ1 {ts:List Tg} {n:Nat} {dir:Int} (hl:ts.length=n) (h:∀j,j<n→ER dir (ts.getD j (0,0,0, []))=true):ts.all (ER dir)=true:=by
 rw[dQ];intro x hx;obtain⟨i,hi,rfl⟩:=fM.1 hx;have:=h i aG;rwa [bH,bI hi]at this
theorem aQ2 {ts:List Tg} {n k:Nat} {dir:Int} (hl:ts.length=n) (hk:k<n) (h:ER dir (ts.getD k (0,0,0, []))=false):ts.all (ER dir)=false:=by
 cases hb:ts.all (ER dir)
 ·rfl
 ·have:=dQ.1 hb _ (aQ0 hl hk);rw[h]at this;cases this
theorem ND (dir:Int) (a:Option Addr) (n c:Nat) (ts:List Tg) (w:World) (h:Ts w a n c ts):
  Calls Tryz.prog 70 #[.int .i64 dir,.slice a n c] w fun e w'=>e= .returned (.bool (pK dir ts))∧Below w.heap.size w w':=by
 have hm:=h.max;have hl:=h.len;obtain⟨H,Hl⟩:=aJ h hl;clear h hl;obtain⟨r,hr⟩:=aC (pK dir ts);rw[hr];have Hr:=aA hr;clear hr;go_enter Tryz.func70,Tryz.ntmps70;go_wp2;go_loopw [5] (fun i wr=>∃k:Nat,k≤n∧i= .int .i64 k∧Hid (∀j,j<k→ER dir (ts.getD j (0,0,0, []))=true)∧Below w.heap.size w wr) (fun i _=>n - (intOf i).toNat)
 case atStart=>exact⟨0,by omega,rfl,aA (fun j hj=>by omega),aY _ _⟩
 case round=>
  obtain⟨k,hk,rfl,kS,hb⟩:=hrel;by_cases kD:k<n
  ·obtain⟨b,o,a1,n1,c1,rfl,xI,e0,e1,e2,e3,hs⟩:=(H.o.mono hb).at kD;obtain⟨⟨tg,ty,ct,d⟩,hx⟩:∃x,ts.getD k (0,0,0, [])=x:=⟨_,rfl⟩;rw[hx]at e0 e1 e2 hs;simp only at e0 e1 e2 hs;have Hx:=aA hx;clear hx;obtain⟨m,UA⟩:=aC (DJ dir tg ty ct d);have KH:=aME dir tg ty ct a1 n1 c1 d wr hs;rw[UA]at KH;have Hmm:Hid (ER dir (tg,ty,ct,d)=m):=aA UA;clear UA hs;go_wp2_with fail
   refine KH.mono ?_;rintro e w2 ⟨rfl,jT⟩;have jQ:=hb.tm jT;clear KH jT e0 e1 e2 e3;cases m
   ·obtain rfl:r=false:=by
     rw[←Hr.o];unfold pK;rw[aQ2 Hl.o kD (by rw[Hx.o];exact Hmm.o)];rfl
    go_wp2;go_ret;exact⟨rfl,jQ⟩
   ·have mQ:Hid (∀j,j<k+1→ER dir (ts.getD j (0,0,0, []))=true):=aA (fun j hj=>by
     rcases dM j k with h|h
     ·exact kS.o j h
     ·obtain rfl:j=k:=by omega
      rw[Hx.o];exact Hmm.o)
    clear kS;go_wp2;go_roundw
    case rel=>exact⟨k+1,by omega,by go_num,mQ,jQ⟩
    case measure=>simp[intOf];omega
  ·have ha:ts.all (ER dir)=true:=aQ1 Hl.o (fun j hj=>kS.o j aG);have hrr:r=(EW ts&&decide (0≤dir)&&decide (dir≤5)):=by
    rw[←Hr.o];unfold pK;rw[ha,dD]
   have Hrr:=aA hrr;clear ha hrr kS;have hri:=aMJ a n c ts wr (H.o.mono hb);obtain⟨q,hq⟩:=aC (EW ts);rw[hq]at hri;have Hq:=aA hq;clear hq;go_wp2_with fail
   refine hri.mono ?_;rintro e w2 ⟨rfl,nD⟩;have jQ:=hb.trans (nD.below _);clear hri nD;cases q
   ·obtain rfl:r=false:=by rw[Hrr.o,Hq.o];rfl
    go_wp2;go_ret;exact⟨rfl,jQ⟩
   ·have U9:r=(decide (0≤dir)&&decide (dir≤5)):=by rw[Hrr.o,Hq.o];simp
    have Hr2:=aA U9;clear U9;by_cases t1:0≤dir
    ·by_cases t2:dir≤5
     ·obtain rfl:r=true:=by rw[Hr2.o,decide_eq_true t1,decide_eq_true t2];rfl
      go_wp2;go_ret;exact⟨rfl,jQ⟩
     ·obtain rfl:r=false:=by rw[Hr2.o,decide_eq_false t2];simp
      go_wp2;go_ret;exact⟨zO (decide_eq_false aG),jQ⟩
    ·obtain rfl:r=false:=by rw[Hr2.o,decide_eq_false t1];simp
     go_wp2;go_ret;exact⟨rfl,jQ⟩
