import Derived.Test.YtceclmpmpldmlaaGreatCw08
set_option linter.unusedSimpArgs false
set_option linter.unusedVariables false
set_option maxRecDepth 100000
set_option maxHeartbeats 8000000
namespace Go.Proofs.YtceclmpmpldmlaaGreat
open Go.RowKit Tt
def zZ (a l e:Int):Bool:=decide (0≤a)&&decide (0≤l)&&decide (a≤e)&&decide (l≤e - a)
def G6 (ty cnt:Int):Int:=if cnt<1∨65536<cnt then 0 else cnt*(lI ty).1
def rT (ty cnt:Int):Int:=if 4<G6 ty cnt then G6 ty cnt else 0
def aIZ (ty cnt:Int):Bool:=decide (0<G6 ty cnt)&&decide (G6 ty cnt≤4)
theorem WR (ty cnt:Int):0≤G6 ty cnt∧G6 ty cnt≤524288:=by
 unfold G6;have:=DW ty;split
 ·omega
 ·rename_i h;have h1:cnt*(lI ty).1≤65536*8:=jL aG this.2 this.1 aG;exact⟨jT aG this.1,by omega⟩
theorem a3Z (a l e:Int) (w:World) (h0:0≤e) (h1:e≤9223372036854775807):Calls Tryz.prog 111 #[.int .i64 a,.int .i64 l,.int .i64 e] w fun x w'=>x= .returned (.bool (zZ a l e))∧w=w':=by
 unfold zZ;by_cases ha:0≤a
 ·by_cases hl:0≤l
  ·by_cases he:a≤e
   ·have hw:=aB (e - a) aG;simp only[ha,hl,he,decide_true,dL];go_enter Tryz.func111,Tryz.ntmps111;go_wp2;go_ret;exact⟨rfl,rfl⟩
   ·simp only[ha,hl,he,decide_true,decide_false,dL,jN];go_enter Tryz.func111,Tryz.ntmps111;go_wp2;go_ret;exact⟨rfl,rfl⟩
  ·simp only[ha,hl,decide_true,decide_false,dL,jN];go_enter Tryz.func111,Tryz.ntmps111;go_wp2;go_ret;exact⟨rfl,rfl⟩
 ·simp only[ha,decide_false,jN];go_enter Tryz.func111,Tryz.ntmps111;go_wp2;go_ret;exact⟨rfl,rfl⟩
theorem aE1 (n:Int) (w:World):Calls Tryz.prog 229 #[.int .i64 n] w fun e w'=>e= .returned (.int .i64 (lI n).1)∧Below w.heap.size w w':=by
 have hK:=WL n w;generalize (lI n).1=s1 at*;generalize (lI n).2.1=s2 at*;generalize (lI n).2.2=s3 at*;have hF:∀W,(Instr.field 185 (.agg #[.int .i64 s1,.int .i64 s2,.int .i64 s3]) 0).run Tryz.prog W= .ok (.int .i64 s1) W:=fun W=>by kernel_rfl
 have hK':=aA hK;clear hK;go_enter Tryz.func229,Tryz.ntmps229;go_wp2_with fail
 refine hK'.o.mono ?_;rintro e w1 ⟨rfl,kV⟩;have HB:=aA kV;clear kV;go_wp2_with fail
 go_ret;exact⟨rfl,HB.o⟩
theorem aE2 (ty cnt:Int) (w:World):Calls Tryz.prog 165 #[.int .i64 ty,.int .i64 cnt] w fun e w'=>e= .returned (.int .i64 (G6 ty cnt))∧Below w.heap.size w w':=by
 have hk:=DW ty;unfold G6;by_cases h:cnt<1
 ·rw[if_pos (.inl h)];go_enter Tryz.func165,Tryz.ntmps165;go_wp2;go_ret;exact⟨rfl,bF _ _⟩
 ·have d1:decide (cnt<1)=false:=by simp;omega
  by_cases h2:65536<cnt
  ·rw[if_pos (.inr h2)];go_enter Tryz.func165,Tryz.ntmps165;go_wp2;go_ret;exact⟨rfl,bF _ _⟩
  ·have d2:decide (65536<cnt)=false:=by simp;omega
   rw[if_neg aG];have h3:cnt*(lI ty).1≤65536*8:=jL aG hk.2 hk.1 aG;have h4:0≤cnt*(lI ty).1:=jT aG hk.1;have hS:=fun W=>aE1 ty W;generalize (lI ty).1=s at*;have hw:=aB (cnt*s) aG;obtain⟨WG,hS'⟩:=aJ hk hS;clear hk hS;go_enter Tryz.func165,Tryz.ntmps165;go_wp2_with (go_at_call 229;refine(hS'.o _).mono ?_;rintro e w1 ⟨rfl,kV⟩;have HB:=aA kV;clear kV)
   go_ret;exact⟨rfl,HB.o⟩
theorem aMO (ty cnt:Int) (w:World):Calls Tryz.prog 161 #[.int .i64 ty,.int .i64 cnt] w fun e w'=>e= .returned (.int .i64 (rT ty cnt))∧Below w.heap.size w w':=by
 have hK:=aE2 ty cnt w;unfold rT;generalize G6 ty cnt=s at*;have hK':=aA hK;clear hK;by_cases h:4<s
 ·rw[if_pos h];go_enter Tryz.func161,Tryz.ntmps161;go_wp2_with (go_at_call 165;refine(hK'.o).mono ?_;rintro e w1 ⟨rfl,kV⟩;have HB:=aA kV;clear kV)
  go_ret;exact⟨rfl,HB.o⟩
 ·have d:decide (4<s)=false:=by simp;omega
  rw[if_neg h];go_enter Tryz.func161,Tryz.ntmps161;go_wp2_with (go_at_call 165;refine(hK'.o).mono ?_;rintro e w1 ⟨rfl,kV⟩;have HB:=aA kV;clear kV)
  go_ret;exact⟨rfl,HB.o⟩
theorem b2W (ty cnt:Int) (w:World):Calls Tryz.prog 113 #[.int .i64 ty,.int .i64 cnt] w fun e w'=>e= .returned (.bool (aIZ ty cnt))∧Below w.heap.size w w':=by
 have hK:=aE2 ty cnt w;unfold aIZ;generalize G6 ty cnt=s at*;have hK':=aA hK;clear hK;by_cases h:0<s
 ·simp only[h,decide_true,dL];go_enter Tryz.func113,Tryz.ntmps113;go_wp2_with (go_at_call 165;refine(hK'.o).mono ?_;rintro e w1 ⟨rfl,kV⟩;have HB:=aA kV;clear kV)
  go_ret;exact⟨rfl,HB.o⟩
 ·have d:decide (0<s)=false:=by simp;omega
  rw[d,jN];go_enter Tryz.func113,Tryz.ntmps113;go_wp2_with (go_at_call 165;refine(hK'.o).mono ?_;rintro e w1 ⟨rfl,kV⟩;have HB:=aA kV;clear kV)
  go_ret;exact⟨rfl,HB.o⟩
def ofS (ty cnt:Int) (b:List Int) (o:Int):Option (List Int):=
 if(lI ty).1=0∨cnt<1∨65536<cnt∨(b.length:Int)<cnt*(lI ty).1 then none
 else if wH ty cnt (rA (b.take (cnt*(lI ty).1).toNat) (lI ty).2.1 o)=true then some (rA (b.take (cnt*(lI ty).1).toNat) (lI ty).2.1 o)else none
theorem aMP {ty cnt:Int} {b d:List Int} {o:Int} (h:ofS ty cnt b o=some d):(d.length:Int)=cnt*(lI ty).1:=by
 unfold ofS at h;split at h
 ·cases h
 ·split at h
  ·rename_i h1 h2;obtain rfl:_=d:=by simpa using h
   unfold wH at h2;simp at h2;exact h2.1.2
  ·cases h
theorem bC8 {ty cnt:Int} {b:List Int} {o:Int} (h:(lI ty).1=0∨cnt<1∨65536<cnt∨(b.length:Int)<cnt*(lI ty).1):ofS ty cnt b o=none:=by
 unfold ofS;rw[if_pos h]
theorem aMQ {ty cnt:Int} {b:List Int} {o:Int} (h:¬((lI ty).1=0∨cnt<1∨65536<cnt∨(b.length:Int)<cnt*(lI ty).1)):
  ofS ty cnt b o=if wH ty cnt (rA (b.take (cnt*(lI ty).1).toNat) (lI ty).2.1 o)=true then some (rA (b.take (cnt*(lI ty).1).toNat) (lI ty).2.1 o)else none:=by
 unfold ofS;rw[if_neg h]
abbrev bC9 (w:World) (ty cnt:Int) (R:Option (List Int)) (e:Ending) (w':World):Prop:=
 ∃ty' cnt' a2 m c2,e= .returned (.tuple #[.agg #[.int .i64 ty',.int .i64 cnt',.slice a2 m c2],.bool R.isSome])∧Below w.heap.size w w'∧
  ∀d,R=some d→ty'=ty∧cnt'=cnt∧w'.ownsRow w.heap.size 5 1 (.slice a2 m c2) m (ints .u8 d)
theorem aTA (ty cnt:Int) (a:Option Addr) (n c:Nat) (b:List Int) (o:Int) (w:World) (hs:Sl w a n c 1 (ints .u8 b)) (qL:pF b):
  Calls Tryz.prog 54 #[.int .i64 ty,.int .i64 cnt,.slice a n c,.int .i64 o] w (bC9 w ty cnt (ofS ty cnt b o)):=by
 have D9:=hs.p9;have FI:=hs.le;have UC:=hs.max;have tC:=DW ty;have hK:=WL ty;have sJ:=bC8 (ty:=ty) (cnt:=cnt) (b:=b) (o:=o);have UJ:=aMQ (ty:=ty) (cnt:=cnt) (b:=b) (o:=o);generalize ofS ty cnt b o=R at*;obtain⟨sz,bTG⟩:∃s,(lI ty).1=s:=⟨_,rfl⟩;obtain⟨pt,bJQ⟩:∃s,(lI ty).2.1=s:=⟨_,rfl⟩;rw[bTG]at tC hK sJ UJ;rw[bJQ]at hK UJ;generalize (lI ty).2.2=is at*;clear bTG bJQ;rw[D9]at sJ UJ;obtain⟨sK,vR⟩:=aJ hs qL;obtain⟨vE,hK',aE3,vT⟩:=aL D9 hK UJ sJ;clear hs qL D9 hK UJ sJ;go_enter Tryz.func54,Tryz.ntmps54;go_wp2_with fail
 refine(hK'.o _).mono ?_;rintro e w1 ⟨rfl,kV⟩;have b0:kG w1 w.heap.size 72 #[.int .i64 0,.int .i64 0,.slice none 0 0]:=kG.late (kG.new w _ _) kV;have EI:=(aD w (.cells #[.int .i64 0,.int .i64 0,.slice none 0 0] 72)).trans (kV.mono (by simp));have bUG:=b0.lt;clear kV;go_upto_region 2 with fail
 have b0:=b0.alloc (.cells #[.int .i64 sz,.int .i64 pt,.int .i64 is] 185);have EI:=EI.alloc EI.size (.cells #[.int .i64 sz,.int .i64 pt,.int .i64 is] 185);have b1:kG (w1.alloc (.cells #[.int .i64 sz,.int .i64 pt,.int .i64 is] 185)) w1.heap.size 185 #[.int .i64 sz,.int .i64 pt,.int .i64 is]:=kG.new _ _ _;have h01:w.heap.size<w1.heap.size:=bUG;generalize (w1.alloc (.cells #[.int .i64 sz,.int .i64 pt,.int .i64 is] 185))=W at*;obtain⟨g1,hg1⟩:∃g,w1.heap.size=g:=⟨_,rfl⟩;rw[hg1]at b1 h01;rw[hg1];have c0:=b1.cell (i:=0) rfl;have p0:=b0.cell (i:=0) rfl;have p1:=b0.cell (i:=1) rfl;have p2:=b0.cell (i:=2) rfl;have y0:=b0.frozen 0;have y1:=b0.frozen 1;have y2:=b0.frozen 2;clear hg1;obtain⟨b0',JK,b1'⟩:=aK b0 EI b1;clear b0 EI b1;by_cases t1:sz=0
 ·subst t1;obtain rfl:=vT.o (.inl rfl);go_wp2;refine bodyPost_ret (kJ rfl _ _ w.heap.size 72 #[.int .i64 0,.int .i64 0,.slice none 0 0] _ rfl (b0'.o.D5 _ _ _) Tryz.underlying72 rfl aF) rfl ?_;exact⟨0,0,none,0,0,rfl,lT JK.o (aY _) _ _ _,fun d h=>by cases h⟩
 have f1:(sz==0)=false:=by simp[t1]
 by_cases t2:cnt<1
 ·obtain rfl:=vT.o (.inr (.inl t2));have f2:decide (cnt<1)=true:=by simp;omega
  go_wp2;refine bodyPost_ret (kJ rfl _ _ w.heap.size 72 #[.int .i64 0,.int .i64 0,.slice none 0 0] _ rfl (b0'.o.D5 _ _ _) Tryz.underlying72 rfl aF) rfl ?_;exact⟨0,0,none,0,0,rfl,lT JK.o (aY _) _ _ _,fun d h=>by cases h⟩
 have f2:decide (cnt<1)=false:=by simp;omega
 by_cases t3:65536<cnt
 ·obtain rfl:=vT.o (.inr (.inr (.inl t3)));have f3:decide (65536<cnt)=true:=by simp;omega
  go_wp2;refine bodyPost_ret (kJ rfl _ _ w.heap.size 72 #[.int .i64 0,.int .i64 0,.slice none 0 0] _ rfl (b0'.o.D5 _ _ _) Tryz.underlying72 rfl aF) rfl ?_;exact⟨0,0,none,0,0,rfl,lT JK.o (aY _) _ _ _,fun d h=>by cases h⟩
 have f3:decide (65536<cnt)=false:=by simp;omega
 obtain⟨L,hL⟩:∃L:Nat,cnt*sz=L:=by
  have:=jT (show 0≤cnt by omega) tC.1;exact⟨(cnt*sz).toNat,by omega⟩
 have hL2:(L:Int)≤65536*8:=by rw[←hL];exact jL aG aG aG aG
 have hw:IntKind.i64.wrap (cnt*sz)=L:=by rw[bJ,hL];omega
 by_cases t4:(n:Int)<cnt*sz
 ·obtain rfl:=vT.o (.inr (.inr (.inr t4)));rw[hL]at t4;have f4:decide ((n:Int)<L)=true:=by simp;omega
  go_wp2;refine bodyPost_ret (kJ rfl _ _ w.heap.size 72 #[.int .i64 0,.int .i64 0,.slice none 0 0] _ rfl (b0'.o.D5 _ _ _) Tryz.underlying72 rfl aF) rfl ?_;exact⟨0,0,none,0,0,rfl,lT JK.o (aY _) _ _ _,fun d h=>by cases h⟩
 have hyy:=aE3.o (by intro h;rcases h with h|h|h|h <;> contradiction);have hRR:R=if wH ty cnt (rA (b.take L) pt o)=true then some (rA (b.take L) pt o)else none:=by rw[hyy,hL];rfl
 rw[hL]at t4;have f4:decide ((n:Int)<L)=false:=by simp;omega
 obtain⟨a2,qU,xV,z8⟩:=b6Y (P:=Tryz.prog) (T:=24) (E:=5) (sz:=1) Tryz.underlying24 (fun W=>by kernel_rfl) sK.o (L:Int) aG aG L rfl;rw[iH,show(ints .u8 b).take L=ints .u8 (b.take L) by simp[ints]]at xV;obtain⟨Ty,f,pQ,kI,kE⟩:=kM W;have q0:=fun s=>(kG.late b1'.o (kI s)).cell (i:=0) rfl;have q1:=fun s=>(kG.late b1'.o (kI s)).cell (i:=1) rfl;obtain⟨HS,HD⟩:=aJ (kE _ ((bF _ _).drew)) ((bF W.heap.size W).drew);have hLn:(L:Int)≤n:=by omega
 have hTN:=fun W' (h:Below w.heap.size w W')=>aT6 a2 L c (b.take L) pt o W' (xV.mono h) aG;clear hyy t1 t2 t3 p0 p1 p2 y0 y1 y2;obtain⟨kD,jV,a1T,a4A,aP5,bJR⟩:=aN kI kE xV z8 hRR hTN;clear kI kE xV z8 hRR hTN;go_wp2_with fail
 clear c0;refine kR (S:=fun W=>∃s,W=f s) aF 15 rfl ?_;refine jZ [0,1,2,3,4,5,6,7,8,9,10] 4 aF aI aF aF aF HS.o ?_;simp only[jW,aW,aX,aU,aV];iterate 11 (go_big_quiet_step (fail))
 refine wpQuiet_nil ?_;refine vC 11 13 3 aF aF ?_ ?_;all_goals simp only[jW,aW,aX,aU,aV]
 ·go_wp2_with fail
  refine(bJR.o _ (JK.o.tm HD.o)).mono ?_;rintro e w2 ⟨a5,m5,c5,rfl,ho,kP⟩;have hb:=HD.o.tm kP;obtain⟨HS,pW,JG,pG⟩:=aL (jV.o _ hb) hb ho kP;clear hb ho kP;go_wp2_with fail
  first|refine Mid.mk ⟨HS.o,?_⟩|refine Mid.mk ?_
  refine jZ [12] 2 aF aI aF aF aF HS.o ?_;simp only[jW,aW,aX,aU,aV];iterate 1 (go_big_quiet_step (fail))
  refine wpQuiet_nil ?_;refine jX 13 1 aF aF ?_;simp only[jW,aW,aX,aU,aV];go_wp2_with fail
  have ho3:=l6 JG.o (aD w2 (.cells #[.int .i64 0,.int .i64 0,.slice none 0 0] 72));have kT:=pW.o.alloc pW.o.size (.cells #[.int .i64 0,.int .i64 0,.slice none 0 0] 72);have b3:kG (w2.alloc (.cells #[.int .i64 0,.int .i64 0,.slice none 0 0] 72)) w2.heap.size 72 #[.int .i64 0,.int .i64 0,.slice none 0 0]:=kG.new _ _ _;have h23:W.heap.size≤w2.heap.size:=pW.o.size;have hog:(Value.slice a5 m5 c5).ownBlock≠some w2.heap.size:=fun hx=>by have:=(JG.o.lt _ hx).2;omega
  have HS:=aA (jV.o _ kT);obtain⟨g3,Z0⟩:∃g,w2.heap.size=g:=⟨_,rfl⟩;generalize (w2.alloc (.cells #[.int .i64 0,.int .i64 0,.slice none 0 0] 72))=w3 at*;rw[Z0]at b3 h23 hog;rw[Z0];obtain⟨KX,sM,b3'⟩:=aK ho3 kT b3;clear ho3 kT b3;clear Z0;first|refine Mid.mk ⟨HS.o,?_⟩|refine Mid.mk ?_
  refine jX 14 0 aF aF ?_;simp only[jW,aW,aX,aU,aV];have p0:=b3'.o.cell (i:=0) rfl;have p1:=b3'.o.cell (i:=1) rfl;have p2:=b3'.o.cell (i:=2) rfl;have y0:=b3'.o.frozen 0;have y1:=b3'.o.frozen 1;have y2:=b3'.o.frozen 2;go_wp2_with fail
  have b4:=b3'.o.D5 (.int .i64 ty) (.int .i64 cnt) (.slice a5 m5 c5);have mX:=lT sM.o h23 (.int .i64 ty) (.int .i64 cnt) (.slice a5 m5 c5);have Z9:=mV KX.o ((((But.refl g3 w3).set 0 (.int .i64 ty)).set 1 (.int .i64 cnt)).set 2 (.slice a5 m5 c5)) hog;have HS:=aA (jV.o _ mX);refine Mid.mk ⟨HS.o,?_⟩;refine kH aF ?_;clear p0 p1 p2 y0 y1 y2 b3' sM KX;generalize (((w3.setCell ⟨g3,0,none⟩ (.int .i64 ty)).setCell ⟨g3,1,none⟩ (.int .i64 cnt)).setCell ⟨g3,2,none⟩ (.slice a5 m5 c5))=w4 at*;have c0:=b4.cell (i:=0) rfl;have c1:=b4.cell (i:=1) rfl;have c2:=b4.cell (i:=2) rfl;have b04:=b0'.o.late mX;have y8:=JK.o.tm mX;have hM:=RO ty cnt a5 m5 c5 (rA (b.take L) pt o) w4 (Sl.kZ Z9).1 (a3X (vR.o.take _) _ _);have hW4:=mX.size;have h0W:=b0'.o.lt;clear pG JG pW;obtain⟨r,hr⟩:=aC (wH ty cnt (rA (b.take L) pt o));rw[hr]at hM;have hRr:=aP5.o;rw[hr]at hRr;generalize hD:rA (b.take L) pt o=D at*;obtain⟨b4',xG,aB1,a1U,mP,hM',aTB,sH,hD'⟩:=aQ b4 mX Z9 b04 y8 hM hRr hr hD;clear b4 mX Z9 b04 y8 hM hRr hr hD;go_wp2_with fail
  refine hM'.o.mono ?_;rintro e w5 ⟨rfl,nV⟩;have b5:=a1U.o.late nV;have zA:=mP.o.tm nV;have ho5:=l6 aB1.o nV;have b35:=b4'.o.late nV;have c0:=b35.cell (i:=0) rfl;have c1:=b35.cell (i:=1) rfl;have c2:=b35.cell (i:=2) rfl;have p0:=b5.cell (i:=0) rfl;have p1:=b5.cell (i:=1) rfl;have p2:=b5.cell (i:=2) rfl;have y0:=b5.frozen 0;have y1:=b5.frozen 1;have y2:=b5.frozen 2;clear b35 nV;obtain⟨b5',pJ,aE4⟩:=aK b5 zA ho5;clear b5 zA ho5;cases r
  ·have hRr:=aTB.o;simp only[Bool.false_eq_true,if_false]at hRr;subst hRr;go_wp2_with fail
   refine bodyPost_ret (kJ rfl _ _ w.heap.size 72 #[.int .i64 0,.int .i64 0,.slice none 0 0] _ rfl (b5'.o.D5 _ _ _) Tryz.underlying72 rfl aF) rfl ?_;exact⟨0,0,none,0,0,rfl,lT pJ.o (aY _) _ _ _,fun d h=>by cases h⟩
  ·have hRr:=aTB.o;simp only[if_true]at hRr;subst hRr;go_wp2_with fail
   refine bodyPost_ret (kJ rfl _ _ w.heap.size 72 #[.int .i64 ty,.int .i64 cnt,.slice a5 m5 c5] _ rfl (b5'.o.D5 _ _ _) Tryz.underlying72 rfl aF) rfl ?_;exact⟨ty,cnt,a5,m5,c5,rfl,lT pJ.o (aY _) _ _ _,fun d h=>by
    obtain rfl:D=d:=by simpa using h
    exact⟨rfl,rfl,lN (OT (lN aE4.o (aY W.heap.size)) h0W _ _ _) (jO h0W)⟩⟩
 ·go_wp2_with fail
  have kT:=(aD W (.cells #[.int .i64 0,.int .i64 0,.slice none 0 0] 72)).drew;have b3:kG (W.alloc (.cells #[.int .i64 0,.int .i64 0,.slice none 0 0] 72)).drew W.heap.size 72 #[.int .i64 0,.int .i64 0,.slice none 0 0]:=kG.new W _ _;have aB2:(W.alloc (.cells #[.int .i64 0,.int .i64 0,.slice none 0 0] 72)).drew.heap.size=W.heap.size+1:=by show(W.alloc _).heap.size=_;simp
  have HS:=aA (jV.o _ kT);obtain⟨w3,xE⟩:∃w3,(W.alloc (.cells #[.int .i64 0,.int .i64 0,.slice none 0 0] 72)).drew=w3:=⟨_,rfl⟩;rw[xE]at kT b3 aB2 HS;rw[xE];clear xE;obtain⟨b3',sM⟩:=aJ b3 kT;clear b3 kT;first|refine Mid.mk ⟨HS.o,?_⟩|refine Mid.mk ?_
  refine jX 11 2 aF aF ?_;simp only[jW,aW,aX,aU,aV];go_wp2_with fail
  refine(bJR.o _ (JK.o.tm sM.o)).mono ?_;rintro e w2 ⟨a5,m5,c5,rfl,ho,kP⟩;have hb:=sM.o.tm kP;have HS:=aA (jV.o _ hb);have b3:=b3'.o.late kP;have hog:(Value.slice a5 m5 c5).ownBlock≠some W.heap.size:=fun hx=>by have:=(ho.lt _ hx).1;omega
  have ho:=lN ho sM.o.size;clear b3' sM aB2;obtain⟨pW,JG,pG,b3'⟩:=aL hb ho kP b3;clear hb ho kP b3;go_wp2_with fail
  first|refine Mid.mk ⟨HS.o,?_⟩|refine Mid.mk ?_
  refine jZ [12] 1 aF aI aF aF aF HS.o ?_;simp only[jW,aW,aX,aU,aV];iterate 1 (go_big_quiet_step (fail))
  refine wpQuiet_nil ?_;refine jX 14 0 aF aF ?_;simp only[jW,aW,aX,aU,aV];obtain⟨g3,Z0⟩:∃g,W.heap.size=g:=⟨_,rfl⟩;have h23:W.heap.size≤g3:=iG Z0;have sM:=pW;have KX:=JG;rw[Z0];rw[Z0]at hog b3';obtain⟨w3,xE⟩:=aC w2;rw[xE]at b3' sM KX;rw[xE];clear xE Z0;have p0:=b3'.o.cell (i:=0) rfl;have p1:=b3'.o.cell (i:=1) rfl;have p2:=b3'.o.cell (i:=2) rfl;have y0:=b3'.o.frozen 0;have y1:=b3'.o.frozen 1;have y2:=b3'.o.frozen 2;go_wp2_with fail
  have b4:=b3'.o.D5 (.int .i64 ty) (.int .i64 cnt) (.slice a5 m5 c5);have mX:=lT sM.o h23 (.int .i64 ty) (.int .i64 cnt) (.slice a5 m5 c5);have Z9:=mV KX.o ((((But.refl g3 w3).set 0 (.int .i64 ty)).set 1 (.int .i64 cnt)).set 2 (.slice a5 m5 c5)) hog;have HS:=aA (jV.o _ mX);refine Mid.mk ⟨HS.o,?_⟩;refine kH aF ?_;clear p0 p1 p2 y0 y1 y2 b3' sM KX;generalize (((w3.setCell ⟨g3,0,none⟩ (.int .i64 ty)).setCell ⟨g3,1,none⟩ (.int .i64 cnt)).setCell ⟨g3,2,none⟩ (.slice a5 m5 c5))=w4 at*;have c0:=b4.cell (i:=0) rfl;have c1:=b4.cell (i:=1) rfl;have c2:=b4.cell (i:=2) rfl;have b04:=b0'.o.late mX;have y8:=JK.o.tm mX;have hM:=RO ty cnt a5 m5 c5 (rA (b.take L) pt o) w4 (Sl.kZ Z9).1 (a3X (vR.o.take _) _ _);have hW4:=mX.size;have h0W:=b0'.o.lt;clear pG JG pW;obtain⟨r,hr⟩:=aC (wH ty cnt (rA (b.take L) pt o));rw[hr]at hM;have hRr:=aP5.o;rw[hr]at hRr;generalize hD:rA (b.take L) pt o=D at*;obtain⟨b4',xG,aB1,a1U,mP,hM',aTB,sH,hD'⟩:=aQ b4 mX Z9 b04 y8 hM hRr hr hD;clear b4 mX Z9 b04 y8 hM hRr hr hD;go_wp2_with fail
  refine hM'.o.mono ?_;rintro e w5 ⟨rfl,nV⟩;have b5:=a1U.o.late nV;have zA:=mP.o.tm nV;have ho5:=l6 aB1.o nV;have b35:=b4'.o.late nV;have c0:=b35.cell (i:=0) rfl;have c1:=b35.cell (i:=1) rfl;have c2:=b35.cell (i:=2) rfl;have p0:=b5.cell (i:=0) rfl;have p1:=b5.cell (i:=1) rfl;have p2:=b5.cell (i:=2) rfl;have y0:=b5.frozen 0;have y1:=b5.frozen 1;have y2:=b5.frozen 2;clear b35 nV;obtain⟨b5',pJ,aE4⟩:=aK b5 zA ho5;clear b5 zA ho5;cases r
  ·have hRr:=aTB.o;simp only[Bool.false_eq_true,if_false]at hRr;subst hRr;go_wp2_with fail
   refine bodyPost_ret (kJ rfl _ _ w.heap.size 72 #[.int .i64 0,.int .i64 0,.slice none 0 0] _ rfl (b5'.o.D5 _ _ _) Tryz.underlying72 rfl aF) rfl ?_;exact⟨0,0,none,0,0,rfl,lT pJ.o (aY _) _ _ _,fun d h=>by cases h⟩
  ·have hRr:=aTB.o;simp only[if_true]at hRr;subst hRr;go_wp2_with fail
   refine bodyPost_ret (kJ rfl _ _ w.heap.size 72 #[.int .i64 ty,.int .i64 cnt,.slice a5 m5 c5] _ rfl (b5'.o.D5 _ _ _) Tryz.underlying72 rfl aF) rfl ?_;exact⟨ty,cnt,a5,m5,c5,rfl,lT pJ.o (aY _) _ _ _,fun d h=>by
    obtain rfl:D=d:=by simpa using h
    exact⟨rfl,rfl,lN (OT (lN aE4.o (aY W.heap.size)) h0W _ _ _) (jO h0W)⟩⟩
theorem aTC (a:Option Addr) (n c:Nat) (z:List Int) (o at_ size:Int) (w:World) (hs:Sl w a n c 1 (ints .u8 z)) (hb:pF z):
  Calls Tryz.prog 164 #[.agg #[.slice a n c,.int .i64 o],.int .i64 at_,.int .i64 size] w fun e w'=>e= .returned (.tuple #[.int .i64 (mM z at_ size o),.bool (a1S n at_ size o)])∧Below w.heap.size w w':=by
 have hG:=fun W (h:Below w.heap.size w W)=>aAZ a n c z at_ size o W (hs.mono h) hb;have hG':=aA hG;clear hG;go_enter Tryz.func164,Tryz.ntmps164;go_wp2_with fail
 have kV:=aD w (.cells #[.slice a n c,.int .i64 o] 179);refine(hG'.o _ kV).mono ?_;rintro e w2 ⟨rfl,kP⟩;have hb:=kV.tm kP;clear kP kV;have pW:=aA hb;clear hb;go_wp2_with fail
 go_ret2;exact⟨rfl,pW.o⟩
theorem WS (g:Nat) (a:Option Addr) (n c:Nat) (z:List Int) (o at_ size:Int) (ok:Bool) (w:World) (hr:kG w g 181 #[.slice a n c,.int .i64 o,.int .i64 at_,.bool ok]) (hs:Sl w a n c 1 (ints .u8 z)) (hb:pF z)
  (h0:0≤at_) (h1:at_≤4611686018427387904) (h2:0≤size) (h3:size≤8):
  Calls Tryz.prog 112 #[.pointer (some ⟨g,0,none⟩),.int .i64 size] w fun e w'=>e= .returned (.int .i64 (mM z at_ size o))∧kG w' g 181 #[.slice a n c,.int .i64 o,.int .i64 (at_+size),.bool (ok&&a1S n at_ size o)]∧But g w w':=by
 obtain⟨Ty,f,pQ,kI,kE⟩:=kM w;have q0:=fun s=>(kG.late hr (kI s)).cell (i:=0) rfl;have q1:=fun s=>(kG.late hr (kI s)).cell (i:=1) rfl;have q2:=fun s=>(kG.late hr (kI s)).cell (i:=2) rfl;obtain⟨HS,HD⟩:=aJ (kE _ ((bF _ _).drew)) ((bF w.heap.size w).drew);have hw:=aB (at_+size) aG;have hN:=fun W (h:Below w.heap.size w W)=>aTC a n c z o at_ size W (hs.mono h) hb;obtain⟨v,hv⟩:=aC (mM z at_ size o);obtain⟨b,EI⟩:∃v,a1S n at_ size o=v:=⟨_,rfl⟩;rw[hv,EI]at hN;rw[hv,EI];obtain⟨sH,sK,pW,kD,jV,hN',GA,JK⟩:=aP hr hs hb kI kE hN hv EI;clear hr hs hb kI kE hN hv EI;go_enter Tryz.func112,Tryz.ntmps112;go_wp2_with fail
 refine kR (S:=fun W=>∃s,W=f s) aF 15 rfl ?_;refine jZ [0,1,2,3,4,5,6,7,8] 6 aF aI aF aF aF HS.o ?_;simp only[jW,aW,aX,aU,aV];iterate 9 (go_big_quiet_step (fail))
 refine wpQuiet_nil ?_;refine jX 9 5 aF aF ?_;simp only[jW,aW,aX,aU,aV];go_wp2_with fail
 refine(hN'.o _ HD.o).mono ?_;rintro e w2 ⟨rfl,kP⟩;have lK:=HD.o.tm kP;have HS:=aA (jV.o _ lK);have b2:=sH.o.late lK;clear kP;obtain⟨kX,b2'⟩:=aJ lK b2;clear lK b2;go_wp2_with fail
 first|refine Mid.mk ⟨HS.o,?_⟩|refine Mid.mk ?_
 refine jZ [10,11,12,13,14] 0 aF aI aF aF aF HS.o ?_;simp only[jW,aW,aX,aU,aV];iterate 5 (go_big_quiet_step (fail))
 refine wpQuiet_nil ?_;refine kH aF ?_;have p0:=b2'.o.cell (i:=0) rfl;have p2:=b2'.o.cell (i:=2) rfl;have p3:=b2'.o.cell (i:=3) rfl;have y2:=b2'.o.frozen 2;have y3:=b2'.o.frozen 3;have b3:=(b2'.o.set 2 (.int .i64 (at_+size))).set 3 (.bool (ok&&b));have mQ:=((But.of_below (b:=g) kX.o).set 2 (.int .i64 (at_+size))).set 3 (.bool (ok&&b));obtain⟨b3',GN⟩:=aJ b3 mQ;clear b3 mQ;clear q0 q1 q2;cases ok
 ·simp only[jN]at*;go_wp2_with fail
  go_ret;exact⟨rfl,b3'.o,GN.o⟩
 ·simp only[dL]at*;go_wp2_with fail
  go_ret;exact⟨rfl,b3'.o,GN.o⟩
abbrev oJ:=Int×Int×Int×Int
def oF (x:oJ):List Value:= [.int .i64 x.1,.int .i64 x.2.1,.int .i64 x.2.2.1,.int .i64 x.2.2.2]
def aB3 (x:oJ):Value:= .agg #[.int .i64 x.1,.int .i64 x.2.1,.int .i64 x.2.2.1,.int .i64 x.2.2.2]
theorem nT (x:oJ):(oF x).length=4:=rfl
def WT (z:List Int) (o p:Int):oJ:=(mM z p 2 o,mM z (p+2) 2 o,mM z (p+4) 4 o,mM z (p+8) 4 o)
theorem WU {n:Nat} {at_ size o:Int} (hs:size=1∨size=2∨size=4) (ho:o=1∨o=2) (h0:0≤at_) (h1:at_+size≤n):a1S n at_ size o=true:=by
 unfold a1S MK;simp;omega
theorem aP6 (a:Option Addr) (n c:Nat) (z:List Int) (o p:Int) (w:World) (hs:Sl w a n c 1 (ints .u8 z)) (hb:pF z) (ho:o=1∨o=2) (h0:0≤p) (h1:p+12≤n) (hn:n≤1000000000):
  Calls Tryz.prog 50 #[.slice a n c,.int .i64 p,.int .i64 o] w fun e w'=>e= .returned (.tuple #[aB3 (WT z o p),.bool true])∧Below w.heap.size w w':=by
 have FI:=hs.le;have UC:=hs.max;have hR:=fun W=>a3Z p 12 n W aG aG;rw[show zZ p 12 n=true by unfold zZ;simp;omega]at hR;have g1:=WU (n:=n) (at_:=p) (size:=2) aG ho h0 aG;have g2:=WU (n:=n) (at_:=p+2) (size:=2) aG ho aG aG;have g3:=WU (n:=n) (at_:=p+4) (size:=4) aG ho aG aG;have g4:=WU (n:=n) (at_:=p+8) (size:=4) aG ho aG aG;unfold aB3 WT;simp only;obtain⟨v1,hv1⟩:∃v,mM z p 2 o=v:=⟨_,rfl⟩;obtain⟨v2,hv2⟩:∃v,mM z (p+2) 2 o=v:=⟨_,rfl⟩;obtain⟨v3,hv3⟩:∃v,mM z (p+4) 4 o=v:=⟨_,rfl⟩;obtain⟨v4,hv4⟩:∃v,mM z (p+8) 4 o=v:=⟨_,rfl⟩;rw[hv1,hv2,hv3,hv4];obtain⟨W,hW⟩:∃W,(w.alloc (.cells #[.int .i64 0,.int .i64 0,.int .i64 0,.int .i64 0] 55)).alloc (.cells #[.slice a n c,.int .i64 o,.int .i64 p,.bool true] 181)=W:=⟨_,rfl⟩;have b0:kG W w.heap.size 55 #[.int .i64 0,.int .i64 0,.int .i64 0,.int .i64 0]:=by rw[←hW];exact(kG.new w _ _).alloc _
 have DT:kG W (w.heap.size+1) 181 #[.slice a n c,.int .i64 o,.int .i64 p,.bool true]:=by rw[←hW];exact wZ _ _ (by simp)
 have hbW:Below w.heap.size w W:=by rw[←hW];exact((aD w _).alloc (by simp) _)
 have hsW:=hs.mono hbW;have bIG:=DT.lt;have HN1:=WS (w.heap.size+1) a n c z o p 2 true W DT hsW hb h0 aG aG aG;have HN2:=fun W2 h xV=>WS (w.heap.size+1) a n c z o (p+2) 2 true W2 h xV hb aG aG aG aG;have HN3:=fun W2 h xV=>WS (w.heap.size+1) a n c z o (p+4) 4 true W2 h xV hb aG aG aG aG;have HN4:=fun W2 h xV=>WS (w.heap.size+1) a n c z o (p+8) 4 true W2 h xV hb aG aG aG aG;rw[hv1,g1]at HN1;rw[hv2,g2]at HN2;rw[hv3,g3]at HN3;rw[hv4,g4]at HN4;simp only[Bool.and_self,Int.add_assoc,Int.reduceAdd]at HN1 HN2 HN3 HN4;clear g1 g2 g3 g4 hv1 hv2 hv3 hv4;obtain⟨sK,pW,qM,b0',a3N,KI,c4E,bUH,bUI,bUJ,bUK⟩:=aS hs hb hR b0 DT hbW hsW HN1 HN2 HN3 HN4;clear hs hb hR b0 DT hbW hsW HN1 HN2 HN3 HN4;go_enter Tryz.func50,Tryz.ntmps50;go_wp2_with (go_at_call 111;refine(qM.o _).mono ?_;rintro e w1 ⟨rfl,rfl⟩)
 clear hW;refine bUH.o.mono ?_;rintro e W1 ⟨rfl,hr1,aP7⟩;have hB1:=KI.o.trans (aP7.below (eD w.heap.size) KI.o.size);have b01:=b0'.o.but aP7 aG;clear aP7;obtain⟨aD7,aJ0,aE5⟩:=aK hr1 hB1 b01;clear hr1 hB1 b01;go_wp2_with fail
 refine(bUI.o _ aD7.o (sK.o.mono aJ0.o)).mono ?_;rintro e W2 ⟨rfl,KT,bCA⟩;have hB2:=aJ0.o.trans (bCA.below (eD w.heap.size) aJ0.o.size);have b02:=aE5.o.but bCA aG;clear bCA aD7 aJ0 aE5;obtain⟨aS3,b6S,UZ⟩:=aK KT hB2 b02;clear KT hB2 b02;go_wp2_with fail
 refine(bUJ.o _ aS3.o (sK.o.mono b6S.o)).mono ?_;rintro e W3 ⟨rfl,hr3,aP8⟩;have hB3:=b6S.o.trans (aP8.below (eD w.heap.size) b6S.o.size);have b03:=UZ.o.but aP8 aG;clear aP8 aS3 b6S UZ;obtain⟨bJS,aJ1,aB4⟩:=aK hr3 hB3 b03;clear hr3 hB3 b03;go_wp2_with fail
 refine(bUK.o _ bJS.o (sK.o.mono aJ1.o)).mono ?_;rintro e W4 ⟨rfl,hr4,aP9⟩;have hB4:=aJ1.o.trans (aP9.below (eD w.heap.size) aJ1.o.size);have b04:=aB4.o.but aP9 aG;clear aP9 bJS aJ1 aB4;go_upto_region 5 with fail
 have b05:=b04.alloc (.cells #[.int .i64 v1,.int .i64 v2,.int .i64 v3,.int .i64 v4] 55);have hr5:=hr4.alloc (.cells #[.int .i64 v1,.int .i64 v2,.int .i64 v3,.int .i64 v4] 55);have hn5:=kG.new W4 55 #[.int .i64 v1,.int .i64 v2,.int .i64 v3,.int .i64 v4];have hB5:=hB4.alloc hB4.size (.cells #[.int .i64 v1,.int .i64 v2,.int .i64 v3,.int .i64 v4] 55);generalize W4.alloc (.cells #[.int .i64 v1,.int .i64 v2,.int .i64 v3,.int .i64 v4] 55)=W5 at*;generalize W4.heap.size=g5 at*;have c2:=hr5.cell (i:=3) rfl;have d0:=hn5.cell (i:=0) rfl;have d1:=hn5.cell (i:=1) rfl;have d2:=hn5.cell (i:=2) rfl;have d3:=hn5.cell (i:=3) rfl;have p0:=b05.cell (i:=0) rfl;have p1:=b05.cell (i:=1) rfl;have p2:=b05.cell (i:=2) rfl;have p3:=b05.cell (i:=3) rfl;have y0:=b05.frozen 0;have y1:=b05.frozen 1;have y2:=b05.frozen 2;have y3:=b05.frozen 3;clear hr4 hB4 b04 hr5 hn5;obtain⟨bUL,aB5⟩:=aJ hB5 b05;clear hB5 b05;go_wp2_with fail
 refine bodyPost_ret (kJ rfl _ _ w.heap.size 55 #[.int .i64 v1,.int .i64 v2,.int .i64 v3,.int .i64 v4] _ rfl (aB5.o.a3E _ _ _ _) Tryz.underlying55 rfl aF) rfl ?_;exact⟨rfl,IC bUL.o (aY _) _ _ _ _⟩
