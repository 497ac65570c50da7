import Derived.Test.YtceclmpmpldmlaaGreatCz08
set_option linter.unusedSimpArgs false
set_option linter.unusedVariables false
set_option maxRecDepth 100000
set_option maxHeartbeats 8000000
namespace Go.Proofs.YtceclmpmpldmlaaGreat
open Go.RowKit Tt
theorem YE (t y k:Int) (a:Option Addr) (n c:Nat) (d:List Int) (o:Int) (w:World) (hs:Sl w a n c 1 (ints .u8 d)) (hd:mW d) (hn:n≤1000000000):
  Calls Tryz.prog 151 #[.agg #[.int .i64 y,.int .i64 k,.slice a n c],.int .i64 o] w fun e w'=>∃a2 m,e= .returned (.slice a2 m m)∧w'.ownsRow w.heap.size 5 1 (.slice a2 m m) m (ints .u8 (kS (t,y,k,d) o))∧Below w.heap.size w w':=by
 have hb1:=aD w (.cells #[.int .i64 y,.int .i64 k,.slice a n c] 72);have b1:=jJ.new w 72 #[.int .i64 y,.int .i64 k,.slice a n c];obtain⟨W1,hW1⟩:=aC (w.alloc (.cells #[.int .i64 y,.int .i64 k,.slice a n c] 72));rw[hW1]at hb1 b1;have hM:=LM y k a n c d W1 (hs.mono hb1) hd;have hbv:kS (t,y,k,d) o=if rM y k d=true then oZ d (kH y).2.1 o else []:=rfl;obtain⟨R,hR⟩:=aC (kS (t,y,k,d) o);rw[hR]at hbv ⊢;obtain⟨r,hr⟩:=aC (rM y k d);rw[hr]at hM hbv;rw[←hW1]at hM;clear hR;obtain⟨hb1',b1',hM',hs',hd',hr',hW1',b4P⟩:=aL hb1 b1 hM hs hd hr hW1 hbv;clear hb1 b1 hM hs hd hr hW1 hbv
 go_enter Tryz.func151,Tryz.ntmps151;go_wp2_with fail
 refine hM'.o.mono ?_;rintro e w2 ⟨rfl,hb2⟩;rw[hW1'.o]at hb2;have hbw:=hb1'.o.tm hb2;have b2:=b1'.o.late hb2;cases r with
 |false=>
  obtain rfl:R= []:=b4P.o;obtain⟨jW,b2',hb2'⟩:=aG hbw b2 hb2;clear hbw b2 hb2;go_wp2_with fail
  go_ret;exact⟨none,0,rfl,kC _ _ _ _,jW.o⟩
 |true=>
  obtain rfl:R=oZ d (kH y).2.1 o:=b4P.o;have hK:=fun W=>P6 y W;obtain⟨z0,hz0⟩:∃z,(kH y).1=z:=⟨_,rfl⟩;clear b4P;generalize hpt:(kH y).2.1=pt at*;obtain⟨z2,hz2⟩:∃z,(kH y).2.2=z:=⟨_,rfl⟩;simp only[hz0,hpt,hz2]at hK;have bTQ:∀W,(Instr.field 185 (.agg #[.int .i64 z0,.int .i64 pt,.int .i64 z2]) 1).run Tryz.prog W= .ok (.int .i64 pt) W:=fun W=>by kernel_rfl
  obtain⟨Ty,ff,hne,hbel,jH⟩:=jR w2;obtain⟨HS,HD⟩:=aF (jH _ ((aW _ _).drew)) ((aW w2.heap.size w2).drew);have q0:∀s,(ff s).cell? ⟨w.heap.size,0,none⟩=some (.int .i64 y):=fun s=>(b2.late (hbel s)).cell rfl;have q2:∀s,(ff s).cell? ⟨w.heap.size,2,none⟩=some (.slice a n c):=fun s=>(b2.late (hbel s)).cell rfl;obtain⟨jW,b2',hb2',hK',hz0',b4Q,hz2',jG,jA⟩:=aM hbw b2 hb2 hK hz0 hpt hz2 hbel jH;clear hbw b2 hb2 hK hz0 hpt hz2 hbel jH;go_wp2_with fail
  refine jU (S:=fun W=>∃s,W=ff s) (by kernel_rfl) 9 rfl ?_;obtain⟨wD,tQ⟩:=aC w2.drew;rw[tQ]at HS HD ⊢;clear tQ;refine jF [0,1,2,3,6] 4 (by kernel_rfl) (fun d _ _ _ _ h=>by cases d <;> exact h) (by kernel_rfl) (by kernel_rfl) (by kernel_rfl) HS.o ?_;simp only[jB,aS,aT,aQ,aR];iterate 5 (go_big_quiet_step (fail))
  refine wpQuiet_nil ?_;refine jC 4 3 (by kernel_rfl) (by kernel_rfl) ?_;simp only[jB,aS,aT,aQ,aR];go_wp2_with fail
  refine(hK'.o wD).mono ?_;rintro e w3 ⟨rfl,hb3⟩;have NY:=HD.o.tm hb3;obtain⟨HS,sO,zZ⟩:=aG (jA.o _ NY) hb3 NY;clear hb3 NY;go_wp2_with fail
  first|refine Mid.mk ⟨HS.o,?_⟩|refine Mid.mk ?_
  refine jF [5] 2 (by kernel_rfl) (fun d _ _ _ _ h=>by cases d <;> exact h) (by kernel_rfl) (by kernel_rfl) (by kernel_rfl) HS.o ?_;simp only[jB,aS,aT,aQ,aR];iterate 1 (go_big_quiet_step (fail))
  refine wpQuiet_nil ?_;refine jC 7 1 (by kernel_rfl) (by kernel_rfl) ?_;simp only[jB,aS,aT,aQ,aR];go_wp2_with fail
  refine(aNT a n c d pt o w3 (hs'.o.mono (jW.o.tm zZ.o)) hn).mono ?_;rintro e w4 ⟨a4,m4,rfl,SF,hb4⟩;have JI:=zZ.o.tm hb4;have tY:=jW.o.tm JI;have ho5:=kK SF (show w.heap.size≤_ from bK jW.o.size zZ.o.size);have HS:=aA (jA.o _ JI);clear SF;obtain⟨tC,b07,lG,a8I⟩:=aH hb4 JI tY ho5;clear hb4 JI tY ho5;go_wp2_with fail
  first|refine Mid.mk ⟨HS.o,?_⟩|refine Mid.mk ?_
  refine jC 8 0 (by kernel_rfl) (by kernel_rfl) ?_;simp only[jB,aS,aT,aQ,aR];go_wp2_with fail
  first|refine Mid.mk ⟨HS.o,?_⟩|refine Mid.mk ?_
  refine jK (by kernel_rfl) ?_;go_wp2_with fail
  go_ret;exact⟨a4,m4,rfl,by rw[b4Q.o];exact a8I.o,lG.o⟩
theorem aNU {b:List Int} (h:b.length≤4):(wH b).length=4:=by unfold wH;simp;omega
theorem aDW (n:Nat):(Builtin.zeroCells #[.int .u8 0] n).toList=ints .u8 (List.replicate n 0):=by
 apply gH
 ·simp[Builtin.zeroCells,ints]
 ·intro i h1 h2;simp[Builtin.zeroCells,ints,Nat.mod_one]
theorem aK2 (w:World) (a2:Option Addr) (m k:Nat) (b:List Int) (B:Nat) (ty:TypeId) (ho:w.ownsRow B 5 1 (.slice a2 m m) m (ints .u8 b)) (hm:0<m) (hk:0<k) (h4:m+k=4):
  ∃a' c' w',(Builtin.append_ #[24,3] ty #[.slice a2 m m,.int .i64 (k:Int)]).run Tryz.prog w= .ok (.slice a' 4 c') w'∧Sl w' a' 4 c' 1 (ints .u8 (wH b))∧Below w.heap.size w w':=by
 obtain⟨i0,hi,hz0,hz1,hz2⟩:=info_parts aZZ;have hsl:=(Sl.jX ho).1;have hbl:b.length=m:=hsl.nV;obtain⟨g,off,e,hlt,hc⟩:=hsl.lies 0 hm;subst e;have hold:(Builtin.firstCells i0.size m (.slice (some ⟨g,off,none⟩) m m)).run Tryz.prog w.drew= .ok (ints .u8 b).toArray w.drew:=by
  refine run_firstCells_some (P:=Tryz.prog) (w:=w.drew) i0.size m ⟨g,off,none⟩ m m (ints .u8 b) (by rw[oH,hbl,hz1,gU]) (fun j v hv=>?_);rw[Addr.add_lit];exact hc j v hv
 have hr:=Lib.run_append_grow_zeros (P:=Tryz.prog) w 24 3 ty 5 i0 (.int .u8 0) .i64 .i64 Tryz.underlying24 Tryz.underlying3 hi hz0 (some ⟨g,off,none⟩) m m (ints .u8 b) hold k hk (by omega) (by omega) (by omega) (by rw[hz2];omega) (growslice_fits (by omega) (by rw[hz2];omega));rw[h4]at hr;have hge:=grownCap_ge w 4 m 5;have hcm:=grownCap_le_maxLen w 4 m 5 (by unfold maxLen;omega);refine⟨_,_,_,hr,?_,?_⟩
 ·have hnew:jJ (w.drew.alloc (.cells ((ints .u8 b).toArray++Builtin.zeroCells (Value.int .u8 0).cells k++Builtin.zeroCells (Value.int .u8 0).cells (grownCap w 4 m 5 - 4)) 5)) w.heap.size 5 ((ints .u8 b).toArray++Builtin.zeroCells (Value.int .u8 0).cells k++Builtin.zeroCells (Value.int .u8 0).cells (grownCap w 4 m 5 - 4)):=jJ.new w.drew _ _;have e1:(Value.int .u8 0).cells=#[.int .u8 0]:=rfl;rw[e1]at hnew ⊢;have hpl:=aNU (b:=b) (by omega);refine(Sl.jX (AP (B:=0) (xs:=ints .u8 (wH b)) hnew (iP _) hge hcm ?_ ?_)).1
  ·simp[size_zeroCells,oH,hbl];omega
  ·have e2:((ints .u8 b).toArray++Builtin.zeroCells #[.int .u8 0] k++Builtin.zeroCells #[.int .u8 0] (grownCap w 4 m 5 - 4)).toList=ints .u8 (wH b)++(Builtin.zeroCells #[.int .u8 0] (grownCap w 4 m 5 - 4)).toList:=by
    simp only[Array.toList_append];rw[aDW k,←rR];unfold wH;rw[show 4 - b.length=k by omega]
   rw[e2,dU (by rw[oH,hpl];omega),bP (by rw[oH,hpl];omega)]
 ·exact((aW w.heap.size w).drew).alloc (aU _) _
theorem aK3 {b:List Int} (h:b.length=4):wH b=b:=by unfold wH;rw[h];simp
theorem aWI {b:List Int} (h:mW b):mW (wH b):=h.append (fun x hx=>by rw[List.eq_of_mem_replicate hx];decide)
theorem YF {x:nC} {o:Int} (h:mW x.2.2.2):mW (kS x o):=by
 unfold kS;split
 ·exact P5 h _ _
 ·intro x hx;cases hx
theorem aHF (tag y k:Int) (a:Option Addr) (n c:Nat) (d:List Int) (o:Int) (w:World) (hs:Sl w a n c 1 (ints .u8 d)) (hd:mW d) (hn:n≤1000000000):
  Calls Tryz.prog 150 #[.int .i64 tag,.agg #[.int .i64 y,.int .i64 k,.slice a n c],.int .i64 o] w fun e w'=>∃x0 x1 x2 x3,e= .returned (.tuple #[.agg #[.int .i64 x0,.int .i64 x1,.int .i64 x2,.int .i64 x3],.bool (a1F tag (kS (tag,y,k,d) o) o)])∧Below w.heap.size w w'∧
   (a1F tag (kS (tag,y,k,d) o) o=true→x0=tag∧x1=y∧x2=k∧x3=kZ (wH (kS (tag,y,k,d) o)) 0 4 o):=by
 obtain⟨W1,hW1,b0,b1,hb1,s1⟩:=qZ w 72 #[.int .i64 y,.int .i64 k,.slice a n c] 55 #[.int .i64 0,.int .i64 0,.int .i64 0,.int .i64 0];have hB:=YE tag y k a n c d o W1 (hs.mono hb1) hd hn;have hby:mW (kS (tag,y,k,d) o):=YF hd;obtain⟨E,hE⟩:=aC (a1F tag (kS (tag,y,k,d) o) o);rw[hE];unfold a1F at hE;generalize kS (tag,y,k,d) o=b at*;rw[←hW1]at hB;obtain⟨hs',hd',b0',b1',hb1',hW1',hB',rZ⟩:=aL hs hd b0 b1 hb1 hW1 hB hby;have hE':=aA hE;clear hs hd b0 b1 hb1 hW1 hB hby hE;go_enter Tryz.func150,Tryz.ntmps150;go_wp2_with fail
 refine hB'.o.mono ?_;rw[hW1'.o];rintro e w2 ⟨a2,m,rfl,ho2,hb2⟩;have hbl:b.length=m:=(Sl.jX ho2).1.nV;have hm1:=(Sl.jX ho2).1.max;have b02:=b0'.o.late hb2;have b12:=b1'.o.late hb2;have hbw2:=hb1'.o.tm hb2;have hP:=fun W=>DC tag 2 o W;obtain⟨pk,hpk⟩:∃b,kX tag 2 o=b:=⟨_,rfl⟩;simp only[hpk]at hP;rw[hpk,hbl]at hE';obtain⟨NR,aWJ,lU,ED,hb2',hP',hpk',qY⟩:=aL b02 b12 hbw2 ho2 hb2 hP hpk hbl;clear b02 b12 hbw2 ho2 hb2 hP hpk hbl;go_wp2_with fail
 refine(hP'.o _).mono ?_;rintro e w3 ⟨a3,m3,c3,rfl,ho3,hb3⟩;have WR:=NR.o.late hb3;have b13:=aWJ.o.late hb3;have xL:=lU.o.tm hb3;have a1G:=jY ED.o hb3;have v0:w3.cell? ⟨w.heap.size,0,none⟩=some (.int .i64 y):=WR.cell rfl;have v1:w3.cell? ⟨w.heap.size,1,none⟩=some (.int .i64 k):=WR.cell rfl;have p0:w3.cell? ⟨w.heap.size+1,0,none⟩=some (.int .i64 0):=b13.cell rfl;have p1:w3.cell? ⟨w.heap.size+1,1,none⟩=some (.int .i64 0):=b13.cell rfl;have p2:w3.cell? ⟨w.heap.size+1,2,none⟩=some (.int .i64 0):=b13.cell rfl;have p3:w3.cell? ⟨w.heap.size+1,3,none⟩=some (.int .i64 0):=b13.cell rfl;have y0:=b13.frozen 0;have y1:=b13.frozen 1;have y2:=b13.frozen 2;have y3:=b13.frozen 3;have bN:=(((b13.set 0 (.int .i64 0)).set 1 (.int .i64 0)).set 2 (.int .i64 0)).set 3 (.int .i64 0);have hbN:=(((xL.setCell (p:=⟨w.heap.size+1,0,none⟩) (by show w.heap.size≤w.heap.size+1;omega) (.int .i64 0)).setCell (p:=⟨w.heap.size+1,1,none⟩) (by show w.heap.size≤w.heap.size+1;omega) (.int .i64 0)).setCell (p:=⟨w.heap.size+1,2,none⟩) (by show w.heap.size≤w.heap.size+1;omega) (.int .i64 0)).setCell (p:=⟨w.heap.size+1,3,none⟩) (by show w.heap.size≤w.heap.size+1;omega) (.int .i64 0);cases pk with
 |false=>
  obtain rfl:E=false:=hE'.o.symm;obtain⟨a4K,b4R,sP,aNV,sO,EO⟩:=aJ WR b13 xL a1G hb3 ho3;clear WR b13 xL a1G hb3 ho3;go_wp2_with fail
  refine bodyPost_ret (jL rfl _ _ (w.heap.size+1) 55 #[.int .i64 0,.int .i64 0,.int .i64 0,.int .i64 0] _ rfl bN Tryz.underlying55 rfl (by kernel_rfl)) rfl ?_;exact⟨0,0,0,0,rfl,hbN,fun h=>by cases h⟩
 |true=>
 by_cases hm0:m=0
 ·have d1:((m:Int)==0)=true:=by simp[hm0]
  have d2:(m==0)=true:=by simp[hm0]
  obtain rfl:E=false:=by rw[←hE'.o,hm0];rfl
  clear hm0;obtain⟨a4K,b4R,sP,aNV,sO,EO⟩:=aJ WR b13 xL a1G hb3 ho3;clear WR b13 xL a1G hb3 ho3;go_wp2_with fail
  refine bodyPost_ret (jL rfl _ _ (w.heap.size+1) 55 #[.int .i64 0,.int .i64 0,.int .i64 0,.int .i64 0] _ rfl bN Tryz.underlying55 rfl (by kernel_rfl)) rfl ?_;exact⟨0,0,0,0,rfl,hbN,fun h=>by cases h⟩
 have d1:((m:Int)==0)=false:=by simp;omega
 have d2:(m==0)=false:=by simp[hm0]
 by_cases MJ:4<m
 ·have d3:decide ((4:Int)<(m:Int))=true:=by simp;omega
  have d4:decide (4<m)=true:=by simp;omega
  obtain rfl:E=false:=by rw[←hE'.o,decide_eq_false (show ¬m≤4 by omega)];simp
  obtain⟨a4K,b4R,sP,aNV,sO,EO⟩:=aJ WR b13 xL a1G hb3 ho3;clear WR b13 xL a1G hb3 ho3;go_wp2_with fail
  refine bodyPost_ret (jL rfl _ _ (w.heap.size+1) 55 #[.int .i64 0,.int .i64 0,.int .i64 0,.int .i64 0] _ rfl bN Tryz.underlying55 rfl (by kernel_rfl)) rfl ?_;exact⟨0,0,0,0,rfl,hbN,fun h=>by cases h⟩
 have d3:decide ((4:Int)<(m:Int))=false:=by simp;omega
 have d4:decide (4<m)=false:=by simp;omega
 obtain rfl:E=true:=by rw[←hE'.o,decide_eq_true (show m≠0 by omega),decide_eq_true (show m≤4 by omega)];rfl
 obtain⟨k4,hk4⟩:∃k4,m+k4=4:=⟨4 - m,by omega⟩;have hwk:IntKind.i64.wrap (4 - (m:Int))=(k4:Int):=by rw[aY];omega
 clear bN hbN;obtain⟨a5,c5,w5,hr5,hs5,hb5⟩:∃a' c' w',(Builtin.append_ #[24,3] 24 #[.slice a2 m m,.int .i64 (k4:Int)]).run Tryz.prog w3= .ok (.slice a' 4 c') w'∧Sl w' a' 4 c' 1 (ints .u8 (wH b))∧Below w3.heap.size w3 w':=by
  rcases gQ k4 with h0|h0
  ·subst h0;obtain rfl:m=4:=by omega
   refine⟨a2,4,w3,?_,by rw[aK3 qY.o];exact(Sl.jX a1G).1,aW _ _⟩;obtain⟨i0,hi,hz0,hz1,hz2⟩:=info_parts aZZ;have hw0:IntKind.i64.wrap (0:Int)=0:=by decide
   simp[Builtin.append_,run_underlying (P:=Tryz.prog) Tryz.underlying24,run_underlying (P:=Tryz.prog) Tryz.underlying3,sizeOf,typeInfo,zeroValue,hi,hz0,asInt,asIntOf,hw0];cases a2 <;> simp[storeCells]
  ·exact aK2 w3 a2 m k4 b _ _ a1G (by omega) h0 hk4
 have hG:=a4C a5 4 c5 (wH b) 0 4 o w5 hs5 (aWI rZ.o);have UN:=WR.late hb5;have b15:=b13.late hb5;have vD:=xL.tm hb5;obtain⟨gv,hgv⟩:∃v,kZ (wH b) 0 4 o=v:=⟨_,rfl⟩;rw[hgv]at hG;clear v0 v1 p0 p1 p2 p3 y0 y1 y2 y3;obtain⟨a4K,b4R,sP,aNV,sO,EO,hG',a4L,bL2,nQ,bTR,EW⟩:=aP WR b13 xL a1G hb3 ho3 hG UN b15 vD hs5 hb5;have b4S:=aA hgv;clear WR b13 xL a1G hb3 ho3 hG UN b15 vD hs5 hb5 hgv;go_wp2_with (at_builtin;refine Lib.wpList_append_run w3 rfl _ _ _ _ rfl _ _ rfl rfl _ _ hr5 ?_)
 refine hG'.o.mono ?_;rintro e w6 ⟨rfl,hb6⟩;have b06:=a4L.o.late hb6;have b16:=bL2.o.late hb6;have a1D:=nQ.o.tm hb6;have v0:w6.cell? ⟨w.heap.size,0,none⟩=some (.int .i64 y):=b06.cell rfl;have v1:w6.cell? ⟨w.heap.size,1,none⟩=some (.int .i64 k):=b06.cell rfl;have p0:w6.cell? ⟨w.heap.size+1,0,none⟩=some (.int .i64 0):=b16.cell rfl;have p1:w6.cell? ⟨w.heap.size+1,1,none⟩=some (.int .i64 0):=b16.cell rfl;have p2:w6.cell? ⟨w.heap.size+1,2,none⟩=some (.int .i64 0):=b16.cell rfl;have p3:w6.cell? ⟨w.heap.size+1,3,none⟩=some (.int .i64 0):=b16.cell rfl;have y0:=b16.frozen 0;have y1:=b16.frozen 1;have y2:=b16.frozen 2;have y3:=b16.frozen 3;have bN:=(((b16.set 0 (.int .i64 tag)).set 1 (.int .i64 y)).set 2 (.int .i64 k)).set 3 (.int .i64 gv);have hbN:=(((a1D.setCell (p:=⟨w.heap.size+1,0,none⟩) (by show w.heap.size≤w.heap.size+1;omega) (.int .i64 tag)).setCell (p:=⟨w.heap.size+1,1,none⟩) (by show w.heap.size≤w.heap.size+1;omega) (.int .i64 y)).setCell (p:=⟨w.heap.size+1,2,none⟩) (by show w.heap.size≤w.heap.size+1;omega) (.int .i64 k)).setCell (p:=⟨w.heap.size+1,3,none⟩) (by show w.heap.size≤w.heap.size+1;omega) (.int .i64 gv);obtain⟨aWK,a1H,UO,G7⟩:=aH b06 b16 a1D hb6;clear b06 b16 a1D hb6;go_wp2_with fail
 refine bodyPost_ret (jL rfl _ _ (w.heap.size+1) 55 #[.int .i64 tag,.int .i64 y,.int .i64 k,.int .i64 gv] _ rfl bN Tryz.underlying55 rfl (by kernel_rfl)) rfl ?_;exact⟨tag,y,k,gv,rfl,hbN,rfl,rfl,rfl,b4S.o.symm⟩
theorem LP.ne_of {K:Wc} {w:World} {no:Int} {P:List Int} (h:LP K w no P):K.gw<w.heap.size∧K.gb<w.heap.size:=⟨h.blk.lt,Row.lt h.row⟩
theorem BA (K:Wc) (w:World) (no:Int) (P:List Int) (h:LP K w no P) (q:Nat) (v s:Int) (hok:kX v s K.o=true) (hs1:1≤(kL v s K.o).length) (hq:q+(kL v s K.o).length≤K.n):
  Calls Tryz.prog 42 #[.pointer (some ⟨K.gw,0,none⟩),.int .i64 q,.int .i64 v,.int .i64 s] w fun e w'=>e= .returned (.tuple #[])∧LP K w' no (splice P q (kL v s K.o))∧Mv K.gw K.gb sD sD w w':=by
 have hP:=fun W=>DC v s K.o W;have c1:w.cell? ⟨K.gw,1,none⟩=some (.int .i64 K.o):=h.blk.cell rfl;obtain⟨FV,hby⟩:∃b,kL v s K.o=b:=⟨_,rfl⟩;rw[hby]at hs1 hq ⊢;simp only[hby,hok]at hP;obtain⟨h',hP',rZ⟩:=aG h hP hby;clear h hP hby;go_enter Tryz.func42,Tryz.ntmps42;go_wp2_with fail
 refine(hP'.o _).mono ?_;rintro e w2 ⟨a,m,c,rfl,ho2,hb2⟩;have h2:=h'.o.later hb2;have hbl:FV.length=m:=(Sl.jX ho2).1.nV;rw[hbl]at hs1 hq;clear c1;have c0:w2.cell? ⟨K.gw,0,none⟩=some (.slice (some ⟨K.gb,0,none⟩) K.n K.n):=h2.blk.cell rfl;have hlow:=fun W=>Y8 (P:=Tryz.prog) (T:=24) (E:=5) Tryz.underlying24 a97 K.gb K.n q (by omega) W;obtain⟨w3,hr3,h3,LK,_⟩:=ES h2 a m c FV (Sl.jX ho2).1 q hs1 hq 3;have hmv:=(Mv.of_below (g:=K.gw) (gt:=K.gb) (sv:=sD) hb2).trans LK;obtain⟨ED,hb2',h2',qY,h3',IK,BQ⟩:=aK ho2 hb2 h2 hbl h3 LK hmv;clear ho2 hb2 h2 hbl h3 LK hmv;go_wp2_with (at_builtin;refine wpList_copy_run _ rfl _ _ _ _ rfl _ _ rfl rfl hr3 ?_)
 go_end0
 exact⟨rfl,h3'.o,BQ.o⟩
def okV (l:List lK) (n:Nat) (o no:Int) (x:nC):Prop:=ML x o=true∨(1≤(kS x o).length∧Fits l n 3 no x.1 (kS x o).length)
theorem aWL (p:Pt) (P:List Int):zQ [p] P=splice P p.1 p.2:=rfl
theorem aDX (K:Wc) (w:World) (no dir:Int) (P:List Int) (h:LP K w no P) (t y k:Int) (a:Option Addr) (n c:Nat) (d:List Int) (w0:World) (hs:Sl w0 a n c 1 (ints .u8 d)) (hb0:Below w0.heap.size w0 w) (hgw:w0.heap.size≤K.gw) (hgb:w0.heap.size≤K.gb) (hd:mW d) (hn:n≤1000000000) (hok:okV K.l K.n K.o dir (t,y,k,d)):
  Calls Tryz.prog 90 #[.pointer (some ⟨K.gw,0,none⟩),.agg #[.int .i64 t,.int .i64 y,.int .i64 k,.slice a n c],.int .i64 dir] w fun e w'=>
   ∃x0 x1 x2 x3,e= .returned (.agg #[.int .i64 x0,.int .i64 x1,.int .i64 x2,.int .i64 x3])∧(x0,x1,x2,x3)=JH K.l K.o dir (t,y,k,d)∧LP K w' no (zQ (zV K.l K.o dir (t,y,k,d)) P)∧Mv K.gw K.gb sD sD w w':=by
 obtain⟨W1,hW1,b0,b1,hb1,s1⟩:=qZ w 74 #[.int .i64 t,.int .i64 y,.int .i64 k,.slice a n c] 55 #[.int .i64 0,.int .i64 0,.int .i64 0,.int .i64 0];have hlt:=h.ne_of;have h1:=h.later hb1;have wI:=hb0.tm hb1;have hinl:ML (t,y,k,d) K.o=a1F t (kS (t,y,k,d) K.o) K.o:=rfl;obtain⟨E,hE⟩:=aC (a1F t (kS (t,y,k,d) K.o) K.o);rw[hE]at hinl;obtain⟨hs',oU,hd',hok',hW1',b0',b1',hb1',h',h1',qC,a99⟩:=aP hs hb0 hd hok hW1 b0 b1 hb1 h h1 wI hinl;have hE':=aA hE;clear hs hb0 hd hok hW1 b0 b1 hb1 h h1 wI hinl hE;go_enter Tryz.func90,Tryz.ntmps90;go_wp2_with fail
 rw[hW1'.o];go_cut [7,8]from 10 to 22 (fun gv bv wx=>∃(g:Nat) (e0 e1 e2 e3:Int),gv= .pointer (some ⟨g,0,none⟩)∧bv= .bool E∧Hid (jJ wx g 55 #[.int .i64 e0,.int .i64 e1,.int .i64 e2,.int .i64 e3])∧Hid (w.heap.size+2≤g)∧Hid (E=true→e0=t∧e1=y∧e2=k∧e3=kZ (wH (kS (t,y,k,d) K.o)) 0 4 K.o)∧Hid (Below W1.heap.size W1 wx))
 case first=>
  obtain⟨Ty,ff,hne,hbel,jH⟩:=jR W1;obtain⟨HS,HD⟩:=aF (jH _ ((aW _ _).drew)) ((aW W1.heap.size W1).drew);have q0:∀s,(ff s).cell? ⟨w.heap.size,0,none⟩=some (.int .i64 t):=fun s=>(b0'.o.late (hbel s)).cell rfl;have q1:∀s,(ff s).cell? ⟨w.heap.size,1,none⟩=some (.int .i64 y):=fun s=>(b0'.o.late (hbel s)).cell rfl;have q2:∀s,(ff s).cell? ⟨w.heap.size,2,none⟩=some (.int .i64 k):=fun s=>(b0'.o.late (hbel s)).cell rfl;have q3:∀s,(ff s).cell? ⟨w.heap.size,3,none⟩=some (.slice a n c):=fun s=>(b0'.o.late (hbel s)).cell rfl;have q4:∀s,(ff s).cell? ⟨K.gw,1,none⟩=some (.int .i64 K.o):=fun s=>(h1'.o.blk.late (hbel s)).cell rfl;obtain⟨jG,jA⟩:=aF hbel jH;clear hbel jH;refine jU (S:=fun W=>∃s,W=ff s) (by kernel_rfl) 16 rfl ?_;refine jF [0,1,2,3,4,5,6,7,8] 7 (by kernel_rfl) (fun d _ _ _ _ h=>by cases d <;> exact h) (by kernel_rfl) (by kernel_rfl) (by kernel_rfl) HS.o ?_;simp only[jB,aS,aT,aQ,aR];iterate 9 (go_big_quiet_step (fail))
  refine wpQuiet_nil ?_;obtain⟨wD,tQ⟩:=aC W1.drew;rw[tQ]at HS HD ⊢;clear tQ;refine qX 9 13 6 (by kernel_rfl) (by kernel_rfl) ?_ ?_
  ·simp only[jB,aS,aT,aQ,aR];go_wp2_with fail
   refine(aHF t y k a n c d K.o wD (hs'.o.mono (qC.o.tm HD.o)) hd'.o hn).mono ?_;rintro e w3 ⟨e0,e1,e2,e3,rfl,hb3,hval⟩;have hx3:=HD.o.tm hb3;obtain⟨HS,sO,hval',a1I⟩:=aH (jA.o _ hx3) hb3 hval hx3;clear hb3 hval hx3;go_wp2_with fail
   first|refine Mid.mk ⟨HS.o,?_⟩|refine Mid.mk ?_
   refine jF [10,11,12] 3 (by kernel_rfl) (fun d _ _ _ _ h=>by cases d <;> exact h) (by kernel_rfl) (by kernel_rfl) (by kernel_rfl) HS.o ?_;simp only[jB,aS,aT,aQ,aR];iterate 3 (go_big_quiet_step (fail))
   refine wpQuiet_nil ?_;refine jC 13 2 (by kernel_rfl) (by kernel_rfl) ?_;simp only[jB,aS,aT,aQ,aR];go_wp2_with fail
   have bG:=jJ.new w3 55 #[.int .i64 0,.int .i64 0,.int .i64 0,.int .i64 0];have hal:=aD w3 (.cells #[.int .i64 0,.int .i64 0,.int .i64 0,.int .i64 0] 55);have hxA:=a1I.o.tm hal;have hgA:w.heap.size+2≤w3.heap.size:=by rw[←s1];exact a1I.o.size
   obtain⟨g,hg⟩:=aC w3.heap.size;obtain⟨wA,hwA⟩:=aC (w3.alloc (.cells #[.int .i64 0,.int .i64 0,.int .i64 0,.int .i64 0] 55));rw[hwA]at bG hal hxA;rw[hwA];rw[hg]at bG hgA;try rw[hg]
   have HS:=aA (jA.o _ hxA);have hxL:=hxA;obtain⟨VY,oM,aWM,b4T,bL3,hg'⟩:=aJ bG hal hxA hxL hwA hg;clear bG hal hxA hxL hwA hg;first|refine Mid.mk ⟨HS.o,?_⟩|refine Mid.mk ?_
   refine jC 14 1 (by kernel_rfl) (by kernel_rfl) ?_;simp only[jB,aS,aT,aQ,aR];have p0:wA.cell? ⟨g,0,none⟩=some (.int .i64 0):=VY.o.cell rfl;have p1:wA.cell? ⟨g,1,none⟩=some (.int .i64 0):=VY.o.cell rfl;have p2:wA.cell? ⟨g,2,none⟩=some (.int .i64 0):=VY.o.cell rfl;have p3:wA.cell? ⟨g,3,none⟩=some (.int .i64 0):=VY.o.cell rfl;have y0:=VY.o.frozen 0;have y1:=VY.o.frozen 1;have y2:=VY.o.frozen 2;have y3:=VY.o.frozen 3;have hWg:W1.heap.size≤g:=by rw[s1];exact hgA
   go_wp2_with fail
   have bZ:=(((VY.o.set 0 (.int .i64 e0)).set 1 (.int .i64 e1)).set 2 (.int .i64 e2)).set 3 (.int .i64 e3);have hxZ:=(((b4T.o.setCell (p:=⟨g,0,none⟩) hWg (.int .i64 e0)).setCell (p:=⟨g,1,none⟩) hWg (.int .i64 e1)).setCell (p:=⟨g,2,none⟩) hWg (.int .i64 e2)).setCell (p:=⟨g,3,none⟩) hWg (.int .i64 e3);have HS:=aA (jA.o _ hxZ);clear p0 p1 p2 p3 y0 y1 y2 y3;obtain⟨bZ',b4U⟩:=aF bZ hxZ;clear bZ hxZ;first|refine Mid.mk ⟨HS.o,?_⟩|refine Mid.mk ?_
   refine jC 15 0 (by kernel_rfl) (by kernel_rfl) ?_;simp only[jB,aS,aT,aQ,aR];go_wp2_with fail
   first|refine Mid.mk ⟨HS.o,?_⟩|refine Mid.mk ?_
   refine jK (by kernel_rfl) ?_;go_wp2_with fail
   go_meet
   exact⟨g,e0,e1,e2,e3,rfl,by rw[hE'.o],bZ',aA hgA,aA (by rw[←hE'.o];exact hval'.o),b4U⟩
  ·simp only[jB,aS,aT,aQ,aR];go_wp2_with fail
   have bG:=jJ.new wD 55 #[.int .i64 0,.int .i64 0,.int .i64 0,.int .i64 0];have hal:=aD wD (.cells #[.int .i64 0,.int .i64 0,.int .i64 0,.int .i64 0] 55);have hxA:=HD.o.tm hal;have hgA:w.heap.size+2≤wD.heap.size:=by rw[←s1];exact HD.o.size
   obtain⟨g,hg⟩:=aC wD.heap.size;obtain⟨wA,hwA⟩:=aC (wD.alloc (.cells #[.int .i64 0,.int .i64 0,.int .i64 0,.int .i64 0] 55));rw[hwA]at bG hal hxA;rw[hwA];rw[hg]at bG hgA;try rw[hg]
   obtain⟨HS,VY,oM,aWM,bL3,hg'⟩:=aJ (jA.o _ hxA) bG hal hxA hwA hg;clear bG hal hxA hwA hg;first|refine Mid.mk ⟨HS.o,?_⟩|refine Mid.mk ?_
   refine jC 9 5 (by kernel_rfl) (by kernel_rfl) ?_;simp only[jB,aS,aT,aQ,aR];go_wp2_with fail
   refine(aHF t y k a n c d K.o wA (hs'.o.mono (qC.o.tm aWM.o)) hd'.o hn).mono ?_;rintro e w3 ⟨e0,e1,e2,e3,rfl,hb3,hval⟩;have hx3:=aWM.o.tm hb3;have HS:=aA (jA.o _ hx3);have bG:=VY.o.late hb3;have hxL:=hx3;clear VY;obtain⟨VY,sO,hval',a1I,b4T⟩:=aI bG hb3 hval hx3 hxL;clear bG hb3 hval hx3 hxL;go_wp2_with fail
   first|refine Mid.mk ⟨HS.o,?_⟩|refine Mid.mk ?_
   refine jF [10,11,12] 2 (by kernel_rfl) (fun d _ _ _ _ h=>by cases d <;> exact h) (by kernel_rfl) (by kernel_rfl) (by kernel_rfl) HS.o ?_;simp only[jB,aS,aT,aQ,aR];iterate 3 (go_big_quiet_step (fail))
   refine wpQuiet_nil ?_;refine jC 14 1 (by kernel_rfl) (by kernel_rfl) ?_;simp only[jB,aS,aT,aQ,aR];have p0:w3.cell? ⟨g,0,none⟩=some (.int .i64 0):=VY.o.cell rfl;have p1:w3.cell? ⟨g,1,none⟩=some (.int .i64 0):=VY.o.cell rfl;have p2:w3.cell? ⟨g,2,none⟩=some (.int .i64 0):=VY.o.cell rfl;have p3:w3.cell? ⟨g,3,none⟩=some (.int .i64 0):=VY.o.cell rfl;have y0:=VY.o.frozen 0;have y1:=VY.o.frozen 1;have y2:=VY.o.frozen 2;have y3:=VY.o.frozen 3;have hWg:W1.heap.size≤g:=by rw[s1];exact hgA
   go_wp2_with fail
   have bZ:=(((VY.o.set 0 (.int .i64 e0)).set 1 (.int .i64 e1)).set 2 (.int .i64 e2)).set 3 (.int .i64 e3);have hxZ:=(((b4T.o.setCell (p:=⟨g,0,none⟩) hWg (.int .i64 e0)).setCell (p:=⟨g,1,none⟩) hWg (.int .i64 e1)).setCell (p:=⟨g,2,none⟩) hWg (.int .i64 e2)).setCell (p:=⟨g,3,none⟩) hWg (.int .i64 e3);have HS:=aA (jA.o _ hxZ);clear p0 p1 p2 p3 y0 y1 y2 y3;obtain⟨bZ',b4U⟩:=aF bZ hxZ;clear bZ hxZ;first|refine Mid.mk ⟨HS.o,?_⟩|refine Mid.mk ?_
   refine jC 15 0 (by kernel_rfl) (by kernel_rfl) ?_;simp only[jB,aS,aT,aQ,aR];go_wp2_with fail
   first|refine Mid.mk ⟨HS.o,?_⟩|refine Mid.mk ?_
   refine jK (by kernel_rfl) ?_;go_wp2_with fail
   go_meet
   exact⟨g,e0,e1,e2,e3,rfl,by rw[hE'.o],bZ',aA hgA,aA (by rw[←hE'.o];exact hval'.o),b4U⟩
 case rest=>
  obtain⟨g,e0,e1,e2,e3,rfl,rfl,bG,hgN,hval,hbx⟩:=hcut;rename World=>wq
  have h2:=h1'.o.later hbx.o;have b02:=b0'.o.late hbx.o;have b12:=b1'.o.late hbx.o;have aNW:=hb1'.o.tm hbx.o;have aWN:=oU.o.tm aNW;have p0:wq.cell? ⟨w.heap.size+1,0,none⟩=some (.int .i64 0):=b12.cell rfl;have p1:wq.cell? ⟨w.heap.size+1,1,none⟩=some (.int .i64 0):=b12.cell rfl;have p2:wq.cell? ⟨w.heap.size+1,2,none⟩=some (.int .i64 0):=b12.cell rfl;have p3:wq.cell? ⟨w.heap.size+1,3,none⟩=some (.int .i64 0):=b12.cell rfl;have y0:=b12.frozen 0;have y1:=b12.frozen 1;have y2:=b12.frozen 2;have y3:=b12.frozen 3;cases E with
  |true=>
   obtain⟨rfl,rfl,rfl,he3⟩:=hval.o rfl;have u0:wq.cell? ⟨g,0,none⟩=some (.int .i64 e0):=bG.o.cell rfl;have u1:wq.cell? ⟨g,1,none⟩=some (.int .i64 e1):=bG.o.cell rfl;have u2:wq.cell? ⟨g,2,none⟩=some (.int .i64 e2):=bG.o.cell rfl;have u3:wq.cell? ⟨g,3,none⟩=some (.int .i64 e3):=bG.o.cell rfl;have bN:=(((b12.set 0 (.int .i64 e0)).set 1 (.int .i64 e1)).set 2 (.int .i64 e2)).set 3 (.int .i64 e3);have hbt:=((((But.refl (w.heap.size+1) wq).set 0 (.int .i64 e0)).set 1 (.int .i64 e1)).set 2 (.int .i64 e2)).set 3 (.int .i64 e3);clear hval;obtain⟨h2',NR,aWJ,a9A,aNX,bN',EB,bL4⟩:=aL h2 b02 b12 aNW aWN bN hbt he3;clear h2 b02 b12 aNW aWN bN hbt he3;go_wp2_with fail
   refine bodyPost_ret (results_cell_row rfl _ _ (w.heap.size+1) 55 #[.int .i64 e0,.int .i64 e1,.int .i64 e2,.int .i64 e3] (0,0) _ rfl bN'.o Tryz.underlying55 rfl (by kernel_rfl)) rfl ?_;have hbz:=EB.o.below (B:=w.heap.size) (by omega) a9A.o.size;have hbw:=a9A.o.trans hbz;refine⟨e0,e1,e2,e3,rfl,?_,?_,Mv.of_below hbw⟩
   ·unfold JH;rw[if_pos a99.o,bL4.o]
   ·unfold zV;rw[if_pos a99.o];exact h'.o.later hbw
  |false=>
   clear hval bG hgN;obtain⟨hl1,hfa,hf0,hfn⟩:1≤(kS (t,y,k,d) K.o).length∧Fits K.l K.n 3 dir t (kS (t,y,k,d) K.o).length:=by
    rcases hok'.o with h|h
    ·rw[a99.o]at h;cases h
    ·exact h
   have hS:=LQ K wq no P h2 3 dir t hfa;obtain⟨q,hq⟩:∃q:Nat,oG K.l 3 dir t=q:=⟨(oG K.l 3 dir t).toNat,by omega⟩;rw[hq]at hS hfn;rw[bU]at hfn;have v0:wq.cell? ⟨w.heap.size,0,none⟩=some (.int .i64 t):=b02.cell rfl;clear p0 p1 p2 p3 y0 y1 y2 y3;obtain⟨h2',NR,aWJ,a9A,aNX,hS',aNY,hq'⟩:=aL h2 b02 b12 aNW aWN hS hfa hq;clear h2 b02 b12 aNW aWN hS hfa hq;go_wp2_with fail
   refine hS'.o.mono ?_;rintro e w4 ⟨rfl,hb4⟩;have h4:=h2'.o.later hb4;have WQ:=NR.o.late hb4;have b14:=aWJ.o.late hb4;have tY:=a9A.o.tm hb4;have JJ:=aNX.o.tm hb4;have b4H:=h4.ne_of;have hg0:w.heap.size≠K.gb:=by omega
   have hg1:w.heap.size+1≠K.gb:=by omega
   obtain⟨Ty,ff,hne,tX,jH⟩:=NV K.gb w4;have HS:=aA (jH _ (But.of_below ((aW w4.heap.size w4).drew)));have HD:=aA ((aW w4.heap.size w4).drew);have q0:∀s,(ff s).cell? ⟨K.gw,0,none⟩=some (.slice (some ⟨K.gb,0,none⟩) K.n K.n):=fun s=>(jJ.a4U (tX s) h4.blk h4.ne).cell rfl;have q1:∀s,(ff s).cell? ⟨K.gw,1,none⟩=some (.int .i64 K.o):=fun s=>(jJ.a4U (tX s) h4.blk h4.ne).cell rfl;have q2:∀s,(ff s).cell? ⟨w.heap.size,1,none⟩=some (.int .i64 y):=fun s=>(jJ.a4U (tX s) WQ hg0).cell rfl;have q3:∀s,(ff s).cell? ⟨w.heap.size,2,none⟩=some (.int .i64 k):=fun s=>(jJ.a4U (tX s) WQ hg0).cell rfl;have q4:∀s,(ff s).cell? ⟨w.heap.size,3,none⟩=some (.slice a n c):=fun s=>(jJ.a4U (tX s) WQ hg0).cell rfl;have hlow:=fun W=>Y8 (P:=Tryz.prog) (T:=24) (E:=5) Tryz.underlying24 a97 K.gb K.n q (by omega) W;clear v0;obtain⟨h4',VP,bL5,lG,oP,tC,aHA,jA⟩:=aL h4 WQ b14 tY JJ hb4 tX jH;clear h4 WQ b14 tY JJ hb4 tX jH;go_wp2_with fail
   refine jU (S:=fun W=>∃s,W=ff s) (by kernel_rfl) 16 rfl ?_;obtain⟨wD,tQ⟩:=aC w4.drew;rw[tQ]at HS HD ⊢;clear tQ;refine jF [0,1,2,3,4,5,6,7,8,9,10,11,12,13] 2 (by kernel_rfl) (fun d _ _ _ _ h=>by cases d <;> exact h) (by kernel_rfl) (by kernel_rfl) (by kernel_rfl) HS.o ?_;simp only[jB,aS,aT,aQ,aR];iterate 14 (go_big_quiet_step (fail))
   refine wpQuiet_nil ?_;refine jC 14 1 (by kernel_rfl) (by kernel_rfl) ?_;simp only[jB,aS,aT,aQ,aR];go_wp2_with fail
   refine(YE t y k a n c d K.o wD (hs'.o.mono (oP.o.tm HD.o)) hd'.o hn).mono ?_;rintro e w5 ⟨a5,m5,rfl,ho5,hb5⟩;have b4V:(kS (t,y,k,d) K.o).length=m5:=(Sl.jX ho5).1.nV;have wQ:=HD.o.tm hb5;have h5:=h4'.o.later wQ;have HS:=aA (jA.o _ (But.of_below wQ));rw[b4V]at hl1 hfn;obtain⟨w6,hr6,h6,hm6,TG⟩:=ES h5 a5 m5 m5 _ (Sl.jX ho5).1 q hl1 hfn 3;have HS6:=aA (jA.o _ ((But.of_below wQ).trans TG));have a1J:=(Mv.of_below (g:=K.gw) (gt:=K.gb) (sv:=sD) (lG.o.tm wQ)).trans hm6;have b06:=jJ.a4U TG (VP.o.late wQ) hg0;have b16:=jJ.a4U TG (bL5.o.late wQ) hg1;obtain⟨a8I,EW,bRA,BN,h5',h6',bL6,bRB,aNZ,aWK,a1H⟩:=aO ho5 hb5 b4V wQ h5 h6 hm6 TG a1J b06 b16;clear ho5 hb5 b4V wQ h5 h6 hm6 TG a1J b06 b16;go_wp2_with fail
   first|refine Mid.mk ⟨HS.o,?_⟩|refine Mid.mk ?_
   refine jC 15 0 (by kernel_rfl) (by kernel_rfl) ?_;simp only[jB,aS,aT,aQ,aR];go_wp2_with (at_builtin;refine wpList_copy_run _ rfl _ _ _ _ rfl _ _ rfl rfl hr6 ?_)
   first|refine Mid.mk ⟨HS6.o,?_⟩|refine Mid.mk ?_
   refine jK (by kernel_rfl) ?_;have v0:w6.cell? ⟨w.heap.size,0,none⟩=some (.int .i64 t):=aWK.o.cell rfl;have v1:w6.cell? ⟨w.heap.size,1,none⟩=some (.int .i64 y):=aWK.o.cell rfl;have v2:w6.cell? ⟨w.heap.size,2,none⟩=some (.int .i64 k):=aWK.o.cell rfl;have p0:w6.cell? ⟨w.heap.size+1,0,none⟩=some (.int .i64 0):=a1H.o.cell rfl;have p1:w6.cell? ⟨w.heap.size+1,1,none⟩=some (.int .i64 0):=a1H.o.cell rfl;have p2:w6.cell? ⟨w.heap.size+1,2,none⟩=some (.int .i64 0):=a1H.o.cell rfl;have p3:w6.cell? ⟨w.heap.size+1,3,none⟩=some (.int .i64 0):=a1H.o.cell rfl;have y0:=a1H.o.frozen 0;have y1:=a1H.o.frozen 1;have y2:=a1H.o.frozen 2;have y3:=a1H.o.frozen 3;clear hr6 q0 q1 q2 q3 q4;go_wp2_with fail
   have bN:=(((a1H.o.set 0 (.int .i64 t)).set 1 (.int .i64 y)).set 2 (.int .i64 k)).set 3 (.int .i64 q);have hbt:=((((But.refl (w.heap.size+1) w6).set 0 (.int .i64 t)).set 1 (.int .i64 y)).set 2 (.int .i64 k)).set 3 (.int .i64 q);refine bodyPost_ret (results_cell_row rfl _ _ (w.heap.size+1) 55 #[.int .i64 t,.int .i64 y,.int .i64 k,.int .i64 q] (0,0) _ rfl bN Tryz.underlying55 rfl (by kernel_rfl)) rfl ?_;refine⟨t,y,k,q,rfl,?_,?_,?_⟩
   ·unfold JH;rw[if_neg (by rw[a99.o];decide),hq'.o]
   ·unfold zV;rw[if_neg (by rw[a99.o];decide),hq'.o,bU];exact h6'.o.but hbt (by omega) (by omega) (by have:=h'.o.a96;omega)
   ·exact Mv.new aNZ.o hbt (by omega)
