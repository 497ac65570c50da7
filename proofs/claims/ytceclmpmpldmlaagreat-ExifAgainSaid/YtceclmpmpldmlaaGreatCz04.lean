import Derived.Test.YtceclmpmpldmlaaGreatCz03
set_option linter.unusedSimpArgs false
set_option linter.unusedVariables false
set_option maxRecDepth 100000
set_option maxHeartbeats 8000000
namespace Go.Proofs.YtceclmpmpldmlaaGreat
open Go.RowKit Tt
theorem aN3 (a:Option Addr) (n c:Nat) (z:List Int) (o at_ size:Int) (w:World) (hs:Sl w a n c 1 (ints .u8 z)) (hb:mW z):
  Calls Tryz.prog 164 #[.agg #[.slice a n c,.int .i64 o],.int .i64 at_,.int .i64 size] w fun e w'=>e= .returned (.tuple #[.int .i64 (kZ z at_ size o),.bool (VL n at_ size o)])∧Below w.heap.size w w':=by
 have hG:=fun W (h:Below w.heap.size w W)=>a4C a n c z at_ size o W (hs.mono h) hb;have hG':=aA hG;clear hG;go_enter Tryz.func164,Tryz.ntmps164;go_wp2_with fail
 have hb1:=aD w (.cells #[.slice a n c,.int .i64 o] 179);refine(hG'.o _ hb1).mono ?_;rintro e w2 ⟨rfl,hb2⟩;have hb:=hb1.tm hb2;clear hb2 hb1;have hb':=aA hb;clear hb;go_wp2_with fail
 go_ret2;exact⟨rfl,hb'.o⟩
theorem P8 (g:Nat) (a:Option Addr) (n c:Nat) (z:List Int) (o at_ size:Int) (ok:Bool) (w:World) (hr:jJ w g 181 #[.slice a n c,.int .i64 o,.int .i64 at_,.bool ok]) (hs:Sl w a n c 1 (ints .u8 z)) (hb:mW z)
  (h0:0≤at_) (h1:at_≤4611686018427387904) (h2:0≤size) (h3:size≤8):
  Calls Tryz.prog 112 #[.pointer (some ⟨g,0,none⟩),.int .i64 size] w fun e w'=>e= .returned (.int .i64 (kZ z at_ size o))∧jJ w' g 181 #[.slice a n c,.int .i64 o,.int .i64 (at_+size),.bool (ok&&VL n at_ size o)]∧But g w w':=by
 obtain⟨Ty,f,hne,hbel,jH⟩:=jR w;have q0:∀s,(f s).cell? ⟨g,0,none⟩=some (.slice a n c):=fun s=>(jJ.late hr (hbel s)).cell rfl;have q1:∀s,(f s).cell? ⟨g,1,none⟩=some (.int .i64 o):=fun s=>(jJ.late hr (hbel s)).cell rfl;have q2:∀s,(f s).cell? ⟨g,2,none⟩=some (.int .i64 at_):=fun s=>(jJ.late hr (hbel s)).cell rfl;obtain⟨HS,HD⟩:=aF (jH _ ((aW _ _).drew)) ((aW w.heap.size w).drew);have hw:=aB (at_+size) (by omega);have hN:=fun W (h:Below w.heap.size w W)=>aN3 a n c z o at_ size W (hs.mono h) hb;obtain⟨v,hv⟩:=aC (kZ z at_ size o);obtain⟨b,hbb⟩:∃v,VL n at_ size o=v:=⟨_,rfl⟩;rw[hv,hbb]at hN;rw[hv,hbb];obtain⟨hr',hs',hb',jG,jA,hN',hv',CZ⟩:=aL hr hs hb hbel jH hN hv hbb;clear hr hs hb hbel jH hN hv hbb;go_enter Tryz.func112,Tryz.ntmps112;go_wp2_with fail
 refine jU (S:=fun W=>∃s,W=f s) (by kernel_rfl) 15 rfl ?_;refine jF [0,1,2,3,4,5,6,7,8] 6 (by kernel_rfl) (fun d _ _ _ _ h=>by cases d <;> exact h) (by kernel_rfl) (by kernel_rfl) (by kernel_rfl) HS.o ?_;simp only[jB,aS,aT,aQ,aR];iterate 9 (go_big_quiet_step (fail))
 refine wpQuiet_nil ?_;refine jC 9 5 (by kernel_rfl) (by kernel_rfl) ?_;simp only[jB,aS,aT,aQ,aR];go_wp2_with fail
 refine(hN'.o _ HD.o).mono ?_;rintro e w2 ⟨rfl,hb2⟩;have hbw:=HD.o.tm hb2;have HS:=aA (jA.o _ hbw);have b2:=hr'.o.late hbw;clear hb2;obtain⟨jW,b2'⟩:=aF hbw b2;clear hbw b2;go_wp2_with fail
 first|refine Mid.mk ⟨HS.o,?_⟩|refine Mid.mk ?_
 refine jF [10,11,12,13,14] 0 (by kernel_rfl) (fun d _ _ _ _ h=>by cases d <;> exact h) (by kernel_rfl) (by kernel_rfl) (by kernel_rfl) HS.o ?_;simp only[jB,aS,aT,aQ,aR];iterate 5 (go_big_quiet_step (fail))
 refine wpQuiet_nil ?_;refine jK (by kernel_rfl) ?_;have p0:w2.cell? ⟨g,0,none⟩=some (.slice a n c):=b2'.o.cell rfl;have p2:w2.cell? ⟨g,2,none⟩=some (.int .i64 at_):=b2'.o.cell rfl;have p3:w2.cell? ⟨g,3,none⟩=some (.bool ok):=b2'.o.cell rfl;have y2:=b2'.o.frozen 2;have y3:=b2'.o.frozen 3;have b3:=(b2'.o.set 2 (.int .i64 (at_+size))).set 3 (.bool (ok&&b));have hbt:=((But.of_below (b:=g) jW.o).set 2 (.int .i64 (at_+size))).set 3 (.bool (ok&&b));obtain⟨b3',EB⟩:=aF b3 hbt;clear b3 hbt;clear q0 q1 q2;cases ok
 ·simp only[iY]at*;go_wp2_with fail
  go_ret;exact⟨rfl,b3'.o,EB.o⟩
 ·simp only[dH]at*;go_wp2_with fail
  go_ret;exact⟨rfl,b3'.o,EB.o⟩
abbrev mK:=Int×Int×Int×Int
def mY (x:mK):List Value:= [.int .i64 x.1,.int .i64 x.2.1,.int .i64 x.2.2.1,.int .i64 x.2.2.2]
def a4I (x:mK):Value:= .agg #[.int .i64 x.1,.int .i64 x.2.1,.int .i64 x.2.2.1,.int .i64 x.2.2.2]
theorem mG (x:mK):(mY x).length=4:=rfl
def J9 (z:List Int) (o p:Int):mK:=(kZ z p 2 o,kZ z (p+2) 2 o,kZ z (p+4) 4 o,kZ z (p+8) 4 o)
theorem P9 {n:Nat} {at_ size o:Int} (hs:size=1∨size=2∨size=4) (ho:o=1∨o=2) (h0:0≤at_) (h1:at_+size≤n):VL n at_ size o=true:=by
 unfold VL FY;simp;omega
theorem aJE (a:Option Addr) (n c:Nat) (z:List Int) (o p:Int) (w:World) (hs:Sl w a n c 1 (ints .u8 z)) (hb:mW z) (ho:o=1∨o=2) (h0:0≤p) (h1:p+12≤n) (hn:n≤1000000000):
  Calls Tryz.prog 50 #[.slice a n c,.int .i64 p,.int .i64 o] w fun e w'=>e= .returned (.tuple #[a4I (J9 z o p),.bool true])∧Below w.heap.size w w':=by
 have hle:=hs.le;have hmx:=hs.max;have hR:=fun W=>XO p 12 n W (by omega) (by omega);rw[show vX p 12 n=true by unfold vX;simp;omega]at hR;have g1:=P9 (n:=n) (at_:=p) (size:=2) (by omega) ho h0 (by omega);have g2:=P9 (n:=n) (at_:=p+2) (size:=2) (by omega) ho (by omega) (by omega);have g3:=P9 (n:=n) (at_:=p+4) (size:=4) (by omega) ho (by omega) (by omega);have g4:=P9 (n:=n) (at_:=p+8) (size:=4) (by omega) ho (by omega) (by omega);unfold a4I J9;simp only;obtain⟨v1,hv1⟩:∃v,kZ z p 2 o=v:=⟨_,rfl⟩;obtain⟨v2,hv2⟩:∃v,kZ z (p+2) 2 o=v:=⟨_,rfl⟩;obtain⟨v3,hv3⟩:∃v,kZ z (p+4) 4 o=v:=⟨_,rfl⟩;obtain⟨v4,hv4⟩:∃v,kZ z (p+8) 4 o=v:=⟨_,rfl⟩;rw[hv1,hv2,hv3,hv4];obtain⟨W,hW⟩:∃W,(w.alloc (.cells #[.int .i64 0,.int .i64 0,.int .i64 0,.int .i64 0] 55)).alloc (.cells #[.slice a n c,.int .i64 o,.int .i64 p,.bool true] 181)=W:=⟨_,rfl⟩;have b0:jJ W w.heap.size 55 #[.int .i64 0,.int .i64 0,.int .i64 0,.int .i64 0]:=by rw[←hW];exact(jJ.new w _ _).alloc _
 have hrd:jJ W (w.heap.size+1) 181 #[.slice a n c,.int .i64 o,.int .i64 p,.bool true]:=by rw[←hW];exact sW _ _ (by simp)
 have hbW:Below w.heap.size w W:=by rw[←hW];exact((aD w _).alloc (by simp) _)
 have hsW:=hs.mono hbW;have hltW:=hrd.lt;have HN1:=P8 (w.heap.size+1) a n c z o p 2 true W hrd hsW hb h0 (by omega) (by omega) (by omega);have HN2:=fun W2 h hs2=>P8 (w.heap.size+1) a n c z o (p+2) 2 true W2 h hs2 hb (by omega) (by omega) (by omega) (by omega);have HN3:=fun W2 h hs2=>P8 (w.heap.size+1) a n c z o (p+4) 4 true W2 h hs2 hb (by omega) (by omega) (by omega) (by omega);have HN4:=fun W2 h hs2=>P8 (w.heap.size+1) a n c z o (p+8) 4 true W2 h hs2 hb (by omega) (by omega) (by omega) (by omega);rw[hv1,g1]at HN1;rw[hv2,g2]at HN2;rw[hv3,g3]at HN3;rw[hv4,g4]at HN4;simp only[Bool.and_self,Int.add_assoc,Int.reduceAdd]at HN1 HN2 HN3 HN4;clear g1 g2 g3 g4 hv1 hv2 hv3 hv4;obtain⟨hs',hb',hR',b0',a4J,EC,bTG,bKL,bKM,bKN,bKO⟩:=aO hs hb hR b0 hrd hbW hsW HN1 HN2 HN3 HN4;clear hs hb hR b0 hrd hbW hsW HN1 HN2 HN3 HN4;go_enter Tryz.func50,Tryz.ntmps50;go_wp2_with (go_at_call 111;refine(hR'.o _).mono ?_;rintro e w1 ⟨rfl,rfl⟩)
 clear hW;refine bKL.o.mono ?_;rintro e W1 ⟨rfl,hr1,aJF⟩;have hB1:=EC.o.trans (aJF.below (eB w.heap.size) EC.o.size);have b01:=b0'.o.but aJF (by omega);clear aJF;obtain⟨hr1',aDG,a8J⟩:=aG hr1 hB1 b01;clear hr1 hB1 b01;go_wp2_with fail
 refine(bKM.o _ hr1'.o (hs'.o.mono aDG.o)).mono ?_;rintro e W2 ⟨rfl,hr2,b4F⟩;have hB2:=aDG.o.trans (b4F.below (eB w.heap.size) aDG.o.size);have b02:=a8J.o.but b4F (by omega);clear b4F hr1' aDG a8J;obtain⟨hr2',hB2',NR⟩:=aG hr2 hB2 b02;clear hr2 hB2 b02;go_wp2_with fail
 refine(bKN.o _ hr2'.o (hs'.o.mono hB2'.o)).mono ?_;rintro e W3 ⟨rfl,hr3,aJG⟩;have hB3:=hB2'.o.trans (aJG.below (eB w.heap.size) hB2'.o.size);have WR:=NR.o.but aJG (by omega);clear aJG hr2' hB2' NR;obtain⟨bB9,aDH,a4K⟩:=aG hr3 hB3 WR;clear hr3 hB3 WR;go_wp2_with fail
 refine(bKO.o _ bB9.o (hs'.o.mono aDH.o)).mono ?_;rintro e W4 ⟨rfl,hr4,aJH⟩;have hB4:=aDH.o.trans (aJH.below (eB w.heap.size) aDH.o.size);have WQ:=a4K.o.but aJH (by omega);clear aJH bB9 aDH a4K;go_upto_region 5 with fail
 have UN:=WQ.alloc (.cells #[.int .i64 v1,.int .i64 v2,.int .i64 v3,.int .i64 v4] 55);have hr5:=hr4.alloc (.cells #[.int .i64 v1,.int .i64 v2,.int .i64 v3,.int .i64 v4] 55);have hn5:=jJ.new W4 55 #[.int .i64 v1,.int .i64 v2,.int .i64 v3,.int .i64 v4];have XQ:=hB4.alloc hB4.size (.cells #[.int .i64 v1,.int .i64 v2,.int .i64 v3,.int .i64 v4] 55);generalize W4.alloc (.cells #[.int .i64 v1,.int .i64 v2,.int .i64 v3,.int .i64 v4] 55)=W5 at*;generalize W4.heap.size=g5 at*;have c2:W5.cell? ⟨w.heap.size+1,3,none⟩=some (.bool true):=hr5.cell rfl;have d0:W5.cell? ⟨g5,0,none⟩=some (.int .i64 v1):=hn5.cell rfl;have d1:W5.cell? ⟨g5,1,none⟩=some (.int .i64 v2):=hn5.cell rfl;have d2:W5.cell? ⟨g5,2,none⟩=some (.int .i64 v3):=hn5.cell rfl;have d3:W5.cell? ⟨g5,3,none⟩=some (.int .i64 v4):=hn5.cell rfl;have p0:W5.cell? ⟨w.heap.size,0,none⟩=some (.int .i64 0):=UN.cell rfl;have p1:W5.cell? ⟨w.heap.size,1,none⟩=some (.int .i64 0):=UN.cell rfl;have p2:W5.cell? ⟨w.heap.size,2,none⟩=some (.int .i64 0):=UN.cell rfl;have p3:W5.cell? ⟨w.heap.size,3,none⟩=some (.int .i64 0):=UN.cell rfl;have y0:=UN.frozen 0;have y1:=UN.frozen 1;have y2:=UN.frozen 2;have y3:=UN.frozen 3;clear hr4 hB4 WQ hr5 hn5;obtain⟨bKP,a4L⟩:=aF XQ UN;clear XQ UN;go_wp2_with fail
 refine bodyPost_ret (jL rfl _ _ w.heap.size 55 #[.int .i64 v1,.int .i64 v2,.int .i64 v3,.int .i64 v4] _ rfl (a4L.o.XD _ _ _ _) Tryz.underlying55 rfl (by kernel_rfl)) rfl ?_;exact⟨rfl,BL bKP.o (aU _) _ _ _ _⟩
end Go.Proofs.YtceclmpmpldmlaaGreat
namespace Tt
open Go Go.RowKit
theorem pO {P:Program} {fn:Func} {p u v:Tmp} {ty:TypeId} (h:fn.results=#[.cell p ty,.tmp u,.tmp v]) (tmps:Array Value) (w:World) (g:Nat) (t:TypeId) (cs:Array Value) (d:TypeDesc)
  (hp:tmps.getD p undef= .pointer (some ⟨g,0,none⟩)) (hg:jJ w g t cs)
  (hu:P.underlying ty=some d) (hd:(match d with| .struct _| .array _ _=>true|_=>false)=true) (hi:(P.info? ty).map (·.size)=some cs.size):
  (results fn tmps).run P w= .ok (.tuple #[.agg cs,tmps.getD u undef,tmps.getD v undef]) w:=by
 have e:(results fn tmps).run P w=((asAddr (tmps.getD p undef)).run P w).andThen fun a w₁=>((loadVar ty a).run P w₁).andThen fun x w₂=> .ok (.tuple #[x,tmps.getD u undef,tmps.getD v undef]) w₂:=by
  simp only[results,h];simp[Sem.run_bind,Result.andThen]
 rw[e,hp];simp[asAddr,Result.andThen,run_loadVar_row w g t ty cs (0,0) d hg hu hd hi]
theorem jJ.qE {w:World} {g:Nat} {T:TypeId} {cs:Array Value} (h:jJ w g T cs) {i:Nat} {v:Value} (hv:cs[i]? =some v):w.setCell ⟨g,i,none⟩ v=w:=by
 have e:(w.setCell ⟨g,i,none⟩ v).heap=w.heap:=by
  apply Array.ext_getElem?;intro k;simp only[World.setCell,gP];by_cases hk:g=k
  ·subst hk;rw[if_pos rfl,h];have hi:=(bY.1 hv).1;have:cs.setIfInBounds i v=cs:=by
    apply Array.ext_getElem?;intro j;by_cases hj:i=j
    ·subst hj;rw[Array.getElem?_setIfInBounds_self_of_lt hi,hv]
    ·rw[dX hj]
   simp[this]
  ·rw[if_neg hk]
 cases w
 simp only[World.setCell]at e ⊢;rw[e]
theorem jJ.SX {w:World} {g:Nat} {T:TypeId} {x y z:Value} (h:jJ w g T #[x,y,z]):((w.setCell ⟨g,0,none⟩ x).setCell ⟨g,1,none⟩ y).setCell ⟨g,2,none⟩ z=w:=by
 rw[h.qE rfl,h.qE rfl,h.qE rfl]
end Tt
namespace Go.Proofs.YtceclmpmpldmlaaGreat
open Go.RowKit Tt
def a4M (l:List Int):Bool:= !l.any (fun x=>x != 0)
def inS (x:mK) (o:Int):Option (List Int×Bool):=
 if(kX x.2.2.2 4 o&&aDF x.2.1 x.2.2.1)=true then(SV x.2.1 x.2.2.1 (kL x.2.2.2 4 o) o).map (fun d=>(d,a4M ((kL x.2.2.2 4 o).drop d.length)))else none
theorem aN4 {n o:Int} (h:kX n 4 o=true):(kL n 4 o).length=4:=by
 unfold kL;rw[if_pos h];split <;> simp[LJ]
theorem vE (n s o:Int):mW (kL n s o):=by
 unfold kL;split
 ·split
  ·exact a4D _ _
  ·intro x hx;exact a4D _ _ _ (List.mem_reverse.1 hx)
 ·intro x hx;cases hx
abbrev b4G (w:World) (ty cnt:Int) (R:Option (List Int×Bool)) (e:Ending) (w':World):Prop:=
 ∃ty' cnt' a2 m c2 cl,e= .returned (.tuple #[.agg #[.int .i64 ty',.int .i64 cnt',.slice a2 m c2],.bool cl,.bool R.isSome])∧Below w.heap.size w w'∧
  ∀d,R=some d→ty'=ty∧cnt'=cnt∧cl=d.2∧w'.ownsRow w.heap.size 5 1 (.slice a2 m c2) m (ints .u8 d.1)
theorem aN5 (x:Int) (w:World):Calls Tryz.prog 114 #[.int .u8 x] w fun e w'=>e= .returned (.bool (x != 0))∧Below w.heap.size w w':=by
 go_enter Tryz.func114,Tryz.ntmps114;go_wp2;go_ret;exact⟨rfl,aW _ _⟩
theorem aJI (x:mK) (o:Int) (w:World):Calls Tryz.prog 51 #[a4I x,.int .i64 o] w (b4G w x.2.1 x.2.2.1 (inS x o)):=by
 obtain⟨tg,ty,cnt,sl⟩:=x;unfold a4I;simp only;obtain⟨R,hR⟩:=aC (inS (tg,ty,cnt,sl) o);rw[hR];unfold inS at hR;simp only at hR;have HP:=fun W=>DC sl 4 o W;have HI:=fun W=>aW5 ty cnt W;have hpl:=aN4 (n:=sl) (o:=o);have hpb:=vE sl 4 o;generalize kX sl 4 o=pk at*;obtain⟨il,hil⟩:=aC (aDF ty cnt);rw[hil]at hR HI;have bKQ:=aA hil;clear hil;generalize kL sl 4 o=D at*;obtain⟨W,hW⟩:∃W,(w.alloc (.cells #[.int .i64 tg,.int .i64 ty,.int .i64 cnt,.int .i64 sl] 55)).alloc (.cells #[.int .i64 0,.int .i64 0,.slice none 0 0] 72)=W:=⟨_,rfl⟩;have bx:jJ W w.heap.size 55 #[.int .i64 tg,.int .i64 ty,.int .i64 cnt,.int .i64 sl]:=by rw[←hW];exact(jJ.new w _ _).alloc _
 have b0:jJ W (w.heap.size+1) 72 #[.int .i64 0,.int .i64 0,.slice none 0 0]:=by rw[←hW];exact sW _ _ (by simp)
 have hbW:Below w.heap.size w W:=by rw[←hW];exact((aD w _).alloc (by simp) _)
 have hltW:=b0.lt;have c3:W.cell? ⟨w.heap.size,3,none⟩=some (.int .i64 sl):=bx.cell rfl;obtain⟨HP',HI',hpl',bKR,bx',b0',EC,hR'⟩:=aL HP HI hpl hpb bx b0 hbW hR;clear HP HI hpl hpb bx b0 hbW hR;go_enter Tryz.func51,Tryz.ntmps51;go_upto_region 1 with fail
 try rw[hW]
 clear hW;go_wp2_with fail
 refine(HP'.o _).mono ?_;rintro e w1 ⟨a1,m1,c1,rfl,ho1,hb1⟩;obtain rfl:m1=D.length:=by have:=(Sl.jX ho1).1.nV;omega
 have bx1:=bx'.o.late hb1;have b01:=b0'.o.late hb1;have XT:=EC.o.tm hb1;have hlt1:=b01.lt;have k1:w1.cell? ⟨w.heap.size,1,none⟩=some (.int .i64 ty):=bx1.cell rfl;have k2:w1.cell? ⟨w.heap.size,2,none⟩=some (.int .i64 cnt):=bx1.cell rfl;have p0:w1.cell? ⟨w.heap.size+1,0,none⟩=some (.int .i64 0):=b01.cell rfl;have p1:w1.cell? ⟨w.heap.size+1,1,none⟩=some (.int .i64 0):=b01.cell rfl;have p2:w1.cell? ⟨w.heap.size+1,2,none⟩=some (.slice none 0 0):=b01.cell rfl;have y0:=b01.frozen 0;have y1:=b01.frozen 1;have y2:=b01.frozen 2;clear hb1 c3;obtain⟨bx1',a8J,xQ,a8K⟩:=aH bx1 b01 XT ho1;clear bx1 b01 XT ho1;cases pk
 ·obtain rfl:R=none:=by rw[←hR'.o];rfl
  go_wp2_with fail
  refine bodyPost_ret (pO rfl _ _ (w.heap.size+1) 72 #[.int .i64 0,.int .i64 0,.slice none 0 0] _ rfl (a8J.o.xK _ _ _) Tryz.underlying72 rfl (by kernel_rfl)) rfl ?_;exact⟨0,0,none,0,0,false,rfl,kM xQ.o (eB _) _ _ _,fun d h=>by cases h⟩
 clear p0 p1 p2 y0 y1 y2;go_wp2_with fail
 refine(HI'.o _).mono ?_;rintro e w2 ⟨rfl,hb2⟩;have bx2:=bx1'.o.late hb2;have b02:=a8J.o.late hb2;have hbw2:=xQ.o.tm hb2;have ho2:=jY a8K.o hb2;have hlt2:=b02.lt;clear k1 k2;have k1:w2.cell? ⟨w.heap.size,1,none⟩=some (.int .i64 ty):=bx2.cell rfl;have k2:w2.cell? ⟨w.heap.size,2,none⟩=some (.int .i64 cnt):=bx2.cell rfl;have p0:w2.cell? ⟨w.heap.size+1,0,none⟩=some (.int .i64 0):=b02.cell rfl;have p1:w2.cell? ⟨w.heap.size+1,1,none⟩=some (.int .i64 0):=b02.cell rfl;have p2:w2.cell? ⟨w.heap.size+1,2,none⟩=some (.slice none 0 0):=b02.cell rfl;have y0:=b02.frozen 0;have y1:=b02.frozen 1;have y2:=b02.frozen 2;clear hb2;obtain⟨a4N,NR,lU,ED⟩:=aH bx2 b02 hbw2 ho2;clear bx2 b02 hbw2 ho2;cases il
 ·obtain rfl:R=none:=by rw[←hR'.o];rfl
  go_wp2_with fail
  refine bodyPost_ret (pO rfl _ _ (w.heap.size+1) 72 #[.int .i64 0,.int .i64 0,.slice none 0 0] _ rfl (NR.o.xK _ _ _) Tryz.underlying72 rfl (by kernel_rfl)) rfl ?_;exact⟨0,0,none,0,0,false,rfl,kM lU.o (eB _) _ _ _,fun d h=>by cases h⟩
 clear p0 p1 p2 y0 y1 y2;have hR2:=hR'.o;simp only[Bool.and_self,if_true]at hR2;have HO:=aN1 ty cnt a1 D.length c1 D o w2 (Sl.jX ED.o).1 bKR.o;have hD4:=hpl'.o trivial;have hol:=fun d (h:SV ty cnt D o=some d)=>aH4 h;have hlen:∀d,SV ty cnt D o=some d→d.length≤4:=fun d h=>by
  have h1:=bKQ.o;unfold aDF zY at h1;have h2:=aH4 h;split at h1 <;> simp at h1 <;> omega
 generalize SV ty cnt D o=S at*;obtain⟨HO',uZ,bKS,hlen',aN6⟩:=aI HO hR2 hol hlen hD4;clear HO hR2 hol hlen hD4;go_wp2_with fail
 refine HO'.o.mono ?_;rintro e w3 ⟨ty',cnt',a3,m3,c3,rfl,hb3,hd3⟩;have WR:=NR.o.late hb3;have xL:=lU.o.tm hb3;have ho3:=jY ED.o hb3;have hlt3:=WR.lt;clear k1 k2;have p0:w3.cell? ⟨w.heap.size+1,0,none⟩=some (.int .i64 0):=WR.cell rfl;have p1:w3.cell? ⟨w.heap.size+1,1,none⟩=some (.int .i64 0):=WR.cell rfl;have p2:w3.cell? ⟨w.heap.size+1,2,none⟩=some (.slice none 0 0):=WR.cell rfl;have y0:=WR.frozen 0;have y1:=WR.frozen 1;have y2:=WR.frozen 2;clear hb3;obtain⟨a4K,sP,EO,aW6⟩:=aH WR xL ho3 hd3;clear WR xL ho3 hd3;go_upto_region 5 with fail
 have WQ:=a4K.o.xK (.int .i64 ty') (.int .i64 cnt') (.slice a3 m3 c3);have tY:=kM sP.o (eB w.heap.size) (.int .i64 ty') (.int .i64 cnt') (.slice a3 m3 c3);have SF:=lJ EO.o ((((But.refl (w.heap.size+1) w3).set 0 (.int .i64 ty')).set 1 (.int .i64 cnt')).set 2 (.slice a3 m3 c3)) (fun hx=>by have:=(EO.o.lt _ hx).1;omega);have hd4:=fun d h=>(aW6.o d h).2.2;have hd5:=fun d h=>lJ (hd4 d h) ((((But.refl (w.heap.size+1) w3).set 0 (.int .i64 ty')).set 1 (.int .i64 cnt')).set 2 (.slice a3 m3 c3)) (fun hx=>by have:=((hd4 d h).lt _ hx).1;omega);have hd6:=fun d h=>(⟨(aW6.o d h).1,(aW6.o d h).2.1,hd5 d h⟩:_∧_∧_);clear hd4 hd5 p0 p1 p2 y0 y1 y2 aW6;generalize ((w3.setCell ⟨w.heap.size+1,0,none⟩ (.int .i64 ty')).setCell ⟨w.heap.size+1,1,none⟩ (.int .i64 cnt')).setCell ⟨w.heap.size+1,2,none⟩ (.slice a3 m3 c3)=w4 at*;have p0:w4.cell? ⟨w.heap.size+1,0,none⟩=some (.int .i64 ty'):=WQ.cell rfl;have p1:w4.cell? ⟨w.heap.size+1,1,none⟩=some (.int .i64 cnt'):=WQ.cell rfl;have p2:w4.cell? ⟨w.heap.size+1,2,none⟩=some (.slice a3 m3 c3):=WQ.cell rfl;have y0:=WQ.frozen 0;have y1:=WQ.frozen 1;have y2:=WQ.frozen 2;clear a4K sP EO;have b4H:=WQ.lt;obtain⟨VP,lG,a4G,PD⟩:=aH WQ tY SF hd6;clear WQ tY SF hd6;cases S with
 |none=>
  obtain rfl:R=none:=by rw[←uZ.o];rfl
  simp only[Option.isSome_none]at*;go_wp2_with fail
  refine bodyPost_ret (pO rfl _ _ (w.heap.size+1) 72 #[.int .i64 0,.int .i64 0,.slice none 0 0] _ rfl (VP.o.xK _ _ _) Tryz.underlying72 rfl (by kernel_rfl)) rfl ?_;exact⟨0,0,none,0,0,false,rfl,kM lG.o (eB _) _ _ _,fun d h=>by cases h⟩
 |some d=>
  obtain⟨rfl,rfl,hod⟩:=PD.o d rfl;have hRd:R=some (d,a4M (D.drop d.length)):=by rw[←uZ.o];rfl
  subst hRd;have LK:=(Sl.jX hod).1.nV;have hdl:=bKS.o d rfl;obtain rfl:m3=d.length:=by omega
  have hlong:=hlen'.o d rfl;simp only[Option.isSome_some]at*;go_upto_region 8 with fail
  clear p0 p1 p2 y0 y1 y2 LK;obtain⟨Ty,f,hne,hbel,jH⟩:=jR w4;have q0:∀s,(f s).cell? ⟨w.heap.size+1,0,none⟩=some (.int .i64 ty'):=fun s=>(jJ.late VP.o (hbel s)).cell rfl;have q1:∀s,(f s).cell? ⟨w.heap.size+1,1,none⟩=some (.int .i64 cnt'):=fun s=>(jJ.late VP.o (hbel s)).cell rfl;have q2:∀s,(f s).cell? ⟨w.heap.size+1,2,none⟩=some (.slice a3 d.length c3):=fun s=>(jJ.late VP.o (hbel s)).cell rfl;obtain⟨HS,HD⟩:=aF (jH _ ((aW _ _).drew)) ((aW w4.heap.size w4).drew);have bTH:=(Sl.jX a4G.o).1.le;have hD4:=aN6.o;obtain⟨a7,hsl,hs7,yO⟩:=aGZ (P:=Tryz.prog) (T:=24) (E:=5) (sz:=1) Tryz.underlying24 (fun W=>by kernel_rfl) (Sl.jX a4G.o).1 (d.length:Int) (by omega) (by omega) (D.length - d.length) (c1 - d.length) (by omega) (by omega);rw[gU,bU,show(ints .u8 D).drop d.length=ints .u8 (D.drop d.length) by simp[ints]]at hs7;have HC:=fun W (h:Below w4.heap.size w4 W)=>aMY 114 rfl a7 (D.length - d.length) (c1 - d.length) (D.drop d.length) (fun x=>x != 0) W (hs7.mono h) (fun W2 x _=>aN5 x W2);have hz:a4M (D.drop d.length)= !(D.drop d.length).any (fun x=>x != 0):=rfl;generalize (D.drop d.length).any (fun x=>x != 0)=r at*;clear hdl hlong;obtain⟨jG,jA,bKT,JA,SK,aN6,JB⟩:=aK hbel jH hs7 yO HC hD4 hod;clear hbel jH hs7 yO HC hD4 hod;go_wp2_with fail
  refine jU (S:=fun W=>∃s,W=f s) (by kernel_rfl) 12 rfl ?_;refine jF [0,1,2,3,4,5,6] 5 (by kernel_rfl) (fun d _ _ _ _ h=>by cases d <;> exact h) (by kernel_rfl) (by kernel_rfl) (by kernel_rfl) HS.o ?_;simp only[jB,aS,aT,aQ,aR];iterate 7 (go_big_quiet_step (fail))
  refine wpQuiet_nil ?_;refine jC 7 4 (by kernel_rfl) (by kernel_rfl) ?_;simp only[jB,aS,aT,aQ,aR];go_wp2_with fail
  refine(SK.o _ HD.o).mono ?_;rintro e w5 ⟨rfl,hb5⟩;have wQ:=HD.o.tm hb5;have HS:=aA (jA.o _ wQ);have UN:=VP.o.late wQ;have vD:=lG.o.tm wQ;have bBA:=jY JB.o wQ;have p0:w5.cell? ⟨w.heap.size+1,0,none⟩=some (.int .i64 ty'):=UN.cell rfl;have p1:w5.cell? ⟨w.heap.size+1,1,none⟩=some (.int .i64 cnt'):=UN.cell rfl;have p2:w5.cell? ⟨w.heap.size+1,2,none⟩=some (.slice a3 d.length c3):=UN.cell rfl;have y0:=UN.frozen 0;have y1:=UN.frozen 1;have y2:=UN.frozen 2;clear hb5;obtain⟨a4L,nQ,bBB,BN⟩:=aH UN vD bBA wQ;clear UN vD bBA wQ;go_wp2_with fail
  first|refine Mid.mk ⟨HS.o,?_⟩|refine Mid.mk ?_
  refine jF [8] 3 (by kernel_rfl) (fun d _ _ _ _ h=>by cases d <;> exact h) (by kernel_rfl) (by kernel_rfl) (by kernel_rfl) HS.o ?_;simp only[jB,aS,aT,aQ,aR];iterate 1 (go_big_quiet_step (fail))
  refine wpQuiet_nil ?_;refine jC 9 2 (by kernel_rfl) (by kernel_rfl) ?_;simp only[jB,aS,aT,aQ,aR];clear q0 q1 q2;go_wp2_with fail
  first|rw[a4L.o.SX]|skip
  first|refine Mid.mk ⟨HS.o,?_⟩|refine Mid.mk ?_
  have q0:∀s,(f s).cell? ⟨w.heap.size+1,0,none⟩=some (.int .i64 ty'):=fun s=>(jJ.late VP.o (jG.o s)).cell rfl;refine jF [10,11] 0 (by kernel_rfl) (fun d _ _ _ _ h=>by cases d <;> exact h) (by kernel_rfl) (by kernel_rfl) (by kernel_rfl) HS.o ?_;simp only[jB,aS,aT,aQ,aR];iterate 2 (go_big_quiet_step (fail))
  refine wpQuiet_nil ?_;refine jK (by kernel_rfl) ?_;go_wp2_with fail
  refine bodyPost_ret (pO rfl _ _ (w.heap.size+1) 72 #[.int .i64 ty',.int .i64 cnt',.slice a3 d.length c3] _ rfl a4L.o Tryz.underlying72 rfl (by kernel_rfl)) rfl ?_;exact⟨ty',cnt',a3,d.length,c3,!r,rfl,nQ.o,fun d' h=>by
   obtain rfl:_=d':=by simpa using h
   exact⟨rfl,rfl,hz.symm,kK bBB.o lU.o.size⟩⟩
abbrev lV:=List Lk×Int×Int×Int
abbrev jM:lV:=([],0,0,0)
def xM (x:Int):Bool:=decide (0≤x)&&decide (x<65536)
def I8 (n i:Nat) (x:Int):Bool:=decide ((i:Int)<x)&&decide (x<n)
def qO (n i:Nat) (s:lV) (k:Nat):Bool:=
 xM (s.1.getD k (0,0)).1&&(decide (k=0)||decide ((s.1.getD (k - 1) (0,0)).1<(s.1.getD k (0,0)).1))&&I8 n i (s.1.getD k (0,0)).2&& !(decide (0<s.2.1)&&(decide ((s.1.getD k (0,0)).1=s.2.1)||decide ((s.1.getD k (0,0)).1=s.2.2.1)))
def XU (n i:Nat) (s:lV):Bool:=decide (s.2.2.2= -1)||I8 n i s.2.2.2
def a2F (s:lV):Bool:=(decide (s.2.1=0)&&decide (s.2.2.1=0))||(decide (1≤s.2.1)&&decide (s.2.1<s.2.2.1)&&xM s.2.2.1)
def lH (n i:Nat) (s:lV):Bool:=(List.range s.1.length).all (qO n i s)&&XU n i s&&a2F s
def l9 (l:List lV):Bool:=decide (1≤l.length)&&decide (l.length≤16)&&(List.range l.length).all (fun i=>lH l.length i (l.getD i jM))
abbrev VQ:=(Option Addr×Nat×Nat)×lV
abbrev wR:VQ:=((none,0,0),jM)
def shc (z:VQ):List Value:= [.slice z.1.1 z.1.2.1 z.1.2.2,.int .i64 z.2.2.1,.int .i64 z.2.2.2.1,.int .i64 z.2.2.2.2]
theorem vN (z:VQ):(shc z).length=4:=rfl
structure ShR (W:World) (a:Option Addr) (n c:Nat) (zs:List VQ):Prop where
 row:Sl W a n c 4 (fl shc zs)
 each:∀z∈zs,Sl W z.1.1 z.1.2.1 z.1.2.2 2 (fl lkc z.2.1)
theorem ShR.len {W:World} {a:Option Addr} {n c:Nat} {zs:List VQ} (h:ShR W a n c zs):zs.length=n:=h.row.uY vN (by decide)
theorem ShR.mono {W W':World} {a:Option Addr} {n c:Nat} {zs:List VQ} (h:ShR W a n c zs) (hb:Below W.heap.size W W'):ShR W' a n c zs:=⟨h.row.mono hb,fun z hz=>(h.each z hz).mono hb⟩
theorem ShR.at {W:World} {a:Option Addr} {n c:Nat} {zs:List VQ} (h:ShR W a n c zs) {i:Nat} (hi:i<n):
  Sl W (zs.getD i wR).1.1 (zs.getD i wR).1.2.1 (zs.getD i wR).1.2.2 2 (fl lkc (zs.getD i wR).2.1):=
 h.each _ (by rw[jI (by rw[h.len];exact hi)];exact bL _)
def jN (zs:List VQ):List lV:=zs.map (·.2)
theorem tZ {zs:List VQ} {i:Nat} (hi:i<zs.length):(jN zs).getD i jM=(zs.getD i wR).2:=by
 rw[jI (by simpa [jN] using hi),jI hi];simp[jN]
theorem aH7 (x:Int) (w:World):Calls Tryz.prog 105 #[.int .i64 x] w fun e w'=>e= .returned (.bool (xM x))∧Below w.heap.size w w':=by
 have hP:=fun W=>DC x 2 2 W;have hk:kX x 2 2=xM x:=by unfold kX xM rJ;simp
 rw[hk]at hP;generalize xM x=b at*;have hP':=aA hP;clear hP;go_enter Tryz.func105,Tryz.ntmps105;go_wp2_with fail
 refine(hP'.o _).mono ?_;rintro e w1 ⟨a1,m1,c1,rfl,ho1,hb1⟩;clear ho1;have hb1':=aA hb1;clear hb1;go_wp2_with fail
 go_ret;exact⟨rfl,hb1'.o⟩
theorem aJJ (a:Option Addr) (n c i:Nat) (x:Int) (w:World):Calls Tryz.prog 106 #[.slice a n c,.int .i64 i,.int .i64 x] w fun e w'=>e= .returned (.bool (I8 n i x))∧w=w':=by
 unfold I8;by_cases h:(i:Int)<x
 ·simp only[h,decide_true,dH];go_enter Tryz.func106,Tryz.ntmps106;go_wp2;go_ret;exact⟨rfl,rfl⟩
 ·simp only[h,decide_false,iY];go_enter Tryz.func106,Tryz.ntmps106;go_wp2;go_ret;exact⟨rfl,rfl⟩
abbrev nC:=Int×Int×Int×List Int
abbrev lK:=Int×Int×Int×Int×Int
structure St where
 jQ:List lK
 no:Int
 wS:Int
def SY (k:Int) (x:lK):Bool:=decide (x.2.2.2.1≤k)&&decide (k<x.2.2.2.1+x.2.2.2.2)
def lD (s:St) (k:Int):Bool:=s.jQ.any (SY k)
def JC (s:St) (at_:Int) (long:Nat):Bool:=(List.range long).all fun i=> !lD s (at_+i)
def PE (n:Nat) (x:lK):Bool:=decide (x.2.2.2.1 % 2=0)&&vX x.2.2.2.1 x.2.2.2.2 n
def mH (n:Nat) (x:lK) (s:St):Except Int St:=
 if PE n x=true then if JC s x.2.2.2.1 x.2.2.2.2.toNat=true then .ok {s with jQ:=s.jQ++ [x]}else .error 5 else .error 4
def uU (z:List Int) (o p:Int) (k:Nat):List mK:=(List.range k).map fun(i:Nat)=>J9 z o (p+2+12*(i:Int))
def wT:List mK→Bool
 |x::y::r=>decide (x.1<y.1)&&wT (y::r)
 |_=>true
def lM (z:List Int) (o p no:Int) (s:St):Except Int (List mK×St):=
 if(decide (p % 2=0)&&vX p 2 z.length)=true then
  if 0<kZ z p 2 o then
   match mH z.length (2,no,0,p,6+12*kZ z p 2 o) s with
   | .error e=> .error e
   | .ok s'=>if wT (uU z o p (kZ z p 2 o).toNat)=true then .ok (uU z o p (kZ z p 2 o).toNat,s')else .error 2
  else .error 2
 else .error 4
def oI (z:List Int) (o:Int) (x:mK) (no:Int) (s:St):Except Int (nC×St):=
 if 0<(kH x.2.1).1∧1≤x.2.2.1∧x.2.2.1≤65536 then
  if 0<oL x.2.1 x.2.2.1 then
   match mH z.length (3,no,x.1,x.2.2.2,oL x.2.1 x.2.2.1) s with
   | .error e=> .error e
   | .ok s'=>match SV x.2.1 x.2.2.1 (z.drop x.2.2.2.toNat) o with
    |none=> .error 6
    |some d=> .ok ((x.1,x.2.1,x.2.2.1,d),s')
  else match inS x o with
   |none=> .error 6
   |some d=> .ok ((x.1,x.2.1,x.2.2.1,d.1),{s with wS:=if d.2=true then s.wS else IntKind.i64.wrap (s.wS+1)})
 else .error 6
def kT (s:lV) (t:Int):Bool:=s.1.any fun y=>y.1==t
def nY (s:lV) (t:Int):Bool:=decide (0<s.2.1)&&(decide (t=s.2.1)||decide (t=s.2.2.1))
def qQ (s:lV) (t:Int):Bool:=kT s t||nY s t
def stepT (z:List Int) (o:Int) (sh:lV) (no:Int) (acc:List nC×St) (x:mK):Except Int (List nC×St):=
 if qQ sh x.1=true then(if x.2.1=4∧x.2.2.1=1 then .ok acc else .error 6)
 else match oI z o x no acc.2 with
  | .error e=> .error e
  | .ok (v,s')=> .ok (acc.1++ [v],s')
def jD:Nat→Type
 |0=>Unit
 |f+1=>List nC×List (Int×jD f)×List Int
def oJ {f:Nat} (rec:Int→Int→St→Except Int ((jD f×Int)×St)) (sh:lV) (acc:List (Int×jD f)×St) (x:mK):Except Int (List (Int×jD f)×St):=
 if kT sh x.1=true then
  match rec x.2.2.2 (sh.1.getD (fst (fun y=>y.1==x.1) sh.1).toNat (0,0)).2 acc.2 with
  | .error e=> .error e
  | .ok ((d,next),s')=>if next=0 then .ok (acc.1++ [(x.1,d)],s')else .error 2
 else .ok acc
def loopS {α σ:Type} (step:σ→α→Except Int σ):List α→σ→Except Int σ
 | [],s=> .ok s
 |x::r,s=>match step s x with
  | .error e=> .error e
  | .ok s'=>loopS step r s'
def sQ (z:List Int) (sh:lV) (l:List mK) (no:Int) (s:St):Except Int (List Int×St):=
 match l.filter (fun x=> !kT sh x.1&&nY sh x.1)with
 | [x,y]=>if 0<y.2.2.2 then
   match mH z.length (4,no,0,x.2.2.2,y.2.2.2) s with
   | .error e=> .error e
   | .ok s'=> .ok ((z.drop x.2.2.2.toNat).take y.2.2.2.toNat,s')
  else .error 6
 |_=> .ok ([],s)
def nR (z:List Int) (o:Int) (L:List lV):(f:Nat)→Int→Int→St→Except Int ((jD f×Int)×St)
 |0,_,_,_=> .error 2
 |f+1,p,sh,s=>
  match lM z o p s.no {s with no:=IntKind.i64.wrap (s.no+1)}with
  | .error e=> .error e
  | .ok (l,s1)=>
   match loopS (stepT z o (L.getD sh.toNat jM) s.no) l ([],s1)with
   | .error e=> .error e
   | .ok (tags,s2)=>
    if(l.filter (fun x=> !kT (L.getD sh.toNat jM) x.1&&nY (L.getD sh.toNat jM) x.1)).length=1 then .error 6 else
    match loopS (oJ (nR z o L f) (L.getD sh.toNat jM)) l ([],s2)with
    | .error e=> .error e
    | .ok (subs,s3)=>
     match sQ z (L.getD sh.toNat jM) l s.no s3 with
     | .error e=> .error e
     | .ok (blob,s4)=> .ok (((tags,subs,blob),kZ z (p+2+12*l.length) 4 o),s4)
def kN (z:List Int):Int:=if z.getD 0 0=73∧z.getD 1 0=73 then 1 else if z.getD 0 0=77∧z.getD 1 0=77 then 2 else 0
def u7 (z:List Int):Except Int St:=
 if 8≤z.length then
  if 0<kN z∧kZ z 2 2 (kN z)=42 then mH z.length (1, -1,0,0,8) ⟨[],0,0⟩else .error 2
 else .error 3
def JD (z:List Int) (o:Int) (L:List lV):Nat→List (jD 16)→Int→Int→St→Except Int (List (jD 16)×St)
 |0,_,_,_,_=> .error 2
 |f+1,acc,p,sh,s=>
  if 0<p∨acc.length=0 then
   if 0≤sh then
    match nR z o L 16 p sh s with
    | .error e=> .error e
    | .ok ((d,next),s')=>JD z o L f (acc++ [d]) next (L.getD sh.toNat jM).2.2.2 s'
   else .error 2
  else .ok (acc,s)
def qF (z:List Int) (L:List lV):Except Int (List (jD 16)×St):=
 if l9 L=true then
  match u7 z with
  | .error e=> .error e
  | .ok s=>JD z (kN z) L 18 [] (kZ z 4 4 (kN z)) 0 s
 else .error 1
def aN7 (r:Except Int (List (jD 16)×St)):Int:=match r with| .error e=>e| .ok _=>0
def aDI (z:List Int) (L:List lV):Bool:=match qF z L with
 | .error _=>false
 | .ok (_,s)=>decide (s.wS≤0)&&(List.range z.length).all fun k=>decide (z.getD k 0=0)||lD s k
def ofL (l:List Int):List Int:= [73,73,42,0,8,0,0,0]++l
def a8L:List lV:= [([],0,0, -1)]
theorem ex3:aN7 (qF (ofL [1,0,0,1,5,0,1,0,0,0,8,0,0,0,0,0,0,0]) a8L)=5:=by decide+kernel
theorem ex4:aN7 (qF (ofL [1,0,0,1,5,0,1,0,0,0,9,0,0,0,0,0,0,0]) a8L)=4:=by decide+kernel
theorem ex5:aN7 (qF (ofL [1,0,0,1,5,0,1,0,0,0,232,3,0,0,0,0,0,0]) a8L)=4:=by decide+kernel
theorem ex6:aN7 (qF (ofL [1,0,0,1,2,0,2,0,0,0,97,98,0,0,0,0,0,0]) a8L)=6:=by decide+kernel
theorem ex7:aN7 (qF [] a8L)=3:=by decide+kernel
abbrev Flt:=List nC×Nat×List Int
def mQ (t s b:Nat):Nat:=t+s+if 0<b then 2 else 0
def jT:(f:Nat)→jD f→List Flt
 |0,_=> []
 |f+1,d=>(d.1,d.2.1.length,d.2.2)::d.2.1.flatMap fun s=>jT f s.2
theorem lN (f:Nat) (d:jD (f+1)):jT (f+1) d=(d.1,d.2.1.length,d.2.2)::d.2.1.flatMap fun s=>jT f s.2:=rfl
def II (x:nC):Bool:=rM x.2.1 x.2.2.1 x.2.2.2
def okF (x:Flt):Bool:=decide (1≤mQ x.1.length x.2.1 x.2.2.length)&&decide (mQ x.1.length x.2.1 x.2.2.length≤65535)&&x.1.all II
def oK (n:Int):Int:=n+n % 2
def lS (l:List lK):Int:=match l.getLast? with|none=>0|some x=>x.2.2.2.1+x.2.2.2.2
def mZ (l:List lK) (what no tag long:Int):List lK:=l++ [(what,no,tag,oK (lS l),long)]
def lY (no:Int) (ts:List nC) (l:List lK):List lK:=ts.foldl (fun l x=>if 0<oL x.2.1 x.2.2.1 then mZ l 3 no x.1 (oL x.2.1 x.2.2.1)else l) l
def vB:(f:Nat)→jD f→Int→List lK→List lK
 |0,_,_,l=>l
 |f+1,d,no,l=>
  let l1:=lY no d.1 (mZ l 2 no 0 (6+12*(mQ d.1.length d.2.1.length d.2.2.length:Nat)))
  let r:=d.2.1.foldl (fun(r:List lK×Int) s=>(vB f s.2 r.2 r.1,r.2+(jT f s.2).length)) (l1,no+1)
  if 0<d.2.2.length then mZ r.1 4 no 0 (d.2.2.length:Nat)else r.1
theorem JE (l:List lK) (a b c e:Int):lS (mZ l a b c e)=oK (lS l)+e:=by simp[lS,mZ]
theorem wU {n:Int} (h:0≤n):n≤oK n∧oK n≤n+1:=by unfold oK;omega
theorem yP (l:List lK) (a b c e:Int):(mZ l a b c e).length=l.length+1:=by simp[mZ]
