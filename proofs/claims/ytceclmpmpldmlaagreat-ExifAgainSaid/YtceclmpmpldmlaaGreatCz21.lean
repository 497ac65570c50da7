import Derived.Test.YtceclmpmpldmlaaGreatCz16
import Derived.LoopN
set_option linter.unusedSimpArgs false
set_option linter.unusedVariables false
set_option maxRecDepth 100000
set_option maxHeartbeats 8000000
namespace Go.Proofs.YtceclmpmpldmlaaGreat
open Go.RowKit Tt
theorem aEO (f:Nat) (o:Int) (sa:Option Addr) (sn sc:Nat) (ds:List (jD f)) (a:Option Addr) (n c:Nat) (zs:List VQ) (w:World) (h:DJ f w sa sn sc ds) (hz:ShR w a n c zs) (hs:∀d∈ds,lC f d) (hby:∀d∈ds,pU f d) (hN:(lX f ds).length<1000) (hsn:sn≤500)
  (hok:mJ f o ds (jN zs)=0→OKT f o ds (jN zs)):
  Calls Tryz.prog 10 #[.agg #[.int .i64 o,.slice sa sn sc],.slice a n c] w fun e w'=>∃a' m c',e= .returned (.tuple #[.slice a' m c',.int .i64 (mJ f o ds (jN zs))])∧w'.ownsRow w.heap.size 5 1 (.slice a' m c') m (ints .u8 (aEC f o ds (jN zs)))∧Below w.heap.size w w':=by
 have hb1:=aD w (.cells #[.int .i64 o,.slice sa sn sc] 39);have bA:=jJ.new w 39 #[.int .i64 o,.slice sa sn sc];obtain⟨W1,hW1⟩:=aC (w.alloc (.cells #[.int .i64 o,.slice sa sn sc] 39));have hs1:W1.heap.size=w.heap.size+1:=by rw[←hW1];simp
 rw[hW1]at hb1 bA;have hC:=YQ f o sa sn sc ds a n c zs W1 (h.mono hb1) (hz.mono hb1) hs hby hN hsn;obtain⟨R,hR⟩:=aC (mJ f o ds (jN zs));have hwr:aEC f o ds (jN zs)=if R=0 then uG f o ds (jN zs)else []:=by unfold aEC;rw[hR]
 rw[hR]at hC hok ⊢;obtain⟨WB,hWB⟩:∃x,aEC f o ds (jN zs)=x:=⟨_,rfl⟩;rw[hWB]at hwr ⊢;have c0:W1.cell? ⟨w.heap.size,0,none⟩=some (.int .i64 o):=bA.cell rfl;have c1:W1.cell? ⟨w.heap.size,1,none⟩=some (.slice sa sn sc):=bA.cell rfl;obtain⟨h',hz',hs',rZ⟩:=aH h hz hs hby;obtain⟨hN',hb1',bA',hW1',hC',hR',aPB,hok',bUP⟩:=aM hN hb1 bA hW1 hC hR hwr hok hWB;clear h hz hs hby hN hb1 bA hW1 hC hR hwr hok hWB;go_enter Tryz.func10,Tryz.ntmps10;go_wp2_with fail
 rw[hW1'.o];refine hC'.o.mono ?_;rintro e w2 ⟨rfl,hb2⟩;have bA2:=bA'.o.late hb2;have hbw2:=hb1'.o.tm hb2;clear c0 c1;by_cases hR0:R=0
 ·subst hR0;rw[if_pos (by rfl)]at aPB;have hO:=hok'.o rfl;have EX:=(aW w2.heap.size w2).drew;have bA3:=bA2.late EX;obtain⟨Ty,ff,hne,hcl,jH⟩:=nM (fun W=>jJ W w.heap.size 39 #[.int .i64 o,.slice sa sn sc]) w2 bA2;have HS:=aA (jH w2.drew bA3);have q0:∀s,(ff s).cell? ⟨w.heap.size,0,none⟩=some (.int .i64 o):=fun s=>(hcl s).cell rfl;have q1:∀s,(ff s).cell? ⟨w.heap.size,1,none⟩=some (.slice sa sn sc):=fun s=>(hcl s).cell rfl;obtain⟨wD,tQ⟩:=aC w2.drew;rw[tQ]at bA3 HS EX;have xL:=hbw2.tm EX;obtain⟨m,hm⟩:∃m:Nat,mX f ds=m:=⟨(mX f ds).toNat,by have:=hO.n8;omega⟩;have hm8:=hO.n8;have hm1:=hO.n1;have hL:=YO f o sa sn sc ds wD (h'.o.mono xL) hs'.o rZ.o hN'.o;rw[hm]at hL hm8 hm1;obtain⟨hb2',bCW,lU,UR,aKJ,aKB,hcl',jA,sP,hm',hL'⟩:=aO hb2 bA2 hbw2 hO EX bA3 hcl jH xL hm hL;clear hb2 bA2 hbw2 hO EX bA3 hcl jH xL hm hL;go_wp2_with fail
  refine jU (S:=fun W=>∃s,W=ff s) (by kernel_rfl) 10 rfl ?_;rw[tQ];refine jF [0,3,4,6] 6 (by kernel_rfl) (fun d _ _ _ _ h=>by cases d <;> exact h) (by kernel_rfl) (by kernel_rfl) (by kernel_rfl) HS.o ?_;simp only[jB,aS,aT,aQ,aR];iterate 4 (go_big_quiet_step (fail))
  refine wpQuiet_nil ?_;clear q0 q1 tQ;refine jC 1 5 (by kernel_rfl) (by kernel_rfl) ?_;simp only[jB,aS,aT,aQ,aR];go_wp2_with fail
  refine hL'.o.mono ?_;rintro e w4 ⟨rfl,hb4⟩;have bA4:=aKB.o.late hb4;have tY:=sP.o.tm hb4;obtain⟨HS,tC,a1L,lG⟩:=aH (jA.o _ bA4) hb4 bA4 tY;clear hb4 bA4 tY;go_wp2_with fail
  first|refine Mid.mk ⟨HS.o,?_⟩|refine Mid.mk ?_
  refine jC 2 4 (by kernel_rfl) (by kernel_rfl) ?_;simp only[jB,aS,aT,aQ,aR];obtain⟨i0,hi,hz0,hz1,hz2⟩:=info_parts aNR;go_wp2_with (at_make;refine wpList_make_full w4 rfl _ _ 24 rfl w4.heap.size 5 i0 _ 1 Tryz.underlying24 hi hz0 hz1 .i64 .i64 _ _ m rfl rfl rfl rfl (by rw[hz2];omega) (by unfold maxLen;omega) (aU _) ?_;intro w5 hown hg5;have R5:=Row.jX (by rw[EN]at hown;exact hown);have hb5:=(aW w4.heap.size w4).grown hg5 (aU _) (fun k e=>by cases e);clear hown hg5)
  have bA5:=a1L.o.late hb5;have vD:=lG.o.tm hb5;have HS:=aA (jA.o _ bA5);have bUQ:=lG.o.size;obtain⟨g0,hg0⟩:=aC w4.heap.size;rw[hg0]at R5;have hgl:=Row.lt R5;obtain⟨EW,aOD,nQ,R5'⟩:=aH hb5 bA5 vD R5;clear hb5 bA5 vD R5;first|refine Mid.mk ⟨HS.o,?_⟩|refine Mid.mk ?_
  refine jF [5,7] 2 (by kernel_rfl) (fun d _ _ _ _ h=>by cases d <;> exact h) (by kernel_rfl) (by kernel_rfl) (by kernel_rfl) HS.o ?_;simp only[jB,aS,aT,aQ,aR];iterate 2 (go_big_quiet_step (fail))
  refine wpQuiet_nil ?_;refine jC 8 1 (by kernel_rfl) (by kernel_rfl) ?_;simp only[jB,aS,aT,aQ,aR];go_wp2_with fail
  have ha6:=aD w5 (.cells #[.slice (some ⟨g0,0,none⟩) m m,.int .i64 o,.slice none 0 0,.slice a n c,.int .i64 0] 91);have bw:=jJ.new w5 91 #[.slice (some ⟨g0,0,none⟩) m m,.int .i64 o,.slice none 0 0,.slice a n c,.int .i64 0];obtain⟨g1,hg1⟩:=aC w5.heap.size;obtain⟨W6,hW6⟩:=aC (w5.alloc (.cells #[.slice (some ⟨g0,0,none⟩) m m,.int .i64 o,.slice none 0 0,.slice a n c,.int .i64 0] 91));rw[hW6]at ha6 bw ⊢;rw[hg1]at bw ⊢;have bA6:=aOD.o.late ha6;have a1D:=nQ.o.tm ha6;have HS:=aA (jA.o _ bA6);have R6:Row W6 g0 5 .u8 (List.replicate m 0):=jJ.late (T:=5) R5'.o ha6;obtain⟨bMK,bw',aOM⟩:=aG ha6 bw hW6;clear ha6 bw hW6;first|refine Mid.mk ⟨HS.o,?_⟩|refine Mid.mk ?_
  refine jF [9] 0 (by kernel_rfl) (fun d _ _ _ _ h=>by cases d <;> exact h) (by kernel_rfl) (by kernel_rfl) (by kernel_rfl) HS.o ?_;simp only[jB,aS,aT,aQ,aR];iterate 1 (go_big_quiet_step (fail))
  refine wpQuiet_nil ?_;refine jK (by kernel_rfl) ?_;have bML:=aOD;have bMM:=a1L;clear HS hcl' jA bCW aKB a1L aOD hC' R5' EW tC hL' aOM bMK;have hO:=UR.o;have hPO:=aOR f o sa sn sc ds W6 (h'.o.mono a1D) hs'.o rZ.o hN'.o;have c0:W6.cell? ⟨w.heap.size,0,none⟩=some (.int .i64 o):=bA6.cell rfl;have c1:W6.cell? ⟨w.heap.size,1,none⟩=some (.slice sa sn sc):=bA6.cell rfl;obtain⟨bMN,UO,R6',UR,bMO⟩:=aI bA6 a1D R6 hO hPO;clear bA6 a1D R6 hO hPO;go_wp2_with fail
  refine bMO.o.mono ?_;rintro e w7 ⟨hor,rP⟩;obtain⟨v7,rfl,aL0⟩:∃v,e= .returned (.tuple #[v,.bool true])∧Spr W6.heap.size w7 v (jV f ds):=by
   rcases hor with ⟨_,h⟩|⟨h,_⟩
   ·exact h
   ·rw[UR.o.fit]at h;cases h
  obtain⟨spa,spc,rfl⟩:∃a c,v7= .slice a (jV f ds).length c:=by
   rcases aL0.2 with ⟨rfl,h0⟩|⟨g,cap,cur,rfl,_⟩
   ·exact⟨none,0,by rw[h0]⟩
   ·exact⟨_,_,rfl⟩
  obtain⟨spn,b5Z⟩:∃x,(jV f ds).length=x:=⟨_,rfl⟩;rw[b5Z]at aL0 ⊢;have bA7:=bMN.o.late rP;have bw7:=bw'.o.late rP;have R7:Row w7 g0 5 .u8 (List.replicate m 0):=jJ.late (T:=5) R6'.o rP;have aXG:=UO.o.tm rP;clear c0 c1;have p2:w7.cell? ⟨g1,2,none⟩=some (.slice none 0 0):=bw7.cell rfl;have y2:=bw7.frozen 2;have bw8:=bw7.set 2 (.slice spa spn spc);have hbt:=(But.refl g1 w7).set 2 (.slice spa spn spc);have bUR:g1<W6.heap.size:=bw'.o.lt;have bUS:g0<W6.heap.size:=Row.lt R6'.o;have b0H:g1≠g0:=by omega
  have b61:=(Sl.jX aL0).1;have aPC:∀x,spa=some x→W6.heap.size≤x.block∧x.block<w7.heap.size:=fun x e=>by
   have h1:=aL0.2;rcases h1 with ⟨hv,_⟩|⟨g,cap,cur,hv,hB,hg,_⟩
   ·injection hv with h1 _ _;rw[h1]at e;cases e
   ·injection hv with h1 _ _
    rw[h1]at e;injection e with e;rw[←e];exact⟨hB,(bY.1 hg).1⟩
  have hWS:LP ⟨g1,g0,m,o,spa,spn,spc,jV f ds,a,n,c,w7.heap.size⟩ (w7.setCell ⟨g1,2,none⟩ (.slice spa spn spc)) 0 (List.replicate m 0):=
   ⟨bw8,(hbt.block _ (Row.lt R7) (Ne.symm b0H)).trans R7,by simp,TF b61 hbt.size (fun x e hx=>hbt.block _ hx (by have:=aPC x e;omega)),fun x e=>by have:=aPC x e;exact⟨by show x.block≠g1;omega,by show x.block≠g0;omega⟩,b0H,fun x e=>(aPC x e).2,hbt.size⟩
  have OB:=aXG.trans (hbt.below (B:=w.heap.size) (by omega) aXG.size);have bA8:=jJ.a4U hbt bA7 (by omega);obtain⟨W8,hW8⟩:=aC (w7.setCell ⟨g1,2,none⟩ (.slice spa spn spc));rw[hW8]at hWS OB bA8;have bRU:w.heap.size<g1:=by have:=bML.o.lt;omega
  have bRV:w.heap.size<g0:=by have:=bMM.o.lt;omega
  obtain⟨bRW,bRX,bUT,bUU,R7',bRY,bUV,EB,bRZ,bS0⟩:=aN b5Z aL0 bA7 bw7 R7 aXG bw8 hbt b61 aPC;clear b5Z aL0 bA7 bw7 R7 aXG bw8 hbt b61 aPC;obtain⟨K,rfl,rfl,rfl,rfl,hKa,rfl,rfl,hKl,hWS⟩:∃K:Wc,K.gw=g1∧K.gb=g0∧K.n=m∧K.o=o∧K.qa=a∧K.qn=n∧K.qc=c∧K.l=jV f ds∧LP K W8 0 (List.replicate m 0):=⟨_,rfl,rfl,rfl,rfl,rfl,rfl,rfl,rfl,hWS⟩;have hzK:ShR w K.qa K.qn K.qc zs:=by rw[hKa];exact hz'.o
  obtain⟨bCX,bUW⟩:=aF hzK hKa;clear hzK hKa;obtain⟨w9,hr9,O7,hm9⟩:=a9S hWS ⟨#[77,77]⟩ [77,77] rfl rfl (by show 2≤K.n;omega) 9 3;have bUX:=bA8.lt;have bA9:=Mv.blk hm9 bA8 (by omega) (by omega);have c0:w9.cell? ⟨w.heap.size,0,none⟩=some (.int .i64 K.o):=bA9.cell rfl;have d0:W8.cell? ⟨K.gw,0,none⟩=some (.slice (some ⟨K.gb,0,none⟩) K.n K.n):=hWS.blk.cell rfl;rw[←hW8]at d0 hr9;have d9:w9.cell? ⟨K.gw,0,none⟩=some (.slice (some ⟨K.gb,0,none⟩) K.n K.n):=O7.blk.cell rfl;have hpk:kX 42 2 K.o=true:=by
   rcases UR.o.ord with h|h <;> rw[h] <;> decide
  have hpl:=pJ hpk;by_cases ho1:K.o=1
  ·have e1:(K.o==1)=true:=by simp[ho1]
   obtain⟨w10,aL1,aPD,aAH⟩:=a9S O7 ⟨#[73,73]⟩ [73,73] rfl rfl (by show 2≤K.n;omega) 9 3;have hPp:=BA K w10 0 _ aPD 2 42 2 hpk (by rw[hpl];decide) (by rw[hpl,show(2:Int).toNat=2 from rfl];omega);have hsg:zQ (QD K.o) (List.replicate K.n 0)=splice (splice (List.replicate K.n 0) 0 [77,77]) 0 [73,73]:=by unfold QD;rw[if_pos ho1];rfl
   have aPE:=Mv.blk aAH bA9 (by omega) (by omega);have aAH:=(hm9.trans aAH);obtain⟨bMP,bMQ,aPF,aON,aX4,bMR,bMS,qK,hpk',hpl',bMT,aPG⟩:=aP hWS bA8 hKl O7 hm9 bA9 hW8 OB hpk hpl aPD aPE;obtain⟨YL,b62,a8K,aPH⟩:=aH hPp hsg ho1 aAH;clear hWS bA8 hKl O7 hm9 bA9 hW8 OB hpk hpl aPD aPE hPp hsg ho1 aAH;go_wp2_with (at_builtin;first|(refine wpList_copy_run _ rfl _ _ _ _ rfl _ _ rfl rfl hr9 ?_;clear hr9)|refine wpList_copy_run _ rfl _ _ _ _ rfl _ _ rfl rfl aL1 ?_)
   clear aL1 d0 d9 c0;refine YL.o.mono ?_;rintro e w11 ⟨rfl,QV,a5Y⟩;have aEP:=Mv.blk a5Y aPG.o (by omega) (by omega);have OC:=aPH.o.trans a5Y;obtain⟨P2,hP2⟩:=aC (zQ (QD K.o) (List.replicate K.n 0));rw[←b62.o,hP2]at QV;obtain⟨P3,hP3⟩:=aC (splice P2 2 (kL 42 2 K.o));rw[hP3]at QV;have hWt:WB=zQ (chW (jN zs) K.l K.o f ds ds.length) P3:=by
    rw[aPB.o,a9P,hm'.o,bU,hP2,hP3,aPF.o]
   obtain⟨FW,hdl,hsl,hsub⟩:=h'.o;have hdn:ds.length=sn:=by rw[←hdl];exact hsl.uY qA (by decide)
   have c1:w11.cell? ⟨w.heap.size,1,none⟩=some (.slice sa sn sc):=aEP.cell rfl;have hms:=OC.size;have hzl:(jN zs).length=K.qn:=by unfold jN;rw[bX];exact hz'.o.len
   have hqm:=hz'.o.row.max;have hql:=hz'.o.row.le;obtain⟨bCY,ZB,bCI,b5M,b63,AQ,uE,wV,zT,aEQ,bCZ,mV⟩:=aP aEP OC hP2 hP3 hWt hdl hsl hsub hdn QV a5Y hzl;clear aEP OC hP2 hP3 hWt hdl hsl hsub hdn QV a5Y hzl;go_wp2_with fail
   clear c1;go_loopw [8,9,58] (fun sv lv iv wr=>∃k:Nat,k≤sn∧sv= .int .i64 (mI (jN zs) k)∧lv= .int .i64 (QC K.l f ds k)∧iv= .int .i64 k∧Hid (LP K wr (noT f ds k) (zQ (chW (jN zs) K.l K.o f ds k) P3))∧Hid (Mv K.gw K.gb sD sD W8 wr)) (fun _ _ iv _=>sn - (intOf iv).toNat)
   case atStart=>
    exact⟨0,by omega,rfl,rfl,rfl,aEQ,ZB⟩
   case round=>
    obtain⟨k,hk,rfl,rfl,rfl,hws,hmv⟩:=hrel;by_cases hlt:k<sn
    ·have hil:(k:Int)<(sn:Int):=by omega
     have hw1:IntKind.i64.wrap ((k:Int)+1)=k+1:=by rw[aY];omega
     have hid:k<ds.length:=by rw[zT.o];exact hlt
     have p9:k<FW.length:=by rw[AQ.o];exact hid
     have hbr:Below w.heap.size w wr:=qK.o.trans (hmv.o.below (B:=w.heap.size) (by omega) (by omega) (fun k e=>by cases e) qK.o.size);obtain⟨b,o2,rfl,hblt,fe⟩:=(uE.o.mono hbr).elem qA (by decide) dzz hlt;rw[jI p9]at fe;have hq2:=wV.o k p9 hid;obtain⟨ua,un,uc,ra,rn,rc,ya,yn,yc,hv⟩:=hq2.v;have g0:=fe 0 _ rfl;have g1:=fe 1 _ rfl;have g2:=fe 2 _ rfl;clear fe;rw[hv]at hq2 g0 g1 g2;simp only[cK]at g0 g1 g2;have hgi:ds.getD k (jS f)=ds[k]:=jI hid _;have hsm:=hs'.o _ (bL hid);have hbd:=rZ.o _ (bL hid);have hnx:=UR.o.nx k hid;have hdk:=UR.o.dir k hid;have hlk:=UR.o.lnk k hid;have TN:=UR.o.pk k hid;rw[←aPF.o]at hdk hlk TN;rw[hm'.o,bU]at hdk hlk;have hnl:=BO UR.o.vH k;rw[mV.o]at hnl;have hNs:=BX f ds hid;have hNl:=JM f ds k;have aX3:=JM f ds (k+1);have hNN:=hN'.o;have hCs:=a9Q (jN zs) K.l K.o f ds k;have hLs:QC K.l f ds (k+1)=oG K.l 2 (noT f ds k) 0+2+12*(WG f (ds.getD k (jS f)):Nat):=rfl;have hXs:mI (jN zs) (k+1)=((jN zs).getD (mI (jN zs) k).toNat jM).2.2.2:=rfl;obtain⟨hen,he1,he2,he3⟩:=a9R hq2 hsm;rw[hgi]at hdk hNs hCs hLs;obtain⟨ns,hns⟩:∃x,noT f ds k=x:=⟨_,rfl⟩;rw[hns]at hdk TN hNs hNl hCs hLs hws;obtain⟨ik,hik⟩:∃x:Nat,mI (jN zs) k=x:=⟨(mI (jN zs) k).toNat,by omega⟩;rw[hik]at hdk hnl hCs hXs ⊢;obtain⟨lk,aER⟩:∃x:Nat,QC K.l f ds k=x:=⟨(QC K.l f ds k).toNat,by omega⟩;rw[aER]at hlk hCs ⊢;rw[bU]at hlk hCs;obtain⟨at_,hat⟩:∃x,oG K.l 2 ns 0=x:=⟨_,rfl⟩;rw[hat]at TN hCs hLs;rw[hen]at hLs;obtain⟨dd,hdd⟩:=aC (ds[k]);rw[hdd]at hq2 hsm hbd hdk hNs hCs;have hal:=aD wr (.cells #[.slice ua un uc,.slice ra rn rc,.slice ya yn yc] 26);have bD:=jJ.new wr 26 #[.slice ua un uc,.slice ra rn rc,.slice ya yn yc];have aES:=hws.o.later hal;have hD:=aOO zs K f w _ ns _ dd (.slice ua un uc,.slice ra rn rc,.slice ya yn yc) ik aES bCX.o (hbr.tm hal) (by omega) (by omega) hq2 hsm hbd UR.o.vH hdk (by omega) (by omega) (by omega) (by omega);rw[hat]at hD;simp only at hD;have hin:(ik:Int)<(K.qn:Int):=by omega
     have bMU:(0:Int)≤(ik:Int):=by omega
     have aPI:=pJ TN;have hwl:=hmv.o.size;obtain⟨bMV,bMW⟩:=hws.o.ne_of;obtain⟨a4P,EQ,hv',hgi',NS,a4T,bMX,aAI,aKH,aO7,aPJ,aPK⟩:=aP hbr hq2 hv hgi hsm hbd hdk TN hNs hCs hLs hXs;obtain⟨hen',bCE,hik',bD1,hat',aWW,oM,WZ,bD5,hD',aAJ⟩:=aO hen hns hik aER hat hdd hal bD aES hD aPI;clear hbr hq2 hv hgi hsm hbd hdk TN hNs hCs hLs hXs hen hns hik aER hat hdd hal bD aES hD aPI;go_wp2_with fail
     refine hD'.o.mono ?_;rintro e w12 ⟨rfl,ZC,OC⟩;have aPL:=Mv.blk OC WZ.o (by omega) (by omega);have hPp:=BA K w12 _ _ ZC lk at_ 4 aAI.o (by rw[aAJ.o];decide) (by rw[aAJ.o,show(4:Int).toNat=4 from rfl];omega);obtain⟨b65,ZB,aPM,YL⟩:=aH ZC OC aPL hPp;clear ZC OC aPL hPp;clear g0 g1 g2;go_wp2_with fail
     refine YL.o.mono ?_;rintro e X0 ⟨rfl,ZE,a5Z⟩;have TP:=Mv.blk a5Z aPM.o (by omega) (by omega);have QW:=((hmv.o.later oM.o).trans ZB.o).trans a5Z;have AV:Below w.heap.size w X0:=qK.o.trans (QW.below (B:=w.heap.size) (by omega) (by omega) (fun k e=>by cases e) qK.o.size);obtain⟨b3,o3,ha3,JK,fe⟩:=hz'.o.row.elem vN (by decide) wR (show ik<K.qn by omega);subst ha3;rw[bU,tZ (by rw[hz'.o.len];omega)]at aPK;have l3:=late AV JK (fe 3 _ rfl);rw[←aPK.o]at l3;clear fe;obtain⟨gD,hgD⟩:=aC wr.heap.size;rw[hgD]at TP ⊢;obtain⟨xs,hxs⟩:∃x,mI (jN zs) (k+1)=x:=⟨_,rfl⟩;rw[hxs]at l3;have aET:jJ X0 gD 26 #[.slice ua un uc,.slice ra rn rc,.slice ya yn yc]∧X0.cell? ⟨b3,o3+ik*4+3,none⟩=some (.int .i64 xs):=⟨TP,l3⟩;have EX:=(aW X0.heap.size X0).drew;obtain⟨Ty,ff,hne,hcl,jH⟩:=nM (fun W=>jJ W gD 26 #[.slice ua un uc,.slice ra rn rc,.slice ya yn yc]∧W.cell? ⟨b3,o3+ik*4+3,none⟩=some (.int .i64 xs)) X0 aET;have HS:=aA (jH X0.drew ⟨TP.late EX,l3⟩);have q0:∀s,(ff s).cell? ⟨gD,0,none⟩=some (.slice ua un uc):=fun s=>(hcl s).1.cell rfl;have q1:∀s,(ff s).cell? ⟨gD,1,none⟩=some (.slice ra rn rc):=fun s=>(hcl s).1.cell rfl;have q2:∀s,(ff s).cell? ⟨gD,2,none⟩=some (.slice ya yn yc):=fun s=>(hcl s).1.cell rfl;have q3:∀s,(ff s).cell? ⟨b3,o3+ik*4+3,none⟩=some (.int .i64 xs):=fun s=>(hcl s).2;have bDD:=TP.late EX;have aEU:=ZE.later EX;have aEV:=QW.later EX;have hbD:=AV.tm EX;have l3D:X0.drew.cell? ⟨b3,o3+ik*4+3,none⟩=some (.int .i64 xs):=l3;obtain⟨wD,tQ⟩:=aC X0.drew;rw[tQ]at HS bDD aEU aEV l3D hbD;have hE:=PK ua ra ya un uc rn rc yn yc wD (by omega) (by omega);obtain⟨ne,hne2⟩:∃x,mQ un rn yn=x:=⟨_,rfl⟩;have bMY:ne≤1002:=by rw[←hne2];exact DK he1 he2
     rw[hne2]at hE aPJ;have hpa:=aAI.o;have bMZ:0≤at_∧at_<4294967296:=by
      unfold kX at hpa;simp only[bF,decide_eq_true_eq]at hpa;have:rJ 4=4294967296:=by decide
      omega
     have hw2:=aB (at_+2) (by omega);have hw3:IntKind.i64.wrap (12*(ne:Int))=12*ne:=by rw[aY];omega
     have hw4:IntKind.i64.wrap (at_+2+12*(ne:Int))=at_+2+12*ne:=by rw[aY];omega
     clear hpa l3;obtain⟨b66,bD7,bD8,b67,QX,hxs',bDA,aKJ,hcl',jA,b6A,aPN⟩:=aP ZE a5Z TP QW AV hxs aET EX hcl jH bDD aEU;obtain⟨aPO,aPP,b6B,hE',aPQ⟩:=aI aEV hbD l3D hE hne2;clear ZE a5Z TP QW AV hxs aET EX hcl jH bDD aEU aEV hbD l3D hE hne2;go_wp2_with fail
     refine jU (S:=fun W=>∃s,W=ff s) (by kernel_rfl) 13 rfl ?_;rw[tQ];refine jF [0,1,2,6,7,8,9,10] 5 (by kernel_rfl) (fun d _ _ _ _ h=>by cases d <;> exact h) (by kernel_rfl) (by kernel_rfl) (by kernel_rfl) HS.o ?_;simp only[jB,aS,aT,aQ,aR];iterate 8 (go_big_quiet_step (fail))
     refine wpQuiet_nil ?_;clear q0 q1 q2 q3 tQ;refine jC 3 4 (by kernel_rfl) (by kernel_rfl) ?_;simp only[jB,aS,aT,aQ,aR];go_wp2_with fail
     refine hE'.o.mono ?_;rintro e w15 ⟨rfl,tT⟩;have aAK:=aPN.o.later tT;have aAL:=aPO.o.later tT;obtain⟨HS,wX,aEW,aEX⟩:=aH (jA.o _ ⟨b6A.o.late tT,late tT (p:=⟨b3,o3+ik*4+3,none⟩) (by show b3<_;have:=aPP.o.size;omega) b6B.o⟩) tT aAK aAL;clear tT aAK aAL;go_wp2_with fail
     first|refine Mid.mk ⟨HS.o,?_⟩|refine Mid.mk ?_
     refine jF [4,5,11,12] 0 (by kernel_rfl) (fun d _ _ _ _ h=>by cases d <;> exact h) (by kernel_rfl) (by kernel_rfl) (by kernel_rfl) HS.o ?_;simp only[jB,aS,aT,aQ,aR];iterate 4 (go_big_quiet_step (fail))
     refine wpQuiet_nil ?_;refine jK (by kernel_rfl) ?_;have aAM:LP K w15 (noT f ds (k+1)) (zQ (chW (jN zs) K.l K.o f ds (k+1)) P3):=by
      rw[aKH.o,aO7.o,o8,o8];exact aEW.o
     have aEY:=aA aAM;clear aAM;go_wp2_with fail
     go_roundw
     case rel=>exact⟨k+1,by omega,by rw[hxs'.o],by rw[aPJ.o],by go_num,aEY,aEX⟩
     case measure=>simp[intOf];omega
    ·obtain rfl:k=sn:=by omega
     rw[←zT.o,←b63.o]at hws;have c0:wr.cell? ⟨K.gw,0,none⟩=some (.slice (some ⟨K.gb,0,none⟩) K.n K.n):=hws.o.blk.cell rfl;have hbz:Below w.heap.size w wr:=qK.o.trans (hmv.o.below (B:=w.heap.size) (by omega) (by omega) (fun k e=>by cases e) qK.o.size);have hown:=(hws.o.row.own hws.o.len (B:=w.heap.size) (by omega) (by unfold maxLen;omega));obtain⟨zU,hown'⟩:=aF hbz hown;clear hbz hown;go_wp2_with fail
     refine bodyPost_ret (results_tmp2 rfl _ _ _) rfl ?_;exact⟨_,_,_,rfl,hown'.o,zU.o⟩
  ·have e1:(K.o==1)=false:=by simp[ho1]
   have hPp:=BA K w9 0 _ O7 2 42 2 hpk (by rw[hpl];decide) (by rw[hpl,show(2:Int).toNat=2 from rfl];omega);have hsg:zQ (QD K.o) (List.replicate K.n 0)=splice (List.replicate K.n 0) 0 [77,77]:=by unfold QD;rw[if_neg ho1];rfl
   have aPE:=bA9;have aAH:=hm9;obtain⟨bMP,bMQ,aPF,aON,aX4,bMR,bMS,qK,hpk',hpl',aPG,YL⟩:=aP hWS bA8 hKl O7 hm9 bA9 hW8 OB hpk hpl aPE hPp;obtain⟨b62,a8K,aPH⟩:=aG hsg ho1 aAH;clear hWS bA8 hKl O7 hm9 bA9 hW8 OB hpk hpl aPE hPp hsg ho1 aAH;go_wp2_with (at_builtin;refine wpList_copy_run _ rfl _ _ _ _ rfl _ _ rfl rfl hr9 ?_;clear hr9)
   clear d0 d9 c0;refine YL.o.mono ?_;rintro e w11 ⟨rfl,QV,a5Y⟩;have aEP:=Mv.blk a5Y aPG.o (by omega) (by omega);have OC:=aPH.o.trans a5Y;obtain⟨P2,hP2⟩:=aC (zQ (QD K.o) (List.replicate K.n 0));rw[←b62.o,hP2]at QV;obtain⟨P3,hP3⟩:=aC (splice P2 2 (kL 42 2 K.o));rw[hP3]at QV;have hWt:WB=zQ (chW (jN zs) K.l K.o f ds ds.length) P3:=by
    rw[aPB.o,a9P,hm'.o,bU,hP2,hP3,aPF.o]
   obtain⟨FW,hdl,hsl,hsub⟩:=h'.o;have hdn:ds.length=sn:=by rw[←hdl];exact hsl.uY qA (by decide)
   have c1:w11.cell? ⟨w.heap.size,1,none⟩=some (.slice sa sn sc):=aEP.cell rfl;have hms:=OC.size;have hzl:(jN zs).length=K.qn:=by unfold jN;rw[bX];exact hz'.o.len
   have hqm:=hz'.o.row.max;have hql:=hz'.o.row.le;obtain⟨bCY,ZB,bCI,b5M,b63,AQ,uE,wV,zT,aEQ,bCZ,mV⟩:=aP aEP OC hP2 hP3 hWt hdl hsl hsub hdn QV a5Y hzl;clear aEP OC hP2 hP3 hWt hdl hsl hsub hdn QV a5Y hzl;go_wp2_with fail
   clear c1;go_loopw [8,9,58] (fun sv lv iv wr=>∃k:Nat,k≤sn∧sv= .int .i64 (mI (jN zs) k)∧lv= .int .i64 (QC K.l f ds k)∧iv= .int .i64 k∧Hid (LP K wr (noT f ds k) (zQ (chW (jN zs) K.l K.o f ds k) P3))∧Hid (Mv K.gw K.gb sD sD W8 wr)) (fun _ _ iv _=>sn - (intOf iv).toNat)
   case atStart=>
    exact⟨0,by omega,rfl,rfl,rfl,aEQ,ZB⟩
   case round=>
    obtain⟨k,hk,rfl,rfl,rfl,hws,hmv⟩:=hrel;by_cases hlt:k<sn
    ·have hil:(k:Int)<(sn:Int):=by omega
     have hw1:IntKind.i64.wrap ((k:Int)+1)=k+1:=by rw[aY];omega
     have hid:k<ds.length:=by rw[zT.o];exact hlt
     have p9:k<FW.length:=by rw[AQ.o];exact hid
     have hbr:Below w.heap.size w wr:=qK.o.trans (hmv.o.below (B:=w.heap.size) (by omega) (by omega) (fun k e=>by cases e) qK.o.size);obtain⟨b,o2,rfl,hblt,fe⟩:=(uE.o.mono hbr).elem qA (by decide) dzz hlt;rw[jI p9]at fe;have hq2:=wV.o k p9 hid;obtain⟨ua,un,uc,ra,rn,rc,ya,yn,yc,hv⟩:=hq2.v;have g0:=fe 0 _ rfl;have g1:=fe 1 _ rfl;have g2:=fe 2 _ rfl;clear fe;rw[hv]at hq2 g0 g1 g2;simp only[cK]at g0 g1 g2;have hgi:ds.getD k (jS f)=ds[k]:=jI hid _;have hsm:=hs'.o _ (bL hid);have hbd:=rZ.o _ (bL hid);have hnx:=UR.o.nx k hid;have hdk:=UR.o.dir k hid;have hlk:=UR.o.lnk k hid;have TN:=UR.o.pk k hid;rw[←aPF.o]at hdk hlk TN;rw[hm'.o,bU]at hdk hlk;have hnl:=BO UR.o.vH k;rw[mV.o]at hnl;have hNs:=BX f ds hid;have hNl:=JM f ds k;have aX3:=JM f ds (k+1);have hNN:=hN'.o;have hCs:=a9Q (jN zs) K.l K.o f ds k;have hLs:QC K.l f ds (k+1)=oG K.l 2 (noT f ds k) 0+2+12*(WG f (ds.getD k (jS f)):Nat):=rfl;have hXs:mI (jN zs) (k+1)=((jN zs).getD (mI (jN zs) k).toNat jM).2.2.2:=rfl;obtain⟨hen,he1,he2,he3⟩:=a9R hq2 hsm;rw[hgi]at hdk hNs hCs hLs;obtain⟨ns,hns⟩:∃x,noT f ds k=x:=⟨_,rfl⟩;rw[hns]at hdk TN hNs hNl hCs hLs hws;obtain⟨ik,hik⟩:∃x:Nat,mI (jN zs) k=x:=⟨(mI (jN zs) k).toNat,by omega⟩;rw[hik]at hdk hnl hCs hXs ⊢;obtain⟨lk,aER⟩:∃x:Nat,QC K.l f ds k=x:=⟨(QC K.l f ds k).toNat,by omega⟩;rw[aER]at hlk hCs ⊢;rw[bU]at hlk hCs;obtain⟨at_,hat⟩:∃x,oG K.l 2 ns 0=x:=⟨_,rfl⟩;rw[hat]at TN hCs hLs;rw[hen]at hLs;obtain⟨dd,hdd⟩:=aC (ds[k]);rw[hdd]at hq2 hsm hbd hdk hNs hCs;have hal:=aD wr (.cells #[.slice ua un uc,.slice ra rn rc,.slice ya yn yc] 26);have bD:=jJ.new wr 26 #[.slice ua un uc,.slice ra rn rc,.slice ya yn yc];have aES:=hws.o.later hal;have hD:=aOO zs K f w _ ns _ dd (.slice ua un uc,.slice ra rn rc,.slice ya yn yc) ik aES bCX.o (hbr.tm hal) (by omega) (by omega) hq2 hsm hbd UR.o.vH hdk (by omega) (by omega) (by omega) (by omega);rw[hat]at hD;simp only at hD;have hin:(ik:Int)<(K.qn:Int):=by omega
     have bMU:(0:Int)≤(ik:Int):=by omega
     have aPI:=pJ TN;have hwl:=hmv.o.size;obtain⟨bMV,bMW⟩:=hws.o.ne_of;obtain⟨a4P,EQ,hv',hgi',NS,a4T,bMX,aAI,aKH,aO7,aPJ,aPK⟩:=aP hbr hq2 hv hgi hsm hbd hdk TN hNs hCs hLs hXs;obtain⟨hen',bCE,hik',bD1,hat',aWW,oM,WZ,bD5,hD',aAJ⟩:=aO hen hns hik aER hat hdd hal bD aES hD aPI;clear hbr hq2 hv hgi hsm hbd hdk TN hNs hCs hLs hXs hen hns hik aER hat hdd hal bD aES hD aPI;go_wp2_with fail
     refine hD'.o.mono ?_;rintro e w12 ⟨rfl,ZC,OC⟩;have aPL:=Mv.blk OC WZ.o (by omega) (by omega);have hPp:=BA K w12 _ _ ZC lk at_ 4 aAI.o (by rw[aAJ.o];decide) (by rw[aAJ.o,show(4:Int).toNat=4 from rfl];omega);obtain⟨b65,ZB,aPM,YL⟩:=aH ZC OC aPL hPp;clear ZC OC aPL hPp;clear g0 g1 g2;go_wp2_with fail
     refine YL.o.mono ?_;rintro e X0 ⟨rfl,ZE,a5Z⟩;have TP:=Mv.blk a5Z aPM.o (by omega) (by omega);have QW:=((hmv.o.later oM.o).trans ZB.o).trans a5Z;have AV:Below w.heap.size w X0:=qK.o.trans (QW.below (B:=w.heap.size) (by omega) (by omega) (fun k e=>by cases e) qK.o.size);obtain⟨b3,o3,ha3,JK,fe⟩:=hz'.o.row.elem vN (by decide) wR (show ik<K.qn by omega);subst ha3;rw[bU,tZ (by rw[hz'.o.len];omega)]at aPK;have l3:=late AV JK (fe 3 _ rfl);rw[←aPK.o]at l3;clear fe;obtain⟨gD,hgD⟩:=aC wr.heap.size;rw[hgD]at TP ⊢;obtain⟨xs,hxs⟩:∃x,mI (jN zs) (k+1)=x:=⟨_,rfl⟩;rw[hxs]at l3;have aET:jJ X0 gD 26 #[.slice ua un uc,.slice ra rn rc,.slice ya yn yc]∧X0.cell? ⟨b3,o3+ik*4+3,none⟩=some (.int .i64 xs):=⟨TP,l3⟩;have EX:=(aW X0.heap.size X0).drew;obtain⟨Ty,ff,hne,hcl,jH⟩:=nM (fun W=>jJ W gD 26 #[.slice ua un uc,.slice ra rn rc,.slice ya yn yc]∧W.cell? ⟨b3,o3+ik*4+3,none⟩=some (.int .i64 xs)) X0 aET;have HS:=aA (jH X0.drew ⟨TP.late EX,l3⟩);have q0:∀s,(ff s).cell? ⟨gD,0,none⟩=some (.slice ua un uc):=fun s=>(hcl s).1.cell rfl;have q1:∀s,(ff s).cell? ⟨gD,1,none⟩=some (.slice ra rn rc):=fun s=>(hcl s).1.cell rfl;have q2:∀s,(ff s).cell? ⟨gD,2,none⟩=some (.slice ya yn yc):=fun s=>(hcl s).1.cell rfl;have q3:∀s,(ff s).cell? ⟨b3,o3+ik*4+3,none⟩=some (.int .i64 xs):=fun s=>(hcl s).2;have bDD:=TP.late EX;have aEU:=ZE.later EX;have aEV:=QW.later EX;have hbD:=AV.tm EX;have l3D:X0.drew.cell? ⟨b3,o3+ik*4+3,none⟩=some (.int .i64 xs):=l3;obtain⟨wD,tQ⟩:=aC X0.drew;rw[tQ]at HS bDD aEU aEV l3D hbD;have hE:=PK ua ra ya un uc rn rc yn yc wD (by omega) (by omega);obtain⟨ne,hne2⟩:∃x,mQ un rn yn=x:=⟨_,rfl⟩;have bMY:ne≤1002:=by rw[←hne2];exact DK he1 he2
     rw[hne2]at hE aPJ;have hpa:=aAI.o;have bMZ:0≤at_∧at_<4294967296:=by
      unfold kX at hpa;simp only[bF,decide_eq_true_eq]at hpa;have:rJ 4=4294967296:=by decide
      omega
     have hw2:=aB (at_+2) (by omega);have hw3:IntKind.i64.wrap (12*(ne:Int))=12*ne:=by rw[aY];omega
     have hw4:IntKind.i64.wrap (at_+2+12*(ne:Int))=at_+2+12*ne:=by rw[aY];omega
     clear hpa l3;obtain⟨b66,bD7,bD8,b67,QX,hxs',bDA,aKJ,hcl',jA,b6A,aPN⟩:=aP ZE a5Z TP QW AV hxs aET EX hcl jH bDD aEU;obtain⟨aPO,aPP,b6B,hE',aPQ⟩:=aI aEV hbD l3D hE hne2;clear ZE a5Z TP QW AV hxs aET EX hcl jH bDD aEU aEV hbD l3D hE hne2;go_wp2_with fail
     refine jU (S:=fun W=>∃s,W=ff s) (by kernel_rfl) 13 rfl ?_;rw[tQ];refine jF [0,1,2,6,7,8,9,10] 5 (by kernel_rfl) (fun d _ _ _ _ h=>by cases d <;> exact h) (by kernel_rfl) (by kernel_rfl) (by kernel_rfl) HS.o ?_;simp only[jB,aS,aT,aQ,aR];iterate 8 (go_big_quiet_step (fail))
     refine wpQuiet_nil ?_;clear q0 q1 q2 q3 tQ;refine jC 3 4 (by kernel_rfl) (by kernel_rfl) ?_;simp only[jB,aS,aT,aQ,aR];go_wp2_with fail
     refine hE'.o.mono ?_;rintro e w15 ⟨rfl,tT⟩;have aAK:=aPN.o.later tT;have aAL:=aPO.o.later tT;obtain⟨HS,wX,aEW,aEX⟩:=aH (jA.o _ ⟨b6A.o.late tT,late tT (p:=⟨b3,o3+ik*4+3,none⟩) (by show b3<_;have:=aPP.o.size;omega) b6B.o⟩) tT aAK aAL;clear tT aAK aAL;go_wp2_with fail
     first|refine Mid.mk ⟨HS.o,?_⟩|refine Mid.mk ?_
     refine jF [4,5,11,12] 0 (by kernel_rfl) (fun d _ _ _ _ h=>by cases d <;> exact h) (by kernel_rfl) (by kernel_rfl) (by kernel_rfl) HS.o ?_;simp only[jB,aS,aT,aQ,aR];iterate 4 (go_big_quiet_step (fail))
     refine wpQuiet_nil ?_;refine jK (by kernel_rfl) ?_;have aAM:LP K w15 (noT f ds (k+1)) (zQ (chW (jN zs) K.l K.o f ds (k+1)) P3):=by
      rw[aKH.o,aO7.o,o8,o8];exact aEW.o
     have aEY:=aA aAM;clear aAM;go_wp2_with fail
     go_roundw
     case rel=>exact⟨k+1,by omega,by rw[hxs'.o],by rw[aPJ.o],by go_num,aEY,aEX⟩
     case measure=>simp[intOf];omega
    ·obtain rfl:k=sn:=by omega
     rw[←zT.o,←b63.o]at hws;have c0:wr.cell? ⟨K.gw,0,none⟩=some (.slice (some ⟨K.gb,0,none⟩) K.n K.n):=hws.o.blk.cell rfl;have hbz:Below w.heap.size w wr:=qK.o.trans (hmv.o.below (B:=w.heap.size) (by omega) (by omega) (fun k e=>by cases e) qK.o.size);have hown:=(hws.o.row.own hws.o.len (B:=w.heap.size) (by omega) (by unfold maxLen;omega));obtain⟨zU,hown'⟩:=aF hbz hown;clear hbz hown;go_wp2_with fail
     refine bodyPost_ret (results_tmp2 rfl _ _ _) rfl ?_;exact⟨_,_,_,rfl,hown'.o,zU.o⟩
 ·rw[if_neg hR0]at aPB;obtain rfl:=aPB.o;have hz1:(R != 0)=true:=by simp[hR0]
  obtain⟨hb2',bCW,lU⟩:=aG hb2 bA2 hbw2;clear hb2 bA2 hbw2;go_wp2_with fail
  refine bodyPost_ret (results_tmp2 rfl _ _ _) rfl ?_;exact⟨none,0,0,rfl,kC _ _ _ _,lU.o⟩
theorem bDC (w:World):Calls Tryz.prog 215 #[.int .i64 3] w fun e w'=>e= .returned (.bool false)∧w=w':=by
 go_enter Tryz.func215,Tryz.ntmps215;go_wp2;go_ret;exact⟨rfl,rfl⟩
theorem bDF (w:World):Calls Tryz.prog 217 #[.int .i64 3] w fun e w'=>e= .returned (.int .i64 2)∧w=w':=by
 go_enter Tryz.func217,Tryz.ntmps217;go_wp2_with (go_at_call 146;refine(SS _ _).mono ?_;rintro e w' ⟨rfl,rfl⟩)
 go_ret;exact⟨rfl,rfl⟩
theorem aPR (n:Int) (h:kX n 2 2=true) (w:World):Calls Tryz.prog 188 #[.int .i64 n,.int .i64 2,.int .i64 2] w fun e w'=>∃a c,e= .returned (.tuple #[.slice a 2 c,.bool true])∧Sl w' a 2 c 1 (ints .u8 (kL n 2 2))∧Below w.heap.size w w':=by
 refine(a2C _ _ _ _).mono ?_;rintro e w' ⟨a,m,c,rfl,ho,hb⟩;have hs:=(Sl.jX ho).1;obtain rfl:m=2:=by have:=hs.nV;rw[pJ h]at this;exact this.symm
 exact⟨a,c,by rw[h],hs,hb⟩
theorem bN0 (n:Int) (hn:kX n 2 2=true) (hmt:rM 3 1 (kL n 2 2)=true) (a:Option Addr) (c:Nat) (w:World) (hs:Sl w a 1 c 1 (ints .i64 [n])):
  Calls Tryz.prog 147 #[.int .i64 3,.slice a 1 c,.int .i64 1] w fun e w'=>∃a' c',e= .returned (.tuple #[.agg #[.int .i64 3,.int .i64 1,.slice a' 2 c'],.bool true])∧w'.ownsRow w.heap.size 5 1 (.slice a' 2 c') 2 (ints .u8 (kL n 2 2))∧Below w.heap.size w w':=by
 obtain⟨i0,hi,hz0,hz1,hz2⟩:=info_parts a2B;obtain⟨b,o,rfl,hbx,cx⟩:=hs.at (i:=0) (by omega);have c1:w.cell? ⟨b,o,none⟩=some (.int .i64 n):=cx 0 _ rfl;clear cx;have Hs:=aA hs;clear hs;go_enter Tryz.func147,Tryz.ntmps147;go_wp2;obtain⟨W0,hW0⟩:∃W0,W0=(w.alloc (.cells #[.int .i64 0,.int .i64 0,.slice none 0 0] 72)).alloc (.cells #[.int .i64 3,.int .i64 1,.slice none 0 0] 72):=⟨_,rfl⟩;obtain⟨g,hg⟩:∃g,g=w.heap.size+1:=⟨_,rfl⟩;have B0:jJ W0 w.heap.size 72 #[.int .i64 0,.int .i64 0,.slice none 0 0]:=by rw[hW0];exact(jJ.new _ _ _).alloc _
 have G0:jJ W0 g 72 #[.int .i64 3,.int .i64 1,.slice none 0 0]:=by rw[hW0,hg];have:=jJ.new (w.alloc (.cells #[.int .i64 0,.int .i64 0,.slice none 0 0] 72)) 72 #[.int .i64 3,.int .i64 1,.slice none 0 0];simpa using this
 have BW:Below w.heap.size w W0:=by rw[hW0];exact((aW _ _).alloc (aU _) _).alloc (by simp) _
 obtain⟨B0,G0,BW,Hg⟩:=aH B0 G0 BW hg;have c2:W0.cell? ⟨b,o,none⟩=some (.int .i64 n):=late BW.o hbx c1;rw[←hW0,←hg];clear hW0 hg c1;refine wp_loop_rounds 2 ?_;rw[rounds_succ];go_wp2_with (first
  |(go_at_call 215;refine(bDC _).mono ?_;rintro e w' ⟨rfl,rfl⟩)
  |(go_at_call 217;refine(bDF _).mono ?_;rintro e w' ⟨rfl,rfl⟩)
  |(go_at_call 188;refine(aPR n hn _).mono ?_;rintro e w1 ⟨a1,c1,rfl,hs1,hb1⟩;obtain⟨Hs1,G1,Hb1⟩:=aG hs1 (G0.o.late hb1) hb1;clear hs1 hb1;have q2:w1.cell? ⟨g,2,none⟩=some (.slice none 0 0):=G1.o.cell rfl)
  |(at_builtin;refine o5 rfl _ _ 24 rfl W0.heap.size 5 i0 _ 1 1 Tryz.underlying24 hi hz0 hz1 hz2 rfl (by decide) _ 0 [] rfl (kC _ _ _ _) a1 2 c1 _ rfl Hs1.o sM (by omega) (by decide) Hb1.o.size ?_;intro a5 c5 w2 ob hb2 hg2;clear hg2;obtain⟨Ob,Hb2⟩:=aF ob (Hb1.o.trans hb2);clear ob hb2;have G2:=aA (G0.o.late Hb2.o);have z0:w2.cell? ⟨g,0,none⟩=some (.int .i64 3):=G2.o.cell rfl;have z1:w2.cell? ⟨g,1,none⟩=some (.int .i64 1):=G2.o.cell rfl;have z2:w2.cell? ⟨g,2,none⟩=some (.slice none 0 0):=G2.o.cell rfl;have fz:=G2.o.frozen 2))
 obtain⟨w3,hw3⟩:∃w3,w3=w2.setCell ⟨g,2,none⟩ (.slice a5 2 c5):=⟨_,rfl⟩;rw[←hw3];have B2:jJ w2 w.heap.size 72 #[.int .i64 0,.int .i64 0,.slice none 0 0]:=B0.o.late Hb2.o;have G3:jJ w3 g 72 #[.int .i64 3,.int .i64 1,.slice a5 2 c5]:=by rw[hw3];exact G2.o.set 2 _
 have B3:jJ w3 w.heap.size 72 #[.int .i64 0,.int .i64 0,.slice none 0 0]:=by rw[hw3];exact B2.lF (by have:=Hg.o;omega) _ _
 have O3:w3.ownsRow W0.heap.size 5 1 (.slice a5 2 c5) 2 (ints .u8 (kL n 2 2)):=by rw[hw3];exact kQ Ob.o G0.o.lt _ _
 have BB:Below w.heap.size w w3:=by rw[hw3];exact(BW.o.tm Hb2.o).setCell (by show w.heap.size≤g;have:=Hg.o;omega) _
 have S3:=aA (Sl.jX O3).1;have HO3:=aA O3;have aAN:w.heap.size<W0.heap.size:=by have h1:=G0.o.lt;have h2:=Hg.o;omega
 obtain⟨aEZ,G3,B3,BB⟩:=aH aAN G3 B3 BB;clear hw3 z0 z1 z2 fz B2 O3 q2 aAN;have z0:w3.cell? ⟨g,0,none⟩=some (.int .i64 3):=G3.o.cell rfl;have z1:w3.cell? ⟨g,1,none⟩=some (.int .i64 1):=G3.o.cell rfl;have z2:w3.cell? ⟨g,2,none⟩=some (.slice a5 2 c5):=G3.o.cell rfl;have Hmt:=aA hmt;rw[rounds_succ];go_wp2_with (go_at_call 183;refine(aN0 3 1 a5 2 c5 (kL n 2 2) _ S3.o).mono ?_;rw[Hmt.o];rintro e w4 ⟨rfl,hb4⟩;obtain⟨G4,B4,O4,Hb4⟩:=aH (G3.o.late hb4) (B3.o.late hb4) (jY HO3.o hb4) hb4;clear hb4;have y0:w4.cell? ⟨g,0,none⟩=some (.int .i64 3):=G4.o.cell rfl;have y1:w4.cell? ⟨g,1,none⟩=some (.int .i64 1):=G4.o.cell rfl;have y2:w4.cell? ⟨g,2,none⟩=some (.slice a5 2 c5):=G4.o.cell rfl;have x0:w4.cell? ⟨w.heap.size,0,none⟩=some (.int .i64 0):=B4.o.cell rfl;have x1:w4.cell? ⟨w.heap.size,1,none⟩=some (.int .i64 0):=B4.o.cell rfl;have x2:w4.cell? ⟨w.heap.size,2,none⟩=some (.slice none 0 0):=B4.o.cell rfl;have f0:=B4.o.frozen 0;have f1:=B4.o.frozen 1;have f2:=B4.o.frozen 2)
 have B5:=((B4.o.set 0 (.int .i64 3)).set 1 (.int .i64 1)).set 2 (.slice a5 2 c5);refine bodyPost_ret (jL rfl _ _ w.heap.size 72 #[.int .i64 3,.int .i64 1,.slice a5 2 c5] _ rfl B5 Tryz.underlying72 rfl (by kernel_rfl)) rfl ?_;have O5:=kQ (kQ (kQ O4.o aEZ.o 0 (.int .i64 3)) aEZ.o 1 (.int .i64 1)) aEZ.o 2 (.slice a5 2 c5);exact⟨_,_,rfl,kK O5 (iZ aEZ.o),(((BB.o.tm Hb4.o).setCell (aU _) _).setCell (aU _) _).setCell (aU _) _⟩
theorem aF0 (n:Int) (hn:kX n 2 2=true) (hmt:rM 3 1 (kL n 2 2)=true) (a:Option Addr) (c:Nat) (w:World) (hs:Sl w a 1 c 1 (ints .i64 [n])):
  Calls Tryz.prog 87 #[.int .i64 3,.slice a 1 c] w fun e w'=>∃a' c',e= .returned (.tuple #[.agg #[.int .i64 3,.int .i64 1,.slice a' 2 c'],.bool true])∧w'.ownsRow w.heap.size 5 1 (.slice a' 2 c') 2 (ints .u8 (kL n 2 2))∧Below w.heap.size w w':=by
 have Hs:=aA hs;clear hs;go_enter Tryz.func87,Tryz.ntmps87;obtain⟨W0,hW0⟩:∃W0,W0=w.alloc (.cells #[.int .i64 0,.int .i64 0,.slice none 0 0] 72):=⟨_,rfl⟩;have B0:jJ W0 w.heap.size 72 #[.int .i64 0,.int .i64 0,.slice none 0 0]:=by rw[hW0];exact jJ.new _ _ _
 have BW:Below w.heap.size w W0:=by rw[hW0];exact(aW _ _).alloc (aU _) _
 obtain⟨B0,BW⟩:=aF B0 BW;have HS:=aA (Hs.o.mono BW.o);have aAN:w.heap.size<W0.heap.size:=B0.o.lt;have aEZ:=aA aAN;clear aAN;go_upto_region 1 with fail
 rw[←hW0];clear hW0;go_wp2_with (first
  |(go_at_call 146;refine(SS _ _).mono ?_;rintro e w' ⟨rfl,rfl⟩)
  |(go_at_call 147;refine(bN0 n hn hmt a c _ HS.o).mono ?_;rintro e w4 ⟨a5,c5,rfl,hs5,hb4⟩;obtain⟨S4,B4,Hb4⟩:=aG hs5 (B0.o.late hb4) hb4;clear hb4 hs5;have x0:w4.cell? ⟨w.heap.size,0,none⟩=some (.int .i64 0):=B4.o.cell rfl;have x1:w4.cell? ⟨w.heap.size,1,none⟩=some (.int .i64 0):=B4.o.cell rfl;have x2:w4.cell? ⟨w.heap.size,2,none⟩=some (.slice none 0 0):=B4.o.cell rfl;have f0:=B4.o.frozen 0;have f1:=B4.o.frozen 1;have f2:=B4.o.frozen 2))
 have B5:=B4.o.xK (.int .i64 3) (.int .i64 1) (.slice a5 2 c5);refine bodyPost_ret (jL rfl _ _ w.heap.size 72 #[.int .i64 3,.int .i64 1,.slice a5 2 c5] _ rfl B5 Tryz.underlying72 rfl (by kernel_rfl)) rfl ?_;exact⟨_,_,rfl,kK (J5 S4.o aEZ.o _ _ _) (iZ aEZ.o),kM (BW.o.tm Hb4.o) (aU _) _ _ _⟩
def bN1:List lV:= [([],0,0, -1)]
def xT (n:Int):nC:=(256,3,1,kL n 2 2)
def xD:jD 2:=([xT 258], [], [])
theorem xc2:mJ 2 2 [xD,xD] bN1=1:=by decide+kernel
