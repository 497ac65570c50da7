import Derived.Test.YtceclmpmpldmlaaGreatCx34
import Derived.Test.YtceclmpmpldmlaaGreatCx41
import Derived.ProofKit
import Derived.OpenShut
import Derived.ShutString
import Derived.ChangeOld
import Derived.Below
import Derived.SizedLaws
import Derived.LaidMore
import Derived.LaidLaws
import Derived.Stop.Joined
import Derived.Deep.DeepHandedRow
import Derived.Deep.Matrix
import Derived.Deep.Strs
import Derived.Lib.SmallJoins
set_option linter.unusedSimpArgs false
set_option linter.unusedVariables false
namespace Go.Proofs.YtceclmpmpldmlaaGreat
open Go.RowKit Tt
def WJ (B:Nat) (w:World) (da:Option Addr) (dn dc:Nat) (V3:List Dz):Prop:=
 w.ownsRow B 26 3 (.slice da dn dc) dn (fl YR V3)∧V3.length=dn∧∀i,i<V3.length→∃(ta:Option Addr) (tn tc:Nat) (zs:List Tz) (ba:Option Addr) (bn bc:Nat) (u:Value),
  V3.getD i dzz=(.slice ta tn tc,u,.slice ba bn bc)∧w.ownsRow B 74 4 (.slice ta tn tc) tn (fl tzc zs)∧zs.length=tn∧(∀z∈zs,GWk B w (tzd z) z.1.2.2.2.2.1)∧GWk B w (.slice ba bn bc) bn
theorem WJ.later {B:Nat} {w w':World} {da:Option Addr} {dn dc:Nat} {V3:List Dz} (h:WJ B w da dn dc V3) (hb:Below w.heap.size w w'):WJ B w' da dn dc V3:=
 ⟨kC h.1 hb,h.2.1,fun i hi=>by
  obtain⟨ta,tn,tc,zs,ba,bn,bc,u,h1,h2,h3,h4,h5⟩:=h.2.2 i hi;exact⟨ta,tn,tc,zs,ba,bn,bc,u,h1,kC h2 hb,h3,fun z hz=>(h4 z hz).later hb,h5.later hb⟩⟩
theorem WJ.cl {B B':Nat} {w w':World} {da:Option Addr} {dn dc:Nat} {V3:List Dz} (h:WJ B w da dn dc V3) (hc:GCl B' w w'):WJ B w' da dn dc V3:=
 ⟨hc.row h.1 aH,h.2.1,fun i hi=>by
  obtain⟨ta,tn,tc,zs,ba,bn,bc,u,h1,h2,h3,h4,h5⟩:=h.2.2 i hi;exact⟨ta,tn,tc,zs,ba,bn,bc,u,h1,hc.row h2 aH,h3,fun z hz=>(h4 z hz).cl hc,h5.cl hc⟩⟩
theorem vD.bLC {B f:Nat} {w:World} {da:Option Addr} {dn dc:Nat} {ds:List (jR (f+1))} (h:vD B w (f+1) (.slice da dn dc) ds):∃V3,WJ B w da dn dc V3:=by
 obtain⟨xC,hl,how,hd⟩:=h;have hm:=(Sl.jU how).2;rw[hm]at how;refine⟨xC,how,hm,fun i hi=>?_⟩;have hD:=hd i hi aG;rw[jO hi];obtain⟨a1,n1,c1,a2,n2,c2,a3,n3,c3,hv⟩:=hD.slices;rw[hv]at hD;obtain⟨_,⟨zs,h1,h2,h3⟩,_,hb⟩:=hD;have e1:=(Sl.jU h2.1).2;have h2':=h2.1;have e3:=(Sl.jU hb.1).2;have mO:=hb.1;simp only at e1 h2' e3 mO;rw[e1]at h2';rw[e3]at mO;refine⟨a1,n1,c1,zs,a3,n3,c3,.slice a2 n2 c2,hv,h2',e1,fun z hz=>?_,_,mO⟩;have:=(h3 z hz).1;have e4:=(Sl.jU this).2;rw[e4]at this;exact⟨_,this⟩
def outT (x:wP):List (jR 16):=if nH x=0 then mI x else []
def WK (x:wP):Int:=if nH x=0 then x.o else 0
theorem aFB {x:wP} {B:Nat} {w:World} {oo:Int} {a:Option Addr} {n c:Nat}
  (h:if nH x=0 then oo=x.o∧n=(mI x).length∧vD B w 16 (.slice a n c) (mI x)else oo=0∧n=0∧a=none∧c=0):oo=WK x∧vD B w 16 (.slice a n c) (outT x):=by
 unfold WK outT;by_cases h0:nH x=0
 ·rw[if_pos h0]at h ⊢;rw[if_pos h0];exact⟨h.1,h.2.2⟩
 ·rw[if_neg h0]at h ⊢;rw[if_neg h0];obtain⟨rfl,rfl,rfl,rfl⟩:=h;exact⟨rfl, [],rfl,kF _ _ _ _,fun i hi=>by cases hi⟩
set_option maxRecDepth 30000 in
set_option maxHeartbeats 16000000 in
theorem aOV (x:wP) (A:ExA) (y:wP) (B:ExA) (w:World) (h1:ExR w x A) (k1:WfE x) (b1:aDU x) (h2:ExR w y B) (k2:WfE y) (b2:aDU y):
  Calls Tryz.prog 4 #[exV x.o A,exV y.o B] w fun e w'=>e= .returned (.bool true)∧Below w.heap.size w w':=by
 have V1:=fun W (hb:Below w.heap.size w W)=>a5T x A W (h1.mono hb);have V2:=fun W (hb:Below w.heap.size w W)=>a5T y B W (h2.mono hb);have hv1:=fun h=>aWZ (x:=x) h;obtain⟨v1,bLD⟩:∃b,a5S x=b:=⟨_,rfl⟩;obtain⟨v2,bLE⟩:∃b,a5S y=b:=⟨_,rfl⟩;rw[bLD]at V1 hv1;rw[bLE]at V2;clear bLD bLE;have OW:=fun W (hb:Below w.heap.size w W) hs hd=>aIH x A W (h1.mono hb) hs hd;have RT:=fun W (hb:Below w.heap.size w W) hs hd=>ZC x A W (h1.mono hb) hs hd;have RW:=fun W (hb:Below w.heap.size w W) hs hd=>aAO x A W (h1.mono hb) hs hd b1;have RC:=fun W (hb:Below w.heap.size w W) hs=>VN x A W (h1.mono hb) hs;have RS:=fun W (hb:Below w.heap.size w W)=>ZG x y A B W (h1.mono hb) (h2.mono hb);obtain⟨W,hW,bX,bY,hb,rX⟩:=nM w 61 (R9 x.o A) 61 (R9 y.o B);obtain⟨za,zn,zc,pa,pn,pc,ga,gn,gc,ia,iN,ic,fa,fn,fc,ma,mn,mc,ta,tn,tc⟩:=A;obtain⟨xL,xM,xO,xP,xQ,pc2,xR,xS,xU,xV,xW,xX,fa2,xY,xZ,ma2,mn2,mc2,ta2,tn2,tc2⟩:=B;simp only[exV,R9]at*;have q0:=bX.cell (i:=0) rfl;have q1:=bX.cell (i:=1) rfl;have q2:=bX.cell (i:=2) rfl;have q3:=bX.cell (i:=3) rfl;have q4:=bX.cell (i:=4) rfl;have q5:=bX.cell (i:=5) rfl;have q6:=bX.cell (i:=6) rfl;have q7:=bX.cell (i:=7) rfl;have r0:=bY.cell (i:=0) rfl;have r1:=bY.cell (i:=1) rfl;have r2:=bY.cell (i:=2) rfl;have r3:=bY.cell (i:=3) rfl;have r4:=bY.cell (i:=4) rfl;have r5:=bY.cell (i:=5) rfl;have r6:=bY.cell (i:=6) rfl;have r7:=bY.cell (i:=7) rfl;obtain⟨h1',k1',b1',h2',k2',b2',V1',V2',bSE,OW',RT',RW'⟩:=aT h1 k1 b1 h2 k2 b2 V1 V2 hv1 OW RT RW;obtain⟨RC',RS',I5,bX',bY',mO,zL⟩:=aO RC RS hW bX bY hb rX;clear h1 k1 b1 h2 k2 b2 V1 V2 hv1 OW RT RW RC RS hW bX bY hb rX;go_enter Tryz.func4,Tryz.ntmps4;go_upto_region 1 with fail
 rw[I5.o];go_wp2_with fail
 refine(V1'.o _ mO.o).mono ?_;rintro e w1 ⟨rfl,jY⟩;have qC:=mO.o.tm jY;have bX1:=bX'.o.late jY;have bY1:=bY'.o.late jY;clear q0 q1 q2 q3 q4 q5 q6 q7 r0 r1 r2 r3 r4 r5 r6 r7;cases v1 with
 |true=>
  have aFC:=qC;obtain⟨kR,oD,bLF,bLG⟩:=aL jY qC bX1 bY1;clear jY qC bX1 bY1;have ZJ:=aA aFC;clear aFC;go_wp2_with fail
  refine(OO _).mono ?_;rintro e w9 ⟨rfl,yB⟩;have aFD:=ZJ.o.tm yB;obtain⟨tN,aFE⟩:=aJ yB aFD;clear yB aFD;go_wp2_with fail
  go_ret;exact⟨rfl,aFE.o⟩
 |false=>
 obtain⟨tH,G5,MV,ht2⟩:=bSE.o rfl;have q0:=bX1.cell (i:=0) rfl;have q1:=bX1.cell (i:=1) rfl;have q2:=bX1.cell (i:=2) rfl;have q3:=bX1.cell (i:=3) rfl;have q4:=bX1.cell (i:=4) rfl;have q5:=bX1.cell (i:=5) rfl;have q6:=bX1.cell (i:=6) rfl;have q7:=bX1.cell (i:=7) rfl;have r0:=bY1.cell (i:=0) rfl;have r1:=bY1.cell (i:=1) rfl;have r2:=bY1.cell (i:=2) rfl;have r3:=bY1.cell (i:=3) rfl;have r4:=bY1.cell (i:=4) rfl;have r5:=bY1.cell (i:=5) rfl;have r6:=bY1.cell (i:=6) rfl;have r7:=bY1.cell (i:=7) rfl;obtain⟨kR,oD,bLF,bLG,yG,CW,a1V,aPX⟩:=aP jY qC bX1 bY1 tH G5 MV ht2;clear jY qC bX1 bY1 tH G5 MV ht2;go_wp2_with fail
 refine(V2'.o _ oD.o).mono ?_;rintro e w2 ⟨rfl,jT⟩;have JE:=oD.o.tm jT;have bX2:=bLF.o.late jT;have bY2:=bLG.o.late jT;clear q0 q1 q2 q3 q4 q5 q6 q7 r0 r1 r2 r3 r4 r5 r6 r7;cases v2 with
 |true=>
  have aFC:=JE;obtain⟨mE,rW,bLH,bLI⟩:=aL jT JE bX2 bY2;clear jT JE bX2 bY2;have ZJ:=aA aFC;clear aFC;go_wp2_with fail
  refine(OO _).mono ?_;rintro e w9 ⟨rfl,yB⟩;have aFD:=ZJ.o.tm yB;obtain⟨tN,aFE⟩:=aJ yB aFD;clear yB aFD;go_wp2_with fail
  go_ret;exact⟨rfl,aFE.o⟩
 |false=>
 have q0:=bX2.cell (i:=0) rfl;have q1:=bX2.cell (i:=1) rfl;have q2:=bX2.cell (i:=2) rfl;have q3:=bX2.cell (i:=3) rfl;have q4:=bX2.cell (i:=4) rfl;have q5:=bX2.cell (i:=5) rfl;have q6:=bX2.cell (i:=6) rfl;have q7:=bX2.cell (i:=7) rfl;obtain⟨mE,rW,bLH,bLI⟩:=aL jT JE bX2 bY2;clear jT JE bX2 bY2;go_wp2_with fail
 refine(OW'.o _ rW.o yG.o CW.o).mono ?_;rintro e w3 ⟨⟨za5,zn5,zc5,pa5,pn5,pc5,ga5,gn5,gc5,ia5,iN5,ic5,fa5,fn5,fc5,ma5,mn5,mc5,ta5,tn5,tc5⟩,rfl,hO3,jQ⟩;have LF:=rW.o.tm jQ;have bO:=jW.new w3 61 (R9 x.o ⟨za5,zn5,zc5,pa5,pn5,pc5,ga5,gn5,gc5,ia5,iN5,ic5,fa5,fn5,fc5,ma5,mn5,mc5,ta5,tn5,tc5⟩);have l9:=aD w3 (.cells (R9 x.o ⟨za5,zn5,zc5,pa5,pn5,pc5,ga5,gn5,gc5,ia5,iN5,ic5,fa5,fn5,fc5,ma5,mn5,mc5,ta5,tn5,tc5⟩) 61);have hO4:=hO3.later l9;simp only[exV,R9]at*;obtain⟨w4,ZL⟩:∃X,w3.alloc (.cells #[.int .i64 x.o,.slice za5 zn5 zc5,.slice pa5 pn5 pc5,.slice ga5 gn5 gc5,.slice ia5 iN5 ic5,.slice fa5 fn5 fc5,.slice ma5 mn5 mc5,.slice ta5 tn5 tc5] 61)=X:=⟨_,rfl⟩;rw[ZL]at bO l9 hO4;have bX4:=(bLH.o.late jQ).late l9;have bY4:=(bLI.o.late jQ).late l9;have CK:=LF.tm l9;have hR4:=hO4.rd;obtain⟨g5,nW⟩:∃g,w3.heap.size=g:=⟨_,rfl⟩;rw[nW]at bO;have XT:=fun W (hb:Below w4.heap.size w4 W)=>Y1 x ⟨za5,zn5,zc5,pa5,pn5,pc5,ga5,gn5,gc5,ia5,iN5,ic5,fa5,fn5,fc5,ma5,mn5,mc5,ta5,tn5,tc5⟩ W (hR4.mono hb) yG.o CW.o k1'.o;have XW:=fun W (hb:Below w4.heap.size w4 W)=>WI x ⟨za5,zn5,zc5,pa5,pn5,pc5,ga5,gn5,gc5,ia5,iN5,ic5,fa5,fn5,fc5,ma5,mn5,mc5,ta5,tn5,tc5⟩ W (hR4.mono hb) yG.o CW.o k1'.o b1'.o;have XC:=fun W (hb:Below w4.heap.size w4 W)=>FM x ⟨za5,zn5,zc5,pa5,pn5,pc5,ga5,gn5,gc5,ia5,iN5,ic5,fa5,fn5,fc5,ma5,mn5,mc5,ta5,tn5,tc5⟩ W (hR4.mono hb) k1'.o;have XS:=fun W (hb:Below w4.heap.size w4 W)=>aEA x y ⟨za5,zn5,zc5,pa5,pn5,pc5,ga5,gn5,gc5,ia5,iN5,ic5,fa5,fn5,fc5,ma5,mn5,mc5,ta5,tn5,tc5⟩ ⟨xL,xM,xO,xP,xQ,pc2,xR,xS,xU,xV,xW,xX,fa2,xY,xZ,ma2,mn2,mc2,ta2,tn2,tc2⟩ W (hR4.mono hb) (h2'.o.mono (CK.tm hb)) b1'.o b2'.o;have ZS:=fun W (hb:Below w4.heap.size w4 W)=>ZG x x ⟨za5,zn5,zc5,pa5,pn5,pc5,ga5,gn5,gc5,ia5,iN5,ic5,fa5,fn5,fc5,ma5,mn5,mc5,ta5,tn5,tc5⟩ ⟨za,zn,zc,pa,pn,pc,ga,gn,gc,ia,iN,ic,fa,fn,fc,ma,mn,mc,ta,tn,tc⟩ W (hR4.mono hb) (h1'.o.mono (CK.tm hb));rw[show CS x x=true from aON.2 rfl]at ZS;simp only[exV,R9]at XT XW XC XS ZS;clear q0 q1 q2 q3 q4 q5 q6 q7;have q0:=bX4.cell (i:=0) rfl;have q1:=bX4.cell (i:=1) rfl;have q2:=bX4.cell (i:=2) rfl;have q3:=bX4.cell (i:=3) rfl;have q4:=bX4.cell (i:=4) rfl;have q5:=bX4.cell (i:=5) rfl;have q6:=bX4.cell (i:=6) rfl;have q7:=bX4.cell (i:=7) rfl;have s0:=bO.cell (i:=0) rfl;have s1:=bO.cell (i:=1) rfl;have s2:=bO.cell (i:=2) rfl;have s3:=bO.cell (i:=3) rfl;have s4:=bO.cell (i:=4) rfl;have s5:=bO.cell (i:=5) rfl;have s6:=bO.cell (i:=6) rfl;have s7:=bO.cell (i:=7) rfl;obtain⟨bWO,qN,sZ,bO',oL,bWP,bSF,yU,aFF,qB,aT7,aS8⟩:=aT hO3 jQ LF bO l9 hO4 ZL bX4 bY4 CK hR4 nW;obtain⟨XT',XW',XC',XS',ZS'⟩:=aM XT XW XC XS ZS;clear hO3 jQ LF bO l9 hO4 ZL bX4 bY4 CK hR4 nW XT XW XC XS ZS;go_upto_region 4 with fail
 rw[aS8.o,bSF.o];go_wp2_with fail
 refine(XT'.o _ (aY _ _)).mono ?_;rintro e w5 ⟨o5,da5,dn5,dc5,rfl,nZ,hT5⟩;obtain⟨rfl,hD5⟩:=aFB hT5;clear hT5;obtain⟨V3,bLJ⟩:=hD5.bLC;have h6:=jW.new w5 39 #[.int .i64 (WK x),.slice da5 dn5 dc5];have l9:=aD w5 (.cells #[.int .i64 (WK x),.slice da5 dn5 dc5] 39);have bBU:=bLJ.later l9;have bBV:=hD5.rd.mono l9;have bBW:=nZ.tm l9;obtain⟨w6,KW⟩:∃X,w5.alloc (.cells #[.int .i64 (WK x),.slice da5 dn5 dc5] 39)=X:=⟨_,rfl⟩;rw[KW]at h6 bBU bBV bBW;obtain⟨g6,qQ⟩:∃g,w5.heap.size=g:=⟨_,rfl⟩;rw[qQ]at h6;clear hD5 bLJ nZ l9 q0 q1 q2 q3 q4 q5 q6 q7 s0 s1 s2 s3 s4 s5 s6 s7;obtain⟨h6',b3Y,b3Z,M9⟩:=aL h6 bBU bBV bBW;clear h6 bBU bBV bBW;go_upto_region 5 with fail
 try rw[qQ]
 try rw[KW]
 clear qQ KW;have q0:=(yU.o.late M9.o).cell (i:=0) rfl;have q1:=(yU.o.late M9.o).cell (i:=1) rfl;have q2:=(yU.o.late M9.o).cell (i:=2) rfl;have q3:=(yU.o.late M9.o).cell (i:=3) rfl;have q4:=(yU.o.late M9.o).cell (i:=4) rfl;have q5:=(yU.o.late M9.o).cell (i:=5) rfl;have q6:=(yU.o.late M9.o).cell (i:=6) rfl;have q7:=(yU.o.late M9.o).cell (i:=7) rfl;go_wp2_with fail
 refine(RT'.o _ (qB.o.tm M9.o) yG.o CW.o).mono ?_;rintro e w7 ⟨o8,da8,dn8,dc8,rfl,rE,hT8⟩;obtain⟨rfl,hD8⟩:=aFB hT8;clear hT8;have h8:=jW.new w7 39 #[.int .i64 (WK x),.slice da8 dn8 dc8];have l9:=aD w7 (.cells #[.int .i64 (WK x),.slice da8 dn8 dc8] 39);have aX1:=hD8.rd.mono l9;have LV:=rE.tm l9;obtain⟨w8,hw8⟩:∃X,w7.alloc (.cells #[.int .i64 (WK x),.slice da8 dn8 dc8] 39)=X:=⟨_,rfl⟩;rw[hw8]at h8 aX1 LV;obtain⟨g8,hg8⟩:∃g,w7.heap.size=g:=⟨_,rfl⟩;rw[hg8]at h8;have h68:=h6'.o.late LV;have bLK:=b3Y.o.later LV;have b40:=b3Z.o.mono LV;have bMM:=M9.o.tm LV;clear hD8 rE l9 LV h6' b3Y b3Z M9 q0 q1 q2 q3 q4 q5 q6 q7;obtain⟨h8',aX2,bLL,b41,aX3,MB⟩:=aN h8 aX1 h68 bLK b40 bMM;clear h8 aX1 h68 bLK b40 bMM;go_upto_region 6 with fail
 try rw[hg8]
 try rw[hw8]
 clear hg8 hw8;have s0:=(bO'.o.late MB.o).cell (i:=0) rfl;have s1:=(bO'.o.late MB.o).cell (i:=1) rfl;have s2:=(bO'.o.late MB.o).cell (i:=2) rfl;have s3:=(bO'.o.late MB.o).cell (i:=3) rfl;have s4:=(bO'.o.late MB.o).cell (i:=4) rfl;have s5:=(bO'.o.late MB.o).cell (i:=5) rfl;have s6:=(bO'.o.late MB.o).cell (i:=6) rfl;have s7:=(bO'.o.late MB.o).cell (i:=7) rfl;go_wp2_with fail
 refine(XW'.o _ MB.o).mono ?_;rintro e w9 ⟨b10,m10,c10,rfl,b42,yB⟩;have hs9:=(Sl.jU b42).1;have a6W:=MB.o.tm yB;have h69:=bLL.o.late yB;have h89:=h8'.o.late yB;have bLM:=b41.o.later yB;have b43:=aX3.o.mono yB;have b44:=aX2.o.mono yB;clear b42 yB MB bLL h8' b41 aX3 aX2 s0 s1 s2 s3 s4 s5 s6 s7;have q0:=(yU.o.late a6W).cell (i:=0) rfl;have q1:=(yU.o.late a6W).cell (i:=1) rfl;have q2:=(yU.o.late a6W).cell (i:=2) rfl;have q3:=(yU.o.late a6W).cell (i:=3) rfl;have q4:=(yU.o.late a6W).cell (i:=4) rfl;have q5:=(yU.o.late a6W).cell (i:=5) rfl;have q6:=(yU.o.late a6W).cell (i:=6) rfl;have q7:=(yU.o.late a6W).cell (i:=7) rfl;obtain⟨aIJ,aLX,bLN,bLO,b45,aX4,aX5⟩:=aO hs9 a6W h69 h89 bLM b43 b44;clear hs9 a6W h69 h89 bLM b43 b44;go_wp2_with fail
 refine(RW'.o _ (qB.o.tm aLX.o) yG.o CW.o).mono ?_;rintro e wa ⟨b12,m12,c12,rfl,b46,hba⟩;have bLP:=(Sl.jU b46).1;have bLQ:=aIJ.o.mono hba;have b0U:=aLX.o.tm hba;have KM:=bLN.o.late hba;have h8a:=bLO.o.late hba;have bLR:=b45.o.later hba;have b47:=aX4.o.mono hba;have b48:=aX5.o.mono hba;clear b46 hba aIJ aLX bLN bLO b45 aX4 aX5 q0 q1 q2 q3 q4 q5 q6 q7;obtain⟨Ty,ff,oJ,jN,jK⟩:=kE wa;have UD:=fun s=>b0U.trans ((jN s).mono b0U.size);have b0V:=fun s=>qB.o.trans ((UD s).mono qB.o.size);have q0:=fun s=>((fun s=>yU.o.late (UD s)) s).cell (i:=0) rfl;have q1:=fun s=>((fun s=>yU.o.late (UD s)) s).cell (i:=1) rfl;have q2:=fun s=>((fun s=>yU.o.late (UD s)) s).cell (i:=2) rfl;have q3:=fun s=>((fun s=>yU.o.late (UD s)) s).cell (i:=3) rfl;have q4:=fun s=>((fun s=>yU.o.late (UD s)) s).cell (i:=4) rfl;have q5:=fun s=>((fun s=>yU.o.late (UD s)) s).cell (i:=5) rfl;have q6:=fun s=>((fun s=>yU.o.late (UD s)) s).cell (i:=6) rfl;have q7:=fun s=>((fun s=>yU.o.late (UD s)) s).cell (i:=7) rfl;have r0:=fun s=>((fun s=>aFF.o.late (UD s)) s).cell (i:=0) rfl;have r1:=fun s=>((fun s=>aFF.o.late (UD s)) s).cell (i:=1) rfl;have r2:=fun s=>((fun s=>aFF.o.late (UD s)) s).cell (i:=2) rfl;have r3:=fun s=>((fun s=>aFF.o.late (UD s)) s).cell (i:=3) rfl;have r4:=fun s=>((fun s=>aFF.o.late (UD s)) s).cell (i:=4) rfl;have r5:=fun s=>((fun s=>aFF.o.late (UD s)) s).cell (i:=5) rfl;have r6:=fun s=>((fun s=>aFF.o.late (UD s)) s).cell (i:=6) rfl;have r7:=fun s=>((fun s=>aFF.o.late (UD s)) s).cell (i:=7) rfl;have s0:=fun s=>((fun s=>bO'.o.late (UD s)) s).cell (i:=0) rfl;have s1:=fun s=>((fun s=>bO'.o.late (UD s)) s).cell (i:=1) rfl;have s2:=fun s=>((fun s=>bO'.o.late (UD s)) s).cell (i:=2) rfl;have s3:=fun s=>((fun s=>bO'.o.late (UD s)) s).cell (i:=3) rfl;have s4:=fun s=>((fun s=>bO'.o.late (UD s)) s).cell (i:=4) rfl;have s5:=fun s=>((fun s=>bO'.o.late (UD s)) s).cell (i:=5) rfl;have s6:=fun s=>((fun s=>bO'.o.late (UD s)) s).cell (i:=6) rfl;have s7:=fun s=>((fun s=>bO'.o.late (UD s)) s).cell (i:=7) rfl;have u0:=fun s=>(KM.late (jN s)).cell (i:=0) rfl;have u1:=fun s=>(KM.late (jN s)).cell (i:=1) rfl;have v0:=fun s=>(h8a.late (jN s)).cell (i:=0) rfl;have v1:=fun s=>(h8a.late (jN s)).cell (i:=1) rfl;have HS:=aA (jK _ ((aY _ _).drew));have TS:=fun s=>aMX 16 (WK x) (WK x) da5 dn5 dc5 da8 dn8 dc8 (outT x) (outT x) (ff s) (b47.mono (jN s)) (b48.mono (jN s)) true (by simp);have BS:=fun s=>VU b10 b12 m10 m12 c10 c12 (aA2 x) (aA2 x) (ff s) (bLQ.mono (jN s)) (bLP.mono (jN s));have yZ:(aA2 x==aA2 x)=true:=by simp
 rw[yZ]at BS;obtain⟨ck,G7⟩:∃c,nH x=c:=⟨_,rfl⟩;obtain⟨wc,hwc⟩:∃c,aNY x=c:=⟨_,rfl⟩;obtain⟨sb,hsb⟩:∃c,CS x y=c:=⟨_,rfl⟩;have XC2:=fun s=>XC'.o (ff s) (UD s);have RC2:=fun s=>RC'.o (ff s) (b0V s) yG.o;have XS2:=fun s=>XS'.o (ff s) (UD s);have RS2:=fun s=>RS'.o (ff s) (b0V s);rw[G7]at XC2 RC2;rw[hsb]at XS2 RS2;rw[G7,hwc];have n1:(ck != ck)=false:=by simp
 have n2:(wc != wc)=false:=by simp
 have n3:(sb != sb)=false:=by simp
 have n4:decide (ck=ck)=true:=by simp
 have n5:decide (wc=wc)=true:=by simp
 clear yZ G7 hwc hsb bLQ bLP h8a b47 b48;obtain⟨bLS,bLT,jH,jF,TS',BS',bLU,bLV,bLW,bLX,vY,b49⟩:=aT UD b0V jN jK TS BS XC2 RC2 XS2 RS2 KM bLR;have bLY:=aA b0U;clear UD b0V jN jK TS BS XC2 RC2 XS2 RS2 KM bLR b0U;go_upto_region 8 with fail
 refine jL ff aF aF HS.o ?_;iterate 36 (go_big_quiet_step (first
  |(go_at_call 25;refine(TS'.o _).mono ?_;rintro e w3 ⟨rfl,jQ⟩;exact⟨rfl,jF.o _ ((jH.o _).tm jQ)⟩)
  |(go_at_call 26;refine(BS'.o _).mono ?_;rintro e w3 ⟨rfl,jQ⟩;exact⟨rfl,jF.o _ ((jH.o _).tm jQ)⟩)
  |(go_at_call 27;refine(bLU.o _).mono ?_;rintro e w3 ⟨rfl,jQ⟩;exact⟨rfl,jF.o _ ((jH.o _).tm jQ)⟩)
  |(go_at_call 28;refine(bLV.o _).mono ?_;rintro e w3 ⟨rfl,jQ⟩;exact⟨rfl,jF.o _ ((jH.o _).tm jQ)⟩)
  |(go_at_call 29;refine(bLW.o _).mono ?_;rintro e w3 ⟨rfl,jQ⟩;exact⟨rfl,jF.o _ ((jH.o _).tm jQ)⟩)
  |(go_at_call 30;refine(bLX.o _).mono ?_;rintro e w3 ⟨rfl,jQ⟩;exact⟨rfl,jF.o _ ((jH.o _).tm jQ)⟩)))
 refine wpQuiet_nil ?_;intro s;have kJ:=jH.o s;have bLZ:=bLS.o s;have M8:=vY.o.late kJ;have bM0:=b49.o.later kJ;generalize ff s=wb at*;clear q0 q1 q2 q3 q4 q5 q6 q7 r0 r1 r2 r3 r4 r5 r6 r7 s0 s1 s2 s3 s4 s5 s6 s7 u0 u1 v0 v1 HS kJ TS' BS' bLU bLV bLW bLX vY b49 bLY bLS bLT jH jF;obtain⟨CV,b4A,b4B⟩:=aK M8 bM0 bLZ;clear M8 bM0 bLZ;go_wp2_with fail
 go_loopw [14] (fun iv wr=>∃(i:Nat),i≤dn5∧iv= .int .i64 i∧Hid (jW wr g6 39 #[.int .i64 (WK x),.slice da5 dn5 dc5])∧Hid (WJ w4.heap.size wr da5 dn5 dc5 V3)∧Hid (Below w4.heap.size w4 wr)) (fun iv _=>dn5 - (intOf iv).toNat)
 case atStart=>exact⟨0,by omega,rfl,CV,b4A,b4B⟩
 case round=>
  clear CV b4A b4B;obtain⟨i,hi,rfl,h6r,hdc,lI⟩:=hrel;have p1:=h6r.o.cell (i:=1) rfl;have LX:dn5≤9223372036854775807:=by have h:=(Sl.jU hdc.o.1).1;exact bQ h.le h.max
  by_cases kD:i<dn5
  ·have yJ:(i:Int)<dn5:=by omega
   have hww:IntKind.i64.wrap ((i:Int)+1)=i+1:=by rw[bF];omega
   obtain⟨ta6,tn6,tc6,zs6,ba6,bn6,bc6,u6,ZK,how,qJ,WU,xs,hox⟩:=hdc.o.2.2 i (by rw[hdc.o.2.1];exact kD);obtain⟨bb,oo,rfl,yZ,fe⟩:=(Sl.jU hdc.o.1).1.elem mP aH dzz kD;rw[ZK]at fe;have f2:wr.cell? ⟨bb,oo+i*3+2,none⟩=some (.slice ba6 bn6 bc6):=fe 2 _ rfl;clear fe yZ;obtain⟨bBX,aOZ,aAT,mX,aXL⟩:=aM hox ZK how qJ WU;clear hox ZK how qJ WU;go_wp2_with (refine UE rfl (.tmp 93) 24 rfl rfl 5 (.int .u8 0) Tryz.underlying24 aQ4 rfl rfl ba6 bn6 bc6 w4.heap.size xs rfl bBX.o ?_;intro PS bM1)
   have hC:=GCl.mk bBX.o bM1;have h6n:=hC.blk h6r.o aH;have aX6:=hdc.o.cl hC;have pF:=lI.o.trans hC.below;have kY:=hC.row aAT.o aH;have aX7:∀z∈zs6,GWk w4.heap.size PS (tzd z) z.1.2.2.2.2.1:=fun z hz=>(aXL.o z hz).cl hC;clear hC bM1 f2 p1 bBX aAT aXL h6r hdc lI;obtain⟨b0W,aLY,DY,tF,aLZ⟩:=aM h6n aX6 pF kY aX7;clear h6n aX6 pF kY aX7;go_wp2_with fail
   go_loopw [15] (fun kv wq=>∃(k:Nat),k≤tn6∧kv= .int .i64 k∧Hid (jW wq g6 39 #[.int .i64 (WK x),.slice (some ⟨bb,oo,none⟩) dn5 dc5])∧Hid (WJ w4.heap.size wq (some ⟨bb,oo,none⟩) dn5 dc5 V3)∧Hid (Below w4.heap.size w4 wq)∧Hid (wq.ownsRow w4.heap.size 74 4 (.slice ta6 tn6 tc6) tn6 (fl tzc zs6))∧Hid (∀z∈zs6,GWk w4.heap.size wq (tzd z) z.1.2.2.2.2.1)) (fun kv _=>tn6 - (intOf kv).toNat)
   case atStart=>exact⟨0,by omega,rfl,b0W,aLY,DY,tF,aLZ⟩
   case round=>
    clear b0W aLY DY tF aLZ;rename World=>wq
    obtain⟨k,hk,rfl,h6r,hdc,lI,how,WU⟩:=hrel;have p1:=h6r.o.cell (i:=1) rfl;obtain⟨bb',oo',hbe,yZ,fe⟩:=(Sl.jU hdc.o.1).1.elem mP aH dzz kD;injection hbe with hbe;injection hbe with e1 e2 e3;subst e1 e2;rw[aOZ.o]at fe;have f0:wq.cell? ⟨bb,oo+i*3,none⟩=some (.slice ta6 tn6 tc6):=fe 0 _ rfl;clear fe yZ;have hkx:tn6≤9223372036854775807:=by have h:=(Sl.jU how.o).1;exact bQ h.le h.max
    by_cases hkt:k<tn6
    ·have hkn:(k:Int)<tn6:=by omega
     have hwk:IntKind.i64.wrap ((k:Int)+1)=k+1:=by rw[bF];omega
     obtain⟨bt,ot,rfl,oU,fe⟩:=(Sl.jU how.o).1.elem a95 aH yL hkt;obtain⟨xs2,bBY⟩:=WU.o (zs6.getD k yL) (by rw[jO (by rw[mX.o];exact hkt)];exact bJ _);obtain⟨zk,hzk⟩:∃z,zs6.getD k yL=z:=⟨_,rfl⟩;rw[hzk]at fe bBY;obtain⟨⟨z1,z2,z3,za6,zn6,zc6⟩,zd6⟩:=zk;have f3:wq.cell? ⟨bt,ot+k*4+3,none⟩=some (.slice za6 zn6 zc6):=fe 3 _ rfl;clear fe oU;obtain⟨bWT,b4C⟩:=aJ hzk bBY;clear hzk bBY;go_wp2_with (refine UE rfl (.tmp 115) 24 rfl rfl 5 (.int .u8 0) Tryz.underlying24 aQ4 rfl rfl za6 zn6 zc6 w4.heap.size xs2 rfl b4C.o ?_;intro w12 aOC)
     have hC:=GCl.mk b4C.o aOC;have h6n:=hC.blk h6r.o aH;have aX6:=hdc.o.cl hC;have pF:=lI.o.trans hC.below;have kY:=hC.row how.o aH;have aX7:∀z∈zs6,GWk w4.heap.size w12 (tzd z) z.1.2.2.2.2.1:=fun z hz=>(WU.o z hz).cl hC;clear hC aOC f3 f0 p1;obtain⟨b0W,aLY,DY,tF,aLZ⟩:=aM h6n aX6 pF kY aX7;clear h6n aX6 pF kY aX7;go_roundw
     case rel=>exact⟨k+1,by omega,by go_num,b0W,aLY,DY,tF,aLZ⟩
     case measure=>simp[intOf];omega
    ·obtain rfl:k=tn6:=by omega
     have ME:decide ((k:Int)<(k:Int))=false:=by simp
     go_wp2_with fail
     go_roundw
     case rel=>exact⟨i+1,by omega,by go_num,h6r,hdc,lI⟩
     case measure=>simp[intOf];omega
  ·obtain rfl:i=dn5:=by omega
   have hdi:decide ((i:Int)<(i:Int))=false:=by simp
   have q0:=(yU.o.late lI.o).cell (i:=0) rfl;have q1:=(yU.o.late lI.o).cell (i:=1) rfl;have q2:=(yU.o.late lI.o).cell (i:=2) rfl;have q3:=(yU.o.late lI.o).cell (i:=3) rfl;have q4:=(yU.o.late lI.o).cell (i:=4) rfl;have q5:=(yU.o.late lI.o).cell (i:=5) rfl;have q6:=(yU.o.late lI.o).cell (i:=6) rfl;have q7:=(yU.o.late lI.o).cell (i:=7) rfl;have s0:=(bO'.o.late lI.o).cell (i:=0) rfl;have s1:=(bO'.o.late lI.o).cell (i:=1) rfl;have s2:=(bO'.o.late lI.o).cell (i:=2) rfl;have s3:=(bO'.o.late lI.o).cell (i:=3) rfl;have s4:=(bO'.o.late lI.o).cell (i:=4) rfl;have s5:=(bO'.o.late lI.o).cell (i:=5) rfl;have s6:=(bO'.o.late lI.o).cell (i:=6) rfl;have s7:=(bO'.o.late lI.o).cell (i:=7) rfl;go_wp2_with fail
   refine(ZS'.o _ lI.o).mono ?_;rintro e SX ⟨rfl,rZ⟩;have aFC:=qB.o.trans ((lI.o.tm rZ).mono qB.o.size);clear rZ p1 q0 q1 q2 q3 q4 q5 q6 q7 s0 s1 s2 s3 s4 s5 s6 s7;have ZJ:=aA aFC;clear aFC;go_wp2_with fail
   refine(OO _).mono ?_;rintro e w9 ⟨rfl,yB⟩;have aFD:=ZJ.o.tm yB;obtain⟨tN,aFE⟩:=aJ yB aFD;clear yB aFD;go_wp2_with fail
   go_ret;exact⟨rfl,aFE.o⟩
end Go.Proofs.YtceclmpmpldmlaaGreat
namespace Tt
open Go Go.RowKit Go.ChangeShapes Go.WideShapes Go.ChangeAt
theorem cell_spot {w:World} {a:Addr} {v:Value} (h:w.cell? a=some v):a=⟨a.block,a.off,none⟩∧a.block<w.heap.size:=by
 refine⟨?_,World.block_lt_of_cell? w a h⟩;obtain⟨b,o,s⟩:=a;cases s with
 |none=>rfl
 |some x=>simp[World.cell?]at h;split at h <;> simp_all
theorem RD (a:Addr):a.add 0=a:=rfl
theorem aX8 (b o n:Nat):(⟨b,o,none⟩:Addr).add n=⟨b,o+n,none⟩:=by
 unfold Addr.add;split
 ·next h=>rw[h,bU]
 ·rfl
theorem Sl.of_cells {w:World} {x:Addr} {n c:Nat} {vs:List Value} (hn:n≤c) (hc:c≤maxLen) (hl:vs.length=c) (h:∀i v,vs[i]? =some v→w.cell? (x.add i)=some v):Sl w (some x) n c 1 (vs.take n):=by
 refine⟨by rw[dV];omega,hn,hc,fun i hi=>?_,fun he=>by cases he⟩;have h0:=h 0 _ (bI (show 0<vs.length by omega));rw[RD]at h0;obtain⟨e,kD⟩:=cell_spot h0;refine⟨x.block,x.off,by rw[←e],kD,fun j v hj=>?_⟩;have RF:vs[j]? =some v:=by
  rw[dW]at hj;split at hj
  ·exact hj
  ·cases hj
 have:=h j v RF;rw[e,aX8]at this;exact this
theorem Sl.b0X {w:World} {k:IntKind} {x:Addr} {n c:Nat} {zs:List Int} (hn:n≤c) (hc:c≤maxLen) (hl:zs.length=c) (h:∀i,i<zs.length→w.cell? (x.add i)=some (.int k (zs.getD i 0))):Sl w (some x) n c 1 (ints k (zs.take n)):=by
 have:=Sl.of_cells (vs:=ints k zs) hn hc (by rw[pY,hl]) (fun i v hv=>by
  have hi:i<zs.length:=by
   have:=(dO.1 hv).1;rwa [pY]at this
  rw[oP hi]at hv;rw[h i hi];exact hv)
 rwa [show(ints k zs).take n=ints k (zs.take n) by simp[ints,gX]]at this
theorem bBZ {zs:List Int} (h:∀n∈zs,(Lit.int .u8 n).wf=true):tV zs:=fun n hn=>by
 have:=h n hn;simp[Lit.wf,IntKind.min,IntKind.max,IntKind.signed,IntKind.bits]at this;omega
theorem TP {H:Type} {enc:TypeId×Value→H} {P:Program} {W:World} {t e:TypeId} {base:Nat} {spare:Nat→Bool} {held:Bool} {a:Option Addr} {n c fuel:Nat} {x:DataW H×List MemPlace} (ht:P.underlying t=some (.slice e)) (he:P.underlying e=some (.int .u8)) (hc:P.cellsOf e=1)
  (h:DataW.trod enc P W base spare held fuel t (Value.slice a n c).cells.toList=some x) (hs:spare=fun _=>true):∃l,Sl W a n c 1 (ints .u8 l)∧tV l:=by
 subst hs;rcases open_ints ht he hc h with ⟨PV,_⟩|⟨y,l,c',zs,PV,_,hl,hm,hz,_,aM0,hwz⟩
 ·simp[Value.cells]at PV;obtain⟨rfl,rfl,rfl⟩:=PV;exact⟨[],Sl.nil _ _,fun x hx=>by cases hx⟩
 ·simp[Value.cells]at PV;obtain⟨rfl,rfl,rfl⟩:=PV;exact⟨_,Sl.b0X hl hm (by simpa using hz) aM0,(bBZ hwz).take _⟩
section
variable {H:Type} {enc:TypeId×Value→H}
end
end Tt
namespace Go.Proofs.YtceclmpmpldmlaaGreat
open Go.ChangeShapes Go.WideShapes Go.ChangeAt Go.RowKit Go.Deep Tt
theorem bSG {α:Type} {l:List α} (h:l.length=3):∃a b c,l= [a,b,c]:=by
 match l,h with
 | [a,b,c],_=>exact⟨a,b,c,rfl⟩
theorem bSH {α:Type} {l:List α} (h:l.length=4):∃a b c d,l= [a,b,c,d]:=by
 match l,h with
 | [a,b,c,d],_=>exact⟨a,b,c,d,rfl⟩
theorem EK (f:Nat→List Value) (hf:∀i,(f i).length=4):∀n,((List.range n).flatMap f).length=n*4
 |0=>rfl
 |n+1=>by
  rw[eO,dJ,cO,EK f hf n];simp[hf];omega
theorem YC (f:Nat→List Value) (hf:∀i,(f i).length=4):∀(n i j:Nat),i<n→j<4→((List.range n).flatMap f)[i*4+j]? =(f i)[j]?
 |n+1,i,j,hi,hj=>by
  rw[eO,dJ];by_cases h:i<n
  ·rw[iD (by rw[EK f hf n];omega)];exact YC f hf n i j h hj
  ·obtain rfl:i=n:=by omega
   rw[iB (by rw[EK f hf i];omega),EK f hf i];simp
section
variable {H:Type} {enc:TypeId×Value→H} {W:World} {base:Nat} {held:Bool}
theorem aFG {fuel:Nat} {cs:List Value} {x:DataW H×List MemPlace} (h:DataW.trod enc Tryz.prog W base (fun _=>true) held fuel 72 cs=some x):
  ∃(y c:Int) (a:Option Addr) (n p:Nat) (d:List Int),cs= [.int .i64 y,.int .i64 c,.slice a n p]∧Sl W a n p 1 (ints .u8 d)∧tV d:=by
 obtain⟨y0,y1,y2,n,_,hl,h0,h1,h2⟩:=trod_struct3 Tryz.underlying72 h;rw[show Tryz.prog.cellsOf 72=3 by kernel_rfl]at hl;obtain⟨c0,c1,c2,rfl⟩:=bSG hl
 ·skip
  obtain⟨m0,e0,_,_⟩:=DataW.trod_int Tryz.underlying3 h0;obtain⟨m1,e1,_,_⟩:=DataW.trod_int Tryz.underlying3 h1;have e0':c0= .int .i64 m0:=by
   have e:([c0,c1,c2].drop 0).take (Tryz.prog.cellsOf 3)= [c0]:=by rw[show Tryz.prog.cellsOf 3=1 by kernel_rfl];rfl
   have:=e.symm.trans e0;simpa using this
  have e1':c1= .int .i64 m1:=by
   have e:([c0,c1,c2].drop 1).take (Tryz.prog.cellsOf 3)= [c1]:=by rw[show Tryz.prog.cellsOf 3=1 by kernel_rfl];rfl
   have:=e.symm.trans e1;simpa using this
  have e2:([c0,c1,c2].drop 2).take (Tryz.prog.cellsOf 24)= [c2]:=by rw[show Tryz.prog.cellsOf 24=1 by kernel_rfl];rfl
  have h2':DataW.trod enc Tryz.prog W base (fun _=>true) held n 24 [c2]=some y2:=by rw[←e2];exact h2
  obtain⟨a,l,p,hc⟩:=Go.Joins.slice_form Tryz.underlying24 h2';simp only[iT,and_true]at hc;subst hc;obtain⟨d,hs,hb⟩:=TP Tryz.underlying24 Tryz.underlying5 aF h2' rfl;exact⟨m0,m1,a,l,p,d,by rw[e0',e1'],hs,hb⟩
theorem aOW {fuel:Nat} {cs:List Value} {x:DataW H×List MemPlace} (h:DataW.trod enc Tryz.prog W base (fun _=>true) held fuel 74 cs=some x):
  ∃(t y c:Int) (a:Option Addr) (n p:Nat) (d:List Int),cs= [.int .i64 t,.int .i64 y,.int .i64 c,.slice a n p]∧(Lit.int .i64 t).wf=true∧Sl W a n p 1 (ints .u8 d)∧tV d:=by
 obtain⟨y0,y1,n,_,hl,h0,h1⟩:=trod_struct2 Tryz.underlying74 h;rw[show Tryz.prog.cellsOf 74=4 by kernel_rfl]at hl;obtain⟨c0,c1,c2,c3,rfl⟩:=bSH hl
 ·skip
  obtain⟨m0,e0,_,hw⟩:=DataW.trod_int Tryz.underlying3 h0;have e0':c0= .int .i64 m0:=by
   have e:([c0,c1,c2,c3].drop 0).take (Tryz.prog.cellsOf 3)= [c0]:=by rw[show Tryz.prog.cellsOf 3=1 by kernel_rfl];rfl
   have:=e.symm.trans e0;simpa using this
  have e1:([c0,c1,c2,c3].drop 1).take (Tryz.prog.cellsOf 72)= [c1,c2,c3]:=by rw[show Tryz.prog.cellsOf 72=3 by kernel_rfl];rfl
  have h1':DataW.trod enc Tryz.prog W base (fun _=>true) held n 72 [c1,c2,c3]=some y1:=by rw[←e1];exact h1
  obtain⟨y,c,a,l,p,d,hc,hs,hb⟩:=aFG h1';exact⟨m0,y,c,a,l,p,d,by rw[e0',hc],hw,hs,hb⟩
theorem aOX {fuel:Nat} {a:Option Addr} {n cp:Nat} {x:DataW H×List MemPlace} (h:DataW.trod enc Tryz.prog W base (fun _=>true) held fuel 22 (Value.slice a n cp).cells.toList=some x):
  ∃ts,Ts W a n cp ts∧∀x∈ts,a6A x:=by
 rcases DataW.trod_slice Tryz.underlying22 h with ⟨PV,_⟩|⟨ad,len,cap,elems,rest,m,_,PV,_,hb,hl,hm,yV,hel,_,_⟩
 ·simp[Value.cells]at PV;obtain⟨rfl,rfl,rfl⟩:=PV;exact⟨[],⟨⟨[],Sl.nil _ _,fun i hi=>by omega⟩,rfl⟩,fun x hx=>by cases hx⟩
 ·simp[Value.cells]at PV;obtain⟨rfl,rfl,rfl⟩:=PV;have ck:Tryz.prog.cellsOf 74=4:=by kernel_rfl
  rw[ck]at hel;have each:∀i,i<n→∃(t y c:Int) (a':Option Addr) (n' p':Nat) (d:List Int),(∀j v, [Value.int .i64 t,.int .i64 y,.int .i64 c,.slice a' n' p'][j]? =some v→W.cell? (ad.add (i*4+j))=some v)∧(Lit.int .i64 t).wf=true∧Sl W a' n' p' 1 (ints .u8 d)∧tV d:=fun i hi=>by
   have h1:=hel i hi;rw[bI aG]at h1;obtain⟨cs',hc,ht⟩:=Option.bind_eq_some_iff.1 h1;obtain⟨t,y,c,a',n',p',d,rfl,hw,hs,tQ⟩:=aOW ht;refine⟨t,y,c,a',n',p',d,fun j v hj=>?_,hw,hs,tQ⟩;obtain⟨_,nK,hcc⟩:=World.cells?_some hc;have hj4:j<4:=by simpa using (dO.1 hj).1
   rw[←hj,←hcc j hj4,Addr.add_add]
  have hex:∀i,∃q:Int×Int×Int×Option Addr×Nat×Nat×List Int,i<n→(∀j v, [Value.int .i64 q.1,.int .i64 q.2.1,.int .i64 q.2.2.1,.slice q.2.2.2.1 q.2.2.2.2.1 q.2.2.2.2.2.1][j]? =some v→W.cell? (ad.add (i*4+j))=some v)∧(Lit.int .i64 q.1).wf=true∧Sl W q.2.2.2.1 q.2.2.2.2.1 q.2.2.2.2.2.1 1 (ints .u8 q.2.2.2.2.2.2)∧tV q.2.2.2.2.2.2:=fun i=>by
   by_cases hi:i<n
   ·obtain⟨t,y,c,a',n',p',d,h1⟩:=each i hi;exact⟨(t,y,c,a',n',p',d),fun _=>h1⟩
   ·exact⟨(0,0,0,none,0,0, []),fun h0=>absurd h0 hi⟩
  obtain⟨q,hq⟩:=Classical.axiomOfChoice hex;refine⟨(List.range n).map fun i=>((q i).1,(q i).2.1,(q i).2.2.1,(q i).2.2.2.2.2.2),⟨⟨(List.range n).flatMap fun i=> [Value.int .i64 (q i).1,.int .i64 (q i).2.1,.int .i64 (q i).2.2.1,.slice (q i).2.2.2.1 (q i).2.2.2.2.1 (q i).2.2.2.2.2.1],?_,?_⟩,by simp⟩,?_⟩
  ·refine⟨EK _ (fun _=>rfl) n,hl,hm,fun i hi=>?_,fun he=>by cases he⟩;have h0:=(hq 0 aG).1 0 _ rfl;rw[gF,dU,RD]at h0;obtain⟨e,kD⟩:=cell_spot h0;refine⟨ad.block,ad.off,by rw[←e],kD,fun j v hj=>?_⟩;have hjn:j<n*4:=by
    have:=(dO.1 hj).1;rwa [EK _ (fun _=>rfl)]at this
   have hj2:=YC (fun i=> [Value.int .i64 (q i).1,.int .i64 (q i).2.1,.int .i64 (q i).2.2.1,.slice (q i).2.2.2.1 (q i).2.2.2.2.1 (q i).2.2.2.2.2.1]) (fun _=>rfl) n (j / 4) (j % 4) aG aG;rw[show j / 4*4+j % 4=j by omega]at hj2;have h1:=(hq (j / 4) aG).1 (j % 4) v (hj2.symm.trans hj);rw[show j / 4*4+j % 4=j by omega]at h1;rw[e,aX8]at h1;exact h1
  ·intro i hi;have g:=fun j hj=>YC (fun i=> [Value.int .i64 (q i).1,.int .i64 (q i).2.1,.int .i64 (q i).2.2.1,.slice (q i).2.2.2.1 (q i).2.2.2.2.1 (q i).2.2.2.2.2.1]) (fun _=>rfl) n i j hi hj;have a0H:((List.range n).map fun i=>((q i).1,(q i).2.1,(q i).2.2.1,(q i).2.2.2.2.2.2)).getD i (0,0,0, [])=((q i).1,(q i).2.1,(q i).2.2.1,(q i).2.2.2.2.2.2):=by
    rw[bH,iJ,List.getElem?_range hi];rfl
   rw[a0H];exact⟨(q i).2.2.2.1,(q i).2.2.2.2.1,(q i).2.2.2.2.2.1,by simpa using g 0 aG,by simpa using g 1 aG,by simpa using g 2 aG,by simpa using g 3 aG,(hq i hi).2.2.1⟩
  ·intro x hx;obtain⟨i,hi,rfl⟩:=dG.1 hx;have h1:=hq i (by simpa using hi);exact⟨h1.2.1,h1.2.2.2⟩
end
