import Derived.Test.YtceclmpmpldmlaaGreatCz40
import Derived.Test.YtceclmpmpldmlaaGreatCz41
set_option linter.unusedSimpArgs false
set_option linter.unusedVariables false
set_option maxRecDepth 100000
set_option maxHeartbeats 8000000
namespace Go.Proofs.YtceclmpmpldmlaaGreat
open Go.RowKit Tt
def aw1:oN:=⟨2, [(274,3,1, [0,1])], [], [], [], [], [], []⟩
def aw2:oN:=⟨1, [], [], [], [], [], [1,2,3], []⟩
def aw3:oN:=⟨1, [], [], [], [], [], [], [1]⟩
def aw4:oN:=⟨3, [(274,3,1, [0,1])], [], [], [], [], [], []⟩
def aw5:oN:=⟨1, [(34665,3,1, [0,1])], [], [], [], [], [], []⟩
abbrev awB:List Int:= [77,77,0,42,0,0,0,8,0,1,1,18,0,3,0,0,0,1,0,1,0,0,0,0,0,0]
theorem bIV:aB2 aw1=0:=by decide+kernel
theorem bIW:IY aw1=awB:=by decide+kernel
theorem bIX:kY aw2=0:=by decide+kernel
theorem bIY:kY aw3=6:=by decide+kernel
theorem bIZ:kY aw4=1:=by decide+kernel
theorem bJ0:kY aw5=6:=by decide+kernel
theorem a7R {P:nC→Prop} {t:nC} (h:P t):∀u∈ [t],P u:=fun u hu=>by rw[dD.1 hu];exact h
theorem oF {P:nC→Prop}:∀u∈([]:List nC),P u:=fun u hu=>by cases hu
theorem aIY:mW []:=fun x hx=>by cases hx
theorem aIZ:mW [0,1]:=fun x hx=>by simp at hx;omega
theorem b9Z (o:Int) (t:nC):tJ ⟨o, [t], [], [], [], [], [], []⟩:=⟨by show 1≤400;decide,by show 0≤400;decide,by show 0≤400;decide,by show 0≤400;decide,by show 0≤400;decide,by show 0≤100000;decide,by show 0≤100000;decide⟩
theorem aGN (o:Int) (t:nC) (h:a1P t):WfE ⟨o, [t], [], [], [], [], [], []⟩:=⟨a7R h,oF,oF,oF,oF⟩
theorem a15 {w:World} {o:Int} {a:Option Addr} {c:Nat} {t:nC} (h:qB w a 1 c [t]):ExR w ⟨o, [t], [], [], [], [], [], []⟩ ⟨a,1,c,none,0,0,none,0,0,none,0,0,none,0,0,none,0,0,none,0,0⟩:=
 ⟨h,qB.nil w,qB.nil w,qB.nil w,qB.nil w,Sl.nil _ _,Sl.nil _ _⟩
theorem aZI {B:Nat} {w:World} {da:Option Addr} {dn dc:Nat} (h:xW B w 16 (.slice da dn dc) (kU aw2)):
  ∃(b off b2 o2 sc:Nat) (b3 o3 tc:Nat) (u2 u3:Value),dn=1∧da=some ⟨b,off,none⟩∧b<w.heap.size∧w.cell? ⟨b,off+1,none⟩=some (.slice (some ⟨b2,o2,none⟩) 1 sc)∧
   b2<w.heap.size∧w.cell? ⟨b2,o2,none⟩=some (.int .i64 34665)∧w.cell? ⟨b2,o2+1,none⟩=some (.slice (some ⟨b3,o3,none⟩) 1 tc)∧w.cell? ⟨b2,o2+2,none⟩=some u2∧w.cell? ⟨b2,o2+3,none⟩=some u3∧
   b3<w.heap.size∧w.cell? ⟨b3,o3,none⟩=some (.int .i64 37500)∧(∃sa2 sn2 sc2,u2= .slice sa2 sn2 sc2)∧∃sa3 sn3 sc3,u3= .slice sa3 sn3 sc3:=by
 have e1:kU aw2= [qP aw2]:=by unfold kU;rw[if_neg (by decide)]
 have e2:(qP aw2).2.1= [(34665,rD aw2)]:=by rfl
 have e3:(rD aw2).1= [(37500,7,3, [1,2,3])]:=by decide+kernel
 rw[e1]at h;obtain⟨tF,hl,hs,hd⟩:=h.rd;have hl:tF.length=1:=hl;have hdn:dn=1:=by have:=hs.uY qA (by decide);omega
 subst hdn;obtain⟨b,off,rfl,hb,fe⟩:=hs.elem qA (by decide) dzz (show 0<1 by decide);rw[jI (by omega)]at fe;have hD:zS w 16 (qP aw2) tF[0]:=hd 0 (by omega) (by show 0<1;decide);generalize tF[0]=v at*;obtain⟨ta,tn,tc,zs,sa,sn,sc,ds,ba,bn,bc,rfl,WV,hdt,hsl,hdl,hsub,hbl⟩:=hD;have f1:=fe 1 _ rfl;simp only[fJ,cK]at f1;have hdl:ds.length=1:=by rw[hdl,e2];rfl
 have hsn:sn=1:=by have:=hsl.uY oO (by decide);omega
 subst hsn;obtain⟨b2,o2,rfl,hb2,ge⟩:=hsl.elem oO (by decide) (0,dzz) (show 0<1 by decide);rw[jI (by omega)]at ge;have hs0:=hsub 0 (by omega) (by rw[e2];show 0<1;decide);have e4:(qP aw2).2.1[0]'(by rw[e2];show 0<1;decide)=(34665,rD aw2):=by simp[e2]
 rw[e4]at hs0;obtain⟨hs1,hs2⟩:=hs0;generalize ds[0]=dd at*;obtain⟨t,dv⟩:=dd;simp only at hs1 hs2;subst hs1;obtain⟨ta2,tn2,tc2,zs2,sa2,sn2,sc2,ds2,ba2,bn2,bc2,rfl,aRC,bA0,hsl2,_,_,VX⟩:=hs2;rw[e3]at bA0;have hzl:zs2.length=1:=by have:=congrArg List.length bA0;simpa using this.symm
 have htn:tn2=1:=by have:=aRC.len;omega
 subst htn;obtain⟨b3,o3,rfl,hb3,c0,c1,c2,c3,_⟩:=aRC.at (k:=0) (by decide);have hk:(zs2.getD 0 D5).1.1=37500:=by
  rw[jI (by omega)];have h9:(zs2.map mE)[0]'(by rw[bX];omega)=(37500,7,3, [1,2,3]):=by simp only[←bA0];rfl
  rw[fD]at h9;have:=congrArg Prod.fst h9;exact this
 rw[hk,fJ,cK]at c0;have g0:=ge 0 _ rfl;have g1:=ge 1 _ rfl;have g2:=ge 2 _ rfl;have g3:=ge 3 _ rfl;simp only[fJ,cK]at g0 g1 g2 g3;exact⟨b,off,b2,o2,sc,b3,o3,tc2,_,_,rfl,rfl,hb,f1,hb2,g0,g1,g2,g3,hb3,c0,⟨_,_,_,rfl⟩,_,_,_,rfl⟩
theorem LC (w:World):Calls Tryz.prog 19 #[] w fun e w'=>e= .returned (.bool true)∧Below w.heap.size w w':=by
 have hS1:=fun W=>VB 274 1 (by decide) (by decide+kernel) W;have hS2:=fun W=>VB 34665 1 (by decide) (by decide+kernel) W;rw[show kL 1 2 2= [0,1] by decide+kernel]at hS1 hS2;obtain⟨bJ1,bQ7⟩:=aF hS1 hS2;clear hS1 hS2;go_enter Tryz.func19,Tryz.ntmps19;go_wp2_with fail
 refine(bJ1.o _).mono ?_;rintro e w1 ⟨a1,c1,rfl,hr1,hb1⟩;have hW1:=RS aw1 ⟨a1,1,c1,none,0,0,none,0,0,none,0,0,none,0,0,none,0,0,none,0,0⟩ w1 (a15 hr1) (b9Z _ _) ⟨a7R (by show 2≤1000000;decide),oF,oF,oF,oF⟩ (aGN _ _ ⟨by decide,aIZ⟩) ⟨a7R aIZ,oF,oF,oF,oF,aIY,aIY⟩;rw[bIV,bIW]at hW1;simp only[exV,OI,aw1]at hW1;obtain⟨hr1',hb1',hW1'⟩:=aG hr1 hb1 hW1;clear hr1 hb1 hW1;go_wp2_with fail
 refine hW1'.o.mono ?_;rintro e w2 ⟨a2,m2,c2,rfl,ho2,hb2⟩;have RA:=hb1'.o.tm hb2;obtain⟨ED,hb2',rW⟩:=aG ho2 hb2 RA;clear ho2 hb2 RA;have hal:=aD w2 (.cells #[.int .u8 1,.int .u8 2,.int .u8 3] 5);have hsl:Sl (w2.alloc (.cells #[.int .u8 1,.int .u8 2,.int .u8 3] 5)) (some ⟨w2.heap.size,0,none⟩) 3 3 1 (ints .u8 [1,2,3]):=Sl.new w2 5 1 3 #[.int .u8 1,.int .u8 2,.int .u8 3] (0,0) (by omega) rfl;have hT:=a3J aw2 ⟨none,0,0,none,0,0,none,0,0,none,0,0,none,0,0,some ⟨w2.heap.size,0,none⟩,3,3,none,0,0⟩ _ ⟨qB.nil _,qB.nil _,qB.nil _,qB.nil _,qB.nil _,hsl,Sl.nil _ _⟩ ⟨by decide,by decide,by decide,by decide,by decide,by decide,by decide⟩ ⟨oF,oF,oF,oF,oF⟩ ⟨oF,oF,oF,oF,oF⟩;simp only[bIX,if_true]at hT;simp only[exV,OI]at hT;rw[show aw2.o=1 from rfl]at hT;have EF:=rW.o.tm hal;obtain⟨oM,uE,hT',vZ⟩:=aH hal hsl hT EF;clear hal hsl hT EF;go_wp2_with fail
 refine hT'.o.mono ?_;rintro e w4 ⟨oo,da,dn,dc,rfl,hb4,rfl,hdn,hDO⟩;obtain⟨b,off,b2,o2,sc,b3,o3,tc,u2,u3,rfl,rfl,hlt1,f1,hlt2,g0,g1,g2,g3,hlt3,c0,⟨sa2,sn2,sc2,rfl⟩,sa3,sn3,sc3,rfl⟩:=aZI hDO;have JJ:=vZ.o.tm hb4;have SF:=(Sl.jX ED.o).1.mono (oM.o.tm hb4);have hm2:awB.length=m2:=SF.nV;have hX1:=aD w4 (.cells #[.int .i64 1,.slice (some ⟨b,off,none⟩) 1 dc] 39);have hX2:=hX1.alloc hX1.size (.cells #[.int .i64 34665,.slice (some ⟨b3,o3,none⟩) 1 tc,.slice sa2 sn2 sc2,.slice sa3 sn3 sc3] 28);have hX3:=hX2.alloc hX2.size (.cells (ints .u8 awB).toArray 5);obtain⟨X2,hx2⟩:∃X,(w4.alloc (.cells #[.int .i64 1,.slice (some ⟨b,off,none⟩) 1 dc] 39)).alloc (.cells #[.int .i64 34665,.slice (some ⟨b3,o3,none⟩) 1 tc,.slice sa2 sn2 sc2,.slice sa3 sn3 sc3] 28)=X:=⟨_,rfl⟩;have bSb:jJ X2 (w4.heap.size+1) 28 #[.int .i64 34665,.slice (some ⟨b3,o3,none⟩) 1 tc,.slice sa2 sn2 sc2,.slice sa3 sn3 sc3]:=by rw[←hx2];exact sW _ _ (by simp)
 rw[hx2]at hX2 hX3;have hnb:=Sl.new X2 5 1 26 (ints .u8 awB).toArray (0,0) (by omega) rfl;have hSm:=aBP a2 (some ⟨X2.heap.size,0,none⟩) m2 26 c2 26 awB awB _ (SF.mono hX3) hnb;rw[show(awB==awB)=true by decide]at hSm;have c3:(X2.alloc (.cells (ints .u8 awB).toArray 5)).cell? ⟨b3,o3,none⟩=some (.int .i64 37500):=late hX3 hlt3 c0;have hSz:X2.heap.size=w4.heap.size+2:=by rw[←hx2];simp
 obtain⟨X3,hx3⟩:∃X,X2.alloc (.cells (ints .u8 awB).toArray 5)=X:=⟨_,rfl⟩;have bA1:=bSb.late (aD X2 (.cells (ints .u8 awB).toArray 5));rw[hx3]at hSm c3 hX3 bA1;obtain⟨tC,zT,aY4,oP,a4G,VN,bVL,bVM,bJ2,VU,hnb',aFL⟩:=aP hb4 hdn hDO JJ SF hm2 hX1 hX2 hX3 hx2 hnb hSm;obtain⟨bVN,bFK,a1I,aJ0,c3'⟩:=aI bSb hSz hx3 bA1 c3;clear hb4 hdn hDO JJ SF hm2 hX1 hX2 hX3 hx2 hnb hSm bSb hSz hx3 bA1 c3;have bJ3:X2.alloc (.cells #[.int .u8 77,.int .u8 77,.int .u8 0,.int .u8 42,.int .u8 0,.int .u8 0,.int .u8 0,.int .u8 8,.int .u8 0,.int .u8 1,.int .u8 1,.int .u8 18,.int .u8 0,.int .u8 3,.int .u8 0,.int .u8 0,.int .u8 0,.int .u8 1,.int .u8 0,.int .u8 1,.int .u8 0,.int .u8 0,.int .u8 0,.int .u8 0,.int .u8 0,.int .u8 0] 5)=X3:=a1I.o;have bJ4:=aA bJ3;clear bJ3;go_upto_region 6 with fail
 rw[VU.o];clear f1 g0 g1 g2 g3 c0;have c3:=c3'.o;have s0:X3.cell? ⟨w4.heap.size+1,0,none⟩=some (.int .i64 34665):=aJ0.o.cell rfl;have s1:X3.cell? ⟨w4.heap.size+1,1,none⟩=some (.slice (some ⟨b3,o3,none⟩) 1 tc):=aJ0.o.cell rfl;have AR:=oP.o.tm bJ2.o;have BS:=aA AR;clear AR;go_wp2_with fail
 rw[bJ4.o];refine aFL.o.mono ?_;rintro e w5 ⟨rfl,hb5⟩;have c5:=late hb5 (cO hlt3 bJ2.o.size) c3;have t0:=late hb5 aJ0.o.lt s0;have t1:=late hb5 aJ0.o.lt s1;have AR:=BS.o.tm hb5;clear c3 s0 s1;obtain⟨EW,BS⟩:=aF hb5 AR;clear hb5 AR;go_wp2_with fail
 refine(DW _).mono ?_;rintro e w6 ⟨a6,zs6,rfl,_,_,hb6⟩;have O1:=BS.o.tm hb6;have EJ:=O1.alloc O1.size (.cells #[.int .u8 1] 5);have hK3:=uJ aw3 ⟨none,0,0,none,0,0,none,0,0,none,0,0,none,0,0,none,0,0,some ⟨w6.heap.size,0,none⟩,1,1⟩ (w6.alloc (.cells #[.int .u8 1] 5)) ⟨qB.nil _,qB.nil _,qB.nil _,qB.nil _,qB.nil _,Sl.nil _ _,Sl.new w6 5 1 1 #[.int .u8 1] (0,0) (by omega) rfl⟩ ⟨oF,oF,oF,oF,oF⟩;rw[bIY]at hK3;simp only[exV,OI]at hK3;rw[show aw3.o=1 from rfl]at hK3;clear c5 t0 t1;obtain⟨G7,xU,aB8,b5B⟩:=aH hb6 O1 EJ hK3;clear hb6 O1 EJ hK3;go_wp2_with fail
 refine b5B.o.mono ?_;rintro e w7 ⟨rfl,rP⟩;have aUY:=aB8.o.tm rP;obtain⟨sS,aCV⟩:=aF rP aUY;clear rP aUY;go_wp2_with fail
 refine(bJ1.o _).mono ?_;rintro e w8 ⟨a8,c8,rfl,hr8,oV⟩;have a03:=aCV.o.tm oV;have hK4:=uJ aw4 ⟨a8,1,c8,none,0,0,none,0,0,none,0,0,none,0,0,none,0,0,none,0,0⟩ w8 (a15 hr8) (aGN _ _ ⟨by decide,aIZ⟩);rw[bIZ]at hK4;simp only[exV,OI]at hK4;rw[show aw4.o=3 from rfl]at hK4;obtain⟨bVO,T9,KM,bQ8⟩:=aH hr8 oV a03 hK4;clear hr8 oV a03 hK4;go_wp2_with fail
 refine bQ8.o.mono ?_;rintro e w9 ⟨rfl,rO⟩;have aRE:=KM.o.tm rO;obtain⟨nZ,FK⟩:=aF rO aRE;clear rO aRE;go_wp2_with fail
 refine(bQ7.o _).mono ?_;rintro e w10 ⟨a10,c10,rfl,aL1,aFO⟩;have b3J:=FK.o.tm aFO;have hK5:=uJ aw5 ⟨a10,1,c10,none,0,0,none,0,0,none,0,0,none,0,0,none,0,0,none,0,0⟩ w10 (a15 aL1) (aGN _ _ ⟨by decide,aIZ⟩);rw[bJ0]at hK5;simp only[exV,OI]at hK5;rw[show aw5.o=1 from rfl]at hK5;obtain⟨bT5,bEW,aUZ,bQ9⟩:=aH aL1 aFO b3J hK5;clear aL1 aFO b3J hK5;go_wp2_with fail
 refine bQ9.o.mono ?_;rintro e w11 ⟨rfl,aBA⟩;have b3K:=aUZ.o.tm aBA;obtain⟨bF0,bAA⟩:=aF aBA b3K;clear aBA b3K;go_wp2_with fail
 go_ret;exact⟨rfl,bAA.o⟩
theorem LD {w:World} {g:Nat} {c0 c1 c2 c3 c4 c5 c6 c7:Value} (h:jJ w g 61 #[c0,c1,c2,c3,c4,c5,c6,c7]):
  w.cell? ⟨g,0,none⟩=some c0∧w.cell? ⟨g,1,none⟩=some c1∧w.cell? ⟨g,2,none⟩=some c2∧w.cell? ⟨g,3,none⟩=some c3∧w.cell? ⟨g,4,none⟩=some c4∧w.cell? ⟨g,5,none⟩=some c5∧w.cell? ⟨g,6,none⟩=some c6∧w.cell? ⟨g,7,none⟩=some c7:=
 ⟨h.cell rfl,h.cell rfl,h.cell rfl,h.cell rfl,h.cell rfl,h.cell rfl,h.cell rfl,h.cell rfl⟩
theorem aCW (hD:aC3) (a:Option Addr) (n c:Nat) (z:List Int) (w:World) (hs:Sl w a n c 1 (ints .u8 z)) (hb:mW z):
  Calls Tryz.prog 6 #[.slice a n c] w fun e w'=>e= .returned (.bool true)∧Below w.heap.size w w':=by
 have hzl:=hs.nV;have a7S:=aW w.heap.size w;by_cases h2:2000<n
 ·have hs':=aA hs;obtain⟨hb',mV⟩:=aF hb hzl;clear hs hb hzl;go_enter Tryz.func6,Tryz.ntmps6;have VK:=aA a7S;clear a7S;go_wp2_with fail
  refine(LC _).mono ?_;rintro e w9 ⟨rfl,rO⟩;have aCX:=VK.o.tm rO;obtain⟨nZ,aCY⟩:=aF rO aCX;clear rO aCX;go_wp2_with fail
  go_ret;exact⟨rfl,aCY.o⟩
 have hRd:=VI hD a n c z w hs hb (by omega) (fun ds s e=>by
  have h:=a7H hb (by omega) e;exact⟨h.SI,h.sml,h.flt,by have:=h.len;omega⟩)
 obtain⟨x,hx⟩:=aC (E5 z);obtain⟨rc,hrc⟩:∃r,FQ z=r:=⟨_,rfl⟩;rw[hx,hrc]at hRd;clear a7S;obtain⟨hs',hb',mV,bQA,hx',aCZ⟩:=aJ hs hb hzl hRd hx hrc;clear hs hb hzl hRd hx hrc;go_enter Tryz.func6,Tryz.ntmps6;go_wp2_with fail
 refine bQA.o.mono ?_;rintro e w1 ⟨⟨z1,z2,z3,p1,p2,p3,g1,g2,g3,i1,i2,i3,f1,f2,f3,m1,m2,m3,t1,t2,t3⟩,rfl,hO,hb1⟩;simp only[exV,OI];have b3:=jJ.new w1 61 #[.int .i64 x.o,.slice z1 z2 z3,.slice p1 p2 p3,.slice g1 g2 g3,.slice i1 i2 i3,.slice f1 f2 f3,.slice m1 m2 m3,.slice t1 t2 t3];have hal:=aD w1 (.cells #[.int .i64 x.o,.slice z1 z2 z3,.slice p1 p2 p3,.slice g1 g2 g3,.slice i1 i2 i3,.slice f1 f2 f3,.slice m1 m2 m3,.slice t1 t2 t3] 61);obtain⟨w2,hw2⟩:∃X,w1.alloc (.cells #[.int .i64 x.o,.slice z1 z2 z3,.slice p1 p2 p3,.slice g1 g2 g3,.slice i1 i2 i3,.slice f1 f2 f3,.slice m1 m2 m3,.slice t1 t2 t3] 61)=X:=⟨_,rfl⟩;rw[hw2]at b3 hal;obtain⟨g9,hg9⟩:∃g,w1.heap.size=g:=⟨_,rfl⟩;rw[hg9]at b3;have hR2:=hO.rd.mono hal;have RA:=hb1.tm hal;obtain⟨q0,q1,q2,q3,q4,q5,q6,q7⟩:=LD b3;clear hO hal hb1;obtain⟨b3',aQP,bQB,uZ,rW⟩:=aI b3 hw2 hg9 hR2 RA;clear b3 hw2 hg9 hR2 RA;go_upto_region 4 with fail
 try rw[bQB.o]
 try rw[aQP.o]
 by_cases h0:rc=0
 ·subst h0;obtain⟨kc,ks,kd2,kw,kb,kd⟩:=b8Q hb'.o (by have:=mV.o;omega) aCZ.o;rw[hx'.o]at kc ks kd2 kw kb kd;have hB:=bG4 kc ks kb kd2;obtain⟨ts1,ts2⟩:=zA kc ks;have ts3:=BI kb;have hwc:aB2 x=0:=by rw[aYD ks,kc]
  have XW:=fun W A h=>RS x A W h ks kd kw kb;rw[hwc]at XW;have XC:=fun W A h=>uJ x A W h kw;rw[kc]at XC;have XS:=fun W A B h1 h2=>VJ x x A B W h1 h2 kb kb;rw[show E8 x x=true from a3P.2 rfl]at XS;have XR:=fun a5 m5 c5 W (h:Sl W a5 m5 c5 1 (ints .u8 (IY x)))=>VI hD a5 m5 c5 (IY x) W h hB.SI (by have:=hB.len;have:=h.nV;omega) (fun ds s e=>by
   rw[hB.rdS]at e;injection e with e;injection e with e1 e2;subst e1;have hl2:(kU x).length≤2:=by unfold kU;split <;> simp
   exact⟨ts3,ts1,by omega,by omega⟩)
  rw[hB.rd,hB.rdE]at XR;obtain⟨zz,hzz⟩:=aC (IY x);rw[hzz]at XW XR;have W1:=XW w2 ⟨z1,z2,z3,p1,p2,p3,g1,g2,g3,i1,i2,i3,f1,f2,f3,m1,m2,m3,t1,t2,t3⟩ uZ.o;simp only[exV,OI]at W1;clear hwc hB ts1 ts2 ts3 kc ks kd2 kw kb kd;obtain⟨XW',XC',XS',XR',bJ5,W1'⟩:=aJ XW XC XS XR hzz W1;clear XW XC XS XR hzz W1;go_wp2_with fail
  refine W1'.o.mono ?_;rintro e w3 ⟨a5,m5,c5,rfl,a1W,hb3⟩;have s5:=(Sl.jX a1W).1;have EF:=rW.o.tm hb3;have b33:=b3'.o.late hb3;have hR3:=uZ.o.mono hb3;have R1:=XR'.o a5 m5 c5 w3 s5;clear a1W hb3 q0 q1 q2 q3 q4 q5 q6 q7;obtain⟨s5',vZ,bQC,OO,R1'⟩:=aI s5 EF b33 hR3 R1;clear s5 EF b33 hR3 R1;go_wp2_with fail
  refine R1'.o.mono ?_;rintro e w4 ⟨⟨Z1,Z2,Z3,P1,P2,P3,G1,G2,G3,I1,I2,I3,F1,F2,F3,M1,M2,M3,T1,T2,T3⟩,rfl,hO,hb4⟩;simp only[exV,OI];have b7:=jJ.new w4 61 #[.int .i64 x.o,.slice Z1 Z2 Z3,.slice P1 P2 P3,.slice G1 G2 G3,.slice I1 I2 I3,.slice F1 F2 F3,.slice M1 M2 M3,.slice T1 T2 T3];have hal:=aD w4 (.cells #[.int .i64 x.o,.slice Z1 Z2 Z3,.slice P1 P2 P3,.slice G1 G2 G3,.slice I1 I2 I3,.slice F1 F2 F3,.slice M1 M2 M3,.slice T1 T2 T3] 61);obtain⟨w5,hw5⟩:∃X,w4.alloc (.cells #[.int .i64 x.o,.slice Z1 Z2 Z3,.slice P1 P2 P3,.slice G1 G2 G3,.slice I1 I2 I3,.slice F1 F2 F3,.slice M1 M2 M3,.slice T1 T2 T3] 61)=X:=⟨_,rfl⟩;rw[hw5]at b7 hal;obtain⟨g7,hg7⟩:∃g,w4.heap.size=g:=⟨_,rfl⟩;rw[hg7]at b7;have RU:=hb4.tm hal;have hR5:=hO.rd.mono hal;have hX5:=OO.o.mono RU;have s55:=s5'.o.mono RU;have AR:=vZ.o.tm RU;have b35:=bQC.o.late RU;obtain⟨r0,r1,r2,r3,r4,r5,r6,r7⟩:=LD b7;have W2:=XW'.o w5 ⟨Z1,Z2,Z3,P1,P2,P3,G1,G2,G3,I1,I2,I3,F1,F2,F3,M1,M2,M3,T1,T2,T3⟩ hR5;simp only[exV,OI]at W2;clear hO hal RU hb4;obtain⟨uW,bQD,bQE,aGO,bQF,bQG,BS,bQH,W2'⟩:=aM b7 hw5 hg7 hR5 hX5 s55 AR b35 W2;clear b7 hw5 hg7 hR5 hX5 s55 AR b35 W2;go_upto_region 8 with fail
  try rw[bQE.o]
  try rw[bQD.o]
  go_wp2_with fail
  refine W2'.o.mono ?_;rintro e w6 ⟨a9,m9,c9,rfl,bJ6,hb6⟩;have s9:=(Sl.jX bJ6).1;have s56:=bQG.o.mono hb6;have hR6:=aGO.o.mono hb6;have hX6:=bQF.o.mono hb6;have O1:=BS.o.tm hb6;have b36:=bQH.o.late hb6;have b76:=uW.o.late hb6;have C1:=XC'.o w6 ⟨z1,z2,z3,p1,p2,p3,g1,g2,g3,i1,i2,i3,f1,f2,f3,m1,m2,m3,t1,t2,t3⟩ hX6;simp only[exV,OI]at C1;clear bJ6 hb6 r0 r1 r2 r3 r4 r5 r6 r7;obtain⟨q0,q1,q2,q3,q4,q5,q6,q7⟩:=LD b36;obtain⟨s9',bQI,a6O,bQJ,xU,bQK,bQL,C1'⟩:=aL s9 s56 hR6 hX6 O1 b36 b76 C1;clear s9 s56 hR6 hX6 O1 b36 b76 C1;go_wp2_with fail
  refine C1'.o.mono ?_;rintro e w7 ⟨rfl,rP⟩;have S1:=XS'.o w7 ⟨z1,z2,z3,p1,p2,p3,g1,g2,g3,i1,i2,i3,f1,f2,f3,m1,m2,m3,t1,t2,t3⟩ ⟨Z1,Z2,Z3,P1,P2,P3,G1,G2,G3,I1,I2,I3,F1,F2,F3,M1,M2,M3,T1,T2,T3⟩ (bQJ.o.mono rP) (a6O.o.mono rP);simp only[exV,OI]at S1;have s97:=s9'.o.mono rP;have s57:=bQI.o.mono rP;have aUY:=xU.o.tm rP;have b37:=bQK.o.late rP;have b77:=bQL.o.late rP;clear rP q0 q1 q2 q3 q4 q5 q6 q7;obtain⟨q0,q1,q2,q3,q4,q5,q6,q7⟩:=LD b37;obtain⟨r0,r1,r2,r3,r4,r5,r6,r7⟩:=LD b77;obtain⟨S1',bQM,bQN,aCV,bFG,bVP⟩:=aJ S1 s97 s57 aUY b37 b77;clear S1 s97 s57 aUY b37 b77;go_wp2_with fail
  refine S1'.o.mono ?_;rintro e w8 ⟨rfl,oV⟩;have B1:=aBP a5 a9 m5 m9 c5 c9 zz zz w8 (bQN.o.mono oV) (bQM.o.mono oV);rw[beq_self_eq_true]at B1;have a03:=aCV.o.tm oV;clear oV q0 q1 q2 q3 q4 q5 q6 q7 r0 r1 r2 r3 r4 r5 r6 r7;obtain⟨B1',KM⟩:=aF B1 a03;clear B1 a03;go_wp2_with fail
  refine B1'.o.mono ?_;rintro e w9 ⟨rfl,rO⟩;have a7S:=KM.o.tm rO;clear rO;have VK:=aA a7S;clear a7S;go_wp2_with fail
  refine(LC _).mono ?_;rintro e w9 ⟨rfl,rO⟩;have aCX:=VK.o.tm rO;obtain⟨nZ,aCY⟩:=aF rO aCX;clear rO aCX;go_wp2_with fail
  go_ret;exact⟨rfl,aCY.o⟩
 ·have n1:(rc != 0)=true:=by simpa using h0
  obtain rfl:x=exZ:=by rw[←hx'.o];exact aGH (by rw[aCZ.o];exact h0)
  have hZ:a1Q exZ:=⟨(fun t h=>by cases h),(fun t h=>by cases h),(fun t h=>by cases h),(fun t h=>by cases h),(fun t h=>by cases h),(fun t h=>by cases h),(fun t h=>by cases h)⟩;have S1:=VJ exZ exZ ⟨z1,z2,z3,p1,p2,p3,g1,g2,g3,i1,i2,i3,f1,f2,f3,m1,m2,m3,t1,t2,t3⟩ a6L w2 uZ.o (ExR.zero w2) hZ hZ;rw[show E8 exZ exZ=true from a3P.2 rfl]at S1;have e0:exZ.o=0:=rfl;simp only[exV,OI,e0]at S1 q0 ⊢;clear h0 hZ;obtain⟨S1',e0'⟩:=aF S1 e0;clear S1 e0;go_wp2_with fail
  refine S1'.o.mono ?_;rintro e w3 ⟨rfl,hb3⟩;have a7S:=rW.o.tm hb3;clear hb3 q0 q1 q2 q3 q4 q5 q6 q7;have VK:=aA a7S;clear a7S;go_wp2_with fail
  refine(LC _).mono ?_;rintro e w9 ⟨rfl,rO⟩;have aCX:=VK.o.tm rO;obtain⟨nZ,aCY⟩:=aF rO aCX;clear rO aCX;go_wp2_with fail
  go_ret;exact⟨rfl,aCY.o⟩
