import Derived.Test.YtceclmpmpldmlaaGreatCw38
set_option linter.unusedSimpArgs false
set_option linter.unusedVariables false
set_option maxRecDepth 100000
set_option maxHeartbeats 8000000
namespace Go.Proofs.YtceclmpmpldmlaaGreat
open Go.RowKit Tt
def aw1:pX:=⟨2, [(274,3,1, [0,1])], [], [], [], [], [], []⟩
def aw2:pX:=⟨1, [], [], [], [], [], [1,2,3], []⟩
def aw3:pX:=⟨1, [], [], [], [], [], [], [1]⟩
def aw4:pX:=⟨3, [(274,3,1, [0,1])], [], [], [], [], [], []⟩
def aw5:pX:=⟨1, [(34665,3,1, [0,1])], [], [], [], [], [], []⟩
abbrev awB:List Int:= [77,77,0,42,0,0,0,8,0,1,1,18,0,3,0,0,0,1,0,1,0,0,0,0,0,0]
theorem bQ3:aJW aw1=0:=by decide+kernel
theorem bQ4:FB aw1=awB:=by decide+kernel
theorem bQ5:lU aw2=0:=by decide+kernel
theorem bQ6:lU aw3=6:=by decide+kernel
theorem bQ7:lU aw4=1:=by decide+kernel
theorem bQ8:lU aw5=6:=by decide+kernel
theorem aD0 {P:oZ→Prop} {t:oZ} (h:P t):∀u∈ [t],P u:=fun u hu=>by rw[dK.1 hu];exact h
theorem qI {P:oZ→Prop}:∀u∈([]:List oZ),P u:=fun u hu=>by cases hu
theorem aOD:pF []:=fun x hx=>by cases hx
theorem aOE:pF [0,1]:=fun x hx=>by simp at hx;omega
theorem bHF (o:Int) (t:oZ):vJ ⟨o, [t], [], [], [], [], [], []⟩:=⟨by show 1≤400;decide,by show 0≤400;decide,by show 0≤400;decide,by show 0≤400;decide,by show 0≤400;decide,by show 0≤100000;decide,by show 0≤100000;decide⟩
theorem aLT (o:Int) (t:oZ) (h:a1R t):WfE ⟨o, [t], [], [], [], [], [], []⟩:=⟨aD0 h,qI,qI,qI,qI⟩
theorem a7O {w:World} {o:Int} {a:Option Addr} {c:Nat} {t:oZ} (h:tL w a 1 c [t]):ExR w ⟨o, [t], [], [], [], [], [], []⟩ ⟨a,1,c,none,0,0,none,0,0,none,0,0,none,0,0,none,0,0,none,0,0⟩:=
 ⟨h,tL.nil w,tL.nil w,tL.nil w,tL.nil w,Sl.nil _ _,Sl.nil _ _⟩
theorem b6F {B:Nat} {w:World} {da:Option Addr} {dn dc:Nat} (h:AL B w 16 (.slice da dn dc) (lS aw2)):
  ∃(b off b2 o2 sc:Nat) (b3 o3 tc:Nat) (u2 u3:Value),dn=1∧da=some ⟨b,off,none⟩∧b<w.heap.size∧w.cell? ⟨b,off+1,none⟩=some (.slice (some ⟨b2,o2,none⟩) 1 sc)∧
   b2<w.heap.size∧w.cell? ⟨b2,o2,none⟩=some (.int .i64 34665)∧w.cell? ⟨b2,o2+1,none⟩=some (.slice (some ⟨b3,o3,none⟩) 1 tc)∧w.cell? ⟨b2,o2+2,none⟩=some u2∧w.cell? ⟨b2,o2+3,none⟩=some u3∧
   b3<w.heap.size∧w.cell? ⟨b3,o3,none⟩=some (.int .i64 37500)∧(∃sa2 sn2 sc2,u2= .slice sa2 sn2 sc2)∧∃sa3 sn3 sc3,u3= .slice sa3 sn3 sc3:=by
 have e1:lS aw2= [tT aw2]:=by unfold lS;rw[if_neg aH]
 have e2:(tT aw2).2.1= [(34665,vI aw2)]:=by rfl
 have e3:(vI aw2).1= [(37500,7,3, [1,2,3])]:=by decide+kernel
 rw[e1]at h;obtain⟨wU,hl,hs,hd⟩:=h.rd;have hl:wU.length=1:=hl;have AP:dn=1:=by have:=hs.xZ qW aH;omega
 subst AP;obtain⟨b,off,rfl,hb,fe⟩:=hs.elem qW aH dzz (show 0<1 by decide);rw[kF aG]at fe;have hD:FN w 16 (tT aw2) wU[0]:=hd 0 aG (by show 0<1;decide);generalize wU[0]=v at*;obtain⟨ta,tn,tc,zs,sa,sn,sc,ds,ba,bn,bc,rfl,htg,hdt,qU,wG,vV,D9⟩:=hD;have f1:=fe 1 _ rfl;simp only[fM,dB]at f1;have wG:ds.length=1:=by rw[wG,e2];rfl
 have UG:sn=1:=by have:=qU.xZ qV aH;omega
 subst UG;obtain⟨b2,o2,rfl,kP,ge⟩:=qU.elem qV aH (0,dzz) (show 0<1 by decide);rw[kF aG]at ge;have KD:=vV 0 aG (by rw[e2];show 0<1;decide);have e4:(tT aw2).2.1[0]'(by rw[e2];show 0<1;decide)=(34665,vI aw2):=by simp[e2]
 rw[e4]at KD;obtain⟨NW,xV⟩:=KD;generalize ds[0]=dd at*;obtain⟨t,dv⟩:=dd;simp only at NW xV;subst NW;obtain⟨ta2,tn2,tc2,zs2,sa2,sn2,sc2,ds2,ba2,bn2,bc2,rfl,aXS,aRT,aMA,_,_,a1Z⟩:=xV;rw[e3]at aRT;have vO:zs2.length=1:=by have:=congrArg List.length aRT;simpa using this.symm
 have htn:tn2=1:=by have:=aXS.len;omega
 subst htn;obtain⟨b3,o3,rfl,kT,c0,c1,c2,c3,_⟩:=aXS.at (k:=0) aH;have hk:(zs2.getD 0 JL).1.1=37500:=by
  rw[kF aG];have h9:(zs2.map nO)[0]'(by rw[dF];omega)=(37500,7,3, [1,2,3]):=by simp only[←aRT];rfl
  rw[fI]at h9;have:=congrArg Prod.fst h9;exact this
 rw[hk,fM,dB]at c0;have g0:=ge 0 _ rfl;have g1:=ge 1 _ rfl;have g2:=ge 2 _ rfl;have g3:=ge 3 _ rfl;simp only[fM,dB]at g0 g1 g2 g3;exact⟨b,off,b2,o2,sc,b3,o3,tc2,_,_,rfl,rfl,hb,f1,kP,g0,g1,g2,g3,kT,c0,⟨_,_,_,rfl⟩,_,_,_,rfl⟩
theorem KC (w:World):Calls Tryz.prog 19 #[] w fun e w'=>e= .returned (.bool true)∧Below w.heap.size w w':=by
 have hS1:=fun W=>a1L 274 1 aH (by decide+kernel) W;have hS2:=fun W=>a1L 34665 1 aH (by decide+kernel) W;rw[show lQ 1 2 2= [0,1] by decide+kernel]at hS1 hS2;obtain⟨bQ9,c06⟩:=aJ hS1 hS2;clear hS1 hS2;go_enter Tryz.func19,Tryz.ntmps19;go_wp2_with fail
 refine(bQ9.o _).mono ?_;rintro e w1 ⟨a1,c1,rfl,hr1,kV⟩;have vS:=NH aw1 ⟨a1,1,c1,none,0,0,none,0,0,none,0,0,none,0,0,none,0,0,none,0,0⟩ w1 (a7O hr1) (bHF _ _) ⟨aD0 (by show 2≤1000000;decide),qI,qI,qI,qI⟩ (aLT _ _ ⟨by decide,aOE⟩) ⟨aD0 aOE,qI,qI,qI,qI,aOD,aOD⟩;rw[bQ3,bQ4]at vS;simp only[exV,VT,aw1]at vS;obtain⟨aD7,lZ,FY⟩:=aK hr1 kV vS;clear hr1 kV vS;go_wp2_with fail
 refine FY.o.mono ?_;rintro e w2 ⟨a2,m2,c2,rfl,C9,kP⟩;have P8:=lZ.o.tm kP;obtain⟨KH,pG,vY⟩:=aK C9 kP P8;clear C9 kP P8;have kU:=aD w2 (.cells #[.int .u8 1,.int .u8 2,.int .u8 3] 5);have qU:Sl (w2.alloc (.cells #[.int .u8 1,.int .u8 2,.int .u8 3] 5)) (some ⟨w2.heap.size,0,none⟩) 3 3 1 (ints .u8 [1,2,3]):=Sl.new w2 5 1 3 #[.int .u8 1,.int .u8 2,.int .u8 3] (0,0) aG rfl;have hT:=a0K aw2 ⟨none,0,0,none,0,0,none,0,0,none,0,0,none,0,0,some ⟨w2.heap.size,0,none⟩,3,3,none,0,0⟩ _ ⟨tL.nil _,tL.nil _,tL.nil _,tL.nil _,tL.nil _,qU,Sl.nil _ _⟩ ⟨by decide,by decide,by decide,by decide,by decide,by decide,by decide⟩ ⟨qI,qI,qI,qI,qI⟩ ⟨qI,qI,qI,qI,qI⟩;simp only[bQ5,if_true]at hT;simp only[exV,VT]at hT;rw[show aw2.o=1 from rfl]at hT;have KL:=vY.o.tm kU;obtain⟨qR,yB,hT',zF⟩:=aL kU qU hT KL;clear kU qU hT KL;go_wp2_with fail
 refine hT'.o.mono ?_;rintro e w4 ⟨oo,da,dn,dc,rfl,mX,rfl,AP,hDO⟩;obtain⟨b,off,b2,o2,sc,b3,o3,tc,u2,u3,rfl,rfl,aIE,f1,aS2,g0,g1,g2,g3,bIH,c0,⟨sa2,sn2,sc2,rfl⟩,sa3,sn3,sc3,rfl⟩:=b6F hDO;have PU:=zF.o.tm mX;have Z9:=(Sl.kZ KH.o).1.mono (qR.o.tm mX);have T9:awB.length=m2:=Z9.p9;have hX1:=aD w4 (.cells #[.int .i64 1,.slice (some ⟨b,off,none⟩) 1 dc] 39);have hX2:=hX1.alloc hX1.size (.cells #[.int .i64 34665,.slice (some ⟨b3,o3,none⟩) 1 tc,.slice sa2 sn2 sc2,.slice sa3 sn3 sc3] 28);have hX3:=hX2.alloc hX2.size (.cells (ints .u8 awB).toArray 5);obtain⟨X2,ZC⟩:∃X,(w4.alloc (.cells #[.int .i64 1,.slice (some ⟨b,off,none⟩) 1 dc] 39)).alloc (.cells #[.int .i64 34665,.slice (some ⟨b3,o3,none⟩) 1 tc,.slice sa2 sn2 sc2,.slice sa3 sn3 sc3] 28)=X:=⟨_,rfl⟩;have bSb:kG X2 (w4.heap.size+1) 28 #[.int .i64 34665,.slice (some ⟨b3,o3,none⟩) 1 tc,.slice sa2 sn2 sc2,.slice sa3 sn3 sc3]:=by rw[←ZC];exact wZ _ _ (by simp)
 rw[ZC]at hX2 hX3;have hnb:=Sl.new X2 5 1 26 (ints .u8 awB).toArray (0,0) aG rfl;have hSm:=aH3 a2 (some ⟨X2.heap.size,0,none⟩) m2 26 c2 26 awB awB _ (Z9.mono hX3) hnb;rw[show(awB==awB)=true by decide]at hSm;have c3:(X2.alloc (.cells (ints .u8 awB).toArray 5)).cell? ⟨b3,o3,none⟩=some (.int .i64 37500):=late hX3 bIH c0;have hSz:X2.heap.size=w4.heap.size+2:=by rw[←ZC];simp
 obtain⟨X3,TD⟩:∃X,X2.alloc (.cells (ints .u8 awB).toArray 5)=X:=⟨_,rfl⟩;have bHG:=bSb.late (aD X2 (.cells (ints .u8 awB).toArray 5));rw[TD]at hSm c3 hX3 bHG;obtain⟨xG,FQ,b50,qX,aB1,ZQ,c6F,c6G,bQA,a1X,bTQ,aL4⟩:=aT mX AP hDO PU Z9 T9 hX1 hX2 hX3 ZC hnb hSm;obtain⟨c6H,bLV,a8H,aOF,c3'⟩:=aM bSb hSz TD bHG c3;clear mX AP hDO PU Z9 T9 hX1 hX2 hX3 ZC hnb hSm bSb hSz TD bHG c3;have bQB:X2.alloc (.cells #[.int .u8 77,.int .u8 77,.int .u8 0,.int .u8 42,.int .u8 0,.int .u8 0,.int .u8 0,.int .u8 8,.int .u8 0,.int .u8 1,.int .u8 1,.int .u8 18,.int .u8 0,.int .u8 3,.int .u8 0,.int .u8 0,.int .u8 0,.int .u8 1,.int .u8 0,.int .u8 1,.int .u8 0,.int .u8 0,.int .u8 0,.int .u8 0,.int .u8 0,.int .u8 0] 5)=X3:=a8H.o;have bQC:=aA bQB;clear bQB;go_upto_region 6 with fail
 rw[a1X.o];clear f1 g0 g1 g2 g3 c0;have c3:=c3'.o;have s0:=aOF.o.cell (i:=0) rfl;have s1:=aOF.o.cell (i:=1) rfl;have GU:=qX.o.tm bQA.o;have F7:=aA GU;clear GU;go_wp2_with fail
 rw[bQC.o];refine aL4.o.mono ?_;rintro e w5 ⟨rfl,nV⟩;have c5:=late nV (dD bIH bQA.o.size) c3;have t0:=late nV aOF.o.lt s0;have t1:=late nV aOF.o.lt s1;have GU:=F7.o.tm nV;clear c3 s0 s1;obtain⟨LF,F7⟩:=aJ nV GU;clear nV GU;go_wp2_with fail
 refine(AO _).mono ?_;rintro e w6 ⟨a6,zs6,rfl,_,_,vU⟩;have PY:=F7.o.tm vU;have KQ:=PY.alloc PY.size (.cells #[.int .u8 1] 5);have hK3:=yH aw3 ⟨none,0,0,none,0,0,none,0,0,none,0,0,none,0,0,none,0,0,some ⟨w6.heap.size,0,none⟩,1,1⟩ (w6.alloc (.cells #[.int .u8 1] 5)) ⟨tL.nil _,tL.nil _,tL.nil _,tL.nil _,tL.nil _,Sl.nil _ _,Sl.new w6 5 1 1 #[.int .u8 1] (0,0) aG rfl⟩ ⟨qI,qI,qI,qI,qI⟩;rw[bQ6]at hK3;simp only[exV,VT]at hK3;rw[show aw3.o=1 from rfl]at hK3;clear c5 t0 t1;obtain⟨MO,BQ,aGJ,bD7⟩:=aL vU PY KQ hK3;clear vU PY KQ hK3;go_wp2_with fail
 refine bD7.o.mono ?_;rintro e w7 ⟨rfl,xC⟩;have bQD:=aGJ.o.tm xC;obtain⟨wV,bA1⟩:=aJ xC bQD;clear xC bQD;go_wp2_with fail
 refine(bQ9.o _).mono ?_;rintro e w8 ⟨a8,c8,rfl,hr8,rW⟩;have a6Y:=bA1.o.tm rW;have hK4:=yH aw4 ⟨a8,1,c8,none,0,0,none,0,0,none,0,0,none,0,0,none,0,0,none,0,0⟩ w8 (a7O hr8) (aLT _ _ ⟨by decide,aOE⟩);rw[bQ7]at hK4;simp only[exV,VT]at hK4;rw[show aw4.o=3 from rfl]at hK4;obtain⟨c6I,ZU,NU,c07⟩:=aL hr8 rW a6Y hK4;clear hr8 rW a6Y hK4;go_wp2_with fail
 refine c07.o.mono ?_;rintro e w9 ⟨rfl,vP⟩;have aXU:=NU.o.tm vP;obtain⟨qB,M5⟩:=aJ vP aXU;clear vP aXU;go_wp2_with fail
 refine(c06.o _).mono ?_;rintro e w10 ⟨a10,c10,rfl,aQY,aL7⟩;have bAA:=M5.o.tm aL7;have hK5:=yH aw5 ⟨a10,1,c10,none,0,0,none,0,0,none,0,0,none,0,0,none,0,0,none,0,0⟩ w10 (a7O aQY) (aLT _ _ ⟨by decide,aOE⟩);rw[bQ8]at hK5;simp only[exV,VT]at hK5;rw[show aw5.o=1 from rfl]at hK5;obtain⟨c3R,bMO,b0I,c08⟩:=aL aQY aL7 bAA hK5;clear aQY aL7 bAA hK5;go_wp2_with fail
 refine c08.o.mono ?_;rintro e w11 ⟨rfl,aGL⟩;have bAB:=b0I.o.tm aGL;obtain⟨bMS,bHH⟩:=aJ aGL bAB;clear aGL bAB;go_wp2_with fail
 go_ret;exact⟨rfl,bHH.o⟩
def outT (x:pX):List (jY 16):=if lU x=0 then lS x else []
def aLU (x:pX):Int:=if lU x=0 then x.o else 0
theorem b0J {x:pX} {B:Nat} {w:World} {oo:Int} {a:Option Addr} {n c:Nat}
  (h:if lU x=0 then oo=x.o∧n=(lS x).length∧AL B w 16 (.slice a n c) (lS x)else oo=0∧n=0∧a=none∧c=0):oo=aLU x∧AL B w 16 (.slice a n c) (outT x):=by
 unfold aLU outT;by_cases h0:lU x=0
 ·rw[if_pos h0]at h ⊢;rw[if_pos h0];exact⟨h.1,h.2.2⟩
 ·rw[if_neg h0]at h ⊢;rw[if_neg h0];obtain⟨rfl,rfl,rfl,rfl⟩:=h;exact⟨rfl, [],rfl,lC _ _ _ _,fun i hi=>by cases hi⟩
end Go.Proofs.YtceclmpmpldmlaaGreat
namespace Tt
open Go Go.RowKit
end Tt
namespace Go.Proofs.YtceclmpmpldmlaaGreat
open Go.RowKit Tt
theorem b0K {w:World} {a:Option Addr} {n c:Nat} {z:List Int} (h:Sl w a n c 1 (ints .u8 z)) (i:Nat) (hi:i<n):
  ∃p:Addr,(∀W,(Instr.indexAt 24 (.slice a n c) (.int .i64 (i:Int))).run Tryz.prog W= .ok (.pointer (some p)) W)∧p.block<w.heap.size∧w.cell? p=some (.int .u8 (z.getD i 0)):=by
 have hl:=h.p9;obtain⟨b,off,rfl,hb,hc⟩:=h.lies i hi;refine⟨⟨b,off+i,none⟩,fun W=>?_,hb,hc i _ (qN aG)⟩;rw[run_indexAt_slice (h:=by kernel_rfl),if_pos aG];have tC:(sizeOf (Program.elem Tryz.prog 24)).run Tryz.prog W= .ok 1 W:=by kernel_rfl
 rw[tC];simp[Result.andThen,Addr.add]
theorem aLV {z:List Int} {L:List nP} {e:Int} (h:sQ z L= .error e):DZ z L=false:=by unfold DZ;rw[h]
theorem a7P {z:List Int} {L:List nP} {ds:List (jY 16)} {s:St} (h:sQ z L= .ok (ds,s)) (hs:0<s.xH):DZ z L=false:=by
 unfold DZ;rw[h];simp;intro h2;omega
theorem aLW {z:List Int} {L:List nP} {ds:List (jY 16)} {s:St} (h:sQ z L= .ok (ds,s)) {k:Nat} (hk:k<z.length) (h0:z.getD k 0≠0) (ht:nH s k=false):DZ z L=false:=by
 unfold DZ;rw[h];simp only[Bool.and_eq_false_iff];refine .inr (List.all_eq_false.2 ⟨k,cZ.2 hk,?_⟩);rw[ht];simp;simpa [aZ] using h0
theorem aHS {z:List Int} {L:List nP} {ds:List (jY 16)} {s:St} (h:sQ z L= .ok (ds,s)) (hs:s.xH≤0) (ha:∀k:Nat,k<z.length→z.getD k 0=0∨nH s k=true):DZ z L=true:=by
 unfold DZ;rw[h];simp only[bK,decide_eq_true_eq];refine⟨by omega,dI.2 (fun k hk=>?_)⟩;rcases ha k (cZ.1 hk)with h1|h1
 ·simp only[decide_eq_true h1,Bool.true_or]
 ·rw[h1,Bool.or_true]
theorem aHT (hD:aA8) (a:Option Addr) (n c:Nat) (z:List Int) (sa:Option Addr) (sn sc:Nat) (zs:List Shz) (w:World) (hs:Sl w a n c 1 (ints .u8 z)) (hsh:ShR w sa sn sc zs) (qL:pF z) (hn:n≤100000000):
  Calls Tryz.prog 39 #[.slice a n c,.slice sa sn sc] w fun e w'=>e= .returned (.bool (DZ z (kK zs)))∧Below w.heap.size w w':=by
 have vO:=hs.p9;have HB:=aA7 a n c z sa sn sc zs w hs hsh qL aG;obtain⟨R,hR⟩:=aC (sQ z (kK zs));have hx:∀x,R= .error x→x≠0:=fun x e=>aH0 (hR.trans e);obtain⟨q,hq⟩:∃b,DZ z (kK zs)=b:=⟨_,rfl⟩;rw[hq];obtain⟨sK,Z5,vR⟩:=aK hs hsh qL;obtain⟨HB',qM,oC,hq',TV⟩:=aM HB hR vO hq hx;clear hs hsh qL HB hR vO hq hx;go_enter Tryz.func39,Tryz.ntmps39;go_wp2_with fail
 refine HB'.o.mono ?_;rintro e w1 ⟨g,gt,rfl,ht,wP,kV⟩;have DT:=aGW hD _ ht rfl _ _ w1 wP;simp only at DT;rw[qM.o]at DT;have hg0:w.heap.size≤g:=ht.gB;have bG1:w.heap.size≤gt:=ht.gtB;have hg1:g<w1.heap.size:=wP.blk.lt;clear HB';obtain⟨a3N,lZ,KS,nJ⟩:=aL DT kV ht wP;clear DT kV ht wP;go_wp2_with fail
 refine a3N.o.mono ?_;rintro e w2 nW;cases R with
 |error x=>
  obtain⟨rfl,zS,yJ⟩:=nW;have hx0:=TV.o x rfl;have kP:=aCY lZ.o yJ hg0 bG1 (fun k e=>by cases e) (aY _);have d1:(x != 0)=true:=by simp;exact hx0
  obtain rfl:q=false:=by rw[←hq'.o,aLV qM.o]
  clear yJ hx0;have pG:=aA kP;clear kP;go_wp2_with fail
  go_ret;exact⟨rfl,pG.o.alloc pG.o.size _⟩
 |ok r=>
  obtain⟨ds,s⟩:=r;obtain⟨zS,tk',a2,m2,c2,rfl,OJ,yJ,hds⟩:=nW;have kP:=aCY lZ.o yJ hg0 bG1 (fun k e=>by cases e) (aY _);have kU:=aD w2 (.cells #[.int .i64 (mI z),.slice a2 m2 c2] 39);have a8S:=OJ.later kU;have kT:=kP.alloc kP.size (.cells #[.int .i64 (mI z),.slice a2 m2 c2] 39);obtain⟨w3,xE⟩:∃W,w2.alloc (.cells #[.int .i64 (mI z),.slice a2 m2 c2] 39)=W:=⟨_,rfl⟩;rw[xE]at a8S kT;obtain⟨so,hso⟩:∃v,s.xH=v:=⟨_,rfl⟩;have c6:w2.cell? ⟨g,6,none⟩=some (.int .i64 so):=by rw[←hso];exact OJ.blk.cell rfl
  have e6:w3.cell? ⟨g,6,none⟩=some (.int .i64 so):=by rw[←hso];exact a8S.blk.cell rfl
  have MB:g<w2.heap.size:=OJ.blk.lt;by_cases KD:0<so
  ·have d1:decide (0<so)=true:=by simp;exact KD
   obtain rfl:q=false:=by rw[←hq'.o,a7P qM.o (by rw[hso];exact KD)]
   clear hso KD yJ OJ hds kP kU;obtain⟨U7,sM⟩:=aJ a8S kT;clear a8S kT;go_wp2_with fail
   try rw[xE]
   go_ret;first|exact⟨rfl,sM.o⟩|(rw[xE];exact⟨rfl,sM.o⟩)
  ·have d1:decide (0<so)=false:=by simp;omega
   have aWX:=aA (show s.xH≤0 by omega);clear hso KD yJ OJ hds kP kU;obtain⟨U7,sM⟩:=aJ a8S kT;clear a8S kT;go_upto_region 5 with fail
   try rw[xE]
   clear xE c6 e6;go_wp2_with fail
   go_loopw [29] (fun iv wr=>∃(i:Nat),i≤n∧iv= .int .i64 i∧w3=wr∧Hid (∀k:Nat,k<i→z.getD k 0=0∨nH s k=true)) (fun iv _=>n - (intOf iv).toNat)
   case atStart=>exact⟨0,by omega,rfl,rfl,aA (fun k hk=>by omega)⟩
   case round=>
    obtain⟨i,hi,rfl,rfl,lY⟩:=hrel;by_cases kY:i<n
    ·have CY:(i:Int)<n:=by omega
     obtain⟨bt,mQ⟩:∃b,nH s i=b:=⟨_,rfl⟩;have bAC:a8M tk' i=bt:=by rw[←mQ];exact U7.o.bits i kY
     have HI:=aWA g gt (n / 64+1) _ _ tk' i w3 U7.o.blk rfl U7.o.tak U7.o.tkl U7.o.tkb aG aG;rw[bAC]at HI;obtain⟨qp,hqi,_,hqc⟩:=b0K (sK.o.mono sM.o) i kY;obtain⟨xv,hxv⟩:∃v,z.getD i 0=v:=⟨_,rfl⟩;rw[hxv]at hqc;clear bAC;by_cases hx0:xv=0
     ·have d0:(xv != 0)=false:=by simp[hx0]
      clear HI;obtain⟨GN,bQE,bIV⟩:=aK mQ hxv hx0;clear mQ hxv hx0;go_wp2_with fail
      go_roundw
      case rel=>exact⟨i+1,by omega,by go_num,by first|rfl|trivial,aA (fun k hk=>by
       by_cases rF:k=i
       ·subst rF;exact .inl (bQE.o.trans bIV.o)
       ·exact lY.o k aG)⟩
      case measure=>simp[intOf];omega
     ·have d0:(xv != 0)=true:=by simp;exact hx0
      have bIV:=aA hx0;clear hx0;have HI':=aA HI;clear HI;cases bt with
      |true=>
       obtain⟨GN,bQE⟩:=aJ mQ hxv;clear mQ hxv;go_wp2_with fail
       refine HI'.o.mono ?_;rintro e w4 ⟨rfl,rfl⟩;go_wp2_with fail
       go_roundw
       case rel=>exact⟨i+1,by omega,by go_num,by first|rfl|trivial,aA (fun k hk=>by
        by_cases rF:k=i
        ·subst rF;exact .inr GN.o
        ·exact lY.o k aG)⟩
       case measure=>simp[intOf];omega
      |false=>
       obtain rfl:q=false:=by rw[←hq'.o,aLW qM.o (k:=i) (by rw[oC.o];exact kY) (by rw[hxv];exact bIV.o) mQ]
       clear hxv mQ;go_wp2_with fail
       refine HI'.o.mono ?_;rintro e w4 ⟨rfl,rfl⟩;go_wp2_with fail
       go_ret;exact⟨rfl,sM.o⟩
    ·obtain rfl:q=true:=by rw[←hq'.o,aHS qM.o aWX.o (fun k hk=>lY.o k (by rw[oC.o]at hk;omega))]
     obtain rfl:i=n:=by omega
     go_wp2_with fail
     go_ret;exact⟨rfl,sM.o⟩
