import Derived.Test.YtceclmpmpldmlaaGreatCw19
import Derived.Lib.BufferWrite
import Derived.Test.YtceclmpmpldmlaaGreatCw18
set_option linter.unusedSimpArgs false
set_option linter.unusedVariables false
namespace Go.Proofs.YtceclmpmpldmlaaGreat
open Go.RowKit Tt
theorem aV1 (f:Nat) (o:Int) (sa:Option Addr) (sn sc:Nat) (ds:List (jY f)) (w:World) (h:JX f w sa sn sc ds) (hs:∀d∈ds,mY f d) (qL:∀d∈ds,tJ f d) (hN:(oI f ds).length<1000):
  Calls Tryz.prog 11 #[.agg #[.int .i64 o,.slice sa sn sc]] w fun e w'=>((V3 f ds=true∧∃v,e= .returned (.tuple #[v,.bool true])∧Spr w.heap.size w' v (kW f ds))∨(V3 f ds=false∧e= .returned (.tuple #[.slice none 0 0,.bool false])))∧Below w.heap.size w w':=
 aEH f o sa sn sc ds w h hs hN fun W hW=>aF0 f o sa sn sc ds W (h.mono hW) hs qL
theorem a4Z (f:Nat) (o:Int) (sa:Option Addr) (sn sc:Nat) (ds:List (jY f)) (w:World) (h:JX f w sa sn sc ds) (hs:∀d∈ds,mY f d) (qL:∀d∈ds,tJ f d) (hN:(oI f ds).length<1000):
  Calls Tryz.prog 12 #[.agg #[.int .i64 o,.slice sa sn sc]] w fun e w'=>e= .returned (.int .i64 (oU f ds))∧Below w.heap.size w w':=
 aTX f o sa sn sc ds w h hs hN fun W hW=>aF0 f o sa sn sc ds W (h.mono hW) hs qL
theorem b42:(Tryz.prog.info? 3).map (fun i=>(i.zero,i.size,i.bytes))=some (some (.int .i64 0),1,8):=by kernel_rfl
def b43:Value→Nat
 | .slice _ n _=>n
 |_=>0
def a5A (L:List nP) (n:Nat):List Int:=(List.range n).map (o8 L)
theorem a9O (L:List nP) (n:Nat):a5A L (n+1)=a5A L n++ [o8 L n]:=by unfold a5A;rw[fZ,eO];rfl
theorem aF1 (L:List nP) (n:Nat):(a5A L n).length=n:=by unfold a5A;simp
set_option maxRecDepth 20000 in
set_option maxHeartbeats 8000000 in
theorem VD (f:Nat) (o:Int) (sa:Option Addr) (sn sc:Nat) (ds:List (jY f)) (a:Option Addr) (n c:Nat) (zs:List Shz) (w:World) (h:JX f w sa sn sc ds) (hz:ShR w a n c zs) (hs:∀d∈ds,mY f d) (qL:∀d∈ds,tJ f d) (hN:(oI f ds).length<1000) (UG:sn≤500):
  Calls Tryz.prog 13 #[.agg #[.int .i64 o,.slice sa sn sc],.slice a n c] w fun e w'=>e= .returned (.int .i64 (oD f o ds (kK zs)))∧Below w.heap.size w w':=by
 have kV:=aD w (.cells #[.int .i64 o,.slice sa sn sc] 39);have bk:=kG.new w 39 #[.int .i64 o,.slice sa sn sc];obtain⟨W1,vS⟩:=aC (w.alloc (.cells #[.int .i64 o,.slice sa sn sc] 39));rw[vS]at kV bk;have hSh:=a4D a n c zs W1 (hz.mono kV);have vO:=hz.len;have c5M:=hz.row.le;have c5N:=hz.row.max;obtain⟨R,hR⟩:=aC (oD f o ds (kK zs));rw[hR];unfold oD at hR;have AP:ds.length=sn:=by
  obtain⟨ME,wG,qU,_⟩:=h;rw[←wG];exact qU.xZ qW aH
 obtain⟨shb,aJR⟩:∃b,mW (kK zs)=b:=⟨_,rfl⟩;rw[aJR]at hSh hR;rw[AP]at hR;obtain⟨i0,AY,yZ,qC,wY⟩:=info_parts b42;obtain⟨h',GX,sK,vR⟩:=aL h hz hs qL;obtain⟨hN',bk',lZ,FY,b44,oC,qM,FQ,U5⟩:=aQ hN bk kV vS hSh vO hR AP aJR;clear h hz hs qL hN bk kV vS hSh vO hR AP aJR;go_enter Tryz.func13,Tryz.ntmps13;go_wp2_with fail
 refine((by rw[FY.o];exact b44.o):Calls Tryz.prog 47 _ _ _).mono ?_;rintro e w2 ⟨rfl,kP⟩;have bk2:=bk'.o.late kP;have rG:=lZ.o.tm kP;cases shb with
 |false=>
  obtain rfl:R=1:=by rw[←qM.o];rfl
  obtain⟨pG,ZV,nD⟩:=aK kP bk2 rG;clear kP bk2 rG;go_wp2_with fail
  go_ret;exact⟨rfl,nD.o⟩
 |true=>
 have c0:=bk2.cell (i:=0) rfl;have c1:=bk2.cell (i:=1) rfl;rw[dL]at qM;by_cases ho:o=1∨o=2
 case neg=>
  have h1:(o != 1)=true:=by simp;omega
  have h2:(o != 2)=true:=by simp;omega
  obtain rfl:R=1:=by rw[←qM.o,decide_eq_false (show ¬o=1 by omega),decide_eq_false (show ¬o=2 by omega)];rfl
  clear ho;obtain⟨pG,ZV,nD⟩:=aK kP bk2 rG;clear kP bk2 rG;go_wp2_with fail
  go_ret;exact⟨rfl,nD.o⟩
 case pos=>
 have hoB:(decide (o=1)||decide (o=2))=true:=by simpa using ho
 rw[hoB,dL]at qM;clear hoB;rcases ho with rfl|rfl
 ·have h1:((1:Int) != 1)=false:=by simp
  have h2:True:=trivial;by_cases KD:sn=0
  ·have h3:((sn:Int)==0)=true:=by simp[KD]
   have h4:(sn==0)=true:=by simp[KD]
   obtain rfl:R=1:=by rw[←qM.o,decide_eq_true KD];rfl
   clear KD;obtain⟨pG,ZV,nD⟩:=aK kP bk2 rG;clear kP bk2 rG;go_wp2_with fail
   go_ret;exact⟨rfl,nD.o⟩
  ·have h3:((sn:Int)==0)=false:=by simp;omega
   have h4:(sn==0)=false:=by simp;omega
   rw[decide_eq_false KD,if_pos (by rfl)]at qM;obtain⟨pG,ZV,nD⟩:=aK kP bk2 rG;clear kP bk2 rG;go_wp2_with fail
   clear h1 h2 h3 h4 c0 c1;go_loopw [5,6] (fun v iv wr=>∃(k:Nat) (xa:Option Addr) (xc:Nat),k≤sn∧v= .slice xa k xc∧iv= .int .i64 (o8 (kK zs) k)∧Hid (wr.ownsRow w2.heap.size 3 1 (.slice xa k xc) k (ints .i64 (a5A (kK zs) k)))∧Hid (chainB (kK zs) k=true)∧Hid (Below w2.heap.size w2 wr)) (fun v _ _=>sn - b43 v)
   case atStart=>exact⟨0,none,0,by omega,rfl,rfl,aA (lC _ _ _ _),aA rfl,aA (bF _ _)⟩
   case round=>
    obtain⟨k,xa,xc,hk,rfl,rfl,mK,hch,hb⟩:=hrel;have bkr:=ZV.o.late hb.o;have c1:=bkr.cell (i:=1) rfl;have KE:=KJ U5.o k;have aV2:(kK zs).length=n:=by unfold kK;rw[dF];exact oC.o
    rw[aV2]at KE;have zN:=a15 (L:=kK zs) (n:=k);rw[hch.o,dL]at zN;have sJ:=fun(kY:k<sn) hh=>a9H (L:=kK zs) (n:=sn) (k:=k) kY hh;have hnS:o8 (kK zs) (k+1)=((kK zs).getD (o8 (kK zs) k).toNat kQ).2.2.2:=rfl;have hxs:=a9O (kK zs) k;obtain⟨at_,SX⟩:∃x,o8 (kK zs) k=x:=⟨_,rfl⟩;rw[SX]at KE zN sJ hnS hxs ⊢;obtain⟨aJ5,Z4,vT,aV3,aMB,aIC⟩:=aN bkr zN sJ hnS hxs SX;clear bkr zN sJ hnS hxs SX;go_upto_region 5 with fail
    go_cut [37]from 28 to 37 (fun v wx=>v= .bool (decide (0≤at_)&&decide (k<sn))∧wr=wx)
    case first=>
     by_cases ha:0≤at_
     ·have ha1:decide (0≤at_)=true:=by simp;omega
      by_cases hks:k<sn
      ·have hk3:decide ((k:Int)<(sn:Int))=true:=by simp;omega
       have hk4:decide (k<sn)=true:=by simp;omega
       go_wp2_with fail
       go_meet
       exact⟨by rw[ha1,hk4];rfl,rfl⟩
      ·have hk3:decide ((k:Int)<(sn:Int))=false:=by simp;omega
       have hk4:decide (k<sn)=false:=by simp;omega
       go_wp2_with fail
       go_meet
       exact⟨by rw[ha1,hk4];rfl,rfl⟩
     ·have ha1:decide (0≤at_)=false:=by simp;omega
      go_wp2_with fail
      go_meet
      exact⟨by rw[ha1];rfl,rfl⟩
    case rest=>
    obtain⟨rfl,rfl⟩:=hcut;clear c1;by_cases hgo:0≤at_∧k<sn
    ·obtain⟨ha,hks⟩:=hgo;rw[decide_eq_true ha,decide_eq_true hks];obtain⟨ai,rfl⟩:∃ai:Nat,at_=ai:=⟨at_.toNat,by omega⟩;have CY:(ai:Int)<n:=by omega
     have z8:ai<n:=by omega
     have FZ:=nD.o.tm hb.o;have hzr:=GX.o.mono FZ;obtain⟨b,o2,rfl,xL,fe⟩:=hzr.row.elem zQ aH BL z8;rw[cB,y9 (by rw[oC.o];exact z8)]at aV3;have f3:=fe 3 _ rfl;rw[←aV3.o]at f3;clear fe;have C8:=Sl.new' wr 3 1 1 (ints .i64 [(ai:Int)]).toArray (0,0) (by first|rfl|simp) aG rfl;have TP:chainB (kK zs) (k+1)=true:=Z4.o.trans (decide_eq_true aG);have kU:=aD wr (.cells #[.int .i64 ai] 3);have aF2:b<w2.heap.size:=by
      obtain⟨b',o',e,pW,_⟩:=(GX.o.mono nD.o).row.elem zQ aH BL z8;injection e with e;injection e with e1 e2;omega
     obtain⟨a4J,bW5,NP,a1A,qR⟩:=aM FZ hzr C8 TP kU;clear FZ hzr C8 TP kU;go_wp2_with (at_builtin;refine qD rfl _ _ 102 rfl w2.heap.size 3 i0 _ 1 8 Tryz.underlying102 AY yZ qC wY rfl aH _ k _ rfl (fB mK.o _) _ 1 1 (ints .i64 [(ai:Int)]) rfl NP.o wQ aG aH (by have:=hb.o.size;simp;omega) ?_;intro a5 c5 w5 ob nV qA;obtain⟨Ob,Hb5⟩:=aJ ob ((hb.o.tm qR.o).trans nV);have f5:w5.cell? ⟨b,o2+ai*4+3,none⟩=some (.int .i64 (o8 (kK zs) (k+1))):=(nV.cell aF2).trans ((qR.o.cell (dD aF2 hb.o.size)).trans f3);clear ob nV qA)
     go_roundw
     case rel=>exact⟨k+1,a5,c5,by omega,rfl,rfl,aA (by rw[aMB.o,vW];exact Ob.o),a1A,Hb5⟩
     case measure=>simp[b43];omega
    ·have hgB:(decide (0≤at_)&&decide (k<sn))=false:=by
      by_cases ha:0≤at_
      ·rw[decide_eq_true ha,decide_eq_false (show ¬k<sn by omega)];rfl
      ·rw[decide_eq_false ha];rfl
     rw[hgB];have c1:=aJ5.o.cell (i:=1) rfl;have aBS:=nD.o.tm hb.o;by_cases hks:k<sn
     ·obtain rfl:R=1:=by
       have hcn:=vT.o hks aG;rw[←qM.o,hcn];rfl
      have bW6:(k:Int)<sn:=by omega
      have hk3:decide ((k:Int)<(sn:Int))=true:=by simp;omega
      have LJ:=aA aBS;clear aBS;go_wp2_with fail
      go_ret;exact⟨rfl,LJ.o⟩
     ·obtain rfl:k=sn:=by omega
      have hcr:=hch.o;rw[hch.o,if_pos (by rfl)]at qM;have hk3:decide ((k:Int)<(k:Int))=false:=by simp
      have hk5:¬(k:Int)<(k:Int):=by omega
      have aV4:=(Sl.kZ mK.o).1;obtain⟨LJ,bDV,aV5⟩:=aK aBS hcr aV4;clear aBS hcr aV4;clear hgo hgB hk hks KE;go_wp2_with fail
      clear c1;go_loopw [56] (fun iv wx=>∃i:Nat,i≤k∧iv= .int .i64 i∧Hid (∀j,j<i→nN (kK zs) f (ds.getD j (kS f)) (o8 (kK zs) j)=true)∧Hid (Below wr.heap.size wr wx)) (fun iv _=>k - (intOf iv).toNat)
      case atStart=>exact⟨0,by omega,rfl,aA (fun j hj=>by omega),aA (bF _ _)⟩
      case round=>
       obtain⟨i,hi,rfl,lY,OM⟩:=hrel;have aBT:=LJ.o.tm OM.o;by_cases kY:i<k
       ·obtain⟨ME,wG,qU,vV⟩:=h'.o;have hid:i<ds.length:=by rw[FQ.o];exact kY
        have rC:i<ME.length:=by rw[wG];exact hid
        obtain⟨b,o2,rfl,xL,fe⟩:=(qU.mono aBT).elem qW aH dzz kY;rw[kF rC]at fe;have rH:=vV i rC hid;obtain⟨ua,un,uc,ra,rn,rc,ya,yn,yc,hv⟩:=rH.v;have g0:=fe 0 _ rfl;have g1:=fe 1 _ rfl;have g2:=fe 2 _ rfl;clear fe qU vV;rw[hv]at rH g0 g1 g2;simp only[dB]at g0 g1 g2;have xR:IntKind.i64.wrap ((i:Int)+1)=i+1:=by rw[bJ];omega
        have hil:(i:Int)<(k:Int):=by omega
        have bW7:(0:Int)≤(i:Int):=by omega
        have hni:=KJ U5.o i;rw[aV2]at hni;have bW8:0≤o8 (kK zs) i:=by
         have:=dI.1 bDV.o i (cZ.2 kY);simpa using this
        obtain⟨si,hsi⟩:∃si:Nat,o8 (kK zs) i=si:=⟨(o8 (kK zs) i).toNat,by omega⟩;have hgi:ds.getD i (kS f)=ds[i]:=by rw[kF hid]
        have PL:nN (kK zs) f ds[i] si=false→R=6:=fun hh=>by
         have:hasAll (kK zs) f ds=false:=ZX (k:=i) (by rw[FQ.o];exact kY) (by rw[hgi,hsi];exact hh);rw[←qM.o,this];rfl
        have oQ:nN (kK zs) f ds[i] si=true→∀j,j<i+1→nN (kK zs) f (ds.getD j (kS f)) (o8 (kK zs) j)=true:=fun hv j hj=>by
         by_cases hjk:j=i
         ·subst hjk;rw[hgi,hsi];exact hv
         ·exact lY.o j aG
        have kU:=aD wr (.cells #[.slice ua un uc,.slice ra rn rc,.slice ya yn yc] 26);have bd:=kG.new wr 26 #[.slice ua un uc,.slice ra rn rc,.slice ya yn yc];have kT:=OM.o.tm kU;have D6:=LJ.o.tm kT;have aBU:=aV5.o.mono kT;have EJ:=sK.o _ (bP hid);have PX:=vR.o _ (bP hid);generalize ds[i]=dd at*;obtain⟨GK,L9,GA,bIK,rZ,nG,qR,bd',sM,wT,XL,aQA⟩:=aT wG rH hv hni PL oQ kU bd kT D6 aBU hsi;obtain⟨b6T,JN,XE⟩:=aK hgi EJ PX;clear wG rH hv hni PL oQ kU bd kT D6 aBU hsi hgi EJ PX;go_wp2_with fail
        obtain⟨w3,xE⟩:=aC (wr.alloc (.cells #[.slice ua un uc,.slice ra rn rc,.slice ya yn yc] 26));rw[xE]at bd' sM wT XL ⊢;clear g0 g1 g2;obtain⟨g3,Z0⟩:=aC wr.heap.size;rw[Z0]at bd' ⊢;obtain⟨xb,xo,rfl,aF3,hxc⟩:=XL.o.at kY;have hx1:=hxc i _ (qN (by rw[aF1];exact kY));have hxe:(a5A (kK zs) k).getD i 0=si:=by
         unfold a5A;rw[aZ,jK,List.getElem?_range kY];exact aQA.o
        rw[hxe]at hx1;clear hxc;obtain⟨Ty,ff,pQ,kI,kE⟩:=kM w3;have HS:=aA (kE _ ((bF _ _).drew));have q0:=fun s=>(bd'.o.late (kI s)).cell (i:=0) rfl;have q1:=fun s=>(bd'.o.late (kI s)).cell (i:=1) rfl;have q2:=fun s=>(bd'.o.late (kI s)).cell (i:=2) rfl;have q3:∀s,(ff s).cell? ⟨xb,xo+i,none⟩=some (.int .i64 si):=fun s=>late (kI s) aF3 hx1;have hHS:=fun s=>aN1 zs a n c f w (ff s) dd (.slice ua un uc,.slice ra rn rc,.slice ya yn yc) si GX.o (wT.o.trans ((kI s).mono wT.o.size)) L9.o JN.o XE.o U5.o (by have:=bIK.o;have:=aQA.o;omega);simp only at hHS;obtain⟨hb,hhb⟩:=aC (nN (kK zs) f dd si);rw[hhb]at hHS rZ nG;clear hx1 hxe;obtain⟨kD,jV,MS,bW9,bL7,a2D,aD8⟩:=aO kI kE hHS hhb aF3 xE Z0;clear kI kE hHS hhb aF3 xE Z0;cases hb with
        |false=>
         refine kL ff aF aF HS.o ?_;iterate 9 (go_big_quiet_step ((go_at_call 48;refine(MS.o _).mono ?_;rintro e w3 ⟨rfl,kT⟩;exact⟨rfl,jV.o _ ((kD.o _).tm kT)⟩)))
         refine wpQuiet_nil ?_;intro s;have nE:=kD.o s;have y8:=wT.o.tm nE;obtain rfl:=rZ.o rfl;obtain⟨sS,mP⟩:=aJ nE y8;clear nE y8;go_wp2_with fail
         go_ret;exact⟨rfl,mP.o⟩
        |true=>
         refine kL ff aF aF HS.o ?_;iterate 9 (go_big_quiet_step ((go_at_call 48;refine(MS.o _).mono ?_;rintro e w3 ⟨rfl,kT⟩;exact⟨rfl,jV.o _ ((kD.o _).tm kT)⟩)))
         refine wpQuiet_nil ?_;intro s;have nE:=kD.o s;have mX:=sM.o.tm nE;obtain⟨sS,xG⟩:=aJ nE mX;clear nE mX;go_wp2_with fail
         go_roundw
         case rel=>exact⟨i+1,by omega,by go_num,aA (nG.o rfl),xG⟩
         case measure=>simp[intOf];omega
       ·obtain rfl:i=k:=by omega
        have hA:hasAll (kK zs) f ds=true:=GR (fun j hj=>lY.o j (by rw[FQ.o]at hj;exact hj));rw[hA,if_pos (by rfl)]at qM;have bkx:=aJ5.o.late OM.o;have o0:=bkx.cell (i:=0) rfl;have o1:=bkx.cell (i:=1) rfl;have hL:=fun oo=>a4Z f oo sa i sc ds wr (h'.o.mono aBT) sK.o vR.o hN'.o;obtain⟨lg,hlg⟩:∃x,oU f ds=x:=⟨_,rfl⟩;simp only[hlg]at hL qM;obtain⟨bWA,hL',bWB,aF4⟩:=aL bkx hL hlg aBT;clear bkx hL hlg aBT;go_wp2_with fail
        refine(hL'.o _).mono ?_;rintro e w5 ⟨rfl,nV⟩;have zA:=aF4.o.tm nV;by_cases hl0:lg=0
        ·have qC:(lg==0)=true:=by simp[hl0]
         obtain rfl:R=7:=by rw[←qM.o,if_pos hl0]
         obtain⟨pJ,LF⟩:=aJ zA nV;clear zA nV;go_wp2_with fail
         go_ret;exact⟨rfl,pJ.o⟩
        ·have qC:(lg==0)=false:=by simp[hl0]
         obtain rfl:R=0:=by rw[←qM.o,if_neg hl0]
         obtain⟨pJ,LF⟩:=aJ zA nV;clear zA nV;go_wp2_with fail
         go_ret;exact⟨rfl,pJ.o⟩
 ·have h1:((2:Int) != 1)=true:=by simp
  have h2:((2:Int) != 2)=false:=by simp
  by_cases KD:sn=0
  ·have h3:((sn:Int)==0)=true:=by simp[KD]
   have h4:(sn==0)=true:=by simp[KD]
   obtain rfl:R=1:=by rw[←qM.o,decide_eq_true KD];rfl
   clear KD;obtain⟨pG,ZV,nD⟩:=aK kP bk2 rG;clear kP bk2 rG;go_wp2_with fail
   go_ret;exact⟨rfl,nD.o⟩
  ·have h3:((sn:Int)==0)=false:=by simp;omega
   have h4:(sn==0)=false:=by simp;omega
   rw[decide_eq_false KD,if_pos (by rfl)]at qM;obtain⟨pG,ZV,nD⟩:=aK kP bk2 rG;clear kP bk2 rG;go_wp2_with fail
   clear h1 h2 h3 h4 c0 c1;go_loopw [5,6] (fun v iv wr=>∃(k:Nat) (xa:Option Addr) (xc:Nat),k≤sn∧v= .slice xa k xc∧iv= .int .i64 (o8 (kK zs) k)∧Hid (wr.ownsRow w2.heap.size 3 1 (.slice xa k xc) k (ints .i64 (a5A (kK zs) k)))∧Hid (chainB (kK zs) k=true)∧Hid (Below w2.heap.size w2 wr)) (fun v _ _=>sn - b43 v)
   case atStart=>exact⟨0,none,0,by omega,rfl,rfl,aA (lC _ _ _ _),aA rfl,aA (bF _ _)⟩
   case round=>
    obtain⟨k,xa,xc,hk,rfl,rfl,mK,hch,hb⟩:=hrel;have bkr:=ZV.o.late hb.o;have c1:=bkr.cell (i:=1) rfl;have KE:=KJ U5.o k;have aV2:(kK zs).length=n:=by unfold kK;rw[dF];exact oC.o
    rw[aV2]at KE;have zN:=a15 (L:=kK zs) (n:=k);rw[hch.o,dL]at zN;have sJ:=fun(kY:k<sn) hh=>a9H (L:=kK zs) (n:=sn) (k:=k) kY hh;have hnS:o8 (kK zs) (k+1)=((kK zs).getD (o8 (kK zs) k).toNat kQ).2.2.2:=rfl;have hxs:=a9O (kK zs) k;obtain⟨at_,SX⟩:∃x,o8 (kK zs) k=x:=⟨_,rfl⟩;rw[SX]at KE zN sJ hnS hxs ⊢;obtain⟨aJ5,Z4,vT,aV3,aMB,aIC⟩:=aN bkr zN sJ hnS hxs SX;clear bkr zN sJ hnS hxs SX;go_upto_region 5 with fail
    go_cut [37]from 28 to 37 (fun v wx=>v= .bool (decide (0≤at_)&&decide (k<sn))∧wr=wx)
    case first=>
     by_cases ha:0≤at_
     ·have ha1:decide (0≤at_)=true:=by simp;omega
      by_cases hks:k<sn
      ·have hk3:decide ((k:Int)<(sn:Int))=true:=by simp;omega
       have hk4:decide (k<sn)=true:=by simp;omega
       go_wp2_with fail
       go_meet
       exact⟨by rw[ha1,hk4];rfl,rfl⟩
      ·have hk3:decide ((k:Int)<(sn:Int))=false:=by simp;omega
       have hk4:decide (k<sn)=false:=by simp;omega
       go_wp2_with fail
       go_meet
       exact⟨by rw[ha1,hk4];rfl,rfl⟩
     ·have ha1:decide (0≤at_)=false:=by simp;omega
      go_wp2_with fail
      go_meet
      exact⟨by rw[ha1];rfl,rfl⟩
    case rest=>
    obtain⟨rfl,rfl⟩:=hcut;clear c1;by_cases hgo:0≤at_∧k<sn
    ·obtain⟨ha,hks⟩:=hgo;rw[decide_eq_true ha,decide_eq_true hks];obtain⟨ai,rfl⟩:∃ai:Nat,at_=ai:=⟨at_.toNat,by omega⟩;have CY:(ai:Int)<n:=by omega
     have z8:ai<n:=by omega
     have FZ:=nD.o.tm hb.o;have hzr:=GX.o.mono FZ;obtain⟨b,o2,rfl,xL,fe⟩:=hzr.row.elem zQ aH BL z8;rw[cB,y9 (by rw[oC.o];exact z8)]at aV3;have f3:=fe 3 _ rfl;rw[←aV3.o]at f3;clear fe;have C8:=Sl.new' wr 3 1 1 (ints .i64 [(ai:Int)]).toArray (0,0) (by first|rfl|simp) aG rfl;have TP:chainB (kK zs) (k+1)=true:=Z4.o.trans (decide_eq_true aG);have kU:=aD wr (.cells #[.int .i64 ai] 3);have aF2:b<w2.heap.size:=by
      obtain⟨b',o',e,pW,_⟩:=(GX.o.mono nD.o).row.elem zQ aH BL z8;injection e with e;injection e with e1 e2;omega
     obtain⟨a4J,bW5,NP,a1A,qR⟩:=aM FZ hzr C8 TP kU;clear FZ hzr C8 TP kU;go_wp2_with (at_builtin;refine qD rfl _ _ 102 rfl w2.heap.size 3 i0 _ 1 8 Tryz.underlying102 AY yZ qC wY rfl aH _ k _ rfl (fB mK.o _) _ 1 1 (ints .i64 [(ai:Int)]) rfl NP.o wQ aG aH (by have:=hb.o.size;simp;omega) ?_;intro a5 c5 w5 ob nV qA;obtain⟨Ob,Hb5⟩:=aJ ob ((hb.o.tm qR.o).trans nV);have f5:w5.cell? ⟨b,o2+ai*4+3,none⟩=some (.int .i64 (o8 (kK zs) (k+1))):=(nV.cell aF2).trans ((qR.o.cell (dD aF2 hb.o.size)).trans f3);clear ob nV qA)
     go_roundw
     case rel=>exact⟨k+1,a5,c5,by omega,rfl,rfl,aA (by rw[aMB.o,vW];exact Ob.o),a1A,Hb5⟩
     case measure=>simp[b43];omega
    ·have hgB:(decide (0≤at_)&&decide (k<sn))=false:=by
      by_cases ha:0≤at_
      ·rw[decide_eq_true ha,decide_eq_false (show ¬k<sn by omega)];rfl
      ·rw[decide_eq_false ha];rfl
     rw[hgB];have c1:=aJ5.o.cell (i:=1) rfl;have aBS:=nD.o.tm hb.o;by_cases hks:k<sn
     ·obtain rfl:R=1:=by
       have hcn:=vT.o hks aG;rw[←qM.o,hcn];rfl
      have bW6:(k:Int)<sn:=by omega
      have hk3:decide ((k:Int)<(sn:Int))=true:=by simp;omega
      have LJ:=aA aBS;clear aBS;go_wp2_with fail
      go_ret;exact⟨rfl,LJ.o⟩
     ·obtain rfl:k=sn:=by omega
      have hcr:=hch.o;rw[hch.o,if_pos (by rfl)]at qM;have hk3:decide ((k:Int)<(k:Int))=false:=by simp
      have hk5:¬(k:Int)<(k:Int):=by omega
      have aV4:=(Sl.kZ mK.o).1;obtain⟨LJ,bDV,aV5⟩:=aK aBS hcr aV4;clear aBS hcr aV4;clear hgo hgB hk hks KE;go_wp2_with fail
      clear c1;go_loopw [56] (fun iv wx=>∃i:Nat,i≤k∧iv= .int .i64 i∧Hid (∀j,j<i→nN (kK zs) f (ds.getD j (kS f)) (o8 (kK zs) j)=true)∧Hid (Below wr.heap.size wr wx)) (fun iv _=>k - (intOf iv).toNat)
      case atStart=>exact⟨0,by omega,rfl,aA (fun j hj=>by omega),aA (bF _ _)⟩
      case round=>
       obtain⟨i,hi,rfl,lY,OM⟩:=hrel;have aBT:=LJ.o.tm OM.o;by_cases kY:i<k
       ·obtain⟨ME,wG,qU,vV⟩:=h'.o;have hid:i<ds.length:=by rw[FQ.o];exact kY
        have rC:i<ME.length:=by rw[wG];exact hid
        obtain⟨b,o2,rfl,xL,fe⟩:=(qU.mono aBT).elem qW aH dzz kY;rw[kF rC]at fe;have rH:=vV i rC hid;obtain⟨ua,un,uc,ra,rn,rc,ya,yn,yc,hv⟩:=rH.v;have g0:=fe 0 _ rfl;have g1:=fe 1 _ rfl;have g2:=fe 2 _ rfl;clear fe qU vV;rw[hv]at rH g0 g1 g2;simp only[dB]at g0 g1 g2;have xR:IntKind.i64.wrap ((i:Int)+1)=i+1:=by rw[bJ];omega
        have hil:(i:Int)<(k:Int):=by omega
        have bW7:(0:Int)≤(i:Int):=by omega
        have hni:=KJ U5.o i;rw[aV2]at hni;have bW8:0≤o8 (kK zs) i:=by
         have:=dI.1 bDV.o i (cZ.2 kY);simpa using this
        obtain⟨si,hsi⟩:∃si:Nat,o8 (kK zs) i=si:=⟨(o8 (kK zs) i).toNat,by omega⟩;have hgi:ds.getD i (kS f)=ds[i]:=by rw[kF hid]
        have PL:nN (kK zs) f ds[i] si=false→R=6:=fun hh=>by
         have:hasAll (kK zs) f ds=false:=ZX (k:=i) (by rw[FQ.o];exact kY) (by rw[hgi,hsi];exact hh);rw[←qM.o,this];rfl
        have oQ:nN (kK zs) f ds[i] si=true→∀j,j<i+1→nN (kK zs) f (ds.getD j (kS f)) (o8 (kK zs) j)=true:=fun hv j hj=>by
         by_cases hjk:j=i
         ·subst hjk;rw[hgi,hsi];exact hv
         ·exact lY.o j aG
        have kU:=aD wr (.cells #[.slice ua un uc,.slice ra rn rc,.slice ya yn yc] 26);have bd:=kG.new wr 26 #[.slice ua un uc,.slice ra rn rc,.slice ya yn yc];have kT:=OM.o.tm kU;have D6:=LJ.o.tm kT;have aBU:=aV5.o.mono kT;have EJ:=sK.o _ (bP hid);have PX:=vR.o _ (bP hid);generalize ds[i]=dd at*;obtain⟨GK,L9,GA,bIK,rZ,nG,qR,bd',sM,wT,XL,aQA⟩:=aT wG rH hv hni PL oQ kU bd kT D6 aBU hsi;obtain⟨b6T,JN,XE⟩:=aK hgi EJ PX;clear wG rH hv hni PL oQ kU bd kT D6 aBU hsi hgi EJ PX;go_wp2_with fail
        obtain⟨w3,xE⟩:=aC (wr.alloc (.cells #[.slice ua un uc,.slice ra rn rc,.slice ya yn yc] 26));rw[xE]at bd' sM wT XL ⊢;clear g0 g1 g2;obtain⟨g3,Z0⟩:=aC wr.heap.size;rw[Z0]at bd' ⊢;obtain⟨xb,xo,rfl,aF3,hxc⟩:=XL.o.at kY;have hx1:=hxc i _ (qN (by rw[aF1];exact kY));have hxe:(a5A (kK zs) k).getD i 0=si:=by
         unfold a5A;rw[aZ,jK,List.getElem?_range kY];exact aQA.o
        rw[hxe]at hx1;clear hxc;obtain⟨Ty,ff,pQ,kI,kE⟩:=kM w3;have HS:=aA (kE _ ((bF _ _).drew));have q0:=fun s=>(bd'.o.late (kI s)).cell (i:=0) rfl;have q1:=fun s=>(bd'.o.late (kI s)).cell (i:=1) rfl;have q2:=fun s=>(bd'.o.late (kI s)).cell (i:=2) rfl;have q3:∀s,(ff s).cell? ⟨xb,xo+i,none⟩=some (.int .i64 si):=fun s=>late (kI s) aF3 hx1;have hHS:=fun s=>aN1 zs a n c f w (ff s) dd (.slice ua un uc,.slice ra rn rc,.slice ya yn yc) si GX.o (wT.o.trans ((kI s).mono wT.o.size)) L9.o JN.o XE.o U5.o (by have:=bIK.o;have:=aQA.o;omega);simp only at hHS;obtain⟨hb,hhb⟩:=aC (nN (kK zs) f dd si);rw[hhb]at hHS rZ nG;clear hx1 hxe;obtain⟨kD,jV,MS,bW9,bL7,a2D,aD8⟩:=aO kI kE hHS hhb aF3 xE Z0;clear kI kE hHS hhb aF3 xE Z0;cases hb with
        |false=>
         refine kL ff aF aF HS.o ?_;iterate 9 (go_big_quiet_step ((go_at_call 48;refine(MS.o _).mono ?_;rintro e w3 ⟨rfl,kT⟩;exact⟨rfl,jV.o _ ((kD.o _).tm kT)⟩)))
         refine wpQuiet_nil ?_;intro s;have nE:=kD.o s;have y8:=wT.o.tm nE;obtain rfl:=rZ.o rfl;obtain⟨sS,mP⟩:=aJ nE y8;clear nE y8;go_wp2_with fail
         go_ret;exact⟨rfl,mP.o⟩
        |true=>
         refine kL ff aF aF HS.o ?_;iterate 9 (go_big_quiet_step ((go_at_call 48;refine(MS.o _).mono ?_;rintro e w3 ⟨rfl,kT⟩;exact⟨rfl,jV.o _ ((kD.o _).tm kT)⟩)))
         refine wpQuiet_nil ?_;intro s;have nE:=kD.o s;have mX:=sM.o.tm nE;obtain⟨sS,xG⟩:=aJ nE mX;clear nE mX;go_wp2_with fail
         go_roundw
         case rel=>exact⟨i+1,by omega,by go_num,aA (nG.o rfl),xG⟩
         case measure=>simp[intOf];omega
       ·obtain rfl:i=k:=by omega
        have hA:hasAll (kK zs) f ds=true:=GR (fun j hj=>lY.o j (by rw[FQ.o]at hj;exact hj));rw[hA,if_pos (by rfl)]at qM;have bkx:=aJ5.o.late OM.o;have o0:=bkx.cell (i:=0) rfl;have o1:=bkx.cell (i:=1) rfl;have hL:=fun oo=>a4Z f oo sa i sc ds wr (h'.o.mono aBT) sK.o vR.o hN'.o;obtain⟨lg,hlg⟩:∃x,oU f ds=x:=⟨_,rfl⟩;simp only[hlg]at hL qM;obtain⟨bWA,hL',bWB,aF4⟩:=aL bkx hL hlg aBT;clear bkx hL hlg aBT;go_wp2_with fail
        refine(hL'.o _).mono ?_;rintro e w5 ⟨rfl,nV⟩;have zA:=aF4.o.tm nV;by_cases hl0:lg=0
        ·have qC:(lg==0)=true:=by simp[hl0]
         obtain rfl:R=7:=by rw[←qM.o,if_pos hl0]
         obtain⟨pJ,LF⟩:=aJ zA nV;clear zA nV;go_wp2_with fail
         go_ret;exact⟨rfl,pJ.o⟩
        ·have qC:(lg==0)=false:=by simp[hl0]
         obtain rfl:R=0:=by rw[←qM.o,if_neg hl0]
         obtain⟨pJ,LF⟩:=aJ zA nV;clear zA nV;go_wp2_with fail
         go_ret;exact⟨rfl,pJ.o⟩
def a2E:(f:Nat)→jY f→Nat
 |0,_=>0
 |f+1,d=>pU d.1.length d.2.1.length d.2.2.length
def noT (f:Nat) (ds:List (jY f)) (k:Nat):Int:=(oI f (ds.take k)).length
def XM (l:List mZ) (f:Nat) (ds:List (jY f)):Nat→Int
 |0=>4
 |k+1=>qK l 2 (noT f ds k) 0+2+12*(a2E f (ds.getD k (kS f)):Nat)
def chW (L:List nP) (l:List mZ) (o:Int) (f:Nat) (ds:List (jY f)) (n:Nat):List Pt:=
 (List.range n).flatMap fun k=>O1 L l o f (ds.getD k (kS f)) (noT f ds k) (o8 L k)++ [((XM l f ds k).toNat,lQ (qK l 2 (noT f ds k) 0) 4 o)]
def XO (o:Int):List Pt:=(0, [77,77])::if o=1 then [(0, [73,73])]else []
def aV6 (f:Nat) (o:Int) (ds:List (jY f)) (L:List nP):List Pt:=XO o++(2,lQ 42 2 o)::chW L (kW f ds) o f ds ds.length
def yD (f:Nat) (o:Int) (ds:List (jY f)) (L:List nP):List Int:=FL (aV6 f o ds L) (List.replicate (oU f ds).toNat 0)
structure OKT (f:Nat) (o:Int) (ds:List (jY f)) (L:List nP):Prop where
 zG:mW L=true
 ord:o=1∨o=2
 n8:8≤oU f ds
 n1:oU f ds≤1000000000000
 fit:V3 f ds=true
 nx:∀k,k<ds.length→0≤o8 L k
 dir:∀k,k<ds.length→okW L (kW f ds) (oU f ds).toNat o f (ds.getD k (kS f)) (noT f ds k) (o8 L k)
 lnk:∀k,k<ds.length→0≤XM (kW f ds) f ds k∧(XM (kW f ds) f ds k).toNat+4≤(oU f ds).toNat
 pk:∀k,k<ds.length→mH (qK (kW f ds) 2 (noT f ds k) 0) 4 o=true
def aJS (f:Nat) (o:Int) (ds:List (jY f)) (L:List nP):List Int:=if oD f o ds L=0 then yD f o ds L else []
theorem aF5 (f:Nat) (o:Int) (ds:List (jY f)) (L:List nP):yD f o ds L=FL (chW L (kW f ds) o f ds ds.length) (splice (FL (XO o) (List.replicate (oU f ds).toNat 0)) 2 (lQ 42 2 o)):=by
 unfold yD aV6;rw[qG];rfl
theorem IX (f:Nat) (ds:List (jY f)) {k:Nat} (h:k<ds.length):noT f ds (k+1)=noT f ds k+(lD f (ds.getD k (kS f))).length:=by
 unfold noT oI;rw[dR,bH h,fK,dQ,cO,kF h];simp
theorem PZ (f:Nat) (ds:List (jY f)) (k:Nat):0≤noT f ds k∧noT f ds k≤(oI f ds).length:=by
 have h:(oI f ds).length=(oI f (ds.take k)).length+(oI f (ds.drop k)).length:=by
  conv=>lhs;rw[←fA k ds]
  unfold oI;rw[dQ,cO]
 unfold noT;omega
theorem aF6 (L:List nP) (l:List mZ) (o:Int) (f:Nat) (ds:List (jY f)) (k:Nat):chW L l o f ds (k+1)=chW L l o f ds k++(O1 L l o f (ds.getD k (kS f)) (noT f ds k) (o8 L k)++ [((XM l f ds k).toNat,lQ (qK l 2 (noT f ds k) 0) 4 o)]):=by
 unfold chW;rw[fZ,dQ];simp
theorem aF7 {w:World}:∀{f:Nat} {d:jY f} {ta:Option Addr} {tn tc:Nat} {sa:Option Addr} {sn sc:Nat} {ba:Option Addr} {bn bc:Nat},FN w f d (.slice ta tn tc,.slice sa sn sc,.slice ba bn bc)→mY f d→a2E f d=pU tn sn bn∧tn≤500∧sn≤500∧bn≤1000000
 |0,_,_,_,_,_,_,_,_,_,_,h,_=>h.elim
 |f+1,d,ta,tn,tc,sa,sn,sc,ba,bn,bc,h,hs=>by
  obtain⟨ta',tn',tc',zs,sa',sn',sc',ds,ba',bn',bc',hv,htg,hdt,qU,wG,_,D9⟩:=h;obtain⟨h1,h2,h3,_⟩:=hs;simp only[iF,Value.slice.injEq]at hv;obtain⟨⟨_,rfl,_⟩,⟨_,rfl,_⟩,_,rfl,_⟩:=hv;have htn:d.1.length=tn:=by rw[hdt,dF];exact htg.len
  have UG:d.2.1.length=sn:=by rw[←wG];exact qU.xZ qV aH
  have hbn:d.2.2.length=bn:=D9.p9;refine⟨?_,by omega,by omega,by omega⟩;show pU d.1.length d.2.1.length d.2.2.length=_
  rw[htn,UG,hbn]
theorem aF8 {K:Wc} {w:World} {no:Int} {P:List Int} (h:RX K w no P) (s:ByteArray) (MC:List Int) (hb:Go.Lib.byteCells s.data.toList=ints .u8 MC) (hl:MC.length=s.size) (hn:s.size≤K.n) (sT ty:TypeId):
  ∃w',(Builtin.copy_ #[24,sT] ty #[.slice (some ⟨K.gb,0,none⟩) K.n K.n,.string s]).run Tryz.prog w= .ok (goInt s.size) w'∧RX K w' no (splice P 0 MC)∧Mv K.gw K.gb wI wI w w':=by
 have tC:(Tryz.prog.info? 5).map (·.size)=some 1:=by kernel_rfl
 have hr:=Go.Lib.run_copy_row_string (P:=Tryz.prog) w 24 sT ty 5 K.gb 0 K.n K.n s (ints .u8 P).toArray 5 Tryz.underlying24 tC h.row hn (by simp[qO,h.len];exact hn);have e:(((ints .u8 P).toArray.toList.take 0++Go.Lib.byteCells s.data.toList++(ints .u8 P).toArray.toList.drop (0+s.size)).toArray)=(ints .u8 (splice P 0 MC)).toArray:=by
  rw[hb,←OP];unfold splice;simp[qO,hl]
 rw[e]at hr;refine⟨_,hr,?_,⟨rfl,rfl,rfl,by simp[World.setRow],fun k hk h2 h3 _=>setRow_other w K.gb k _ h3,fun _ h=> .inl h⟩⟩;have ho:∀k,k≠K.gb→(w.setRow K.gb (ints .u8 (splice P 0 MC)).toArray).heap[k]? =w.heap[k]? :=fun k hk=>setRow_other w K.gb k _ hk;refine⟨(ho _ h.ne).trans h.blk,setRow_heap w K.gb (ints .u8 P).toArray (ints .u8 (splice P 0 MC)).toArray 5 (0,0) h.row,by rw[qH (by rw[hl,h.len];omega)];exact h.len,?_,h.aBF,h.ne,h.aEL,by simp[World.setRow];exact h.aEM⟩;exact ZY h.sp (by simp[World.setRow]) (fun x e hx=>ho _ (h.aBF x e).2)
def Q0 (x:oZ):Int:=rT x.2.1 x.2.2.1
theorem a2V (x:oZ):0≤Q0 x:=by
 unfold Q0 rT;have:=WR x.2.1 x.2.2.1;split <;> omega
def a2F (no:Int) (ts:List oZ):List LB:=(ts.filter fun x=>decide (0<Q0 x)).map fun x=>(3,no,x.1,Q0 x)
def a02 (no:Int) (b:List Int):List LB:=if 0<b.length then [(4,no,0,(b.length:Int))]else []
def DK {f:Nat} (rec:jY f→Int→List LB):List (Int×jY f)→Int→List LB
 | [],_=> []
 |s::ss,no=>rec s.2 no++DK rec ss (no+(lD f s.2).length)
def wJ:(f:Nat)→jY f→Int→List LB
 |0,_,_=> []
 |f+1,d,no=>(2,no,0,6+12*((pU d.1.length d.2.1.length d.2.2.length:Nat):Int))::(a2F no d.1++(DK (wJ f) d.2.1 (no+1)++a02 no d.2.2))
theorem qY (f:Nat) (d:jY (f+1)) (no:Int):wJ (f+1) d no=
  (2,no,0,6+12*((pU d.1.length d.2.1.length d.2.2.length:Nat):Int))::(a2F no d.1++(DK (wJ f) d.2.1 (no+1)++a02 no d.2.2)):=rfl
def E9 (f:Nat) (ds:List (jY f)):List LB:=(1, -1,0,8)::DK (wJ f) (FP f ds) 0
theorem SA (no:Int):∀(ts:List oZ) (l:List mZ),nK no ts l=(a2F no ts).foldl NQ l
 | [],l=>rfl
 |x::ts,l=>by
  have ih:=SA no ts;unfold nK at ih ⊢;unfold a2F at ih ⊢;rw[jH,List.filter_cons];by_cases h:0<Q0 x
  ·rw[if_pos (by simpa [Q0] using h),if_pos (by simpa using h),aW,jH];exact ih _
  ·rw[if_neg (by simpa [Q0] using h),if_neg (by simpa using h)];exact ih _
theorem a03 (f:Nat) (ih:∀(d:jY f) (no:Int) (l:List mZ),yX f d no l=(wJ f d no).foldl NQ l):∀(ss:List (Int×jY f)) (no:Int) (l:List mZ),(l9 f ss (l,no)).1=(DK (wJ f) ss no).foldl NQ l
 | [],_,_=>rfl
 |s::ss,no,l=>by
  rw[yN];show(l9 f ss (yX f s.2 no l,no+(lD f s.2).length)).1=_
  rw[a03 f ih ss,ih,←fT];rfl
theorem XP:∀(f:Nat) (d:jY f) (no:Int) (l:List mZ),yX f d no l=(wJ f d no).foldl NQ l
 |0,_,_,_=>rfl
 |f+1,d,no,l=>by
  rw[L8,qY,jH,fT,fT,←SA];have hs:=a03 f (XP f) d.2.1 (no+1) (nK no d.1 (oH l 2 no 0 (6+12*(pU d.1.length d.2.1.length d.2.2.length:Nat))));rw[hs];unfold a02;split <;> rfl
theorem BR (f:Nat) (ds:List (jY f)):kW f ds=placed 0 (E9 f ds)∧nI (kW f ds)=endP 0 (E9 f ds):=by
 have h:=a4L (E9 f ds) [];have e:kW f ds=(E9 f ds).foldl NQ []:=by
  unfold kW;rw[a03 f (XP f)];rfl
 rw[e,h.2,h.1];exact⟨rfl,rfl⟩
theorem EA {f:Nat} {rec:jY f→Int→List LB}:∀{ss:List (Int×jY f)} {no:Int} {x:LB},x∈DK rec ss no→∃j,j<ss.length∧x∈rec (ss.getD j (0,kS f)).2 (no+(mD f (ss.take j)).length)
 | [],_,_,h=>by cases h
 |s::ss,no,x,h=>by
  rcases bO.1 h with h|h
  ·exact⟨0,by simp,by simpa [mD] using h⟩
  ·obtain⟨j,hj,hx⟩:=EA h;refine⟨j+1,by simpa using hj,?_⟩;have e:no+(lD f s.2).length+(mD f (ss.take j)).length=no+(mD f ((s::ss).take (j+1))).length:=by
    rw[iL];unfold mD;rw[eF,cO];omega
   rw[e]at hx;simpa using hx
theorem SB {f:Nat} {rec:jY f→Int→List LB}:∀{ss:List (Int×jY f)} {no:Int} {j:Nat},j<ss.length→∀x∈rec (ss.getD j (0,kS f)).2 (no+(mD f (ss.take j)).length),x∈DK rec ss no
 | [],_,_,h,_,_=>by simp at h
 |s::ss,no,0,_,x,hx=>bO.2 (.inl (by simpa [mD] using hx))
 |s::ss,no,j+1,h,x,hx=>by
  refine bO.2 (.inr (SB (j:=j) (by simpa using h) x ?_));have e:no+(lD f s.2).length+(mD f (ss.take j)).length=no+(mD f ((s::ss).take (j+1))).length:=by
   rw[iL];unfold mD;rw[eF,cO];omega
  rw[e];simpa using hx
theorem aBV (f:Nat) (ss:List (Int×jY f)) {j:Nat} (h:j<ss.length):(mD f (ss.take j)).length+(lD f (ss.getD j (0,kS f)).2).length≤(mD f ss).length:=by
 have:=xA f ss (j+1);rw[MP f ss h]at this;rw[kF h];exact this
theorem K6:∀(f:Nat) (d:jY f) (no:Int) (x:LB),x∈wJ f d no→no≤x.2.1∧x.2.1<no+(lD f d).length∧0≤x.2.2.2∧2≤x.1∧x.1≤4
 |0,_,_,_,h=>by cases h
 |f+1,d,no,x,h=>by
  have e:(lD (f+1) d).length=(mD f d.2.1).length+1:=by rw[pK];rfl
  rw[qY]at h;rw[e];rcases cK.1 h with rfl|h
  ·simp;omega
  rcases bO.1 h with h|h
  ·obtain⟨t,ht,rfl⟩:=dH.1 h;have:=a2V t;simp;omega
  rcases bO.1 h with h|h
  ·obtain⟨j,hj,hx⟩:=EA h;have h1:=K6 f _ _ _ hx;have h2:=aBV f d.2.1 hj;omega
  ·unfold a02 at h;split at h
   ·obtain rfl:x=_:=by simpa using h
    simp;omega
   ·cases h
def a5B:(f:Nat)→jY f→Prop
 |0,_=>True
 |f+1,d=>(d.1.Pairwise fun x y=>x.1≠y.1)∧∀s∈d.2.1,a5B f s.2
theorem MV {α β:Type} {g:α→β} {l:List α} (h:l.Pairwise fun x y=>g x≠g y):(l.map g).Nodup:=by
 unfold List.Nodup;rw[iX];exact h
theorem VE {f:Nat} (ih:∀(d:jY f) (no:Int),a5B f d→((wJ f d no).map a4M).Nodup):∀(ss:List (Int×jY f)) (no:Int),(∀s∈ss,a5B f s.2)→((DK (wJ f) ss no).map a4M).Nodup
 | [],_,_=>List.nodup_nil
 |s::ss,no,h=>by
  show((wJ f s.2 no++DK (wJ f) ss (no+(lD f s.2).length)).map a4M).Nodup
  rw[eO,jJ];refine⟨ih s.2 no (h s (bQ ..)),VE ih ss _ (fun x hx=>h x (bL _ hx)),?_⟩;intro a ha b hb e;obtain⟨x,hx,rfl⟩:=dH.1 ha;obtain⟨y,hy,rfl⟩:=dH.1 hb;obtain⟨j,hj,hy⟩:=EA hy;have h1:=K6 _ _ _ _ hx;have h2:=K6 _ _ _ _ hy;have h3:x.2.1=y.2.1:=congrArg (fun k=>k.2.1) e;omega
theorem a9P:∀(f:Nat) (d:jY f) (no:Int),a5B f d→((wJ f d no).map a4M).Nodup
 |0,_,_,_=>List.nodup_nil
 |f+1,d,no,h=>by
  obtain⟨h1,h2⟩:=h;have hV:∀x∈a2F no d.1,x.1=3∧x.2.1=no:=fun x hx=>by
   obtain⟨t,ht,rfl⟩:=dH.1 hx;exact⟨rfl,rfl⟩
  have hB:∀x∈a02 no d.2.2,x.1=4∧x.2.1=no:=fun x hx=>by
   unfold a02 at hx;split at hx
   ·obtain rfl:x=_:=by simpa using hx
    exact⟨rfl,rfl⟩
   ·cases hx
  have hS:∀x∈DK (wJ f) d.2.1 (no+1),no<x.2.1:=fun x hx=>by
   obtain⟨j,hj,hx⟩:=EA hx;have:=K6 _ _ _ _ hx;omega
  rw[qY,aW,jG,eO,jJ,eO,jJ];refine⟨?_,?_,⟨VE (a9P f) _ _ h2,?_,?_⟩,?_⟩
  ·intro hm;rw[←eO,←eO]at hm;obtain⟨x,hx,e⟩:=dH.1 hm;have e1:x.1=2:=congrArg (fun k=>k.1) e;have e2:x.2.1=no:=congrArg (fun k=>k.2.1) e;rcases bO.1 hx with hx|hx
   ·have:=hV x hx;omega
   rcases bO.1 hx with hx|hx
   ·have:=hS x hx;omega
   ·have:=hB x hx;omega
  ·unfold a2F;rw[List.map_map];refine MV ((List.Pairwise.filter _ h1).imp fun {a b} hab e=>hab ?_);exact congrArg (fun k=>k.2.2) e
  ·unfold a02;split <;> simp
  ·intro a ha b hb e;obtain⟨x,hx,rfl⟩:=dH.1 ha;obtain⟨y,hy,rfl⟩:=dH.1 hb;have e2:x.2.1=y.2.1:=congrArg (fun k=>k.2.1) e;have:=hS x hx;have:=hB y hy;omega
  ·intro a ha b hb e;obtain⟨x,hx,rfl⟩:=dH.1 ha;have h3:=hV x hx;rw[←eO]at hb;obtain⟨y,hy,rfl⟩:=dH.1 hb;have e1:x.1=y.1:=congrArg (fun k=>k.1) e;have e2:x.2.1=y.2.1:=congrArg (fun k=>k.2.1) e;rcases bO.1 hy with hy|hy
   ·have:=hS y hy;omega
   ·have:=hB y hy;omega
theorem SC (f:Nat) (ds:List (jY f)):∀x∈E9 f ds,0≤x.2.2.2:=fun x hx=>by
 rcases cK.1 hx with rfl|hx
 ·decide
 ·obtain⟨j,_,hx⟩:=EA hx;exact(K6 _ _ _ _ hx).2.2.1
theorem aQE (f:Nat) (ds:List (jY f)) (h:∀d∈ds,a5B f d):((E9 f ds).map a4M).Nodup:=by
 unfold E9;rw[aW,jG];refine⟨fun hm=>?_,VE (a9P f) _ _ fun s hs=>?_⟩
 ·obtain⟨x,hx,e⟩:=dH.1 hm;obtain⟨j,_,hx⟩:=EA hx;have h1:=K6 _ _ _ _ hx;have e1:x.1=1:=congrArg (fun k=>k.1) e;omega
 ·obtain⟨d,hd,rfl⟩:=dH.1 hs;exact h d hd
theorem LK (f:Nat) (ds:List (jY f)) (h:∀d∈ds,a5B f d):((kW f ds).map IL).Nodup:=by
 rw[(BR f ds).1,a18];exact aQE f ds h
theorem IY (f:Nat) (ds:List (jY f)):(kW f ds).Pairwise Ahead:=by
 rw[(BR f ds).1];exact X7 _ _ (gX _) (SC f ds)
theorem LM {f:Nat} {ds:List (jY f)} (h:∀d∈ds,a5B f d) {x:LB} (hx:x∈E9 f ds):∃s∈kW f ds,IL s=a4M x∧s.2.2.2.2=x.2.2.2∧s.2.2.2.1=qK (kW f ds) x.1 x.2.1 x.2.2.1∧(kW f ds).any (atP x.1 x.2.1 x.2.2.1)=true∧0≤s.2.2.2.1∧s.2.2.2.1 % 2=0∧s.2.2.2.1+x.2.2.2≤nI (kW f ds):=by
 have he:=BR f ds;obtain⟨s,h1,h2,h3⟩:=a4N (E9 f ds) 0 x hx;have h4:=LC (E9 f ds) 0 (gX _) (SC f ds) s h1;rw[←he.1]at h1;rw[←he.2]at h4;have h5:=aMY (LK f ds h) h1;have e1:s.1=x.1:=congrArg (fun k=>k.1) h2;have e2:s.2.1=x.2.1:=congrArg (fun k=>k.2.1) h2;have e3:s.2.2.1=x.2.2.1:=congrArg (fun k=>k.2.2) h2;rw[e1,e2,e3]at h5;exact⟨s,h1,h2,h3,h5.2.symm,h5.1,h4.1,h4.2.1,by rw[←h3];exact h4.2.2.2⟩
theorem b45 {f:Nat} {ds:List (jY f)} (h:∀d∈ds,a5B f d) {a b c:Int} {m:Int} (hx:((a,b,c,m):LB)∈E9 f ds) {n k:Nat} (hn:nI (kW f ds)≤n) (hk:(k:Int)≤m):Fits (kW f ds) n a b c k:=by
 obtain⟨s,h1,h2,h3,h4,h5,h6,h7,h8⟩:=LM h hx;simp only at h4 h5 h8;refine⟨h5,by rw[←h4];exact h6,?_⟩;rw[←h4];omega
