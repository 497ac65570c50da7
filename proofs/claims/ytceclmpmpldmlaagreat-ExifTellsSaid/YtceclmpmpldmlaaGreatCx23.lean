import Derived.Test.YtceclmpmpldmlaaGreatCx22
import Derived.Lib.BufferWrite
import Derived.Test.YtceclmpmpldmlaaGreatCx21
set_option linter.unusedSimpArgs false
set_option linter.unusedVariables false
namespace Go.Proofs.YtceclmpmpldmlaaGreat
open Go.RowKit Tt
theorem aSN (f:Nat) (o:Int) (sa:Option Addr) (sn sc:Nat) (ds:List (jR f)) (w:World) (h:yP f w sa sn sc ds) (hs:∀d∈ds,lN f d) (rU:∀d∈ds,BJ f d) (hN:(lK f ds).length<1000):
  Calls Tryz.prog 11 #[.agg #[.int .i64 o,.slice sa sn sc]] w fun e w'=>((GD f ds=true∧∃v,e= .returned (.tuple #[v,.bool true])∧Spr w.heap.size w' v (jX f ds))∨(GD f ds=false∧e= .returned (.tuple #[.slice none 0 0,.bool false])))∧Below w.heap.size w w':=
 aCI f o sa sn sc ds w h hs hN fun W hW=>aD6 f o sa sn sc ds W (h.mono hW) hs rU
theorem a3E (f:Nat) (o:Int) (sa:Option Addr) (sn sc:Nat) (ds:List (jR f)) (w:World) (h:yP f w sa sn sc ds) (hs:∀d∈ds,lN f d) (rU:∀d∈ds,BJ f d) (hN:(lK f ds).length<1000):
  Calls Tryz.prog 12 #[.agg #[.int .i64 o,.slice sa sn sc]] w fun e w'=>e= .returned (.int .i64 (nS f ds))∧Below w.heap.size w w':=
 aRL f o sa sn sc ds w h hs hN fun W hW=>aD6 f o sa sn sc ds W (h.mono hW) hs rU
theorem aKH:(Tryz.prog.info? 3).map (fun i=>(i.zero,i.size,i.bytes))=some (some (.int .i64 0),1,8):=by kernel_rfl
def aZC:Value→Nat
 | .slice _ n _=>n
 |_=>0
def a3F (L:List rQ) (n:Nat):List Int:=(List.range n).map (nA L)
theorem a88 (L:List rQ) (n:Nat):a3F L (n+1)=a3F L n++ [nA L n]:=by unfold a3F;rw[eO,dI];rfl
theorem aD7 (L:List rQ) (n:Nat):(a3F L n).length=n:=by unfold a3F;simp
set_option maxRecDepth 20000 in
set_option maxHeartbeats 8000000 in
theorem aHH (f:Nat) (o:Int) (sa:Option Addr) (sn sc:Nat) (ds:List (jR f)) (a:Option Addr) (n c:Nat) (zs:List QN) (w:World) (h:yP f w sa sn sc ds) (hz:ShR w a n c zs) (hs:∀d∈ds,lN f d) (rU:∀d∈ds,BJ f d) (hN:(lK f ds).length<1000) (AR:sn≤500):
  Calls Tryz.prog 13 #[.agg #[.int .i64 o,.slice sa sn sc],.slice a n c] w fun e w'=>e= .returned (.int .i64 (tY f o ds (jP zs)))∧Below w.heap.size w w':=by
 have jY:=aD w (.cells #[.int .i64 o,.slice sa sn sc] 39);have bk:=jW.new w 39 #[.int .i64 o,.slice sa sn sc];obtain⟨W1,pR⟩:=aC (w.alloc (.cells #[.int .i64 o,.slice sa sn sc] 39));rw[pR]at jY bk;have hSh:=aGB a n c zs W1 (hz.mono jY);have qJ:=hz.len;have bP8:=hz.row.le;have bP9:=hz.row.max;obtain⟨R,hR⟩:=aC (tY f o ds (jP zs));rw[hR];unfold tY at hR;have sM:ds.length=sn:=by
  obtain⟨xC,oQ,nL,_⟩:=h;rw[←oQ];exact nL.rP mP aH
 obtain⟨shb,aHI⟩:∃b,nO (jP zs)=b:=⟨_,rfl⟩;rw[aHI]at hSh hR;rw[sM]at hR;obtain⟨i0,xH,sN,oG,qK⟩:=info_parts aKH;obtain⟨h',AQ,pX,wJ⟩:=aL h hz hs rU;obtain⟨YD,U2,kR,y8,b7J,mX,vG,wI,VF⟩:=aQ hN bk jY pR hSh qJ hR sM aHI;clear h hz hs rU hN bk jY pR hSh qJ hR sM aHI;go_enter Tryz.func13,Tryz.ntmps13;go_wp2_with fail
 refine((by rw[y8.o];exact b7J.o):Calls Tryz.prog 47 _ _ _).mono ?_;rintro e w2 ⟨rfl,jT⟩;have bk2:=U2.o.late jT;have lJ:=kR.o.tm jT;cases shb with
 |false=>
  obtain rfl:R=1:=by rw[←vG.o];rfl
  obtain⟨mE,JO,lG⟩:=aK jT bk2 lJ;clear jT bk2 lJ;go_wp2_with fail
  go_ret;exact⟨rfl,lG.o⟩
 |true=>
 have c0:=bk2.cell (i:=0) rfl;have c1:=bk2.cell (i:=1) rfl;rw[dD]at vG;by_cases ho:o=1∨o=2
 case neg=>
  have h1:(o != 1)=true:=by simp;omega
  have h2:(o != 2)=true:=by simp;omega
  obtain rfl:R=1:=by rw[←vG.o,decide_eq_false (show ¬o=1 by omega),decide_eq_false (show ¬o=2 by omega)];rfl
  clear ho;obtain⟨mE,JO,lG⟩:=aK jT bk2 lJ;clear jT bk2 lJ;go_wp2_with fail
  go_ret;exact⟨rfl,lG.o⟩
 case pos=>
 have hoB:(decide (o=1)||decide (o=2))=true:=by simpa using ho
 rw[hoB,dD]at vG;clear hoB;rcases ho with rfl|rfl
 ·have h1:((1:Int) != 1)=false:=by simp
  have h2:True:=trivial;by_cases wC:sn=0
  ·have h3:((sn:Int)==0)=true:=by simp[wC]
   have h4:(sn==0)=true:=by simp[wC]
   obtain rfl:R=1:=by rw[←vG.o,decide_eq_true wC];rfl
   clear wC;obtain⟨mE,JO,lG⟩:=aK jT bk2 lJ;clear jT bk2 lJ;go_wp2_with fail
   go_ret;exact⟨rfl,lG.o⟩
  ·have h3:((sn:Int)==0)=false:=by simp;omega
   have h4:(sn==0)=false:=by simp;omega
   rw[decide_eq_false wC,if_pos (by rfl)]at vG;obtain⟨mE,JO,lG⟩:=aK jT bk2 lJ;clear jT bk2 lJ;go_wp2_with fail
   clear h1 h2 h3 h4 c0 c1;go_loopw [5,6] (fun v iv wr=>∃(k:Nat) (xa:Option Addr) (xc:Nat),k≤sn∧v= .slice xa k xc∧iv= .int .i64 (nA (jP zs) k)∧Hid (wr.ownsRow w2.heap.size 3 1 (.slice xa k xc) k (ints .i64 (a3F (jP zs) k)))∧Hid (chainB (jP zs) k=true)∧Hid (Below w2.heap.size w2 wr)) (fun v _ _=>sn - aZC v)
   case atStart=>exact⟨0,none,0,by omega,rfl,rfl,aA (kF _ _ _ _),aA rfl,aA (aY _ _)⟩
   case round=>
    obtain⟨k,xa,xc,hk,rfl,rfl,kY,hch,hb⟩:=hrel;have CY:=JO.o.late hb.o;have c1:=CY.cell (i:=1) rfl;have zM:=I9 VF.o k;have aHJ:(jP zs).length=n:=by unfold jP;rw[bL];exact mX.o
    rw[aHJ]at zM;have vI:=NV (L:=jP zs) (n:=k);rw[hch.o,dD]at vI;have qW:=fun(kD:k<sn) hh=>XI (L:=jP zs) (n:=sn) (k:=k) kD hh;have hnS:nA (jP zs) (k+1)=((jP zs).getD (nA (jP zs) k).toNat mD).2.2.2:=rfl;have TY:=a88 (jP zs) k;obtain⟨at_,EL⟩:∃x,nA (jP zs) k=x:=⟨_,rfl⟩;rw[EL]at zM vI qW hnS TY ⊢;obtain⟨JR,zN,sW,aHK,U0,YE⟩:=aN CY vI qW hnS TY EL;clear CY vI qW hnS TY EL;go_upto_region 5 with fail
    go_cut [37]from 28 to 37 (fun v wx=>v= .bool (decide (0≤at_)&&decide (k<sn))∧wr=wx)
    case first=>
     by_cases ha:0≤at_
     ·have ha1:decide (0≤at_)=true:=by simp;omega
      by_cases hks:k<sn
      ·have hk3:decide ((k:Int)<(sn:Int))=true:=by simp;omega
       have hk4:decide (k<sn)=true:=by simp;omega
       go_wp2_with fail
       go_meet
       exact⟨by rw[ha1,hk4];rfl,rfl⟩
      ·have hk3:decide ((k:Int)<(sn:Int))=false:=by simp;omega
       have hk4:decide (k<sn)=false:=by simp;omega
       go_wp2_with fail
       go_meet
       exact⟨by rw[ha1,hk4];rfl,rfl⟩
     ·have ha1:decide (0≤at_)=false:=by simp;omega
      go_wp2_with fail
      go_meet
      exact⟨by rw[ha1];rfl,rfl⟩
    case rest=>
    obtain⟨rfl,rfl⟩:=hcut;clear c1;by_cases hgo:0≤at_∧k<sn
    ·obtain⟨ha,hks⟩:=hgo;rw[decide_eq_true ha,decide_eq_true hks];obtain⟨ai,rfl⟩:∃ai:Nat,at_=ai:=⟨at_.toNat,by omega⟩;have yJ:(ai:Int)<n:=by omega
     have rD:ai<n:=by omega
     have yA:=lG.o.tm hb.o;have hzr:=AQ.o.mono yA;obtain⟨b,o2,rfl,lC,fe⟩:=hzr.row.elem qD aH sJ rD;rw[bM,qL (by rw[mX.o];exact rD)]at aHK;have f3:=fe 3 _ rfl;rw[←aHK.o]at f3;clear fe;have AJ:=Sl.new' wr 3 1 1 (ints .i64 [(ai:Int)]).toArray (0,0) (by first|rfl|simp) aG rfl;have aD8:chainB (jP zs) (k+1)=true:=zN.o.trans (decide_eq_true aG);have l9:=aD wr (.cells #[.int .i64 ai] 3);have aD9:b<w2.heap.size:=by
      obtain⟨b',o',e,mO,_⟩:=(AQ.o.mono lG.o).row.elem qD aH sJ rD;injection e with e;injection e with e1 e2;omega
     obtain⟨NT,bPA,GZ,a8A,oL⟩:=aM yA hzr AJ aD8 l9;clear yA hzr AJ aD8 l9;go_wp2_with (at_builtin;refine kK rfl _ _ 102 rfl w2.heap.size 3 i0 _ 1 8 Tryz.underlying102 xH sN oG qK rfl aH _ k _ rfl (eG kY.o _) _ 1 1 (ints .i64 [(ai:Int)]) rfl GZ.o oK aG aH (by have:=hb.o.size;simp;omega) ?_;intro a5 c5 w5 ob nZ nW;obtain⟨Ob,Hb5⟩:=aJ ob ((hb.o.tm oL.o).trans nZ);have f5:w5.cell? ⟨b,o2+ai*4+3,none⟩=some (.int .i64 (nA (jP zs) (k+1))):=(nZ.cell aD9).trans ((oL.o.cell (cK aD9 hb.o.size)).trans f3);clear ob nZ nW)
     go_roundw
     case rel=>exact⟨k+1,a5,c5,by omega,rfl,rfl,aA (by rw[U0.o,mG];exact Ob.o),a8A,Hb5⟩
     case measure=>simp[aZC];omega
    ·have hgB:(decide (0≤at_)&&decide (k<sn))=false:=by
      by_cases ha:0≤at_
      ·rw[decide_eq_true ha,decide_eq_false (show ¬k<sn by omega)];rfl
      ·rw[decide_eq_false ha];rfl
     rw[hgB];have c1:=JR.o.cell (i:=1) rfl;have yQ:=lG.o.tm hb.o;by_cases hks:k<sn
     ·obtain rfl:R=1:=by
       have hcn:=sW.o hks aG;rw[←vG.o,hcn];rfl
      have bPB:(k:Int)<sn:=by omega
      have hk3:decide ((k:Int)<(sn:Int))=true:=by simp;omega
      have oZ:=aA yQ;clear yQ;go_wp2_with fail
      go_ret;exact⟨rfl,oZ.o⟩
     ·obtain rfl:k=sn:=by omega
      have hcr:=hch.o;rw[hch.o,if_pos (by rfl)]at vG;have hk3:decide ((k:Int)<(k:Int))=false:=by simp
      have hk5:¬(k:Int)<(k:Int):=by omega
      have aSO:=(Sl.jU kY.o).1;obtain⟨oZ,b7K,aSP⟩:=aK yQ hcr aSO;clear yQ hcr aSO;clear hgo hgB hk hks zM;go_wp2_with fail
      clear c1;go_loopw [56] (fun iv wx=>∃i:Nat,i≤k∧iv= .int .i64 i∧Hid (∀j,j<i→nJ (jP zs) f (ds.getD j (lY f)) (nA (jP zs) j)=true)∧Hid (Below wr.heap.size wr wx)) (fun iv _=>k - (intOf iv).toNat)
      case atStart=>exact⟨0,by omega,rfl,aA (fun j hj=>by omega),aA (aY _ _)⟩
      case round=>
       obtain⟨i,hi,rfl,kS,xI⟩:=hrel;have a9X:=oZ.o.tm xI.o;by_cases kD:i<k
       ·obtain⟨xC,oQ,nL,nR⟩:=h'.o;have hid:i<ds.length:=by rw[wI.o];exact kD
        have nV:i<xC.length:=by rw[oQ];exact hid
        obtain⟨b,o2,rfl,lC,fe⟩:=(nL.mono a9X).elem mP aH dzz kD;rw[jO nV]at fe;have nD:=nR i nV hid;obtain⟨ua,un,uc,ra,rn,rc,ya,yn,yc,hv⟩:=nD.v;have g0:=fe 0 _ rfl;have g1:=fe 1 _ rfl;have g2:=fe 2 _ rfl;clear fe nL nR;rw[hv]at nD g0 g1 g2;simp only[bU]at g0 g1 g2;have sS:IntKind.i64.wrap ((i:Int)+1)=i+1:=by rw[bF];omega
        have I4:(i:Int)<(k:Int):=by omega
        have bPC:(0:Int)≤(i:Int):=by omega
        have hni:=I9 VF.o i;rw[aHJ]at hni;have bPD:0≤nA (jP zs) i:=by
         have:=dQ.1 b7K.o i (dF.2 kD);simpa using this
        obtain⟨si,ZN⟩:∃si:Nat,nA (jP zs) i=si:=⟨(nA (jP zs) i).toNat,by omega⟩;have KJ:ds.getD i (lY f)=ds[i]:=by rw[jO hid]
        have CF:nJ (jP zs) f ds[i] si=false→R=6:=fun hh=>by
         have:hasAll (jP zs) f ds=false:=NU (k:=i) (by rw[wI.o];exact kD) (by rw[KJ,ZN];exact hh);rw[←vG.o,this];rfl
        have nP:nJ (jP zs) f ds[i] si=true→∀j,j<i+1→nJ (jP zs) f (ds.getD j (lY f)) (nA (jP zs) j)=true:=fun hv j hj=>by
         by_cases TT:j=i
         ·subst TT;rw[KJ,ZN];exact hv
         ·exact kS.o j aG
        have l9:=aD wr (.cells #[.slice ua un uc,.slice ra rn rc,.slice ya yn yc] 26);have bd:=jW.new wr 26 #[.slice ua un uc,.slice ra rn rc,.slice ya yn yc];have jQ:=xI.o.tm l9;have sD:=oZ.o.tm jQ;have aSQ:=aSP.o.mono jQ;have tH:=pX.o _ (bJ hid);have IE:=wJ.o _ (bJ hid);generalize ds[i]=dd at*;obtain⟨sH,zH,xE,bCB,nE,lW,oL,bd',qN,nX,aDA,aHC⟩:=aT oQ nD hv hni CF nP l9 bd jQ sD aSQ ZN;obtain⟨aFM,yG,NZ⟩:=aK KJ tH IE;clear oQ nD hv hni CF nP l9 bd jQ sD aSQ ZN KJ tH IE;go_wp2_with fail
        obtain⟨w3,HY⟩:=aC (wr.alloc (.cells #[.slice ua un uc,.slice ra rn rc,.slice ya yn yc] 26));rw[HY]at bd' qN nX aDA ⊢;clear g0 g1 g2;obtain⟨g3,hg3⟩:=aC wr.heap.size;rw[hg3]at bd' ⊢;obtain⟨xb,xo,rfl,GJ,hxc⟩:=aDA.o.at kD;have hx1:=hxc i _ (oP (by rw[aD7];exact kD));have hxe:(a3F (jP zs) k).getD i 0=si:=by
         unfold a3F;rw[bH,iJ,List.getElem?_range kD];exact aHC.o
        rw[hxe]at hx1;clear hxc;obtain⟨Ty,ff,oJ,jN,jK⟩:=kE w3;have HS:=aA (jK _ ((aY _ _).drew));have q0:=fun s=>(bd'.o.late (jN s)).cell (i:=0) rfl;have q1:=fun s=>(bd'.o.late (jN s)).cell (i:=1) rfl;have q2:=fun s=>(bd'.o.late (jN s)).cell (i:=2) rfl;have q3:∀s,(ff s).cell? ⟨xb,xo+i,none⟩=some (.int .i64 si):=fun s=>late (jN s) GJ hx1;have hHS:=fun s=>aKG zs a n c f w (ff s) dd (.slice ua un uc,.slice ra rn rc,.slice ya yn yc) si AQ.o (nX.o.trans ((jN s).mono nX.o.size)) zH.o yG.o NZ.o VF.o (by have:=bCB.o;have:=aHC.o;omega);simp only at hHS;obtain⟨hb,hhb⟩:=aC (nJ (jP zs) f dd si);rw[hhb]at hHS nE lW;clear hx1 hxe;obtain⟨jH,jF,CO,bPE,bGC,a9O,bSQ⟩:=aO jN jK hHS hhb GJ HY hg3;clear jN jK hHS hhb GJ HY hg3;cases hb with
        |false=>
         refine jL ff aF aF HS.o ?_;iterate 9 (go_big_quiet_step ((go_at_call 48;refine(CO.o _).mono ?_;rintro e w3 ⟨rfl,jQ⟩;exact⟨rfl,jF.o _ ((jH.o _).tm jQ)⟩)))
         refine wpQuiet_nil ?_;intro s;have kJ:=jH.o s;have qZ:=nX.o.tm kJ;obtain rfl:=nE.o rfl;obtain⟨mR,kW⟩:=aJ kJ qZ;clear kJ qZ;go_wp2_with fail
         go_ret;exact⟨rfl,kW.o⟩
        |true=>
         refine jL ff aF aF HS.o ?_;iterate 9 (go_big_quiet_step ((go_at_call 48;refine(CO.o _).mono ?_;rintro e w3 ⟨rfl,jQ⟩;exact⟨rfl,jF.o _ ((jH.o _).tm jQ)⟩)))
         refine wpQuiet_nil ?_;intro s;have kJ:=jH.o s;have mF:=qN.o.tm kJ;obtain⟨mR,rT⟩:=aJ kJ mF;clear kJ mF;go_wp2_with fail
         go_roundw
         case rel=>exact⟨i+1,by omega,by go_num,aA (lW.o rfl),rT⟩
         case measure=>simp[intOf];omega
       ·obtain rfl:i=k:=by omega
        have hA:hasAll (jP zs) f ds=true:=DZ (fun j hj=>kS.o j (by rw[wI.o]at hj;exact hj));rw[hA,if_pos (by rfl)]at vG;have bkx:=JR.o.late xI.o;have o0:=bkx.cell (i:=0) rfl;have o1:=bkx.cell (i:=1) rfl;have hL:=fun oo=>a3E f oo sa i sc ds wr (h'.o.mono a9X) pX.o wJ.o YD.o;obtain⟨lg,hlg⟩:∃x,nS f ds=x:=⟨_,rfl⟩;simp only[hlg]at hL vG;obtain⟨bPF,hL',bGD,aDB⟩:=aL bkx hL hlg a9X;clear bkx hL hlg a9X;go_wp2_with fail
        refine(hL'.o _).mono ?_;rintro e w5 ⟨rfl,nZ⟩;have wN:=aDB.o.tm nZ;by_cases hl0:lg=0
        ·have oG:(lg==0)=true:=by simp[hl0]
         obtain rfl:R=7:=by rw[←vG.o,if_pos hl0]
         obtain⟨nN,xJ⟩:=aJ wN nZ;clear wN nZ;go_wp2_with fail
         go_ret;exact⟨rfl,nN.o⟩
        ·have oG:(lg==0)=false:=by simp[hl0]
         obtain rfl:R=0:=by rw[←vG.o,if_neg hl0]
         obtain⟨nN,xJ⟩:=aJ wN nZ;clear wN nZ;go_wp2_with fail
         go_ret;exact⟨rfl,nN.o⟩
 ·have h1:((2:Int) != 1)=true:=by simp
  have h2:((2:Int) != 2)=false:=by simp
  by_cases wC:sn=0
  ·have h3:((sn:Int)==0)=true:=by simp[wC]
   have h4:(sn==0)=true:=by simp[wC]
   obtain rfl:R=1:=by rw[←vG.o,decide_eq_true wC];rfl
   clear wC;obtain⟨mE,JO,lG⟩:=aK jT bk2 lJ;clear jT bk2 lJ;go_wp2_with fail
   go_ret;exact⟨rfl,lG.o⟩
  ·have h3:((sn:Int)==0)=false:=by simp;omega
   have h4:(sn==0)=false:=by simp;omega
   rw[decide_eq_false wC,if_pos (by rfl)]at vG;obtain⟨mE,JO,lG⟩:=aK jT bk2 lJ;clear jT bk2 lJ;go_wp2_with fail
   clear h1 h2 h3 h4 c0 c1;go_loopw [5,6] (fun v iv wr=>∃(k:Nat) (xa:Option Addr) (xc:Nat),k≤sn∧v= .slice xa k xc∧iv= .int .i64 (nA (jP zs) k)∧Hid (wr.ownsRow w2.heap.size 3 1 (.slice xa k xc) k (ints .i64 (a3F (jP zs) k)))∧Hid (chainB (jP zs) k=true)∧Hid (Below w2.heap.size w2 wr)) (fun v _ _=>sn - aZC v)
   case atStart=>exact⟨0,none,0,by omega,rfl,rfl,aA (kF _ _ _ _),aA rfl,aA (aY _ _)⟩
   case round=>
    obtain⟨k,xa,xc,hk,rfl,rfl,kY,hch,hb⟩:=hrel;have CY:=JO.o.late hb.o;have c1:=CY.cell (i:=1) rfl;have zM:=I9 VF.o k;have aHJ:(jP zs).length=n:=by unfold jP;rw[bL];exact mX.o
    rw[aHJ]at zM;have vI:=NV (L:=jP zs) (n:=k);rw[hch.o,dD]at vI;have qW:=fun(kD:k<sn) hh=>XI (L:=jP zs) (n:=sn) (k:=k) kD hh;have hnS:nA (jP zs) (k+1)=((jP zs).getD (nA (jP zs) k).toNat mD).2.2.2:=rfl;have TY:=a88 (jP zs) k;obtain⟨at_,EL⟩:∃x,nA (jP zs) k=x:=⟨_,rfl⟩;rw[EL]at zM vI qW hnS TY ⊢;obtain⟨JR,zN,sW,aHK,U0,YE⟩:=aN CY vI qW hnS TY EL;clear CY vI qW hnS TY EL;go_upto_region 5 with fail
    go_cut [37]from 28 to 37 (fun v wx=>v= .bool (decide (0≤at_)&&decide (k<sn))∧wr=wx)
    case first=>
     by_cases ha:0≤at_
     ·have ha1:decide (0≤at_)=true:=by simp;omega
      by_cases hks:k<sn
      ·have hk3:decide ((k:Int)<(sn:Int))=true:=by simp;omega
       have hk4:decide (k<sn)=true:=by simp;omega
       go_wp2_with fail
       go_meet
       exact⟨by rw[ha1,hk4];rfl,rfl⟩
      ·have hk3:decide ((k:Int)<(sn:Int))=false:=by simp;omega
       have hk4:decide (k<sn)=false:=by simp;omega
       go_wp2_with fail
       go_meet
       exact⟨by rw[ha1,hk4];rfl,rfl⟩
     ·have ha1:decide (0≤at_)=false:=by simp;omega
      go_wp2_with fail
      go_meet
      exact⟨by rw[ha1];rfl,rfl⟩
    case rest=>
    obtain⟨rfl,rfl⟩:=hcut;clear c1;by_cases hgo:0≤at_∧k<sn
    ·obtain⟨ha,hks⟩:=hgo;rw[decide_eq_true ha,decide_eq_true hks];obtain⟨ai,rfl⟩:∃ai:Nat,at_=ai:=⟨at_.toNat,by omega⟩;have yJ:(ai:Int)<n:=by omega
     have rD:ai<n:=by omega
     have yA:=lG.o.tm hb.o;have hzr:=AQ.o.mono yA;obtain⟨b,o2,rfl,lC,fe⟩:=hzr.row.elem qD aH sJ rD;rw[bM,qL (by rw[mX.o];exact rD)]at aHK;have f3:=fe 3 _ rfl;rw[←aHK.o]at f3;clear fe;have AJ:=Sl.new' wr 3 1 1 (ints .i64 [(ai:Int)]).toArray (0,0) (by first|rfl|simp) aG rfl;have aD8:chainB (jP zs) (k+1)=true:=zN.o.trans (decide_eq_true aG);have l9:=aD wr (.cells #[.int .i64 ai] 3);have aD9:b<w2.heap.size:=by
      obtain⟨b',o',e,mO,_⟩:=(AQ.o.mono lG.o).row.elem qD aH sJ rD;injection e with e;injection e with e1 e2;omega
     obtain⟨NT,bPA,GZ,a8A,oL⟩:=aM yA hzr AJ aD8 l9;clear yA hzr AJ aD8 l9;go_wp2_with (at_builtin;refine kK rfl _ _ 102 rfl w2.heap.size 3 i0 _ 1 8 Tryz.underlying102 xH sN oG qK rfl aH _ k _ rfl (eG kY.o _) _ 1 1 (ints .i64 [(ai:Int)]) rfl GZ.o oK aG aH (by have:=hb.o.size;simp;omega) ?_;intro a5 c5 w5 ob nZ nW;obtain⟨Ob,Hb5⟩:=aJ ob ((hb.o.tm oL.o).trans nZ);have f5:w5.cell? ⟨b,o2+ai*4+3,none⟩=some (.int .i64 (nA (jP zs) (k+1))):=(nZ.cell aD9).trans ((oL.o.cell (cK aD9 hb.o.size)).trans f3);clear ob nZ nW)
     go_roundw
     case rel=>exact⟨k+1,a5,c5,by omega,rfl,rfl,aA (by rw[U0.o,mG];exact Ob.o),a8A,Hb5⟩
     case measure=>simp[aZC];omega
    ·have hgB:(decide (0≤at_)&&decide (k<sn))=false:=by
      by_cases ha:0≤at_
      ·rw[decide_eq_true ha,decide_eq_false (show ¬k<sn by omega)];rfl
      ·rw[decide_eq_false ha];rfl
     rw[hgB];have c1:=JR.o.cell (i:=1) rfl;have yQ:=lG.o.tm hb.o;by_cases hks:k<sn
     ·obtain rfl:R=1:=by
       have hcn:=sW.o hks aG;rw[←vG.o,hcn];rfl
      have bPB:(k:Int)<sn:=by omega
      have hk3:decide ((k:Int)<(sn:Int))=true:=by simp;omega
      have oZ:=aA yQ;clear yQ;go_wp2_with fail
      go_ret;exact⟨rfl,oZ.o⟩
     ·obtain rfl:k=sn:=by omega
      have hcr:=hch.o;rw[hch.o,if_pos (by rfl)]at vG;have hk3:decide ((k:Int)<(k:Int))=false:=by simp
      have hk5:¬(k:Int)<(k:Int):=by omega
      have aSO:=(Sl.jU kY.o).1;obtain⟨oZ,b7K,aSP⟩:=aK yQ hcr aSO;clear yQ hcr aSO;clear hgo hgB hk hks zM;go_wp2_with fail
      clear c1;go_loopw [56] (fun iv wx=>∃i:Nat,i≤k∧iv= .int .i64 i∧Hid (∀j,j<i→nJ (jP zs) f (ds.getD j (lY f)) (nA (jP zs) j)=true)∧Hid (Below wr.heap.size wr wx)) (fun iv _=>k - (intOf iv).toNat)
      case atStart=>exact⟨0,by omega,rfl,aA (fun j hj=>by omega),aA (aY _ _)⟩
      case round=>
       obtain⟨i,hi,rfl,kS,xI⟩:=hrel;have a9X:=oZ.o.tm xI.o;by_cases kD:i<k
       ·obtain⟨xC,oQ,nL,nR⟩:=h'.o;have hid:i<ds.length:=by rw[wI.o];exact kD
        have nV:i<xC.length:=by rw[oQ];exact hid
        obtain⟨b,o2,rfl,lC,fe⟩:=(nL.mono a9X).elem mP aH dzz kD;rw[jO nV]at fe;have nD:=nR i nV hid;obtain⟨ua,un,uc,ra,rn,rc,ya,yn,yc,hv⟩:=nD.v;have g0:=fe 0 _ rfl;have g1:=fe 1 _ rfl;have g2:=fe 2 _ rfl;clear fe nL nR;rw[hv]at nD g0 g1 g2;simp only[bU]at g0 g1 g2;have sS:IntKind.i64.wrap ((i:Int)+1)=i+1:=by rw[bF];omega
        have I4:(i:Int)<(k:Int):=by omega
        have bPC:(0:Int)≤(i:Int):=by omega
        have hni:=I9 VF.o i;rw[aHJ]at hni;have bPD:0≤nA (jP zs) i:=by
         have:=dQ.1 b7K.o i (dF.2 kD);simpa using this
        obtain⟨si,ZN⟩:∃si:Nat,nA (jP zs) i=si:=⟨(nA (jP zs) i).toNat,by omega⟩;have KJ:ds.getD i (lY f)=ds[i]:=by rw[jO hid]
        have CF:nJ (jP zs) f ds[i] si=false→R=6:=fun hh=>by
         have:hasAll (jP zs) f ds=false:=NU (k:=i) (by rw[wI.o];exact kD) (by rw[KJ,ZN];exact hh);rw[←vG.o,this];rfl
        have nP:nJ (jP zs) f ds[i] si=true→∀j,j<i+1→nJ (jP zs) f (ds.getD j (lY f)) (nA (jP zs) j)=true:=fun hv j hj=>by
         by_cases TT:j=i
         ·subst TT;rw[KJ,ZN];exact hv
         ·exact kS.o j aG
        have l9:=aD wr (.cells #[.slice ua un uc,.slice ra rn rc,.slice ya yn yc] 26);have bd:=jW.new wr 26 #[.slice ua un uc,.slice ra rn rc,.slice ya yn yc];have jQ:=xI.o.tm l9;have sD:=oZ.o.tm jQ;have aSQ:=aSP.o.mono jQ;have tH:=pX.o _ (bJ hid);have IE:=wJ.o _ (bJ hid);generalize ds[i]=dd at*;obtain⟨sH,zH,xE,bCB,nE,lW,oL,bd',qN,nX,aDA,aHC⟩:=aT oQ nD hv hni CF nP l9 bd jQ sD aSQ ZN;obtain⟨aFM,yG,NZ⟩:=aK KJ tH IE;clear oQ nD hv hni CF nP l9 bd jQ sD aSQ ZN KJ tH IE;go_wp2_with fail
        obtain⟨w3,HY⟩:=aC (wr.alloc (.cells #[.slice ua un uc,.slice ra rn rc,.slice ya yn yc] 26));rw[HY]at bd' qN nX aDA ⊢;clear g0 g1 g2;obtain⟨g3,hg3⟩:=aC wr.heap.size;rw[hg3]at bd' ⊢;obtain⟨xb,xo,rfl,GJ,hxc⟩:=aDA.o.at kD;have hx1:=hxc i _ (oP (by rw[aD7];exact kD));have hxe:(a3F (jP zs) k).getD i 0=si:=by
         unfold a3F;rw[bH,iJ,List.getElem?_range kD];exact aHC.o
        rw[hxe]at hx1;clear hxc;obtain⟨Ty,ff,oJ,jN,jK⟩:=kE w3;have HS:=aA (jK _ ((aY _ _).drew));have q0:=fun s=>(bd'.o.late (jN s)).cell (i:=0) rfl;have q1:=fun s=>(bd'.o.late (jN s)).cell (i:=1) rfl;have q2:=fun s=>(bd'.o.late (jN s)).cell (i:=2) rfl;have q3:∀s,(ff s).cell? ⟨xb,xo+i,none⟩=some (.int .i64 si):=fun s=>late (jN s) GJ hx1;have hHS:=fun s=>aKG zs a n c f w (ff s) dd (.slice ua un uc,.slice ra rn rc,.slice ya yn yc) si AQ.o (nX.o.trans ((jN s).mono nX.o.size)) zH.o yG.o NZ.o VF.o (by have:=bCB.o;have:=aHC.o;omega);simp only at hHS;obtain⟨hb,hhb⟩:=aC (nJ (jP zs) f dd si);rw[hhb]at hHS nE lW;clear hx1 hxe;obtain⟨jH,jF,CO,bPE,bGC,a9O,bSQ⟩:=aO jN jK hHS hhb GJ HY hg3;clear jN jK hHS hhb GJ HY hg3;cases hb with
        |false=>
         refine jL ff aF aF HS.o ?_;iterate 9 (go_big_quiet_step ((go_at_call 48;refine(CO.o _).mono ?_;rintro e w3 ⟨rfl,jQ⟩;exact⟨rfl,jF.o _ ((jH.o _).tm jQ)⟩)))
         refine wpQuiet_nil ?_;intro s;have kJ:=jH.o s;have qZ:=nX.o.tm kJ;obtain rfl:=nE.o rfl;obtain⟨mR,kW⟩:=aJ kJ qZ;clear kJ qZ;go_wp2_with fail
         go_ret;exact⟨rfl,kW.o⟩
        |true=>
         refine jL ff aF aF HS.o ?_;iterate 9 (go_big_quiet_step ((go_at_call 48;refine(CO.o _).mono ?_;rintro e w3 ⟨rfl,jQ⟩;exact⟨rfl,jF.o _ ((jH.o _).tm jQ)⟩)))
         refine wpQuiet_nil ?_;intro s;have kJ:=jH.o s;have mF:=qN.o.tm kJ;obtain⟨mR,rT⟩:=aJ kJ mF;clear kJ mF;go_wp2_with fail
         go_roundw
         case rel=>exact⟨i+1,by omega,by go_num,aA (lW.o rfl),rT⟩
         case measure=>simp[intOf];omega
       ·obtain rfl:i=k:=by omega
        have hA:hasAll (jP zs) f ds=true:=DZ (fun j hj=>kS.o j (by rw[wI.o]at hj;exact hj));rw[hA,if_pos (by rfl)]at vG;have bkx:=JR.o.late xI.o;have o0:=bkx.cell (i:=0) rfl;have o1:=bkx.cell (i:=1) rfl;have hL:=fun oo=>a3E f oo sa i sc ds wr (h'.o.mono a9X) pX.o wJ.o YD.o;obtain⟨lg,hlg⟩:∃x,nS f ds=x:=⟨_,rfl⟩;simp only[hlg]at hL vG;obtain⟨bPF,hL',bGD,aDB⟩:=aL bkx hL hlg a9X;clear bkx hL hlg a9X;go_wp2_with fail
        refine(hL'.o _).mono ?_;rintro e w5 ⟨rfl,nZ⟩;have wN:=aDB.o.tm nZ;by_cases hl0:lg=0
        ·have oG:(lg==0)=true:=by simp[hl0]
         obtain rfl:R=7:=by rw[←vG.o,if_pos hl0]
         obtain⟨nN,xJ⟩:=aJ wN nZ;clear wN nZ;go_wp2_with fail
         go_ret;exact⟨rfl,nN.o⟩
        ·have oG:(lg==0)=false:=by simp[hl0]
         obtain rfl:R=0:=by rw[←vG.o,if_neg hl0]
         obtain⟨nN,xJ⟩:=aJ wN nZ;clear wN nZ;go_wp2_with fail
         go_ret;exact⟨rfl,nN.o⟩
def a08:(f:Nat)→jR f→Nat
 |0,_=>0
 |f+1,d=>qM d.1.length d.2.1.length d.2.2.length
def noT (f:Nat) (ds:List (jR f)) (k:Nat):Int:=(lK f (ds.take k)).length
def IK (l:List nY) (f:Nat) (ds:List (jR f)):Nat→Int
 |0=>4
 |k+1=>oV l 2 (noT f ds k) 0+2+12*(a08 f (ds.getD k (lY f)):Nat)
def chW (L:List rQ) (l:List nY) (o:Int) (f:Nat) (ds:List (jR f)) (n:Nat):List Pt:=
 (List.range n).flatMap fun k=>ML L l o f (ds.getD k (lY f)) (noT f ds k) (nA L k)++ [((IK l f ds k).toNat,kZ (oV l 2 (noT f ds k) 0) 4 o)]
def VG (o:Int):List Pt:=(0, [77,77])::if o=1 then [(0, [73,73])]else []
def aSR (f:Nat) (o:Int) (ds:List (jR f)) (L:List rQ):List Pt:=VG o++(2,kZ 42 2 o)::chW L (jX f ds) o f ds ds.length
def a3G (f:Nat) (o:Int) (ds:List (jR f)) (L:List rQ):List Int:=tO (aSR f o ds L) (List.replicate (nS f ds).toNat 0)
structure OKT (f:Nat) (o:Int) (ds:List (jR f)) (L:List rQ):Prop where
 shp:nO L=true
 ord:o=1∨o=2
 n8:8≤nS f ds
 n1:nS f ds≤1000000000000
 fit:GD f ds=true
 nx:∀k,k<ds.length→0≤nA L k
 dir:∀k,k<ds.length→okW L (jX f ds) (nS f ds).toNat o f (ds.getD k (lY f)) (noT f ds k) (nA L k)
 lnk:∀k,k<ds.length→0≤IK (jX f ds) f ds k∧(IK (jX f ds) f ds k).toNat+4≤(nS f ds).toNat
 pk:∀k,k<ds.length→lZ (oV (jX f ds) 2 (noT f ds k) 0) 4 o=true
def a3H (f:Nat) (o:Int) (ds:List (jR f)) (L:List rQ):List Int:=if tY f o ds L=0 then a3G f o ds L else []
theorem aDC (f:Nat) (o:Int) (ds:List (jR f)) (L:List rQ):a3G f o ds L=tO (chW L (jX f ds) o f ds ds.length) (splice (tO (VG o) (List.replicate (nS f ds).toNat 0)) 2 (kZ 42 2 o)):=by
 unfold a3G aSR;rw[l6];rfl
theorem JX (f:Nat) (ds:List (jR f)) {k:Nat} (h:k<ds.length):noT f ds (k+1)=noT f ds k+(kQ f (ds.getD k (lY f))).length:=by
 unfold noT lK;rw[dS,bI h,fJ,dJ,cO,jO h];simp
theorem IL (f:Nat) (ds:List (jR f)) (k:Nat):0≤noT f ds k∧noT f ds k≤(lK f ds).length:=by
 have h:(lK f ds).length=(lK f (ds.take k)).length+(lK f (ds.drop k)).length:=by
  conv=>lhs;rw[←fF k ds]
  unfold lK;rw[dJ,cO]
 unfold noT;omega
theorem aDD (L:List rQ) (l:List nY) (o:Int) (f:Nat) (ds:List (jR f)) (k:Nat):chW L l o f ds (k+1)=chW L l o f ds k++(ML L l o f (ds.getD k (lY f)) (noT f ds k) (nA L k)++ [((IK l f ds k).toNat,kZ (oV l 2 (noT f ds k) 0) 4 o)]):=by
 unfold chW;rw[eO,dJ];simp
theorem VH {w:World}:∀{f:Nat} {d:jR f} {ta:Option Addr} {tn tc:Nat} {sa:Option Addr} {sn sc:Nat} {ba:Option Addr} {bn bc:Nat},wH w f d (.slice ta tn tc,.slice sa sn sc,.slice ba bn bc)→lN f d→a08 f d=qM tn sn bn∧tn≤500∧sn≤500∧bn≤1000000
 |0,_,_,_,_,_,_,_,_,_,_,h,_=>h.elim
 |f+1,d,ta,tn,tc,sa,sn,sc,ba,bn,bc,h,hs=>by
  obtain⟨ta',tn',tc',zs,sa',sn',sc',ds,ba',bn',bc',hv,A8,G5,nL,oQ,_,vF⟩:=h;obtain⟨h1,h2,h3,_⟩:=hs;simp only[fQ,Value.slice.injEq]at hv;obtain⟨⟨_,rfl,_⟩,⟨_,rfl,_⟩,_,rfl,_⟩:=hv;have TW:d.1.length=tn:=by rw[G5,bL];exact A8.len
  have AR:d.2.1.length=sn:=by rw[←oQ];exact nL.rP mJ aH
  have pF:d.2.2.length=bn:=vF.nU;refine⟨?_,by omega,by omega,by omega⟩;show qM d.1.length d.2.1.length d.2.2.length=_
  rw[TW,AR,pF]
theorem aDE {K:Wc} {w:World} {no:Int} {P:List Int} (h:P7 K w no P) (s:ByteArray) (MG:List Int) (hb:Go.Lib.byteCells s.data.toList=ints .u8 MG) (hl:MG.length=s.size) (hn:s.size≤K.n) (sT ty:TypeId):
  ∃w',(Builtin.copy_ #[24,sT] ty #[.slice (some ⟨K.gb,0,none⟩) K.n K.n,.string s]).run Tryz.prog w= .ok (goInt s.size) w'∧P7 K w' no (splice P 0 MG)∧Mv K.gw K.gb tZ tZ w w':=by
 have rX:(Tryz.prog.info? 5).map (·.size)=some 1:=by kernel_rfl
 have hr:=Go.Lib.run_copy_row_string (P:=Tryz.prog) w 24 sT ty 5 K.gb 0 K.n K.n s (ints .u8 P).toArray 5 Tryz.underlying24 rX h.row hn (by simp[pY,h.len];exact hn);have e:(((ints .u8 P).toArray.toList.take 0++Go.Lib.byteCells s.data.toList++(ints .u8 P).toArray.toList.drop (0+s.size)).toArray)=(ints .u8 (splice P 0 MG)).toArray:=by
  rw[hb,←MW];unfold splice;simp[pY,hl]
 rw[e]at hr;refine⟨_,hr,?_,⟨rfl,rfl,rfl,by simp[World.setRow],fun k hk h2 h3 _=>setRow_other w K.gb k _ h3,fun _ h=> .inl h⟩⟩;have ho:∀k,k≠K.gb→(w.setRow K.gb (ints .u8 (splice P 0 MG)).toArray).heap[k]? =w.heap[k]? :=fun k hk=>setRow_other w K.gb k _ hk;refine⟨(ho _ h.ne).trans h.blk,setRow_heap w K.gb (ints .u8 P).toArray (ints .u8 (splice P 0 MG)).toArray 5 (0,0) h.row,by rw[sQ (by rw[hl,h.len];omega)];exact h.len,?_,h.a9J,h.ne,h.aCN,by simp[World.setRow];exact h.aCO⟩;exact RX h.sp (by simp[World.setRow]) (fun x e hx=>ho _ (h.a9J x e).2)
def SE (x:rM):Int:=yF x.2.1 x.2.2.1
theorem a9Y (x:rM):0≤SE x:=by
 unfold SE yF;have:=a1M x.2.1 x.2.2.1;split <;> omega
def aNU (no:Int) (ts:List rM):List P8:=(ts.filter fun x=>decide (0<SE x)).map fun x=>(3,no,x.1,SE x)
def a9Z (no:Int) (b:List Int):List P8:=if 0<b.length then [(4,no,0,(b.length:Int))]else []
def O6 {f:Nat} (rec:jR f→Int→List P8):List (Int×jR f)→Int→List P8
 | [],_=> []
 |s::ss,no=>rec s.2 no++O6 rec ss (no+(kQ f s.2).length)
def BL:(f:Nat)→jR f→Int→List P8
 |0,_,_=> []
 |f+1,d,no=>(2,no,0,6+12*((qM d.1.length d.2.1.length d.2.2.length:Nat):Int))::(aNU no d.1++(O6 (BL f) d.2.1 (no+1)++a9Z no d.2.2))
theorem r9 (f:Nat) (d:jR (f+1)) (no:Int):BL (f+1) d no=
  (2,no,0,6+12*((qM d.1.length d.2.1.length d.2.2.length:Nat):Int))::(aNU no d.1++(O6 (BL f) d.2.1 (no+1)++a9Z no d.2.2)):=rfl
def GK (f:Nat) (ds:List (jR f)):List P8:=(1, -1,0,8)::O6 (BL f) (D9 f ds) 0
theorem a8B (no:Int):∀(ts:List rM) (l:List nY),oF no ts l=(aNU no ts).foldl QV l
 | [],l=>rfl
 |x::ts,l=>by
  have ih:=a8B no ts;unfold oF at ih ⊢;unfold aNU at ih ⊢;rw[List.foldl_cons,List.filter_cons];by_cases h:0<SE x
  ·rw[if_pos (by simpa [SE] using h),if_pos (by simpa using h),aW,List.foldl_cons];exact ih _
  ·rw[if_neg (by simpa [SE] using h),if_neg (by simpa using h)];exact ih _
theorem XL (f:Nat) (ih:∀(d:jR f) (no:Int) (l:List nY),BF f d no l=(BL f d no).foldl QV l):∀(ss:List (Int×jR f)) (no:Int) (l:List nY),(l7 f ss (l,no)).1=(O6 (BL f) ss no).foldl QV l
 | [],_,_=>rfl
 |s::ss,no,l=>by
  rw[L6];show(l7 f ss (BF f s.2 no l,no+(kQ f s.2).length)).1=_
  rw[XL f ih ss,ih,←gN];rfl
theorem aDF:∀(f:Nat) (d:jR f) (no:Int) (l:List nY),BF f d no l=(BL f d no).foldl QV l
 |0,_,_,_=>rfl
 |f+1,d,no,l=>by
  rw[JQ,r9,List.foldl_cons,gN,gN,←a8B];have hs:=XL f (aDF f) d.2.1 (no+1) (oF no d.1 (pG l 2 no 0 (6+12*(qM d.1.length d.2.1.length d.2.2.length:Nat))));rw[hs];unfold a9Z;split <;> rfl
theorem H8 (f:Nat) (ds:List (jR f)):jX f ds=placed 0 (GK f ds)∧mM (jX f ds)=endP 0 (GK f ds):=by
 have h:=aCQ (GK f ds) [];have e:jX f ds=(GK f ds).foldl QV []:=by
  unfold jX;rw[XL f (aDF f)];rfl
 rw[e,h.2,h.1];exact⟨rfl,rfl⟩
theorem EI {f:Nat} {rec:jR f→Int→List P8}:∀{ss:List (Int×jR f)} {no:Int} {x:P8},x∈O6 rec ss no→∃j,j<ss.length∧x∈rec (ss.getD j (0,lY f)).2 (no+(lH f (ss.take j)).length)
 | [],_,_,h=>by cases h
 |s::ss,no,x,h=>by
  rcases bP.1 h with h|h
  ·exact⟨0,by simp,by simpa [lH] using h⟩
  ·obtain⟨j,hj,hx⟩:=EI h;refine⟨j+1,by simpa using hj,?_⟩;have e:no+(kQ f s.2).length+(lH f (ss.take j)).length=no+(lH f ((s::ss).take (j+1))).length:=by
    rw[gP];unfold lH;rw[fA,cO];omega
   rw[e]at hx;simpa using hx
theorem PI {f:Nat} {rec:jR f→Int→List P8}:∀{ss:List (Int×jR f)} {no:Int} {j:Nat},j<ss.length→∀x∈rec (ss.getD j (0,lY f)).2 (no+(lH f (ss.take j)).length),x∈O6 rec ss no
 | [],_,_,h,_,_=>by simp at h
 |s::ss,no,0,_,x,hx=>bP.2 (.inl (by simpa [lH] using hx))
 |s::ss,no,j+1,h,x,hx=>by
  refine bP.2 (.inr (PI (j:=j) (by simpa using h) x ?_));have e:no+(kQ f s.2).length+(lH f (ss.take j)).length=no+(lH f ((s::ss).take (j+1))).length:=by
   rw[gP];unfold lH;rw[fA,cO];omega
  rw[e];simpa using hx
theorem aA0 (f:Nat) (ss:List (Int×jR f)) {j:Nat} (h:j<ss.length):(lH f (ss.take j)).length+(kQ f (ss.getD j (0,lY f)).2).length≤(lH f ss).length:=by
 have:=oO f ss (j+1);rw[z8 f ss h]at this;rw[jO h];exact this
theorem PK:∀(f:Nat) (d:jR f) (no:Int) (x:P8),x∈BL f d no→no≤x.2.1∧x.2.1<no+(kQ f d).length∧0≤x.2.2.2∧2≤x.1∧x.1≤4
 |0,_,_,_,h=>by cases h
 |f+1,d,no,x,h=>by
  have e:(kQ (f+1) d).length=(lH f d.2.1).length+1:=by rw[vO];rfl
  rw[r9]at h;rw[e];rcases cB.1 h with rfl|h
  ·simp;omega
  rcases bP.1 h with h|h
  ·obtain⟨t,ht,rfl⟩:=dG.1 h;have:=a9Y t;simp;omega
  rcases bP.1 h with h|h
  ·obtain⟨j,hj,hx⟩:=EI h;have h1:=PK f _ _ _ hx;have h2:=aA0 f d.2.1 hj;omega
  ·unfold a9Z at h;split at h
   ·obtain rfl:x=_:=by simpa using h
    simp;omega
   ·cases h
def a3I:(f:Nat)→jR f→Prop
 |0,_=>True
 |f+1,d=>(d.1.Pairwise fun x y=>x.1≠y.1)∧∀s∈d.2.1,a3I f s.2
theorem LG {α β:Type} {g:α→β} {l:List α} (h:l.Pairwise fun x y=>g x≠g y):(l.map g).Nodup:=by
 unfold List.Nodup;rw[List.pairwise_map];exact h
theorem SF {f:Nat} (ih:∀(d:jR f) (no:Int),a3I f d→((BL f d no).map a2N).Nodup):∀(ss:List (Int×jR f)) (no:Int),(∀s∈ss,a3I f s.2)→((O6 (BL f) ss no).map a2N).Nodup
 | [],_,_=>List.nodup_nil
 |s::ss,no,h=>by
  show((BL f s.2 no++O6 (BL f) ss (no+(kQ f s.2).length)).map a2N).Nodup
  rw[dI,iW];refine⟨ih s.2 no (h s (dB ..)),SF ih ss _ (fun x hx=>h x (cZ _ hx)),?_⟩;intro a ha b hb e;obtain⟨x,hx,rfl⟩:=dG.1 ha;obtain⟨y,hy,rfl⟩:=dG.1 hb;obtain⟨j,hj,hy⟩:=EI hy;have h1:=PK _ _ _ _ hx;have h2:=PK _ _ _ _ hy;have h3:x.2.1=y.2.1:=congrArg (fun k=>k.2.1) e;omega
theorem a8C:∀(f:Nat) (d:jR f) (no:Int),a3I f d→((BL f d no).map a2N).Nodup
 |0,_,_,_=>List.nodup_nil
 |f+1,d,no,h=>by
  obtain⟨h1,h2⟩:=h;have hV:∀x∈aNU no d.1,x.1=3∧x.2.1=no:=fun x hx=>by
   obtain⟨t,ht,rfl⟩:=dG.1 hx;exact⟨rfl,rfl⟩
  have hB:∀x∈a9Z no d.2.2,x.1=4∧x.2.1=no:=fun x hx=>by
   unfold a9Z at hx;split at hx
   ·obtain rfl:x=_:=by simpa using hx
    exact⟨rfl,rfl⟩
   ·cases hx
  have hS:∀x∈O6 (BL f) d.2.1 (no+1),no<x.2.1:=fun x hx=>by
   obtain⟨j,hj,hx⟩:=EI hx;have:=PK _ _ _ _ hx;omega
  rw[r9,aW,iR,dI,iW,dI,iW];refine⟨?_,?_,⟨SF (a8C f) _ _ h2,?_,?_⟩,?_⟩
  ·intro hm;rw[←dI,←dI]at hm;obtain⟨x,hx,e⟩:=dG.1 hm;have e1:x.1=2:=congrArg (fun k=>k.1) e;have e2:x.2.1=no:=congrArg (fun k=>k.2.1) e;rcases bP.1 hx with hx|hx
   ·have:=hV x hx;omega
   rcases bP.1 hx with hx|hx
   ·have:=hS x hx;omega
   ·have:=hB x hx;omega
  ·unfold aNU;rw[List.map_map];refine LG ((List.Pairwise.filter _ h1).imp fun {a b} hab e=>hab ?_);exact congrArg (fun k=>k.2.2) e
  ·unfold a9Z;split <;> simp
  ·intro a ha b hb e;obtain⟨x,hx,rfl⟩:=dG.1 ha;obtain⟨y,hy,rfl⟩:=dG.1 hb;have e2:x.2.1=y.2.1:=congrArg (fun k=>k.2.1) e;have:=hS x hx;have:=hB y hy;omega
  ·intro a ha b hb e;obtain⟨x,hx,rfl⟩:=dG.1 ha;have h3:=hV x hx;rw[←dI]at hb;obtain⟨y,hy,rfl⟩:=dG.1 hb;have e1:x.1=y.1:=congrArg (fun k=>k.1) e;have e2:x.2.1=y.2.1:=congrArg (fun k=>k.2.1) e;rcases bP.1 hy with hy|hy
   ·have:=hS y hy;omega
   ·have:=hB y hy;omega
theorem a0O (f:Nat) (ds:List (jR f)):∀x∈GK f ds,0≤x.2.2.2:=fun x hx=>by
 rcases cB.1 hx with rfl|hx
 ·decide
 ·obtain⟨j,_,hx⟩:=EI hx;exact(PK _ _ _ _ hx).2.2.1
theorem aNV (f:Nat) (ds:List (jR f)) (h:∀d∈ds,a3I f d):((GK f ds).map a2N).Nodup:=by
 unfold GK;rw[aW,iR];refine⟨fun hm=>?_,SF (a8C f) _ _ fun s hs=>?_⟩
 ·obtain⟨x,hx,e⟩:=dG.1 hm;obtain⟨j,_,hx⟩:=EI hx;have h1:=PK _ _ _ _ hx;have e1:x.1=1:=congrArg (fun k=>k.1) e;omega
 ·obtain⟨d,hd,rfl⟩:=dG.1 hs;exact h d hd
theorem XM (f:Nat) (ds:List (jR f)) (h:∀d∈ds,a3I f d):((jX f ds).map LB).Nodup:=by
 rw[(H8 f ds).1,YX];exact aNV f ds h
theorem SG (f:Nat) (ds:List (jR f)):(jX f ds).Pairwise Ahead:=by
 rw[(H8 f ds).1];exact V8 _ _ (iY _) (a0O f ds)
theorem PL {f:Nat} {ds:List (jR f)} (h:∀d∈ds,a3I f d) {x:P8} (hx:x∈GK f ds):∃s∈jX f ds,LB s=a2N x∧s.2.2.2.2=x.2.2.2∧s.2.2.2.1=oV (jX f ds) x.1 x.2.1 x.2.2.1∧(jX f ds).any (atP x.1 x.2.1 x.2.2.1)=true∧0≤s.2.2.2.1∧s.2.2.2.1 % 2=0∧s.2.2.2.1+x.2.2.2≤mM (jX f ds):=by
 have he:=H8 f ds;obtain⟨s,h1,h2,h3⟩:=a2O (GK f ds) 0 x hx;have h4:=P9 (GK f ds) 0 (iY _) (a0O f ds) s h1;rw[←he.1]at h1;rw[←he.2]at h4;have h5:=aYM (XM f ds h) h1;have e1:s.1=x.1:=congrArg (fun k=>k.1) h2;have e2:s.2.1=x.2.1:=congrArg (fun k=>k.2.1) h2;have e3:s.2.2.1=x.2.2.1:=congrArg (fun k=>k.2.2) h2;rw[e1,e2,e3]at h5;exact⟨s,h1,h2,h3,h5.2.symm,h5.1,h4.1,h4.2.1,by rw[←h3];exact h4.2.2.2⟩
theorem aZD {f:Nat} {ds:List (jR f)} (h:∀d∈ds,a3I f d) {a b c:Int} {m:Int} (hx:((a,b,c,m):P8)∈GK f ds) {n k:Nat} (hn:mM (jX f ds)≤n) (hk:(k:Int)≤m):Fits (jX f ds) n a b c k:=by
 obtain⟨s,h1,h2,h3,h4,h5,h6,h7,h8⟩:=PL h hx;simp only at h4 h5 h8;refine⟨h5,by rw[←h4];exact h6,?_⟩;rw[←h4];omega
