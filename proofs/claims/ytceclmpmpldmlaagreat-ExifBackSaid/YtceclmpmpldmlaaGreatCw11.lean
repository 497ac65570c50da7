import Derived.WalkMore
import Derived.Test.YtceclmpmpldmlaaGreatCw10
set_option linter.unusedSimpArgs false
set_option linter.unusedVariables false
namespace Go.Proofs.YtceclmpmpldmlaaGreat
open Go.RowKit Tt
theorem aE7 {zs:List Shz} {i:Nat} (hi:i<zs.length) (h:mR zs.length i (zs.getD i BL).2=false):mW (kK zs)=false:=by
 unfold mW;rw[show(kK zs).length=zs.length by simp[kK]];have:(List.range zs.length).all (fun i=>mR zs.length i ((kK zs).getD i kQ))=false:=by
  rw[List.all_eq_false];exact⟨i,cZ.2 hi,by rw[y9 hi,h];simp⟩
 rw[this];simp
theorem aE8 {zs:List Shz} (h1:1≤zs.length) (h2:zs.length≤16) (h:∀i,i<zs.length→mR zs.length i (zs.getD i BL).2=true):mW (kK zs)=true:=by
 unfold mW;rw[show(kK zs).length=zs.length by simp[kK]];have:(List.range zs.length).all (fun i=>mR zs.length i ((kK zs).getD i kQ))=true:=by
  rw[dI];exact fun i hi=>by rw[y9 (cZ.1 hi)];exact h i (cZ.1 hi)
 rw[this];simp;omega
theorem aE9 {n i k:Nat} {s:nP} (hk:k<s.1.length) (h:tQ n i s k=false):mR n i s=false:=by
 unfold mR;have:(List.range s.1.length).all (tQ n i s)=false:=List.all_eq_false.2 ⟨k,cZ.2 hk,by rw[h];simp⟩;rw[this];rfl
theorem aB8 {n i:Nat} {s:nP} (h:∀k,k<s.1.length→tQ n i s k=true):mR n i s=(a4C n i s&&a9D s):=by
 unfold mR;have:(List.range s.1.length).all (tQ n i s)=true:=dI.2 fun k hk=>h k (cZ.1 hk);rw[this];rfl
set_option maxRecDepth 20000 in
set_option maxHeartbeats 8000000 in
theorem a4D (a:Option Addr) (n c:Nat) (zs:List Shz) (w:World) (h:ShR w a n c zs):Calls Tryz.prog 47 #[.slice a n c] w fun e w'=>e= .returned (.bool (mW (kK zs)))∧Below w.heap.size w w':=by
 have vO:=h.len;have FI:=h.row.le;have UC:=h.row.max;obtain⟨R,hR⟩:=aC (mW (kK zs));rw[hR];have hTG:=fun x W=>aMR x W;have hLT:=fun i x W=>aPB a n c i x W;by_cases h1:n<1
 ·obtain rfl:R=false:=by rw[←hR];unfold mW;simp[kK];omega
  have d1:decide ((n:Int)<1)=true:=by simp;omega
  clear hR hTG hLT h;go_enter Tryz.func47,Tryz.ntmps47;go_wp2_with fail
  go_step3
  go_wp2_with fail
  first|go_ret|(rw[Exit.noGoto_ret];go_ret)
  exact⟨rfl,bF _ _⟩
 have d1:decide ((n:Int)<1)=false:=by simp;omega
 by_cases h2:16<n
 ·obtain rfl:R=false:=by rw[←hR];unfold mW;simp[kK];omega
  have d2:decide ((16:Int)<n)=true:=by simp;omega
  clear hR hTG hLT h;go_enter Tryz.func47,Tryz.ntmps47;go_wp2_with fail
  go_step3
  go_wp2_with fail
  first|go_ret|(rw[Exit.noGoto_ret];go_ret)
  exact⟨rfl,bF _ _⟩
 have d2:decide ((16:Int)<n)=false:=by simp;omega
 obtain⟨h',oC,qM,a4E,bJV⟩:=aM h vO hR hTG hLT;clear h vO hR hTG hLT;go_enter Tryz.func47,Tryz.ntmps47;go_wp2_with fail
 go_step3
 go_wp2_with fail
 go_step3
 go_wp2_with fail
 clear d1 d2;go_loopw [17] (fun iv wr=>∃i:Nat,i≤n∧iv= .int .i64 i∧Hid (∀j,j<i→mR n j (zs.getD j BL).2=true)∧Hid (Below w.heap.size w wr)) (fun iv _=>n - (intOf iv).toNat)
 case atStart=>exact⟨0,by omega,rfl,aA (fun j hj=>by omega),aA (bF _ _)⟩
 case round=>
  obtain⟨i,hi,rfl,lY,hb⟩:=hrel;by_cases kY:i<n
  ·have nC:=h'.o.row.mono hb.o;have OC:=(h'.o.at kY).mono hb.o;obtain⟨b,o,rfl,EI,f⟩:=nC.elem zQ aH BL kY;have hRn:=fun hh=>aE7 (zs:=zs) (i:=i) (by rw[oC.o];exact kY) hh;rw[oC.o]at hRn;obtain⟨⟨⟨la,ln,lc⟩,⟨links,sat,kC,nL⟩⟩,hz⟩:∃z,zs.getD i BL=z:=⟨_,rfl⟩;rw[hz]at f OC hRn;simp only at OC hRn;have f0:=f 0 _ rfl;have f1:=f 1 _ rfl;have f2:=f 2 _ rfl;have f3:=f 3 _ rfl;simp only[dB]at f0 f1 f2 f3;clear f nC;have CY:(i:Int)<n:=by omega
   have hlm:=OC.max;have hll:=OC.le;have b2Y:=OC.xZ sO aH;obtain⟨aOY,yY,GX,b73⟩:=aL OC hRn hz b2Y;clear OC hRn hz b2Y;go_upto_region 6 with fail
   have b6:=kG.new wr 35 #[.slice la ln lc,.int .i64 sat,.int .i64 kC,.int .i64 nL];have vU:=aD wr (.cells #[.slice la ln lc,.int .i64 sat,.int .i64 kC,.int .i64 nL] 35);have a8C:=hb.o.tm vU;have bJW:=aOY.o.mono vU;clear f0 f1 f2 f3;generalize wr.alloc (.cells #[.slice la ln lc,.int .i64 sat,.int .i64 kC,.int .i64 nL] 35)=w6 at*;generalize wr.heap.size=g6 at*;have c0:=b6.cell (i:=0) rfl;obtain⟨b6',MO,a0Y,b74⟩:=aL b6 vU a8C bJW;clear b6 vU a8C bJW;go_wp2_with fail
   clear c0;go_loopw [25] (fun kv wr2=>∃k:Nat,k≤ln∧kv= .int .i64 k∧Hid (∀j,j<k→tQ n i (links,sat,kC,nL) j=true)∧Hid (Below w6.heap.size w6 wr2)) (fun kv _=>ln - (intOf kv).toNat)
   case atStart=>exact⟨0,by omega,rfl,aA (fun j hj=>by omega),aA (bF _ _)⟩
   case round=>
    obtain⟨k,hk,rfl,b75,kP⟩:=hrel;by_cases xK:k<ln
    ·obtain⟨b2,o2,rfl,bJO,fe⟩:=(b74.o.mono kP.o).elem sO aH (0,0) xK;have e0:=fe 0 _ rfl;have e1:=fe 1 _ rfl;rw[dB]at e0;clear fe;obtain⟨⟨tg,sh⟩,hts⟩:∃z,links.getD k (0,0)=z:=⟨_,rfl⟩;rw[hts]at e0 e1;simp only at e0 e1;have hlB:tQ n i (links,sat,kC,nL) k=(DY tg&&(decide (k=0)||decide ((links.getD (k - 1) (0,0)).1<tg))&&NN n i sh&& !(decide (0<sat)&&(decide (tg=sat)||decide (tg=kC)))):=by unfold tQ;simp only[hts]
     have aTH:=fun W=>a4E.o tg W;have aTI:=fun W=>bJV.o i sh W;generalize DY tg=tb at*;generalize NN n i sh=lb at*;have PL:tQ n i (links,sat,kC,nL) k=false→R=false:=fun hh=>qM.o▸yY.o (aE9 (by rw[b73.o];exact xK) hh);have oQ:tQ n i (links,sat,kC,nL) k=true→∀j,j<k+1→tQ n i (links,sat,kC,nL) j=true:=fun hv j hj=>by
      by_cases hjk:j=k
      ·subst hjk;exact hv
      ·exact b75.o j aG
     have hkn:(k:Int)<ln:=by omega
     obtain⟨rZ,nG,UW⟩:=aK PL oQ hts;clear PL oQ hts;go_upto_region 9 with fail
     have b9:=kG.new wr 32 #[.int .i64 tg,.int .i64 sh];have bJX:=aD wr (.cells #[.int .i64 tg,.int .i64 sh] 32);have aTJ:=kP.o.tm bJX;have vP:=a0Y.o.tm aTJ;have b69:=b6'.o.late aTJ;have bJY:=b74.o.mono aTJ;clear bJX;generalize wr.alloc (.cells #[.int .i64 tg,.int .i64 sh] 32)=w9 at*;generalize wr.heap.size=g9 at*;clear e0 e1 bJO;obtain⟨Ty,f,pQ,kI,kE⟩:=kM w9;have HS:=aA (kE _ ((bF _ _).drew));have q0:=fun s=>(kG.late b9 (kI s)).cell (i:=0) rfl;have q1:=fun s=>(kG.late b9 (kI s)).cell (i:=1) rfl;have q2:=fun s=>(kG.late b69 (kI s)).cell (i:=0) rfl;have q3:=fun s=>(kG.late b69 (kI s)).cell (i:=1) rfl;have q4:=fun s=>(kG.late b69 (kI s)).cell (i:=2) rfl;obtain⟨b9',c4G,qB,a0Z,kD,jV,OE,vZ,wC,bJZ⟩:=aR b9 b69 vP aTJ kI kE hlB aTH aTI bJY;clear b9 b69 vP aTJ kI kE hlB aTH aTI bJY;cases tb
     case false=>
      have hv:tQ n i (links,sat,kC,nL) k=false:=by rw[OE.o];simp
      refine kL f aF aF HS.o ?_;iterate 47 (go_big_quiet_step (first|((go_at_call 105;refine(vZ.o _).mono ?_;rintro e w3 ⟨rfl,kT⟩;exact⟨rfl,jV.o _ ((kD.o _).tm kT)⟩))|(go_at_call 106;refine(wC.o _).mono ?_;rintro e w3 ⟨rfl,rfl⟩;exact⟨rfl,jV.o _ (kD.o _)⟩)))
      refine wpQuiet_nil ?_;intro s;have nE:=kD.o s;have lK:=qB.o.tm nE;obtain rfl:=rZ.o hv;clear hv;obtain⟨kX,sS⟩:=aJ lK nE;clear lK nE;go_wp2_with fail
      first|go_ret|(rw[Exit.noGoto_ret];go_ret)
      exact⟨rfl,kX.o⟩
     case true=>
      by_cases SY:k=0
      ·have p1:decide ((0:Int)<(k:Int))=false:=by simp;omega
       have p2:decide (0<k)=false:=by simp;omega
       replace OE:=aA (OE.o.trans (by rw[decide_eq_true SY];rfl:_=(true&&true&&lb&& !(decide (0<sat)&&(decide (tg=sat)||decide (tg=kC))))))
       clear SY;cases lb
       case false=>
        have hv:tQ n i (links,sat,kC,nL) k=false:=by rw[OE.o];simp
        refine kL f aF aF HS.o ?_;iterate 47 (go_big_quiet_step (first|((go_at_call 105;refine(vZ.o _).mono ?_;rintro e w3 ⟨rfl,kT⟩;exact⟨rfl,jV.o _ ((kD.o _).tm kT)⟩))|(go_at_call 106;refine(wC.o _).mono ?_;rintro e w3 ⟨rfl,rfl⟩;exact⟨rfl,jV.o _ (kD.o _)⟩)))
        refine wpQuiet_nil ?_;intro s;have nE:=kD.o s;have lK:=qB.o.tm nE;obtain rfl:=rZ.o hv;clear hv;obtain⟨kX,sS⟩:=aJ lK nE;clear lK nE;go_wp2_with fail
        first|go_ret|(rw[Exit.noGoto_ret];go_ret)
        exact⟨rfl,kX.o⟩
       case true=>
        by_cases KD:0<sat
        ·have d3:decide (0<sat)=true:=by simp;omega
         by_cases he1:tg=sat
         ·have d4:(tg==sat)=true:=by simp[he1]
          have hv:tQ n i (links,sat,kC,nL) k=false:=by rw[OE.o,d3,decide_eq_true he1];simp
          clear he1;refine kL f aF aF HS.o ?_;iterate 47 (go_big_quiet_step (first|((go_at_call 105;refine(vZ.o _).mono ?_;rintro e w3 ⟨rfl,kT⟩;exact⟨rfl,jV.o _ ((kD.o _).tm kT)⟩))|(go_at_call 106;refine(wC.o _).mono ?_;rintro e w3 ⟨rfl,rfl⟩;exact⟨rfl,jV.o _ (kD.o _)⟩)))
          refine wpQuiet_nil ?_;intro s;have nE:=kD.o s;have lK:=qB.o.tm nE;obtain rfl:=rZ.o hv;clear hv;obtain⟨kX,sS⟩:=aJ lK nE;clear lK nE;go_wp2_with fail
          first|go_ret|(rw[Exit.noGoto_ret];go_ret)
          exact⟨rfl,kX.o⟩
         ·have d4:(tg==sat)=false:=by simp[he1]
          by_cases he2:tg=kC
          ·have d5:(tg==kC)=true:=by simp[he2]
           have hv:tQ n i (links,sat,kC,nL) k=false:=by rw[OE.o,d3,decide_eq_true he2];simp
           clear he1 he2;refine kL f aF aF HS.o ?_;iterate 47 (go_big_quiet_step (first|((go_at_call 105;refine(vZ.o _).mono ?_;rintro e w3 ⟨rfl,kT⟩;exact⟨rfl,jV.o _ ((kD.o _).tm kT)⟩))|(go_at_call 106;refine(wC.o _).mono ?_;rintro e w3 ⟨rfl,rfl⟩;exact⟨rfl,jV.o _ (kD.o _)⟩)))
           refine wpQuiet_nil ?_;intro s;have nE:=kD.o s;have lK:=qB.o.tm nE;obtain rfl:=rZ.o hv;clear hv;obtain⟨kX,sS⟩:=aJ lK nE;clear lK nE;go_wp2_with fail
           first|go_ret|(rw[Exit.noGoto_ret];go_ret)
           exact⟨rfl,kX.o⟩
          ·have d5:(tg==kC)=false:=by simp[he2]
           have hv:tQ n i (links,sat,kC,nL) k=true:=by rw[OE.o,d3,decide_eq_false he1,decide_eq_false he2];simp
           clear he1 he2;refine kL f aF aF HS.o ?_;iterate 47 (go_big_quiet_step (first|((go_at_call 105;refine(vZ.o _).mono ?_;rintro e w3 ⟨rfl,kT⟩;exact⟨rfl,jV.o _ ((kD.o _).tm kT)⟩))|(go_at_call 106;refine(wC.o _).mono ?_;rintro e w3 ⟨rfl,rfl⟩;exact⟨rfl,jV.o _ (kD.o _)⟩)))
           refine wpQuiet_nil ?_;intro s;have nE:=kD.o s;have a4F:=a0Z.o.tm nE;obtain⟨sS,a4G,GA⟩:=aK nE a4F hv;clear nE a4F hv;go_wp2_with fail
           go_roundw
           case rel=>exact⟨k+1,by omega,by go_num,aA (nG.o GA.o),a4G⟩
           case measure=>simp[intOf];omega
        ·have d3:decide (0<sat)=false:=by simp;omega
         have hv:tQ n i (links,sat,kC,nL) k=true:=by rw[OE.o,d3];simp
         refine kL f aF aF HS.o ?_;iterate 47 (go_big_quiet_step (first|((go_at_call 105;refine(vZ.o _).mono ?_;rintro e w3 ⟨rfl,kT⟩;exact⟨rfl,jV.o _ ((kD.o _).tm kT)⟩))|(go_at_call 106;refine(wC.o _).mono ?_;rintro e w3 ⟨rfl,rfl⟩;exact⟨rfl,jV.o _ (kD.o _)⟩)))
         refine wpQuiet_nil ?_;intro s;have nE:=kD.o s;have a4F:=a0Z.o.tm nE;obtain⟨sS,a4G,GA⟩:=aK nE a4F hv;clear nE a4F hv;go_wp2_with fail
         go_roundw
         case rel=>exact⟨k+1,by omega,by go_num,aA (nG.o GA.o),a4G⟩
         case measure=>simp[intOf];omega
      ·obtain⟨k',WG⟩:∃k',k'+1=k:=⟨k - 1,by omega⟩;have p1:decide ((0:Int)<(k:Int))=true:=by simp;omega
       have p2:decide (0<k)=true:=by simp;omega
       have wk:IntKind.i64.wrap ((k:Int) - 1)=(k':Int):=by rw[bJ];omega
       obtain⟨b3,o3,he3,bUQ,fe⟩:=bJZ.o.elem sO aH (0,0) (i:=k') aG;obtain⟨rfl,rfl⟩:b2=b3∧o2=o3:=by simpa using he3
       clear he3;have e0:=fe 0 _ rfl;rw[dB]at e0;clear fe;rw[show k - 1=k' by omega]at OE;obtain⟨pv,hpv⟩:∃z,(links.getD k' (0,0)).1=z:=⟨_,rfl⟩;rw[hpv]at OE e0;clear hpv;have q5:∀s,(f s).cell? ⟨b2,o2+k'*2,none⟩=some (.int .i64 pv):=fun s=>late (kD.o s) bUQ e0;have aS4:(k':Int)<ln:=by omega
       have aPC:k'<ln:=by omega
       have aTK:(0:Int)≤(k':Int):=by omega
       clear e0;by_cases hpt:tg≤pv
       ·have p3:decide (tg≤pv)=true:=by simp;omega
        have hv:tQ n i (links,sat,kC,nL) k=false:=by rw[OE.o,decide_eq_false SY,decide_eq_false (show ¬pv<tg by omega)];simp
        clear SY WG;refine kL f aF aF HS.o ?_;iterate 47 (go_big_quiet_step (first|((go_at_call 105;refine(vZ.o _).mono ?_;rintro e w3 ⟨rfl,kT⟩;exact⟨rfl,jV.o _ ((kD.o _).tm kT)⟩))|(go_at_call 106;refine(wC.o _).mono ?_;rintro e w3 ⟨rfl,rfl⟩;exact⟨rfl,jV.o _ (kD.o _)⟩)))
        refine wpQuiet_nil ?_;intro s;have nE:=kD.o s;have lK:=qB.o.tm nE;obtain rfl:=rZ.o hv;clear hv;obtain⟨kX,sS⟩:=aJ lK nE;clear lK nE;go_wp2_with fail
        first|go_ret|(rw[Exit.noGoto_ret];go_ret)
        exact⟨rfl,kX.o⟩
       ·have p3:decide (tg≤pv)=false:=by simp;omega
        replace OE:=aA (OE.o.trans (by rw[decide_eq_true (show pv<tg by omega),Bool.or_true]:_=(true&&true&&lb&& !(decide (0<sat)&&(decide (tg=sat)||decide (tg=kC))))))
        clear SY WG;cases lb
        case false=>
         have hv:tQ n i (links,sat,kC,nL) k=false:=by rw[OE.o];simp
         refine kL f aF aF HS.o ?_;iterate 47 (go_big_quiet_step (first|((go_at_call 105;refine(vZ.o _).mono ?_;rintro e w3 ⟨rfl,kT⟩;exact⟨rfl,jV.o _ ((kD.o _).tm kT)⟩))|(go_at_call 106;refine(wC.o _).mono ?_;rintro e w3 ⟨rfl,rfl⟩;exact⟨rfl,jV.o _ (kD.o _)⟩)))
         refine wpQuiet_nil ?_;intro s;have nE:=kD.o s;have lK:=qB.o.tm nE;obtain rfl:=rZ.o hv;clear hv;obtain⟨kX,sS⟩:=aJ lK nE;clear lK nE;go_wp2_with fail
         first|go_ret|(rw[Exit.noGoto_ret];go_ret)
         exact⟨rfl,kX.o⟩
        case true=>
         by_cases KD:0<sat
         ·have d3:decide (0<sat)=true:=by simp;omega
          by_cases he1:tg=sat
          ·have d4:(tg==sat)=true:=by simp[he1]
           have hv:tQ n i (links,sat,kC,nL) k=false:=by rw[OE.o,d3,decide_eq_true he1];simp
           clear he1;refine kL f aF aF HS.o ?_;iterate 47 (go_big_quiet_step (first|((go_at_call 105;refine(vZ.o _).mono ?_;rintro e w3 ⟨rfl,kT⟩;exact⟨rfl,jV.o _ ((kD.o _).tm kT)⟩))|(go_at_call 106;refine(wC.o _).mono ?_;rintro e w3 ⟨rfl,rfl⟩;exact⟨rfl,jV.o _ (kD.o _)⟩)))
           refine wpQuiet_nil ?_;intro s;have nE:=kD.o s;have lK:=qB.o.tm nE;obtain rfl:=rZ.o hv;clear hv;obtain⟨kX,sS⟩:=aJ lK nE;clear lK nE;go_wp2_with fail
           first|go_ret|(rw[Exit.noGoto_ret];go_ret)
           exact⟨rfl,kX.o⟩
          ·have d4:(tg==sat)=false:=by simp[he1]
           by_cases he2:tg=kC
           ·have d5:(tg==kC)=true:=by simp[he2]
            have hv:tQ n i (links,sat,kC,nL) k=false:=by rw[OE.o,d3,decide_eq_true he2];simp
            clear he1 he2;refine kL f aF aF HS.o ?_;iterate 47 (go_big_quiet_step (first|((go_at_call 105;refine(vZ.o _).mono ?_;rintro e w3 ⟨rfl,kT⟩;exact⟨rfl,jV.o _ ((kD.o _).tm kT)⟩))|(go_at_call 106;refine(wC.o _).mono ?_;rintro e w3 ⟨rfl,rfl⟩;exact⟨rfl,jV.o _ (kD.o _)⟩)))
            refine wpQuiet_nil ?_;intro s;have nE:=kD.o s;have lK:=qB.o.tm nE;obtain rfl:=rZ.o hv;clear hv;obtain⟨kX,sS⟩:=aJ lK nE;clear lK nE;go_wp2_with fail
            first|go_ret|(rw[Exit.noGoto_ret];go_ret)
            exact⟨rfl,kX.o⟩
           ·have d5:(tg==kC)=false:=by simp[he2]
            have hv:tQ n i (links,sat,kC,nL) k=true:=by rw[OE.o,d3,decide_eq_false he1,decide_eq_false he2];simp
            clear he1 he2;refine kL f aF aF HS.o ?_;iterate 47 (go_big_quiet_step (first|((go_at_call 105;refine(vZ.o _).mono ?_;rintro e w3 ⟨rfl,kT⟩;exact⟨rfl,jV.o _ ((kD.o _).tm kT)⟩))|(go_at_call 106;refine(wC.o _).mono ?_;rintro e w3 ⟨rfl,rfl⟩;exact⟨rfl,jV.o _ (kD.o _)⟩)))
            refine wpQuiet_nil ?_;intro s;have nE:=kD.o s;have a4F:=a0Z.o.tm nE;obtain⟨sS,a4G,GA⟩:=aK nE a4F hv;clear nE a4F hv;go_wp2_with fail
            go_roundw
            case rel=>exact⟨k+1,by omega,by go_num,aA (nG.o GA.o),a4G⟩
            case measure=>simp[intOf];omega
         ·have d3:decide (0<sat)=false:=by simp;omega
          have hv:tQ n i (links,sat,kC,nL) k=true:=by rw[OE.o,d3];simp
          refine kL f aF aF HS.o ?_;iterate 47 (go_big_quiet_step (first|((go_at_call 105;refine(vZ.o _).mono ?_;rintro e w3 ⟨rfl,kT⟩;exact⟨rfl,jV.o _ ((kD.o _).tm kT)⟩))|(go_at_call 106;refine(wC.o _).mono ?_;rintro e w3 ⟨rfl,rfl⟩;exact⟨rfl,jV.o _ (kD.o _)⟩)))
          refine wpQuiet_nil ?_;intro s;have nE:=kD.o s;have a4F:=a0Z.o.tm nE;obtain⟨sS,a4G,GA⟩:=aK nE a4F hv;clear nE a4F hv;go_wp2_with fail
          go_roundw
          case rel=>exact⟨k+1,by omega,by go_num,aA (nG.o GA.o),a4G⟩
          case measure=>simp[intOf];omega
    ·obtain rfl:k=ln:=by omega
     have hsB:mR n i (links,sat,kC,nL)=(a4C n i (links,sat,kC,nL)&&a9D (links,sat,kC,nL)):=aB8 (fun j hj=>b75.o j (by rw[b73.o]at hj;exact hj));have sJ:mR n i (links,sat,kC,nL)=false→R=false:=fun hh=>qM.o▸yY.o hh;have oQ:mR n i (links,sat,kC,nL)=true→∀j,j<i+1→mR n j (zs.getD j BL).2=true:=fun hv j hj=>by
      by_cases hjk:j=i
      ·subst hjk;rw[GX.o];exact hv
      ·exact lY.o j aG
     have b69:=b6'.o.late kP.o;have lK:=a0Y.o.tm kP.o;have c1:=b69.cell (i:=1) rfl;have c2:=b69.cell (i:=2) rfl;have c3:=b69.cell (i:=3) rfl;have aTI:=fun W=>bJV.o i nL W;have aTH:=fun W=>a4E.o kC W;have hnB:a4C n i (links,sat,kC,nL)=(decide (nL= -1)||NN n i nL):=rfl;have hbB:a9D (links,sat,kC,nL)=((decide (sat=0)&&decide (kC=0))||(decide (1≤sat)&&decide (sat<kC)&&DY kC)):=rfl;generalize a4C n i (links,sat,kC,nL)=nb at*;generalize a9D (links,sat,kC,nL)=bb at*;generalize NN n i nL=lb at*;generalize DY kC=tb at*;clear b69;obtain⟨vT,nG,tF,kX,wC,vZ,a1V⟩:=aO sJ oQ hsB lK aTI aTH hbB;clear sJ oQ hsB lK aTI aTH hbB;by_cases hn1:nL= -1
     ·have d1:(nL != -1)=false:=by simp[hn1]
      obtain rfl:nb=true:=by rw[hnB,decide_eq_true hn1];rfl
      clear hnB hn1;by_cases yZ:sat=0
      ·have d2:(sat==0)=true:=by simp[yZ]
       have d4:decide (sat<1)=true:=by simp;omega
       by_cases qC:kC=0
       ·have d3:(kC==0)=true:=by simp[qC]
        have hv:mR n i (links,sat,kC,nL)=true:=by rw[tF.o,a1V.o,decide_eq_true yZ,decide_eq_true qC];rfl
        clear yZ qC;go_wp2_with (first|(go_at_call 106;refine(wC.o _).mono ?_;rintro e w3 ⟨rfl,rfl⟩)|(go_at_call 105;refine(vZ.o _).mono ?_;rintro e w3 ⟨rfl,kT⟩;have HB3:=aA kT;clear kT))
        go_roundw
        case rel=>exact⟨i+1,by omega,by go_num,aA (nG.o hv),by first|exact kX|exact aA (kX.o.tm HB3.o)⟩
        case measure=>simp[intOf];omega
       ·have d3:(kC==0)=false:=by simp[qC]
        have hv:mR n i (links,sat,kC,nL)=false:=by rw[tF.o,a1V.o,decide_eq_false qC,decide_eq_false (show ¬1≤sat by omega)];simp
        clear yZ qC;obtain rfl:=vT.o hv;clear hv;go_wp2_with (first|(go_at_call 106;refine(wC.o _).mono ?_;rintro e w3 ⟨rfl,rfl⟩)|(go_at_call 105;refine(vZ.o _).mono ?_;rintro e w3 ⟨rfl,kT⟩;have HB3:=aA kT;clear kT))
        first|go_ret|(rw[Exit.noGoto_ret];go_ret)
        first|exact⟨rfl,kX.o⟩|exact⟨rfl,kX.o.tm HB3.o⟩
      ·have d2:(sat==0)=false:=by simp[yZ]
       by_cases qC:sat<1
       ·have d4:decide (sat<1)=true:=by simp;omega
        have hv:mR n i (links,sat,kC,nL)=false:=by rw[tF.o,a1V.o,decide_eq_false yZ,decide_eq_false (show ¬1≤sat by omega)];simp
        clear yZ qC;obtain rfl:=vT.o hv;clear hv;go_wp2_with (first|(go_at_call 106;refine(wC.o _).mono ?_;rintro e w3 ⟨rfl,rfl⟩)|(go_at_call 105;refine(vZ.o _).mono ?_;rintro e w3 ⟨rfl,kT⟩;have HB3:=aA kT;clear kT))
        first|go_ret|(rw[Exit.noGoto_ret];go_ret)
        first|exact⟨rfl,kX.o⟩|exact⟨rfl,kX.o.tm HB3.o⟩
       ·have d4:decide (sat<1)=false:=by simp;omega
        by_cases wY:kC≤sat
        ·have d5:decide (kC≤sat)=true:=by simp;omega
         have hv:mR n i (links,sat,kC,nL)=false:=by rw[tF.o,a1V.o,decide_eq_false yZ,decide_eq_false (show ¬sat<kC by omega)];simp
         clear yZ qC wY;obtain rfl:=vT.o hv;clear hv;go_wp2_with (first|(go_at_call 106;refine(wC.o _).mono ?_;rintro e w3 ⟨rfl,rfl⟩)|(go_at_call 105;refine(vZ.o _).mono ?_;rintro e w3 ⟨rfl,kT⟩;have HB3:=aA kT;clear kT))
         first|go_ret|(rw[Exit.noGoto_ret];go_ret)
         first|exact⟨rfl,kX.o⟩|exact⟨rfl,kX.o.tm HB3.o⟩
        ·have d5:decide (kC≤sat)=false:=by simp;omega
         cases tb
         case false=>
          have hv:mR n i (links,sat,kC,nL)=false:=by rw[tF.o,a1V.o,decide_eq_false yZ];simp
          clear yZ qC wY;obtain rfl:=vT.o hv;clear hv;go_wp2_with (first|(go_at_call 106;refine(wC.o _).mono ?_;rintro e w3 ⟨rfl,rfl⟩)|(go_at_call 105;refine(vZ.o _).mono ?_;rintro e w3 ⟨rfl,kT⟩;have HB3:=aA kT;clear kT))
          first|go_ret|(rw[Exit.noGoto_ret];go_ret)
          first|exact⟨rfl,kX.o⟩|exact⟨rfl,kX.o.tm HB3.o⟩
         case true=>
          have hv:mR n i (links,sat,kC,nL)=true:=by rw[tF.o,a1V.o,decide_eq_true (show 1≤sat by omega),decide_eq_true (show sat<kC by omega)];simp
          clear yZ qC wY;go_wp2_with (first|(go_at_call 106;refine(wC.o _).mono ?_;rintro e w3 ⟨rfl,rfl⟩)|(go_at_call 105;refine(vZ.o _).mono ?_;rintro e w3 ⟨rfl,kT⟩;have HB3:=aA kT;clear kT))
          go_roundw
          case rel=>exact⟨i+1,by omega,by go_num,aA (nG.o hv),by first|exact kX|exact aA (kX.o.tm HB3.o)⟩
          case measure=>simp[intOf];omega
     ·have d1:(nL != -1)=true:=by simp[hn1]
      obtain rfl:nb=lb:=by rw[hnB,decide_eq_false hn1];rfl
      clear hnB hn1;cases nb
      case false=>
       have hv:mR n i (links,sat,kC,nL)=false:=by rw[tF.o];rfl
       obtain rfl:=vT.o hv;clear hv;go_wp2_with (first|(go_at_call 106;refine(wC.o _).mono ?_;rintro e w3 ⟨rfl,rfl⟩)|(go_at_call 105;refine(vZ.o _).mono ?_;rintro e w3 ⟨rfl,kT⟩;have HB3:=aA kT;clear kT))
       first|go_ret|(rw[Exit.noGoto_ret];go_ret)
       first|exact⟨rfl,kX.o⟩|exact⟨rfl,kX.o.tm HB3.o⟩
      case true=>
       by_cases yZ:sat=0
       ·have d2:(sat==0)=true:=by simp[yZ]
        have d4:decide (sat<1)=true:=by simp;omega
        by_cases qC:kC=0
        ·have d3:(kC==0)=true:=by simp[qC]
         have hv:mR n i (links,sat,kC,nL)=true:=by rw[tF.o,a1V.o,decide_eq_true yZ,decide_eq_true qC];rfl
         clear yZ qC;go_wp2_with (first|(go_at_call 106;refine(wC.o _).mono ?_;rintro e w3 ⟨rfl,rfl⟩)|(go_at_call 105;refine(vZ.o _).mono ?_;rintro e w3 ⟨rfl,kT⟩;have HB3:=aA kT;clear kT))
         go_roundw
         case rel=>exact⟨i+1,by omega,by go_num,aA (nG.o hv),by first|exact kX|exact aA (kX.o.tm HB3.o)⟩
         case measure=>simp[intOf];omega
        ·have d3:(kC==0)=false:=by simp[qC]
         have hv:mR n i (links,sat,kC,nL)=false:=by rw[tF.o,a1V.o,decide_eq_false qC,decide_eq_false (show ¬1≤sat by omega)];simp
         clear yZ qC;obtain rfl:=vT.o hv;clear hv;go_wp2_with (first|(go_at_call 106;refine(wC.o _).mono ?_;rintro e w3 ⟨rfl,rfl⟩)|(go_at_call 105;refine(vZ.o _).mono ?_;rintro e w3 ⟨rfl,kT⟩;have HB3:=aA kT;clear kT))
         first|go_ret|(rw[Exit.noGoto_ret];go_ret)
         first|exact⟨rfl,kX.o⟩|exact⟨rfl,kX.o.tm HB3.o⟩
       ·have d2:(sat==0)=false:=by simp[yZ]
        by_cases qC:sat<1
        ·have d4:decide (sat<1)=true:=by simp;omega
         have hv:mR n i (links,sat,kC,nL)=false:=by rw[tF.o,a1V.o,decide_eq_false yZ,decide_eq_false (show ¬1≤sat by omega)];simp
         clear yZ qC;obtain rfl:=vT.o hv;clear hv;go_wp2_with (first|(go_at_call 106;refine(wC.o _).mono ?_;rintro e w3 ⟨rfl,rfl⟩)|(go_at_call 105;refine(vZ.o _).mono ?_;rintro e w3 ⟨rfl,kT⟩;have HB3:=aA kT;clear kT))
         first|go_ret|(rw[Exit.noGoto_ret];go_ret)
         first|exact⟨rfl,kX.o⟩|exact⟨rfl,kX.o.tm HB3.o⟩
        ·have d4:decide (sat<1)=false:=by simp;omega
         by_cases wY:kC≤sat
         ·have d5:decide (kC≤sat)=true:=by simp;omega
          have hv:mR n i (links,sat,kC,nL)=false:=by rw[tF.o,a1V.o,decide_eq_false yZ,decide_eq_false (show ¬sat<kC by omega)];simp
          clear yZ qC wY;obtain rfl:=vT.o hv;clear hv;go_wp2_with (first|(go_at_call 106;refine(wC.o _).mono ?_;rintro e w3 ⟨rfl,rfl⟩)|(go_at_call 105;refine(vZ.o _).mono ?_;rintro e w3 ⟨rfl,kT⟩;have HB3:=aA kT;clear kT))
          first|go_ret|(rw[Exit.noGoto_ret];go_ret)
          first|exact⟨rfl,kX.o⟩|exact⟨rfl,kX.o.tm HB3.o⟩
         ·have d5:decide (kC≤sat)=false:=by simp;omega
          cases tb
          case false=>
           have hv:mR n i (links,sat,kC,nL)=false:=by rw[tF.o,a1V.o,decide_eq_false yZ];simp
           clear yZ qC wY;obtain rfl:=vT.o hv;clear hv;go_wp2_with (first|(go_at_call 106;refine(wC.o _).mono ?_;rintro e w3 ⟨rfl,rfl⟩)|(go_at_call 105;refine(vZ.o _).mono ?_;rintro e w3 ⟨rfl,kT⟩;have HB3:=aA kT;clear kT))
           first|go_ret|(rw[Exit.noGoto_ret];go_ret)
           first|exact⟨rfl,kX.o⟩|exact⟨rfl,kX.o.tm HB3.o⟩
          case true=>
           have hv:mR n i (links,sat,kC,nL)=true:=by rw[tF.o,a1V.o,decide_eq_true (show 1≤sat by omega),decide_eq_true (show sat<kC by omega)];simp
           clear yZ qC wY;go_wp2_with (first|(go_at_call 106;refine(wC.o _).mono ?_;rintro e w3 ⟨rfl,rfl⟩)|(go_at_call 105;refine(vZ.o _).mono ?_;rintro e w3 ⟨rfl,kT⟩;have HB3:=aA kT;clear kT))
           go_roundw
           case rel=>exact⟨i+1,by omega,by go_num,aA (nG.o hv),by first|exact kX|exact aA (kX.o.tm HB3.o)⟩
           case measure=>simp[intOf];omega
  ·obtain rfl:i=n:=by omega
   obtain rfl:R=true:=by rw[←qM.o];exact aE8 (by rw[oC.o];omega) (by rw[oC.o];omega) (fun j hj=>by rw[oC.o]at hj ⊢;exact lY.o j hj)
   go_wp2_with fail
   first|go_ret|(rw[Exit.noGoto_ret];go_ret)
   exact⟨rfl,hb.o⟩
end Go.Proofs.YtceclmpmpldmlaaGreat
namespace Tt
open Go Go.RowKit
structure Mv (g gt:Nat) (sv zS:Value) (w w':World):Prop where
 os:w'.os=w.os
 tape:w'.tape=w.tape
 output:w'.output=w.output
 size:w.heap.size≤w'.heap.size
 block:∀k,k<w.heap.size→k≠g→k≠gt→sv.ownBlock≠some k→w'.heap[k]? =w.heap[k]?
 own:∀k,zS.ownBlock=some k→sv.ownBlock=some k∨w.heap.size≤k
theorem Mv.refl (g gt:Nat) (sv:Value) (w:World):Mv g gt sv sv w w:=⟨rfl,rfl,rfl,aY _,fun _ _ _ _ _=>rfl,fun _ h=> .inl h⟩
theorem Mv.trans {g gt:Nat} {sv s1 s2:Value} {w w1 w2:World} (h:Mv g gt sv s1 w w1) (k:Mv g gt s1 s2 w1 w2):Mv g gt sv s2 w w2:=
 ⟨k.os.trans h.os,k.tape.trans h.tape,k.output.trans h.output,bU h.size k.size,fun i hi h1 h2 h3=>
  (k.block i (dD hi h.size) h1 h2 (fun e=>by rcases h.own i e with e'|e' <;> first|exact h3 e'|omega)).trans (h.block i hi h1 h2 h3),
  fun i e=>by
  rcases k.own i e with e'|e'
  ·exact h.own i e'
  ·exact .inr (bU h.size e')⟩
theorem Mv.of_below {g gt:Nat} {sv:Value} {w w':World} (h:Below w.heap.size w w'):Mv g gt sv sv w w':=
 ⟨h.os,h.tape,h.output,h.size,fun k hk _ _ _=>h.block k hk,fun _ e=> .inl e⟩
theorem Mv.later {g gt:Nat} {sv s1:Value} {w w1 w2:World} (h:Mv g gt sv s1 w w1) (k:Below w1.heap.size w1 w2):Mv g gt sv s1 w w2:=h.trans (Mv.of_below k)
theorem Mv.E5 {g gt b:Nat} {sv:Value} {w w':World} (h:But b w w') (hb:b=g∨b=gt):Mv g gt sv sv w w':=
 ⟨h.os,h.tape,h.output,h.size,fun k hk h1 h2 _=>h.block k hk (by rintro rfl;rcases hb with rfl|rfl <;> contradiction),fun _ e=> .inl e⟩
theorem Mv.WY {g gt:Nat} {sv zS:Value} {w w':World} (h:w.grownBy w' sv.ownBlock) (ho:∀k,zS.ownBlock=some k→sv.ownBlock=some k∨w.heap.size≤k):Mv g gt sv zS w w':=
 ⟨h.os,h.tape,h.output,h.size,fun k hk _ _ h3=>h.block k hk (Ne.symm h3),ho⟩
theorem kG.grown {w w':World} {row:Option Nat} {g:Nat} {T:TypeId} {cs:Array Value} (h:kG w g T cs) (hg:w.grownBy w' row) (pQ:row≠some g):kG w' g T cs:=(hg.block g h.lt (Ne.symm pQ)).trans h
theorem Mv.below {g gt B:Nat} {sv zS:Value} {w w':World} (h:Mv g gt sv zS w w') (h1:B≤g) (h2:B≤gt) (h3:∀k,sv.ownBlock=some k→B≤k) (h4:B≤w.heap.size):Below B w w':=
 ⟨h.os,h.tape,h.output,h.size,fun k hk=>h.block k aG aG aG (fun e=>by have:=h3 k e;omega)⟩
def Ck (X:Nat→Prop) (B:Nat) (w:World) (v:Value) (E:TypeId) (sz n:Nat) (xs:List Value):Prop:=w.ownsRow B E sz v n xs∧∀k,v.ownBlock=some k→¬X k
structure Kp (X X':Nat→Prop) (B:Nat) (w w':World):Prop where
 size:w.heap.size≤w'.heap.size
 block:∀k,B≤k→k<w.heap.size→¬X k→w'.heap[k]? =w.heap[k]? ∧¬X' k
theorem Ck.keep {X X':Nat→Prop} {B:Nat} {w w':World} {v:Value} {E:TypeId} {sz n:Nat} {xs:List Value} (h:Ck X B w v E sz n xs) (k:Kp X X' B w w'):Ck X' B w' v E sz n xs:=by
 obtain⟨⟨hl,hr⟩,hx⟩:=h;rcases hr with hn|⟨g,cap,cur,rfl,hB,hg,r⟩
 ·exact⟨⟨hl,.inl hn⟩,fun j e=>by obtain⟨rfl,_⟩:=hn;cases e⟩
 ·have kY:g<w.heap.size:=(dA.1 hg).1;have hk:=k.block g hB kY (hx g rfl);exact⟨⟨hl,.inr ⟨g,cap,cur,rfl,hB,hk.1.trans hg,r⟩⟩,fun j e=>by
   have:g=j:=by injection e
   subst this;exact hk.2⟩
theorem Ck.mono {X:Nat→Prop} {B B':Nat} {w:World} {v:Value} {E:TypeId} {sz n:Nat} {xs:List Value} (h:Ck X B w v E sz n xs) (hB:B'≤B):Ck X B' w v E sz n xs:=⟨lN h.1 hB,h.2⟩
theorem Ck.sl {X:Nat→Prop} {B:Nat} {w:World} {a:Option Addr} {n c sz m:Nat} {E:TypeId} {xs:List Value} (h:Ck X B w (.slice a n c) E sz m xs):Sl w a n c sz xs:=(Sl.kZ h.1).1
theorem Kp.later {X:Nat→Prop} {B:Nat} {w w':World} (h:Below w.heap.size w w'):Kp X X B w w':=⟨h.size,fun k _ hk hx=>⟨h.block k hk,hx⟩⟩
theorem Kp.mv {g gt B:Nat} {sv zS:Value} {w w':World} (h:Mv g gt sv zS w w') (h1:g<B) (h2:gt<B):Kp (fun k=>sv.ownBlock=some k) (fun k=>zS.ownBlock=some k) B w w':=
 ⟨h.size,fun k hB hk hx=>⟨h.block k hk aG aG hx,fun e=>by rcases h.own k e with e'|e' <;> first|exact hx e'|omega⟩⟩
theorem Kp.same {X X':Nat→Prop} {B:Nat} {w:World} (h:∀k,B≤k→k<w.heap.size→¬X k→¬X' k):Kp X X' B w w:=⟨aY _,fun k hB hk hx=>⟨rfl,h k hB hk hx⟩⟩
end Tt
namespace Go.Proofs.YtceclmpmpldmlaaGreat
open Go.RowKit Tt
abbrev Tz:=(Int×Int×Int×Option Addr×Nat×Nat)×List Int
abbrev JL:Tz:=((0,0,0,none,0,0), [])
def nO (z:Tz):oZ:=(z.1.1,z.1.2.1,z.1.2.2.1,z.2)
def tzc (z:Tz):List Value:= [.int .i64 z.1.1,.int .i64 z.1.2.1,.int .i64 z.1.2.2.1,.slice z.1.2.2.2.1 z.1.2.2.2.2.1 z.1.2.2.2.2.2]
theorem aMS (z:Tz):(tzc z).length=4:=rfl
theorem b2Z (z:Tz):∀u∈tzc z,u.oneCell'=true:=by
 intro u hu;simp only[tzc,cK,eG,or_false]at hu;rcases hu with rfl|rfl|rfl|rfl <;> rfl
def tzd (z:Tz):Value:= .slice z.1.2.2.2.1 z.1.2.2.2.2.1 z.1.2.2.2.2.2
def lX (X:Nat→Prop) (B:Nat) (w:World) (v:Value) (ts:List oZ):Prop:=
 ∃zs:List Tz,ts=zs.map nO∧Ck X B w v 74 4 zs.length (fl tzc zs)∧∀z∈zs,Ck X B w (tzd z) 5 1 z.2.length (ints .u8 z.2)
abbrev Dz:=Value×Value×Value
def dvC (d:Dz):List Value:= [d.1,d.2.1,d.2.2]
def sbC (x:Int×Dz):List Value:= [.int .i64 x.1,x.2.1,x.2.2.1,x.2.2.2]
theorem qV (x:Int×Dz):(sbC x).length=4:=rfl
theorem qW (x:Dz):(dvC x).length=3:=rfl
def b30 (d:Dz):Prop:=∀u∈dvC d,u.oneCell'=true
def nX (X:Nat→Prop) (B:Nat) (w:World):(f:Nat)→jY f→Dz→Prop
 |0,_,_=>False
 |f+1,d,v=>b30 v∧lX X B w v.1 d.1∧
   (∃ds:List (Int×Dz),ds.length=d.2.1.length∧Ck X B w v.2.1 28 4 ds.length (fl sbC ds)∧∀i (h:i<ds.length) (h':i<d.2.1.length),ds[i].1=d.2.1[i].1∧nX X B w f d.2.1[i].2 ds[i].2)∧
   Ck X B w v.2.2 5 1 d.2.2.length (ints .u8 d.2.2)
theorem lX.keep {X X':Nat→Prop} {B:Nat} {w w':World} {v:Value} {ts:List oZ} (h:lX X B w v ts) (k:Kp X X' B w w'):lX X' B w' v ts:=by
 obtain⟨zs,h1,h2,h3⟩:=h;exact⟨zs,h1,h2.keep k,fun z hz=>(h3 z hz).keep k⟩
theorem nX.keep {X X':Nat→Prop} {B:Nat} {w w':World} (k:Kp X X' B w w'):∀{f:Nat} {d:jY f} {v:Dz},nX X B w f d v→nX X' B w' f d v
 |0,_,_,h=>h.elim
 |f+1,d,v,h=>by
  obtain⟨h0,h1,⟨ds,h2,h3,h4⟩,h5⟩:=h;exact⟨h0,h1.keep k,⟨ds,h2,h3.keep k,fun i hi vN=>⟨(h4 i hi vN).1,(h4 i hi vN).2.keep k⟩⟩,h5.keep k⟩
theorem lX.mono {X:Nat→Prop} {B B':Nat} {w:World} {v:Value} {ts:List oZ} (h:lX X B w v ts) (hB:B'≤B):lX X B' w v ts:=by
 obtain⟨zs,h1,h2,h3⟩:=h;exact⟨zs,h1,h2.mono hB,fun z hz=>(h3 z hz).mono hB⟩
theorem nX.mono {X:Nat→Prop} {B B':Nat} {w:World} (hB:B'≤B):∀{f:Nat} {d:jY f} {v:Dz},nX X B w f d v→nX X B' w f d v
 |0,_,_,h=>h.elim
 |f+1,d,v,h=>by
  obtain⟨h0,h1,⟨ds,h2,h3,h4⟩,h5⟩:=h;exact⟨h0,h1.mono hB,⟨ds,h2,h3.mono hB,fun i hi vN=>⟨(h4 i hi vN).1,(h4 i hi vN).2.mono hB⟩⟩,h5.mono hB⟩
def spC (x:mZ):List Value:= [.int .i64 x.1,.int .i64 x.2.1,.int .i64 x.2.2.1,.int .i64 x.2.2.2.1,.int .i64 x.2.2.2.2]
theorem WZ (x:mZ):(spC x).length=5:=rfl
theorem aMT (x:mZ):∀u∈spC x,u.oneCell'=true:=by
 intro u hu;simp only[spC,cK,eG,or_false]at hu;rcases hu with rfl|rfl|rfl|rfl|rfl <;> rfl
end Go.Proofs.YtceclmpmpldmlaaGreat
namespace Tt
open Go Go.RowKit
section
variable {P:Program} {w:World} {ops:Array Oper} {rest:List Oper} {o:Oper} {a:Act} {Q:Exit→Act→World→Prop}
theorem mU (UA:o.guard=none) (s x:Operand) (t:TypeId)
  (ho:o.op= .call {callee:= .builtin .append,args:=#[s,x],argTypes:=#[t,t]})
  (base:Nat) (e:TypeId) (i:TypeInfo) (z:Value) (size bytes:Nat) (ht:P.underlying t=some (.slice e)) (hi:P.info? e=some i) (hz:i.zero=some z)
  (hsize:i.size=size) (qL:i.bytes=bytes) (UB:z.cells.size=size) (tC:0<size)
  (v:Value) (n:Nat) (xs:List Value) (hs:a.eval s=v) (mK:w.ownsRow base e size v n xs)
  (xa:Addr) (m c:Nat) (news:List Value) (hx:a.eval x= .slice (some xa) m c) (hS:Sl w (some xa) m c size news) (h1:∀u∈news,u.oneCell'=true)
  (hbytes:(n+m)*bytes≤140737488355328) (AX:0<bytes) (hbase:base≤w.heap.size)
  (h:∀(a':Option Addr) (c':Nat) (w':World),w'.ownsRow base e size (.slice a' (n+m) c') (n+m) (xs++news)→w.grownBy w' v.ownBlock→(∀k,(Value.slice a' (n+m) c').ownBlock=some k→v.ownBlock=some k∨w.heap.size≤k)→wpList P ops Q rest (a.put o.dst (.slice a' (n+m) c')) w'):wpList P ops Q (o::rest) a w:=by
 have h63:n+m≤maxLen:=by
  have:(n+m)*1≤(n+m)*bytes:=Nat.mul_le_mul_left _ AX;unfold maxLen;omega
 have GA:∀(B:Nat) (v':Value) (w':World),w'.ownsRow B e size v' (n+m) (xs++news)→∃(a':Option Addr) (c':Nat),v'= .slice a' (n+m) c':=by
  intro B v' w' hw;rcases hw.2 with ⟨rfl,h0⟩|⟨g,cap,cur,rfl,_⟩
  ·exact⟨none,0,by rw[h0]⟩
  ·exact⟨_,_,rfl⟩
 have b21:∀j u,news[j]? =some u→w.cell? (xa.add j)=some u:=fun j u hu=>by
  have hj:j<news.length:=(dP.1 hu).1;have hm:0<m:=by
   rcases iE m with h0|h0
   ·rw[hS.len,h0]at hj;omega
   ·exact h0
  obtain⟨b,off,e1,_,hc⟩:=hS.lies 0 hm;injection e1 with e1;subst e1;rw[fF];exact hc j u hu
 have grow:∀(ao:Option Addr) (cap:Nat),v= .slice ao n cap→cap<n+m→wpList P ops Q (o::rest) a w:=fun ao cap hv KF=>by
  subst hv;have qU:=(Sl.kZ mK).1;refine wpList_append_grows w UA s x t ho e i z size bytes ht hi hz hsize qL UB tC ao n cap xs hs (fun hn=>?_) qU.len (fun b hb j u hj=>?_) xa m c news hx hS.len b21 h1 KF h63 hbytes ?_
  ·subst hn;have:=qU.fit rfl;have:=qU.le;exact⟨by omega,by omega⟩
  ·subst hb;have hj2:j<xs.length:=(dP.1 hj).1;have hn0:0<n:=by
    rcases iE n with h0|h0
    ·rw[qU.len,h0]at hj2;omega
    ·exact h0
   obtain⟨b',off,e1,_,hc⟩:=qU.lies 0 hn0;injection e1 with e1;subst e1;rw[fF];exact hc j u hj
  ·intro v' w' h2 h3;obtain⟨a',c',rfl⟩:=GA _ v' w' h2;refine h _ _ w' (lN h2 hbase) ⟨h3.os,h3.tape,h3.output,h3.size,fun k hk _=>h3.block k hk (by simp)⟩ (fun k hk=> .inr (h2.lt k hk).1)
 rcases mK.2 with ⟨hv,hn⟩|⟨g,cap,cur,hv,_⟩
 ·by_cases hm:0<m
  ·exact grow none 0 (by rw[hv,hn]) aG
  ·subst hv hn;have hm0:m=0:=by omega
   have hn0:news= []:=dS (by rw[hS.len,hm0];simp);have hx0:xs= []:=dS (by rw[mK.1];simp);exact wpList_append_own w UA s x t ho base e i z size bytes ht hi hz hsize qL UB tC (.slice none 0 0) 0 xs hs mK xa m c news hx hS.len b21 h1 h63 hbytes hbase fun v' w' h2 h3 h4=>by
    obtain rfl:=h4.2 ⟨rfl,hm0⟩;have:=h none 0 w' (by rw[hm0];rw[hm0]at h2;exact h2) h3 (fun k hk=>by cases hk);rw[hm0]at this;exact this
 ·by_cases JF:n+m≤cap
  ·subst hv;exact wpList_append_fits w UA s x t ho base e i size ht hi hsize g n cap xs hs mK xa m c news hx hS.len b21 h1 JF fun w' h2 h3=>h _ _ w' h2 h3 (fun k hk=> .inl hk)
  ·exact grow _ cap hv aG
end
end Tt
namespace Go.Proofs.YtceclmpmpldmlaaGreat
open Go.RowKit Tt
theorem bUR:(Tryz.prog.info? 50).map (fun i=>(i.size,i.bytes))=some (5,40):=by kernel_rfl
theorem bUS:(Tryz.prog.info? 50).map (fun i=>i.zero.map (fun z=>z.cells.size))=some (some 5):=by kernel_rfl
theorem a2R {T:TypeId} {sz MC:Nat} (h1:(Tryz.prog.info? T).map (fun i=>(i.size,i.bytes))=some (sz,MC)) (h2:(Tryz.prog.info? T).map (fun i=>i.zero.map (fun z=>z.cells.size))=some (some sz)):
  ∃(i:TypeInfo) (z:Value),Tryz.prog.info? T=some i∧i.zero=some z∧i.size=sz∧i.bytes=MC∧z.cells.size=sz:=by
 cases hi:Tryz.prog.info? T with
 |none=>rw[hi]at h1;cases h1
 |some i=>
  rw[hi]at h1 h2;simp only[gM,fQ,iF]at h1 h2;cases hz:i.zero with
  |none=>rw[hz]at h2;cases h2
  |some z=>
   rw[hz]at h2;simp only[gM,fQ]at h2;exact⟨i,z,rfl,hz,h1.1,h1.2,h2⟩
theorem X0 (ta sa ba:Option Addr) (tn tc sn sc bn bc:Nat) (w:World) (h1:tn<1000000) (h2:sn<1000000):
  Calls Tryz.prog 15 #[.agg #[.slice ta tn tc,.slice sa sn sc,.slice ba bn bc]] w fun e w'=>e= .returned (.int .i64 (pU tn sn bn:Nat))∧Below w.heap.size w w':=by
 have xR:IntKind.i64.wrap ((tn:Int)+sn)=(tn:Int)+sn:=by rw[bJ];omega
 have hw2:IntKind.i64.wrap ((tn:Int)+sn+2)=(tn:Int)+sn+2:=by rw[bJ];omega
 unfold pU;have hb:=aD w (.cells #[.slice ta tn tc,.slice sa sn sc,.slice ba bn bc] 26);have pW:=aA hb;clear hb;by_cases h:0<bn
 ·rw[if_pos h];have d:decide ((0:Int)<bn)=true:=by simp;omega
  go_enter Tryz.func15,Tryz.ntmps15;go_wp2_with fail
  go_ret;exact⟨aAG aG,pW.o⟩
 ·rw[if_neg h];have d:decide ((0:Int)<bn)=false:=by simp;omega
  go_enter Tryz.func15,Tryz.ntmps15;go_wp2_with fail
  go_ret;exact⟨aAG aG,pW.o⟩
theorem aTL (n:Nat) (w:World) (h1:n<4611686018427387904):Calls Tryz.prog 160 #[.int .i64 n] w fun e w'=>e= .returned (.int .i64 (qQ n))∧w=w':=by
 have ha:bits .and .i64 (n:Int) 1=((n % 2:Nat):Int):=by
  have:=b2S n 1 aG aG;rw[Nat.and_one_is_mod]at this;exact this
 have hw:IntKind.i64.wrap ((n:Int)+(n % 2:Nat))=qQ n:=by rw[bJ];unfold qQ;omega
 go_enter Tryz.func160,Tryz.ntmps160;go_wp2_with fail
 go_ret;exact⟨rfl,rfl⟩
theorem aPD {l:List mZ} {n:Nat} (hl:l.length=n+1):nI l=(l.getD n (0,0,0,0,0)).2.2.2.1+(l.getD n (0,0,0,0,0)).2.2.2.2:=by
 unfold nI;rw[List.getLast?_eq_getElem?,hl,Nat.add_sub_cancel,aZ,bH aG];rfl
end Go.Proofs.YtceclmpmpldmlaaGreat
namespace Tt
open Go Go.RowKit
end Tt
namespace Go.Proofs.YtceclmpmpldmlaaGreat
open Go.RowKit Tt
theorem a9E {w:World} {B:Nat} {E:TypeId} {sz:Nat} {v:Value} {n:Nat} {xs:List Value} (h:w.ownsRow B E sz v n xs):∃a c,v= .slice a n c:=by
 rcases h.2 with ⟨rfl,h0⟩|⟨g,cap,cur,rfl,_⟩
 ·exact⟨none,0,by rw[h0]⟩
 ·exact⟨_,_,rfl⟩
def Spr (B:Nat) (w:World) (v:Value) (l:List mZ):Prop:=w.ownsRow B 50 5 v l.length (fl spC l)
