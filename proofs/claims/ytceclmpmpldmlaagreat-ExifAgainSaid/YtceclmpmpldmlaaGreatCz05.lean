import Derived.WalkMore
import Derived.Test.YtceclmpmpldmlaaGreatCz04
set_option linter.unusedSimpArgs false
set_option linter.unusedVariables false
namespace Go.Proofs.YtceclmpmpldmlaaGreat
open Go.RowKit Tt
theorem a8M {zs:List VQ} {i:Nat} (hi:i<zs.length) (h:lH zs.length i (zs.getD i wR).2=false):l9 (jN zs)=false:=by
 unfold l9;rw[show(jN zs).length=zs.length by simp[jN]];have:(List.range zs.length).all (fun i=>lH zs.length i ((jN zs).getD i jM))=false:=by
  rw[List.all_eq_false];exact⟨i,bW.2 hi,by rw[tZ hi,h];simp⟩
 rw[this];simp
theorem a8N {zs:List VQ} (h1:1≤zs.length) (h2:zs.length≤16) (h:∀i,i<zs.length→lH zs.length i (zs.getD i wR).2=true):l9 (jN zs)=true:=by
 unfold l9;rw[show(jN zs).length=zs.length by simp[jN]];have:(List.range zs.length).all (fun i=>lH zs.length i ((jN zs).getD i jM))=true:=by
  rw[cZ];exact fun i hi=>by rw[tZ (bW.1 hi)];exact h i (bW.1 hi)
 rw[this];simp;omega
theorem a8O {n i k:Nat} {s:lV} (hk:k<s.1.length) (h:qO n i s k=false):lH n i s=false:=by
 unfold lH;have:(List.range s.1.length).all (qO n i s)=false:=List.all_eq_false.2 ⟨k,bW.2 hk,by rw[h];simp⟩;rw[this];rfl
theorem a4O {n i:Nat} {s:lV} (h:∀k,k<s.1.length→qO n i s k=true):lH n i s=(XU n i s&&a2F s):=by
 unfold lH;have:(List.range s.1.length).all (qO n i s)=true:=cZ.2 fun k hk=>h k (bW.1 hk);rw[this];rfl
set_option maxRecDepth 20000 in
set_option maxHeartbeats 8000000 in
theorem XV (a:Option Addr) (n c:Nat) (zs:List VQ) (w:World) (h:ShR w a n c zs):Calls Tryz.prog 47 #[.slice a n c] w fun e w'=>e= .returned (.bool (l9 (jN zs)))∧Below w.heap.size w w':=by
 have hzl:=h.len;have hle:=h.row.le;have hmx:=h.row.max;obtain⟨R,hR⟩:=aC (l9 (jN zs));rw[hR];have hTG:=fun x W=>aH7 x W;have hLT:=fun i x W=>aJJ a n c i x W;by_cases h1:n<1
 ·obtain rfl:R=false:=by rw[←hR];unfold l9;simp[jN];omega
  have d1:decide ((n:Int)<1)=true:=by simp;omega
  clear hR hTG hLT h;go_enter Tryz.func47,Tryz.ntmps47;go_wp2_with fail
  go_step3
  go_wp2_with fail
  first|go_ret|(rw[dQ];go_ret)
  exact⟨rfl,aW _ _⟩
 have d1:decide ((n:Int)<1)=false:=by simp;omega
 by_cases h2:16<n
 ·obtain rfl:R=false:=by rw[←hR];unfold l9;simp[jN];omega
  have d2:decide ((16:Int)<n)=true:=by simp;omega
  clear hR hTG hLT h;go_enter Tryz.func47,Tryz.ntmps47;go_wp2_with fail
  go_step3
  go_wp2_with fail
  first|go_ret|(rw[dQ];go_ret)
  exact⟨rfl,aW _ _⟩
 have d2:decide ((16:Int)<n)=false:=by simp;omega
 obtain⟨h',mV,hR',XY,bBC⟩:=aI h hzl hR hTG hLT;clear h hzl hR hTG hLT;go_enter Tryz.func47,Tryz.ntmps47;go_wp2_with fail
 go_step3
 go_wp2_with fail
 go_step3
 go_wp2_with fail
 clear d1 d2;go_loopw [17] (fun iv wr=>∃i:Nat,i≤n∧iv= .int .i64 i∧Hid (∀j,j<i→lH n j (zs.getD j wR).2=true)∧Hid (Below w.heap.size w wr)) (fun iv _=>n - (intOf iv).toNat)
 case atStart=>exact⟨0,by omega,rfl,aA (fun j hj=>by omega),aA (aW _ _)⟩
 case round=>
  obtain⟨i,hi,rfl,hall,hb⟩:=hrel;by_cases hlt:i<n
  ·have hrow:=h'.o.row.mono hb.o;have hlk:=(h'.o.at hlt).mono hb.o;obtain⟨b,o,rfl,hbb,f⟩:=hrow.elem vN (by decide) wR hlt;have hRn:=fun hh=>a8M (zs:=zs) (i:=i) (by rw[mV.o];exact hlt) hh;rw[mV.o]at hRn;obtain⟨⟨⟨la,ln,lc⟩,⟨links,sat,jE,lZ⟩⟩,hz⟩:∃z,zs.getD i wR=z:=⟨_,rfl⟩;rw[hz]at f hlk hRn;simp only at hlk hRn;have f0:=f 0 _ rfl;have f1:=f 1 _ rfl;have f2:=f 2 _ rfl;have f3:=f 3 _ rfl;simp only[cK]at f0 f1 f2 f3;clear f hrow;have hin:(i:Int)<n:=by omega
   have hlm:=hlk.max;have hll:=hlk.le;have aW7:=hlk.uY qD (by decide);obtain⟨aJK,vC,hz',aZV⟩:=aH hlk hRn hz aW7;clear hlk hRn hz aW7;go_upto_region 6 with fail
   have b6:=jJ.new wr 35 #[.slice la ln lc,.int .i64 sat,.int .i64 jE,.int .i64 lZ];have hb6:=aD wr (.cells #[.slice la ln lc,.int .i64 sat,.int .i64 jE,.int .i64 lZ] 35);have a1D:=hb.o.tm hb6;have bBD:=aJK.o.mono hb6;clear f0 f1 f2 f3;generalize wr.alloc (.cells #[.slice la ln lc,.int .i64 sat,.int .i64 jE,.int .i64 lZ] 35)=w6 at*;generalize wr.heap.size=g6 at*;have c0:w6.cell? ⟨g6,0,none⟩=some (.slice la ln lc):=b6.cell rfl;obtain⟨b6',G7,UO,aZW⟩:=aH b6 hb6 a1D bBD;clear b6 hb6 a1D bBD;go_wp2_with fail
   clear c0;go_loopw [25] (fun kv wr2=>∃k:Nat,k≤ln∧kv= .int .i64 k∧Hid (∀j,j<k→qO n i (links,sat,jE,lZ) j=true)∧Hid (Below w6.heap.size w6 wr2)) (fun kv _=>ln - (intOf kv).toNat)
   case atStart=>exact⟨0,by omega,rfl,aA (fun j hj=>by omega),aA (aW _ _)⟩
   case round=>
    obtain⟨k,hk,rfl,aZX,hb2⟩:=hrel;by_cases hkl:k<ln
    ·obtain⟨b2,o2,rfl,bAZ,fe⟩:=(aZW.o.mono hb2.o).elem qD (by decide) (0,0) hkl;have e0:=fe 0 _ rfl;have e1:=fe 1 _ rfl;rw[cK]at e0;clear fe;obtain⟨⟨tg,sh⟩,hts⟩:∃z,links.getD k (0,0)=z:=⟨_,rfl⟩;rw[hts]at e0 e1;simp only at e0 e1;have hlB:qO n i (links,sat,jE,lZ) k=(xM tg&&(decide (k=0)||decide ((links.getD (k - 1) (0,0)).1<tg))&&I8 n i sh&& !(decide (0<sat)&&(decide (tg=sat)||decide (tg=jE)))):=by unfold qO;simp only[hts]
     have aN8:=fun W=>XY.o tg W;have aN9:=fun W=>bBC.o i sh W;generalize xM tg=tb at*;generalize I8 n i sh=lb at*;have JF:qO n i (links,sat,jE,lZ) k=false→R=false:=fun hh=>hR'.o▸vC.o (a8O (by rw[aZV.o];exact hkl) hh);have nK:qO n i (links,sat,jE,lZ) k=true→∀j,j<k+1→qO n i (links,sat,jE,lZ) j=true:=fun hv j hj=>by
      by_cases hjk:j=k
      ·subst hjk;exact hv
      ·exact aZX.o j (by omega)
     have hkn:(k:Int)<ln:=by omega
     obtain⟨pR,lW,NN⟩:=aG JF nK hts;clear JF nK hts;go_upto_region 9 with fail
     have b9:=jJ.new wr 32 #[.int .i64 tg,.int .i64 sh];have bBE:=aD wr (.cells #[.int .i64 tg,.int .i64 sh] 32);have aNA:=hb2.o.tm bBE;have rO:=UO.o.tm aNA;have b69:=b6'.o.late aNA;have bBF:=aZW.o.mono aNA;clear bBE;generalize wr.alloc (.cells #[.int .i64 tg,.int .i64 sh] 32)=w9 at*;generalize wr.heap.size=g9 at*;clear e0 e1 bAZ;obtain⟨Ty,f,hne,hbel,jH⟩:=jR w9;have HS:=aA (jH _ ((aW _ _).drew));have q0:∀s,(f s).cell? ⟨g9,0,none⟩=some (.int .i64 tg):=fun s=>(jJ.late b9 (hbel s)).cell rfl;have q1:∀s,(f s).cell? ⟨g9,1,none⟩=some (.int .i64 sh):=fun s=>(jJ.late b9 (hbel s)).cell rfl;have q2:∀s,(f s).cell? ⟨g6,0,none⟩=some (.slice (some ⟨b2,o2,none⟩) ln lc):=fun s=>(jJ.late b69 (hbel s)).cell rfl;have q3:∀s,(f s).cell? ⟨g6,1,none⟩=some (.int .i64 sat):=fun s=>(jJ.late b69 (hbel s)).cell rfl;have q4:∀s,(f s).cell? ⟨g6,2,none⟩=some (.int .i64 jE):=fun s=>(jJ.late b69 (hbel s)).cell rfl;obtain⟨b9',bTI,nZ,UQ,jG,jA,hlB',rT,rU,bBG⟩:=aN b9 b69 rO aNA hbel jH hlB aN8 aN9 bBF;clear b9 b69 rO aNA hbel jH hlB aN8 aN9 bBF;cases tb
     case false=>
      have hv:qO n i (links,sat,jE,lZ) k=false:=by rw[hlB'.o];simp
      refine jO f (by kernel_rfl) (by kernel_rfl) HS.o ?_;iterate 47 (go_big_quiet_step (first|((go_at_call 105;refine(rT.o _).mono ?_;rintro e w3 ⟨rfl,hb3⟩;exact⟨rfl,jA.o _ ((jG.o _).trans (hb3.mono (jG.o _).size))⟩))|(go_at_call 106;refine(rU.o _).mono ?_;rintro e w3 ⟨rfl,rfl⟩;exact⟨rfl,jA.o _ (jG.o _)⟩)))
      refine wpQuiet_nil ?_;intro s;have hbs:=jG.o s;have hbw:=nZ.o.tm hbs;obtain rfl:=pR.o hv;clear hv;obtain⟨jW,qG⟩:=aF hbw hbs;clear hbw hbs;go_wp2_with fail
      first|go_ret|(rw[dQ];go_ret)
      exact⟨rfl,jW.o⟩
     case true=>
      by_cases hk0:k=0
      ·have p1:decide ((0:Int)<(k:Int))=false:=by simp;omega
       have p2:decide (0<k)=false:=by simp;omega
       replace hlB':=aA (hlB'.o.trans (by rw[decide_eq_true hk0];rfl:_=(true&&true&&lb&& !(decide (0<sat)&&(decide (tg=sat)||decide (tg=jE))))))
       clear hk0;cases lb
       case false=>
        have hv:qO n i (links,sat,jE,lZ) k=false:=by rw[hlB'.o];simp
        refine jO f (by kernel_rfl) (by kernel_rfl) HS.o ?_;iterate 47 (go_big_quiet_step (first|((go_at_call 105;refine(rT.o _).mono ?_;rintro e w3 ⟨rfl,hb3⟩;exact⟨rfl,jA.o _ ((jG.o _).trans (hb3.mono (jG.o _).size))⟩))|(go_at_call 106;refine(rU.o _).mono ?_;rintro e w3 ⟨rfl,rfl⟩;exact⟨rfl,jA.o _ (jG.o _)⟩)))
        refine wpQuiet_nil ?_;intro s;have hbs:=jG.o s;have hbw:=nZ.o.tm hbs;obtain rfl:=pR.o hv;clear hv;obtain⟨jW,qG⟩:=aF hbw hbs;clear hbw hbs;go_wp2_with fail
        first|go_ret|(rw[dQ];go_ret)
        exact⟨rfl,jW.o⟩
       case true=>
        by_cases hs0:0<sat
        ·have d3:decide (0<sat)=true:=by simp;omega
         by_cases he1:tg=sat
         ·have d4:(tg==sat)=true:=by simp[he1]
          have hv:qO n i (links,sat,jE,lZ) k=false:=by rw[hlB'.o,d3,decide_eq_true he1];simp
          clear he1;refine jO f (by kernel_rfl) (by kernel_rfl) HS.o ?_;iterate 47 (go_big_quiet_step (first|((go_at_call 105;refine(rT.o _).mono ?_;rintro e w3 ⟨rfl,hb3⟩;exact⟨rfl,jA.o _ ((jG.o _).trans (hb3.mono (jG.o _).size))⟩))|(go_at_call 106;refine(rU.o _).mono ?_;rintro e w3 ⟨rfl,rfl⟩;exact⟨rfl,jA.o _ (jG.o _)⟩)))
          refine wpQuiet_nil ?_;intro s;have hbs:=jG.o s;have hbw:=nZ.o.tm hbs;obtain rfl:=pR.o hv;clear hv;obtain⟨jW,qG⟩:=aF hbw hbs;clear hbw hbs;go_wp2_with fail
          first|go_ret|(rw[dQ];go_ret)
          exact⟨rfl,jW.o⟩
         ·have d4:(tg==sat)=false:=by simp[he1]
          by_cases he2:tg=jE
          ·have d5:(tg==jE)=true:=by simp[he2]
           have hv:qO n i (links,sat,jE,lZ) k=false:=by rw[hlB'.o,d3,decide_eq_true he2];simp
           clear he1 he2;refine jO f (by kernel_rfl) (by kernel_rfl) HS.o ?_;iterate 47 (go_big_quiet_step (first|((go_at_call 105;refine(rT.o _).mono ?_;rintro e w3 ⟨rfl,hb3⟩;exact⟨rfl,jA.o _ ((jG.o _).trans (hb3.mono (jG.o _).size))⟩))|(go_at_call 106;refine(rU.o _).mono ?_;rintro e w3 ⟨rfl,rfl⟩;exact⟨rfl,jA.o _ (jG.o _)⟩)))
           refine wpQuiet_nil ?_;intro s;have hbs:=jG.o s;have hbw:=nZ.o.tm hbs;obtain rfl:=pR.o hv;clear hv;obtain⟨jW,qG⟩:=aF hbw hbs;clear hbw hbs;go_wp2_with fail
           first|go_ret|(rw[dQ];go_ret)
           exact⟨rfl,jW.o⟩
          ·have d5:(tg==jE)=false:=by simp[he2]
           have hv:qO n i (links,sat,jE,lZ) k=true:=by rw[hlB'.o,d3,decide_eq_false he1,decide_eq_false he2];simp
           clear he1 he2;refine jO f (by kernel_rfl) (by kernel_rfl) HS.o ?_;iterate 47 (go_big_quiet_step (first|((go_at_call 105;refine(rT.o _).mono ?_;rintro e w3 ⟨rfl,hb3⟩;exact⟨rfl,jA.o _ ((jG.o _).trans (hb3.mono (jG.o _).size))⟩))|(go_at_call 106;refine(rU.o _).mono ?_;rintro e w3 ⟨rfl,rfl⟩;exact⟨rfl,jA.o _ (jG.o _)⟩)))
           refine wpQuiet_nil ?_;intro s;have hbs:=jG.o s;have XZ:=UQ.o.tm hbs;obtain⟨qG,Y0,hv'⟩:=aG hbs XZ hv;clear hbs XZ hv;go_wp2_with fail
           go_roundw
           case rel=>exact⟨k+1,by omega,by go_num,aA (lW.o hv'.o),Y0⟩
           case measure=>simp[intOf];omega
        ·have d3:decide (0<sat)=false:=by simp;omega
         have hv:qO n i (links,sat,jE,lZ) k=true:=by rw[hlB'.o,d3];simp
         refine jO f (by kernel_rfl) (by kernel_rfl) HS.o ?_;iterate 47 (go_big_quiet_step (first|((go_at_call 105;refine(rT.o _).mono ?_;rintro e w3 ⟨rfl,hb3⟩;exact⟨rfl,jA.o _ ((jG.o _).trans (hb3.mono (jG.o _).size))⟩))|(go_at_call 106;refine(rU.o _).mono ?_;rintro e w3 ⟨rfl,rfl⟩;exact⟨rfl,jA.o _ (jG.o _)⟩)))
         refine wpQuiet_nil ?_;intro s;have hbs:=jG.o s;have XZ:=UQ.o.tm hbs;obtain⟨qG,Y0,hv'⟩:=aG hbs XZ hv;clear hbs XZ hv;go_wp2_with fail
         go_roundw
         case rel=>exact⟨k+1,by omega,by go_num,aA (lW.o hv'.o),Y0⟩
         case measure=>simp[intOf];omega
      ·obtain⟨k',hk'⟩:∃k',k'+1=k:=⟨k - 1,by omega⟩;have p1:decide ((0:Int)<(k:Int))=true:=by simp;omega
       have p2:decide (0<k)=true:=by simp;omega
       have wk:IntKind.i64.wrap ((k:Int) - 1)=(k':Int):=by rw[aY];omega
       obtain⟨b3,o3,he3,bKU,fe⟩:=bBG.o.elem qD (by decide) (0,0) (i:=k') (by omega);obtain⟨rfl,rfl⟩:b2=b3∧o2=o3:=by simpa using he3
       clear he3;have e0:=fe 0 _ rfl;rw[cK]at e0;clear fe;rw[show k - 1=k' by omega]at hlB';obtain⟨pv,hpv⟩:∃z,(links.getD k' (0,0)).1=z:=⟨_,rfl⟩;rw[hpv]at hlB' e0;clear hpv;have q5:∀s,(f s).cell? ⟨b2,o2+k'*2,none⟩=some (.int .i64 pv):=fun s=>late (jG.o s) bKU e0;have hkn2:(k':Int)<ln:=by omega
       have aJL:k'<ln:=by omega
       have aNB:(0:Int)≤(k':Int):=by omega
       clear e0;by_cases hpt:tg≤pv
       ·have p3:decide (tg≤pv)=true:=by simp;omega
        have hv:qO n i (links,sat,jE,lZ) k=false:=by rw[hlB'.o,decide_eq_false hk0,decide_eq_false (show ¬pv<tg by omega)];simp
        clear hk0 hk';refine jO f (by kernel_rfl) (by kernel_rfl) HS.o ?_;iterate 47 (go_big_quiet_step (first|((go_at_call 105;refine(rT.o _).mono ?_;rintro e w3 ⟨rfl,hb3⟩;exact⟨rfl,jA.o _ ((jG.o _).trans (hb3.mono (jG.o _).size))⟩))|(go_at_call 106;refine(rU.o _).mono ?_;rintro e w3 ⟨rfl,rfl⟩;exact⟨rfl,jA.o _ (jG.o _)⟩)))
        refine wpQuiet_nil ?_;intro s;have hbs:=jG.o s;have hbw:=nZ.o.tm hbs;obtain rfl:=pR.o hv;clear hv;obtain⟨jW,qG⟩:=aF hbw hbs;clear hbw hbs;go_wp2_with fail
        first|go_ret|(rw[dQ];go_ret)
        exact⟨rfl,jW.o⟩
       ·have p3:decide (tg≤pv)=false:=by simp;omega
        replace hlB':=aA (hlB'.o.trans (by rw[decide_eq_true (show pv<tg by omega),Bool.or_true]:_=(true&&true&&lb&& !(decide (0<sat)&&(decide (tg=sat)||decide (tg=jE))))))
        clear hk0 hk';cases lb
        case false=>
         have hv:qO n i (links,sat,jE,lZ) k=false:=by rw[hlB'.o];simp
         refine jO f (by kernel_rfl) (by kernel_rfl) HS.o ?_;iterate 47 (go_big_quiet_step (first|((go_at_call 105;refine(rT.o _).mono ?_;rintro e w3 ⟨rfl,hb3⟩;exact⟨rfl,jA.o _ ((jG.o _).trans (hb3.mono (jG.o _).size))⟩))|(go_at_call 106;refine(rU.o _).mono ?_;rintro e w3 ⟨rfl,rfl⟩;exact⟨rfl,jA.o _ (jG.o _)⟩)))
         refine wpQuiet_nil ?_;intro s;have hbs:=jG.o s;have hbw:=nZ.o.tm hbs;obtain rfl:=pR.o hv;clear hv;obtain⟨jW,qG⟩:=aF hbw hbs;clear hbw hbs;go_wp2_with fail
         first|go_ret|(rw[dQ];go_ret)
         exact⟨rfl,jW.o⟩
        case true=>
         by_cases hs0:0<sat
         ·have d3:decide (0<sat)=true:=by simp;omega
          by_cases he1:tg=sat
          ·have d4:(tg==sat)=true:=by simp[he1]
           have hv:qO n i (links,sat,jE,lZ) k=false:=by rw[hlB'.o,d3,decide_eq_true he1];simp
           clear he1;refine jO f (by kernel_rfl) (by kernel_rfl) HS.o ?_;iterate 47 (go_big_quiet_step (first|((go_at_call 105;refine(rT.o _).mono ?_;rintro e w3 ⟨rfl,hb3⟩;exact⟨rfl,jA.o _ ((jG.o _).trans (hb3.mono (jG.o _).size))⟩))|(go_at_call 106;refine(rU.o _).mono ?_;rintro e w3 ⟨rfl,rfl⟩;exact⟨rfl,jA.o _ (jG.o _)⟩)))
           refine wpQuiet_nil ?_;intro s;have hbs:=jG.o s;have hbw:=nZ.o.tm hbs;obtain rfl:=pR.o hv;clear hv;obtain⟨jW,qG⟩:=aF hbw hbs;clear hbw hbs;go_wp2_with fail
           first|go_ret|(rw[dQ];go_ret)
           exact⟨rfl,jW.o⟩
          ·have d4:(tg==sat)=false:=by simp[he1]
           by_cases he2:tg=jE
           ·have d5:(tg==jE)=true:=by simp[he2]
            have hv:qO n i (links,sat,jE,lZ) k=false:=by rw[hlB'.o,d3,decide_eq_true he2];simp
            clear he1 he2;refine jO f (by kernel_rfl) (by kernel_rfl) HS.o ?_;iterate 47 (go_big_quiet_step (first|((go_at_call 105;refine(rT.o _).mono ?_;rintro e w3 ⟨rfl,hb3⟩;exact⟨rfl,jA.o _ ((jG.o _).trans (hb3.mono (jG.o _).size))⟩))|(go_at_call 106;refine(rU.o _).mono ?_;rintro e w3 ⟨rfl,rfl⟩;exact⟨rfl,jA.o _ (jG.o _)⟩)))
            refine wpQuiet_nil ?_;intro s;have hbs:=jG.o s;have hbw:=nZ.o.tm hbs;obtain rfl:=pR.o hv;clear hv;obtain⟨jW,qG⟩:=aF hbw hbs;clear hbw hbs;go_wp2_with fail
            first|go_ret|(rw[dQ];go_ret)
            exact⟨rfl,jW.o⟩
           ·have d5:(tg==jE)=false:=by simp[he2]
            have hv:qO n i (links,sat,jE,lZ) k=true:=by rw[hlB'.o,d3,decide_eq_false he1,decide_eq_false he2];simp
            clear he1 he2;refine jO f (by kernel_rfl) (by kernel_rfl) HS.o ?_;iterate 47 (go_big_quiet_step (first|((go_at_call 105;refine(rT.o _).mono ?_;rintro e w3 ⟨rfl,hb3⟩;exact⟨rfl,jA.o _ ((jG.o _).trans (hb3.mono (jG.o _).size))⟩))|(go_at_call 106;refine(rU.o _).mono ?_;rintro e w3 ⟨rfl,rfl⟩;exact⟨rfl,jA.o _ (jG.o _)⟩)))
            refine wpQuiet_nil ?_;intro s;have hbs:=jG.o s;have XZ:=UQ.o.tm hbs;obtain⟨qG,Y0,hv'⟩:=aG hbs XZ hv;clear hbs XZ hv;go_wp2_with fail
            go_roundw
            case rel=>exact⟨k+1,by omega,by go_num,aA (lW.o hv'.o),Y0⟩
            case measure=>simp[intOf];omega
         ·have d3:decide (0<sat)=false:=by simp;omega
          have hv:qO n i (links,sat,jE,lZ) k=true:=by rw[hlB'.o,d3];simp
          refine jO f (by kernel_rfl) (by kernel_rfl) HS.o ?_;iterate 47 (go_big_quiet_step (first|((go_at_call 105;refine(rT.o _).mono ?_;rintro e w3 ⟨rfl,hb3⟩;exact⟨rfl,jA.o _ ((jG.o _).trans (hb3.mono (jG.o _).size))⟩))|(go_at_call 106;refine(rU.o _).mono ?_;rintro e w3 ⟨rfl,rfl⟩;exact⟨rfl,jA.o _ (jG.o _)⟩)))
          refine wpQuiet_nil ?_;intro s;have hbs:=jG.o s;have XZ:=UQ.o.tm hbs;obtain⟨qG,Y0,hv'⟩:=aG hbs XZ hv;clear hbs XZ hv;go_wp2_with fail
          go_roundw
          case rel=>exact⟨k+1,by omega,by go_num,aA (lW.o hv'.o),Y0⟩
          case measure=>simp[intOf];omega
    ·obtain rfl:k=ln:=by omega
     have hsB:lH n i (links,sat,jE,lZ)=(XU n i (links,sat,jE,lZ)&&a2F (links,sat,jE,lZ)):=a4O (fun j hj=>aZX.o j (by rw[aZV.o]at hj;exact hj));have hno:lH n i (links,sat,jE,lZ)=false→R=false:=fun hh=>hR'.o▸vC.o hh;have nK:lH n i (links,sat,jE,lZ)=true→∀j,j<i+1→lH n j (zs.getD j wR).2=true:=fun hv j hj=>by
      by_cases hjk:j=i
      ·subst hjk;rw[hz'.o];exact hv
      ·exact hall.o j (by omega)
     have b69:=b6'.o.late hb2.o;have hbw:=UO.o.tm hb2.o;have c1:wr.cell? ⟨g6,1,none⟩=some (.int .i64 sat):=b69.cell rfl;have c2:wr.cell? ⟨g6,2,none⟩=some (.int .i64 jE):=b69.cell rfl;have c3:wr.cell? ⟨g6,3,none⟩=some (.int .i64 lZ):=b69.cell rfl;have aN9:=fun W=>bBC.o i lZ W;have aN8:=fun W=>XY.o jE W;have hnB:XU n i (links,sat,jE,lZ)=(decide (lZ= -1)||I8 n i lZ):=rfl;have hbB:a2F (links,sat,jE,lZ)=((decide (sat=0)&&decide (jE=0))||(decide (1≤sat)&&decide (sat<jE)&&xM jE)):=rfl;generalize XU n i (links,sat,jE,lZ)=nb at*;generalize a2F (links,sat,jE,lZ)=bb at*;generalize I8 n i lZ=lb at*;generalize xM jE=tb at*;clear b69;obtain⟨hno',lW,hsB',jW,rU,rT,VR⟩:=aK hno nK hsB hbw aN9 aN8 hbB;clear hno nK hsB hbw aN9 aN8 hbB;by_cases hn1:lZ= -1
     ·have d1:(lZ != -1)=false:=by simp[hn1]
      obtain rfl:nb=true:=by rw[hnB,decide_eq_true hn1];rfl
      clear hnB hn1;by_cases hz0:sat=0
      ·have d2:(sat==0)=true:=by simp[hz0]
       have d4:decide (sat<1)=true:=by simp;omega
       by_cases hz1:jE=0
       ·have d3:(jE==0)=true:=by simp[hz1]
        have hv:lH n i (links,sat,jE,lZ)=true:=by rw[hsB'.o,VR.o,decide_eq_true hz0,decide_eq_true hz1];rfl
        clear hz0 hz1;go_wp2_with (first|(go_at_call 106;refine(rU.o _).mono ?_;rintro e w3 ⟨rfl,rfl⟩)|(go_at_call 105;refine(rT.o _).mono ?_;rintro e w3 ⟨rfl,hb3⟩;have HB3:=aA hb3;clear hb3))
        go_roundw
        case rel=>exact⟨i+1,by omega,by go_num,aA (lW.o hv),by first|exact jW|exact aA (jW.o.tm HB3.o)⟩
        case measure=>simp[intOf];omega
       ·have d3:(jE==0)=false:=by simp[hz1]
        have hv:lH n i (links,sat,jE,lZ)=false:=by rw[hsB'.o,VR.o,decide_eq_false hz1,decide_eq_false (show ¬1≤sat by omega)];simp
        clear hz0 hz1;obtain rfl:=hno'.o hv;clear hv;go_wp2_with (first|(go_at_call 106;refine(rU.o _).mono ?_;rintro e w3 ⟨rfl,rfl⟩)|(go_at_call 105;refine(rT.o _).mono ?_;rintro e w3 ⟨rfl,hb3⟩;have HB3:=aA hb3;clear hb3))
        first|go_ret|(rw[dQ];go_ret)
        first|exact⟨rfl,jW.o⟩|exact⟨rfl,jW.o.tm HB3.o⟩
      ·have d2:(sat==0)=false:=by simp[hz0]
       by_cases hz1:sat<1
       ·have d4:decide (sat<1)=true:=by simp;omega
        have hv:lH n i (links,sat,jE,lZ)=false:=by rw[hsB'.o,VR.o,decide_eq_false hz0,decide_eq_false (show ¬1≤sat by omega)];simp
        clear hz0 hz1;obtain rfl:=hno'.o hv;clear hv;go_wp2_with (first|(go_at_call 106;refine(rU.o _).mono ?_;rintro e w3 ⟨rfl,rfl⟩)|(go_at_call 105;refine(rT.o _).mono ?_;rintro e w3 ⟨rfl,hb3⟩;have HB3:=aA hb3;clear hb3))
        first|go_ret|(rw[dQ];go_ret)
        first|exact⟨rfl,jW.o⟩|exact⟨rfl,jW.o.tm HB3.o⟩
       ·have d4:decide (sat<1)=false:=by simp;omega
        by_cases hz2:jE≤sat
        ·have d5:decide (jE≤sat)=true:=by simp;omega
         have hv:lH n i (links,sat,jE,lZ)=false:=by rw[hsB'.o,VR.o,decide_eq_false hz0,decide_eq_false (show ¬sat<jE by omega)];simp
         clear hz0 hz1 hz2;obtain rfl:=hno'.o hv;clear hv;go_wp2_with (first|(go_at_call 106;refine(rU.o _).mono ?_;rintro e w3 ⟨rfl,rfl⟩)|(go_at_call 105;refine(rT.o _).mono ?_;rintro e w3 ⟨rfl,hb3⟩;have HB3:=aA hb3;clear hb3))
         first|go_ret|(rw[dQ];go_ret)
         first|exact⟨rfl,jW.o⟩|exact⟨rfl,jW.o.tm HB3.o⟩
        ·have d5:decide (jE≤sat)=false:=by simp;omega
         cases tb
         case false=>
          have hv:lH n i (links,sat,jE,lZ)=false:=by rw[hsB'.o,VR.o,decide_eq_false hz0];simp
          clear hz0 hz1 hz2;obtain rfl:=hno'.o hv;clear hv;go_wp2_with (first|(go_at_call 106;refine(rU.o _).mono ?_;rintro e w3 ⟨rfl,rfl⟩)|(go_at_call 105;refine(rT.o _).mono ?_;rintro e w3 ⟨rfl,hb3⟩;have HB3:=aA hb3;clear hb3))
          first|go_ret|(rw[dQ];go_ret)
          first|exact⟨rfl,jW.o⟩|exact⟨rfl,jW.o.tm HB3.o⟩
         case true=>
          have hv:lH n i (links,sat,jE,lZ)=true:=by rw[hsB'.o,VR.o,decide_eq_true (show 1≤sat by omega),decide_eq_true (show sat<jE by omega)];simp
          clear hz0 hz1 hz2;go_wp2_with (first|(go_at_call 106;refine(rU.o _).mono ?_;rintro e w3 ⟨rfl,rfl⟩)|(go_at_call 105;refine(rT.o _).mono ?_;rintro e w3 ⟨rfl,hb3⟩;have HB3:=aA hb3;clear hb3))
          go_roundw
          case rel=>exact⟨i+1,by omega,by go_num,aA (lW.o hv),by first|exact jW|exact aA (jW.o.tm HB3.o)⟩
          case measure=>simp[intOf];omega
     ·have d1:(lZ != -1)=true:=by simp[hn1]
      obtain rfl:nb=lb:=by rw[hnB,decide_eq_false hn1];rfl
      clear hnB hn1;cases nb
      case false=>
       have hv:lH n i (links,sat,jE,lZ)=false:=by rw[hsB'.o];rfl
       obtain rfl:=hno'.o hv;clear hv;go_wp2_with (first|(go_at_call 106;refine(rU.o _).mono ?_;rintro e w3 ⟨rfl,rfl⟩)|(go_at_call 105;refine(rT.o _).mono ?_;rintro e w3 ⟨rfl,hb3⟩;have HB3:=aA hb3;clear hb3))
       first|go_ret|(rw[dQ];go_ret)
       first|exact⟨rfl,jW.o⟩|exact⟨rfl,jW.o.tm HB3.o⟩
      case true=>
       by_cases hz0:sat=0
       ·have d2:(sat==0)=true:=by simp[hz0]
        have d4:decide (sat<1)=true:=by simp;omega
        by_cases hz1:jE=0
        ·have d3:(jE==0)=true:=by simp[hz1]
         have hv:lH n i (links,sat,jE,lZ)=true:=by rw[hsB'.o,VR.o,decide_eq_true hz0,decide_eq_true hz1];rfl
         clear hz0 hz1;go_wp2_with (first|(go_at_call 106;refine(rU.o _).mono ?_;rintro e w3 ⟨rfl,rfl⟩)|(go_at_call 105;refine(rT.o _).mono ?_;rintro e w3 ⟨rfl,hb3⟩;have HB3:=aA hb3;clear hb3))
         go_roundw
         case rel=>exact⟨i+1,by omega,by go_num,aA (lW.o hv),by first|exact jW|exact aA (jW.o.tm HB3.o)⟩
         case measure=>simp[intOf];omega
        ·have d3:(jE==0)=false:=by simp[hz1]
         have hv:lH n i (links,sat,jE,lZ)=false:=by rw[hsB'.o,VR.o,decide_eq_false hz1,decide_eq_false (show ¬1≤sat by omega)];simp
         clear hz0 hz1;obtain rfl:=hno'.o hv;clear hv;go_wp2_with (first|(go_at_call 106;refine(rU.o _).mono ?_;rintro e w3 ⟨rfl,rfl⟩)|(go_at_call 105;refine(rT.o _).mono ?_;rintro e w3 ⟨rfl,hb3⟩;have HB3:=aA hb3;clear hb3))
         first|go_ret|(rw[dQ];go_ret)
         first|exact⟨rfl,jW.o⟩|exact⟨rfl,jW.o.tm HB3.o⟩
       ·have d2:(sat==0)=false:=by simp[hz0]
        by_cases hz1:sat<1
        ·have d4:decide (sat<1)=true:=by simp;omega
         have hv:lH n i (links,sat,jE,lZ)=false:=by rw[hsB'.o,VR.o,decide_eq_false hz0,decide_eq_false (show ¬1≤sat by omega)];simp
         clear hz0 hz1;obtain rfl:=hno'.o hv;clear hv;go_wp2_with (first|(go_at_call 106;refine(rU.o _).mono ?_;rintro e w3 ⟨rfl,rfl⟩)|(go_at_call 105;refine(rT.o _).mono ?_;rintro e w3 ⟨rfl,hb3⟩;have HB3:=aA hb3;clear hb3))
         first|go_ret|(rw[dQ];go_ret)
         first|exact⟨rfl,jW.o⟩|exact⟨rfl,jW.o.tm HB3.o⟩
        ·have d4:decide (sat<1)=false:=by simp;omega
         by_cases hz2:jE≤sat
         ·have d5:decide (jE≤sat)=true:=by simp;omega
          have hv:lH n i (links,sat,jE,lZ)=false:=by rw[hsB'.o,VR.o,decide_eq_false hz0,decide_eq_false (show ¬sat<jE by omega)];simp
          clear hz0 hz1 hz2;obtain rfl:=hno'.o hv;clear hv;go_wp2_with (first|(go_at_call 106;refine(rU.o _).mono ?_;rintro e w3 ⟨rfl,rfl⟩)|(go_at_call 105;refine(rT.o _).mono ?_;rintro e w3 ⟨rfl,hb3⟩;have HB3:=aA hb3;clear hb3))
          first|go_ret|(rw[dQ];go_ret)
          first|exact⟨rfl,jW.o⟩|exact⟨rfl,jW.o.tm HB3.o⟩
         ·have d5:decide (jE≤sat)=false:=by simp;omega
          cases tb
          case false=>
           have hv:lH n i (links,sat,jE,lZ)=false:=by rw[hsB'.o,VR.o,decide_eq_false hz0];simp
           clear hz0 hz1 hz2;obtain rfl:=hno'.o hv;clear hv;go_wp2_with (first|(go_at_call 106;refine(rU.o _).mono ?_;rintro e w3 ⟨rfl,rfl⟩)|(go_at_call 105;refine(rT.o _).mono ?_;rintro e w3 ⟨rfl,hb3⟩;have HB3:=aA hb3;clear hb3))
           first|go_ret|(rw[dQ];go_ret)
           first|exact⟨rfl,jW.o⟩|exact⟨rfl,jW.o.tm HB3.o⟩
          case true=>
           have hv:lH n i (links,sat,jE,lZ)=true:=by rw[hsB'.o,VR.o,decide_eq_true (show 1≤sat by omega),decide_eq_true (show sat<jE by omega)];simp
           clear hz0 hz1 hz2;go_wp2_with (first|(go_at_call 106;refine(rU.o _).mono ?_;rintro e w3 ⟨rfl,rfl⟩)|(go_at_call 105;refine(rT.o _).mono ?_;rintro e w3 ⟨rfl,hb3⟩;have HB3:=aA hb3;clear hb3))
           go_roundw
           case rel=>exact⟨i+1,by omega,by go_num,aA (lW.o hv),by first|exact jW|exact aA (jW.o.tm HB3.o)⟩
           case measure=>simp[intOf];omega
  ·obtain rfl:i=n:=by omega
   obtain rfl:R=true:=by rw[←hR'.o];exact a8N (by rw[mV.o];omega) (by rw[mV.o];omega) (fun j hj=>by rw[mV.o]at hj ⊢;exact hall.o j hj)
   go_wp2_with fail
   first|go_ret|(rw[dQ];go_ret)
   exact⟨rfl,hb.o⟩
end Go.Proofs.YtceclmpmpldmlaaGreat
namespace Tt
open Go Go.RowKit
structure Mv (g gt:Nat) (sv wG:Value) (w w':World):Prop where
 os:w'.os=w.os
 tape:w'.tape=w.tape
 output:w'.output=w.output
 size:w.heap.size≤w'.heap.size
 block:∀k,k<w.heap.size→k≠g→k≠gt→sv.ownBlock≠some k→w'.heap[k]? =w.heap[k]?
 own:∀k,wG.ownBlock=some k→sv.ownBlock=some k∨w.heap.size≤k
theorem Mv.refl (g gt:Nat) (sv:Value) (w:World):Mv g gt sv sv w w:=⟨rfl,rfl,rfl,aU _,fun _ _ _ _ _=>rfl,fun _ h=> .inl h⟩
theorem Mv.trans {g gt:Nat} {sv s1 s2:Value} {w w1 w2:World} (h:Mv g gt sv s1 w w1) (k:Mv g gt s1 s2 w1 w2):Mv g gt sv s2 w w2:=
 ⟨k.os.trans h.os,k.tape.trans h.tape,k.output.trans h.output,bK h.size k.size,fun i hi h1 h2 h3=>
  (k.block i (cO hi h.size) h1 h2 (fun e=>by rcases h.own i e with e'|e' <;> first|exact h3 e'|omega)).trans (h.block i hi h1 h2 h3),
  fun i e=>by
  rcases k.own i e with e'|e'
  ·exact h.own i e'
  ·exact .inr (bK h.size e')⟩
theorem Mv.of_below {g gt:Nat} {sv:Value} {w w':World} (h:Below w.heap.size w w'):Mv g gt sv sv w w':=
 ⟨h.os,h.tape,h.output,h.size,fun k hk _ _ _=>h.block k hk,fun _ e=> .inl e⟩
theorem Mv.later {g gt:Nat} {sv s1:Value} {w w1 w2:World} (h:Mv g gt sv s1 w w1) (k:Below w1.heap.size w1 w2):Mv g gt sv s1 w w2:=h.trans (Mv.of_below k)
theorem Mv.yA {g gt b:Nat} {sv:Value} {w w':World} (h:But b w w') (hb:b=g∨b=gt):Mv g gt sv sv w w':=
 ⟨h.os,h.tape,h.output,h.size,fun k hk h1 h2 _=>h.block k hk (by rintro rfl;rcases hb with rfl|rfl <;> contradiction),fun _ e=> .inl e⟩
theorem Mv.PG {g gt:Nat} {sv wG:Value} {w w':World} (h:w.grownBy w' sv.ownBlock) (ho:∀k,wG.ownBlock=some k→sv.ownBlock=some k∨w.heap.size≤k):Mv g gt sv wG w w':=
 ⟨h.os,h.tape,h.output,h.size,fun k hk _ _ h3=>h.block k hk (Ne.symm h3),ho⟩
theorem jJ.grown {w w':World} {row:Option Nat} {g:Nat} {T:TypeId} {cs:Array Value} (h:jJ w g T cs) (hg:w.grownBy w' row) (hne:row≠some g):jJ w' g T cs:=(hg.block g h.lt (Ne.symm hne)).trans h
theorem Mv.below {g gt B:Nat} {sv wG:Value} {w w':World} (h:Mv g gt sv wG w w') (h1:B≤g) (h2:B≤gt) (h3:∀k,sv.ownBlock=some k→B≤k) (h4:B≤w.heap.size):Below B w w':=
 ⟨h.os,h.tape,h.output,h.size,fun k hk=>h.block k (by omega) (by omega) (by omega) (fun e=>by have:=h3 k e;omega)⟩
def Ck (X:Nat→Prop) (B:Nat) (w:World) (v:Value) (E:TypeId) (sz n:Nat) (xs:List Value):Prop:=w.ownsRow B E sz v n xs∧∀k,v.ownBlock=some k→¬X k
structure Kp (X X':Nat→Prop) (B:Nat) (w w':World):Prop where
 size:w.heap.size≤w'.heap.size
 block:∀k,B≤k→k<w.heap.size→¬X k→w'.heap[k]? =w.heap[k]? ∧¬X' k
theorem Ck.keep {X X':Nat→Prop} {B:Nat} {w w':World} {v:Value} {E:TypeId} {sz n:Nat} {xs:List Value} (h:Ck X B w v E sz n xs) (k:Kp X X' B w w'):Ck X' B w' v E sz n xs:=by
 obtain⟨⟨hl,hr⟩,hx⟩:=h;rcases hr with hn|⟨g,cap,cur,rfl,hB,hg,r⟩
 ·exact⟨⟨hl,.inl hn⟩,fun j e=>by obtain⟨rfl,_⟩:=hn;cases e⟩
 ·have hlt:g<w.heap.size:=(bY.1 hg).1;have hk:=k.block g hB hlt (hx g rfl);exact⟨⟨hl,.inr ⟨g,cap,cur,rfl,hB,hk.1.trans hg,r⟩⟩,fun j e=>by
   have:g=j:=by injection e
   subst this;exact hk.2⟩
theorem Ck.mono {X:Nat→Prop} {B B':Nat} {w:World} {v:Value} {E:TypeId} {sz n:Nat} {xs:List Value} (h:Ck X B w v E sz n xs) (hB:B'≤B):Ck X B' w v E sz n xs:=⟨kK h.1 hB,h.2⟩
theorem Ck.sl {X:Nat→Prop} {B:Nat} {w:World} {a:Option Addr} {n c sz m:Nat} {E:TypeId} {xs:List Value} (h:Ck X B w (.slice a n c) E sz m xs):Sl w a n c sz xs:=(Sl.jX h.1).1
theorem Kp.later {X:Nat→Prop} {B:Nat} {w w':World} (h:Below w.heap.size w w'):Kp X X B w w':=⟨h.size,fun k _ hk hx=>⟨h.block k hk,hx⟩⟩
theorem Kp.mv {g gt B:Nat} {sv wG:Value} {w w':World} (h:Mv g gt sv wG w w') (h1:g<B) (h2:gt<B):Kp (fun k=>sv.ownBlock=some k) (fun k=>wG.ownBlock=some k) B w w':=
 ⟨h.size,fun k hB hk hx=>⟨h.block k hk (by omega) (by omega) hx,fun e=>by rcases h.own k e with e'|e' <;> first|exact hx e'|omega⟩⟩
theorem Kp.same {X X':Nat→Prop} {B:Nat} {w:World} (h:∀k,B≤k→k<w.heap.size→¬X k→¬X' k):Kp X X' B w w:=⟨aU _,fun k hB hk hx=>⟨rfl,h k hB hk hx⟩⟩
end Tt
namespace Go.Proofs.YtceclmpmpldmlaaGreat
open Go.RowKit Tt
abbrev Tz:=(Int×Int×Int×Option Addr×Nat×Nat)×List Int
abbrev D5:Tz:=((0,0,0,none,0,0), [])
def mE (z:Tz):nC:=(z.1.1,z.1.2.1,z.1.2.2.1,z.2)
def tzc (z:Tz):List Value:= [.int .i64 z.1.1,.int .i64 z.1.2.1,.int .i64 z.1.2.2.1,.slice z.1.2.2.2.1 z.1.2.2.2.2.1 z.1.2.2.2.2.2]
theorem aH8 (z:Tz):(tzc z).length=4:=rfl
theorem aW8 (z:Tz):∀u∈tzc z,u.oneCell'=true:=by
 intro u hu;simp only[tzc,bQ,eD,or_false]at hu;rcases hu with rfl|rfl|rfl|rfl <;> rfl
def tzd (z:Tz):Value:= .slice z.1.2.2.2.1 z.1.2.2.2.2.1 z.1.2.2.2.2.2
def kR (X:Nat→Prop) (B:Nat) (w:World) (v:Value) (ts:List nC):Prop:=
 ∃zs:List Tz,ts=zs.map mE∧Ck X B w v 74 4 zs.length (fl tzc zs)∧∀z∈zs,Ck X B w (tzd z) 5 1 z.2.length (ints .u8 z.2)
abbrev Dz:=Value×Value×Value
def WS (d:Dz):List Value:= [d.1,d.2.1,d.2.2]
def sbC (x:Int×Dz):List Value:= [.int .i64 x.1,x.2.1,x.2.2.1,x.2.2.2]
theorem oO (x:Int×Dz):(sbC x).length=4:=rfl
theorem qA (x:Dz):(WS x).length=3:=rfl
def aW9 (d:Dz):Prop:=∀u∈WS d,u.oneCell'=true
def mM (X:Nat→Prop) (B:Nat) (w:World):(f:Nat)→jD f→Dz→Prop
 |0,_,_=>False
 |f+1,d,v=>aW9 v∧kR X B w v.1 d.1∧
   (∃ds:List (Int×Dz),ds.length=d.2.1.length∧Ck X B w v.2.1 28 4 ds.length (fl sbC ds)∧∀i (h:i<ds.length) (h':i<d.2.1.length),ds[i].1=d.2.1[i].1∧mM X B w f d.2.1[i].2 ds[i].2)∧
   Ck X B w v.2.2 5 1 d.2.2.length (ints .u8 d.2.2)
theorem kR.keep {X X':Nat→Prop} {B:Nat} {w w':World} {v:Value} {ts:List nC} (h:kR X B w v ts) (k:Kp X X' B w w'):kR X' B w' v ts:=by
 obtain⟨zs,h1,h2,h3⟩:=h;exact⟨zs,h1,h2.keep k,fun z hz=>(h3 z hz).keep k⟩
theorem mM.keep {X X':Nat→Prop} {B:Nat} {w w':World} (k:Kp X X' B w w'):∀{f:Nat} {d:jD f} {v:Dz},mM X B w f d v→mM X' B w' f d v
 |0,_,_,h=>h.elim
 |f+1,d,v,h=>by
  obtain⟨h0,h1,⟨ds,h2,h3,h4⟩,h5⟩:=h;exact⟨h0,h1.keep k,⟨ds,h2,h3.keep k,fun i hi hi'=>⟨(h4 i hi hi').1,(h4 i hi hi').2.keep k⟩⟩,h5.keep k⟩
theorem kR.mono {X:Nat→Prop} {B B':Nat} {w:World} {v:Value} {ts:List nC} (h:kR X B w v ts) (hB:B'≤B):kR X B' w v ts:=by
 obtain⟨zs,h1,h2,h3⟩:=h;exact⟨zs,h1,h2.mono hB,fun z hz=>(h3 z hz).mono hB⟩
theorem mM.mono {X:Nat→Prop} {B B':Nat} {w:World} (hB:B'≤B):∀{f:Nat} {d:jD f} {v:Dz},mM X B w f d v→mM X B' w f d v
 |0,_,_,h=>h.elim
 |f+1,d,v,h=>by
  obtain⟨h0,h1,⟨ds,h2,h3,h4⟩,h5⟩:=h;exact⟨h0,h1.mono hB,⟨ds,h2,h3.mono hB,fun i hi hi'=>⟨(h4 i hi hi').1,(h4 i hi hi').2.mono hB⟩⟩,h5.mono hB⟩
def spC (x:lK):List Value:= [.int .i64 x.1,.int .i64 x.2.1,.int .i64 x.2.2.1,.int .i64 x.2.2.2.1,.int .i64 x.2.2.2.2]
theorem PI (x:lK):(spC x).length=5:=rfl
theorem aH9 (x:lK):∀u∈spC x,u.oneCell'=true:=by
 intro u hu;simp only[spC,bQ,eD,or_false]at hu;rcases hu with rfl|rfl|rfl|rfl|rfl <;> rfl
end Go.Proofs.YtceclmpmpldmlaaGreat
namespace Tt
open Go Go.RowKit
section
variable {P:Program} {w:World} {ops:Array Oper} {rest:List Oper} {o:Oper} {a:Act} {Q:Exit→Act→World→Prop}
theorem lI (hgd:o.guard=none) (s x:Operand) (t:TypeId)
  (ho:o.op= .call {callee:= .builtin .append,args:=#[s,x],argTypes:=#[t,t]})
  (base:Nat) (e:TypeId) (i:TypeInfo) (z:Value) (size bytes:Nat) (ht:P.underlying t=some (.slice e)) (hi:P.info? e=some i) (hz:i.zero=some z)
  (hsize:i.size=size) (hby:i.bytes=bytes) (hzs:z.cells.size=size) (hsz:0<size)
  (v:Value) (n:Nat) (xs:List Value) (hs:a.eval s=v) (hown:w.ownsRow base e size v n xs)
  (xa:Addr) (m c:Nat) (news:List Value) (hx:a.eval x= .slice (some xa) m c) (hS:Sl w (some xa) m c size news) (h1:∀u∈news,u.oneCell'=true)
  (hbytes:(n+m)*bytes≤140737488355328) (hb0:0<bytes) (hbase:base≤w.heap.size)
  (h:∀(a':Option Addr) (c':Nat) (w':World),w'.ownsRow base e size (.slice a' (n+m) c') (n+m) (xs++news)→w.grownBy w' v.ownBlock→(∀k,(Value.slice a' (n+m) c').ownBlock=some k→v.ownBlock=some k∨w.heap.size≤k)→wpList P ops Q rest (a.put o.dst (.slice a' (n+m) c')) w'):wpList P ops Q (o::rest) a w:=by
 have h63:n+m≤maxLen:=by
  have:(n+m)*1≤(n+m)*bytes:=Nat.mul_le_mul_left _ hb0;unfold maxLen;omega
 have hv':∀(B:Nat) (v':Value) (w':World),w'.ownsRow B e size v' (n+m) (xs++news)→∃(a':Option Addr) (c':Nat),v'= .slice a' (n+m) c':=by
  intro B v' w' hw;rcases hw.2 with ⟨rfl,h0⟩|⟨g,cap,cur,rfl,_⟩
  ·exact⟨none,0,by rw[h0]⟩
  ·exact⟨_,_,rfl⟩
 have hnews:∀j u,news[j]? =some u→w.cell? (xa.add j)=some u:=fun j u hu=>by
  have hj:j<news.length:=(dZ.1 hu).1;have hm:0<m:=by
   rcases gQ m with h0|h0
   ·rw[hS.len,h0]at hj;omega
   ·exact h0
  obtain⟨b,off,e1,_,hc⟩:=hS.lies 0 hm;injection e1 with e1;subst e1;rw[Addr.add_lit];exact hc j u hu
 have grow:∀(ao:Option Addr) (cap:Nat),v= .slice ao n cap→cap<n+m→wpList P ops Q (o::rest) a w:=fun ao cap hv hfull=>by
  subst hv;have hsl:=(Sl.jX hown).1;refine wpList_append_grows w hgd s x t ho e i z size bytes ht hi hz hsize hby hzs hsz ao n cap xs hs (fun hn=>?_) hsl.len (fun b hb j u hj=>?_) xa m c news hx hS.len hnews h1 hfull h63 hbytes ?_
  ·subst hn;have:=hsl.fit rfl;have:=hsl.le;exact⟨by omega,by omega⟩
  ·subst hb;have hj2:j<xs.length:=(dZ.1 hj).1;have hn0:0<n:=by
    rcases gQ n with h0|h0
    ·rw[hsl.len,h0]at hj2;omega
    ·exact h0
   obtain⟨b',off,e1,_,hc⟩:=hsl.lies 0 hn0;injection e1 with e1;subst e1;rw[Addr.add_lit];exact hc j u hj
  ·intro v' w' h2 h3;obtain⟨a',c',rfl⟩:=hv' _ v' w' h2;refine h _ _ w' (kK h2 hbase) ⟨h3.os,h3.tape,h3.output,h3.size,fun k hk _=>h3.block k hk (by simp)⟩ (fun k hk=> .inr (h2.lt k hk).1)
 rcases hown.2 with ⟨hv,hn⟩|⟨g,cap,cur,hv,_⟩
 ·by_cases hm:0<m
  ·exact grow none 0 (by rw[hv,hn]) (by omega)
  ·subst hv hn;have hm0:m=0:=by omega
   have hn0:news= []:=dP (by rw[hS.len,hm0];simp);have hx0:xs= []:=dP (by rw[hown.1];simp);exact wpList_append_own w hgd s x t ho base e i z size bytes ht hi hz hsize hby hzs hsz (.slice none 0 0) 0 xs hs hown xa m c news hx hS.len hnews h1 h63 hbytes hbase fun v' w' h2 h3 h4=>by
    obtain rfl:=h4.2 ⟨rfl,hm0⟩;have:=h none 0 w' (by rw[hm0];rw[hm0]at h2;exact h2) h3 (fun k hk=>by cases hk);rw[hm0]at this;exact this
 ·by_cases hfit:n+m≤cap
  ·subst hv;exact wpList_append_fits w hgd s x t ho base e i size ht hi hsize g n cap xs hs hown xa m c news hx hS.len hnews h1 hfit fun w' h2 h3=>h _ _ w' h2 h3 (fun k hk=> .inl hk)
  ·exact grow _ cap hv (by omega)
end
end Tt
namespace Go.Proofs.YtceclmpmpldmlaaGreat
open Go.RowKit Tt
theorem bKV:(Tryz.prog.info? 50).map (fun i=>(i.size,i.bytes))=some (5,40):=by kernel_rfl
theorem bKW:(Tryz.prog.info? 50).map (fun i=>i.zero.map (fun z=>z.cells.size))=some (some 5):=by kernel_rfl
theorem WT {T:TypeId} {sz FV:Nat} (h1:(Tryz.prog.info? T).map (fun i=>(i.size,i.bytes))=some (sz,FV)) (h2:(Tryz.prog.info? T).map (fun i=>i.zero.map (fun z=>z.cells.size))=some (some sz)):
  ∃(i:TypeInfo) (z:Value),Tryz.prog.info? T=some i∧i.zero=some z∧i.size=sz∧i.bytes=FV∧z.cells.size=sz:=by
 cases hi:Tryz.prog.info? T with
 |none=>rw[hi]at h1;cases h1
 |some i=>
  rw[hi]at h1 h2;simp only[fQ,Option.some.injEq,Prod.mk.injEq]at h1 h2;cases hz:i.zero with
  |none=>rw[hz]at h2;cases h2
  |some z=>
   rw[hz]at h2;simp only[fQ,Option.some.injEq]at h2;exact⟨i,z,rfl,hz,h1.1,h1.2,h2⟩
theorem PK (ta sa ba:Option Addr) (tn tc sn sc bn bc:Nat) (w:World) (h1:tn<1000000) (h2:sn<1000000):
  Calls Tryz.prog 15 #[.agg #[.slice ta tn tc,.slice sa sn sc,.slice ba bn bc]] w fun e w'=>e= .returned (.int .i64 (mQ tn sn bn:Nat))∧Below w.heap.size w w':=by
 have hw1:IntKind.i64.wrap ((tn:Int)+sn)=(tn:Int)+sn:=by rw[aY];omega
 have hw2:IntKind.i64.wrap ((tn:Int)+sn+2)=(tn:Int)+sn+2:=by rw[aY];omega
 unfold mQ;have hb:=aD w (.cells #[.slice ta tn tc,.slice sa sn sc,.slice ba bn bc] 26);have hb':=aA hb;clear hb;by_cases h:0<bn
 ·rw[if_pos h];have d:decide ((0:Int)<bn)=true:=by simp;omega
  go_enter Tryz.func15,Tryz.ntmps15;go_wp2_with fail
  go_ret;exact⟨a3X (by omega),hb'.o⟩
 ·rw[if_neg h];have d:decide ((0:Int)<bn)=false:=by simp;omega
  go_enter Tryz.func15,Tryz.ntmps15;go_wp2_with fail
  go_ret;exact⟨a3X (by omega),hb'.o⟩
theorem aNC (n:Nat) (w:World) (h1:n<4611686018427387904):Calls Tryz.prog 160 #[.int .i64 n] w fun e w'=>e= .returned (.int .i64 (oK n))∧w=w':=by
 have ha:bits .and .i64 (n:Int) 1=((n % 2:Nat):Int):=by
  have:=aVZ n 1 (by omega) (by omega);rw[Nat.and_one_is_mod]at this;exact this
 have hw:IntKind.i64.wrap ((n:Int)+(n % 2:Nat))=oK n:=by rw[aY];unfold oK;omega
 go_enter Tryz.func160,Tryz.ntmps160;go_wp2_with fail
 go_ret;exact⟨rfl,rfl⟩
theorem aJM {l:List lK} {n:Nat} (hl:l.length=n+1):lS l=(l.getD n (0,0,0,0,0)).2.2.2.1+(l.getD n (0,0,0,0,0)).2.2.2.2:=by
 unfold lS;rw[List.getLast?_eq_getElem?,hl,Nat.add_sub_cancel,aV,aX (by omega)];rfl
end Go.Proofs.YtceclmpmpldmlaaGreat
namespace Tt
open Go Go.RowKit
end Tt
namespace Go.Proofs.YtceclmpmpldmlaaGreat
open Go.RowKit Tt
theorem a2G {w:World} {B:Nat} {E:TypeId} {sz:Nat} {v:Value} {n:Nat} {xs:List Value} (h:w.ownsRow B E sz v n xs):∃a c,v= .slice a n c:=by
 rcases h.2 with ⟨rfl,h0⟩|⟨g,cap,cur,rfl,_⟩
 ·exact⟨none,0,by rw[h0]⟩
 ·exact⟨_,_,rfl⟩
def Spr (B:Nat) (w:World) (v:Value) (l:List lK):Prop:=w.ownsRow B 50 5 v l.length (fl spC l)
