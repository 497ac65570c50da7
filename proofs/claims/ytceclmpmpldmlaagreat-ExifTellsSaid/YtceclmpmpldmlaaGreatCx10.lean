import Derived.WalkMore
import Derived.Test.YtceclmpmpldmlaaGreatCx09
set_option linter.unusedSimpArgs false
set_option linter.unusedVariables false
namespace Go.Proofs.YtceclmpmpldmlaaGreat
open Go.RowKit Tt
theorem YO {zs:List QN} {i:Nat} (hi:i<zs.length) (h:lX zs.length i (zs.getD i sJ).2=false):nO (jP zs)=false:=by
 unfold nO;rw[show(jP zs).length=zs.length by simp[jP]];have:(List.range zs.length).all (fun i=>lX zs.length i ((jP zs).getD i mD))=false:=by
  rw[List.all_eq_false];exact⟨i,dF.2 hi,by rw[qL hi,h];simp⟩
 rw[this];simp
theorem aBW {zs:List QN} (h1:1≤zs.length) (h2:zs.length≤16) (h:∀i,i<zs.length→lX zs.length i (zs.getD i sJ).2=true):nO (jP zs)=true:=by
 unfold nO;rw[show(jP zs).length=zs.length by simp[jP]];have:(List.range zs.length).all (fun i=>lX zs.length i ((jP zs).getD i mD))=true:=by
  rw[dQ];exact fun i hi=>by rw[qL (dF.1 hi)];exact h i (dF.1 hi)
 rw[this];simp;omega
theorem YP {n i k:Nat} {s:rQ} (hk:k<s.1.length) (h:nI n i s k=false):lX n i s=false:=by
 unfold lX;have:(List.range s.1.length).all (nI n i s)=false:=List.all_eq_false.2 ⟨k,dF.2 hk,by rw[h];simp⟩;rw[this];rfl
theorem a92 {n i:Nat} {s:rQ} (h:∀k,k<s.1.length→nI n i s k=true):lX n i s=(QM n i s&&NI s):=by
 unfold lX;have:(List.range s.1.length).all (nI n i s)=true:=dQ.2 fun k hk=>h k (dF.1 hk);rw[this];rfl
set_option maxRecDepth 20000 in
set_option maxHeartbeats 8000000 in
theorem aGB (a:Option Addr) (n c:Nat) (zs:List QN) (w:World) (h:ShR w a n c zs):Calls Tryz.prog 47 #[.slice a n c] w fun e w'=>e= .returned (.bool (nO (jP zs)))∧Below w.heap.size w w':=by
 have qJ:=h.len;have BX:=h.row.le;have LX:=h.row.max;obtain⟨R,hR⟩:=aC (nO (jP zs));rw[hR];have hTG:=fun x W=>aK4 x W;have hLT:=fun i x W=>aMS a n c i x W;by_cases h1:n<1
 ·obtain rfl:R=false:=by rw[←hR];unfold nO;simp[jP];omega
  have d1:decide ((n:Int)<1)=true:=by simp;omega
  clear hR hTG hLT h;go_enter Tryz.func47,Tryz.ntmps47;go_wp2_with fail
  go_step3
  go_wp2_with fail
  first|go_ret|(rw[Exit.noGoto_ret];go_ret)
  exact⟨rfl,aY _ _⟩
 have d1:decide ((n:Int)<1)=false:=by simp;omega
 by_cases h2:16<n
 ·obtain rfl:R=false:=by rw[←hR];unfold nO;simp[jP];omega
  have d2:decide ((16:Int)<n)=true:=by simp;omega
  clear hR hTG hLT h;go_enter Tryz.func47,Tryz.ntmps47;go_wp2_with fail
  go_step3
  go_wp2_with fail
  first|go_ret|(rw[Exit.noGoto_ret];go_ret)
  exact⟨rfl,aY _ _⟩
 have d2:decide ((16:Int)<n)=false:=by simp;omega
 obtain⟨h',mX,vG,I8,bE0⟩:=aM h qJ hR hTG hLT;clear h qJ hR hTG hLT;go_enter Tryz.func47,Tryz.ntmps47;go_wp2_with fail
 go_step3
 go_wp2_with fail
 go_step3
 go_wp2_with fail
 clear d1 d2;go_loopw [17] (fun iv wr=>∃i:Nat,i≤n∧iv= .int .i64 i∧Hid (∀j,j<i→lX n j (zs.getD j sJ).2=true)∧Hid (Below w.heap.size w wr)) (fun iv _=>n - (intOf iv).toNat)
 case atStart=>exact⟨0,by omega,rfl,aA (fun j hj=>by omega),aA (aY _ _)⟩
 case round=>
  obtain⟨i,hi,rfl,kS,hb⟩:=hrel;by_cases kD:i<n
  ·have oM:=h'.o.row.mono hb.o;have EC:=(h'.o.at kD).mono hb.o;obtain⟨b,o,rfl,yZ,f⟩:=oM.elem qD aH sJ kD;have hRn:=fun hh=>YO (zs:=zs) (i:=i) (by rw[mX.o];exact kD) hh;rw[mX.o]at hRn;obtain⟨⟨⟨la,ln,lc⟩,⟨links,sat,jG,kG⟩⟩,hz⟩:∃z,zs.getD i sJ=z:=⟨_,rfl⟩;rw[hz]at f EC hRn;simp only at EC hRn;have f0:=f 0 _ rfl;have f1:=f 1 _ rfl;have f2:=f 2 _ rfl;have f3:=f 3 _ rfl;simp only[bU]at f0 f1 f2 f3;clear f oM;have yJ:(i:Int)<n:=by omega
   have hlm:=EC.max;have hll:=EC.le;have aGC:=EC.rP pJ aH;obtain⟨a6B,wG,AQ,aQM⟩:=aL EC hRn hz aGC;clear EC hRn hz aGC;go_upto_region 6 with fail
   have b6:=jW.new wr 35 #[.slice la ln lc,.int .i64 sat,.int .i64 jG,.int .i64 kG];have wQ:=aD wr (.cells #[.slice la ln lc,.int .i64 sat,.int .i64 jG,.int .i64 kG] 35);have Q8:=hb.o.tm wQ;have aMT:=a6B.o.mono wQ;clear f0 f1 f2 f3;generalize wr.alloc (.cells #[.slice la ln lc,.int .i64 sat,.int .i64 jG,.int .i64 kG] 35)=w6 at*;generalize wr.heap.size=g6 at*;have c0:=b6.cell (i:=0) rfl;obtain⟨b6',CB,AO,aBX⟩:=aL b6 wQ Q8 aMT;clear b6 wQ Q8 aMT;go_wp2_with fail
   clear c0;go_loopw [25] (fun kv wr2=>∃k:Nat,k≤ln∧kv= .int .i64 k∧Hid (∀j,j<k→nI n i (links,sat,jG,kG) j=true)∧Hid (Below w6.heap.size w6 wr2)) (fun kv _=>ln - (intOf kv).toNat)
   case atStart=>exact⟨0,by omega,rfl,aA (fun j hj=>by omega),aA (aY _ _)⟩
   case round=>
    obtain⟨k,hk,rfl,YQ,jT⟩:=hrel;by_cases D6:k<ln
    ·obtain⟨b2,o2,rfl,aQ9,fe⟩:=(aBX.o.mono jT.o).elem pJ aH (0,0) D6;have e0:=fe 0 _ rfl;have e1:=fe 1 _ rfl;rw[bU]at e0;clear fe;obtain⟨⟨tg,sh⟩,hts⟩:∃z,links.getD k (0,0)=z:=⟨_,rfl⟩;rw[hts]at e0 e1;simp only at e0 e1;have hlB:nI n i (links,sat,jG,kG) k=(vV tg&&(decide (k=0)||decide ((links.getD (k - 1) (0,0)).1<tg))&&JJ n i sh&& !(decide (0<sat)&&(decide (tg=sat)||decide (tg=jG)))):=by unfold nI;simp only[hts]
     have aBY:=fun W=>I8.o tg W;have aQN:=fun W=>bE0.o i sh W;generalize vV tg=tb at*;generalize JJ n i sh=lb at*;have CF:nI n i (links,sat,jG,kG) k=false→R=false:=fun hh=>vG.o▸wG.o (YP (by rw[aQM.o];exact D6) hh);have nP:nI n i (links,sat,jG,kG) k=true→∀j,j<k+1→nI n i (links,sat,jG,kG) j=true:=fun hv j hj=>by
      by_cases TT:j=k
      ·subst TT;exact hv
      ·exact YQ.o j aG
     have hkn:(k:Int)<ln:=by omega
     obtain⟨nE,lW,a94⟩:=aK CF nP hts;clear CF nP hts;go_upto_region 9 with fail
     have b9:=jW.new wr 32 #[.int .i64 tg,.int .i64 sh];have aQO:=aD wr (.cells #[.int .i64 tg,.int .i64 sh] 32);have a1O:=jT.o.tm aQO;have yB:=AO.o.tm a1O;have b69:=b6'.o.late a1O;have aQP:=aBX.o.mono a1O;clear aQO;generalize wr.alloc (.cells #[.int .i64 tg,.int .i64 sh] 32)=w9 at*;generalize wr.heap.size=g9 at*;clear e0 e1 aQ9;obtain⟨Ty,f,oJ,jN,jK⟩:=kE w9;have HS:=aA (jK _ ((aY _ _).drew));have q0:=fun s=>(jW.late b9 (jN s)).cell (i:=0) rfl;have q1:=fun s=>(jW.late b9 (jN s)).cell (i:=1) rfl;have q2:=fun s=>(jW.late b69 (jN s)).cell (i:=0) rfl;have q3:=fun s=>(jW.late b69 (jN s)).cell (i:=1) rfl;have q4:=fun s=>(jW.late b69 (jN s)).cell (i:=2) rfl;obtain⟨b9',b61,tN,JL,jH,jF,vZ,qE,vL,aQQ⟩:=aR b9 b69 yB a1O jN jK hlB aBY aQN aQP;clear b9 b69 yB a1O jN jK hlB aBY aQN aQP;cases tb
     case false=>
      have hv:nI n i (links,sat,jG,kG) k=false:=by rw[vZ.o];simp
      refine jL f aF aF HS.o ?_;iterate 47 (go_big_quiet_step (first|((go_at_call 105;refine(qE.o _).mono ?_;rintro e w3 ⟨rfl,jQ⟩;exact⟨rfl,jF.o _ ((jH.o _).tm jQ)⟩))|(go_at_call 106;refine(vL.o _).mono ?_;rintro e w3 ⟨rfl,rfl⟩;exact⟨rfl,jF.o _ (jH.o _)⟩)))
      refine wpQuiet_nil ?_;intro s;have kJ:=jH.o s;have jZ:=tN.o.tm kJ;obtain rfl:=nE.o hv;clear hv;obtain⟨jM,mR⟩:=aJ jZ kJ;clear jZ kJ;go_wp2_with fail
      first|go_ret|(rw[Exit.noGoto_ret];go_ret)
      exact⟨rfl,jM.o⟩
     case true=>
      by_cases EM:k=0
      ·have p1:decide ((0:Int)<(k:Int))=false:=by simp;omega
       have p2:decide (0<k)=false:=by simp;omega
       replace vZ:=aA (vZ.o.trans (by rw[decide_eq_true EM];rfl:_=(true&&true&&lb&& !(decide (0<sat)&&(decide (tg=sat)||decide (tg=jG))))))
       clear EM;cases lb
       case false=>
        have hv:nI n i (links,sat,jG,kG) k=false:=by rw[vZ.o];simp
        refine jL f aF aF HS.o ?_;iterate 47 (go_big_quiet_step (first|((go_at_call 105;refine(qE.o _).mono ?_;rintro e w3 ⟨rfl,jQ⟩;exact⟨rfl,jF.o _ ((jH.o _).tm jQ)⟩))|(go_at_call 106;refine(vL.o _).mono ?_;rintro e w3 ⟨rfl,rfl⟩;exact⟨rfl,jF.o _ (jH.o _)⟩)))
        refine wpQuiet_nil ?_;intro s;have kJ:=jH.o s;have jZ:=tN.o.tm kJ;obtain rfl:=nE.o hv;clear hv;obtain⟨jM,mR⟩:=aJ jZ kJ;clear jZ kJ;go_wp2_with fail
        first|go_ret|(rw[Exit.noGoto_ret];go_ret)
        exact⟨rfl,jM.o⟩
       case true=>
        by_cases wC:0<sat
        ·have d3:decide (0<sat)=true:=by simp;omega
         by_cases IZ:tg=sat
         ·have d4:(tg==sat)=true:=by simp[IZ]
          have hv:nI n i (links,sat,jG,kG) k=false:=by rw[vZ.o,d3,decide_eq_true IZ];simp
          clear IZ;refine jL f aF aF HS.o ?_;iterate 47 (go_big_quiet_step (first|((go_at_call 105;refine(qE.o _).mono ?_;rintro e w3 ⟨rfl,jQ⟩;exact⟨rfl,jF.o _ ((jH.o _).tm jQ)⟩))|(go_at_call 106;refine(vL.o _).mono ?_;rintro e w3 ⟨rfl,rfl⟩;exact⟨rfl,jF.o _ (jH.o _)⟩)))
          refine wpQuiet_nil ?_;intro s;have kJ:=jH.o s;have jZ:=tN.o.tm kJ;obtain rfl:=nE.o hv;clear hv;obtain⟨jM,mR⟩:=aJ jZ kJ;clear jZ kJ;go_wp2_with fail
          first|go_ret|(rw[Exit.noGoto_ret];go_ret)
          exact⟨rfl,jM.o⟩
         ·have d4:(tg==sat)=false:=by simp[IZ]
          by_cases OU:tg=jG
          ·have d5:(tg==jG)=true:=by simp[OU]
           have hv:nI n i (links,sat,jG,kG) k=false:=by rw[vZ.o,d3,decide_eq_true OU];simp
           clear IZ OU;refine jL f aF aF HS.o ?_;iterate 47 (go_big_quiet_step (first|((go_at_call 105;refine(qE.o _).mono ?_;rintro e w3 ⟨rfl,jQ⟩;exact⟨rfl,jF.o _ ((jH.o _).tm jQ)⟩))|(go_at_call 106;refine(vL.o _).mono ?_;rintro e w3 ⟨rfl,rfl⟩;exact⟨rfl,jF.o _ (jH.o _)⟩)))
           refine wpQuiet_nil ?_;intro s;have kJ:=jH.o s;have jZ:=tN.o.tm kJ;obtain rfl:=nE.o hv;clear hv;obtain⟨jM,mR⟩:=aJ jZ kJ;clear jZ kJ;go_wp2_with fail
           first|go_ret|(rw[Exit.noGoto_ret];go_ret)
           exact⟨rfl,jM.o⟩
          ·have d5:(tg==jG)=false:=by simp[OU]
           have hv:nI n i (links,sat,jG,kG) k=true:=by rw[vZ.o,d3,decide_eq_false IZ,decide_eq_false OU];simp
           clear IZ OU;refine jL f aF aF HS.o ?_;iterate 47 (go_big_quiet_step (first|((go_at_call 105;refine(qE.o _).mono ?_;rintro e w3 ⟨rfl,jQ⟩;exact⟨rfl,jF.o _ ((jH.o _).tm jQ)⟩))|(go_at_call 106;refine(vL.o _).mono ?_;rintro e w3 ⟨rfl,rfl⟩;exact⟨rfl,jF.o _ (jH.o _)⟩)))
           refine wpQuiet_nil ?_;intro s;have kJ:=jH.o s;have KX:=JL.o.tm kJ;obtain⟨mR,JM,xE⟩:=aK kJ KX hv;clear kJ KX hv;go_wp2_with fail
           go_roundw
           case rel=>exact⟨k+1,by omega,by go_num,aA (lW.o xE.o),JM⟩
           case measure=>simp[intOf];omega
        ·have d3:decide (0<sat)=false:=by simp;omega
         have hv:nI n i (links,sat,jG,kG) k=true:=by rw[vZ.o,d3];simp
         refine jL f aF aF HS.o ?_;iterate 47 (go_big_quiet_step (first|((go_at_call 105;refine(qE.o _).mono ?_;rintro e w3 ⟨rfl,jQ⟩;exact⟨rfl,jF.o _ ((jH.o _).tm jQ)⟩))|(go_at_call 106;refine(vL.o _).mono ?_;rintro e w3 ⟨rfl,rfl⟩;exact⟨rfl,jF.o _ (jH.o _)⟩)))
         refine wpQuiet_nil ?_;intro s;have kJ:=jH.o s;have KX:=JL.o.tm kJ;obtain⟨mR,JM,xE⟩:=aK kJ KX hv;clear kJ KX hv;go_wp2_with fail
         go_roundw
         case rel=>exact⟨k+1,by omega,by go_num,aA (lW.o xE.o),JM⟩
         case measure=>simp[intOf];omega
      ·obtain⟨k',WM⟩:∃k',k'+1=k:=⟨k - 1,by omega⟩;have p1:decide ((0:Int)<(k:Int))=true:=by simp;omega
       have p2:decide (0<k)=true:=by simp;omega
       have wk:IntKind.i64.wrap ((k:Int) - 1)=(k':Int):=by rw[bF];omega
       obtain⟨b3,o3,XB,aBZ,fe⟩:=aQQ.o.elem pJ aH (0,0) (i:=k') aG;obtain⟨rfl,rfl⟩:b2=b3∧o2=o3:=by simpa using XB
       clear XB;have e0:=fe 0 _ rfl;rw[bU]at e0;clear fe;rw[show k - 1=k' by omega]at vZ;obtain⟨pv,hpv⟩:∃z,(links.getD k' (0,0)).1=z:=⟨_,rfl⟩;rw[hpv]at vZ e0;clear hpv;have q5:∀s,(f s).cell? ⟨b2,o2+k'*2,none⟩=some (.int .i64 pv):=fun s=>late (jH.o s) aBZ e0;have aJM:(k':Int)<ln:=by omega
       have aGD:k'<ln:=by omega
       have aMU:(0:Int)≤(k':Int):=by omega
       clear e0;by_cases hpt:tg≤pv
       ·have p3:decide (tg≤pv)=true:=by simp;omega
        have hv:nI n i (links,sat,jG,kG) k=false:=by rw[vZ.o,decide_eq_false EM,decide_eq_false (show ¬pv<tg by omega)];simp
        clear EM WM;refine jL f aF aF HS.o ?_;iterate 47 (go_big_quiet_step (first|((go_at_call 105;refine(qE.o _).mono ?_;rintro e w3 ⟨rfl,jQ⟩;exact⟨rfl,jF.o _ ((jH.o _).tm jQ)⟩))|(go_at_call 106;refine(vL.o _).mono ?_;rintro e w3 ⟨rfl,rfl⟩;exact⟨rfl,jF.o _ (jH.o _)⟩)))
        refine wpQuiet_nil ?_;intro s;have kJ:=jH.o s;have jZ:=tN.o.tm kJ;obtain rfl:=nE.o hv;clear hv;obtain⟨jM,mR⟩:=aJ jZ kJ;clear jZ kJ;go_wp2_with fail
        first|go_ret|(rw[Exit.noGoto_ret];go_ret)
        exact⟨rfl,jM.o⟩
       ·have p3:decide (tg≤pv)=false:=by simp;omega
        replace vZ:=aA (vZ.o.trans (by rw[decide_eq_true (show pv<tg by omega),Bool.or_true]:_=(true&&true&&lb&& !(decide (0<sat)&&(decide (tg=sat)||decide (tg=jG))))))
        clear EM WM;cases lb
        case false=>
         have hv:nI n i (links,sat,jG,kG) k=false:=by rw[vZ.o];simp
         refine jL f aF aF HS.o ?_;iterate 47 (go_big_quiet_step (first|((go_at_call 105;refine(qE.o _).mono ?_;rintro e w3 ⟨rfl,jQ⟩;exact⟨rfl,jF.o _ ((jH.o _).tm jQ)⟩))|(go_at_call 106;refine(vL.o _).mono ?_;rintro e w3 ⟨rfl,rfl⟩;exact⟨rfl,jF.o _ (jH.o _)⟩)))
         refine wpQuiet_nil ?_;intro s;have kJ:=jH.o s;have jZ:=tN.o.tm kJ;obtain rfl:=nE.o hv;clear hv;obtain⟨jM,mR⟩:=aJ jZ kJ;clear jZ kJ;go_wp2_with fail
         first|go_ret|(rw[Exit.noGoto_ret];go_ret)
         exact⟨rfl,jM.o⟩
        case true=>
         by_cases wC:0<sat
         ·have d3:decide (0<sat)=true:=by simp;omega
          by_cases IZ:tg=sat
          ·have d4:(tg==sat)=true:=by simp[IZ]
           have hv:nI n i (links,sat,jG,kG) k=false:=by rw[vZ.o,d3,decide_eq_true IZ];simp
           clear IZ;refine jL f aF aF HS.o ?_;iterate 47 (go_big_quiet_step (first|((go_at_call 105;refine(qE.o _).mono ?_;rintro e w3 ⟨rfl,jQ⟩;exact⟨rfl,jF.o _ ((jH.o _).tm jQ)⟩))|(go_at_call 106;refine(vL.o _).mono ?_;rintro e w3 ⟨rfl,rfl⟩;exact⟨rfl,jF.o _ (jH.o _)⟩)))
           refine wpQuiet_nil ?_;intro s;have kJ:=jH.o s;have jZ:=tN.o.tm kJ;obtain rfl:=nE.o hv;clear hv;obtain⟨jM,mR⟩:=aJ jZ kJ;clear jZ kJ;go_wp2_with fail
           first|go_ret|(rw[Exit.noGoto_ret];go_ret)
           exact⟨rfl,jM.o⟩
          ·have d4:(tg==sat)=false:=by simp[IZ]
           by_cases OU:tg=jG
           ·have d5:(tg==jG)=true:=by simp[OU]
            have hv:nI n i (links,sat,jG,kG) k=false:=by rw[vZ.o,d3,decide_eq_true OU];simp
            clear IZ OU;refine jL f aF aF HS.o ?_;iterate 47 (go_big_quiet_step (first|((go_at_call 105;refine(qE.o _).mono ?_;rintro e w3 ⟨rfl,jQ⟩;exact⟨rfl,jF.o _ ((jH.o _).tm jQ)⟩))|(go_at_call 106;refine(vL.o _).mono ?_;rintro e w3 ⟨rfl,rfl⟩;exact⟨rfl,jF.o _ (jH.o _)⟩)))
            refine wpQuiet_nil ?_;intro s;have kJ:=jH.o s;have jZ:=tN.o.tm kJ;obtain rfl:=nE.o hv;clear hv;obtain⟨jM,mR⟩:=aJ jZ kJ;clear jZ kJ;go_wp2_with fail
            first|go_ret|(rw[Exit.noGoto_ret];go_ret)
            exact⟨rfl,jM.o⟩
           ·have d5:(tg==jG)=false:=by simp[OU]
            have hv:nI n i (links,sat,jG,kG) k=true:=by rw[vZ.o,d3,decide_eq_false IZ,decide_eq_false OU];simp
            clear IZ OU;refine jL f aF aF HS.o ?_;iterate 47 (go_big_quiet_step (first|((go_at_call 105;refine(qE.o _).mono ?_;rintro e w3 ⟨rfl,jQ⟩;exact⟨rfl,jF.o _ ((jH.o _).tm jQ)⟩))|(go_at_call 106;refine(vL.o _).mono ?_;rintro e w3 ⟨rfl,rfl⟩;exact⟨rfl,jF.o _ (jH.o _)⟩)))
            refine wpQuiet_nil ?_;intro s;have kJ:=jH.o s;have KX:=JL.o.tm kJ;obtain⟨mR,JM,xE⟩:=aK kJ KX hv;clear kJ KX hv;go_wp2_with fail
            go_roundw
            case rel=>exact⟨k+1,by omega,by go_num,aA (lW.o xE.o),JM⟩
            case measure=>simp[intOf];omega
         ·have d3:decide (0<sat)=false:=by simp;omega
          have hv:nI n i (links,sat,jG,kG) k=true:=by rw[vZ.o,d3];simp
          refine jL f aF aF HS.o ?_;iterate 47 (go_big_quiet_step (first|((go_at_call 105;refine(qE.o _).mono ?_;rintro e w3 ⟨rfl,jQ⟩;exact⟨rfl,jF.o _ ((jH.o _).tm jQ)⟩))|(go_at_call 106;refine(vL.o _).mono ?_;rintro e w3 ⟨rfl,rfl⟩;exact⟨rfl,jF.o _ (jH.o _)⟩)))
          refine wpQuiet_nil ?_;intro s;have kJ:=jH.o s;have KX:=JL.o.tm kJ;obtain⟨mR,JM,xE⟩:=aK kJ KX hv;clear kJ KX hv;go_wp2_with fail
          go_roundw
          case rel=>exact⟨k+1,by omega,by go_num,aA (lW.o xE.o),JM⟩
          case measure=>simp[intOf];omega
    ·obtain rfl:k=ln:=by omega
     have YH:lX n i (links,sat,jG,kG)=(QM n i (links,sat,jG,kG)&&NI (links,sat,jG,kG)):=a92 (fun j hj=>YQ.o j (by rw[aQM.o]at hj;exact hj));have qW:lX n i (links,sat,jG,kG)=false→R=false:=fun hh=>vG.o▸wG.o hh;have nP:lX n i (links,sat,jG,kG)=true→∀j,j<i+1→lX n j (zs.getD j sJ).2=true:=fun hv j hj=>by
      by_cases TT:j=i
      ·subst TT;rw[AQ.o];exact hv
      ·exact kS.o j aG
     have b69:=b6'.o.late jT.o;have jZ:=AO.o.tm jT.o;have c1:=b69.cell (i:=1) rfl;have c2:=b69.cell (i:=2) rfl;have c3:=b69.cell (i:=3) rfl;have aQN:=fun W=>bE0.o i kG W;have aBY:=fun W=>I8.o jG W;have hnB:QM n i (links,sat,jG,kG)=(decide (kG= -1)||JJ n i kG):=rfl;have hbB:NI (links,sat,jG,kG)=((decide (sat=0)&&decide (jG=0))||(decide (1≤sat)&&decide (sat<jG)&&vV jG)):=rfl;generalize QM n i (links,sat,jG,kG)=nb at*;generalize NI (links,sat,jG,kG)=bb at*;generalize JJ n i kG=lb at*;generalize vV jG=tb at*;clear b69;obtain⟨sW,lW,oN,jM,vL,qE,ZX⟩:=aO qW nP YH jZ aQN aBY hbB;clear qW nP YH jZ aQN aBY hbB;by_cases KI:kG= -1
     ·have d1:(kG != -1)=false:=by simp[KI]
      obtain rfl:nb=true:=by rw[hnB,decide_eq_true KI];rfl
      clear hnB KI;by_cases sN:sat=0
      ·have d2:(sat==0)=true:=by simp[sN]
       have d4:decide (sat<1)=true:=by simp;omega
       by_cases oG:jG=0
       ·have d3:(jG==0)=true:=by simp[oG]
        have hv:lX n i (links,sat,jG,kG)=true:=by rw[oN.o,ZX.o,decide_eq_true sN,decide_eq_true oG];rfl
        clear sN oG;go_wp2_with (first|(go_at_call 106;refine(vL.o _).mono ?_;rintro e w3 ⟨rfl,rfl⟩)|(go_at_call 105;refine(qE.o _).mono ?_;rintro e w3 ⟨rfl,jQ⟩;have HB3:=aA jQ;clear jQ))
        go_roundw
        case rel=>exact⟨i+1,by omega,by go_num,aA (lW.o hv),by first|exact jM|exact aA (jM.o.tm HB3.o)⟩
        case measure=>simp[intOf];omega
       ·have d3:(jG==0)=false:=by simp[oG]
        have hv:lX n i (links,sat,jG,kG)=false:=by rw[oN.o,ZX.o,decide_eq_false oG,decide_eq_false (show ¬1≤sat by omega)];simp
        clear sN oG;obtain rfl:=sW.o hv;clear hv;go_wp2_with (first|(go_at_call 106;refine(vL.o _).mono ?_;rintro e w3 ⟨rfl,rfl⟩)|(go_at_call 105;refine(qE.o _).mono ?_;rintro e w3 ⟨rfl,jQ⟩;have HB3:=aA jQ;clear jQ))
        first|go_ret|(rw[Exit.noGoto_ret];go_ret)
        first|exact⟨rfl,jM.o⟩|exact⟨rfl,jM.o.tm HB3.o⟩
      ·have d2:(sat==0)=false:=by simp[sN]
       by_cases oG:sat<1
       ·have d4:decide (sat<1)=true:=by simp;omega
        have hv:lX n i (links,sat,jG,kG)=false:=by rw[oN.o,ZX.o,decide_eq_false sN,decide_eq_false (show ¬1≤sat by omega)];simp
        clear sN oG;obtain rfl:=sW.o hv;clear hv;go_wp2_with (first|(go_at_call 106;refine(vL.o _).mono ?_;rintro e w3 ⟨rfl,rfl⟩)|(go_at_call 105;refine(qE.o _).mono ?_;rintro e w3 ⟨rfl,jQ⟩;have HB3:=aA jQ;clear jQ))
        first|go_ret|(rw[Exit.noGoto_ret];go_ret)
        first|exact⟨rfl,jM.o⟩|exact⟨rfl,jM.o.tm HB3.o⟩
       ·have d4:decide (sat<1)=false:=by simp;omega
        by_cases qK:jG≤sat
        ·have d5:decide (jG≤sat)=true:=by simp;omega
         have hv:lX n i (links,sat,jG,kG)=false:=by rw[oN.o,ZX.o,decide_eq_false sN,decide_eq_false (show ¬sat<jG by omega)];simp
         clear sN oG qK;obtain rfl:=sW.o hv;clear hv;go_wp2_with (first|(go_at_call 106;refine(vL.o _).mono ?_;rintro e w3 ⟨rfl,rfl⟩)|(go_at_call 105;refine(qE.o _).mono ?_;rintro e w3 ⟨rfl,jQ⟩;have HB3:=aA jQ;clear jQ))
         first|go_ret|(rw[Exit.noGoto_ret];go_ret)
         first|exact⟨rfl,jM.o⟩|exact⟨rfl,jM.o.tm HB3.o⟩
        ·have d5:decide (jG≤sat)=false:=by simp;omega
         cases tb
         case false=>
          have hv:lX n i (links,sat,jG,kG)=false:=by rw[oN.o,ZX.o,decide_eq_false sN];simp
          clear sN oG qK;obtain rfl:=sW.o hv;clear hv;go_wp2_with (first|(go_at_call 106;refine(vL.o _).mono ?_;rintro e w3 ⟨rfl,rfl⟩)|(go_at_call 105;refine(qE.o _).mono ?_;rintro e w3 ⟨rfl,jQ⟩;have HB3:=aA jQ;clear jQ))
          first|go_ret|(rw[Exit.noGoto_ret];go_ret)
          first|exact⟨rfl,jM.o⟩|exact⟨rfl,jM.o.tm HB3.o⟩
         case true=>
          have hv:lX n i (links,sat,jG,kG)=true:=by rw[oN.o,ZX.o,decide_eq_true (show 1≤sat by omega),decide_eq_true (show sat<jG by omega)];simp
          clear sN oG qK;go_wp2_with (first|(go_at_call 106;refine(vL.o _).mono ?_;rintro e w3 ⟨rfl,rfl⟩)|(go_at_call 105;refine(qE.o _).mono ?_;rintro e w3 ⟨rfl,jQ⟩;have HB3:=aA jQ;clear jQ))
          go_roundw
          case rel=>exact⟨i+1,by omega,by go_num,aA (lW.o hv),by first|exact jM|exact aA (jM.o.tm HB3.o)⟩
          case measure=>simp[intOf];omega
     ·have d1:(kG != -1)=true:=by simp[KI]
      obtain rfl:nb=lb:=by rw[hnB,decide_eq_false KI];rfl
      clear hnB KI;cases nb
      case false=>
       have hv:lX n i (links,sat,jG,kG)=false:=by rw[oN.o];rfl
       obtain rfl:=sW.o hv;clear hv;go_wp2_with (first|(go_at_call 106;refine(vL.o _).mono ?_;rintro e w3 ⟨rfl,rfl⟩)|(go_at_call 105;refine(qE.o _).mono ?_;rintro e w3 ⟨rfl,jQ⟩;have HB3:=aA jQ;clear jQ))
       first|go_ret|(rw[Exit.noGoto_ret];go_ret)
       first|exact⟨rfl,jM.o⟩|exact⟨rfl,jM.o.tm HB3.o⟩
      case true=>
       by_cases sN:sat=0
       ·have d2:(sat==0)=true:=by simp[sN]
        have d4:decide (sat<1)=true:=by simp;omega
        by_cases oG:jG=0
        ·have d3:(jG==0)=true:=by simp[oG]
         have hv:lX n i (links,sat,jG,kG)=true:=by rw[oN.o,ZX.o,decide_eq_true sN,decide_eq_true oG];rfl
         clear sN oG;go_wp2_with (first|(go_at_call 106;refine(vL.o _).mono ?_;rintro e w3 ⟨rfl,rfl⟩)|(go_at_call 105;refine(qE.o _).mono ?_;rintro e w3 ⟨rfl,jQ⟩;have HB3:=aA jQ;clear jQ))
         go_roundw
         case rel=>exact⟨i+1,by omega,by go_num,aA (lW.o hv),by first|exact jM|exact aA (jM.o.tm HB3.o)⟩
         case measure=>simp[intOf];omega
        ·have d3:(jG==0)=false:=by simp[oG]
         have hv:lX n i (links,sat,jG,kG)=false:=by rw[oN.o,ZX.o,decide_eq_false oG,decide_eq_false (show ¬1≤sat by omega)];simp
         clear sN oG;obtain rfl:=sW.o hv;clear hv;go_wp2_with (first|(go_at_call 106;refine(vL.o _).mono ?_;rintro e w3 ⟨rfl,rfl⟩)|(go_at_call 105;refine(qE.o _).mono ?_;rintro e w3 ⟨rfl,jQ⟩;have HB3:=aA jQ;clear jQ))
         first|go_ret|(rw[Exit.noGoto_ret];go_ret)
         first|exact⟨rfl,jM.o⟩|exact⟨rfl,jM.o.tm HB3.o⟩
       ·have d2:(sat==0)=false:=by simp[sN]
        by_cases oG:sat<1
        ·have d4:decide (sat<1)=true:=by simp;omega
         have hv:lX n i (links,sat,jG,kG)=false:=by rw[oN.o,ZX.o,decide_eq_false sN,decide_eq_false (show ¬1≤sat by omega)];simp
         clear sN oG;obtain rfl:=sW.o hv;clear hv;go_wp2_with (first|(go_at_call 106;refine(vL.o _).mono ?_;rintro e w3 ⟨rfl,rfl⟩)|(go_at_call 105;refine(qE.o _).mono ?_;rintro e w3 ⟨rfl,jQ⟩;have HB3:=aA jQ;clear jQ))
         first|go_ret|(rw[Exit.noGoto_ret];go_ret)
         first|exact⟨rfl,jM.o⟩|exact⟨rfl,jM.o.tm HB3.o⟩
        ·have d4:decide (sat<1)=false:=by simp;omega
         by_cases qK:jG≤sat
         ·have d5:decide (jG≤sat)=true:=by simp;omega
          have hv:lX n i (links,sat,jG,kG)=false:=by rw[oN.o,ZX.o,decide_eq_false sN,decide_eq_false (show ¬sat<jG by omega)];simp
          clear sN oG qK;obtain rfl:=sW.o hv;clear hv;go_wp2_with (first|(go_at_call 106;refine(vL.o _).mono ?_;rintro e w3 ⟨rfl,rfl⟩)|(go_at_call 105;refine(qE.o _).mono ?_;rintro e w3 ⟨rfl,jQ⟩;have HB3:=aA jQ;clear jQ))
          first|go_ret|(rw[Exit.noGoto_ret];go_ret)
          first|exact⟨rfl,jM.o⟩|exact⟨rfl,jM.o.tm HB3.o⟩
         ·have d5:decide (jG≤sat)=false:=by simp;omega
          cases tb
          case false=>
           have hv:lX n i (links,sat,jG,kG)=false:=by rw[oN.o,ZX.o,decide_eq_false sN];simp
           clear sN oG qK;obtain rfl:=sW.o hv;clear hv;go_wp2_with (first|(go_at_call 106;refine(vL.o _).mono ?_;rintro e w3 ⟨rfl,rfl⟩)|(go_at_call 105;refine(qE.o _).mono ?_;rintro e w3 ⟨rfl,jQ⟩;have HB3:=aA jQ;clear jQ))
           first|go_ret|(rw[Exit.noGoto_ret];go_ret)
           first|exact⟨rfl,jM.o⟩|exact⟨rfl,jM.o.tm HB3.o⟩
          case true=>
           have hv:lX n i (links,sat,jG,kG)=true:=by rw[oN.o,ZX.o,decide_eq_true (show 1≤sat by omega),decide_eq_true (show sat<jG by omega)];simp
           clear sN oG qK;go_wp2_with (first|(go_at_call 106;refine(vL.o _).mono ?_;rintro e w3 ⟨rfl,rfl⟩)|(go_at_call 105;refine(qE.o _).mono ?_;rintro e w3 ⟨rfl,jQ⟩;have HB3:=aA jQ;clear jQ))
           go_roundw
           case rel=>exact⟨i+1,by omega,by go_num,aA (lW.o hv),by first|exact jM|exact aA (jM.o.tm HB3.o)⟩
           case measure=>simp[intOf];omega
  ·obtain rfl:i=n:=by omega
   obtain rfl:R=true:=by rw[←vG.o];exact aBW (by rw[mX.o];omega) (by rw[mX.o];omega) (fun j hj=>by rw[mX.o]at hj ⊢;exact kS.o j hj)
   go_wp2_with fail
   first|go_ret|(rw[Exit.noGoto_ret];go_ret)
   exact⟨rfl,hb.o⟩
