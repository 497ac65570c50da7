import Derived.Test.YtceclmpmpldmlaaGreatCx10
set_option linter.unusedSimpArgs false
set_option linter.unusedVariables false
set_option maxRecDepth 100000
set_option maxHeartbeats 8000000
namespace Go.Proofs.YtceclmpmpldmlaaGreat
open Go.RowKit Tt
theorem aC0 (x:Int) (w:World):Calls Tryz.prog 203 #[.int .i64 x] w fun e w'=>e= .returned (.bool (vV x))∧w=w':=by
 unfold vV;by_cases h:0≤x
 ·simp only[h,decide_true,dD];go_enter Tryz.func203,Tryz.ntmps203;go_wp2;go_ret;exact⟨rfl,rfl⟩
 ·simp only[h,decide_false,Bool.false_and];go_enter Tryz.func203,Tryz.ntmps203;go_wp2;go_ret;exact⟨rfl,rfl⟩
theorem aGE (a:Option Addr) (n c i:Nat) (zs:List QN) (w:World) (h:ShR w a n c zs) (kD:i<n):Calls Tryz.prog 202 #[.slice a n c,.int .i64 i] w fun e w'=>e= .returned (.bool (lX n i (zs.getD i sJ).2))∧Below w.heap.size w w':=by
 have qJ:=h.len;have BX:=h.row.le;have LX:=h.row.max;have hTG:=fun x W=>aC0 x W;have EC:=h.at kD;obtain⟨b,o,rfl,yZ,f⟩:=h.row.elem qD aH sJ kD;obtain⟨⟨⟨la,ln,lc⟩,⟨links,sat,jG,kG⟩⟩,hz⟩:∃z,zs.getD i sJ=z:=⟨_,rfl⟩;rw[hz]at f EC;rw[hz];simp only at EC;simp only;have f0:=f 0 _ rfl;have f1:=f 1 _ rfl;have f2:=f 2 _ rfl;have f3:=f 3 _ rfl;simp only[bU]at f0 f1 f2 f3;clear f hz;have yJ:(i:Int)<n:=by omega
 have hlm:=EC.max;have hll:=EC.le;have aGC:=EC.rP pJ aH;obtain⟨R,hR⟩:=aC (lX n i (links,sat,jG,kG));rw[hR];have bE5:∀k,k<ln→nI n i (links,sat,jG,kG) k=false→R=false:=fun k hk hh=>hR▸YP (by rw[aGC];exact hk) hh;have hRR:R=((List.range ln).all (nI n i (links,sat,jG,kG))&&QM n i (links,sat,jG,kG)&&NI (links,sat,jG,kG)):=by rw[←hR,←aGC];rfl
 have hnB:QM n i (links,sat,jG,kG)=(decide (kG= -1)||(decide ((i:Int)<kG)&&decide (kG<n))):=rfl;have hbB:NI (links,sat,jG,kG)=((decide (sat=0)&&decide (jG=0))||(decide (1≤sat)&&decide (sat<jG)&&vV jG)):=rfl;clear hR;obtain⟨h',mX,I8,a6B,aQM,bEA,aGF⟩:=aO h qJ hTG EC aGC bE5 hRR;clear h qJ hTG EC aGC bE5 hRR;go_enter Tryz.func202,Tryz.ntmps202;go_upto_region 2 with fail
 have b6:=jW.new w 35 #[.slice la ln lc,.int .i64 sat,.int .i64 jG,.int .i64 kG];have wQ:=aD w (.cells #[.slice la ln lc,.int .i64 sat,.int .i64 jG,.int .i64 kG] 35);have aMT:=a6B.o.mono wQ;clear f0 f1 f2 f3;obtain⟨w6,KW⟩:=aC (w.alloc (.cells #[.slice la ln lc,.int .i64 sat,.int .i64 jG,.int .i64 kG] 35));rw[KW]at b6 wQ aMT;try rw[KW]
 clear KW;obtain⟨g6,qQ⟩:∃g,w.heap.size=g:=⟨_,rfl⟩;have hgl:g6<w6.heap.size:=by rw[←qQ];exact b6.lt
 have bV4:=aA qQ;have c0:w6.cell? ⟨g6,0,none⟩=some (.slice la ln lc):=by rw[←qQ];exact b6.cell rfl
 have c1:w6.cell? ⟨g6,1,none⟩=some (.int .i64 sat):=by rw[←qQ];exact b6.cell rfl
 have c2:w6.cell? ⟨g6,2,none⟩=some (.int .i64 jG):=by rw[←qQ];exact b6.cell rfl
 have c3:w6.cell? ⟨g6,3,none⟩=some (.int .i64 kG):=by rw[←qQ];exact b6.cell rfl
 rw[qQ]at b6;try rw[qQ]
 clear qQ;have aBY:=fun W=>I8.o jG W;obtain⟨b6',CB,aBX,qE⟩:=aL b6 wQ aMT aBY;clear b6 wQ aMT aBY;-- the next one
 by_cases KI:QM n i (links,sat,jG,kG)=true
 case neg=>
  simp only[eZ]at KI;have qW:QM n i (links,sat,jG,kG)=false→R=false:=fun hh=>by rw[aGF.o,hh];simp
  have hv:=KI;rw[hnB]at KI;simp only[Bool.or_eq_false_iff,Bool.and_eq_false_iff,decide_eq_false_iff_not]at KI;have d1:(kG != -1)=true:=by simp[KI.1]
  have sW:=aA qW;clear qW;by_cases PX:kG≤i
  ·have d2:decide (kG≤(i:Int))=true:=by simp;omega
   clear KI PX;obtain rfl:=sW.o hv;clear hv;go_wp2_with (go_at_call 203;refine(qE.o _).mono ?_;rintro e w3 ⟨rfl,rfl⟩)
   go_ret;exact⟨rfl,CB.o⟩
  ·have d2:decide (kG≤(i:Int))=false:=by simp;omega
   have d3:decide ((n:Int)≤kG)=true:=by simp;omega
   clear KI PX;obtain rfl:=sW.o hv;clear hv;go_wp2_with (go_at_call 203;refine(qE.o _).mono ?_;rintro e w3 ⟨rfl,rfl⟩)
   go_ret;exact⟨rfl,CB.o⟩
 -- the blob
 have PX:=KI;rw[hnB]at PX;simp only[eY,bV,decide_eq_true_eq]at PX;have bEB:R=((List.range ln).all (nI n i (links,sat,jG,kG))&&NI (links,sat,jG,kG)):=by rw[aGF.o,KI];simp
 clear aGF hnB KI;have aQR:=aA bEB;clear bEB;go_cut [27]from 12 to 26 (fun v wx=>v= .bool false∧wx=w6)
 case first=>
  by_cases hx:kG= -1
  ·have d1:(kG != -1)=false:=by simp[hx]
   clear PX hx;go_wp2_with fail
   go_meet
   exact⟨rfl,rfl⟩
  ·have d1:(kG != -1)=true:=by simp[hx]
   have d2:decide (kG≤(i:Int))=false:=by simp;omega
   have d3:decide ((n:Int)≤kG)=false:=by simp;omega
   clear PX hx;go_wp2_with fail
   go_meet
   exact⟨rfl,rfl⟩
 case rest=>
  obtain⟨rfl,rfl⟩:=hcut;rename World=>w6
  clear PX;go_upto_region 4 with fail
  by_cases KI:NI (links,sat,jG,kG)=true
  case neg=>
   simp only[eZ]at KI;have qW:NI (links,sat,jG,kG)=false→R=false:=fun hh=>by rw[aQR.o,hh];simp
   have hv:=KI;rw[hbB]at KI;have a6Y:¬((sat=0∧jG=0)∨(1≤sat∧sat<jG∧vV jG=true)):=fun hh=>by
    rw[Bool.eq_false_iff]at KI;exact KI (by rcases hh with ⟨h1,h2⟩|⟨h1,h2,h3⟩ <;> simp[*])
   generalize vV jG=tb at*;clear KI hbB;have sW:=aA qW;clear qW;by_cases h0:sat=0
   ·have d1:(sat != 0)=false:=by simp[h0]
    have d2:(jG != 0)=true:=by simp;intro h;exact a6Y (.inl ⟨h0,h⟩)
    have d3:decide (sat<1)=true:=by simp;omega
    clear a6Y h0;obtain rfl:=sW.o hv;clear hv;go_wp2_with (go_at_call 203;refine(qE.o _).mono ?_;rintro e w3 ⟨rfl,rfl⟩)
    go_ret;exact⟨rfl,CB.o⟩
   ·have d1:(sat != 0)=true:=by simp[h0]
    by_cases h1:sat<1
    ·have d3:decide (sat<1)=true:=by simp;omega
     clear a6Y h0;obtain rfl:=sW.o hv;clear hv;go_wp2_with (go_at_call 203;refine(qE.o _).mono ?_;rintro e w3 ⟨rfl,rfl⟩)
     go_ret;exact⟨rfl,CB.o⟩
    ·have d3:decide (sat<1)=false:=by simp;omega
     by_cases h2:jG≤sat
     ·have d4:decide (jG≤sat)=true:=by simp;omega
      clear a6Y h0;obtain rfl:=sW.o hv;clear hv;go_wp2_with (go_at_call 203;refine(qE.o _).mono ?_;rintro e w3 ⟨rfl,rfl⟩)
      go_ret;exact⟨rfl,CB.o⟩
     ·have d4:decide (jG≤sat)=false:=by simp;omega
      obtain rfl:tb=false:=by
       cases tb
       ·rfl
       ·exact absurd (.inr ⟨by omega,by omega,rfl⟩) a6Y
      clear a6Y h0;obtain rfl:=sW.o hv;clear hv;go_wp2_with (go_at_call 203;refine(qE.o _).mono ?_;rintro e w3 ⟨rfl,rfl⟩)
      go_ret;exact⟨rfl,CB.o⟩
  have aOY:¬sat=0→0<sat:=fun h0=>by
   rw[hbB]at KI;simp at KI;omega
  have jT:=KI;rw[hbB]at jT;have bEC:R=(List.range ln).all (nI n i (links,sat,jG,kG)):=by rw[aQR.o,KI];simp
  clear aQR hbB KI;obtain⟨bEE,b4D⟩:=aJ bEC aOY;clear bEC aOY;go_cut [53]from 28 to 52 (fun v wx=>v= .bool false∧wx=w6)
  case first=>
   generalize vV jG=tb at*;by_cases h0:sat=0
   ·have hl0:jG=0:=by simp at jT;omega
    have d1:(sat != 0)=false:=by simp[h0]
    have d2:(jG != 0)=false:=by simp[hl0]
    clear jT h0 hl0;go_wp2_with fail
    go_meet
    exact⟨rfl,rfl⟩
   ·have d1:(sat != 0)=true:=by simp[h0]
    have hx:1≤sat∧sat<jG∧tb=true:=by simp[h0]at jT;exact⟨jT.1.1,jT.1.2,jT.2⟩
    have d3:decide (sat<1)=false:=by simp;omega
    have d4:decide (jG≤sat)=false:=by simp;omega
    obtain rfl:=hx.2.2;clear jT h0 hx;go_wp2_with (go_at_call 203;refine(qE.o _).mono ?_;rintro e w3 ⟨rfl,rfl⟩)
    go_meet
    exact⟨rfl,rfl⟩
  case rest=>
   obtain⟨rfl,rfl⟩:=hcut;rename World=>w6
   clear jT;clear c1 c2 c3;go_wp2_with fail
   clear c0;go_loopw [6] (fun kv wr2=>∃k:Nat,k≤ln∧kv= .int .i64 k∧Hid (∀j,j<k→nI n i (links,sat,jG,kG) j=true)∧Hid (Below w6.heap.size w6 wr2)) (fun kv _=>ln - (intOf kv).toNat)
   case atStart=>exact⟨0,by omega,rfl,aA (fun j hj=>by omega),aA (aY _ _)⟩
   case round=>
    obtain⟨k,hk,rfl,YQ,jT⟩:=hrel;have c0:=(b6'.o.late jT.o).cell (i:=0) rfl;by_cases D6:k<ln
    ·obtain⟨b2,o2,rfl,aQ9,fe⟩:=(aBX.o.mono jT.o).elem pJ aH (0,0) D6;have e0:=fe 0 _ rfl;have e1:=fe 1 _ rfl;rw[bU]at e0;clear fe;obtain⟨⟨tg,sh⟩,hts⟩:∃z,links.getD k (0,0)=z:=⟨_,rfl⟩;rw[hts]at e0 e1;simp only at e0 e1;have hlB:nI n i (links,sat,jG,kG) k=(vV tg&&(decide (k=0)||decide ((links.getD (k - 1) (0,0)).1<tg))&&JJ n i sh&& !(decide (0<sat)&&(decide (tg=sat)||decide (tg=jG)))):=by unfold nI;simp only[hts]
     have bEF:=fun W=>I8.o tg W;generalize vV tg=tb at*;have CF:nI n i (links,sat,jG,kG) k=false→R=false:=bEA.o k D6;have nP:nI n i (links,sat,jG,kG) k=true→∀j,j<k+1→nI n i (links,sat,jG,kG) j=true:=fun hv j hj=>by
      by_cases TT:j=k
      ·subst TT;exact hv
      ·exact YQ.o j aG
     have hkn:(k:Int)<ln:=by omega
     obtain⟨nE,lW,a94⟩:=aK CF nP hts;clear CF nP hts;go_upto_region 10 with fail
     have b9:=jW.new wr 32 #[.int .i64 tg,.int .i64 sh];have aQO:=aD wr (.cells #[.int .i64 tg,.int .i64 sh] 32);have a1O:=jT.o.tm aQO;have yB:=CB.o.tm a1O;have b69:=b6'.o.late a1O;have aQP:=aBX.o.mono a1O;clear aQO c0;generalize wr.alloc (.cells #[.int .i64 tg,.int .i64 sh] 32)=w9 at*;generalize wr.heap.size=g9 at*;clear e0 e1 aQ9;obtain⟨Ty,f,oJ,jN,jK⟩:=kE w9;have HS:=aA (jK _ ((aY _ _).drew));have q0:=fun s=>(jW.late b9 (jN s)).cell (i:=0) rfl;have q1:=fun s=>(jW.late b9 (jN s)).cell (i:=1) rfl;have q2:=fun s=>(jW.late b69 (jN s)).cell (i:=0) rfl;have ZY:JJ n i sh=(decide ((i:Int)<sh)&&decide (sh<n)):=rfl;obtain⟨b9',b61,tN,JL,jH,jF,vZ,a7L,aQQ⟩:=aQ b9 b69 yB a1O jN jK hlB bEF aQP;clear b9 b69 yB a1O jN jK hlB bEF aQP;cases tb
     case false=>
      have hv:nI n i (links,sat,jG,kG) k=false:=by rw[vZ.o];simp
      refine jL f aF aF HS.o ?_;iterate 33 (go_big_quiet_step ((go_at_call 203;refine(a7L.o _).mono ?_;rintro e w3 ⟨rfl,rfl⟩;exact⟨rfl,jF.o _ (jH.o _)⟩)))
      refine wpQuiet_nil ?_;intro s;have kJ:=jH.o s;have jZ:=tN.o.tm kJ;obtain rfl:=nE.o hv;clear hv;obtain⟨jM,mR⟩:=aJ jZ kJ;clear jZ kJ;go_wp2_with fail
      go_ret;exact⟨rfl,jM.o⟩
     case true=>
      by_cases IY:sh≤i
      ·have d1:decide (sh≤(i:Int))=true:=by simp;omega
       have hv:nI n i (links,sat,jG,kG) k=false:=by rw[vZ.o,ZY,decide_eq_false (show ¬(i:Int)<sh by omega)];simp
       clear ZY;refine jL f aF aF HS.o ?_;iterate 33 (go_big_quiet_step ((go_at_call 203;refine(a7L.o _).mono ?_;rintro e w3 ⟨rfl,rfl⟩;exact⟨rfl,jF.o _ (jH.o _)⟩)))
       refine wpQuiet_nil ?_;intro s;have kJ:=jH.o s;have jZ:=tN.o.tm kJ;obtain rfl:=nE.o hv;clear hv;obtain⟨jM,mR⟩:=aJ jZ kJ;clear jZ kJ;go_wp2_with fail
       go_ret;exact⟨rfl,jM.o⟩
      ·have d1:decide (sh≤(i:Int))=false:=by simp;omega
       by_cases BO:(n:Int)≤sh
       ·have d2:decide ((n:Int)≤sh)=true:=by simp;omega
        have hv:nI n i (links,sat,jG,kG) k=false:=by rw[vZ.o,ZY,decide_eq_false (show ¬sh<n by omega)];simp
        clear ZY;refine jL f aF aF HS.o ?_;iterate 33 (go_big_quiet_step ((go_at_call 203;refine(a7L.o _).mono ?_;rintro e w3 ⟨rfl,rfl⟩;exact⟨rfl,jF.o _ (jH.o _)⟩)))
        refine wpQuiet_nil ?_;intro s;have kJ:=jH.o s;have jZ:=tN.o.tm kJ;obtain rfl:=nE.o hv;clear hv;obtain⟨jM,mR⟩:=aJ jZ kJ;clear jZ kJ;go_wp2_with fail
        go_ret;exact⟨rfl,jM.o⟩
       ·have d2:decide ((n:Int)≤sh)=false:=by simp;omega
        rw[show JJ n i sh=true by rw[ZY];simp;omega]at vZ;clear ZY;by_cases EM:k=0
        ·have p1:decide ((0:Int)<(k:Int))=false:=by simp;omega
         have p2:decide (0<k)=false:=by simp;omega
         replace vZ:=aA (vZ.o.trans (by rw[decide_eq_true EM];rfl:_=(true&&true&&true&& !(decide (0<sat)&&(decide (tg=sat)||decide (tg=jG))))))
         clear EM;refine jL f aF aF HS.o ?_;iterate 33 (go_big_quiet_step ((go_at_call 203;refine(a7L.o _).mono ?_;rintro e w3 ⟨rfl,rfl⟩;exact⟨rfl,jF.o _ (jH.o _)⟩)))
         refine wpQuiet_nil ?_;intro s;have kJ:=jH.o s;have KX:=JL.o.tm kJ;have aQS:=b9'.o.late kJ;have aGG:=b61.o.late kJ;have aQT:=CB.o.tm KX;have t0:=aQS.cell (i:=0) rfl;have t1:=aGG.cell (i:=1) rfl;have t2:=aGG.cell (i:=2) rfl;clear aQS aGG;obtain⟨mR,JM,aC1⟩:=aK kJ KX aQT;clear kJ KX aQT;by_cases wC:sat=0
         ·have d1:(sat != 0)=false:=by simp[wC]
          have hv:nI n i (links,sat,jG,kG) k=true:=by rw[vZ.o,decide_eq_false (show ¬0<sat by omega)];simp
          clear wC;go_wp2_with fail
          go_roundw
          case rel=>exact⟨k+1,by omega,by go_num,aA (lW.o hv),JM⟩
          case measure=>simp[intOf];omega
         ·have d1:(sat != 0)=true:=by simp[wC]
          have IY:0<sat:=b4D.o wC;by_cases IZ:tg=sat
          ·have d4:(tg==sat)=true:=by simp[IZ]
           have hv:nI n i (links,sat,jG,kG) k=false:=by rw[vZ.o,decide_eq_true IY,decide_eq_true IZ];simp
           obtain rfl:=nE.o hv;clear hv IZ wC IY;go_wp2_with fail
           go_ret;exact⟨rfl,aC1.o⟩
          ·have d4:(tg==sat)=false:=by simp[IZ]
           by_cases OU:tg=jG
           ·have d5:(tg==jG)=true:=by simp[OU]
            have hv:nI n i (links,sat,jG,kG) k=false:=by rw[vZ.o,decide_eq_true IY,decide_eq_true OU];simp
            obtain rfl:=nE.o hv;clear hv IZ OU wC IY;go_wp2_with fail
            go_ret;exact⟨rfl,aC1.o⟩
           ·have d5:(tg==jG)=false:=by simp[OU]
            have hv:nI n i (links,sat,jG,kG) k=true:=by rw[vZ.o,decide_eq_false IZ,decide_eq_false OU];simp
            clear IZ OU wC IY;go_wp2_with fail
            go_roundw
            case rel=>exact⟨k+1,by omega,by go_num,aA (lW.o hv),JM⟩
            case measure=>simp[intOf];omega
        ·obtain⟨k',WM⟩:∃k',k'+1=k:=⟨k - 1,by omega⟩;have p1:decide ((0:Int)<(k:Int))=true:=by simp;omega
         have p2:decide (0<k)=true:=by simp;omega
         have wk:IntKind.i64.wrap ((k:Int) - 1)=(k':Int):=by rw[bF];omega
         obtain⟨b3,o3,XB,aBZ,fe⟩:=aQQ.o.elem pJ aH (0,0) (i:=k') aG;obtain⟨rfl,rfl⟩:b2=b3∧o2=o3:=by simpa using XB
         clear XB;have e0:=fe 0 _ rfl;rw[bU]at e0;clear fe;rw[show k - 1=k' by omega]at vZ;obtain⟨pv,hpv⟩:∃z,(links.getD k' (0,0)).1=z:=⟨_,rfl⟩;rw[hpv]at vZ e0;clear hpv;have q5:∀s,(f s).cell? ⟨b2,o2+k'*2,none⟩=some (.int .i64 pv):=fun s=>late (jH.o s) aBZ e0;have aJM:(k':Int)<ln:=by omega
         have aGD:k'<ln:=by omega
         have aMU:(0:Int)≤(k':Int):=by omega
         clear e0;by_cases hpt:tg≤pv
         ·have p3:decide (tg≤pv)=true:=by simp;omega
          have hv:nI n i (links,sat,jG,kG) k=false:=by rw[vZ.o,decide_eq_false EM,decide_eq_false (show ¬pv<tg by omega)];simp
          clear EM WM;refine jL f aF aF HS.o ?_;iterate 33 (go_big_quiet_step ((go_at_call 203;refine(a7L.o _).mono ?_;rintro e w3 ⟨rfl,rfl⟩;exact⟨rfl,jF.o _ (jH.o _)⟩)))
          refine wpQuiet_nil ?_;intro s;have kJ:=jH.o s;have jZ:=tN.o.tm kJ;obtain rfl:=nE.o hv;clear hv;obtain⟨jM,mR⟩:=aJ jZ kJ;clear jZ kJ;go_wp2_with fail
          go_ret;exact⟨rfl,jM.o⟩
         ·have p3:decide (tg≤pv)=false:=by simp;omega
          replace vZ:=aA (vZ.o.trans (by rw[decide_eq_true (show pv<tg by omega),Bool.or_true]:_=(true&&true&&true&& !(decide (0<sat)&&(decide (tg=sat)||decide (tg=jG))))))
          clear EM WM;refine jL f aF aF HS.o ?_;iterate 33 (go_big_quiet_step ((go_at_call 203;refine(a7L.o _).mono ?_;rintro e w3 ⟨rfl,rfl⟩;exact⟨rfl,jF.o _ (jH.o _)⟩)))
          refine wpQuiet_nil ?_;intro s;have kJ:=jH.o s;have KX:=JL.o.tm kJ;have aQS:=b9'.o.late kJ;have aGG:=b61.o.late kJ;have aQT:=CB.o.tm KX;have t0:=aQS.cell (i:=0) rfl;have t1:=aGG.cell (i:=1) rfl;have t2:=aGG.cell (i:=2) rfl;clear aQS aGG;obtain⟨mR,JM,aC1⟩:=aK kJ KX aQT;clear kJ KX aQT;by_cases wC:sat=0
          ·have d1:(sat != 0)=false:=by simp[wC]
           have hv:nI n i (links,sat,jG,kG) k=true:=by rw[vZ.o,decide_eq_false (show ¬0<sat by omega)];simp
           clear wC;go_wp2_with fail
           go_roundw
           case rel=>exact⟨k+1,by omega,by go_num,aA (lW.o hv),JM⟩
           case measure=>simp[intOf];omega
          ·have d1:(sat != 0)=true:=by simp[wC]
           have IY:0<sat:=b4D.o wC;by_cases IZ:tg=sat
           ·have d4:(tg==sat)=true:=by simp[IZ]
            have hv:nI n i (links,sat,jG,kG) k=false:=by rw[vZ.o,decide_eq_true IY,decide_eq_true IZ];simp
            obtain rfl:=nE.o hv;clear hv IZ wC IY;go_wp2_with fail
            go_ret;exact⟨rfl,aC1.o⟩
           ·have d4:(tg==sat)=false:=by simp[IZ]
            by_cases OU:tg=jG
            ·have d5:(tg==jG)=true:=by simp[OU]
             have hv:nI n i (links,sat,jG,kG) k=false:=by rw[vZ.o,decide_eq_true IY,decide_eq_true OU];simp
             obtain rfl:=nE.o hv;clear hv IZ OU wC IY;go_wp2_with fail
             go_ret;exact⟨rfl,aC1.o⟩
            ·have d5:(tg==jG)=false:=by simp[OU]
             have hv:nI n i (links,sat,jG,kG) k=true:=by rw[vZ.o,decide_eq_false IZ,decide_eq_false OU];simp
             clear IZ OU wC IY;go_wp2_with fail
             go_roundw
             case rel=>exact⟨k+1,by omega,by go_num,aA (lW.o hv),JM⟩
             case measure=>simp[intOf];omega
    ·obtain rfl:k=ln:=by omega
     obtain rfl:R=true:=by rw[bEE.o];exact dQ.2 fun j hj=>YQ.o j (dF.1 hj)
     go_wp2_with fail
     go_ret;exact⟨rfl,CB.o.tm jT.o⟩
theorem aC2 (a:Option Addr) (n c:Nat) (zs:List QN) (w:World) (h:ShR w a n c zs):Calls Tryz.prog 139 #[.slice a n c] w fun e w'=>e= .returned (.bool (nO (jP zs)))∧Below w.heap.size w w':=by
 have qJ:=h.len;have BX:=h.row.le;have LX:=h.row.max;obtain⟨R,hR⟩:=aC (nO (jP zs));rw[hR];obtain⟨h',mX,vG⟩:=aK h qJ hR;clear h qJ hR;go_enter Tryz.func139,Tryz.ntmps139;go_wp2_with fail
 go_loopw [3] (fun iv wr=>∃i:Nat,i≤n∧iv= .int .i64 i∧Hid (∀j,j<i→lX n j (zs.getD j sJ).2=true)∧Hid (Below w.heap.size w wr)) (fun iv _=>n - (intOf iv).toNat)
 case atStart=>exact⟨0,by omega,rfl,aA (fun j hj=>by omega),aA (aY _ _)⟩
 case round=>
  obtain⟨i,hi,rfl,kS,hb⟩:=hrel;by_cases kD:i<n
  ·have HC:=aGE a n c i zs wr (h'.o.mono hb.o) kD;have qW:lX n i (zs.getD i sJ).2=false→R=false:=fun hh=>vG.o▸(by have:=YO (zs:=zs) (i:=i) (by rw[mX.o];exact kD);rw[mX.o]at this;exact this hh);have nP:lX n i (zs.getD i sJ).2=true→∀j,j<i+1→lX n j (zs.getD j sJ).2=true:=fun hv j hj=>by
    by_cases TT:j=i
    ·subst TT;exact hv
    ·exact kS.o j aG
   generalize lX n i (zs.getD i sJ).2=sb at*;obtain⟨HC',sW,lW⟩:=aK HC qW nP;clear HC qW nP;cases sb
   ·obtain rfl:=sW.o rfl;go_wp2_with (go_at_call 202;refine(HC'.o).mono ?_;rintro e w3 ⟨rfl,jQ⟩;have HB3:=aA (hb.o.tm jQ);clear jQ)
    go_ret;exact⟨rfl,HB3.o⟩
   ·go_wp2_with (go_at_call 202;refine(HC'.o).mono ?_;rintro e w3 ⟨rfl,jQ⟩;have HB3:=aA (hb.o.tm jQ);clear jQ)
    go_roundw
    case rel=>exact⟨i+1,by omega,by go_num,aA (lW.o trivial),HB3⟩
    case measure=>simp[intOf];omega
  ·obtain rfl:i=n:=by omega
   have hRv:R=(decide (1≤i)&&decide (i≤16)):=by
    rw[←vG.o];unfold nO;rw[show(jP zs).length=i by simp[jP,mX.o]];have:(List.range i).all (fun j=>lX i j ((jP zs).getD j mD))=true:=by
     rw[dQ];exact fun j hj=>by rw[qL (by rw[mX.o];exact dF.1 hj)];exact kS.o j (dF.1 hj)
    rw[this,jB]
   subst hRv;by_cases h1:1≤i
   ·have d1:decide ((1:Int)≤i)=true:=by simp;omega
    go_wp2_with fail
    go_ret;exact⟨by simp[h1];omega,hb.o⟩
   ·have d1:decide ((1:Int)≤i)=false:=by simp;omega
    go_wp2_with fail
    go_ret;exact⟨by simp[h1],hb.o⟩
end Go.Proofs.YtceclmpmpldmlaaGreat
namespace Tt
open Go Go.RowKit
structure Mv (g gt:Nat) (sv sv':Value) (w w':World):Prop where
 os:w'.os=w.os
 tape:w'.tape=w.tape
 output:w'.output=w.output
 size:w.heap.size≤w'.heap.size
 block:∀k,k<w.heap.size→k≠g→k≠gt→sv.ownBlock≠some k→w'.heap[k]? =w.heap[k]?
 own:∀k,sv'.ownBlock=some k→sv.ownBlock=some k∨w.heap.size≤k
theorem Mv.trans {g gt:Nat} {sv s1 s2:Value} {w w1 w2:World} (h:Mv g gt sv s1 w w1) (k:Mv g gt s1 s2 w1 w2):Mv g gt sv s2 w w2:=
 ⟨k.os.trans h.os,k.tape.trans h.tape,k.output.trans h.output,bQ h.size k.size,fun i hi h1 h2 h3=>
  (k.block i (cK hi h.size) h1 h2 (fun e=>by rcases h.own i e with e'|e' <;> first|exact h3 e'|omega)).trans (h.block i hi h1 h2 h3),
  fun i e=>by
  rcases k.own i e with e'|e'
  ·exact h.own i e'
  ·exact .inr (bQ h.size e')⟩
theorem Mv.of_below {g gt:Nat} {sv:Value} {w w':World} (h:Below w.heap.size w w'):Mv g gt sv sv w w':=
 ⟨h.os,h.tape,h.output,h.size,fun k hk _ _ _=>h.block k hk,fun _ e=> .inl e⟩
theorem Mv.later {g gt:Nat} {sv s1:Value} {w w1 w2:World} (h:Mv g gt sv s1 w w1) (k:Below w1.heap.size w1 w2):Mv g gt sv s1 w w2:=h.trans (Mv.of_below k)
theorem Mv.a1P {g gt b:Nat} {sv:Value} {w w':World} (h:But b w w') (hb:b=g∨b=gt):Mv g gt sv sv w w':=
 ⟨h.os,h.tape,h.output,h.size,fun k hk h1 h2 _=>h.block k hk (by rintro rfl;rcases hb with rfl|rfl <;> contradiction),fun _ e=> .inl e⟩
theorem Mv.NM {g gt:Nat} {sv sv':Value} {w w':World} (h:w.grownBy w' sv.ownBlock) (ho:∀k,sv'.ownBlock=some k→sv.ownBlock=some k∨w.heap.size≤k):Mv g gt sv sv' w w':=
 ⟨h.os,h.tape,h.output,h.size,fun k hk _ _ h3=>h.block k hk (Ne.symm h3),ho⟩
theorem jW.grown {w w':World} {row:Option Nat} {g:Nat} {T:TypeId} {cs:Array Value} (h:jW w g T cs) (hg:w.grownBy w' row) (oJ:row≠some g):jW w' g T cs:=(hg.block g h.lt (Ne.symm oJ)).trans h
theorem Mv.below {g gt B:Nat} {sv sv':Value} {w w':World} (h:Mv g gt sv sv' w w') (h1:B≤g) (h2:B≤gt) (h3:∀k,sv.ownBlock=some k→B≤k) (h4:B≤w.heap.size):Below B w w':=
 ⟨h.os,h.tape,h.output,h.size,fun k hk=>h.block k aG aG aG (fun e=>by have:=h3 k e;omega)⟩
def Ck (X:Nat→Prop) (B:Nat) (w:World) (v:Value) (E:TypeId) (sz n:Nat) (xs:List Value):Prop:=w.ownsRow B E sz v n xs∧∀k,v.ownBlock=some k→¬X k
structure Kp (X X':Nat→Prop) (B:Nat) (w w':World):Prop where
 size:w.heap.size≤w'.heap.size
 block:∀k,B≤k→k<w.heap.size→¬X k→w'.heap[k]? =w.heap[k]? ∧¬X' k
theorem Ck.keep {X X':Nat→Prop} {B:Nat} {w w':World} {v:Value} {E:TypeId} {sz n:Nat} {xs:List Value} (h:Ck X B w v E sz n xs) (k:Kp X X' B w w'):Ck X' B w' v E sz n xs:=by
 obtain⟨⟨hl,hr⟩,hx⟩:=h;rcases hr with hn|⟨g,cap,cur,rfl,hB,hg,r⟩
 ·exact⟨⟨hl,.inl hn⟩,fun j e=>by obtain⟨rfl,_⟩:=hn;cases e⟩
 ·have kD:g<w.heap.size:=(bW.1 hg).1;have hk:=k.block g hB kD (hx g rfl);exact⟨⟨hl,.inr ⟨g,cap,cur,rfl,hB,hk.1.trans hg,r⟩⟩,fun j e=>by
   have:g=j:=by injection e
   subst this;exact hk.2⟩
theorem Ck.mono {X:Nat→Prop} {B B':Nat} {w:World} {v:Value} {E:TypeId} {sz n:Nat} {xs:List Value} (h:Ck X B w v E sz n xs) (hB:B'≤B):Ck X B' w v E sz n xs:=⟨kI h.1 hB,h.2⟩
theorem Ck.sl {X:Nat→Prop} {B:Nat} {w:World} {a:Option Addr} {n c sz m:Nat} {E:TypeId} {xs:List Value} (h:Ck X B w (.slice a n c) E sz m xs):Sl w a n c sz xs:=(Sl.jU h.1).1
theorem Kp.later {X:Nat→Prop} {B:Nat} {w w':World} (h:Below w.heap.size w w'):Kp X X B w w':=⟨h.size,fun k _ hk hx=>⟨h.block k hk,hx⟩⟩
theorem Kp.same {X X':Nat→Prop} {B:Nat} {w:World} (h:∀k,B≤k→k<w.heap.size→¬X k→¬X' k):Kp X X' B w w:=⟨aZ _,fun k hB hk hx=>⟨rfl,h k hB hk hx⟩⟩
end Tt
namespace Go.Proofs.YtceclmpmpldmlaaGreat
open Go.RowKit Tt
abbrev Tz:=(Int×Int×Int×Option Addr×Nat×Nat)×List Int
abbrev yL:Tz:=((0,0,0,none,0,0), [])
def l8 (z:Tz):rM:=(z.1.1,z.1.2.1,z.1.2.2.1,z.2)
def tzc (z:Tz):List Value:= [.int .i64 z.1.1,.int .i64 z.1.2.1,.int .i64 z.1.2.2.1,.slice z.1.2.2.2.1 z.1.2.2.2.2.1 z.1.2.2.2.2.2]
theorem a95 (z:Tz):(tzc z).length=4:=rfl
theorem bMO (z:Tz):∀u∈tzc z,u.oneCell'=true:=by
 intro u hu;simp only[tzc,cB,dK,or_false]at hu;rcases hu with rfl|rfl|rfl|rfl <;> rfl
def tzd (z:Tz):Value:= .slice z.1.2.2.2.1 z.1.2.2.2.2.1 z.1.2.2.2.2.2
def kX (X:Nat→Prop) (B:Nat) (w:World) (v:Value) (ts:List rM):Prop:=
 ∃zs:List Tz,ts=zs.map l8∧Ck X B w v 74 4 zs.length (fl tzc zs)∧∀z∈zs,Ck X B w (tzd z) 5 1 z.2.length (ints .u8 z.2)
abbrev Dz:=Value×Value×Value
def YR (d:Dz):List Value:= [d.1,d.2.1,d.2.2]
def sbC (x:Int×Dz):List Value:= [.int .i64 x.1,x.2.1,x.2.2.1,x.2.2.2]
theorem mJ (x:Int×Dz):(sbC x).length=4:=rfl
theorem mP (x:Dz):(YR x).length=3:=rfl
def aYF (d:Dz):Prop:=∀u∈YR d,u.oneCell'=true
def qA (X:Nat→Prop) (B:Nat) (w:World):(f:Nat)→jR f→Dz→Prop
 |0,_,_=>False
 |f+1,d,v=>aYF v∧kX X B w v.1 d.1∧
   (∃ds:List (Int×Dz),ds.length=d.2.1.length∧Ck X B w v.2.1 28 4 ds.length (fl sbC ds)∧∀i (h:i<ds.length) (h':i<d.2.1.length),ds[i].1=d.2.1[i].1∧qA X B w f d.2.1[i].2 ds[i].2)∧
   Ck X B w v.2.2 5 1 d.2.2.length (ints .u8 d.2.2)
theorem kX.keep {X X':Nat→Prop} {B:Nat} {w w':World} {v:Value} {ts:List rM} (h:kX X B w v ts) (k:Kp X X' B w w'):kX X' B w' v ts:=by
 obtain⟨zs,h1,h2,h3⟩:=h;exact⟨zs,h1,h2.keep k,fun z hz=>(h3 z hz).keep k⟩
theorem qA.keep {X X':Nat→Prop} {B:Nat} {w w':World} (k:Kp X X' B w w'):∀{f:Nat} {d:jR f} {v:Dz},qA X B w f d v→qA X' B w' f d v
 |0,_,_,h=>h.elim
 |f+1,d,v,h=>by
  obtain⟨h0,h1,⟨ds,h2,h3,h4⟩,h5⟩:=h;exact⟨h0,h1.keep k,⟨ds,h2,h3.keep k,fun i hi xG=>⟨(h4 i hi xG).1,(h4 i hi xG).2.keep k⟩⟩,h5.keep k⟩
theorem kX.mono {X:Nat→Prop} {B B':Nat} {w:World} {v:Value} {ts:List rM} (h:kX X B w v ts) (hB:B'≤B):kX X B' w v ts:=by
 obtain⟨zs,h1,h2,h3⟩:=h;exact⟨zs,h1,h2.mono hB,fun z hz=>(h3 z hz).mono hB⟩
theorem qA.mono {X:Nat→Prop} {B B':Nat} {w:World} (hB:B'≤B):∀{f:Nat} {d:jR f} {v:Dz},qA X B w f d v→qA X B' w f d v
 |0,_,_,h=>h.elim
 |f+1,d,v,h=>by
  obtain⟨h0,h1,⟨ds,h2,h3,h4⟩,h5⟩:=h;exact⟨h0,h1.mono hB,⟨ds,h2,h3.mono hB,fun i hi xG=>⟨(h4 i hi xG).1,(h4 i hi xG).2.mono hB⟩⟩,h5.mono hB⟩
def spC (x:nY):List Value:= [.int .i64 x.1,.int .i64 x.2.1,.int .i64 x.2.2.1,.int .i64 x.2.2.2.1,.int .i64 x.2.2.2.2]
theorem DW (x:nY):(spC x).length=5:=rfl
theorem aK5 (x:nY):∀u∈spC x,u.oneCell'=true:=by
 intro u hu;simp only[spC,cB,dK,or_false]at hu;rcases hu with rfl|rfl|rfl|rfl|rfl <;> rfl
end Go.Proofs.YtceclmpmpldmlaaGreat
namespace Tt
open Go Go.RowKit
section
variable {P:Program} {w:World} {ops:Array Oper} {rest:List Oper} {o:Oper} {a:Act} {Q:Exit→Act→World→Prop}
theorem mU (U7:o.guard=none) (s x:Operand) (t:TypeId)
  (ho:o.op= .call {callee:= .builtin .append,args:=#[s,x],argTypes:=#[t,t]})
  (base:Nat) (e:TypeId) (i:TypeInfo) (z:Value) (size bytes:Nat) (ht:P.underlying t=some (.slice e)) (hi:P.info? e=some i) (hz:i.zero=some z)
  (hsize:i.size=size) (rU:i.bytes=bytes) (WU:z.cells.size=size) (rX:0<size)
  (v:Value) (n:Nat) (xs:List Value) (hs:a.eval s=v) (kY:w.ownsRow base e size v n xs)
  (xa:Addr) (m c:Nat) (news:List Value) (hx:a.eval x= .slice (some xa) m c) (hS:Sl w (some xa) m c size news) (h1:∀u∈news,u.oneCell'=true)
  (hbytes:(n+m)*bytes≤140737488355328) (pW:0<bytes) (hbase:base≤w.heap.size)
  (h:∀(a':Option Addr) (c':Nat) (w':World),w'.ownsRow base e size (.slice a' (n+m) c') (n+m) (xs++news)→w.grownBy w' v.ownBlock→(∀k,(Value.slice a' (n+m) c').ownBlock=some k→v.ownBlock=some k∨w.heap.size≤k)→wpList P ops Q rest (a.put o.dst (.slice a' (n+m) c')) w'):wpList P ops Q (o::rest) a w:=by
 have h63:n+m≤maxLen:=by
  have:(n+m)*1≤(n+m)*bytes:=Nat.mul_le_mul_left _ pW;unfold maxLen;omega
 have xE:∀(B:Nat) (v':Value) (w':World),w'.ownsRow B e size v' (n+m) (xs++news)→∃(a':Option Addr) (c':Nat),v'= .slice a' (n+m) c':=by
  intro B v' w' hw;rcases hw.2 with ⟨rfl,h0⟩|⟨g,cap,cur,rfl,_⟩
  ·exact⟨none,0,by rw[h0]⟩
  ·exact⟨_,_,rfl⟩
 have aXI:∀j u,news[j]? =some u→w.cell? (xa.add j)=some u:=fun j u hu=>by
  have hj:j<news.length:=(dO.1 hu).1;have hm:0<m:=by
   rcases fT m with h0|h0
   ·rw[hS.len,h0]at hj;omega
   ·exact h0
  obtain⟨b,off,e1,_,hc⟩:=hS.lies 0 hm;injection e1 with e1;subst e1;rw[fH];exact hc j u hu
 have grow:∀(ao:Option Addr) (cap:Nat),v= .slice ao n cap→cap<n+m→wpList P ops Q (o::rest) a w:=fun ao cap hv rY=>by
  subst hv;have nL:=(Sl.jU kY).1;refine wpList_append_grows w U7 s x t ho e i z size bytes ht hi hz hsize rU WU rX ao n cap xs hs (fun hn=>?_) nL.len (fun b hb j u hj=>?_) xa m c news hx hS.len aXI h1 rY h63 hbytes ?_
  ·subst hn;have:=nL.fit rfl;have:=nL.le;exact⟨by omega,by omega⟩
  ·subst hb;have hj2:j<xs.length:=(dO.1 hj).1;have hn0:0<n:=by
    rcases fT n with h0|h0
    ·rw[nL.len,h0]at hj2;omega
    ·exact h0
   obtain⟨b',off,e1,_,hc⟩:=nL.lies 0 hn0;injection e1 with e1;subst e1;rw[fH];exact hc j u hj
  ·intro v' w' h2 h3;obtain⟨a',c',rfl⟩:=xE _ v' w' h2;refine h _ _ w' (kI h2 hbase) ⟨h3.os,h3.tape,h3.output,h3.size,fun k hk _=>h3.block k hk (by simp)⟩ (fun k hk=> .inr (h2.lt k hk).1)
 rcases kY.2 with ⟨hv,hn⟩|⟨g,cap,cur,hv,_⟩
 ·by_cases hm:0<m
  ·exact grow none 0 (by rw[hv,hn]) aG
  ·subst hv hn;have ZM:m=0:=by omega
   have hn0:news= []:=dN (by rw[hS.len,ZM];simp);have hx0:xs= []:=dN (by rw[kY.1];simp);exact wpList_append_own w U7 s x t ho base e i z size bytes ht hi hz hsize rU WU rX (.slice none 0 0) 0 xs hs kY xa m c news hx hS.len aXI h1 h63 hbytes hbase fun v' w' h2 h3 h4=>by
    obtain rfl:=h4.2 ⟨rfl,ZM⟩;have:=h none 0 w' (by rw[ZM];rw[ZM]at h2;exact h2) h3 (fun k hk=>by cases hk);rw[ZM]at this;exact this
 ·by_cases OP:n+m≤cap
  ·subst hv;exact wpList_append_fits w U7 s x t ho base e i size ht hi hsize g n cap xs hs kY xa m c news hx hS.len aXI h1 OP fun w' h2 h3=>h _ _ w' h2 h3 (fun k hk=> .inl hk)
  ·exact grow _ cap hv aG
end
end Tt
namespace Go.Proofs.YtceclmpmpldmlaaGreat
open Go.RowKit Tt
theorem bEG:(Tryz.prog.info? 50).map (fun i=>(i.size,i.bytes))=some (5,40):=by kernel_rfl
theorem bEH:(Tryz.prog.info? 50).map (fun i=>i.zero.map (fun z=>z.cells.size))=some (some 5):=by kernel_rfl
theorem wL {T:TypeId} {sz MG:Nat} (h1:(Tryz.prog.info? T).map (fun i=>(i.size,i.bytes))=some (sz,MG)) (h2:(Tryz.prog.info? T).map (fun i=>i.zero.map (fun z=>z.cells.size))=some (some sz)):
  ∃(i:TypeInfo) (z:Value),Tryz.prog.info? T=some i∧i.zero=some z∧i.size=sz∧i.bytes=MG∧z.cells.size=sz:=by
 cases hi:Tryz.prog.info? T with
 |none=>rw[hi]at h1;cases h1
 |some i=>
  rw[hi]at h1 h2;simp only[iE,fG,fQ]at h1 h2;cases hz:i.zero with
  |none=>rw[hz]at h2;cases h2
  |some z=>
   rw[hz]at h2;simp only[iE,fG]at h2;exact⟨i,z,rfl,hz,h1.1,h1.2,h2⟩
theorem UU (ta sa ba:Option Addr) (tn tc sn sc bn bc:Nat) (w:World) (h1:tn<1000000) (h2:sn<1000000):
  Calls Tryz.prog 15 #[.agg #[.slice ta tn tc,.slice sa sn sc,.slice ba bn bc]] w fun e w'=>e= .returned (.int .i64 (qM tn sn bn:Nat))∧Below w.heap.size w w':=by
 have sS:IntKind.i64.wrap ((tn:Int)+sn)=(tn:Int)+sn:=by rw[bF];omega
 have MQ:IntKind.i64.wrap ((tn:Int)+sn+2)=(tn:Int)+sn+2:=by rw[bF];omega
 unfold qM;have hb:=aD w (.cells #[.slice ta tn tc,.slice sa sn sc,.slice ba bn bc] 26);have mO:=aA hb;clear hb;by_cases h:0<bn
 ·rw[if_pos h];have d:decide ((0:Int)<bn)=true:=by simp;omega
  go_enter Tryz.func15,Tryz.ntmps15;go_wp2_with fail
  go_ret;exact⟨KO aG,mO.o⟩
 ·rw[if_neg h];have d:decide ((0:Int)<bn)=false:=by simp;omega
  go_enter Tryz.func15,Tryz.ntmps15;go_wp2_with fail
  go_ret;exact⟨KO aG,mO.o⟩
theorem NN (ta sa ba:Option Addr) (tn tc sn sc bn bc:Nat) (w:World) (h1:tn<1000000) (h2:sn<1000000):
  Calls Tryz.prog 131 #[.agg #[.slice ta tn tc,.slice sa sn sc,.slice ba bn bc]] w fun e w'=>e= .returned (.int .i64 (qM tn sn bn:Nat))∧Below w.heap.size w w':=by
 have sS:IntKind.i64.wrap ((tn:Int)+sn)=(tn:Int)+sn:=by rw[bF];omega
 have MQ:IntKind.i64.wrap ((tn:Int)+sn+2)=(tn:Int)+sn+2:=by rw[bF];omega
 unfold qM;have hb:=aD w (.cells #[.slice ta tn tc,.slice sa sn sc,.slice ba bn bc] 26);have mO:=aA hb;clear hb;by_cases h:0<bn
 ·rw[if_pos h];have d:decide ((0:Int)<bn)=true:=by simp;omega
  go_enter Tryz.func131,Tryz.ntmps131;go_wp2_with fail
  go_ret;exact⟨KO aG,mO.o⟩
 ·rw[if_neg h];have d:decide ((0:Int)<bn)=false:=by simp;omega
  go_enter Tryz.func131,Tryz.ntmps131;go_wp2_with fail
  go_ret;exact⟨KO aG,mO.o⟩
theorem aMV (n:Int) (w:World) (h0:0≤n) (h1:n<4611686018427387904):Calls Tryz.prog 239 #[.int .i64 n] w fun e w'=>e= .returned (.int .i64 (vK n))∧w=w':=by
 have hm:Int.tmod n 2=n % 2:=gH aG;have hw:=aB (n+1) aG;unfold vK;by_cases h:n % 2=0
 ·have d:(n % 2 != 0)=false:=by simp[h]
  go_enter Tryz.func239,Tryz.ntmps239;go_wp2_with fail
  go_ret;exact⟨KO aG,rfl⟩
 ·have d:(n % 2 != 0)=true:=by simp;omega
  go_enter Tryz.func239,Tryz.ntmps239;go_wp2_with fail
  go_ret;exact⟨KO aG,rfl⟩
theorem aQU (n:Nat) (w:World) (h1:n<4611686018427387904):Calls Tryz.prog 160 #[.int .i64 n] w fun e w'=>e= .returned (.int .i64 (vK n))∧w=w':=by
 have ha:bits .and .i64 (n:Int) 1=((n % 2:Nat):Int):=by
  have:=aY7 n 1 aG aG;rw[Nat.and_one_is_mod]at this;exact this
 have hw:IntKind.i64.wrap ((n:Int)+(n % 2:Nat))=vK n:=by rw[bF];unfold vK;omega
 go_enter Tryz.func160,Tryz.ntmps160;go_wp2_with fail
 go_ret;exact⟨rfl,rfl⟩
theorem a7M {l:List nY} {n:Nat} (hl:l.length=n+1):mM l=(l.getD n (0,0,0,0,0)).2.2.2.1+(l.getD n (0,0,0,0,0)).2.2.2.2:=by
 unfold mM;rw[List.getLast?_eq_getElem?,hl,Nat.add_sub_cancel,bH,bI aG];rfl
theorem UW (a:Option Addr) (n c:Nat) (l:List nY) (w:World) (hs:Sl w a n c 5 (fl spC l)) (h0:0≤mM l) (h1:mM l<4611686018427387904):
  Calls Tryz.prog 187 #[.slice a n c] w fun e w'=>e= .returned (.int .i64 (mM l))∧Below w.heap.size w w':=by
 have hl:=hs.rP DW aH;have hm:=hs.max;have BX:=hs.le;rcases n with _|n
 ·obtain rfl:l= []:=dN hl;have d:((0:Nat):Int)=0:=rfl;go_enter Tryz.func187,Tryz.ntmps187;go_wp2_with fail
  go_ret;exact⟨rfl,aY _ _⟩
 ·have he:=a7M hl;obtain⟨b,o,rfl,hb,fe⟩:=hs.elem DW aH (0,0,0,0,0) (show n<n+1 by omega);have f3:=fe 3 _ rfl;have f4:=fe 4 _ rfl;generalize (l.getD n (0,0,0,0,0)).2.2.2.1=p3 at*;generalize (l.getD n (0,0,0,0,0)).2.2.2.2=p4 at*;generalize mM l=r at*;have hw:IntKind.i64.wrap (p3+p4)=r:=by rw[bF];omega
  have sS:IntKind.i64.wrap (((n+1:Nat):Int) - 1)=n:=by rw[bF];omega
  have d:((((n+1:Nat):Int))==0)=false:=by simp;omega
  have d1:(0:Int)≤(n:Int):=by omega
  have d2:(n:Int)<((n+1:Nat):Int):=by omega
  clear fe hs;obtain⟨he',yI⟩:=aJ he hl;clear he hl;go_enter Tryz.func187,Tryz.ntmps187;go_wp2_with fail
  go_quiet (fail)
  go_wp2;go_ret;exact⟨rfl,(Qt.refl w).step _|>.below _⟩
end Go.Proofs.YtceclmpmpldmlaaGreat
namespace Tt
open Go Go.RowKit
structure Gr (v v':Value) (w w':World):Prop where
 os:w'.os=w.os
 tape:w'.tape=w.tape
 output:w'.output=w.output
 size:w.heap.size≤w'.heap.size
 block:∀k,k<w.heap.size→v.ownBlock≠some k→w'.heap[k]? =w.heap[k]?
 own:∀k,v'.ownBlock=some k→v.ownBlock=some k∨w.heap.size≤k
theorem Gr.trans {v v1 v2:Value} {w w1 w2:World} (h:Gr v v1 w w1) (k:Gr v1 v2 w1 w2):Gr v v2 w w2:=
 ⟨k.os.trans h.os,k.tape.trans h.tape,k.output.trans h.output,bQ h.size k.size,fun i hi h1=>
  (k.block i (cK hi h.size) (fun e=>by rcases h.own i e with e'|e' <;> first|exact h1 e'|omega)).trans (h.block i hi h1),
  fun i e=>by
  rcases k.own i e with e'|e'
  ·exact h.own i e'
  ·exact .inr (bQ h.size e')⟩
theorem Gr.of_below {v:Value} {w w':World} (h:Below w.heap.size w w'):Gr v v w w':=
 ⟨h.os,h.tape,h.output,h.size,fun k hk _=>h.block k hk,fun _ e=> .inl e⟩
theorem Gr.NM {v v':Value} {w w':World} (h:w.grownBy w' v.ownBlock) (ho:∀k,v'.ownBlock=some k→v.ownBlock=some k∨w.heap.size≤k):Gr v v' w w':=
 ⟨h.os,h.tape,h.output,h.size,fun k hk h3=>h.block k hk (Ne.symm h3),ho⟩
theorem Gr.below {v v':Value} {B:Nat} {w w':World} (h:Gr v v' w w') (h3:∀k,v.ownBlock=some k→B≤k) (h4:B≤w.heap.size):Below B w w':=
 ⟨h.os,h.tape,h.output,h.size,fun k hk=>h.block k aG (fun e=>by have:=h3 k e;omega)⟩
theorem jW.gr {v v':Value} {w w':World} {g:Nat} {T:TypeId} {cs:Array Value} (h:jW w g T cs) (hg:Gr v v' w w') (oJ:v.ownBlock≠some g):jW w' g T cs:=(hg.block g h.lt oJ).trans h
end Tt
namespace Go.Proofs.YtceclmpmpldmlaaGreat
open Go.RowKit Tt
theorem JN {w:World} {B:Nat} {E:TypeId} {sz:Nat} {v:Value} {n:Nat} {xs:List Value} (h:w.ownsRow B E sz v n xs):∃a c,v= .slice a n c:=by
 rcases h.2 with ⟨rfl,h0⟩|⟨g,cap,cur,rfl,_⟩
 ·exact⟨none,0,by rw[h0]⟩
 ·exact⟨_,_,rfl⟩
def Spr (B:Nat) (w:World) (v:Value) (l:List nY):Prop:=w.ownsRow B 50 5 v l.length (fl spC l)
theorem P5 (B:Nat) (v:Value) (l:List nY) (x0 x1 x2 x4:Int) (w:World) (ho:Spr B w v l) (hB:B≤w.heap.size) (h0:0≤mM l) (h1:mM l<4611686018427387904) (hl:l.length<1000000):
  Calls Tryz.prog 184 #[v,.int .i64 x0,.int .i64 x1,.int .i64 x2,.int .i64 x4] w fun e w'=>∃v',e= .returned v'∧Spr B w' v' (pG l x0 x1 x2 x4)∧Gr v v' w w':=by
 obtain⟨i0,z0,xH,hz,oG,qK,QG⟩:=wL bEG bEH;unfold Spr at*;obtain⟨a,c,rfl⟩:=JN ho;have nL:=(Sl.jU ho).1;have hE:=UW a l.length c l w nL h0 h1;have hV:=fun W=>aMV (mM l) W h0 h1;unfold pG;rw[BV,cO];simp only[dP,iG,dU];generalize vK (mM l)=q at*;generalize mM l=p at*;obtain⟨J8,JA,hV',tX⟩:=aL ho hE hV nL;clear ho hE hV nL;go_enter Tryz.func184,Tryz.ntmps184;go_wp2_with fail
 refine JA.o.mono ?_;rintro e w1 ⟨rfl,jY⟩;have kR:=aA jY;clear jY;go_wp2_with fail
 refine(hV'.o _).mono ?_;rintro e w2 ⟨rfl,rfl⟩;have l9:=aD w1 (.cells #[.int .i64 x0,.int .i64 x1,.int .i64 x2,.int .i64 q,.int .i64 x4] 50);have vS:=kC (kC J8.o kR.o) l9;have AJ:Sl (w1.alloc (.cells #[.int .i64 x0,.int .i64 x1,.int .i64 x2,.int .i64 q,.int .i64 x4] 50)) (some ⟨w1.heap.size,0,none⟩) 1 1 5 (spC (x0,x1,x2,q,x4)):=Sl.new w1 50 5 1 #[.int .i64 x0,.int .i64 x1,.int .i64 x2,.int .i64 q,.int .i64 x4] (0,0) aG rfl;have jT:=kR.o.tm l9;have hB2:=bQ hB jT.size;obtain⟨oL,Q6,GZ,mE⟩:=aL l9 vS AJ jT;clear l9 vS AJ jT;go_wp2_with (at_builtin;refine mU rfl _ _ 43 rfl B 50 i0 z0 5 40 Tryz.underlying43 xH hz oG qK QG aH (.slice a l.length c) l.length _ rfl Q6.o ⟨w1.heap.size,0,none⟩ 1 1 (spC (x0,x1,x2,q,x4)) rfl GZ.o (aK5 _) aG aH hB2 ?_;intro a8 c8 w8 ob hg8 NP;obtain⟨Ob,Hg8,Ho8⟩:=aK ob hg8 NP;clear ob hg8 NP)
 go_ret;exact⟨_,rfl,Ob.o,(Gr.of_below mE.o).trans (Gr.NM Hg8.o Ho8.o)⟩
