import Derived.Test.YtceclmpmpldmlaaGreatCz32
set_option linter.unusedSimpArgs false
set_option linter.unusedVariables false
namespace Go.Proofs.YtceclmpmpldmlaaGreat
open Go.RowKit Tt
theorem RO {z:List Int} (hb:mW z) (p:Int) (size:Nat) (o:Int):0≤kZ z p size o∧kZ z p size o<256 ^ size:=by
 unfold kZ;split
 ·rename_i h;unfold VL at h;simp only[bF,decide_eq_true_eq]at h;have hl:=XH (z:=z) (at_:=p.toNat) (size:=size) (order:=o) (by omega);have hby:=XI hb p.toNat size o;have:=OZ hby (j:=size) (by rw[hl];exact aU _);rw[bP (by rw[hl];exact aU _)]at this;rw[bU];exact this
 ·have:(0:Int)<256 ^ size:=Int.pow_pos (by decide);omega
theorem U9:∀{l:List mK} {i:Nat},i+1<l.length→¬(l.getD i (0,0,0,0)).1<(l.getD (i+1) (0,0,0,0)).1→wT l=false
 | [],_,h,_=>by simp at h
 | [_],_,h,_=>by simp at h
 |x::y::r,0,_,h=>by
  simp only[wT];rw[decide_eq_false (by simpa using h)];rfl
 |x::y::r,i+1,h,h2=>by
  simp only[wT];rw[U9 (l:=y::r) (i:=i) (by simpa using h) (by simpa using h2)];simp
theorem a09:∀{l:List mK},(∀i,i+1<l.length→(l.getD i (0,0,0,0)).1<(l.getD (i+1) (0,0,0,0)).1)→wT l=true
 | [],_=>rfl
 | [_],_=>rfl
 |x::y::r,h=>by
  simp only[wT];rw[decide_eq_true (by simpa using h 0 (by simp)),a09 (l:=y::r) (fun i hi=>by simpa using h (i+1) (by simpa using hi))];rfl
theorem UA (z:List Int) (o p:Int) (k:Nat):(uU z o p k).length=k:=by simp[uU]
theorem aLW {z:List Int} {o p:Int} {k i:Nat} (h:i<k):(uU z o p k).getD i (0,0,0,0)=J9 z o (p+2+12*i):=by
 rw[jI (by rw[UA];exact h)];simp[uU]
theorem xI (x:mK):∀u∈mY x,u.oneCell'=true:=by
 intro u hu;simp only[mY,bQ,eD,or_false]at hu;rcases hu with rfl|rfl|rfl|rfl <;> rfl
theorem aRY:(Tryz.prog.info? 55).map (fun i=>(i.size,i.bytes))=some (4,32):=by kernel_rfl
theorem aI7:(Tryz.prog.info? 55).map (fun i=>i.zero.map (fun z=>z.cells.size))=some (some 4):=by kernel_rfl
theorem MB {n:Nat} {x:lK} {s s':St} (h:mH n x s= .ok s'):PE n x=true:=by
 unfold mH at h;split at h
 ·rename_i h1;exact h1
 ·cases h
def b7V (w:World) (l:List mK) (wG:Value) (e:Ending) (w':World):Prop:=
 ∃a m c,e= .returned (.slice a m c)∧Ck (fun k=>wG.ownBlock=some k) w.heap.size w' (.slice a m c) 55 4 l.length (fl mY l)
set_option maxRecDepth 20000 in
set_option maxHeartbeats 8000000 in
theorem aBJ (K:WkS) (t:WkT K) (ho:K.o=1∨K.o=2) (s:St) (sv:Value) (tk:List Nat) (w:World) (p no:Int) (hok:vL K s sv tk w) (h0:0≤p) (h1:p≤4294967295) (hsm:s.jQ.length≤4294967295):
  Calls Tryz.prog 211 #[.pointer (some ⟨K.g,0,none⟩),.int .i64 p,.int .i64 no] w (V6 K sv w (lM K.z K.o p no s) (b7V w)):=by
 have hn:=t.n1;have hzl:=t.hs.nV;obtain⟨R,hR⟩:=aC (lM K.z K.o p no s);rw[hR];unfold lM at hR;rw[hzl]at hR;have hRm:=fun W=>XO p 2 K.n W (by omega) (by omega);have hNm:=fun W (h:Sl W K.a K.n K.c 1 (ints .u8 K.z))=>FL K.a K.n K.c K.z K.o p 2 W h t.SI;have htm:Int.tmod p 2=p % 2:=iC h0;have HB0:=aA (aW w.heap.size w);have c0:w.cell? ⟨K.g,0,none⟩=some (.slice K.a K.n K.c):=hok.blk.cell rfl;have c1:w.cell? ⟨K.g,1,none⟩=some (.int .i64 K.o):=hok.blk.cell rfl;obtain⟨hok',t',a6Y,aY9,mV⟩:=aI hok t hRm hNm hzl;clear hok t hRm hNm hzl;by_cases hev:p % 2=0
 case neg=>
  have d1:(p % 2==0)=false:=by simp[hev]
  obtain rfl:R= .error 4:=by rw[←hR,decide_eq_false hev];simp
  clear hR hev;go_enter Tryz.func211,Tryz.ntmps211;go_wp2_with (go_at_call 143;refine(kI _ _ _).mono ?_;rintro e w3 ⟨rfl,rfl⟩;simp only[kV,kW])
  exact⟨rfl,rfl,sv,Mv.of_below HB0.o⟩
 have d1:(p % 2==0)=true:=by simp[hev]
 rw[decide_eq_true hev,dH]at hR;obtain⟨r,hr⟩:=aC (vX p 2 K.n);rw[hr]at hR a6Y;cases r
 case false=>
  obtain rfl:R= .error 4:=by rw[←hR];simp
  clear hR hev hr;go_enter Tryz.func211,Tryz.ntmps211;go_wp2_with (first|(go_at_call 111;refine(a6Y.o _).mono ?_;rintro e w3 ⟨rfl,rfl⟩)|(go_at_call 143;refine(kI _ _ _).mono ?_;rintro e w3 ⟨rfl,rfl⟩;simp only[kV,kW]))
  exact⟨rfl,rfl,sv,Mv.of_below HB0.o⟩
 rw[if_pos rfl]at hR;clear hev hr;have hkv:=RO t'.o.SI p 2 K.o;rw[show((2:Nat):Int)=2 from rfl]at hkv;obtain⟨k,hk⟩:∃k:Nat,kZ K.z p 2 K.o=k:=⟨(kZ K.z p 2 K.o).toNat,by omega⟩;rw[hk]at hR hkv;rw[hk]at aY9;have hk6:k<65536:=by have h:=hkv.2;rw[show(256:Int) ^ 2=65536 by decide]at h;omega
 clear hkv;rw[bU]at hR;by_cases hk0:0<(k:Int)
 case neg=>
  have d2:decide (0<(k:Int))=false:=by simp;omega
  have d3:decide (0<k)=false:=by simp;omega
  obtain rfl:R= .error 2:=by rw[←hR,if_neg hk0]
  clear hR hk0;go_enter Tryz.func211,Tryz.ntmps211;go_wp2_with (first|(go_at_call 111;refine(a6Y.o _).mono ?_;rintro e w3 ⟨rfl,rfl⟩)|(go_at_call 209;refine(aY9.o _ (hok'.o.WL t'.o)).mono ?_;rintro e w4 ⟨rfl,hb4⟩;replace HB0:=aA hb4;clear hb4)|(go_at_call 143;refine(kI _ _ _).mono ?_;rintro e w3 ⟨rfl,rfl⟩;simp only[kV,kW]))
  exact⟨rfl,rfl,sv,Mv.of_below HB0.o⟩
 have d2:decide (0<(k:Int))=true:=by simp;omega
 have d3:decide (0<k)=true:=by simp;omega
 rw[if_pos hk0]at hR;go_enter Tryz.func211,Tryz.ntmps211;go_wp2_with (first|(go_at_call 111;refine(a6Y.o _).mono ?_;rintro e w3 ⟨rfl,rfl⟩)|(go_at_call 209;refine(aY9.o _ (hok'.o.WL t'.o)).mono ?_;rintro e w4 ⟨rfl,hb4⟩;replace HB0:=aA hb4;clear hb4)|(go_at_call 143;refine(kI _ _ _).mono ?_;rintro e w3 ⟨rfl,rfl⟩;simp only[kV,kW]))
 obtain⟨P,rfl⟩:∃P:Nat,p=P:=⟨p.toNat,by omega⟩;have aBK:=hok'.o.later HB0.o;have HT:=KR K t'.o s sv tk w4 (2,no,0,(P:Int),6+12*(k:Int)) aBK P (6+12*k) rfl (show(6+12*(k:Int))=((6+12*k:Nat):Int) by omega) (by omega) (by omega) hsm;obtain⟨T,hT⟩:=aC (mH K.n (2,no,0,(P:Int),6+12*(k:Int)) s);rw[hT]at HT hR;clear aBK c0 c1 aY9 a6Y;have HT':=aA HT;clear HT;refine HT'.o.mono ?_;rintro e w5 hpost;cases T with
 |error x=>
  obtain rfl:R= .error x:=by rw[←hR]
  obtain⟨rfl,wG,hmv⟩:=hpost;clear hR hT HT';have BQ:=aA hmv;clear hmv;go_wp2_with fail
  exact⟨rfl,rfl,wG,(Mv.of_below HB0.o).trans BQ.o⟩
 |ok s1=>
  obtain⟨sv1,tk1,hok1,a6Z,rfl⟩:=hpost;have hfit:P+6+12*k≤K.n:=by
   have:=MB hT;unfold PE vX at this;simp at this;omega
  simp only at hR;have hEl:=UA K.z K.o P k;have hEg:=fun i (h:i<k)=>aLW (z:=K.z) (o:=K.o) (p:=(P:Int)) h;obtain⟨E,hE⟩:=aC (uU K.z K.o P k);rw[hE]at hR hEl hEg;obtain⟨i0,z0,hi0,hz,hz1,hz2,hz3⟩:=M9 aRY aI7;have hw5:w.heap.size≤w5.heap.size:=bK HB0.o.size a6Z.size;have a0A:Mv K.g K.gt sv sv1 w w5:=(Mv.of_below HB0.o).trans a6Z;clear hE hT HT' a6Z HB0;obtain⟨hR',O6,bO2,AB,V7⟩:=aI hR hEl hEg hok1 a0A;clear hR hEl hEg hok1 a0A;go_wp2_with fail
  go_loopw [8,44] (fun ov iv wr=>∃(i:Nat) (a:Option Addr) (c:Nat),i≤k∧iv= .int .i64 i∧ov= .slice a i c∧Hid (wr.ownsRow w5.heap.size 55 4 (.slice a i c) i (fl mY (E.take i)))∧Hid (∀j,j+1<i→(E.getD j (0,0,0,0)).1<(E.getD (j+1) (0,0,0,0)).1)∧Hid (Below w5.heap.size w5 wr)) (fun _ iv _=>k - (intOf iv).toNat)
  case atStart=>exact⟨0,none,0,by omega,rfl,rfl,aA (kC _ _ _ _),aA (fun j hj=>by omega),aA (aW _ _)⟩
  case round=>
   obtain⟨i,a,c,hi,rfl,rfl,hown,hris,hb⟩:=hrel;by_cases hlt:i<k
   ·have hokr:=AB.o.later hb.o;obtain⟨Ty,f,hne,hbel,jH⟩:=jR wr;have q0:∀s,(f s).cell? ⟨K.g,0,none⟩=some (.slice K.a K.n K.c):=fun s=>(jJ.late hokr.blk (hbel s)).cell rfl;have q1:∀s,(f s).cell? ⟨K.g,1,none⟩=some (.int .i64 K.o):=fun s=>(jJ.late hokr.blk (hbel s)).cell rfl;obtain⟨HS,HD⟩:=aF (jH _ ((aW _ _).drew)) ((aW wr.heap.size wr).drew);have hwm:IntKind.i64.wrap (12*(i:Int))=12*i:=by rw[aY];omega
    have hwp:IntKind.i64.wrap ((P:Int)+2)=P+2:=by rw[aY];omega
    have hwq:IntKind.i64.wrap ((P:Int)+2+12*i)=P+2+12*i:=by rw[aY];omega
    have hEi:=bO2.o i hlt;have HRd:=fun W (h:Below wr.heap.size wr W)=>aJE K.a K.n K.c K.z K.o ((P:Int)+2+12*i) W ((hokr.WL t'.o).mono h) t'.o.SI ho (by omega) (by omega) hn;rw[←hEi]at HRd;obtain⟨x,hx⟩:=aC (E.getD i (0,0,0,0));rw[hx]at HRd;unfold a4I at HRd;obtain⟨x1,x2,x3,x4⟩:=x;simp only at HRd;clear hEi;obtain⟨jG,jA,bSM,bFI,hx'⟩:=aI hbel jH hokr HRd hx;clear hbel jH hokr HRd hx;go_wp2_with fail
    refine jU (S:=fun W=>∃s,W=f s) (by kernel_rfl) 22 rfl ?_;refine jF [0,1,2,3,4,5,6,7,8,9,10,11,12,13,14] 7 (by kernel_rfl) (fun d _ _ _ _ h=>by cases d <;> exact h) (by kernel_rfl) (by kernel_rfl) (by kernel_rfl) HS.o ?_;simp only[jB,aS,aT,aQ,aR];iterate 15 (go_big_quiet_step (fail))
    refine wpQuiet_nil ?_;refine qX 15 19 6 (by kernel_rfl) (by kernel_rfl) ?_ ?_;all_goals simp only[jB,aS,aT,aQ,aR]
    case refine_1=>
     go_wp2_with fail
     refine(bFI.o _ HD.o).mono ?_;rintro e w6 ⟨rfl,hb6⟩;have hb6:=HD.o.tm hb6;obtain⟨HS,G7⟩:=aF (jA.o _ hb6) hb6;clear hb6;go_wp2_with fail
     first|refine Mid.mk ⟨HS.o,?_⟩|refine Mid.mk ?_
     refine jF [16,17,18] 3 (by kernel_rfl) (fun d _ _ _ _ h=>by cases d <;> exact h) (by kernel_rfl) (by kernel_rfl) (by kernel_rfl) HS.o ?_;simp only[jB,aS,aT,aQ,aR];iterate 3 (go_big_quiet_step (fail))
     refine wpQuiet_nil ?_;refine jC 19 2 (by kernel_rfl) (by kernel_rfl) ?_;simp only[jB,aS,aT,aQ,aR];go_wp2_with fail
     have b7:=jJ.new w6 55 #[.int .i64 0,.int .i64 0,.int .i64 0,.int .i64 0];have rP:=G7.o.alloc G7.o.size (.cells #[.int .i64 0,.int .i64 0,.int .i64 0,.int .i64 0] 55);have hg7:wr.heap.size≤w6.heap.size:=G7.o.size;generalize w6.alloc (.cells #[.int .i64 0,.int .i64 0,.int .i64 0,.int .i64 0] 55)=w7 at*;generalize w6.heap.size=g7 at*;have HS:=aA (jA.o _ rP);clear G7;obtain⟨uW,sS⟩:=aF b7 rP;clear b7 rP;first|refine Mid.mk ⟨HS.o,?_⟩|refine Mid.mk ?_
     refine jC 20 1 (by kernel_rfl) (by kernel_rfl) ?_;simp only[jB,aS,aT,aQ,aR];have p0:w7.cell? ⟨g7,0,none⟩=some (.int .i64 0):=uW.o.cell rfl;have p1:w7.cell? ⟨g7,1,none⟩=some (.int .i64 0):=uW.o.cell rfl;have p2:w7.cell? ⟨g7,2,none⟩=some (.int .i64 0):=uW.o.cell rfl;have p3:w7.cell? ⟨g7,3,none⟩=some (.int .i64 0):=uW.o.cell rfl;have y0:=uW.o.frozen 0;have y1:=uW.o.frozen 1;have y2:=uW.o.frozen 2;have y3:=uW.o.frozen 3;go_wp2_with fail
     have b8:=uW.o.XD (.int .i64 x1) (.int .i64 x2) (.int .i64 x3) (.int .i64 x4);have oV:=BL sS.o hg7 (.int .i64 x1) (.int .i64 x2) (.int .i64 x3) (.int .i64 x4);have HS:=aA (jA.o _ oV);refine Mid.mk ⟨HS.o,?_⟩;refine jF [21] 0 (by kernel_rfl) (fun d _ _ _ _ h=>by cases d <;> exact h) (by kernel_rfl) (by kernel_rfl) (by kernel_rfl) HS.o ?_;simp only[jB,aS,aT,aQ,aR];iterate 1 (go_big_quiet_step (fail))
     refine wpQuiet_nil ?_;refine jK (by kernel_rfl) ?_;clear p0 p1 p2 p3 y0 y1 y2 y3 uW sS q0 q1;generalize ((((w7.setCell ⟨g7,0,none⟩ (.int .i64 x1)).setCell ⟨g7,1,none⟩ (.int .i64 x2)).setCell ⟨g7,2,none⟩ (.int .i64 x3)).setCell ⟨g7,3,none⟩ (.int .i64 x4))=w8 at*;have vF:=jY hown.o oV;have OB:=hb.o.tm oV;have b8d:jJ w8.drew g7 55 #[.int .i64 x1,.int .i64 x2,.int .i64 x3,.int .i64 x4]:=b8;obtain⟨Ty2,f2,hne2,FN,sJ⟩:=jR w8;have HS:=aA (sJ _ ((aW _ _).drew));have q0:∀s,(f2 s).cell? ⟨g7,0,none⟩=some (.int .i64 x1):=fun s=>(jJ.late b8 (FN s)).cell rfl;clear b8;by_cases hi0:i=0
     ·have d5:((i:Int)==0)=true:=by simp[hi0]
      have KS:∀j,j+1<i+1→(E.getD j (0,0,0,0)).1<(E.getD (j+1) (0,0,0,0)).1:=fun j hj=>by omega
      clear hi0;obtain⟨yG,qK,CO,aFW,yK,OM⟩:=aJ vF OB b8d FN sJ KS;clear vF OB b8d FN sJ KS;go_wp2_with fail
      refine jU (S:=fun W=>∃s,W=f2 s) (by kernel_rfl) 14 rfl ?_;refine jF [0,1,2,3,4,5,6,7,8,9,10,11,12] 1 (by kernel_rfl) (fun d _ _ _ _ h=>by cases d <;> exact h) (by kernel_rfl) (by kernel_rfl) (by kernel_rfl) HS.o ?_;simp only[jB,aS,aT,aQ,aR];iterate 13 (go_big_quiet_step (fail))
      refine wpQuiet_nil ?_;refine jC 13 0 (by kernel_rfl) (by kernel_rfl) ?_;simp only[jB,aS,aT,aQ,aR];go_wp2_with fail
      refine(FM _ _).mono ?_;rintro e w9 ⟨rfl,rfl⟩;go_wp2_with fail
      first|refine Mid.mk ⟨HS.o,?_⟩|refine Mid.mk ?_
      refine jK (by kernel_rfl) ?_;have tN:w8.drew.ownsRow w5.heap.size 55 4 _ i (fl mY (E.take i)):=yG.o;have rO:=qK.o.trans (((aW w8.heap.size w8).drew).mono qK.o.size);clear q0;try clear q5
      obtain⟨w9,hw9⟩:=aC w8.drew;rw[hw9]at CO tN rO;rw[hw9];clear hw9 HS;have p0:w9.cell? ⟨g7,0,none⟩=some (.int .i64 x1):=CO.o.cell rfl;have p1:w9.cell? ⟨g7,1,none⟩=some (.int .i64 x2):=CO.o.cell rfl;have p2:w9.cell? ⟨g7,2,none⟩=some (.int .i64 x3):=CO.o.cell rfl;have p3x:w9.cell? ⟨g7,3,none⟩=some (.int .i64 x4):=CO.o.cell rfl;obtain⟨uK,nZ⟩:=aF tN rO;clear tN rO;go_wp2_with (at_builtin;refine lI rfl _ _ 154 rfl w5.heap.size 55 i0 z0 4 32 Tryz.underlying154 hi0 hz hz1 hz2 hz3 (by decide) _ i _ rfl (World.ownsRow.alloc uK.o _) ⟨w9.heap.size,0,none⟩ 1 1 (mY (x1,x2,x3,x4)) rfl (Sl.new w9 55 4 1 #[.int .i64 x1,.int .i64 x2,.int .i64 x3,.int .i64 x4] (0,0) (by omega) rfl) (xI _) (by omega) (by decide) (by have:=nZ.o.size;simp;omega) ?_;intro a5 c5 wa ob hga hoa;clear hoa;obtain⟨Ob,Hba⟩:=aF ob (below_grown (nZ.o.alloc nZ.o.size _) hga (by have:=nZ.o.size;simp;omega) (World.ownsRow.alloc uK.o _));clear ob hga)
      go_roundw
      case rel=>exact⟨i+1,a5,c5,by omega,by go_num,rfl,aA (by
       have h:=Ob.o;rw[←uO]at h;rw[fA (by rw[O6.o];exact hlt),←jI (d:=(0,0,0,0)),hx'.o];exact h),OM,Hba⟩
      case measure=>simp[intOf];omega
     ·obtain⟨i',hi'⟩:∃i',i'+1=i:=⟨i - 1,by omega⟩;have d5:((i:Int)==0)=false:=by simp[hi0]
      have wk:IntKind.i64.wrap ((i:Int) - 1)=(i':Int):=by rw[aY];omega
      obtain⟨bb,oo,rfl,hbb,fe⟩:=(Sl.jX vF).1.elem mG (by decide) (0,0,0,0) (i:=i') (by omega);have e0:=fe 0 _ rfl;rw[cK]at e0;have hte:(E.take i).getD i' (0,0,0,0)=E.getD i' (0,0,0,0):=by
       rw[aV,dI,if_pos (by omega),aV]
      rw[hte]at e0;clear fe hte;have hxx:=hx'.o;have hrs:∀j,j+1<i+1→j≠i'→(E.getD j (0,0,0,0)).1<(E.getD (j+1) (0,0,0,0)).1:=fun j hj hne=>hris.o j (by omega);have hno:¬(E.getD i' (0,0,0,0)).1<x1→wT E=false:=fun hh=>U9 (i:=i') (by rw[O6.o];omega) (by rw[hi',hxx];exact hh);have NQ:(E.getD i' (0,0,0,0)).1<x1→∀j,j+1<i+1→(E.getD j (0,0,0,0)).1<(E.getD (j+1) (0,0,0,0)).1:=fun hh j hj=>by
       by_cases hji:j=i'
       ·subst hji;rw[hi',hxx];exact hh
       ·exact hrs j hj hji
      obtain⟨pv,hpv⟩:∃z,(E.getD i' (0,0,0,0)).1=z:=⟨_,rfl⟩;rw[hpv]at hno NQ e0;have q5:∀s,(f2 s).cell? ⟨bb,oo+i'*4,none⟩=some (.int .i64 pv):=fun s=>late (FN s) hbb e0;have hkn2:(i':Int)<i:=by omega
      have aJL:i'<i:=by omega
      have aNB:(0:Int)≤(i':Int):=by omega
      clear e0 hpv hrs hi0 hxx;obtain⟨yG,qK,CO,aFW,yK,hno',a8H⟩:=aK vF OB b8d FN sJ hno NQ;clear vF OB b8d FN sJ hno NQ;by_cases hpt:pv<x1
      ·have p3:decide (pv<x1)=true:=by simp;omega
       have KS:=a8H.o hpt;clear hi' hpt;have OM:=aA KS;clear KS;go_wp2_with fail
       refine jU (S:=fun W=>∃s,W=f2 s) (by kernel_rfl) 14 rfl ?_;refine jF [0,1,2,3,4,5,6,7,8,9,10,11,12] 1 (by kernel_rfl) (fun d _ _ _ _ h=>by cases d <;> exact h) (by kernel_rfl) (by kernel_rfl) (by kernel_rfl) HS.o ?_;simp only[jB,aS,aT,aQ,aR];iterate 13 (go_big_quiet_step (fail))
       refine wpQuiet_nil ?_;refine jC 13 0 (by kernel_rfl) (by kernel_rfl) ?_;simp only[jB,aS,aT,aQ,aR];go_wp2_with fail
       refine(FM _ _).mono ?_;rintro e w9 ⟨rfl,rfl⟩;go_wp2_with fail
       first|refine Mid.mk ⟨HS.o,?_⟩|refine Mid.mk ?_
       refine jK (by kernel_rfl) ?_;have tN:w8.drew.ownsRow w5.heap.size 55 4 _ i (fl mY (E.take i)):=yG.o;have rO:=qK.o.trans (((aW w8.heap.size w8).drew).mono qK.o.size);clear q0;try clear q5
       obtain⟨w9,hw9⟩:=aC w8.drew;rw[hw9]at CO tN rO;rw[hw9];clear hw9 HS;have p0:w9.cell? ⟨g7,0,none⟩=some (.int .i64 x1):=CO.o.cell rfl;have p1:w9.cell? ⟨g7,1,none⟩=some (.int .i64 x2):=CO.o.cell rfl;have p2:w9.cell? ⟨g7,2,none⟩=some (.int .i64 x3):=CO.o.cell rfl;have p3x:w9.cell? ⟨g7,3,none⟩=some (.int .i64 x4):=CO.o.cell rfl;obtain⟨uK,nZ⟩:=aF tN rO;clear tN rO;go_wp2_with (at_builtin;refine lI rfl _ _ 154 rfl w5.heap.size 55 i0 z0 4 32 Tryz.underlying154 hi0 hz hz1 hz2 hz3 (by decide) _ i _ rfl (World.ownsRow.alloc uK.o _) ⟨w9.heap.size,0,none⟩ 1 1 (mY (x1,x2,x3,x4)) rfl (Sl.new w9 55 4 1 #[.int .i64 x1,.int .i64 x2,.int .i64 x3,.int .i64 x4] (0,0) (by omega) rfl) (xI _) (by omega) (by decide) (by have:=nZ.o.size;simp;omega) ?_;intro a5 c5 wa ob hga hoa;clear hoa;obtain⟨Ob,Hba⟩:=aF ob (below_grown (nZ.o.alloc nZ.o.size _) hga (by have:=nZ.o.size;simp;omega) (World.ownsRow.alloc uK.o _));clear ob hga)
       go_roundw
       case rel=>exact⟨i+1,a5,c5,by omega,by go_num,rfl,aA (by
        have h:=Ob.o;rw[←uO]at h;rw[fA (by rw[O6.o];exact hlt),←jI (d:=(0,0,0,0)),hx'.o];exact h),OM,Hba⟩
       case measure=>simp[intOf];omega
      ·have p3:decide (pv<x1)=false:=by simp;omega
       have hR2:=hR'.o;rw[hno'.o hpt]at hR2;obtain rfl:R= .error 2:=by rw[←hR2];rfl
       clear hi' hpt hR2;go_wp2_with fail
       refine jU (S:=fun W=>∃s,W=f2 s) (by kernel_rfl) 14 rfl ?_;refine jF [0,1,2,3,4,5,6,7,8,9,10,11,12] 1 (by kernel_rfl) (fun d _ _ _ _ h=>by cases d <;> exact h) (by kernel_rfl) (by kernel_rfl) (by kernel_rfl) HS.o ?_;simp only[jB,aS,aT,aQ,aR];iterate 13 (go_big_quiet_step (fail))
       refine wpQuiet_nil ?_;refine jC 13 0 (by kernel_rfl) (by kernel_rfl) ?_;simp only[jB,aS,aT,aQ,aR];go_wp2_with fail
       refine(RN _ _).mono ?_;rintro e w9 ⟨rfl,rfl⟩;refine yF ?_;go_wp2_with fail
       exact⟨rfl,rfl,sv1,V7.o.later (qK.o.trans (((aW _ _).drew).mono qK.o.size))⟩
    case refine_2=>
     go_wp2_with fail
     have rP:=(aD wr (.cells #[.int .i64 0,.int .i64 0,.int .i64 0,.int .i64 0] 55)).drew;have b7:jJ (wr.alloc (.cells #[.int .i64 0,.int .i64 0,.int .i64 0,.int .i64 0] 55)).drew wr.heap.size 55 #[.int .i64 0,.int .i64 0,.int .i64 0,.int .i64 0]:=jJ.new wr _ _;have HS:=aA (jA.o _ rP);obtain⟨w3,hw3⟩:∃w3,(wr.alloc (.cells #[.int .i64 0,.int .i64 0,.int .i64 0,.int .i64 0] 55)).drew=w3:=⟨_,rfl⟩;rw[hw3]at rP b7 HS;rw[hw3];clear hw3;obtain⟨uW,sS⟩:=aF b7 rP;clear b7 rP;first|refine Mid.mk ⟨HS.o,?_⟩|refine Mid.mk ?_
     refine jC 15 5 (by kernel_rfl) (by kernel_rfl) ?_;simp only[jB,aS,aT,aQ,aR];go_wp2_with fail
     refine(bFI.o _ sS.o).mono ?_;rintro e w7 ⟨rfl,hb6⟩;have a0B:=sS.o.tm hb6;have b7:=uW.o.late hb6;have HS:=aA (jA.o _ a0B);have rP:=a0B;obtain⟨g7,MU⟩:∃g,wr.heap.size=g:=⟨_,rfl⟩;have hg7:wr.heap.size≤g7:=gT MU;clear uW sS hb6 a0B;rw[MU]at b7;rw[MU];clear MU;obtain⟨uW,sS⟩:=aF b7 rP;clear b7 rP;go_wp2_with fail
     first|refine Mid.mk ⟨HS.o,?_⟩|refine Mid.mk ?_
     refine jF [16,17,18] 2 (by kernel_rfl) (fun d _ _ _ _ h=>by cases d <;> exact h) (by kernel_rfl) (by kernel_rfl) (by kernel_rfl) HS.o ?_;simp only[jB,aS,aT,aQ,aR];iterate 3 (go_big_quiet_step (fail))
     refine wpQuiet_nil ?_;refine jC 20 1 (by kernel_rfl) (by kernel_rfl) ?_;simp only[jB,aS,aT,aQ,aR];have p0:w7.cell? ⟨g7,0,none⟩=some (.int .i64 0):=uW.o.cell rfl;have p1:w7.cell? ⟨g7,1,none⟩=some (.int .i64 0):=uW.o.cell rfl;have p2:w7.cell? ⟨g7,2,none⟩=some (.int .i64 0):=uW.o.cell rfl;have p3:w7.cell? ⟨g7,3,none⟩=some (.int .i64 0):=uW.o.cell rfl;have y0:=uW.o.frozen 0;have y1:=uW.o.frozen 1;have y2:=uW.o.frozen 2;have y3:=uW.o.frozen 3;go_wp2_with fail
     have b8:=uW.o.XD (.int .i64 x1) (.int .i64 x2) (.int .i64 x3) (.int .i64 x4);have oV:=BL sS.o hg7 (.int .i64 x1) (.int .i64 x2) (.int .i64 x3) (.int .i64 x4);have HS:=aA (jA.o _ oV);refine Mid.mk ⟨HS.o,?_⟩;refine jF [21] 0 (by kernel_rfl) (fun d _ _ _ _ h=>by cases d <;> exact h) (by kernel_rfl) (by kernel_rfl) (by kernel_rfl) HS.o ?_;simp only[jB,aS,aT,aQ,aR];iterate 1 (go_big_quiet_step (fail))
     refine wpQuiet_nil ?_;refine jK (by kernel_rfl) ?_;clear p0 p1 p2 p3 y0 y1 y2 y3 uW sS q0 q1;generalize ((((w7.setCell ⟨g7,0,none⟩ (.int .i64 x1)).setCell ⟨g7,1,none⟩ (.int .i64 x2)).setCell ⟨g7,2,none⟩ (.int .i64 x3)).setCell ⟨g7,3,none⟩ (.int .i64 x4))=w8 at*;have vF:=jY hown.o oV;have OB:=hb.o.tm oV;have b8d:jJ w8.drew g7 55 #[.int .i64 x1,.int .i64 x2,.int .i64 x3,.int .i64 x4]:=b8;obtain⟨Ty2,f2,hne2,FN,sJ⟩:=jR w8;have HS:=aA (sJ _ ((aW _ _).drew));have q0:∀s,(f2 s).cell? ⟨g7,0,none⟩=some (.int .i64 x1):=fun s=>(jJ.late b8 (FN s)).cell rfl;clear b8;by_cases hi0:i=0
     ·have d5:((i:Int)==0)=true:=by simp[hi0]
      have KS:∀j,j+1<i+1→(E.getD j (0,0,0,0)).1<(E.getD (j+1) (0,0,0,0)).1:=fun j hj=>by omega
      clear hi0;obtain⟨yG,qK,CO,aFW,yK,OM⟩:=aJ vF OB b8d FN sJ KS;clear vF OB b8d FN sJ KS;go_wp2_with fail
      refine jU (S:=fun W=>∃s,W=f2 s) (by kernel_rfl) 14 rfl ?_;refine jF [0,1,2,3,4,5,6,7,8,9,10,11,12] 1 (by kernel_rfl) (fun d _ _ _ _ h=>by cases d <;> exact h) (by kernel_rfl) (by kernel_rfl) (by kernel_rfl) HS.o ?_;simp only[jB,aS,aT,aQ,aR];iterate 13 (go_big_quiet_step (fail))
      refine wpQuiet_nil ?_;refine jC 13 0 (by kernel_rfl) (by kernel_rfl) ?_;simp only[jB,aS,aT,aQ,aR];go_wp2_with fail
      refine(FM _ _).mono ?_;rintro e w9 ⟨rfl,rfl⟩;go_wp2_with fail
      first|refine Mid.mk ⟨HS.o,?_⟩|refine Mid.mk ?_
      refine jK (by kernel_rfl) ?_;have tN:w8.drew.ownsRow w5.heap.size 55 4 _ i (fl mY (E.take i)):=yG.o;have rO:=qK.o.trans (((aW w8.heap.size w8).drew).mono qK.o.size);clear q0;try clear q5
      obtain⟨w9,hw9⟩:=aC w8.drew;rw[hw9]at CO tN rO;rw[hw9];clear hw9 HS;have p0:w9.cell? ⟨g7,0,none⟩=some (.int .i64 x1):=CO.o.cell rfl;have p1:w9.cell? ⟨g7,1,none⟩=some (.int .i64 x2):=CO.o.cell rfl;have p2:w9.cell? ⟨g7,2,none⟩=some (.int .i64 x3):=CO.o.cell rfl;have p3x:w9.cell? ⟨g7,3,none⟩=some (.int .i64 x4):=CO.o.cell rfl;obtain⟨uK,nZ⟩:=aF tN rO;clear tN rO;go_wp2_with (at_builtin;refine lI rfl _ _ 154 rfl w5.heap.size 55 i0 z0 4 32 Tryz.underlying154 hi0 hz hz1 hz2 hz3 (by decide) _ i _ rfl (World.ownsRow.alloc uK.o _) ⟨w9.heap.size,0,none⟩ 1 1 (mY (x1,x2,x3,x4)) rfl (Sl.new w9 55 4 1 #[.int .i64 x1,.int .i64 x2,.int .i64 x3,.int .i64 x4] (0,0) (by omega) rfl) (xI _) (by omega) (by decide) (by have:=nZ.o.size;simp;omega) ?_;intro a5 c5 wa ob hga hoa;clear hoa;obtain⟨Ob,Hba⟩:=aF ob (below_grown (nZ.o.alloc nZ.o.size _) hga (by have:=nZ.o.size;simp;omega) (World.ownsRow.alloc uK.o _));clear ob hga)
      go_roundw
      case rel=>exact⟨i+1,a5,c5,by omega,by go_num,rfl,aA (by
       have h:=Ob.o;rw[←uO]at h;rw[fA (by rw[O6.o];exact hlt),←jI (d:=(0,0,0,0)),hx'.o];exact h),OM,Hba⟩
      case measure=>simp[intOf];omega
     ·obtain⟨i',hi'⟩:∃i',i'+1=i:=⟨i - 1,by omega⟩;have d5:((i:Int)==0)=false:=by simp[hi0]
      have wk:IntKind.i64.wrap ((i:Int) - 1)=(i':Int):=by rw[aY];omega
      obtain⟨bb,oo,rfl,hbb,fe⟩:=(Sl.jX vF).1.elem mG (by decide) (0,0,0,0) (i:=i') (by omega);have e0:=fe 0 _ rfl;rw[cK]at e0;have hte:(E.take i).getD i' (0,0,0,0)=E.getD i' (0,0,0,0):=by
       rw[aV,dI,if_pos (by omega),aV]
      rw[hte]at e0;clear fe hte;have hxx:=hx'.o;have hrs:∀j,j+1<i+1→j≠i'→(E.getD j (0,0,0,0)).1<(E.getD (j+1) (0,0,0,0)).1:=fun j hj hne=>hris.o j (by omega);have hno:¬(E.getD i' (0,0,0,0)).1<x1→wT E=false:=fun hh=>U9 (i:=i') (by rw[O6.o];omega) (by rw[hi',hxx];exact hh);have NQ:(E.getD i' (0,0,0,0)).1<x1→∀j,j+1<i+1→(E.getD j (0,0,0,0)).1<(E.getD (j+1) (0,0,0,0)).1:=fun hh j hj=>by
       by_cases hji:j=i'
       ·subst hji;rw[hi',hxx];exact hh
       ·exact hrs j hj hji
      obtain⟨pv,hpv⟩:∃z,(E.getD i' (0,0,0,0)).1=z:=⟨_,rfl⟩;rw[hpv]at hno NQ e0;have q5:∀s,(f2 s).cell? ⟨bb,oo+i'*4,none⟩=some (.int .i64 pv):=fun s=>late (FN s) hbb e0;have hkn2:(i':Int)<i:=by omega
      have aJL:i'<i:=by omega
      have aNB:(0:Int)≤(i':Int):=by omega
      clear e0 hpv hrs hi0 hxx;obtain⟨yG,qK,CO,aFW,yK,hno',a8H⟩:=aK vF OB b8d FN sJ hno NQ;clear vF OB b8d FN sJ hno NQ;by_cases hpt:pv<x1
      ·have p3:decide (pv<x1)=true:=by simp;omega
       have KS:=a8H.o hpt;clear hi' hpt;have OM:=aA KS;clear KS;go_wp2_with fail
       refine jU (S:=fun W=>∃s,W=f2 s) (by kernel_rfl) 14 rfl ?_;refine jF [0,1,2,3,4,5,6,7,8,9,10,11,12] 1 (by kernel_rfl) (fun d _ _ _ _ h=>by cases d <;> exact h) (by kernel_rfl) (by kernel_rfl) (by kernel_rfl) HS.o ?_;simp only[jB,aS,aT,aQ,aR];iterate 13 (go_big_quiet_step (fail))
       refine wpQuiet_nil ?_;refine jC 13 0 (by kernel_rfl) (by kernel_rfl) ?_;simp only[jB,aS,aT,aQ,aR];go_wp2_with fail
       refine(FM _ _).mono ?_;rintro e w9 ⟨rfl,rfl⟩;go_wp2_with fail
       first|refine Mid.mk ⟨HS.o,?_⟩|refine Mid.mk ?_
       refine jK (by kernel_rfl) ?_;have tN:w8.drew.ownsRow w5.heap.size 55 4 _ i (fl mY (E.take i)):=yG.o;have rO:=qK.o.trans (((aW w8.heap.size w8).drew).mono qK.o.size);clear q0;try clear q5
       obtain⟨w9,hw9⟩:=aC w8.drew;rw[hw9]at CO tN rO;rw[hw9];clear hw9 HS;have p0:w9.cell? ⟨g7,0,none⟩=some (.int .i64 x1):=CO.o.cell rfl;have p1:w9.cell? ⟨g7,1,none⟩=some (.int .i64 x2):=CO.o.cell rfl;have p2:w9.cell? ⟨g7,2,none⟩=some (.int .i64 x3):=CO.o.cell rfl;have p3x:w9.cell? ⟨g7,3,none⟩=some (.int .i64 x4):=CO.o.cell rfl;obtain⟨uK,nZ⟩:=aF tN rO;clear tN rO;go_wp2_with (at_builtin;refine lI rfl _ _ 154 rfl w5.heap.size 55 i0 z0 4 32 Tryz.underlying154 hi0 hz hz1 hz2 hz3 (by decide) _ i _ rfl (World.ownsRow.alloc uK.o _) ⟨w9.heap.size,0,none⟩ 1 1 (mY (x1,x2,x3,x4)) rfl (Sl.new w9 55 4 1 #[.int .i64 x1,.int .i64 x2,.int .i64 x3,.int .i64 x4] (0,0) (by omega) rfl) (xI _) (by omega) (by decide) (by have:=nZ.o.size;simp;omega) ?_;intro a5 c5 wa ob hga hoa;clear hoa;obtain⟨Ob,Hba⟩:=aF ob (below_grown (nZ.o.alloc nZ.o.size _) hga (by have:=nZ.o.size;simp;omega) (World.ownsRow.alloc uK.o _));clear ob hga)
       go_roundw
       case rel=>exact⟨i+1,a5,c5,by omega,by go_num,rfl,aA (by
        have h:=Ob.o;rw[←uO]at h;rw[fA (by rw[O6.o];exact hlt),←jI (d:=(0,0,0,0)),hx'.o];exact h),OM,Hba⟩
       case measure=>simp[intOf];omega
      ·have p3:decide (pv<x1)=false:=by simp;omega
       have hR2:=hR'.o;rw[hno'.o hpt]at hR2;obtain rfl:R= .error 2:=by rw[←hR2];rfl
       clear hi' hpt hR2;go_wp2_with fail
       refine jU (S:=fun W=>∃s,W=f2 s) (by kernel_rfl) 14 rfl ?_;refine jF [0,1,2,3,4,5,6,7,8,9,10,11,12] 1 (by kernel_rfl) (fun d _ _ _ _ h=>by cases d <;> exact h) (by kernel_rfl) (by kernel_rfl) (by kernel_rfl) HS.o ?_;simp only[jB,aS,aT,aQ,aR];iterate 13 (go_big_quiet_step (fail))
       refine wpQuiet_nil ?_;refine jC 13 0 (by kernel_rfl) (by kernel_rfl) ?_;simp only[jB,aS,aT,aQ,aR];go_wp2_with fail
       refine(RN _ _).mono ?_;rintro e w9 ⟨rfl,rfl⟩;refine yF ?_;go_wp2_with fail
       exact⟨rfl,rfl,sv1,V7.o.later (qK.o.trans (((aW _ _).drew).mono qK.o.size))⟩
   ·obtain rfl:i=k:=by omega
    have hR2:=hR'.o;rw[a09 (fun j hj=>hris.o j (by rw[O6.o]at hj;exact hj))]at hR2;obtain rfl:R= .ok (E,s1):=by rw[←hR2];rfl
    clear hR2;go_wp2_with fail
    go_ret;refine⟨sv1,tk1,AB.o.later hb.o,V7.o.later hb.o,a,i,c,rfl,?_,fun kk e h=>?_⟩
    ·have h:=hown.o;rw[bP (by rw[O6.o];exact aU _)]at h;rw[O6.o];exact kK h hw5
    ·have h1:=(hown.o.lt kk e).1;have h2:=(AB.o.spot.lt kk h).2;omega
