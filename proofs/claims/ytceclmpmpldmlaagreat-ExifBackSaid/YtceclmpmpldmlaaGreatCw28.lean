import Derived.Test.YtceclmpmpldmlaaGreatCw27
set_option linter.unusedSimpArgs false
set_option linter.unusedVariables false
namespace Go.Proofs.YtceclmpmpldmlaaGreat
open Go.RowKit Tt
theorem YF {z:List Int} (hb:pF z) (p:Int) (size:Nat) (o:Int):0≤mM z p size o∧mM z p size o<256 ^ size:=by
 unfold mM;split
 ·rename_i h;unfold a1S at h;simp only[bK,decide_eq_true_eq]at h;have hl:=a3S (z:=z) (at_:=p.toNat) (size:=size) (order:=o) aG;have qL:=a3T hb p.toNat size o;have:=WQ qL (j:=size) (by rw[hl];exact aY _);rw[bW (by rw[hl];exact aY _)]at this;rw[cB];exact this
 ·have:(0:Int)<256 ^ size:=Int.pow_pos aH;omega
theorem a0E:∀{l:List oJ} {i:Nat},i+1<l.length→¬(l.getD i (0,0,0,0)).1<(l.getD (i+1) (0,0,0,0)).1→IK l=false
 | [],_,h,_=>by simp at h
 | [_],_,h,_=>by simp at h
 |x::y::r,0,_,h=>by
  simp only[IK];rw[decide_eq_false (by simpa using h)];rfl
 |x::y::r,i+1,h,h2=>by
  simp only[IK];rw[a0E (l:=y::r) (i:=i) (by simpa using h) (by simpa using h2)];simp
theorem a5Z:∀{l:List oJ},(∀i,i+1<l.length→(l.getD i (0,0,0,0)).1<(l.getD (i+1) (0,0,0,0)).1)→IK l=true
 | [],_=>rfl
 | [_],_=>rfl
 |x::y::r,h=>by
  simp only[IK];rw[decide_eq_true (by simpa using h 0 (by simp)),a5Z (l:=y::r) (fun i hi=>by simpa using h (i+1) (by simpa using hi))];rfl
theorem a0F (z:List Int) (o p:Int) (k:Nat):(BM z o p k).length=k:=by simp[BM]
theorem aR3 {z:List Int} {o p:Int} {k i:Nat} (h:i<k):(BM z o p k).getD i (0,0,0,0)=WT z o (p+2+12*i):=by
 rw[kF (by rw[a0F];exact h)];simp[BM]
theorem BV (x:oJ):∀u∈oF x,u.oneCell'=true:=by
 intro u hu;simp only[oF,cK,eG,or_false]at hu;rcases hu with rfl|rfl|rfl|rfl <;> rfl
theorem aWJ:(Tryz.prog.info? 55).map (fun i=>(i.size,i.bytes))=some (4,32):=by kernel_rfl
theorem aNE:(Tryz.prog.info? 55).map (fun i=>i.zero.map (fun z=>z.cells.size))=some (some 4):=by kernel_rfl
theorem SL {n:Nat} {x:mZ} {s s':St} (h:oG n x s= .ok s'):WX n x=true:=by
 unfold oG at h;split at h
 ·rename_i h1;exact h1
 ·cases h
def bEP (w:World) (l:List oJ) (zS:Value) (e:Ending) (w':World):Prop:=
 ∃a m c,e= .returned (.slice a m c)∧Ck (fun k=>zS.ownBlock=some k) w.heap.size w' (.slice a m c) 55 4 l.length (fl oF l)
set_option maxRecDepth 20000 in
set_option maxHeartbeats 8000000 in
theorem aGF (K:WkS) (t:WkT K) (ho:K.o=1∨K.o=2) (s:St) (sv:Value) (tk:List Nat) (w:World) (p no:Int) (wP:zJ K s sv tk w) (h0:0≤p) (h1:p≤4294967295) (EJ:s.o5.length≤4294967295):
  Calls Tryz.prog 211 #[.pointer (some ⟨K.g,0,none⟩),.int .i64 p,.int .i64 no] w (a1E K sv w (nU K.z K.o p no s) (bEP w)):=by
 have hn:=t.n1;have vO:=t.hs.p9;obtain⟨R,hR⟩:=aC (nU K.z K.o p no s);rw[hR];unfold nU at hR;rw[vO]at hR;have hRm:=fun W=>a3Z p 2 K.n W aG aG;have hNm:=fun W (h:Sl W K.a K.n K.c 1 (ints .u8 K.z))=>LX K.a K.n K.c K.z K.o p 2 W h t.byt;have htm:Int.tmod p 2=p % 2:=iR h0;have HB0:=aA (bF w.heap.size w);have c0:=wP.blk.cell (i:=0) rfl;have c1:=wP.blk.cell (i:=1) rfl;obtain⟨nJ,t',aCC,b4K,oC⟩:=aM wP t hRm hNm vO;clear wP t hRm hNm vO;by_cases hev:p % 2=0
 case neg=>
  have d1:(p % 2==0)=false:=by simp[hev]
  obtain rfl:R= .error 4:=by rw[←hR,decide_eq_false hev];simp
  clear hR hev;go_enter Tryz.func211,Tryz.ntmps211;go_wp2_with (go_at_call 143;refine(lJ _ _ _).mono ?_;rintro e w3 ⟨rfl,rfl⟩;simp only[mF,mG])
  exact⟨rfl,rfl,sv,Mv.of_below HB0.o⟩
 have d1:(p % 2==0)=true:=by simp[hev]
 rw[decide_eq_true hev,dL]at hR;obtain⟨r,hr⟩:=aC (zZ p 2 K.n);rw[hr]at hR aCC;cases r
 case false=>
  obtain rfl:R= .error 4:=by rw[←hR];simp
  clear hR hev hr;go_enter Tryz.func211,Tryz.ntmps211;go_wp2_with (first|(go_at_call 111;refine(aCC.o _).mono ?_;rintro e w3 ⟨rfl,rfl⟩)|(go_at_call 143;refine(lJ _ _ _).mono ?_;rintro e w3 ⟨rfl,rfl⟩;simp only[mF,mG]))
  exact⟨rfl,rfl,sv,Mv.of_below HB0.o⟩
 rw[if_pos rfl]at hR;clear hev hr;have hkv:=YF t'.o.byt p 2 K.o;rw[show((2:Nat):Int)=2 from rfl]at hkv;obtain⟨k,hk⟩:∃k:Nat,mM K.z p 2 K.o=k:=⟨(mM K.z p 2 K.o).toNat,by omega⟩;rw[hk]at hR hkv;rw[hk]at b4K;have hk6:k<65536:=by have h:=hkv.2;rw[show(256:Int) ^ 2=65536 by decide]at h;omega
 clear hkv;rw[cB]at hR;by_cases SY:0<(k:Int)
 case neg=>
  have d2:decide (0<(k:Int))=false:=by simp;omega
  have d3:decide (0<k)=false:=by simp;omega
  obtain rfl:R= .error 2:=by rw[←hR,if_neg SY]
  clear hR SY;go_enter Tryz.func211,Tryz.ntmps211;go_wp2_with (first|(go_at_call 111;refine(aCC.o _).mono ?_;rintro e w3 ⟨rfl,rfl⟩)|(go_at_call 209;refine(b4K.o _ (nJ.o.a2G t'.o)).mono ?_;rintro e w4 ⟨rfl,mX⟩;replace HB0:=aA mX;clear mX)|(go_at_call 143;refine(lJ _ _ _).mono ?_;rintro e w3 ⟨rfl,rfl⟩;simp only[mF,mG]))
  exact⟨rfl,rfl,sv,Mv.of_below HB0.o⟩
 have d2:decide (0<(k:Int))=true:=by simp;omega
 have d3:decide (0<k)=true:=by simp;omega
 rw[if_pos SY]at hR;go_enter Tryz.func211,Tryz.ntmps211;go_wp2_with (first|(go_at_call 111;refine(aCC.o _).mono ?_;rintro e w3 ⟨rfl,rfl⟩)|(go_at_call 209;refine(b4K.o _ (nJ.o.a2G t'.o)).mono ?_;rintro e w4 ⟨rfl,mX⟩;replace HB0:=aA mX;clear mX)|(go_at_call 143;refine(lJ _ _ _).mono ?_;rintro e w3 ⟨rfl,rfl⟩;simp only[mF,mG]))
 obtain⟨P,rfl⟩:∃P:Nat,p=P:=⟨p.toNat,by omega⟩;have aGG:=nJ.o.later HB0.o;have HT:=QM K t'.o s sv tk w4 (2,no,0,(P:Int),6+12*(k:Int)) aGG P (6+12*k) rfl (show(6+12*(k:Int))=((6+12*k:Nat):Int) by omega) aG aG EJ;obtain⟨T,hT⟩:=aC (oG K.n (2,no,0,(P:Int),6+12*(k:Int)) s);rw[hT]at HT hR;clear aGG c0 c1 b4K aCC;have HT':=aA HT;clear HT;refine HT'.o.mono ?_;rintro e w5 nW;cases T with
 |error x=>
  obtain rfl:R= .error x:=by rw[←hR]
  obtain⟨rfl,zS,yJ⟩:=nW;clear hR hT HT';have IQ:=aA yJ;clear yJ;go_wp2_with fail
  exact⟨rfl,rfl,zS,(Mv.of_below HB0.o).trans IQ.o⟩
 |ok s1=>
  obtain⟨sv1,tk1,FK,aCD,rfl⟩:=nW;have JF:P+6+12*k≤K.n:=by
   have:=SL hT;unfold WX zZ at this;simp at this;omega
  simp only at hR;have hEl:=a0F K.z K.o P k;have hEg:=fun i (h:i<k)=>aR3 (z:=K.z) (o:=K.o) (p:=(P:Int)) h;obtain⟨E,hE⟩:=aC (BM K.z K.o P k);rw[hE]at hR hEl hEg;obtain⟨i0,z0,AY,hz,qC,wY,ZA⟩:=SK aWJ aNE;have hw5:w.heap.size≤w5.heap.size:=bU HB0.o.size aCD.size;have a6A:Mv K.g K.gt sv sv1 w w5:=(Mv.of_below HB0.o).trans aCD;clear hE hT HT' aCD HB0;obtain⟨qM,VA,bX4,G9,a1F⟩:=aM hR hEl hEg FK a6A;clear hR hEl hEg FK a6A;go_wp2_with fail
  go_loopw [8,44] (fun ov iv wr=>∃(i:Nat) (a:Option Addr) (c:Nat),i≤k∧iv= .int .i64 i∧ov= .slice a i c∧Hid (wr.ownsRow w5.heap.size 55 4 (.slice a i c) i (fl oF (E.take i)))∧Hid (∀j,j+1<i→(E.getD j (0,0,0,0)).1<(E.getD (j+1) (0,0,0,0)).1)∧Hid (Below w5.heap.size w5 wr)) (fun _ iv _=>k - (intOf iv).toNat)
  case atStart=>exact⟨0,none,0,by omega,rfl,rfl,aA (lC _ _ _ _),aA (fun j hj=>by omega),aA (bF _ _)⟩
  case round=>
   obtain⟨i,a,c,hi,rfl,rfl,mK,aM8,hb⟩:=hrel;by_cases kY:i<k
   ·have b27:=G9.o.later hb.o;obtain⟨Ty,f,pQ,kI,kE⟩:=kM wr;have q0:=fun s=>(kG.late b27.blk (kI s)).cell (i:=0) rfl;have q1:=fun s=>(kG.late b27.blk (kI s)).cell (i:=1) rfl;obtain⟨HS,HD⟩:=aJ (kE _ ((bF _ _).drew)) ((bF wr.heap.size wr).drew);have hwm:IntKind.i64.wrap (12*(i:Int))=12*i:=by rw[bJ];omega
    have hwp:IntKind.i64.wrap ((P:Int)+2)=P+2:=by rw[bJ];omega
    have hwq:IntKind.i64.wrap ((P:Int)+2+12*i)=P+2+12*i:=by rw[bJ];omega
    have hEi:=bX4.o i kY;have HRd:=fun W (h:Below wr.heap.size wr W)=>aP6 K.a K.n K.c K.z K.o ((P:Int)+2+12*i) W ((b27.a2G t'.o).mono h) t'.o.byt ho aG aG hn;rw[←hEi]at HRd;obtain⟨x,hx⟩:=aC (E.getD i (0,0,0,0));rw[hx]at HRd;unfold aB3 at HRd;obtain⟨x1,x2,x3,x4⟩:=x;simp only at HRd;clear hEi;obtain⟨kD,jV,c2Z,bLT,TV⟩:=aM kI kE b27 HRd hx;clear kI kE b27 HRd hx;go_wp2_with fail
    refine kR (S:=fun W=>∃s,W=f s) aF 22 rfl ?_;refine jZ [0,1,2,3,4,5,6,7,8,9,10,11,12,13,14] 7 aF aI aF aF aF HS.o ?_;simp only[jW,aW,aX,aU,aV];iterate 15 (go_big_quiet_step (fail))
    refine wpQuiet_nil ?_;refine vC 15 19 6 aF aF ?_ ?_;all_goals simp only[jW,aW,aX,aU,aV]
    case refine_1=>
     go_wp2_with fail
     refine(bLT.o _ HD.o).mono ?_;rintro e w6 ⟨rfl,vU⟩;have vU:=HD.o.tm vU;obtain⟨HS,MO⟩:=aJ (jV.o _ vU) vU;clear vU;go_wp2_with fail
     first|refine Mid.mk ⟨HS.o,?_⟩|refine Mid.mk ?_
     refine jZ [16,17,18] 3 aF aI aF aF aF HS.o ?_;simp only[jW,aW,aX,aU,aV];iterate 3 (go_big_quiet_step (fail))
     refine wpQuiet_nil ?_;refine jX 19 2 aF aF ?_;simp only[jW,aW,aX,aU,aV];go_wp2_with fail
     have b7:=kG.new w6 55 #[.int .i64 0,.int .i64 0,.int .i64 0,.int .i64 0];have xC:=MO.o.alloc MO.o.size (.cells #[.int .i64 0,.int .i64 0,.int .i64 0,.int .i64 0] 55);have hg7:wr.heap.size≤w6.heap.size:=MO.o.size;generalize w6.alloc (.cells #[.int .i64 0,.int .i64 0,.int .i64 0,.int .i64 0] 55)=w7 at*;generalize w6.heap.size=g7 at*;have HS:=aA (jV.o _ xC);clear MO;obtain⟨yR,wV⟩:=aJ b7 xC;clear b7 xC;first|refine Mid.mk ⟨HS.o,?_⟩|refine Mid.mk ?_
     refine jX 20 1 aF aF ?_;simp only[jW,aW,aX,aU,aV];have p0:=yR.o.cell (i:=0) rfl;have p1:=yR.o.cell (i:=1) rfl;have p2:=yR.o.cell (i:=2) rfl;have p3:=yR.o.cell (i:=3) rfl;have y0:=yR.o.frozen 0;have y1:=yR.o.frozen 1;have y2:=yR.o.frozen 2;have y3:=yR.o.frozen 3;go_wp2_with fail
     have b8:=yR.o.a3E (.int .i64 x1) (.int .i64 x2) (.int .i64 x3) (.int .i64 x4);have rW:=IC wV.o hg7 (.int .i64 x1) (.int .i64 x2) (.int .i64 x3) (.int .i64 x4);have HS:=aA (jV.o _ rW);refine Mid.mk ⟨HS.o,?_⟩;refine jZ [21] 0 aF aI aF aF aF HS.o ?_;simp only[jW,aW,aX,aU,aV];iterate 1 (go_big_quiet_step (fail))
     refine wpQuiet_nil ?_;refine kH aF ?_;clear p0 p1 p2 p3 y0 y1 y2 y3 yR wV q0 q1;generalize ((((w7.setCell ⟨g7,0,none⟩ (.int .i64 x1)).setCell ⟨g7,1,none⟩ (.int .i64 x2)).setCell ⟨g7,2,none⟩ (.int .i64 x3)).setCell ⟨g7,3,none⟩ (.int .i64 x4))=w8 at*;have zC:=l6 mK.o rW;have VJ:=hb.o.tm rW;have b8d:kG w8.drew g7 55 #[.int .i64 x1,.int .i64 x2,.int .i64 x3,.int .i64 x4]:=b8;obtain⟨Ty2,f2,EH,LZ,wL⟩:=kM w8;have HS:=aA (wL _ ((bF _ _).drew));have q0:=fun s=>(kG.late b8 (LZ s)).cell (i:=0) rfl;clear b8;by_cases AY:i=0
     ·have d5:((i:Int)==0)=true:=by simp[AY]
      have QN:∀j,j+1<i+1→(E.getD j (0,0,0,0)).1<(E.getD (j+1) (0,0,0,0)).1:=fun j hj=>by omega
      clear AY;obtain⟨EF,sW,J4,aKO,EM,VN⟩:=aN zC VJ b8d LZ wL QN;clear zC VJ b8d LZ wL QN;go_wp2_with fail
      refine kR (S:=fun W=>∃s,W=f2 s) aF 14 rfl ?_;refine jZ [0,1,2,3,4,5,6,7,8,9,10,11,12] 1 aF aI aF aF aF HS.o ?_;simp only[jW,aW,aX,aU,aV];iterate 13 (go_big_quiet_step (fail))
      refine wpQuiet_nil ?_;refine jX 13 0 aF aF ?_;simp only[jW,aW,aX,aU,aV];go_wp2_with fail
      refine(LY _ _).mono ?_;rintro e w9 ⟨rfl,rfl⟩;go_wp2_with fail
      first|refine Mid.mk ⟨HS.o,?_⟩|refine Mid.mk ?_
      refine kH aF ?_;have xP:w8.drew.ownsRow w5.heap.size 55 4 _ i (fl oF (E.take i)):=EF.o;have vP:=sW.o.trans (((bF w8.heap.size w8).drew).mono sW.o.size);clear q0;try clear q5
      obtain⟨w9,hw9⟩:=aC w8.drew;rw[hw9]at J4 xP vP;rw[hw9];clear hw9 HS;have p0:=J4.o.cell (i:=0) rfl;have p1:=J4.o.cell (i:=1) rfl;have p2:=J4.o.cell (i:=2) rfl;have p3x:=J4.o.cell (i:=3) rfl;obtain⟨yG,qB⟩:=aJ xP vP;clear xP vP;go_wp2_with (at_builtin;refine mU rfl _ _ 154 rfl w5.heap.size 55 i0 z0 4 32 Tryz.underlying154 AY hz qC wY ZA aH _ i _ rfl (fB yG.o _) ⟨w9.heap.size,0,none⟩ 1 1 (oF (x1,x2,x3,x4)) rfl (Sl.new w9 55 4 1 #[.int .i64 x1,.int .i64 x2,.int .i64 x3,.int .i64 x4] (0,0) aG rfl) (BV _) aG aH (by have:=qB.o.size;simp;omega) ?_;intro a5 c5 wa ob VZ hoa;clear hoa;obtain⟨Ob,Hba⟩:=aJ ob (below_grown (qB.o.alloc qB.o.size _) VZ (by have:=qB.o.size;simp;omega) (fB yG.o _));clear ob VZ)
      go_roundw
      case rel=>exact⟨i+1,a5,c5,by omega,by go_num,rfl,aA (by
       have h:=Ob.o;rw[←yM]at h;rw[fC (by rw[VA.o];exact kY),←kF (d:=(0,0,0,0)),TV.o];exact h),VN,Hba⟩
      case measure=>simp[intOf];omega
     ·obtain⟨i',vN⟩:∃i',i'+1=i:=⟨i - 1,by omega⟩;have d5:((i:Int)==0)=false:=by simp[AY]
      have wk:IntKind.i64.wrap ((i:Int) - 1)=(i':Int):=by rw[bJ];omega
      obtain⟨bb,oo,rfl,EI,fe⟩:=(Sl.kZ zC).1.elem nT aH (0,0,0,0) (i:=i') aG;have e0:=fe 0 _ rfl;rw[dB]at e0;have hte:(E.take i).getD i' (0,0,0,0)=E.getD i' (0,0,0,0):=by
       rw[aZ,dM,if_pos aG,aZ]
      rw[hte]at e0;clear fe hte;have hxx:=TV.o;have hrs:∀j,j+1<i+1→j≠i'→(E.getD j (0,0,0,0)).1<(E.getD (j+1) (0,0,0,0)).1:=fun j hj pQ=>aM8.o j aG;have sJ:¬(E.getD i' (0,0,0,0)).1<x1→IK E=false:=fun hh=>a0E (i:=i') (by rw[VA.o];omega) (by rw[vN,hxx];exact hh);have UJ:(E.getD i' (0,0,0,0)).1<x1→∀j,j+1<i+1→(E.getD j (0,0,0,0)).1<(E.getD (j+1) (0,0,0,0)).1:=fun hh j hj=>by
       by_cases IB:j=i'
       ·subst IB;rw[vN,hxx];exact hh
       ·exact hrs j hj IB
      obtain⟨pv,hpv⟩:∃z,(E.getD i' (0,0,0,0)).1=z:=⟨_,rfl⟩;rw[hpv]at sJ UJ e0;have q5:∀s,(f2 s).cell? ⟨bb,oo+i'*4,none⟩=some (.int .i64 pv):=fun s=>late (LZ s) EI e0;have aS4:(i':Int)<i:=by omega
      have aPC:i'<i:=by omega
      have aTK:(0:Int)≤(i':Int):=by omega
      clear e0 hpv hrs AY hxx;obtain⟨EF,sW,J4,aKO,EM,vT,aE3⟩:=aO zC VJ b8d LZ wL sJ UJ;clear zC VJ b8d LZ wL sJ UJ;by_cases hpt:pv<x1
      ·have p3:decide (pv<x1)=true:=by simp;omega
       have QN:=aE3.o hpt;clear vN hpt;have VN:=aA QN;clear QN;go_wp2_with fail
       refine kR (S:=fun W=>∃s,W=f2 s) aF 14 rfl ?_;refine jZ [0,1,2,3,4,5,6,7,8,9,10,11,12] 1 aF aI aF aF aF HS.o ?_;simp only[jW,aW,aX,aU,aV];iterate 13 (go_big_quiet_step (fail))
       refine wpQuiet_nil ?_;refine jX 13 0 aF aF ?_;simp only[jW,aW,aX,aU,aV];go_wp2_with fail
       refine(LY _ _).mono ?_;rintro e w9 ⟨rfl,rfl⟩;go_wp2_with fail
       first|refine Mid.mk ⟨HS.o,?_⟩|refine Mid.mk ?_
       refine kH aF ?_;have xP:w8.drew.ownsRow w5.heap.size 55 4 _ i (fl oF (E.take i)):=EF.o;have vP:=sW.o.trans (((bF w8.heap.size w8).drew).mono sW.o.size);clear q0;try clear q5
       obtain⟨w9,hw9⟩:=aC w8.drew;rw[hw9]at J4 xP vP;rw[hw9];clear hw9 HS;have p0:=J4.o.cell (i:=0) rfl;have p1:=J4.o.cell (i:=1) rfl;have p2:=J4.o.cell (i:=2) rfl;have p3x:=J4.o.cell (i:=3) rfl;obtain⟨yG,qB⟩:=aJ xP vP;clear xP vP;go_wp2_with (at_builtin;refine mU rfl _ _ 154 rfl w5.heap.size 55 i0 z0 4 32 Tryz.underlying154 AY hz qC wY ZA aH _ i _ rfl (fB yG.o _) ⟨w9.heap.size,0,none⟩ 1 1 (oF (x1,x2,x3,x4)) rfl (Sl.new w9 55 4 1 #[.int .i64 x1,.int .i64 x2,.int .i64 x3,.int .i64 x4] (0,0) aG rfl) (BV _) aG aH (by have:=qB.o.size;simp;omega) ?_;intro a5 c5 wa ob VZ hoa;clear hoa;obtain⟨Ob,Hba⟩:=aJ ob (below_grown (qB.o.alloc qB.o.size _) VZ (by have:=qB.o.size;simp;omega) (fB yG.o _));clear ob VZ)
       go_roundw
       case rel=>exact⟨i+1,a5,c5,by omega,by go_num,rfl,aA (by
        have h:=Ob.o;rw[←yM]at h;rw[fC (by rw[VA.o];exact kY),←kF (d:=(0,0,0,0)),TV.o];exact h),VN,Hba⟩
       case measure=>simp[intOf];omega
      ·have p3:decide (pv<x1)=false:=by simp;omega
       have OD:=qM.o;rw[vT.o hpt]at OD;obtain rfl:R= .error 2:=by rw[←OD];rfl
       clear vN hpt OD;go_wp2_with fail
       refine kR (S:=fun W=>∃s,W=f2 s) aF 14 rfl ?_;refine jZ [0,1,2,3,4,5,6,7,8,9,10,11,12] 1 aF aI aF aF aF HS.o ?_;simp only[jW,aW,aX,aU,aV];iterate 13 (go_big_quiet_step (fail))
       refine wpQuiet_nil ?_;refine jX 13 0 aF aF ?_;simp only[jW,aW,aX,aU,aV];go_wp2_with fail
       refine(YE _ _).mono ?_;rintro e w9 ⟨rfl,rfl⟩;refine ED ?_;go_wp2_with fail
       exact⟨rfl,rfl,sv1,a1F.o.later (sW.o.trans (((bF _ _).drew).mono sW.o.size))⟩
    case refine_2=>
     go_wp2_with fail
     have xC:=(aD wr (.cells #[.int .i64 0,.int .i64 0,.int .i64 0,.int .i64 0] 55)).drew;have b7:kG (wr.alloc (.cells #[.int .i64 0,.int .i64 0,.int .i64 0,.int .i64 0] 55)).drew wr.heap.size 55 #[.int .i64 0,.int .i64 0,.int .i64 0,.int .i64 0]:=kG.new wr _ _;have HS:=aA (jV.o _ xC);obtain⟨w3,xE⟩:∃w3,(wr.alloc (.cells #[.int .i64 0,.int .i64 0,.int .i64 0,.int .i64 0] 55)).drew=w3:=⟨_,rfl⟩;rw[xE]at xC b7 HS;rw[xE];clear xE;obtain⟨yR,wV⟩:=aJ b7 xC;clear b7 xC;first|refine Mid.mk ⟨HS.o,?_⟩|refine Mid.mk ?_
     refine jX 15 5 aF aF ?_;simp only[jW,aW,aX,aU,aV];go_wp2_with fail
     refine(bLT.o _ wV.o).mono ?_;rintro e w7 ⟨rfl,vU⟩;have a6B:=wV.o.tm vU;have b7:=yR.o.late vU;have HS:=aA (jV.o _ a6B);have xC:=a6B;obtain⟨g7,TQ⟩:∃g,wr.heap.size=g:=⟨_,rfl⟩;have hg7:wr.heap.size≤g7:=iG TQ;clear yR wV vU a6B;rw[TQ]at b7;rw[TQ];clear TQ;obtain⟨yR,wV⟩:=aJ b7 xC;clear b7 xC;go_wp2_with fail
     first|refine Mid.mk ⟨HS.o,?_⟩|refine Mid.mk ?_
     refine jZ [16,17,18] 2 aF aI aF aF aF HS.o ?_;simp only[jW,aW,aX,aU,aV];iterate 3 (go_big_quiet_step (fail))
     refine wpQuiet_nil ?_;refine jX 20 1 aF aF ?_;simp only[jW,aW,aX,aU,aV];have p0:=yR.o.cell (i:=0) rfl;have p1:=yR.o.cell (i:=1) rfl;have p2:=yR.o.cell (i:=2) rfl;have p3:=yR.o.cell (i:=3) rfl;have y0:=yR.o.frozen 0;have y1:=yR.o.frozen 1;have y2:=yR.o.frozen 2;have y3:=yR.o.frozen 3;go_wp2_with fail
     have b8:=yR.o.a3E (.int .i64 x1) (.int .i64 x2) (.int .i64 x3) (.int .i64 x4);have rW:=IC wV.o hg7 (.int .i64 x1) (.int .i64 x2) (.int .i64 x3) (.int .i64 x4);have HS:=aA (jV.o _ rW);refine Mid.mk ⟨HS.o,?_⟩;refine jZ [21] 0 aF aI aF aF aF HS.o ?_;simp only[jW,aW,aX,aU,aV];iterate 1 (go_big_quiet_step (fail))
     refine wpQuiet_nil ?_;refine kH aF ?_;clear p0 p1 p2 p3 y0 y1 y2 y3 yR wV q0 q1;generalize ((((w7.setCell ⟨g7,0,none⟩ (.int .i64 x1)).setCell ⟨g7,1,none⟩ (.int .i64 x2)).setCell ⟨g7,2,none⟩ (.int .i64 x3)).setCell ⟨g7,3,none⟩ (.int .i64 x4))=w8 at*;have zC:=l6 mK.o rW;have VJ:=hb.o.tm rW;have b8d:kG w8.drew g7 55 #[.int .i64 x1,.int .i64 x2,.int .i64 x3,.int .i64 x4]:=b8;obtain⟨Ty2,f2,EH,LZ,wL⟩:=kM w8;have HS:=aA (wL _ ((bF _ _).drew));have q0:=fun s=>(kG.late b8 (LZ s)).cell (i:=0) rfl;clear b8;by_cases AY:i=0
     ·have d5:((i:Int)==0)=true:=by simp[AY]
      have QN:∀j,j+1<i+1→(E.getD j (0,0,0,0)).1<(E.getD (j+1) (0,0,0,0)).1:=fun j hj=>by omega
      clear AY;obtain⟨EF,sW,J4,aKO,EM,VN⟩:=aN zC VJ b8d LZ wL QN;clear zC VJ b8d LZ wL QN;go_wp2_with fail
      refine kR (S:=fun W=>∃s,W=f2 s) aF 14 rfl ?_;refine jZ [0,1,2,3,4,5,6,7,8,9,10,11,12] 1 aF aI aF aF aF HS.o ?_;simp only[jW,aW,aX,aU,aV];iterate 13 (go_big_quiet_step (fail))
      refine wpQuiet_nil ?_;refine jX 13 0 aF aF ?_;simp only[jW,aW,aX,aU,aV];go_wp2_with fail
      refine(LY _ _).mono ?_;rintro e w9 ⟨rfl,rfl⟩;go_wp2_with fail
      first|refine Mid.mk ⟨HS.o,?_⟩|refine Mid.mk ?_
      refine kH aF ?_;have xP:w8.drew.ownsRow w5.heap.size 55 4 _ i (fl oF (E.take i)):=EF.o;have vP:=sW.o.trans (((bF w8.heap.size w8).drew).mono sW.o.size);clear q0;try clear q5
      obtain⟨w9,hw9⟩:=aC w8.drew;rw[hw9]at J4 xP vP;rw[hw9];clear hw9 HS;have p0:=J4.o.cell (i:=0) rfl;have p1:=J4.o.cell (i:=1) rfl;have p2:=J4.o.cell (i:=2) rfl;have p3x:=J4.o.cell (i:=3) rfl;obtain⟨yG,qB⟩:=aJ xP vP;clear xP vP;go_wp2_with (at_builtin;refine mU rfl _ _ 154 rfl w5.heap.size 55 i0 z0 4 32 Tryz.underlying154 AY hz qC wY ZA aH _ i _ rfl (fB yG.o _) ⟨w9.heap.size,0,none⟩ 1 1 (oF (x1,x2,x3,x4)) rfl (Sl.new w9 55 4 1 #[.int .i64 x1,.int .i64 x2,.int .i64 x3,.int .i64 x4] (0,0) aG rfl) (BV _) aG aH (by have:=qB.o.size;simp;omega) ?_;intro a5 c5 wa ob VZ hoa;clear hoa;obtain⟨Ob,Hba⟩:=aJ ob (below_grown (qB.o.alloc qB.o.size _) VZ (by have:=qB.o.size;simp;omega) (fB yG.o _));clear ob VZ)
      go_roundw
      case rel=>exact⟨i+1,a5,c5,by omega,by go_num,rfl,aA (by
       have h:=Ob.o;rw[←yM]at h;rw[fC (by rw[VA.o];exact kY),←kF (d:=(0,0,0,0)),TV.o];exact h),VN,Hba⟩
      case measure=>simp[intOf];omega
     ·obtain⟨i',vN⟩:∃i',i'+1=i:=⟨i - 1,by omega⟩;have d5:((i:Int)==0)=false:=by simp[AY]
      have wk:IntKind.i64.wrap ((i:Int) - 1)=(i':Int):=by rw[bJ];omega
      obtain⟨bb,oo,rfl,EI,fe⟩:=(Sl.kZ zC).1.elem nT aH (0,0,0,0) (i:=i') aG;have e0:=fe 0 _ rfl;rw[dB]at e0;have hte:(E.take i).getD i' (0,0,0,0)=E.getD i' (0,0,0,0):=by
       rw[aZ,dM,if_pos aG,aZ]
      rw[hte]at e0;clear fe hte;have hxx:=TV.o;have hrs:∀j,j+1<i+1→j≠i'→(E.getD j (0,0,0,0)).1<(E.getD (j+1) (0,0,0,0)).1:=fun j hj pQ=>aM8.o j aG;have sJ:¬(E.getD i' (0,0,0,0)).1<x1→IK E=false:=fun hh=>a0E (i:=i') (by rw[VA.o];omega) (by rw[vN,hxx];exact hh);have UJ:(E.getD i' (0,0,0,0)).1<x1→∀j,j+1<i+1→(E.getD j (0,0,0,0)).1<(E.getD (j+1) (0,0,0,0)).1:=fun hh j hj=>by
       by_cases IB:j=i'
       ·subst IB;rw[vN,hxx];exact hh
       ·exact hrs j hj IB
      obtain⟨pv,hpv⟩:∃z,(E.getD i' (0,0,0,0)).1=z:=⟨_,rfl⟩;rw[hpv]at sJ UJ e0;have q5:∀s,(f2 s).cell? ⟨bb,oo+i'*4,none⟩=some (.int .i64 pv):=fun s=>late (LZ s) EI e0;have aS4:(i':Int)<i:=by omega
      have aPC:i'<i:=by omega
      have aTK:(0:Int)≤(i':Int):=by omega
      clear e0 hpv hrs AY hxx;obtain⟨EF,sW,J4,aKO,EM,vT,aE3⟩:=aO zC VJ b8d LZ wL sJ UJ;clear zC VJ b8d LZ wL sJ UJ;by_cases hpt:pv<x1
      ·have p3:decide (pv<x1)=true:=by simp;omega
       have QN:=aE3.o hpt;clear vN hpt;have VN:=aA QN;clear QN;go_wp2_with fail
       refine kR (S:=fun W=>∃s,W=f2 s) aF 14 rfl ?_;refine jZ [0,1,2,3,4,5,6,7,8,9,10,11,12] 1 aF aI aF aF aF HS.o ?_;simp only[jW,aW,aX,aU,aV];iterate 13 (go_big_quiet_step (fail))
       refine wpQuiet_nil ?_;refine jX 13 0 aF aF ?_;simp only[jW,aW,aX,aU,aV];go_wp2_with fail
       refine(LY _ _).mono ?_;rintro e w9 ⟨rfl,rfl⟩;go_wp2_with fail
       first|refine Mid.mk ⟨HS.o,?_⟩|refine Mid.mk ?_
       refine kH aF ?_;have xP:w8.drew.ownsRow w5.heap.size 55 4 _ i (fl oF (E.take i)):=EF.o;have vP:=sW.o.trans (((bF w8.heap.size w8).drew).mono sW.o.size);clear q0;try clear q5
       obtain⟨w9,hw9⟩:=aC w8.drew;rw[hw9]at J4 xP vP;rw[hw9];clear hw9 HS;have p0:=J4.o.cell (i:=0) rfl;have p1:=J4.o.cell (i:=1) rfl;have p2:=J4.o.cell (i:=2) rfl;have p3x:=J4.o.cell (i:=3) rfl;obtain⟨yG,qB⟩:=aJ xP vP;clear xP vP;go_wp2_with (at_builtin;refine mU rfl _ _ 154 rfl w5.heap.size 55 i0 z0 4 32 Tryz.underlying154 AY hz qC wY ZA aH _ i _ rfl (fB yG.o _) ⟨w9.heap.size,0,none⟩ 1 1 (oF (x1,x2,x3,x4)) rfl (Sl.new w9 55 4 1 #[.int .i64 x1,.int .i64 x2,.int .i64 x3,.int .i64 x4] (0,0) aG rfl) (BV _) aG aH (by have:=qB.o.size;simp;omega) ?_;intro a5 c5 wa ob VZ hoa;clear hoa;obtain⟨Ob,Hba⟩:=aJ ob (below_grown (qB.o.alloc qB.o.size _) VZ (by have:=qB.o.size;simp;omega) (fB yG.o _));clear ob VZ)
       go_roundw
       case rel=>exact⟨i+1,a5,c5,by omega,by go_num,rfl,aA (by
        have h:=Ob.o;rw[←yM]at h;rw[fC (by rw[VA.o];exact kY),←kF (d:=(0,0,0,0)),TV.o];exact h),VN,Hba⟩
       case measure=>simp[intOf];omega
      ·have p3:decide (pv<x1)=false:=by simp;omega
       have OD:=qM.o;rw[vT.o hpt]at OD;obtain rfl:R= .error 2:=by rw[←OD];rfl
       clear vN hpt OD;go_wp2_with fail
       refine kR (S:=fun W=>∃s,W=f2 s) aF 14 rfl ?_;refine jZ [0,1,2,3,4,5,6,7,8,9,10,11,12] 1 aF aI aF aF aF HS.o ?_;simp only[jW,aW,aX,aU,aV];iterate 13 (go_big_quiet_step (fail))
       refine wpQuiet_nil ?_;refine jX 13 0 aF aF ?_;simp only[jW,aW,aX,aU,aV];go_wp2_with fail
       refine(YE _ _).mono ?_;rintro e w9 ⟨rfl,rfl⟩;refine ED ?_;go_wp2_with fail
       exact⟨rfl,rfl,sv1,a1F.o.later (sW.o.trans (((bF _ _).drew).mono sW.o.size))⟩
   ·obtain rfl:i=k:=by omega
    have OD:=qM.o;rw[a5Z (fun j hj=>aM8.o j (by rw[VA.o]at hj;exact hj))]at OD;obtain rfl:R= .ok (E,s1):=by rw[←OD];rfl
    clear OD;go_wp2_with fail
    go_ret;refine⟨sv1,tk1,G9.o.later hb.o,a1F.o.later hb.o,a,i,c,rfl,?_,fun kk e h=>?_⟩
    ·have h:=mK.o;rw[bW (by rw[VA.o];exact aY _)]at h;rw[VA.o];exact lN h hw5
    ·have h1:=(mK.o.lt kk e).1;have h2:=(G9.o.spot.lt kk h).2;omega
