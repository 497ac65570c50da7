import Derived.Test.YtceclmpmpldmlaaGreatCw26
set_option linter.unusedSimpArgs false
set_option linter.unusedVariables false
namespace Go.Proofs.YtceclmpmpldmlaaGreat
open Go.RowKit Tt
theorem LX (a:Option Addr) (n c:Nat) (z:List Int) (o at_ size:Int) (w:World) (hs:Sl w a n c 1 (ints .u8 z)) (hb:pF z):
  Calls Tryz.prog 209 #[.agg #[.slice a n c,.int .i64 o],.int .i64 at_,.int .i64 size] w fun e w'=>e= .returned (.int .i64 (mM z at_ size o))∧Below w.heap.size w w':=by
 have hG:=fun W (h:Below w.heap.size w W)=>aAZ a n c z at_ size o W (hs.mono h) hb;generalize mM z at_ size o=v at*;generalize a1S n at_ size o=b at*;have hG':=aA hG;clear hG;go_enter Tryz.func209,Tryz.ntmps209;go_wp2_with fail
 have kV:=aD w (.cells #[.slice a n c,.int .i64 o] 145);refine(hG'.o _ kV).mono ?_;rintro e w2 ⟨rfl,kP⟩;have hb:=kV.tm kP;clear kP kV;have pW:=aA hb;clear hb;go_wp2_with fail
 go_ret;exact⟨rfl,pW.o⟩
theorem mF (e:Int):aW7 true e= .returned (.tuple #[]):=rfl
theorem mG (e:Int):aW7 false e= .panicked (pan e):=rfl
theorem LY (e:Int) (w:World):Calls Tryz.prog 143 #[.bool true,.int .i64 e] w fun x w'=>x= .returned (.tuple #[])∧w=w':=lJ true e w
theorem YE (e:Int) (w:World):Calls Tryz.prog 143 #[.bool false,.int .i64 e] w fun x w'=>x= .panicked (pan e)∧w=w':=lJ false e w
theorem ED {K:Act→World→Prop} {Q:Exit→Act→World→Prop} {a:Act} {w:World} {c:List PanicEntry} (h:Q (.panic c) a w):Mid K Q (.panic c) a w:=h
def a1E {α:Type} (K:WkS) (sv:Value) (w:World) (R:Except Int (α×St)) (good:α→Value→Ending→World→Prop) (e:Ending) (w':World):Prop:=match R with
 | .error x=>e= .panicked (pan x)∧∃zS,Mv K.g K.gt sv zS w w'
 | .ok (v,s')=>∃zS tk',zJ K s' zS tk' w'∧Mv K.g K.gt sv zS w w'∧good v zS e w'
def b7L (R:Except Int St):Except Int (Unit×St):=match R with
 | .error x=> .error x
 | .ok s=> .ok ((),s)
theorem aWB {s:St} {A:Int} {L k:Nat} (hk:k<L) (h:nH s (A+k)=true):WW s A L=false:=by
 unfold WW;exact List.all_eq_false.2 ⟨k,cZ.2 hk,by rw[h];simp⟩
theorem aR2 {s:St} {A:Int} {L:Nat} (h:∀k,k<L→nH s (A+k)=false):WW s A L=true:=by
 unfold WW;exact dI.2 fun k hk=>by rw[h k (cZ.1 hk)];rfl
theorem bEI:(Tryz.prog.info? 50).map (fun i=>(i.size,i.bytes))=some (5,40):=by kernel_rfl
theorem b4J:(Tryz.prog.info? 50).map (fun i=>i.zero.map (fun z=>z.cells.size))=some (some 5):=by kernel_rfl
theorem SK {T:TypeId} {sz MC:Nat} (h1:(Tryz.prog.info? T).map (fun i=>(i.size,i.bytes))=some (sz,MC)) (h2:(Tryz.prog.info? T).map (fun i=>i.zero.map (fun z=>z.cells.size))=some (some sz)):
  ∃(i:TypeInfo) (z:Value),Tryz.prog.info? T=some i∧i.zero=some z∧i.size=sz∧i.bytes=MC∧z.cells.size=sz:=by
 cases hi:Tryz.prog.info? T with
 |none=>rw[hi]at h1;cases h1
 |some i=>
  rw[hi]at h1 h2;simp only[gM,fQ,iF]at h1 h2;cases hz:i.zero with
  |none=>rw[hz]at h2;cases h2
  |some z=>
   rw[hz]at h2;simp only[gM,fQ]at h2;exact⟨i,z,rfl,hz,h1.1,h1.2,h2⟩
theorem QL (s:St) (x:mZ) (k:Int):nH {s with o5:=s.o5++ [x]} k=(nH s k||ZT k x):=by
 unfold nH;simp
set_option maxRecDepth 20000 in
set_option maxHeartbeats 8000000 in
theorem QM (K:WkS) (t:WkT K) (s:St) (sv:Value) (tk:List Nat) (w:World) (x:mZ) (wP:zJ K s sv tk w) (A L:Nat) (hA:x.2.2.2.1=A) (hL:x.2.2.2.2=L) (hA2:A≤4294967295) (hL2:L≤4294967295) (EJ:s.o5.length≤4294967295):
  Calls Tryz.prog 210 #[.pointer (some ⟨K.g,0,none⟩),.agg #[.int .i64 x.1,.int .i64 x.2.1,.int .i64 x.2.2.1,.int .i64 x.2.2.2.1,.int .i64 x.2.2.2.2]] w (a1E K sv w (b7L (oG K.n x s)) fun _ _ e _=>e= .returned (.tuple #[])):=by
 obtain⟨x0,x1,x2,A',L'⟩:=x;simp only at hA hL;subst hA hL;simp only;have hn:=t.n1;have htn:=t.tn;obtain⟨R,hR⟩:=aC (oG K.n (x0,x1,x2,(A:Int),(L:Int)) s);rw[hR];unfold oG WX at hR;simp only[cB]at hR;have hRm:=fun W=>a3Z A L K.n W aG aG;have htm:Int.tmod (A:Int) 2=(A:Int) % 2:=iR aG;obtain⟨nJ,t',aCC⟩:=aK wP t hRm;clear wP t hRm;by_cases hev:(A:Int) % 2=0
 case neg=>
  have d1:((A:Int) % 2==0)=false:=by simp[hev]
  obtain rfl:R= .error 4:=by rw[←hR,decide_eq_false hev];simp
  clear hR hev;go_enter Tryz.func210,Tryz.ntmps210;go_upto_region 1 with fail
  have b3:=kG.new w 50 #[.int .i64 x0,.int .i64 x1,.int .i64 x2,.int .i64 A,.int .i64 L];have kV:=aD w (.cells #[.int .i64 x0,.int .i64 x1,.int .i64 x2,.int .i64 A,.int .i64 L] 50);have FK:=nJ.o.later kV;obtain⟨w1,xR⟩:=aC (w.alloc (.cells #[.int .i64 x0,.int .i64 x1,.int .i64 x2,.int .i64 A,.int .i64 L] 50));rw[xR]at b3 kV FK;try rw[xR]
  clear xR;obtain⟨gs,GZ⟩:=aC w.heap.size;rw[GZ]at b3;try rw[GZ]
  have hgK:K.g<gs:=by rw[←GZ];exact nJ.o.blk.lt
  have bLP:K.gt<gs:=by rw[←GZ];exact kG.lt (T:=214) nJ.o.tak
  obtain⟨Ty,f,pQ,kI,kE⟩:=kM w1;have q3:=fun s=>(kG.late b3 (kI s)).cell (i:=3) rfl;have q4:=fun s=>(kG.late b3 (kI s)).cell (i:=4) rfl;have q0:=fun s=>(kG.late FK.blk (kI s)).cell (i:=0) rfl;obtain⟨HS,HD,b3',lZ,G9,kD,jV,a2M⟩:=aP (kE _ ((bF _ _).drew)) ((bF w1.heap.size w1).drew) b3 kV FK kI kE GZ;clear b3 kV FK kI kE GZ;go_wp2_with fail
  refine kR (S:=fun W=>∃s,W=f s) aF 18 rfl ?_;refine jZ [0,1,2,3,4,5,6,7,8,9,10,11,12,13,14] 3 aF aI aF aF aF HS.o ?_;simp only[jW,aW,aX,aU,aV];iterate 15 (go_big_quiet_step (fail))
  refine wpQuiet_nil ?_;refine jX 15 2 aF aF ?_;simp only[jW,aW,aX,aU,aV];go_wp2_with fail
  first|refine Mid.mk ⟨HS.o,?_⟩|skip
  refine jZ [16] 1 aF aI aF aF aF HS.o ?_;simp only[jW,aW,aX,aU,aV];iterate 1 (go_big_quiet_step (fail))
  refine wpQuiet_nil ?_;refine jX 17 0 aF aF ?_;simp only[jW,aW,aX,aU,aV];go_wp2_with fail
  refine(YE _ _).mono ?_;rintro e w2 ⟨rfl,rfl⟩;refine ED ?_;go_wp2_with fail
  exact⟨rfl,rfl,sv,Mv.of_below (lZ.o.tm HD.o)⟩
 case pos=>
  have d1:((A:Int) % 2==0)=true:=by simp[hev]
  rw[decide_eq_true hev,dL]at hR;obtain⟨r,hr⟩:=aC (zZ A L K.n);rw[hr]at hR aCC;cases r
  case false=>
   obtain rfl:R= .error 4:=by rw[←hR];simp
   clear hR hev hr;go_enter Tryz.func210,Tryz.ntmps210;go_upto_region 1 with fail
   have b3:=kG.new w 50 #[.int .i64 x0,.int .i64 x1,.int .i64 x2,.int .i64 A,.int .i64 L];have kV:=aD w (.cells #[.int .i64 x0,.int .i64 x1,.int .i64 x2,.int .i64 A,.int .i64 L] 50);have FK:=nJ.o.later kV;obtain⟨w1,xR⟩:=aC (w.alloc (.cells #[.int .i64 x0,.int .i64 x1,.int .i64 x2,.int .i64 A,.int .i64 L] 50));rw[xR]at b3 kV FK;try rw[xR]
   clear xR;obtain⟨gs,GZ⟩:=aC w.heap.size;rw[GZ]at b3;try rw[GZ]
   have hgK:K.g<gs:=by rw[←GZ];exact nJ.o.blk.lt
   have bLP:K.gt<gs:=by rw[←GZ];exact kG.lt (T:=214) nJ.o.tak
   obtain⟨Ty,f,pQ,kI,kE⟩:=kM w1;have q3:=fun s=>(kG.late b3 (kI s)).cell (i:=3) rfl;have q4:=fun s=>(kG.late b3 (kI s)).cell (i:=4) rfl;have q0:=fun s=>(kG.late FK.blk (kI s)).cell (i:=0) rfl;obtain⟨HS,HD,b3',lZ,G9,kD,jV,a2M⟩:=aP (kE _ ((bF _ _).drew)) ((bF w1.heap.size w1).drew) b3 kV FK kI kE GZ;clear b3 kV FK kI kE GZ;go_wp2_with fail
   refine kR (S:=fun W=>∃s,W=f s) aF 18 rfl ?_;refine jZ [0,1,2,3,4,5,6,7,8,9,10,11,12,13,14] 3 aF aI aF aF aF HS.o ?_;simp only[jW,aW,aX,aU,aV];iterate 15 (go_big_quiet_step (fail))
   refine wpQuiet_nil ?_;refine jX 15 2 aF aF ?_;simp only[jW,aW,aX,aU,aV];go_wp2_with fail
   refine(aCC.o _).mono ?_;rintro e w2 ⟨rfl,rfl⟩;go_wp2_with fail
   first|refine Mid.mk ⟨HS.o,?_⟩|skip
   refine jZ [16] 1 aF aI aF aF aF HS.o ?_;simp only[jW,aW,aX,aU,aV];iterate 1 (go_big_quiet_step (fail))
   refine wpQuiet_nil ?_;refine jX 17 0 aF aF ?_;simp only[jW,aW,aX,aU,aV];go_wp2_with fail
   refine(YE _ _).mono ?_;rintro e w2 ⟨rfl,rfl⟩;refine ED ?_;go_wp2_with fail
   exact⟨rfl,rfl,sv,Mv.of_below (lZ.o.tm HD.o)⟩
  case true=>
   have hAL:A+L≤K.n:=by unfold zZ at hr;simp at hr;omega
   rw[if_pos rfl]at hR;clear hev hr;have qM:=aA hR;clear hR;go_enter Tryz.func210,Tryz.ntmps210;go_upto_region 1 with fail
   have b3:=kG.new w 50 #[.int .i64 x0,.int .i64 x1,.int .i64 x2,.int .i64 A,.int .i64 L];have kV:=aD w (.cells #[.int .i64 x0,.int .i64 x1,.int .i64 x2,.int .i64 A,.int .i64 L] 50);have FK:=nJ.o.later kV;obtain⟨w1,xR⟩:=aC (w.alloc (.cells #[.int .i64 x0,.int .i64 x1,.int .i64 x2,.int .i64 A,.int .i64 L] 50));rw[xR]at b3 kV FK;try rw[xR]
   clear xR;obtain⟨gs,GZ⟩:=aC w.heap.size;rw[GZ]at b3;try rw[GZ]
   have hgK:K.g<gs:=by rw[←GZ];exact nJ.o.blk.lt
   have bLP:K.gt<gs:=by rw[←GZ];exact kG.lt (T:=214) nJ.o.tak
   obtain⟨Ty,f,pQ,kI,kE⟩:=kM w1;have q3:=fun s=>(kG.late b3 (kI s)).cell (i:=3) rfl;have q4:=fun s=>(kG.late b3 (kI s)).cell (i:=4) rfl;have q0:=fun s=>(kG.late FK.blk (kI s)).cell (i:=0) rfl;obtain⟨HS,HD,b3',lZ,G9,kD,jV,a2M⟩:=aP (kE _ ((bF _ _).drew)) ((bF w1.heap.size w1).drew) b3 kV FK kI kE GZ;clear b3 kV FK kI kE GZ;go_wp2_with fail
   refine kR (S:=fun W=>∃s,W=f s) aF 18 rfl ?_;refine jZ [0,1,2,3,4,5,6,7,8,9,10,11,12,13,14] 3 aF aI aF aF aF HS.o ?_;simp only[jW,aW,aX,aU,aV];iterate 15 (go_big_quiet_step (fail))
   refine wpQuiet_nil ?_;refine jX 15 2 aF aF ?_;simp only[jW,aW,aX,aU,aV];go_wp2_with fail
   refine(aCC.o _).mono ?_;rintro e w2 ⟨rfl,rfl⟩;go_wp2_with fail
   first|refine Mid.mk ⟨HS.o,?_⟩|refine Mid.mk ?_
   refine jZ [16] 1 aF aI aF aF aF HS.o ?_;simp only[jW,aW,aX,aU,aV];iterate 1 (go_big_quiet_step (fail))
   refine wpQuiet_nil ?_;refine jX 17 0 aF aF ?_;simp only[jW,aW,aX,aU,aV];go_wp2_with fail
   refine(LY _ _).mono ?_;rintro e w2 ⟨rfl,rfl⟩;go_wp2_with fail
   first|refine Mid.mk ⟨HS.o,?_⟩|refine Mid.mk ?_
   refine kH aF ?_;clear q0 q3 q4 HS;have b3:=b3'.o.late HD.o;have aGD:=G9.o.later HD.o;have hbW:=lZ.o.tm HD.o;obtain⟨W,hW⟩:=aC w1.drew;rw[hW]at b3 aGD hbW;rw[hW];have c3:=b3.cell (i:=3) rfl;clear hW b3' G9 kD jV HD lZ;obtain⟨b3',K8,KI⟩:=aK b3 aGD hbW;clear b3 aGD hbW;go_wp2_with fail
   clear c3;go_loopw [4] (fun av wr=>∃(m:Nat) (tk2:List Nat),A≤m∧m≤A+L∧av= .int .i64 m∧Hid (Row wr K.gt 214 .u64 (QK tk2))∧Hid (tk2.length=K.tn)∧Hid (∀x∈tk2,x<18446744073709551616)∧Hid (∀j,j<K.n→a8M tk2 j=(nH s j||(decide (A≤j)&&decide (j<m))))∧Hid (∀i:Nat,A≤i→i<m→nH s i=false)∧Hid (But K.gt W wr)) (fun av _=>A+L - (intOf av).toNat)
   case atStart=>
    exact⟨A,tk,by omega,by omega,rfl,aA K8.o.tak,aA K8.o.tkl,aA K8.o.tkb,aA (fun j hj=>by rw[K8.o.bits j hj,show(decide (A≤j)&&decide (j<A))=false by simp,Bool.or_false]),aA (fun i h1 h2=>by omega),aA (But.refl _ _)⟩
   case round=>
    obtain⟨m,tk2,hm0,hm,rfl,nC,hl2,ZC,aS6,a1O,xY⟩:=hrel;have b3r:=b3'.o.but xY.o aG;have c3:=b3r.cell (i:=3) rfl;have c4:=b3r.cell (i:=4) rfl;have rE:=K8.o.blk.but xY.o t'.o.ne;have hw0:IntKind.i64.wrap ((A:Int)+L)=A+L:=by rw[bJ];omega
    clear b3r;by_cases kY:m<A+L
    ·have d2:decide ((m:Int)<A+L)=true:=by simp;omega
     have rH:m / 64<K.tn:=by omega
     have HI:=aWA K.g K.gt K.tn _ _ tk2 m wr rE rfl nC.o hl2.o ZC.o rH aG;have hbm:=aS6.o m aG;rw[show(decide (A≤m)&&decide (m<m))=false by simp,Bool.or_false]at hbm;rw[hbm]at HI;obtain⟨bt,mQ⟩:=aC (nH s m);rw[mQ]at HI;obtain⟨HI',c5Y,GN,RL⟩:=aL HI hbm mQ rE;clear HI hbm mQ rE;cases bt
     ·obtain⟨q,hq⟩:=aC (m / 64);obtain⟨r,KT⟩:=aC (m % 64);have hqi:(m:Int) / 64=q:=by omega
      rw[hq]at rH;have f0:=nC.o.cell (i:=q) (by simp[QK,hl2.o];omega);have y0:=nC.o.frozen q;rw[aGC (by rw[hl2.o];exact rH)]at f0;obtain⟨x,hx⟩:=aC (tk2.getD q 0);rw[hx]at f0;have aR1:x<18446744073709551616:=by
       rw[←hx,kF (show q<tk2.length by rw[hl2.o];exact rH)];exact ZC.o _ (bP _)
      have bEJ:2 ^ r<18446744073709551616:=by
       have:2 ^ r≤2 ^ 63:=Nat.pow_le_pow_right aH aG;omega
      have h1:bits .and .u64 (m:Int) 63=(r:Int):=by rw[a9Z m aG,KT]
      have h2:IntKind.u64.wrap (m:Int)=m:=by rw[IntKind.wrap_u64];omega
      have h3:IntKind.u64.wrap ((2:Int) ^ r)=((2 ^ r:Nat):Int):=by rw[IntKind.wrap_u64,show((2:Int) ^ r)=((2 ^ r:Nat):Int) by simp];exact Int.emod_eq_of_lt (Int.natCast_nonneg _) (Int.ofNat_lt.2 bEJ)
      have h4:bits .or .u64 (x:Int) ((2 ^ r:Nat):Int)=((x|||2 ^ r:Nat):Int):=bEH x _ aR1 bEJ;have hrr:r≤64:=by omega
      have hqn:(q:Int)<K.tn:=by omega
      have c5:=RL.o.cell (i:=3) rfl;have bIL:=aW9 (tk:=tk2) (k:=m) (by rw[hq,hl2.o];exact rH);rw[hq,KT,hx]at bIL;have hor:x|||2 ^ r<18446744073709551616:=Nat.or_lt_two_pow (n:=64) aR1 bEJ
      generalize hP:2 ^ r=P at*;obtain⟨bTM,bWX,TV,c2X⟩:=aL bIL hor hx aR1;clear bIL hor hx aR1;go_wp2_with (first|(go_at_call 86;refine(HI'.o).mono ?_;rintro e w3 ⟨rfl,rfl⟩)|(go_at_call 143;refine(LY _ _).mono ?_;rintro e w3 ⟨rfl,rfl⟩))
      go_roundw
      case rel=>
       refine⟨m+1,tk2.set q (x|||P),by omega,by omega,by go_num,aA ?_,aA (by rw[List.length_set];exact hl2.o),aA (fun y hy=>?_),aA (fun j hj=>?_),aA (fun i h1 h2=>?_),aA (xY.o.set q _)⟩
       ·have h:=nC.o.set q ((x|||P:Nat):Int);rw[aW8]at h;exact h
       ·rcases List.mem_or_eq_of_mem_set hy with h|h
        ·exact ZC.o y h
        ·rw[h];exact bWX.o
       ·rw[bTM.o j,aS6.o j hj,dY];simp only[dN,bK,decide_eq_true_eq];constructor
        ·rintro((h|h)|h)
         ·exact .inl h
         ·exact .inr aG
         ·exact .inr aG
        ·rintro(h|h)
         ·exact .inl (.inl h)
         ·by_cases hjm:j=m
          ·exact .inr hjm
          ·exact .inl (.inr aG)
       ·by_cases him:i=m
        ·subst him;exact GN.o
        ·exact a1O.o i h1 aG
      case measure=>simp[intOf];omega
     ·obtain rfl:R= .error 5:=by
       have h5:=aWB (s:=s) (A:=A) (L:=L) (k:=m - A) aG (by rw[show(A:Int)+((m - A:Nat):Int)=m by omega];exact GN.o);have h6:=qM.o;simp only[h5]at h6;simpa using h6.symm
      go_wp2_with (first|(go_at_call 86;refine(HI'.o).mono ?_;rintro e w3 ⟨rfl,rfl⟩)|(go_at_call 143;refine(YE _ _).mono ?_;rintro e w3 ⟨rfl,rfl⟩))
      exact⟨rfl,rfl,sv,(Mv.of_below KI.o).trans (Mv.E5 xY.o (.inr rfl))⟩
    ·obtain rfl:m=A+L:=by omega
     have hfr:=aR2 (s:=s) (A:=A) (L:=L) (fun k hk=>a1O.o (A+k) aG aG);have bWY:R= .ok {s with o5:=s.o5++ [(x0,x1,x2,(A:Int),(L:Int))]}:=by
      have h6:=qM.o;simp only[hfr]at h6;simpa using h6.symm
     subst bWY;go_wp2_with fail
     clear c3 c4;have bLQ:Row wr K.gt 214 .u64 (QK tk2):=nC.o;have bBD:=mV K8.o.spot xY.o K8.o.sgt;have b3r:=b3'.o.but xY.o aG;have aI8:Below K.w0.heap.size K.w0 wr:=K8.o.old.trans (xY.o.below t'.o.gtB K8.o.old.size);have yJ:Mv K.g K.gt sv sv w wr:=(Mv.of_below KI.o).trans (Mv.E5 xY.o (.inr rfl));obtain⟨Ty2,f2,EH,TA,wL⟩:=K7 (fun W2=>kG W2 K.g 148 #[.slice K.a K.n K.c,.int .i64 K.o,.slice K.sa K.sn K.sc,.slice (some ⟨K.gt,0,none⟩) K.tn K.tn,sv,.int .i64 s.no,.int .i64 s.xH]∧kG W2 gs 50 #[.int .i64 x0,.int .i64 x1,.int .i64 x2,.int .i64 A,.int .i64 L]) wr ⟨rE,b3r⟩;have q4:∀s,(f2 s).cell? ⟨K.g,4,none⟩=some sv:=fun s=>(TA s).1.cell rfl;have r0:∀s,(f2 s).cell? ⟨gs,0,none⟩=some (.int .i64 x0):=fun s=>(TA s).2.cell rfl;have r1:∀s,(f2 s).cell? ⟨gs,1,none⟩=some (.int .i64 x1):=fun s=>(TA s).2.cell rfl;have r2:∀s,(f2 s).cell? ⟨gs,2,none⟩=some (.int .i64 x2):=fun s=>(TA s).2.cell rfl;have r3:∀s,(f2 s).cell? ⟨gs,3,none⟩=some (.int .i64 A):=fun s=>(TA s).2.cell rfl;have r4:∀s,(f2 s).cell? ⟨gs,4,none⟩=some (.int .i64 L):=fun s=>(TA s).2.cell rfl;have HS:=aA (wL wr.drew ⟨rE,b3r⟩);obtain⟨i0,z0,AY,hz,qC,wY,ZA⟩:=SK bEI b4J;obtain⟨bLR,bEK,bWZ,b1W,IQ,aTN,EM,RL⟩:=aP bLQ bBD b3r aI8 yJ TA wL rE;clear bLQ bBD b3r aI8 yJ TA wL rE;refine xX (t:=10) (C:=fun W=>∃s,W=f2 s) aF 11 rfl ?_;refine DX [0,1,2,3] 7 aF aI aF aF aF HS.o ?_;simp only[jW,aW,aX,aU,aV];iterate 4 (go_big_quiet_step (fail))
     refine wpQuiet_nil ?_;refine pR [4,5] 5 aF aI aF aF aF HS.o ?_;simp only[jW,aW,aX,aU,aV];iterate 2 (go_big_quiet_step (fail))
     refine wpQuiet_nil ?_;clear q4 r0 r1 r2 r3 r4;refine mJ 6 4 aF aF ?_;simp only[jW,aW,aX,aU,aV];go_wp2_with fail
     have kU:=(aD wr (.cells #[.int .i64 x0,.int .i64 x1,.int .i64 x2,.int .i64 A,.int .i64 L] 50)).drew;have C8:Sl (wr.alloc (.cells #[.int .i64 x0,.int .i64 x1,.int .i64 x2,.int .i64 A,.int .i64 L] 50)).drew (some ⟨wr.heap.size,0,none⟩) 1 1 5 (spC (x0,x1,x2,(A:Int),(L:Int))):=(Sl.new wr 50 5 1 #[.int .i64 x0,.int .i64 x1,.int .i64 x2,.int .i64 A,.int .i64 L] (0,0) aG rfl).mono ((bF _ _).drew);have aOK:=RL.o.late kU;have b37:=bWZ.o.late kU;have aKM:=l6 bEK.o kU;have aWC:Row _ K.gt 214 .u64 (QK tk2):=kG.late (T:=214) bLR.o kU;have aWD:=b1W.o.tm kU;have AV:=IQ.o.later kU;have bEL:=kU.size;obtain⟨w7,hw7⟩:∃w7,(wr.alloc (.cells #[.int .i64 x0,.int .i64 x1,.int .i64 x2,.int .i64 A,.int .i64 L] 50)).drew=w7:=⟨_,rfl⟩;rw[hw7]at aOK b37 aKM aWC aWD AV C8 bEL;rw[hw7];obtain⟨gn,hgn⟩:=aC wr.heap.size;rw[hgn]at C8;rw[hgn];clear hw7 kU HS hgn;have HS:=aA (EM.o w7 ⟨aOK,b37⟩);have aSC:sv.ownBlock≠some K.g:=K8.o.sg;have b7M:sv.ownBlock≠some K.gt:=K8.o.sgt;have b7N:sv.ownBlock≠some gs:=fun e=>by have:=(nJ.o.spot.lt _ e).2;have:=a2M.o;omega
     obtain⟨aWE,bX0,aND,aWF,aKN,aWG,NP,b7O,aWH,bEM⟩:=aR aOK b37 aKM aWC aWD AV C8 aSC b7M b7N;clear aOK b37 aKM aWC aWD AV C8 aSC b7M b7N;first|refine Mid.mk ⟨fun _=>HS.o,?_⟩|refine Mid.mk ?_
     refine mJ 7 3 aF aF ?_;simp only[jW,aW,aX,aU,aV];go_wp2_with (at_builtin;refine mU rfl _ _ 43 rfl K.w0.heap.size 50 i0 z0 5 40 Tryz.underlying43 AY hz qC wY ZA aH sv s.o5.length _ rfl aND.o ⟨gn,0,none⟩ 1 1 (spC (x0,x1,x2,(A:Int),(L:Int))) rfl NP.o (aMT _) aG aH aKN.o.size ?_;intro a8 c8 w8 ob hg8 zC;obtain⟨Ob,Hg8,Ho8⟩:=aK ob hg8 zC;clear ob hg8 zC)
     have aGE:=aWE.o.grown Hg8.o b7O.o;have b38:=bX0.o.grown Hg8.o bEM.o;have b7P:Row w8 K.gt 214 .u64 (QK tk2):=kG.grown (T:=214) aWF.o Hg8.o aWH.o;have yA:=aWG.o.trans (Mv.WY Hg8.o Ho8.o);have b7Q:=below_grown aKN.o Hg8.o aKN.o.size aND.o;have c5Z:=aWE.o.lt;have c2Y:=kG.lt (T:=214) aWF.o;have MB:(Value.slice a8 (s.o5.length+1) c8).ownBlock≠some K.g:=fun e=>by rcases Ho8.o _ e with h|h <;> first|exact b7O.o h|omega
     have bTN:(Value.slice a8 (s.o5.length+1) c8).ownBlock≠some K.gt:=fun e=>by rcases Ho8.o _ e with h|h <;> first|exact aWH.o h|omega
     have HS:=aA (EM.o w8 ⟨aGE,b38⟩);have p4:=aGE.cell (i:=4) rfl;have y4:=aGE.frozen 4;clear b38;obtain⟨bEN,bEO,zD,aWI,aQC,bLS⟩:=aN aGE b7P yA b7Q MB bTN;clear aGE b7P yA b7Q MB bTN;first|refine Mid.mk ⟨fun _=>HS.o,?_⟩|refine Mid.mk ?_
     refine DX [8,9] 1 aF aI aF aF aF HS.o ?_;simp only[jW,aW,aX,aU,aV];iterate 2 (go_big_quiet_step (fail))
     refine wpQuiet_nil ?_;refine mJ 10 0 aF aF ?_;simp only[jW,aW,aX,aU,aV];go_wp2_with fail
     first|refine Mid.mk ⟨fun h=>(by simp[TF]at h),?_⟩|refine Mid.mk ?_
     refine zY aF ?_;clear p4 y4;go_wp2_with fail
     refine bodyPost_end (results_none rfl _ _ _) rfl ?_;refine⟨.slice a8 (s.o5.length+1) c8,tk2,⟨aWI.o.trans (((But.refl K.g w8).set 4 _).below t'.o.gB aWI.o.size),bEN.o.set 4 _,kG.mO (T:=214) bEO.o (Ne.symm t'.o.ne) 4 _,hl2.o,ZC.o,fun j hj=>?_,?_,aQC.o,bLS.o⟩,zD.o.trans (Mv.E5 ((But.refl K.g w8).set 4 _) (.inl rfl)),rfl⟩
     ·rw[aS6.o j hj,QL];congr 1
      unfold ZT;rw[dY];simp;omega
     ·have h:=mV Ob.o ((But.refl K.g w8).set 4 (.slice a8 (s.o5.length+1) c8)) aQC.o;rw[cO,yM];exact h
