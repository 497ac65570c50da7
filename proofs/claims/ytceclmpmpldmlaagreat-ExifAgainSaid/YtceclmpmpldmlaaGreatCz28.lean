import Derived.Test.YtceclmpmpldmlaaGreatCz27
set_option linter.unusedSimpArgs false
set_option linter.unusedVariables false
set_option maxRecDepth 100000
set_option maxHeartbeats 8000000
namespace Go.Proofs.YtceclmpmpldmlaaGreat
open Go.RowKit Tt
def rwB (x:oN):Nat→Bool
 |0=>qV 0 x.z
 |1=>qV 2 x.p
 |2=>qV 3 x.g
 |3=>qV 4 x.i
 |_=>qV 1 x.f
theorem aHW {x:oN} (h:∀j,j<5→rwB x j=true):xX x=true:=by
 unfold xX;rw[show qV 0 x.z=true from h 0 (by decide),show qV 2 x.p=true from h 1 (by decide),show qV 3 x.g=true from h 2 (by decide),show qV 4 x.i=true from h 3 (by decide),show qV 1 x.f=true from h 4 (by decide)];rfl
theorem EH {x:oN} {j:Nat} (hj:j<5) (h:rwB x j=false):xX x=false:=by
 unfold xX;rcases(by omega:j=0∨j=1∨j=2∨j=3∨j=4)with rfl|rfl|rfl|rfl|rfl
 ·rw[show qV 0 x.z=false from h];rfl
 ·rw[show qV 2 x.p=false from h];simp
 ·rw[show qV 3 x.g=false from h];simp
 ·rw[show qV 4 x.i=false from h];simp
 ·rw[show qV 1 x.f=false from h];simp
theorem a6M {x:oN} (h:¬(x.o=1∨x.o=2)):kY x=1:=if_neg h
theorem qN {x:oN} (h:x.o=1∨x.o=2) (h2:xX x=false):kY x=6:=by unfold kY;rw[if_pos h,if_neg (by rw[h2];decide)]
theorem ZR {x:oN} (h:x.o=1∨x.o=2) (h2:xX x=true):kY x=if x.mr.length≤65536∧0<a3H x then 0 else 6:=by unfold kY;rw[if_pos h,if_pos h2]
theorem aXW (a b c d e:Nat):([(a:Int),b,c,d,e].any fun x=>decide (0<x))=decide (0<a+b+c+d+e):=by
 rw[eP];simp;omega
structure WfE (x:oN):Prop where
 z:∀t∈x.z,a1P t
 p:∀t∈x.p,a1P t
 g:∀t∈x.g,a1P t
 i:∀t∈x.i,a1P t
 f:∀t∈x.f,a1P t
theorem uJ (x:oN) (A:ExA) (w:World) (h:ExR w x A) (hk:WfE x):
  Calls Tryz.prog 27 #[exV x.o A] w fun e w'=>e= .returned (.int .i64 (kY x))∧Below w.heap.size w w':=by
 obtain⟨za,zn,zc,pa,pn,pc,ga,gn,gc,ia,iN,ic,fa,fn,fc,ma,mn,mc,ta,tn,tc⟩:=A;obtain⟨o,z,p,g,i,f,mk,th⟩:=x;obtain⟨kz,kp,kg,ki,kf⟩:=hk;have aQI:=fun W=>U2 o ⟨za,zn,zc,pa,pn,pc,ga,gn,gc,ia,iN,ic,fa,fn,fc,ma,mn,mc,ta,tn,tc⟩ W;simp only[exV,OI]at aQI;obtain⟨aQJ,kz',kp',kg',ki',kf'⟩:=aJ aQI kz kp kg ki kf;clear aQI kz kp kg ki kf;obtain⟨hz,hp,hg,hi,hf,hm,ht⟩:=h;simp only[exV,OI]at*;have lz:=hz.len;have lp:=hp.len;have lg:=hg.len;have li:=hi.len;have lm:=hm.nV;have mz:=hz.max;have mp:=hp.max;have mg:=hg.max;have mi:=hi.max;have mm:=hm.max;have bE:=jJ.new w 61 #[.int .i64 o,.slice za zn zc,.slice pa pn pc,.slice ga gn gc,.slice ia iN ic,.slice fa fn fc,.slice ma mn mc,.slice ta tn tc];have hb:=aD w (.cells #[.int .i64 o,.slice za zn zc,.slice pa pn pc,.slice ga gn gc,.slice ia iN ic,.slice fa fn fc,.slice ma mn mc,.slice ta tn tc] 61);obtain⟨W,hW⟩:=aC (w.alloc (.cells #[.int .i64 o,.slice za zn zc,.slice pa pn pc,.slice ga gn gc,.slice ia iN ic,.slice fa fn fc,.slice ma mn mc,.slice ta tn tc] 61));rw[hW]at bE hb;have q0:W.cell? ⟨w.heap.size,0,none⟩=some (.int .i64 o):=bE.cell rfl;have q1:W.cell? ⟨w.heap.size,1,none⟩=some (.slice za zn zc):=bE.cell rfl;have q2:W.cell? ⟨w.heap.size,2,none⟩=some (.slice pa pn pc):=bE.cell rfl;have q3:W.cell? ⟨w.heap.size,3,none⟩=some (.slice ga gn gc):=bE.cell rfl;have q4:W.cell? ⟨w.heap.size,4,none⟩=some (.slice ia iN ic):=bE.cell rfl;have q5:W.cell? ⟨w.heap.size,5,none⟩=some (.slice fa fn fc):=bE.cell rfl;have q6:W.cell? ⟨w.heap.size,6,none⟩=some (.slice ma mn mc):=bE.cell rfl;have q7:W.cell? ⟨w.heap.size,7,none⟩=some (.slice ta tn tc):=bE.cell rfl;obtain⟨hz',hp',hg',hi',hf',hm',ht',lz',lp',lg',li',lm'⟩:=aP hz hp hg hi hf hm ht lz lp lg li lm;obtain⟨bE',hb',hW'⟩:=aG bE hb hW;clear hz hp hg hi hf hm ht lz lp lg li lm bE hb hW;go_enter Tryz.func27,Tryz.ntmps27;go_upto_region 1 with fail
 rw[hW'.o];by_cases ho1:o=1
 ·subst ho1;go_wp2_with fail
  refine(aQJ.o _).mono ?_;rintro e w1 ⟨rfl,hb1⟩;obtain⟨hbE,hbw⟩:=aF (bE'.o.late hb1) (hb'.o.tm hb1);clear hb1 q0 q1 q2 q3 q4 q5 q6 q7;go_wp2_with fail
  go_loopw [15] (fun iv wr=>∃(k:Nat) (ki:Int),k≤5∧ki=k∧iv= .int .i64 ki∧Hid (∀j,j<k→rwB ⟨1,z,p,g,i,f,mk,th⟩ j=true)∧Hid (Below w1.heap.size w1 wr)) (fun iv _=>5 - (intOf iv).toNat)
  case atStart=>exact⟨0,0,by omega,rfl,rfl,aA (fun j hj=>by omega),aA (aW _ _)⟩
  case round=>
   obtain⟨k,ki,hk,hki,rfl,hdn,nX⟩:=hrel;have hbr:=aA (hbw.o.tm nX.o);by_cases hlt:k<5
   ·rcases(by omega:k=0∨k=1∨k=2∨k=3∨k=4)with rfl|rfl|rfl|rfl|rfl
    ·obtain rfl:ki=0:=by omega
     have hidx:∀W,(Instr.index 125 (.agg #[.int .i64 0,.slice za zn zc,.int .i64 2,.slice pa pn pc,.int .i64 3,.slice ga gn gc,.int .i64 4,.slice ia iN ic,.int .i64 1,.slice fa fn fc]) (.int .i64 0)).run Tryz.prog W= .ok (.agg #[.int .i64 0,.slice za zn zc]) W:=fun W=>by kernel_rfl
     obtain⟨r,hr⟩:=aC (qV 0 z);have hR:=fun W (h:Below w.heap.size w W)=>yJ 0 za zn zc _ W (hz'.o.mono h).ts (by decide) kz'.o;rw[hr]at hR;obtain⟨hR',hr'⟩:=aF hR hr;clear hR hr;clear hk hlt hki;go_wp2_with fail
     refine(hR'.o _ (hbr.o.alloc hbr.o.size _)).mono ?_;rintro e w3 ⟨rfl,hb3⟩;have sI:=(nX.o.alloc nX.o.size _).trans (hb3.mono (nX.o.alloc nX.o.size _).size);have tK:=hbw.o.tm sI;clear hb3;obtain⟨xG,vK⟩:=aF sI tK;clear sI tK;cases r with
     |false=>
      have hrow:xX ⟨1,z,p,g,i,f,mk,th⟩=false:=EH (j:=0) (by decide) hr'.o;have hc6:=qN (x:=⟨1,z,p,g,i,f,mk,th⟩) (.inl rfl) hrow;obtain⟨hrow',H6⟩:=aF hrow hc6;clear hrow hc6;go_wp2_with fail
      go_ret;exact⟨by rw[H6.o];rfl,vK.o⟩
     |true=>
      go_wp2_with fail
      go_roundw
      case rel=>exact⟨1,1,by omega,rfl,rfl,aA (fun j hj=>by
       rcases(by omega:j<0∨j=0)with h|h
       ·exact hdn.o j h
       ·subst h;exact hr'.o),xG⟩
      case measure=>simp[intOf]
    ·obtain rfl:ki=1:=by omega
     have hidx:∀W,(Instr.index 125 (.agg #[.int .i64 0,.slice za zn zc,.int .i64 2,.slice pa pn pc,.int .i64 3,.slice ga gn gc,.int .i64 4,.slice ia iN ic,.int .i64 1,.slice fa fn fc]) (.int .i64 1)).run Tryz.prog W= .ok (.agg #[.int .i64 2,.slice pa pn pc]) W:=fun W=>by kernel_rfl
     obtain⟨r,hr⟩:=aC (qV 2 p);have hR:=fun W (h:Below w.heap.size w W)=>yJ 2 pa pn pc _ W (hp'.o.mono h).ts (by decide) kp'.o;rw[hr]at hR;obtain⟨hR',hr'⟩:=aF hR hr;clear hR hr;clear hk hlt hki;go_wp2_with fail
     refine(hR'.o _ (hbr.o.alloc hbr.o.size _)).mono ?_;rintro e w3 ⟨rfl,hb3⟩;have sI:=(nX.o.alloc nX.o.size _).trans (hb3.mono (nX.o.alloc nX.o.size _).size);have tK:=hbw.o.tm sI;clear hb3;obtain⟨xG,vK⟩:=aF sI tK;clear sI tK;cases r with
     |false=>
      have hrow:xX ⟨1,z,p,g,i,f,mk,th⟩=false:=EH (j:=1) (by decide) hr'.o;have hc6:=qN (x:=⟨1,z,p,g,i,f,mk,th⟩) (.inl rfl) hrow;obtain⟨hrow',H6⟩:=aF hrow hc6;clear hrow hc6;go_wp2_with fail
      go_ret;exact⟨by rw[H6.o];rfl,vK.o⟩
     |true=>
      go_wp2_with fail
      go_roundw
      case rel=>exact⟨2,2,by omega,rfl,rfl,aA (fun j hj=>by
       rcases(by omega:j<1∨j=1)with h|h
       ·exact hdn.o j h
       ·subst h;exact hr'.o),xG⟩
      case measure=>simp[intOf]
    ·obtain rfl:ki=2:=by omega
     have hidx:∀W,(Instr.index 125 (.agg #[.int .i64 0,.slice za zn zc,.int .i64 2,.slice pa pn pc,.int .i64 3,.slice ga gn gc,.int .i64 4,.slice ia iN ic,.int .i64 1,.slice fa fn fc]) (.int .i64 2)).run Tryz.prog W= .ok (.agg #[.int .i64 3,.slice ga gn gc]) W:=fun W=>by kernel_rfl
     obtain⟨r,hr⟩:=aC (qV 3 g);have hR:=fun W (h:Below w.heap.size w W)=>yJ 3 ga gn gc _ W (hg'.o.mono h).ts (by decide) kg'.o;rw[hr]at hR;obtain⟨hR',hr'⟩:=aF hR hr;clear hR hr;clear hk hlt hki;go_wp2_with fail
     refine(hR'.o _ (hbr.o.alloc hbr.o.size _)).mono ?_;rintro e w3 ⟨rfl,hb3⟩;have sI:=(nX.o.alloc nX.o.size _).trans (hb3.mono (nX.o.alloc nX.o.size _).size);have tK:=hbw.o.tm sI;clear hb3;obtain⟨xG,vK⟩:=aF sI tK;clear sI tK;cases r with
     |false=>
      have hrow:xX ⟨1,z,p,g,i,f,mk,th⟩=false:=EH (j:=2) (by decide) hr'.o;have hc6:=qN (x:=⟨1,z,p,g,i,f,mk,th⟩) (.inl rfl) hrow;obtain⟨hrow',H6⟩:=aF hrow hc6;clear hrow hc6;go_wp2_with fail
      go_ret;exact⟨by rw[H6.o];rfl,vK.o⟩
     |true=>
      go_wp2_with fail
      go_roundw
      case rel=>exact⟨3,3,by omega,rfl,rfl,aA (fun j hj=>by
       rcases(by omega:j<2∨j=2)with h|h
       ·exact hdn.o j h
       ·subst h;exact hr'.o),xG⟩
      case measure=>simp[intOf]
    ·obtain rfl:ki=3:=by omega
     have hidx:∀W,(Instr.index 125 (.agg #[.int .i64 0,.slice za zn zc,.int .i64 2,.slice pa pn pc,.int .i64 3,.slice ga gn gc,.int .i64 4,.slice ia iN ic,.int .i64 1,.slice fa fn fc]) (.int .i64 3)).run Tryz.prog W= .ok (.agg #[.int .i64 4,.slice ia iN ic]) W:=fun W=>by kernel_rfl
     obtain⟨r,hr⟩:=aC (qV 4 i);have hR:=fun W (h:Below w.heap.size w W)=>yJ 4 ia iN ic _ W (hi'.o.mono h).ts (by decide) ki'.o;rw[hr]at hR;obtain⟨hR',hr'⟩:=aF hR hr;clear hR hr;clear hk hlt hki;go_wp2_with fail
     refine(hR'.o _ (hbr.o.alloc hbr.o.size _)).mono ?_;rintro e w3 ⟨rfl,hb3⟩;have sI:=(nX.o.alloc nX.o.size _).trans (hb3.mono (nX.o.alloc nX.o.size _).size);have tK:=hbw.o.tm sI;clear hb3;obtain⟨xG,vK⟩:=aF sI tK;clear sI tK;cases r with
     |false=>
      have hrow:xX ⟨1,z,p,g,i,f,mk,th⟩=false:=EH (j:=3) (by decide) hr'.o;have hc6:=qN (x:=⟨1,z,p,g,i,f,mk,th⟩) (.inl rfl) hrow;obtain⟨hrow',H6⟩:=aF hrow hc6;clear hrow hc6;go_wp2_with fail
      go_ret;exact⟨by rw[H6.o];rfl,vK.o⟩
     |true=>
      go_wp2_with fail
      go_roundw
      case rel=>exact⟨4,4,by omega,rfl,rfl,aA (fun j hj=>by
       rcases(by omega:j<3∨j=3)with h|h
       ·exact hdn.o j h
       ·subst h;exact hr'.o),xG⟩
      case measure=>simp[intOf]
    ·obtain rfl:ki=4:=by omega
     have hidx:∀W,(Instr.index 125 (.agg #[.int .i64 0,.slice za zn zc,.int .i64 2,.slice pa pn pc,.int .i64 3,.slice ga gn gc,.int .i64 4,.slice ia iN ic,.int .i64 1,.slice fa fn fc]) (.int .i64 4)).run Tryz.prog W= .ok (.agg #[.int .i64 1,.slice fa fn fc]) W:=fun W=>by kernel_rfl
     obtain⟨r,hr⟩:=aC (qV 1 f);have hR:=fun W (h:Below w.heap.size w W)=>yJ 1 fa fn fc _ W (hf'.o.mono h).ts (by decide) kf'.o;rw[hr]at hR;obtain⟨hR',hr'⟩:=aF hR hr;clear hR hr;clear hk hlt hki;go_wp2_with fail
     refine(hR'.o _ (hbr.o.alloc hbr.o.size _)).mono ?_;rintro e w3 ⟨rfl,hb3⟩;have sI:=(nX.o.alloc nX.o.size _).trans (hb3.mono (nX.o.alloc nX.o.size _).size);have tK:=hbw.o.tm sI;clear hb3;obtain⟨xG,vK⟩:=aF sI tK;clear sI tK;cases r with
     |false=>
      have hrow:xX ⟨1,z,p,g,i,f,mk,th⟩=false:=EH (j:=4) (by decide) hr'.o;have hc6:=qN (x:=⟨1,z,p,g,i,f,mk,th⟩) (.inl rfl) hrow;obtain⟨hrow',H6⟩:=aF hrow hc6;clear hrow hc6;go_wp2_with fail
      go_ret;exact⟨by rw[H6.o];rfl,vK.o⟩
     |true=>
      go_wp2_with fail
      go_roundw
      case rel=>exact⟨5,5,by omega,rfl,rfl,aA (fun j hj=>by
       rcases(by omega:j<4∨j=4)with h|h
       ·exact hdn.o j h
       ·subst h;exact hr'.o),xG⟩
      case measure=>simp[intOf]
   ·obtain rfl:k=5:=by omega
    obtain rfl:ki=5:=by omega
    have hrow:=aHW hdn.o;have hl:=ZR (x:=⟨1,z,p,g,i,f,mk,th⟩) (.inl rfl) hrow;have l1:=lz'.o;have l2:=lp'.o;have l3:=lg'.o;have l4:=li'.o;have l5:=lm'.o;have le:a3H ⟨1,z,p,g,i,f,mk,th⟩=zn+pn+gn+iN+mn:=by show z.length+p.length+g.length+i.length+mk.length=_;omega
    rw[le,show mk.length=mn from l5]at hl;have q0:wr.cell? ⟨w.heap.size,0,none⟩=some (.int .i64 1):=(hbE.o.late nX.o).cell rfl;have q1:wr.cell? ⟨w.heap.size,1,none⟩=some (.slice za zn zc):=(hbE.o.late nX.o).cell rfl;have q2:wr.cell? ⟨w.heap.size,2,none⟩=some (.slice pa pn pc):=(hbE.o.late nX.o).cell rfl;have q3:wr.cell? ⟨w.heap.size,3,none⟩=some (.slice ga gn gc):=(hbE.o.late nX.o).cell rfl;have q4:wr.cell? ⟨w.heap.size,4,none⟩=some (.slice ia iN ic):=(hbE.o.late nX.o).cell rfl;have q5:wr.cell? ⟨w.heap.size,5,none⟩=some (.slice fa fn fc):=(hbE.o.late nX.o).cell rfl;have q6:wr.cell? ⟨w.heap.size,6,none⟩=some (.slice ma mn mc):=(hbE.o.late nX.o).cell rfl;clear hk hlt hki;obtain⟨l1',l2',l3',l4',l5',le',hrow'⟩:=aK l1 l2 l3 l4 l5 le hrow;clear l1 l2 l3 l4 l5 le hrow;by_cases hm:mn≤65536
    ·have u1:decide ((65536:Int)<mn)=false:=by simp;omega
     by_cases hs0:0<zn+pn+gn+iN+mn
     ·have a5:=aXW zn pn gn iN mn;rw[decide_eq_true hs0]at a5;rw[if_pos ⟨hm,hs0⟩]at hl;obtain⟨hm',b6Z,hl'⟩:=aG hm hs0 hl;clear hm hs0 hl;have hbS:=hbr.o.alloc hbr.o.size (.cells #[.int .i64 zn,.int .i64 pn,.int .i64 gn,.int .i64 iN,.int .i64 mn] 3);have bS:=jJ.new wr 3 #[.int .i64 zn,.int .i64 pn,.int .i64 gn,.int .i64 iN,.int .i64 mn];have hS:=BH _ 5 5 [(zn:Int),pn,gn,iN,mn] _ (slB (T:=3) (cs:=ints .i64 [(zn:Int),pn,gn,iN,mn]) bS rfl (by decide)) (by decide);rw[a5]at hS;clear a5;obtain⟨H7,bS',hS'⟩:=aG hbS bS hS;clear hbS bS hS;go_wp2_with fail
      refine hS'.o.mono ?_;rintro e w4 ⟨rfl,hb4⟩;have hbz:=H7.o.tm hb4;obtain⟨tC,zU⟩:=aF hb4 hbz;clear hb4 hbz;go_wp2_with fail
      go_ret;exact⟨by rw[hl'.o];rfl,zU.o⟩
     ·have a5:=aXW zn pn gn iN mn;rw[decide_eq_false hs0]at a5;rw[if_neg (fun h=>hs0 h.2)]at hl;obtain⟨hm',b6Z,hl'⟩:=aG hm hs0 hl;clear hm hs0 hl;have hbS:=hbr.o.alloc hbr.o.size (.cells #[.int .i64 zn,.int .i64 pn,.int .i64 gn,.int .i64 iN,.int .i64 mn] 3);have bS:=jJ.new wr 3 #[.int .i64 zn,.int .i64 pn,.int .i64 gn,.int .i64 iN,.int .i64 mn];have hS:=BH _ 5 5 [(zn:Int),pn,gn,iN,mn] _ (slB (T:=3) (cs:=ints .i64 [(zn:Int),pn,gn,iN,mn]) bS rfl (by decide)) (by decide);rw[a5]at hS;clear a5;obtain⟨H7,bS',hS'⟩:=aG hbS bS hS;clear hbS bS hS;go_wp2_with fail
      refine hS'.o.mono ?_;rintro e w4 ⟨rfl,hb4⟩;have hbz:=H7.o.tm hb4;obtain⟨tC,zU⟩:=aF hb4 hbz;clear hb4 hbz;go_wp2_with fail
      go_ret;exact⟨by rw[hl'.o];rfl,zU.o⟩
    ·have u1:decide ((65536:Int)<mn)=true:=by simp;omega
     rw[if_neg (fun h=>hm h.1)]at hl;obtain⟨hm',hl'⟩:=aF hm hl;clear hm hl;go_wp2_with fail
     go_ret;exact⟨by rw[hl'.o];rfl,hbr.o⟩
 by_cases ho2:o=2
 ·subst ho2;go_wp2_with fail
  refine(aQJ.o _).mono ?_;rintro e w1 ⟨rfl,hb1⟩;obtain⟨hbE,hbw⟩:=aF (bE'.o.late hb1) (hb'.o.tm hb1);clear hb1 q0 q1 q2 q3 q4 q5 q6 q7;go_wp2_with fail
  go_loopw [15] (fun iv wr=>∃(k:Nat) (ki:Int),k≤5∧ki=k∧iv= .int .i64 ki∧Hid (∀j,j<k→rwB ⟨2,z,p,g,i,f,mk,th⟩ j=true)∧Hid (Below w1.heap.size w1 wr)) (fun iv _=>5 - (intOf iv).toNat)
  case atStart=>exact⟨0,0,by omega,rfl,rfl,aA (fun j hj=>by omega),aA (aW _ _)⟩
  case round=>
   obtain⟨k,ki,hk,hki,rfl,hdn,nX⟩:=hrel;have hbr:=aA (hbw.o.tm nX.o);by_cases hlt:k<5
   ·rcases(by omega:k=0∨k=1∨k=2∨k=3∨k=4)with rfl|rfl|rfl|rfl|rfl
    ·obtain rfl:ki=0:=by omega
     have hidx:∀W,(Instr.index 125 (.agg #[.int .i64 0,.slice za zn zc,.int .i64 2,.slice pa pn pc,.int .i64 3,.slice ga gn gc,.int .i64 4,.slice ia iN ic,.int .i64 1,.slice fa fn fc]) (.int .i64 0)).run Tryz.prog W= .ok (.agg #[.int .i64 0,.slice za zn zc]) W:=fun W=>by kernel_rfl
     obtain⟨r,hr⟩:=aC (qV 0 z);have hR:=fun W (h:Below w.heap.size w W)=>yJ 0 za zn zc _ W (hz'.o.mono h).ts (by decide) kz'.o;rw[hr]at hR;obtain⟨hR',hr'⟩:=aF hR hr;clear hR hr;clear hk hlt hki;go_wp2_with fail
     refine(hR'.o _ (hbr.o.alloc hbr.o.size _)).mono ?_;rintro e w3 ⟨rfl,hb3⟩;have sI:=(nX.o.alloc nX.o.size _).trans (hb3.mono (nX.o.alloc nX.o.size _).size);have tK:=hbw.o.tm sI;clear hb3;obtain⟨xG,vK⟩:=aF sI tK;clear sI tK;cases r with
     |false=>
      have hrow:xX ⟨2,z,p,g,i,f,mk,th⟩=false:=EH (j:=0) (by decide) hr'.o;have hc6:=qN (x:=⟨2,z,p,g,i,f,mk,th⟩) (.inr rfl) hrow;obtain⟨hrow',H6⟩:=aF hrow hc6;clear hrow hc6;go_wp2_with fail
      go_ret;exact⟨by rw[H6.o];rfl,vK.o⟩
     |true=>
      go_wp2_with fail
      go_roundw
      case rel=>exact⟨1,1,by omega,rfl,rfl,aA (fun j hj=>by
       rcases(by omega:j<0∨j=0)with h|h
       ·exact hdn.o j h
       ·subst h;exact hr'.o),xG⟩
      case measure=>simp[intOf]
    ·obtain rfl:ki=1:=by omega
     have hidx:∀W,(Instr.index 125 (.agg #[.int .i64 0,.slice za zn zc,.int .i64 2,.slice pa pn pc,.int .i64 3,.slice ga gn gc,.int .i64 4,.slice ia iN ic,.int .i64 1,.slice fa fn fc]) (.int .i64 1)).run Tryz.prog W= .ok (.agg #[.int .i64 2,.slice pa pn pc]) W:=fun W=>by kernel_rfl
     obtain⟨r,hr⟩:=aC (qV 2 p);have hR:=fun W (h:Below w.heap.size w W)=>yJ 2 pa pn pc _ W (hp'.o.mono h).ts (by decide) kp'.o;rw[hr]at hR;obtain⟨hR',hr'⟩:=aF hR hr;clear hR hr;clear hk hlt hki;go_wp2_with fail
     refine(hR'.o _ (hbr.o.alloc hbr.o.size _)).mono ?_;rintro e w3 ⟨rfl,hb3⟩;have sI:=(nX.o.alloc nX.o.size _).trans (hb3.mono (nX.o.alloc nX.o.size _).size);have tK:=hbw.o.tm sI;clear hb3;obtain⟨xG,vK⟩:=aF sI tK;clear sI tK;cases r with
     |false=>
      have hrow:xX ⟨2,z,p,g,i,f,mk,th⟩=false:=EH (j:=1) (by decide) hr'.o;have hc6:=qN (x:=⟨2,z,p,g,i,f,mk,th⟩) (.inr rfl) hrow;obtain⟨hrow',H6⟩:=aF hrow hc6;clear hrow hc6;go_wp2_with fail
      go_ret;exact⟨by rw[H6.o];rfl,vK.o⟩
     |true=>
      go_wp2_with fail
      go_roundw
      case rel=>exact⟨2,2,by omega,rfl,rfl,aA (fun j hj=>by
       rcases(by omega:j<1∨j=1)with h|h
       ·exact hdn.o j h
       ·subst h;exact hr'.o),xG⟩
      case measure=>simp[intOf]
    ·obtain rfl:ki=2:=by omega
     have hidx:∀W,(Instr.index 125 (.agg #[.int .i64 0,.slice za zn zc,.int .i64 2,.slice pa pn pc,.int .i64 3,.slice ga gn gc,.int .i64 4,.slice ia iN ic,.int .i64 1,.slice fa fn fc]) (.int .i64 2)).run Tryz.prog W= .ok (.agg #[.int .i64 3,.slice ga gn gc]) W:=fun W=>by kernel_rfl
     obtain⟨r,hr⟩:=aC (qV 3 g);have hR:=fun W (h:Below w.heap.size w W)=>yJ 3 ga gn gc _ W (hg'.o.mono h).ts (by decide) kg'.o;rw[hr]at hR;obtain⟨hR',hr'⟩:=aF hR hr;clear hR hr;clear hk hlt hki;go_wp2_with fail
     refine(hR'.o _ (hbr.o.alloc hbr.o.size _)).mono ?_;rintro e w3 ⟨rfl,hb3⟩;have sI:=(nX.o.alloc nX.o.size _).trans (hb3.mono (nX.o.alloc nX.o.size _).size);have tK:=hbw.o.tm sI;clear hb3;obtain⟨xG,vK⟩:=aF sI tK;clear sI tK;cases r with
     |false=>
      have hrow:xX ⟨2,z,p,g,i,f,mk,th⟩=false:=EH (j:=2) (by decide) hr'.o;have hc6:=qN (x:=⟨2,z,p,g,i,f,mk,th⟩) (.inr rfl) hrow;obtain⟨hrow',H6⟩:=aF hrow hc6;clear hrow hc6;go_wp2_with fail
      go_ret;exact⟨by rw[H6.o];rfl,vK.o⟩
     |true=>
      go_wp2_with fail
      go_roundw
      case rel=>exact⟨3,3,by omega,rfl,rfl,aA (fun j hj=>by
       rcases(by omega:j<2∨j=2)with h|h
       ·exact hdn.o j h
       ·subst h;exact hr'.o),xG⟩
      case measure=>simp[intOf]
    ·obtain rfl:ki=3:=by omega
     have hidx:∀W,(Instr.index 125 (.agg #[.int .i64 0,.slice za zn zc,.int .i64 2,.slice pa pn pc,.int .i64 3,.slice ga gn gc,.int .i64 4,.slice ia iN ic,.int .i64 1,.slice fa fn fc]) (.int .i64 3)).run Tryz.prog W= .ok (.agg #[.int .i64 4,.slice ia iN ic]) W:=fun W=>by kernel_rfl
     obtain⟨r,hr⟩:=aC (qV 4 i);have hR:=fun W (h:Below w.heap.size w W)=>yJ 4 ia iN ic _ W (hi'.o.mono h).ts (by decide) ki'.o;rw[hr]at hR;obtain⟨hR',hr'⟩:=aF hR hr;clear hR hr;clear hk hlt hki;go_wp2_with fail
     refine(hR'.o _ (hbr.o.alloc hbr.o.size _)).mono ?_;rintro e w3 ⟨rfl,hb3⟩;have sI:=(nX.o.alloc nX.o.size _).trans (hb3.mono (nX.o.alloc nX.o.size _).size);have tK:=hbw.o.tm sI;clear hb3;obtain⟨xG,vK⟩:=aF sI tK;clear sI tK;cases r with
     |false=>
      have hrow:xX ⟨2,z,p,g,i,f,mk,th⟩=false:=EH (j:=3) (by decide) hr'.o;have hc6:=qN (x:=⟨2,z,p,g,i,f,mk,th⟩) (.inr rfl) hrow;obtain⟨hrow',H6⟩:=aF hrow hc6;clear hrow hc6;go_wp2_with fail
      go_ret;exact⟨by rw[H6.o];rfl,vK.o⟩
     |true=>
      go_wp2_with fail
      go_roundw
      case rel=>exact⟨4,4,by omega,rfl,rfl,aA (fun j hj=>by
       rcases(by omega:j<3∨j=3)with h|h
       ·exact hdn.o j h
       ·subst h;exact hr'.o),xG⟩
      case measure=>simp[intOf]
    ·obtain rfl:ki=4:=by omega
     have hidx:∀W,(Instr.index 125 (.agg #[.int .i64 0,.slice za zn zc,.int .i64 2,.slice pa pn pc,.int .i64 3,.slice ga gn gc,.int .i64 4,.slice ia iN ic,.int .i64 1,.slice fa fn fc]) (.int .i64 4)).run Tryz.prog W= .ok (.agg #[.int .i64 1,.slice fa fn fc]) W:=fun W=>by kernel_rfl
     obtain⟨r,hr⟩:=aC (qV 1 f);have hR:=fun W (h:Below w.heap.size w W)=>yJ 1 fa fn fc _ W (hf'.o.mono h).ts (by decide) kf'.o;rw[hr]at hR;obtain⟨hR',hr'⟩:=aF hR hr;clear hR hr;clear hk hlt hki;go_wp2_with fail
     refine(hR'.o _ (hbr.o.alloc hbr.o.size _)).mono ?_;rintro e w3 ⟨rfl,hb3⟩;have sI:=(nX.o.alloc nX.o.size _).trans (hb3.mono (nX.o.alloc nX.o.size _).size);have tK:=hbw.o.tm sI;clear hb3;obtain⟨xG,vK⟩:=aF sI tK;clear sI tK;cases r with
     |false=>
      have hrow:xX ⟨2,z,p,g,i,f,mk,th⟩=false:=EH (j:=4) (by decide) hr'.o;have hc6:=qN (x:=⟨2,z,p,g,i,f,mk,th⟩) (.inr rfl) hrow;obtain⟨hrow',H6⟩:=aF hrow hc6;clear hrow hc6;go_wp2_with fail
      go_ret;exact⟨by rw[H6.o];rfl,vK.o⟩
     |true=>
      go_wp2_with fail
      go_roundw
      case rel=>exact⟨5,5,by omega,rfl,rfl,aA (fun j hj=>by
       rcases(by omega:j<4∨j=4)with h|h
       ·exact hdn.o j h
       ·subst h;exact hr'.o),xG⟩
      case measure=>simp[intOf]
   ·obtain rfl:k=5:=by omega
    obtain rfl:ki=5:=by omega
    have hrow:=aHW hdn.o;have hl:=ZR (x:=⟨2,z,p,g,i,f,mk,th⟩) (.inr rfl) hrow;have l1:=lz'.o;have l2:=lp'.o;have l3:=lg'.o;have l4:=li'.o;have l5:=lm'.o;have le:a3H ⟨2,z,p,g,i,f,mk,th⟩=zn+pn+gn+iN+mn:=by show z.length+p.length+g.length+i.length+mk.length=_;omega
    rw[le,show mk.length=mn from l5]at hl;have q0:wr.cell? ⟨w.heap.size,0,none⟩=some (.int .i64 2):=(hbE.o.late nX.o).cell rfl;have q1:wr.cell? ⟨w.heap.size,1,none⟩=some (.slice za zn zc):=(hbE.o.late nX.o).cell rfl;have q2:wr.cell? ⟨w.heap.size,2,none⟩=some (.slice pa pn pc):=(hbE.o.late nX.o).cell rfl;have q3:wr.cell? ⟨w.heap.size,3,none⟩=some (.slice ga gn gc):=(hbE.o.late nX.o).cell rfl;have q4:wr.cell? ⟨w.heap.size,4,none⟩=some (.slice ia iN ic):=(hbE.o.late nX.o).cell rfl;have q5:wr.cell? ⟨w.heap.size,5,none⟩=some (.slice fa fn fc):=(hbE.o.late nX.o).cell rfl;have q6:wr.cell? ⟨w.heap.size,6,none⟩=some (.slice ma mn mc):=(hbE.o.late nX.o).cell rfl;clear hk hlt hki;obtain⟨l1',l2',l3',l4',l5',le',hrow'⟩:=aK l1 l2 l3 l4 l5 le hrow;clear l1 l2 l3 l4 l5 le hrow;by_cases hm:mn≤65536
    ·have u1:decide ((65536:Int)<mn)=false:=by simp;omega
     by_cases hs0:0<zn+pn+gn+iN+mn
     ·have a5:=aXW zn pn gn iN mn;rw[decide_eq_true hs0]at a5;rw[if_pos ⟨hm,hs0⟩]at hl;obtain⟨hm',b6Z,hl'⟩:=aG hm hs0 hl;clear hm hs0 hl;have hbS:=hbr.o.alloc hbr.o.size (.cells #[.int .i64 zn,.int .i64 pn,.int .i64 gn,.int .i64 iN,.int .i64 mn] 3);have bS:=jJ.new wr 3 #[.int .i64 zn,.int .i64 pn,.int .i64 gn,.int .i64 iN,.int .i64 mn];have hS:=BH _ 5 5 [(zn:Int),pn,gn,iN,mn] _ (slB (T:=3) (cs:=ints .i64 [(zn:Int),pn,gn,iN,mn]) bS rfl (by decide)) (by decide);rw[a5]at hS;clear a5;obtain⟨H7,bS',hS'⟩:=aG hbS bS hS;clear hbS bS hS;go_wp2_with fail
      refine hS'.o.mono ?_;rintro e w4 ⟨rfl,hb4⟩;have hbz:=H7.o.tm hb4;obtain⟨tC,zU⟩:=aF hb4 hbz;clear hb4 hbz;go_wp2_with fail
      go_ret;exact⟨by rw[hl'.o];rfl,zU.o⟩
     ·have a5:=aXW zn pn gn iN mn;rw[decide_eq_false hs0]at a5;rw[if_neg (fun h=>hs0 h.2)]at hl;obtain⟨hm',b6Z,hl'⟩:=aG hm hs0 hl;clear hm hs0 hl;have hbS:=hbr.o.alloc hbr.o.size (.cells #[.int .i64 zn,.int .i64 pn,.int .i64 gn,.int .i64 iN,.int .i64 mn] 3);have bS:=jJ.new wr 3 #[.int .i64 zn,.int .i64 pn,.int .i64 gn,.int .i64 iN,.int .i64 mn];have hS:=BH _ 5 5 [(zn:Int),pn,gn,iN,mn] _ (slB (T:=3) (cs:=ints .i64 [(zn:Int),pn,gn,iN,mn]) bS rfl (by decide)) (by decide);rw[a5]at hS;clear a5;obtain⟨H7,bS',hS'⟩:=aG hbS bS hS;clear hbS bS hS;go_wp2_with fail
      refine hS'.o.mono ?_;rintro e w4 ⟨rfl,hb4⟩;have hbz:=H7.o.tm hb4;obtain⟨tC,zU⟩:=aF hb4 hbz;clear hb4 hbz;go_wp2_with fail
      go_ret;exact⟨by rw[hl'.o];rfl,zU.o⟩
    ·have u1:decide ((65536:Int)<mn)=true:=by simp;omega
     rw[if_neg (fun h=>hm h.1)]at hl;obtain⟨hm',hl'⟩:=aF hm hl;clear hm hl;go_wp2_with fail
     go_ret;exact⟨by rw[hl'.o];rfl,hbr.o⟩
 ·have t1:(o != 1)=true:=by simpa using ho1
  have t2:(o != 2)=true:=by simpa using ho2
  have hl:=a6M (x:=⟨o,z,p,g,i,f,mk,th⟩) (by simp;omega);obtain⟨a8K,ED,hl'⟩:=aG ho1 ho2 hl;clear ho1 ho2 hl;go_wp2_with fail
  go_ret;exact⟨by rw[hl'.o];rfl,hb'.o⟩
theorem aQK (x y:Int) (a1 a2 a3 b1 b2 b3:Value) (w:World) (h:IntKind.i64.wrap (x - y)=x - y):
  Calls Tryz.prog 63 #[.agg #[.int .i64 x,a1,a2,a3],.agg #[.int .i64 y,b1,b2,b3]] w fun e w'=>e= .returned (.int .i64 (x - y))∧Below w.heap.size w w':=by
 obtain⟨W,hW,c1,c2,hb,s⟩:=qZ w 28 #[.int .i64 x,a1,a2,a3] 28 #[.int .i64 y,b1,b2,b3];have p0:W.cell? ⟨w.heap.size,0,none⟩=some (.int .i64 x):=c1.cell rfl;have p1:W.cell? ⟨w.heap.size+1,0,none⟩=some (.int .i64 y):=c2.cell rfl;obtain⟨hW',c1',c2',hb',s'⟩:=aI hW c1 c2 hb s;clear hW c1 c2 hb s;go_enter Tryz.func63,Tryz.ntmps63;go_wp2_with fail
 rw[hW'.o];go_wp2_with fail
 go_ret;exact⟨rfl,hb'.o⟩
def aFC (w:World) (a:Option Addr) (n c:Nat):Prop:=
 n≤1∨∃(x y:Int) (a1 a2 a3 b1 b2 b3:Value),n=2∧Sl w a n c 4 [.int .i64 x,a1,a2,a3,.int .i64 y,b1,b2,b3]∧x≤y∧IntKind.i64.wrap (y - x)=y - x
theorem aFC.mono {w w':World} {a:Option Addr} {n c:Nat} (h:aFC w a n c) (hb:Below w.heap.size w w'):aFC w' a n c:=by
 rcases h with h|⟨x,y,a1,a2,a3,b1,b2,b3,h1,h2,h3⟩
 ·exact .inl h
 ·exact .inr ⟨x,y,a1,a2,a3,b1,b2,b3,h1,h2.mono hb,h3⟩
theorem aQL (a:Option Addr) (n c:Nat) (w:World) (h:aFC w a n c) (hn:n≤2):
  Calls Tryz.prog 172 #[.slice a n c,.int .i64 0,.int .i64 n,.func (.func 63) #[] #[]] w fun e w'=>e= .returned (.tuple #[])∧Below w.heap.size w w':=by
 rcases h with h1|⟨x,y,a1,a2,a3,b1,b2,b3,rfl,hs,hxy,hw⟩
 ·have e1:decide ((1:Int)<n)=false:=by simp;omega
  go_enter Tryz.func172,Tryz.ntmps172;go_upto_region 1 with fail
  go_loopw [8] (fun v wr=>v= .int .i64 1∧wr=w) (fun _ _=>0)
  case atStart=>exact⟨rfl,rfl⟩
  case round=>
   obtain⟨rfl,rfl⟩:=hrel;go_wp2_with fail
   refine bodyPost_end (results_none rfl _ _ _) rfl ?_;exact⟨rfl,aW _ _⟩
 ·obtain⟨b,o,rfl,hb,hc⟩:=hs.lies 0 (by decide);have f0:=hc 0 _ rfl;have f1:=hc 1 _ rfl;have f2:=hc 2 _ rfl;have f3:=hc 3 _ rfl;have f4:=hc 4 _ rfl;have f5:=hc 5 _ rfl;have f6:=hc 6 _ rfl;have f7:=hc 7 _ rfl;clear hc;obtain⟨hs',hw',f0',f1',f2',f3',f4',f5',f6',f7'⟩:=aN hs hw f0 f1 f2 f3 f4 f5 f6 f7;clear hs hw f0 f1 f2 f3 f4 f5 f6 f7;go_enter Tryz.func172,Tryz.ntmps172;go_upto_region 1 with fail
  go_loopw [8] (fun v wr=>∃k:Int,(k=1∨k=2)∧v= .int .i64 k∧Hid (Below w.heap.size w wr)) (fun v _=>2 - (intOf v).toNat)
  case atStart=>exact⟨1,.inl rfl,rfl,aA (aW _ _)⟩
  case round=>
   obtain⟨k,hk,rfl,hbr⟩:=hrel;rcases hk with rfl|rfl
   ·go_upto_region 4 with fail
    go_loopw [9] (fun v wq=>v= .int .i64 1∧Hid (Below w.heap.size w wq)) (fun _ _=>0)
    case atStart=>exact⟨rfl,hbr⟩
    case round=>
     obtain⟨rfl,hbq⟩:=hrel;obtain⟨Ty,ff,hne,hbel,jH⟩:=jR wr;have hbw:=fun s=>hbq.o.trans ((hbel s).mono hbq.o.size);have g0:=fun s=>late (hbw s) hb f0'.o;have g1:=fun s=>late (hbw s) hb f1'.o;have g2:=fun s=>late (hbw s) hb f2'.o;have g3:=fun s=>late (hbw s) hb f3'.o;have g4:=fun s=>late (hbw s) hb f4'.o;have g5:=fun s=>late (hbw s) hb f5'.o;have g6:=fun s=>late (hbw s) hb f6'.o;have g7:=fun s=>late (hbw s) hb f7'.o;rw[cK]at g0;have HS:=aA (jH _ ((aW _ _).drew));have hC:=fun W=>aQK y x b1 b2 b3 a1 a2 a3 W hw'.o;have hlt:decide (y - x<0)=false:=by simp;omega
     obtain⟨jG,jA,jW,hC'⟩:=aH hbel jH hbw hC;clear hbel jH hbw hC;go_wp2_with fail
     refine jO ff (by kernel_rfl) (by kernel_rfl) HS.o ?_;iterate 17 (go_big_quiet_step ((go_at_call 63;refine(hC'.o _).mono ?_;rintro e w3 ⟨rfl,hb3⟩;exact⟨rfl,jA.o _ ((jG.o _).trans (hb3.mono (jG.o _).size))⟩)))
     refine wpQuiet_nil ?_;intro s;have hbz:=aA (jW.o s);clear g0 g1 g2 g3 g4 g5 g6 g7;go_wp2_with fail
     go_roundw
     case rel=>exact⟨2,.inr rfl,by go_num,hbz⟩
     case measure=>simp[intOf]
   ·go_wp2_with fail
    refine bodyPost_end (results_none rfl _ _ _) rfl ?_;exact⟨rfl,hbr.o⟩
theorem aQM (a:Option Addr) (n c:Nat) (k:Int) (w:World) (h:aFC w a n c) (hn:n≤2):
  Calls Tryz.prog 123 #[.slice a n c,.int .i64 0,.int .i64 n,.int .i64 k,.func (.func 63) #[] #[]] w fun e w'=>e= .returned (.tuple #[])∧Below w.heap.size w w':=by
 have e1:decide ((n:Int)≤12)=true:=by simp;omega
 have e2:IntKind.i64.wrap ((n:Int) - 0)=n:=by rw[aY];omega
 have hI:=fun W (hb:Below w.heap.size w W)=>aQL a n c W (h.mono hb) hn;obtain⟨h',hI'⟩:=aF h hI;clear h hI;go_enter Tryz.func123,Tryz.ntmps123;go_upto_region 2 with fail
 go_loopw [1,2] (fun av bv wr=>av= .int .i64 0∧bv= .int .i64 n∧wr=w) (fun _ _ _=>0)
 case atStart=>exact⟨rfl,rfl,rfl⟩
 case round=>
  obtain⟨rfl,rfl,rfl⟩:=hrel;go_wp2_with fail
  refine(hI'.o _ (aW _ _)).mono ?_;rintro e w1 ⟨rfl,hb1⟩;have hb1':=aA hb1;clear hb1;go_wp2_with fail
  refine bodyPost_ret (results_none rfl _ _ _) rfl ?_;exact⟨rfl,hb1'.o⟩
theorem aLJ (a:Option Addr) (n c:Nat) (w:World) (h:aFC w a n c) (hn:n≤2):
  Calls Tryz.prog 62 #[.slice a n c,.func (.func 63) #[] #[]] w fun e w'=>e= .returned (.tuple #[])∧Below w.heap.size w w':=by
 have hL:=fun W=>Tryz.bits_Len (n:Int) W (by omega) (by omega);have hP:=fun k=>aQM a n c k w h hn;have e1:IntKind.u64.wrap (n:Int)=n:=by rw[gI];omega
 generalize (Lib.bitLen (n:Int).toNat:Int)=k at*;obtain⟨h',hP',hL'⟩:=aG h hP hL;clear h hP hL;go_enter Tryz.func62,Tryz.ntmps62;go_wp2_with fail
 refine(hL'.o _).mono ?_;rintro e w1 ⟨rfl,rfl⟩;go_wp2_with fail
 refine(hP'.o _).mono ?_;rintro e w1 ⟨rfl,hb1⟩;have hb1':=aA hb1;clear hb1;go_wp2_with fail
 refine bodyPost_end (results_none rfl _ _ _) rfl ?_;exact⟨rfl,hb1'.o⟩
