import Derived.Test.YtceclmpmpldmlaaGreatCx26
set_option linter.unusedSimpArgs false
set_option linter.unusedVariables false
set_option maxRecDepth 100000
set_option maxHeartbeats 8000000
namespace Go.Proofs.YtceclmpmpldmlaaGreat
open Go.RowKit Tt
def rwB (x:wP):Nat→Bool
 |0=>pK 0 x.z
 |1=>pK 2 x.p
 |2=>pK 3 x.g
 |3=>pK 4 x.i
 |_=>pK 1 x.f
theorem aKN {x:wP} (h:∀j,j<5→rwB x j=true):zW x=true:=by
 unfold zW;rw[show pK 0 x.z=true from h 0 aH,show pK 2 x.p=true from h 1 aH,show pK 3 x.g=true from h 2 aH,show pK 4 x.i=true from h 3 aH,show pK 1 x.f=true from h 4 aH];rfl
theorem IU {x:wP} {j:Nat} (hj:j<5) (h:rwB x j=false):zW x=false:=by
 unfold zW;rcases(by omega:j=0∨j=1∨j=2∨j=3∨j=4)with rfl|rfl|rfl|rfl|rfl
 ·rw[show pK 0 x.z=false from h];rfl
 ·rw[show pK 2 x.p=false from h];simp
 ·rw[show pK 3 x.g=false from h];simp
 ·rw[show pK 4 x.i=false from h];simp
 ·rw[show pK 1 x.f=false from h];simp
theorem VL {x:wP} (h:¬(x.o=1∨x.o=2)):nH x=1:=if_neg h
theorem oI {x:wP} (h:x.o=1∨x.o=2) (h2:zW x=false):nH x=6:=by unfold nH;rw[if_pos h,if_neg (by rw[h2];decide)]
theorem SQ {x:wP} (h:x.o=1∨x.o=2) (h2:zW x=true):nH x=if x.mr.length≤65536∧0<a8F x then 0 else 6:=by unfold nH;rw[if_pos h,if_pos h2]
theorem aZN (a b c d e:Nat):([(a:Int),b,c,d,e].any fun x=>decide (0<x))=decide (0<a+b+c+d+e):=by
 rw[eD];simp;omega
structure WfE (x:wP):Prop where
 z:∀t∈x.z,a6A t
 p:∀t∈x.p,a6A t
 g:∀t∈x.g,a6A t
 i:∀t∈x.i,a6A t
 f:∀t∈x.f,a6A t
theorem FM (x:wP) (A:ExA) (w:World) (h:ExR w x A) (hk:WfE x):
  Calls Tryz.prog 27 #[exV x.o A] w fun e w'=>e= .returned (.int .i64 (nH x))∧Below w.heap.size w w':=by
 obtain⟨za,zn,zc,pa,pn,pc,ga,gn,gc,ia,iN,ic,fa,fn,fc,ma,mn,mc,ta,tn,tc⟩:=A;obtain⟨o,z,p,g,i,f,mk,th⟩:=x;obtain⟨kz,kp,kg,ki,kf⟩:=hk;have aT5:=fun W=>XP o ⟨za,zn,zc,pa,pn,pc,ga,gn,gc,ia,iN,ic,fa,fn,fc,ma,mn,mc,ta,tn,tc⟩ W;simp only[exV,R9]at aT5;obtain⟨aT6,kz',kp',kg',ki',kf'⟩:=aN aT5 kz kp kg ki kf;clear aT5 kz kp kg ki kf;obtain⟨hz,hp,hg,hi,hf,hm,ht⟩:=h;simp only[exV,R9]at*;have lz:=hz.len;have lp:=hp.len;have lg:=hg.len;have li:=hi.len;have lm:=hm.nU;have mz:=hz.max;have mp:=hp.max;have mg:=hg.max;have mi:=hi.max;have mm:=hm.max;have bE:=jW.new w 61 #[.int .i64 o,.slice za zn zc,.slice pa pn pc,.slice ga gn gc,.slice ia iN ic,.slice fa fn fc,.slice ma mn mc,.slice ta tn tc];have hb:=aD w (.cells #[.int .i64 o,.slice za zn zc,.slice pa pn pc,.slice ga gn gc,.slice ia iN ic,.slice fa fn fc,.slice ma mn mc,.slice ta tn tc] 61);obtain⟨W,hW⟩:=aC (w.alloc (.cells #[.int .i64 o,.slice za zn zc,.slice pa pn pc,.slice ga gn gc,.slice ia iN ic,.slice fa fn fc,.slice ma mn mc,.slice ta tn tc] 61));rw[hW]at bE hb;have q0:=bE.cell (i:=0) rfl;have q1:=bE.cell (i:=1) rfl;have q2:=bE.cell (i:=2) rfl;have q3:=bE.cell (i:=3) rfl;have q4:=bE.cell (i:=4) rfl;have q5:=bE.cell (i:=5) rfl;have q6:=bE.cell (i:=6) rfl;have q7:=bE.cell (i:=7) rfl;obtain⟨AQ,hp',TQ,xG,QJ,EN,TV,lz',lp',lg',li',lm'⟩:=aT hz hp hg hi hf hm ht lz lp lg li lm;obtain⟨LM,mO,I5⟩:=aK bE hb hW;clear hz hp hg hi hf hm ht lz lp lg li lm bE hb hW;go_enter Tryz.func27,Tryz.ntmps27;go_upto_region 1 with fail
 rw[I5.o];by_cases OT:o=1
 ·subst OT;go_wp2_with fail
  refine(aT6.o _).mono ?_;rintro e w1 ⟨rfl,jY⟩;obtain⟨nT,jZ⟩:=aJ (LM.o.late jY) (mO.o.tm jY);clear jY q0 q1 q2 q3 q4 q5 q6 q7;go_wp2_with fail
  go_loopw [15] (fun iv wr=>∃(k:Nat) (ki:Int),k≤5∧ki=k∧iv= .int .i64 ki∧Hid (∀j,j<k→rwB ⟨1,z,p,g,i,f,mk,th⟩ j=true)∧Hid (Below w1.heap.size w1 wr)) (fun iv _=>5 - (intOf iv).toNat)
  case atStart=>exact⟨0,0,by omega,rfl,rfl,aA (fun j hj=>by omega),aA (aY _ _)⟩
  case round=>
   obtain⟨k,ki,hk,rC,rfl,sM,pI⟩:=hrel;have lI:=aA (jZ.o.tm pI.o);by_cases kD:k<5
   ·rcases(by omega:k=0∨k=1∨k=2∨k=3∨k=4)with rfl|rfl|rfl|rfl|rfl
    ·obtain rfl:ki=0:=by omega
     have pQ:∀W,(Instr.index 125 (.agg #[.int .i64 0,.slice za zn zc,.int .i64 2,.slice pa pn pc,.int .i64 3,.slice ga gn gc,.int .i64 4,.slice ia iN ic,.int .i64 1,.slice fa fn fc]) (.int .i64 0)).run Tryz.prog W= .ok (.agg #[.int .i64 0,.slice za zn zc]) W:=fun W=>by kernel_rfl
     obtain⟨r,hr⟩:=aC (pK 0 z);have hR:=fun W (h:Below w.heap.size w W)=>BR 0 za zn zc _ W (AQ.o.mono h).ts aH kz'.o;rw[hr]at hR;obtain⟨vG,qX⟩:=aJ hR hr;clear hR hr;clear hk kD rC;go_wp2_with fail
     refine(vG.o _ (lI.o.alloc lI.o.size _)).mono ?_;rintro e w3 ⟨rfl,jQ⟩;have vR:=(pI.o.alloc pI.o.size _).trans (jQ.mono (pI.o.alloc pI.o.size _).size);have sK:=jZ.o.tm vR;clear jQ;obtain⟨zX,yC⟩:=aJ vR sK;clear vR sK;cases r with
     |false=>
      have oM:zW ⟨1,z,p,g,i,f,mk,th⟩=false:=IU (j:=0) aH qX.o;have RG:=oI (x:=⟨1,z,p,g,i,f,mk,th⟩) (.inl rfl) oM;obtain⟨CX,LQ⟩:=aJ oM RG;clear oM RG;go_wp2_with fail
      go_ret;exact⟨by rw[LQ.o];rfl,yC.o⟩
     |true=>
      go_wp2_with fail
      go_roundw
      case rel=>exact⟨1,1,by omega,rfl,rfl,aA (fun j hj=>by
       rcases(by omega:j<0∨j=0)with h|h
       ·exact sM.o j h
       ·subst h;exact qX.o),zX⟩
      case measure=>simp[intOf]
    ·obtain rfl:ki=1:=by omega
     have pQ:∀W,(Instr.index 125 (.agg #[.int .i64 0,.slice za zn zc,.int .i64 2,.slice pa pn pc,.int .i64 3,.slice ga gn gc,.int .i64 4,.slice ia iN ic,.int .i64 1,.slice fa fn fc]) (.int .i64 1)).run Tryz.prog W= .ok (.agg #[.int .i64 2,.slice pa pn pc]) W:=fun W=>by kernel_rfl
     obtain⟨r,hr⟩:=aC (pK 2 p);have hR:=fun W (h:Below w.heap.size w W)=>BR 2 pa pn pc _ W (hp'.o.mono h).ts aH kp'.o;rw[hr]at hR;obtain⟨vG,qX⟩:=aJ hR hr;clear hR hr;clear hk kD rC;go_wp2_with fail
     refine(vG.o _ (lI.o.alloc lI.o.size _)).mono ?_;rintro e w3 ⟨rfl,jQ⟩;have vR:=(pI.o.alloc pI.o.size _).trans (jQ.mono (pI.o.alloc pI.o.size _).size);have sK:=jZ.o.tm vR;clear jQ;obtain⟨zX,yC⟩:=aJ vR sK;clear vR sK;cases r with
     |false=>
      have oM:zW ⟨1,z,p,g,i,f,mk,th⟩=false:=IU (j:=1) aH qX.o;have RG:=oI (x:=⟨1,z,p,g,i,f,mk,th⟩) (.inl rfl) oM;obtain⟨CX,LQ⟩:=aJ oM RG;clear oM RG;go_wp2_with fail
      go_ret;exact⟨by rw[LQ.o];rfl,yC.o⟩
     |true=>
      go_wp2_with fail
      go_roundw
      case rel=>exact⟨2,2,by omega,rfl,rfl,aA (fun j hj=>by
       rcases(by omega:j<1∨j=1)with h|h
       ·exact sM.o j h
       ·subst h;exact qX.o),zX⟩
      case measure=>simp[intOf]
    ·obtain rfl:ki=2:=by omega
     have pQ:∀W,(Instr.index 125 (.agg #[.int .i64 0,.slice za zn zc,.int .i64 2,.slice pa pn pc,.int .i64 3,.slice ga gn gc,.int .i64 4,.slice ia iN ic,.int .i64 1,.slice fa fn fc]) (.int .i64 2)).run Tryz.prog W= .ok (.agg #[.int .i64 3,.slice ga gn gc]) W:=fun W=>by kernel_rfl
     obtain⟨r,hr⟩:=aC (pK 3 g);have hR:=fun W (h:Below w.heap.size w W)=>BR 3 ga gn gc _ W (TQ.o.mono h).ts aH kg'.o;rw[hr]at hR;obtain⟨vG,qX⟩:=aJ hR hr;clear hR hr;clear hk kD rC;go_wp2_with fail
     refine(vG.o _ (lI.o.alloc lI.o.size _)).mono ?_;rintro e w3 ⟨rfl,jQ⟩;have vR:=(pI.o.alloc pI.o.size _).trans (jQ.mono (pI.o.alloc pI.o.size _).size);have sK:=jZ.o.tm vR;clear jQ;obtain⟨zX,yC⟩:=aJ vR sK;clear vR sK;cases r with
     |false=>
      have oM:zW ⟨1,z,p,g,i,f,mk,th⟩=false:=IU (j:=2) aH qX.o;have RG:=oI (x:=⟨1,z,p,g,i,f,mk,th⟩) (.inl rfl) oM;obtain⟨CX,LQ⟩:=aJ oM RG;clear oM RG;go_wp2_with fail
      go_ret;exact⟨by rw[LQ.o];rfl,yC.o⟩
     |true=>
      go_wp2_with fail
      go_roundw
      case rel=>exact⟨3,3,by omega,rfl,rfl,aA (fun j hj=>by
       rcases(by omega:j<2∨j=2)with h|h
       ·exact sM.o j h
       ·subst h;exact qX.o),zX⟩
      case measure=>simp[intOf]
    ·obtain rfl:ki=3:=by omega
     have pQ:∀W,(Instr.index 125 (.agg #[.int .i64 0,.slice za zn zc,.int .i64 2,.slice pa pn pc,.int .i64 3,.slice ga gn gc,.int .i64 4,.slice ia iN ic,.int .i64 1,.slice fa fn fc]) (.int .i64 3)).run Tryz.prog W= .ok (.agg #[.int .i64 4,.slice ia iN ic]) W:=fun W=>by kernel_rfl
     obtain⟨r,hr⟩:=aC (pK 4 i);have hR:=fun W (h:Below w.heap.size w W)=>BR 4 ia iN ic _ W (xG.o.mono h).ts aH ki'.o;rw[hr]at hR;obtain⟨vG,qX⟩:=aJ hR hr;clear hR hr;clear hk kD rC;go_wp2_with fail
     refine(vG.o _ (lI.o.alloc lI.o.size _)).mono ?_;rintro e w3 ⟨rfl,jQ⟩;have vR:=(pI.o.alloc pI.o.size _).trans (jQ.mono (pI.o.alloc pI.o.size _).size);have sK:=jZ.o.tm vR;clear jQ;obtain⟨zX,yC⟩:=aJ vR sK;clear vR sK;cases r with
     |false=>
      have oM:zW ⟨1,z,p,g,i,f,mk,th⟩=false:=IU (j:=3) aH qX.o;have RG:=oI (x:=⟨1,z,p,g,i,f,mk,th⟩) (.inl rfl) oM;obtain⟨CX,LQ⟩:=aJ oM RG;clear oM RG;go_wp2_with fail
      go_ret;exact⟨by rw[LQ.o];rfl,yC.o⟩
     |true=>
      go_wp2_with fail
      go_roundw
      case rel=>exact⟨4,4,by omega,rfl,rfl,aA (fun j hj=>by
       rcases(by omega:j<3∨j=3)with h|h
       ·exact sM.o j h
       ·subst h;exact qX.o),zX⟩
      case measure=>simp[intOf]
    ·obtain rfl:ki=4:=by omega
     have pQ:∀W,(Instr.index 125 (.agg #[.int .i64 0,.slice za zn zc,.int .i64 2,.slice pa pn pc,.int .i64 3,.slice ga gn gc,.int .i64 4,.slice ia iN ic,.int .i64 1,.slice fa fn fc]) (.int .i64 4)).run Tryz.prog W= .ok (.agg #[.int .i64 1,.slice fa fn fc]) W:=fun W=>by kernel_rfl
     obtain⟨r,hr⟩:=aC (pK 1 f);have hR:=fun W (h:Below w.heap.size w W)=>BR 1 fa fn fc _ W (QJ.o.mono h).ts aH kf'.o;rw[hr]at hR;obtain⟨vG,qX⟩:=aJ hR hr;clear hR hr;clear hk kD rC;go_wp2_with fail
     refine(vG.o _ (lI.o.alloc lI.o.size _)).mono ?_;rintro e w3 ⟨rfl,jQ⟩;have vR:=(pI.o.alloc pI.o.size _).trans (jQ.mono (pI.o.alloc pI.o.size _).size);have sK:=jZ.o.tm vR;clear jQ;obtain⟨zX,yC⟩:=aJ vR sK;clear vR sK;cases r with
     |false=>
      have oM:zW ⟨1,z,p,g,i,f,mk,th⟩=false:=IU (j:=4) aH qX.o;have RG:=oI (x:=⟨1,z,p,g,i,f,mk,th⟩) (.inl rfl) oM;obtain⟨CX,LQ⟩:=aJ oM RG;clear oM RG;go_wp2_with fail
      go_ret;exact⟨by rw[LQ.o];rfl,yC.o⟩
     |true=>
      go_wp2_with fail
      go_roundw
      case rel=>exact⟨5,5,by omega,rfl,rfl,aA (fun j hj=>by
       rcases(by omega:j<4∨j=4)with h|h
       ·exact sM.o j h
       ·subst h;exact qX.o),zX⟩
      case measure=>simp[intOf]
   ·obtain rfl:k=5:=by omega
    obtain rfl:ki=5:=by omega
    have oM:=aKN sM.o;have hl:=SQ (x:=⟨1,z,p,g,i,f,mk,th⟩) (.inl rfl) oM;have l1:=lz'.o;have l2:=lp'.o;have l3:=lg'.o;have l4:=li'.o;have l5:=lm'.o;have le:a8F ⟨1,z,p,g,i,f,mk,th⟩=zn+pn+gn+iN+mn:=by show z.length+p.length+g.length+i.length+mk.length=_;omega
    rw[le,show mk.length=mn from l5]at hl;have q0:=(nT.o.late pI.o).cell (i:=0) rfl;have q1:=(nT.o.late pI.o).cell (i:=1) rfl;have q2:=(nT.o.late pI.o).cell (i:=2) rfl;have q3:=(nT.o.late pI.o).cell (i:=3) rfl;have q4:=(nT.o.late pI.o).cell (i:=4) rfl;have q5:=(nT.o.late pI.o).cell (i:=5) rfl;have q6:=(nT.o.late pI.o).cell (i:=6) rfl;clear hk kD rC;obtain⟨l1',l2',l3',l4',l5',le',CX⟩:=aO l1 l2 l3 l4 l5 le oM;clear l1 l2 l3 l4 l5 le oM;by_cases hm:mn≤65536
    ·have u1:decide ((65536:Int)<mn)=false:=by simp;omega
     by_cases wC:0<zn+pn+gn+iN+mn
     ·have a5:=aZN zn pn gn iN mn;rw[decide_eq_true wC]at a5;rw[if_pos ⟨hm,wC⟩]at hl;obtain⟨EN,aHU,yI⟩:=aK hm wC hl;clear hm wC hl;have hbS:=lI.o.alloc lI.o.size (.cells #[.int .i64 zn,.int .i64 pn,.int .i64 gn,.int .i64 iN,.int .i64 mn] 3);have bS:=jW.new wr 3 #[.int .i64 zn,.int .i64 pn,.int .i64 gn,.int .i64 iN,.int .i64 mn];have hS:=EJ _ 5 5 [(zn:Int),pn,gn,iN,mn] _ (slB (T:=3) (cs:=ints .i64 [(zn:Int),pn,gn,iN,mn]) bS rfl aH) aH;rw[a5]at hS;clear a5;obtain⟨LU,bS',hS'⟩:=aK hbS bS hS;clear hbS bS hS;go_wp2_with fail
      refine hS'.o.mono ?_;rintro e w4 ⟨rfl,mF⟩;have wR:=LU.o.tm mF;obtain⟨rT,zI⟩:=aJ mF wR;clear mF wR;go_wp2_with fail
      go_ret;exact⟨by rw[yI.o];rfl,zI.o⟩
     ·have a5:=aZN zn pn gn iN mn;rw[decide_eq_false wC]at a5;rw[if_neg (fun h=>wC h.2)]at hl;obtain⟨EN,aHU,yI⟩:=aK hm wC hl;clear hm wC hl;have hbS:=lI.o.alloc lI.o.size (.cells #[.int .i64 zn,.int .i64 pn,.int .i64 gn,.int .i64 iN,.int .i64 mn] 3);have bS:=jW.new wr 3 #[.int .i64 zn,.int .i64 pn,.int .i64 gn,.int .i64 iN,.int .i64 mn];have hS:=EJ _ 5 5 [(zn:Int),pn,gn,iN,mn] _ (slB (T:=3) (cs:=ints .i64 [(zn:Int),pn,gn,iN,mn]) bS rfl aH) aH;rw[a5]at hS;clear a5;obtain⟨LU,bS',hS'⟩:=aK hbS bS hS;clear hbS bS hS;go_wp2_with fail
      refine hS'.o.mono ?_;rintro e w4 ⟨rfl,mF⟩;have wR:=LU.o.tm mF;obtain⟨rT,zI⟩:=aJ mF wR;clear mF wR;go_wp2_with fail
      go_ret;exact⟨by rw[yI.o];rfl,zI.o⟩
    ·have u1:decide ((65536:Int)<mn)=true:=by simp;omega
     rw[if_neg (fun h=>hm h.1)]at hl;obtain⟨EN,yI⟩:=aJ hm hl;clear hm hl;go_wp2_with fail
     go_ret;exact⟨by rw[yI.o];rfl,lI.o⟩
 by_cases vS:o=2
 ·subst vS;go_wp2_with fail
  refine(aT6.o _).mono ?_;rintro e w1 ⟨rfl,jY⟩;obtain⟨nT,jZ⟩:=aJ (LM.o.late jY) (mO.o.tm jY);clear jY q0 q1 q2 q3 q4 q5 q6 q7;go_wp2_with fail
  go_loopw [15] (fun iv wr=>∃(k:Nat) (ki:Int),k≤5∧ki=k∧iv= .int .i64 ki∧Hid (∀j,j<k→rwB ⟨2,z,p,g,i,f,mk,th⟩ j=true)∧Hid (Below w1.heap.size w1 wr)) (fun iv _=>5 - (intOf iv).toNat)
  case atStart=>exact⟨0,0,by omega,rfl,rfl,aA (fun j hj=>by omega),aA (aY _ _)⟩
  case round=>
   obtain⟨k,ki,hk,rC,rfl,sM,pI⟩:=hrel;have lI:=aA (jZ.o.tm pI.o);by_cases kD:k<5
   ·rcases(by omega:k=0∨k=1∨k=2∨k=3∨k=4)with rfl|rfl|rfl|rfl|rfl
    ·obtain rfl:ki=0:=by omega
     have pQ:∀W,(Instr.index 125 (.agg #[.int .i64 0,.slice za zn zc,.int .i64 2,.slice pa pn pc,.int .i64 3,.slice ga gn gc,.int .i64 4,.slice ia iN ic,.int .i64 1,.slice fa fn fc]) (.int .i64 0)).run Tryz.prog W= .ok (.agg #[.int .i64 0,.slice za zn zc]) W:=fun W=>by kernel_rfl
     obtain⟨r,hr⟩:=aC (pK 0 z);have hR:=fun W (h:Below w.heap.size w W)=>BR 0 za zn zc _ W (AQ.o.mono h).ts aH kz'.o;rw[hr]at hR;obtain⟨vG,qX⟩:=aJ hR hr;clear hR hr;clear hk kD rC;go_wp2_with fail
     refine(vG.o _ (lI.o.alloc lI.o.size _)).mono ?_;rintro e w3 ⟨rfl,jQ⟩;have vR:=(pI.o.alloc pI.o.size _).trans (jQ.mono (pI.o.alloc pI.o.size _).size);have sK:=jZ.o.tm vR;clear jQ;obtain⟨zX,yC⟩:=aJ vR sK;clear vR sK;cases r with
     |false=>
      have oM:zW ⟨2,z,p,g,i,f,mk,th⟩=false:=IU (j:=0) aH qX.o;have RG:=oI (x:=⟨2,z,p,g,i,f,mk,th⟩) (.inr rfl) oM;obtain⟨CX,LQ⟩:=aJ oM RG;clear oM RG;go_wp2_with fail
      go_ret;exact⟨by rw[LQ.o];rfl,yC.o⟩
     |true=>
      go_wp2_with fail
      go_roundw
      case rel=>exact⟨1,1,by omega,rfl,rfl,aA (fun j hj=>by
       rcases(by omega:j<0∨j=0)with h|h
       ·exact sM.o j h
       ·subst h;exact qX.o),zX⟩
      case measure=>simp[intOf]
    ·obtain rfl:ki=1:=by omega
     have pQ:∀W,(Instr.index 125 (.agg #[.int .i64 0,.slice za zn zc,.int .i64 2,.slice pa pn pc,.int .i64 3,.slice ga gn gc,.int .i64 4,.slice ia iN ic,.int .i64 1,.slice fa fn fc]) (.int .i64 1)).run Tryz.prog W= .ok (.agg #[.int .i64 2,.slice pa pn pc]) W:=fun W=>by kernel_rfl
     obtain⟨r,hr⟩:=aC (pK 2 p);have hR:=fun W (h:Below w.heap.size w W)=>BR 2 pa pn pc _ W (hp'.o.mono h).ts aH kp'.o;rw[hr]at hR;obtain⟨vG,qX⟩:=aJ hR hr;clear hR hr;clear hk kD rC;go_wp2_with fail
     refine(vG.o _ (lI.o.alloc lI.o.size _)).mono ?_;rintro e w3 ⟨rfl,jQ⟩;have vR:=(pI.o.alloc pI.o.size _).trans (jQ.mono (pI.o.alloc pI.o.size _).size);have sK:=jZ.o.tm vR;clear jQ;obtain⟨zX,yC⟩:=aJ vR sK;clear vR sK;cases r with
     |false=>
      have oM:zW ⟨2,z,p,g,i,f,mk,th⟩=false:=IU (j:=1) aH qX.o;have RG:=oI (x:=⟨2,z,p,g,i,f,mk,th⟩) (.inr rfl) oM;obtain⟨CX,LQ⟩:=aJ oM RG;clear oM RG;go_wp2_with fail
      go_ret;exact⟨by rw[LQ.o];rfl,yC.o⟩
     |true=>
      go_wp2_with fail
      go_roundw
      case rel=>exact⟨2,2,by omega,rfl,rfl,aA (fun j hj=>by
       rcases(by omega:j<1∨j=1)with h|h
       ·exact sM.o j h
       ·subst h;exact qX.o),zX⟩
      case measure=>simp[intOf]
    ·obtain rfl:ki=2:=by omega
     have pQ:∀W,(Instr.index 125 (.agg #[.int .i64 0,.slice za zn zc,.int .i64 2,.slice pa pn pc,.int .i64 3,.slice ga gn gc,.int .i64 4,.slice ia iN ic,.int .i64 1,.slice fa fn fc]) (.int .i64 2)).run Tryz.prog W= .ok (.agg #[.int .i64 3,.slice ga gn gc]) W:=fun W=>by kernel_rfl
     obtain⟨r,hr⟩:=aC (pK 3 g);have hR:=fun W (h:Below w.heap.size w W)=>BR 3 ga gn gc _ W (TQ.o.mono h).ts aH kg'.o;rw[hr]at hR;obtain⟨vG,qX⟩:=aJ hR hr;clear hR hr;clear hk kD rC;go_wp2_with fail
     refine(vG.o _ (lI.o.alloc lI.o.size _)).mono ?_;rintro e w3 ⟨rfl,jQ⟩;have vR:=(pI.o.alloc pI.o.size _).trans (jQ.mono (pI.o.alloc pI.o.size _).size);have sK:=jZ.o.tm vR;clear jQ;obtain⟨zX,yC⟩:=aJ vR sK;clear vR sK;cases r with
     |false=>
      have oM:zW ⟨2,z,p,g,i,f,mk,th⟩=false:=IU (j:=2) aH qX.o;have RG:=oI (x:=⟨2,z,p,g,i,f,mk,th⟩) (.inr rfl) oM;obtain⟨CX,LQ⟩:=aJ oM RG;clear oM RG;go_wp2_with fail
      go_ret;exact⟨by rw[LQ.o];rfl,yC.o⟩
     |true=>
      go_wp2_with fail
      go_roundw
      case rel=>exact⟨3,3,by omega,rfl,rfl,aA (fun j hj=>by
       rcases(by omega:j<2∨j=2)with h|h
       ·exact sM.o j h
       ·subst h;exact qX.o),zX⟩
      case measure=>simp[intOf]
    ·obtain rfl:ki=3:=by omega
     have pQ:∀W,(Instr.index 125 (.agg #[.int .i64 0,.slice za zn zc,.int .i64 2,.slice pa pn pc,.int .i64 3,.slice ga gn gc,.int .i64 4,.slice ia iN ic,.int .i64 1,.slice fa fn fc]) (.int .i64 3)).run Tryz.prog W= .ok (.agg #[.int .i64 4,.slice ia iN ic]) W:=fun W=>by kernel_rfl
     obtain⟨r,hr⟩:=aC (pK 4 i);have hR:=fun W (h:Below w.heap.size w W)=>BR 4 ia iN ic _ W (xG.o.mono h).ts aH ki'.o;rw[hr]at hR;obtain⟨vG,qX⟩:=aJ hR hr;clear hR hr;clear hk kD rC;go_wp2_with fail
     refine(vG.o _ (lI.o.alloc lI.o.size _)).mono ?_;rintro e w3 ⟨rfl,jQ⟩;have vR:=(pI.o.alloc pI.o.size _).trans (jQ.mono (pI.o.alloc pI.o.size _).size);have sK:=jZ.o.tm vR;clear jQ;obtain⟨zX,yC⟩:=aJ vR sK;clear vR sK;cases r with
     |false=>
      have oM:zW ⟨2,z,p,g,i,f,mk,th⟩=false:=IU (j:=3) aH qX.o;have RG:=oI (x:=⟨2,z,p,g,i,f,mk,th⟩) (.inr rfl) oM;obtain⟨CX,LQ⟩:=aJ oM RG;clear oM RG;go_wp2_with fail
      go_ret;exact⟨by rw[LQ.o];rfl,yC.o⟩
     |true=>
      go_wp2_with fail
      go_roundw
      case rel=>exact⟨4,4,by omega,rfl,rfl,aA (fun j hj=>by
       rcases(by omega:j<3∨j=3)with h|h
       ·exact sM.o j h
       ·subst h;exact qX.o),zX⟩
      case measure=>simp[intOf]
    ·obtain rfl:ki=4:=by omega
     have pQ:∀W,(Instr.index 125 (.agg #[.int .i64 0,.slice za zn zc,.int .i64 2,.slice pa pn pc,.int .i64 3,.slice ga gn gc,.int .i64 4,.slice ia iN ic,.int .i64 1,.slice fa fn fc]) (.int .i64 4)).run Tryz.prog W= .ok (.agg #[.int .i64 1,.slice fa fn fc]) W:=fun W=>by kernel_rfl
     obtain⟨r,hr⟩:=aC (pK 1 f);have hR:=fun W (h:Below w.heap.size w W)=>BR 1 fa fn fc _ W (QJ.o.mono h).ts aH kf'.o;rw[hr]at hR;obtain⟨vG,qX⟩:=aJ hR hr;clear hR hr;clear hk kD rC;go_wp2_with fail
     refine(vG.o _ (lI.o.alloc lI.o.size _)).mono ?_;rintro e w3 ⟨rfl,jQ⟩;have vR:=(pI.o.alloc pI.o.size _).trans (jQ.mono (pI.o.alloc pI.o.size _).size);have sK:=jZ.o.tm vR;clear jQ;obtain⟨zX,yC⟩:=aJ vR sK;clear vR sK;cases r with
     |false=>
      have oM:zW ⟨2,z,p,g,i,f,mk,th⟩=false:=IU (j:=4) aH qX.o;have RG:=oI (x:=⟨2,z,p,g,i,f,mk,th⟩) (.inr rfl) oM;obtain⟨CX,LQ⟩:=aJ oM RG;clear oM RG;go_wp2_with fail
      go_ret;exact⟨by rw[LQ.o];rfl,yC.o⟩
     |true=>
      go_wp2_with fail
      go_roundw
      case rel=>exact⟨5,5,by omega,rfl,rfl,aA (fun j hj=>by
       rcases(by omega:j<4∨j=4)with h|h
       ·exact sM.o j h
       ·subst h;exact qX.o),zX⟩
      case measure=>simp[intOf]
   ·obtain rfl:k=5:=by omega
    obtain rfl:ki=5:=by omega
    have oM:=aKN sM.o;have hl:=SQ (x:=⟨2,z,p,g,i,f,mk,th⟩) (.inr rfl) oM;have l1:=lz'.o;have l2:=lp'.o;have l3:=lg'.o;have l4:=li'.o;have l5:=lm'.o;have le:a8F ⟨2,z,p,g,i,f,mk,th⟩=zn+pn+gn+iN+mn:=by show z.length+p.length+g.length+i.length+mk.length=_;omega
    rw[le,show mk.length=mn from l5]at hl;have q0:=(nT.o.late pI.o).cell (i:=0) rfl;have q1:=(nT.o.late pI.o).cell (i:=1) rfl;have q2:=(nT.o.late pI.o).cell (i:=2) rfl;have q3:=(nT.o.late pI.o).cell (i:=3) rfl;have q4:=(nT.o.late pI.o).cell (i:=4) rfl;have q5:=(nT.o.late pI.o).cell (i:=5) rfl;have q6:=(nT.o.late pI.o).cell (i:=6) rfl;clear hk kD rC;obtain⟨l1',l2',l3',l4',l5',le',CX⟩:=aO l1 l2 l3 l4 l5 le oM;clear l1 l2 l3 l4 l5 le oM;by_cases hm:mn≤65536
    ·have u1:decide ((65536:Int)<mn)=false:=by simp;omega
     by_cases wC:0<zn+pn+gn+iN+mn
     ·have a5:=aZN zn pn gn iN mn;rw[decide_eq_true wC]at a5;rw[if_pos ⟨hm,wC⟩]at hl;obtain⟨EN,aHU,yI⟩:=aK hm wC hl;clear hm wC hl;have hbS:=lI.o.alloc lI.o.size (.cells #[.int .i64 zn,.int .i64 pn,.int .i64 gn,.int .i64 iN,.int .i64 mn] 3);have bS:=jW.new wr 3 #[.int .i64 zn,.int .i64 pn,.int .i64 gn,.int .i64 iN,.int .i64 mn];have hS:=EJ _ 5 5 [(zn:Int),pn,gn,iN,mn] _ (slB (T:=3) (cs:=ints .i64 [(zn:Int),pn,gn,iN,mn]) bS rfl aH) aH;rw[a5]at hS;clear a5;obtain⟨LU,bS',hS'⟩:=aK hbS bS hS;clear hbS bS hS;go_wp2_with fail
      refine hS'.o.mono ?_;rintro e w4 ⟨rfl,mF⟩;have wR:=LU.o.tm mF;obtain⟨rT,zI⟩:=aJ mF wR;clear mF wR;go_wp2_with fail
      go_ret;exact⟨by rw[yI.o];rfl,zI.o⟩
     ·have a5:=aZN zn pn gn iN mn;rw[decide_eq_false wC]at a5;rw[if_neg (fun h=>wC h.2)]at hl;obtain⟨EN,aHU,yI⟩:=aK hm wC hl;clear hm wC hl;have hbS:=lI.o.alloc lI.o.size (.cells #[.int .i64 zn,.int .i64 pn,.int .i64 gn,.int .i64 iN,.int .i64 mn] 3);have bS:=jW.new wr 3 #[.int .i64 zn,.int .i64 pn,.int .i64 gn,.int .i64 iN,.int .i64 mn];have hS:=EJ _ 5 5 [(zn:Int),pn,gn,iN,mn] _ (slB (T:=3) (cs:=ints .i64 [(zn:Int),pn,gn,iN,mn]) bS rfl aH) aH;rw[a5]at hS;clear a5;obtain⟨LU,bS',hS'⟩:=aK hbS bS hS;clear hbS bS hS;go_wp2_with fail
      refine hS'.o.mono ?_;rintro e w4 ⟨rfl,mF⟩;have wR:=LU.o.tm mF;obtain⟨rT,zI⟩:=aJ mF wR;clear mF wR;go_wp2_with fail
      go_ret;exact⟨by rw[yI.o];rfl,zI.o⟩
    ·have u1:decide ((65536:Int)<mn)=true:=by simp;omega
     rw[if_neg (fun h=>hm h.1)]at hl;obtain⟨EN,yI⟩:=aJ hm hl;clear hm hl;go_wp2_with fail
     go_ret;exact⟨by rw[yI.o];rfl,lI.o⟩
 ·have t1:(o != 1)=true:=by simpa using OT
  have t2:(o != 2)=true:=by simpa using vS
  have hl:=VL (x:=⟨o,z,p,g,i,f,mk,th⟩) (by simp;omega);obtain⟨aY1,Q6,yI⟩:=aK OT vS hl;clear OT vS hl;go_wp2_with fail
  go_ret;exact⟨by rw[yI.o];rfl,mO.o⟩
theorem VN (x:wP) (A:ExA) (w:World) (h:ExR w x A) (hs:IQ x):
  Calls Tryz.prog 28 #[exV x.o A] w fun e w'=>e= .returned (.int .i64 (nH x))∧Below w.heap.size w w':=by
 obtain⟨za,zn,zc,pa,pn,pc,ga,gn,gc,ia,iN,ic,fa,fn,fc,ma,mn,mc,ta,tn,tc⟩:=A;obtain⟨o,z,p,g,i,f,mk,th⟩:=x;obtain⟨sz,sp,sg,si,sf,sm,st⟩:=hs;simp only at sz sp sg si sf sm st;obtain⟨hz,hp,hg,hi,hf,hm,ht⟩:=h;simp only[exV,R9]at*;have lz:=hz.len;have lp:=hp.len;have lg:=hg.len;have li:=hi.len;have lm:=hm.nU;have mz:=hz.max;have mp:=hp.max;have mg:=hg.max;have mi:=hi.max;have mm:=hm.max;have bE:=jW.new w 61 #[.int .i64 o,.slice za zn zc,.slice pa pn pc,.slice ga gn gc,.slice ia iN ic,.slice fa fn fc,.slice ma mn mc,.slice ta tn tc];have hb:=aD w (.cells #[.int .i64 o,.slice za zn zc,.slice pa pn pc,.slice ga gn gc,.slice ia iN ic,.slice fa fn fc,.slice ma mn mc,.slice ta tn tc] 61);obtain⟨W,hW⟩:=aC (w.alloc (.cells #[.int .i64 o,.slice za zn zc,.slice pa pn pc,.slice ga gn gc,.slice ia iN ic,.slice fa fn fc,.slice ma mn mc,.slice ta tn tc] 61));rw[hW]at bE hb;have q0:=bE.cell (i:=0) rfl;have q1:=bE.cell (i:=1) rfl;have q2:=bE.cell (i:=2) rfl;have q3:=bE.cell (i:=3) rfl;have q4:=bE.cell (i:=4) rfl;have q5:=bE.cell (i:=5) rfl;have q6:=bE.cell (i:=6) rfl;have q7:=bE.cell (i:=7) rfl;obtain⟨AQ,hp',TQ,xG,QJ,EN,TV,lz',lp',lg',li',lm'⟩:=aT hz hp hg hi hf hm ht lz lp lg li lm;obtain⟨LM,mO,I5⟩:=aK bE hb hW;clear hz hp hg hi hf hm ht lz lp lg li lm bE hb hW;have s1:zn≤400:=by have:=lz'.o;omega
 have s2:pn≤400:=by have:=lp'.o;omega
 have s3:gn≤400:=by have:=lg'.o;omega
 have s4:iN≤400:=by have:=li'.o;omega
 have s5:mn≤100000:=by have:=lm'.o;omega
 clear sz sp sg si sf sm st mz mp mg mi mm;go_enter Tryz.func28,Tryz.ntmps28;go_upto_region 1 with fail
 rw[I5.o];by_cases ho:o=1∨o=2
 ·have t1:decide (o<1)=false:=by simp;omega
  have t2:decide (2<o)=false:=by simp;omega
  have hR0:=fun W (h:Below w.heap.size w W)=>ND 0 za zn zc _ W (AQ.o.mono h).ts;have hR1:=fun W (h:Below w.heap.size w W)=>ND 1 fa fn fc _ W (QJ.o.mono h).ts;have hR2:=fun W (h:Below w.heap.size w W)=>ND 2 pa pn pc _ W (hp'.o.mono h).ts;have hR3:=fun W (h:Below w.heap.size w W)=>ND 3 ga gn gc _ W (TQ.o.mono h).ts;have hR4:=fun W (h:Below w.heap.size w W)=>ND 4 ia iN ic _ W (xG.o.mono h).ts;have hr:zW ⟨o,z,p,g,i,f,mk,th⟩=(pK 0 z&&pK 1 f&&pK 2 p&&pK 3 g&&pK 4 i):=rfl;generalize pK 0 z=b0 at*;generalize pK 1 f=b1 at*;generalize pK 2 p=b2 at*;generalize pK 3 g=b3 at*;generalize pK 4 i=b4 at*;have J8:=aA ho;clear ho;obtain⟨LD,SA,Y0,bGI,aT7,qX⟩:=aN hR0 hR1 hR2 hR3 hR4 hr;clear hR0 hR1 hR2 hR3 hR4 hr;go_upto_region 3 with fail
  go_wp2_with fail
  refine(LD.o _ mO.o).mono ?_;rintro e w1 ⟨rfl,jY⟩;have jZ:=mO.o.tm jY;clear q0 q1 q2 q3 q4 q5 q6 q7;have q0:=(LM.o.late jY).cell (i:=0) rfl;have q1:=(LM.o.late jY).cell (i:=1) rfl;have q2:=(LM.o.late jY).cell (i:=2) rfl;have q3:=(LM.o.late jY).cell (i:=3) rfl;have q4:=(LM.o.late jY).cell (i:=4) rfl;have q5:=(LM.o.late jY).cell (i:=5) rfl;have q6:=(LM.o.late jY).cell (i:=6) rfl;obtain⟨jM,nT⟩:=aJ jZ (LM.o.late jY);clear jZ jY;cases b0 with
  |false=>
   have hl:=oI (x:=⟨o,z,p,g,i,f,mk,th⟩) J8.o (by rw[qX.o];simp);have yI:=aA hl;clear hl;go_wp2_with fail
   go_ret;exact⟨by rw[yI.o];rfl,jM.o⟩
  |true=>
  go_wp2_with fail
  refine(SA.o _ jM.o).mono ?_;rintro e w2 ⟨rfl,pF⟩;clear q0 q1 q2 q3 q4 q5 q6;have q0:=(nT.o.late pF).cell (i:=0) rfl;have q1:=(nT.o.late pF).cell (i:=1) rfl;have q2:=(nT.o.late pF).cell (i:=2) rfl;have q3:=(nT.o.late pF).cell (i:=3) rfl;have q4:=(nT.o.late pF).cell (i:=4) rfl;have q5:=(nT.o.late pF).cell (i:=5) rfl;have q6:=(nT.o.late pF).cell (i:=6) rfl;obtain⟨lJ,yT⟩:=aJ (jM.o.tm pF) (nT.o.late pF);clear jM nT pF;have jM:=lJ;have nT:=yT;clear lJ yT;cases b1 with
  |false=>
   have hl:=oI (x:=⟨o,z,p,g,i,f,mk,th⟩) J8.o (by rw[qX.o];simp);have yI:=aA hl;clear hl;go_wp2_with fail
   go_ret;exact⟨by rw[yI.o];rfl,jM.o⟩
  |true=>
  go_wp2_with fail
  refine(Y0.o _ jM.o).mono ?_;rintro e w3 ⟨rfl,pF⟩;clear q0 q1 q2 q3 q4 q5 q6;have q0:=(nT.o.late pF).cell (i:=0) rfl;have q1:=(nT.o.late pF).cell (i:=1) rfl;have q2:=(nT.o.late pF).cell (i:=2) rfl;have q3:=(nT.o.late pF).cell (i:=3) rfl;have q4:=(nT.o.late pF).cell (i:=4) rfl;have q5:=(nT.o.late pF).cell (i:=5) rfl;have q6:=(nT.o.late pF).cell (i:=6) rfl;obtain⟨lJ,yT⟩:=aJ (jM.o.tm pF) (nT.o.late pF);clear jM nT pF;have jM:=lJ;have nT:=yT;clear lJ yT;cases b2 with
  |false=>
   have hl:=oI (x:=⟨o,z,p,g,i,f,mk,th⟩) J8.o (by rw[qX.o];simp);have yI:=aA hl;clear hl;go_wp2_with fail
   go_ret;exact⟨by rw[yI.o];rfl,jM.o⟩
  |true=>
  go_wp2_with fail
  refine(bGI.o _ jM.o).mono ?_;rintro e w4 ⟨rfl,pF⟩;clear q0 q1 q2 q3 q4 q5 q6;have q0:=(nT.o.late pF).cell (i:=0) rfl;have q1:=(nT.o.late pF).cell (i:=1) rfl;have q2:=(nT.o.late pF).cell (i:=2) rfl;have q3:=(nT.o.late pF).cell (i:=3) rfl;have q4:=(nT.o.late pF).cell (i:=4) rfl;have q5:=(nT.o.late pF).cell (i:=5) rfl;have q6:=(nT.o.late pF).cell (i:=6) rfl;obtain⟨lJ,yT⟩:=aJ (jM.o.tm pF) (nT.o.late pF);clear jM nT pF;have jM:=lJ;have nT:=yT;clear lJ yT;cases b3 with
  |false=>
   have hl:=oI (x:=⟨o,z,p,g,i,f,mk,th⟩) J8.o (by rw[qX.o];simp);have yI:=aA hl;clear hl;go_wp2_with fail
   go_ret;exact⟨by rw[yI.o];rfl,jM.o⟩
  |true=>
  go_wp2_with fail
  refine(aT7.o _ jM.o).mono ?_;rintro e w5 ⟨rfl,pF⟩;clear q0 q1 q2 q3 q4 q5 q6;have q0:=(nT.o.late pF).cell (i:=0) rfl;have q1:=(nT.o.late pF).cell (i:=1) rfl;have q2:=(nT.o.late pF).cell (i:=2) rfl;have q3:=(nT.o.late pF).cell (i:=3) rfl;have q4:=(nT.o.late pF).cell (i:=4) rfl;have q5:=(nT.o.late pF).cell (i:=5) rfl;have q6:=(nT.o.late pF).cell (i:=6) rfl;obtain⟨lJ,yT⟩:=aJ (jM.o.tm pF) (nT.o.late pF);clear jM nT pF;have jM:=lJ;have nT:=yT;clear lJ yT;cases b4 with
  |false=>
   have hl:=oI (x:=⟨o,z,p,g,i,f,mk,th⟩) J8.o (by rw[qX.o];simp);have yI:=aA hl;clear hl;go_wp2_with fail
   go_ret;exact⟨by rw[yI.o];rfl,jM.o⟩
  |true=>
  have hl:=SQ (x:=⟨o,z,p,g,i,f,mk,th⟩) J8.o qX.o;have l1:=lz'.o;have l2:=lp'.o;have l3:=lg'.o;have l4:=li'.o;have l5:=lm'.o;have le:a8F ⟨o,z,p,g,i,f,mk,th⟩=zn+pn+gn+iN+mn:=by show z.length+p.length+g.length+i.length+mk.length=_;omega
  rw[le,show mk.length=mn from l5]at hl;obtain⟨l1',l2',l3',l4',l5',le'⟩:=aN l1 l2 l3 l4 l5 le;clear l1 l2 l3 l4 l5 le;by_cases hm:mn≤65536
  ·have u1:decide ((65536:Int)<mn)=false:=by simp;omega
   have v1:IntKind.i64.wrap ((zn:Int)+pn)=zn+pn:=by rw[bF];omega
   have v2:IntKind.i64.wrap ((zn:Int)+pn+gn)=zn+pn+gn:=by rw[bF];omega
   have v3:IntKind.i64.wrap ((zn:Int)+pn+gn+iN)=zn+pn+gn+iN:=by rw[bF];omega
   have v4:IntKind.i64.wrap ((zn:Int)+pn+gn+iN+mn)=zn+pn+gn+iN+mn:=by rw[bF];omega
   by_cases wC:0<zn+pn+gn+iN+mn
   ·have u2:((zn:Int)+pn+gn+iN+mn==0)=false:=by rw[beq_eq_false_iff_ne];omega
    rw[if_pos ⟨hm,wC⟩]at hl;obtain⟨EN,aHU,yI⟩:=aK hm wC hl;clear hm wC hl;go_wp2_with fail
    go_ret;exact⟨by rw[yI.o];rfl,jM.o⟩
   ·have u2:((zn:Int)+pn+gn+iN+mn==0)=true:=by rw[beq_iff_eq];omega
    rw[if_neg (fun h=>wC h.2)]at hl;obtain⟨EN,aHU,yI⟩:=aK hm wC hl;clear hm wC hl;go_wp2_with fail
    go_ret;exact⟨by rw[yI.o];rfl,jM.o⟩
  ·have u1:decide ((65536:Int)<mn)=true:=by simp;omega
   rw[if_neg (fun h=>hm h.1)]at hl;obtain⟨EN,yI⟩:=aJ hm hl;clear hm hl;go_wp2_with fail
   go_ret;exact⟨by rw[yI.o];rfl,jM.o⟩
 ·have hl:=VL (x:=⟨o,z,p,g,i,f,mk,th⟩) ho;have yI:=aA hl;clear hl;by_cases h1:o<1
  ·have t1:decide (o<1)=true:=by simpa using h1
   have J8:=aA ho;clear ho;clear h1;go_wp2_with fail
   go_ret;exact⟨by rw[yI.o];rfl,mO.o⟩
  ·have t1:decide (o<1)=false:=by simpa using h1
   have t2:decide (2<o)=true:=by simp;omega
   have J8:=aA ho;clear ho;clear h1;go_wp2_with fail
   go_ret;exact⟨by rw[yI.o];rfl,mO.o⟩
theorem aT8 (x y:Int) (a1 a2 a3 b1 b2 b3:Value) (w:World) (h:IntKind.i64.wrap (x - y)=x - y):
  Calls Tryz.prog 63 #[.agg #[.int .i64 x,a1,a2,a3],.agg #[.int .i64 y,b1,b2,b3]] w fun e w'=>e= .returned (.int .i64 (x - y))∧Below w.heap.size w w':=by
 obtain⟨W,hW,c1,c2,hb,s⟩:=nM w 28 #[.int .i64 x,a1,a2,a3] 28 #[.int .i64 y,b1,b2,b3];have p0:=c1.cell (i:=0) rfl;have p1:=c2.cell (i:=0) rfl;obtain⟨I5,c1',c2',mO,s'⟩:=aM hW c1 c2 hb s;clear hW c1 c2 hb s;go_enter Tryz.func63,Tryz.ntmps63;go_wp2_with fail
 rw[I5.o];go_wp2_with fail
 go_ret;exact⟨rfl,mO.o⟩
def aHV (w:World) (a:Option Addr) (n c:Nat):Prop:=
 n≤1∨∃(x y:Int) (a1 a2 a3 b1 b2 b3:Value),n=2∧Sl w a n c 4 [.int .i64 x,a1,a2,a3,.int .i64 y,b1,b2,b3]∧x≤y∧IntKind.i64.wrap (y - x)=y - x
theorem aHV.mono {w w':World} {a:Option Addr} {n c:Nat} (h:aHV w a n c) (hb:Below w.heap.size w w'):aHV w' a n c:=by
 rcases h with h|⟨x,y,a1,a2,a3,b1,b2,b3,h1,h2,h3⟩
 ·exact .inl h
 ·exact .inr ⟨x,y,a1,a2,a3,b1,b2,b3,h1,h2.mono hb,h3⟩
theorem aT9 (a:Option Addr) (n c:Nat) (w:World) (h:aHV w a n c) (hn:n≤2):
  Calls Tryz.prog 172 #[.slice a n c,.int .i64 0,.int .i64 n,.func (.func 63) #[] #[]] w fun e w'=>e= .returned (.tuple #[])∧Below w.heap.size w w':=by
 rcases h with h1|⟨x,y,a1,a2,a3,b1,b2,b3,rfl,hs,hxy,hw⟩
 ·have e1:decide ((1:Int)<n)=false:=by simp;omega
  go_enter Tryz.func172,Tryz.ntmps172;go_upto_region 1 with fail
  go_loopw [8] (fun v wr=>v= .int .i64 1∧wr=w) (fun _ _=>0)
  case atStart=>exact⟨rfl,rfl⟩
  case round=>
   obtain⟨rfl,rfl⟩:=hrel;go_wp2_with fail
   refine bodyPost_end (results_none rfl _ _ _) rfl ?_;exact⟨rfl,aY _ _⟩
 ·obtain⟨b,o,rfl,hb,hc⟩:=hs.lies 0 aH;have f0:=hc 0 _ rfl;have f1:=hc 1 _ rfl;have f2:=hc 2 _ rfl;have f3:=hc 3 _ rfl;have f4:=hc 4 _ rfl;have f5:=hc 5 _ rfl;have f6:=hc 6 _ rfl;have f7:=hc 7 _ rfl;clear hc;obtain⟨pX,hw',f0',f1',f2',f3',f4',f5',f6',f7'⟩:=aR hs hw f0 f1 f2 f3 f4 f5 f6 f7;clear hs hw f0 f1 f2 f3 f4 f5 f6 f7;go_enter Tryz.func172,Tryz.ntmps172;go_upto_region 1 with fail
  go_loopw [8] (fun v wr=>∃k:Int,(k=1∨k=2)∧v= .int .i64 k∧Hid (Below w.heap.size w wr)) (fun v _=>2 - (intOf v).toNat)
  case atStart=>exact⟨1,.inl rfl,rfl,aA (aY _ _)⟩
  case round=>
   obtain⟨k,hk,rfl,lI⟩:=hrel;rcases hk with rfl|rfl
   ·go_upto_region 4 with fail
    go_loopw [9] (fun v wq=>v= .int .i64 1∧Hid (Below w.heap.size w wq)) (fun _ _=>0)
    case atStart=>exact⟨rfl,lI⟩
    case round=>
     obtain⟨rfl,YJ⟩:=hrel;obtain⟨Ty,ff,oJ,jN,jK⟩:=kE wr;have jZ:=fun s=>YJ.o.trans ((jN s).mono YJ.o.size);have g0:=fun s=>late (jZ s) hb f0'.o;have g1:=fun s=>late (jZ s) hb f1'.o;have g2:=fun s=>late (jZ s) hb f2'.o;have g3:=fun s=>late (jZ s) hb f3'.o;have g4:=fun s=>late (jZ s) hb f4'.o;have g5:=fun s=>late (jZ s) hb f5'.o;have g6:=fun s=>late (jZ s) hb f6'.o;have g7:=fun s=>late (jZ s) hb f7'.o;rw[bU]at g0;have HS:=aA (jK _ ((aY _ _).drew));have hC:=fun W=>aT8 y x b1 b2 b3 a1 a2 a3 W hw'.o;have kD:decide (y - x<0)=false:=by simp;omega
     obtain⟨jH,jF,jM,MC⟩:=aL jN jK jZ hC;clear jN jK jZ hC;go_wp2_with fail
     refine jL ff aF aF HS.o ?_;iterate 17 (go_big_quiet_step ((go_at_call 63;refine(MC.o _).mono ?_;rintro e w3 ⟨rfl,jQ⟩;exact⟨rfl,jF.o _ ((jH.o _).tm jQ)⟩)))
     refine wpQuiet_nil ?_;intro s;have wR:=aA (jM.o s);clear g0 g1 g2 g3 g4 g5 g6 g7;go_wp2_with fail
     go_roundw
     case rel=>exact⟨2,.inr rfl,by go_num,wR⟩
     case measure=>simp[intOf]
   ·go_wp2_with fail
    refine bodyPost_end (results_none rfl _ _ _) rfl ?_;exact⟨rfl,lI.o⟩
theorem aTA (a:Option Addr) (n c:Nat) (k:Int) (w:World) (h:aHV w a n c) (hn:n≤2):
  Calls Tryz.prog 123 #[.slice a n c,.int .i64 0,.int .i64 n,.int .i64 k,.func (.func 63) #[] #[]] w fun e w'=>e= .returned (.tuple #[])∧Below w.heap.size w w':=by
 have e1:decide ((n:Int)≤12)=true:=by simp;omega
 have e2:IntKind.i64.wrap ((n:Int) - 0)=n:=by rw[bF];omega
 have hI:=fun W (hb:Below w.heap.size w W)=>aT9 a n c W (h.mono hb) hn;obtain⟨h',MR⟩:=aJ h hI;clear h hI;go_enter Tryz.func123,Tryz.ntmps123;go_upto_region 2 with fail
 go_loopw [1,2] (fun av bv wr=>av= .int .i64 0∧bv= .int .i64 n∧wr=w) (fun _ _ _=>0)
 case atStart=>exact⟨rfl,rfl,rfl⟩
 case round=>
  obtain⟨rfl,rfl,rfl⟩:=hrel;go_wp2_with fail
  refine(MR.o _ (aY _ _)).mono ?_;rintro e w1 ⟨rfl,jY⟩;have kR:=aA jY;clear jY;go_wp2_with fail
  refine bodyPost_ret (results_none rfl _ _ _) rfl ?_;exact⟨rfl,kR.o⟩
theorem aO6 (a:Option Addr) (n c:Nat) (w:World) (h:aHV w a n c) (hn:n≤2):
  Calls Tryz.prog 62 #[.slice a n c,.func (.func 63) #[] #[]] w fun e w'=>e= .returned (.tuple #[])∧Below w.heap.size w w':=by
 have hL:=fun W=>Tryz.bits_Len (n:Int) W aG aG;have hP:=fun k=>aTA a n c k w h hn;have e1:IntKind.u64.wrap (n:Int)=n:=by rw[IntKind.wrap_u64];omega
 generalize (Lib.bitLen (n:Int).toNat:Int)=k at*;obtain⟨h',Q0,hL'⟩:=aK h hP hL;clear h hP hL;go_enter Tryz.func62,Tryz.ntmps62;go_wp2_with fail
 refine(hL'.o _).mono ?_;rintro e w1 ⟨rfl,rfl⟩;go_wp2_with fail
 refine(Q0.o _).mono ?_;rintro e w1 ⟨rfl,jY⟩;have kR:=aA jY;clear jY;go_wp2_with fail
 refine bodyPost_end (results_none rfl _ _ _) rfl ?_;exact⟨rfl,kR.o⟩
