import Derived.Test.YtceclmpmpldmlaaGreatCz31
set_option linter.unusedSimpArgs false
set_option linter.unusedVariables false
namespace Go.Proofs.YtceclmpmpldmlaaGreat
open Go.RowKit Tt
theorem FL (a:Option Addr) (n c:Nat) (z:List Int) (o at_ size:Int) (w:World) (hs:Sl w a n c 1 (ints .u8 z)) (hb:mW z):
  Calls Tryz.prog 209 #[.agg #[.slice a n c,.int .i64 o],.int .i64 at_,.int .i64 size] w fun e w'=>e= .returned (.int .i64 (kZ z at_ size o))∧Below w.heap.size w w':=by
 have hG:=fun W (h:Below w.heap.size w W)=>a4C a n c z at_ size o W (hs.mono h) hb;generalize kZ z at_ size o=v at*;generalize VL n at_ size o=b at*;have hG':=aA hG;clear hG;go_enter Tryz.func209,Tryz.ntmps209;go_wp2_with fail
 have hb1:=aD w (.cells #[.slice a n c,.int .i64 o] 145);refine(hG'.o _ hb1).mono ?_;rintro e w2 ⟨rfl,hb2⟩;have hb:=hb1.tm hb2;clear hb2 hb1;have hb':=aA hb;clear hb;go_wp2_with fail
 go_ret;exact⟨rfl,hb'.o⟩
theorem kV (e:Int):aRN true e= .returned (.tuple #[]):=rfl
theorem kW (e:Int):aRN false e= .panicked (pan e):=rfl
theorem FM (e:Int) (w:World):Calls Tryz.prog 143 #[.bool true,.int .i64 e] w fun x w'=>x= .returned (.tuple #[])∧w=w':=kI true e w
theorem RN (e:Int) (w:World):Calls Tryz.prog 143 #[.bool false,.int .i64 e] w fun x w'=>x= .panicked (pan e)∧w=w':=kI false e w
theorem yF {K:Act→World→Prop} {Q:Exit→Act→World→Prop} {a:Act} {w:World} {c:List PanicEntry} (h:Q (.panic c) a w):Mid K Q (.panic c) a w:=h
def V6 {α:Type} (K:WkS) (sv:Value) (w:World) (R:Except Int (α×St)) (good:α→Value→Ending→World→Prop) (e:Ending) (w':World):Prop:=match R with
 | .error x=>e= .panicked (pan x)∧∃wG,Mv K.g K.gt sv wG w w'
 | .ok (v,s')=>∃wG tk',vL K s' wG tk' w'∧Mv K.g K.gt sv wG w w'∧good v wG e w'
def b0Z (R:Except Int St):Except Int (Unit×St):=match R with
 | .error x=> .error x
 | .ok s=> .ok ((),s)
theorem aRQ {s:St} {A:Int} {L k:Nat} (hk:k<L) (h:lD s (A+k)=true):JC s A L=false:=by
 unfold JC;exact List.all_eq_false.2 ⟨k,bW.2 hk,by rw[h];simp⟩
theorem aLV {s:St} {A:Int} {L:Nat} (h:∀k,k<L→lD s (A+k)=false):JC s A L=true:=by
 unfold JC;exact cZ.2 fun k hk=>by rw[h k (bW.1 hk)];rfl
theorem b7O:(Tryz.prog.info? 50).map (fun i=>(i.size,i.bytes))=some (5,40):=by kernel_rfl
theorem aY8:(Tryz.prog.info? 50).map (fun i=>i.zero.map (fun z=>z.cells.size))=some (some 5):=by kernel_rfl
theorem M9 {T:TypeId} {sz FV:Nat} (h1:(Tryz.prog.info? T).map (fun i=>(i.size,i.bytes))=some (sz,FV)) (h2:(Tryz.prog.info? T).map (fun i=>i.zero.map (fun z=>z.cells.size))=some (some sz)):
  ∃(i:TypeInfo) (z:Value),Tryz.prog.info? T=some i∧i.zero=some z∧i.size=sz∧i.bytes=FV∧z.cells.size=sz:=by
 cases hi:Tryz.prog.info? T with
 |none=>rw[hi]at h1;cases h1
 |some i=>
  rw[hi]at h1 h2;simp only[fQ,Option.some.injEq,Prod.mk.injEq]at h1 h2;cases hz:i.zero with
  |none=>rw[hz]at h2;cases h2
  |some z=>
   rw[hz]at h2;simp only[fQ,Option.some.injEq]at h2;exact⟨i,z,rfl,hz,h1.1,h1.2,h2⟩
theorem KQ (s:St) (x:lK) (k:Int):lD {s with jQ:=s.jQ++ [x]} k=(lD s k||SY k x):=by
 unfold lD;simp
set_option maxRecDepth 20000 in
set_option maxHeartbeats 8000000 in
theorem KR (K:WkS) (t:WkT K) (s:St) (sv:Value) (tk:List Nat) (w:World) (x:lK) (hok:vL K s sv tk w) (A L:Nat) (hA:x.2.2.2.1=A) (hL:x.2.2.2.2=L) (hA2:A≤4294967295) (hL2:L≤4294967295) (hsm:s.jQ.length≤4294967295):
  Calls Tryz.prog 210 #[.pointer (some ⟨K.g,0,none⟩),.agg #[.int .i64 x.1,.int .i64 x.2.1,.int .i64 x.2.2.1,.int .i64 x.2.2.2.1,.int .i64 x.2.2.2.2]] w (V6 K sv w (b0Z (mH K.n x s)) fun _ _ e _=>e= .returned (.tuple #[])):=by
 obtain⟨x0,x1,x2,A',L'⟩:=x;simp only at hA hL;subst hA hL;simp only;have hn:=t.n1;have htn:=t.tn;obtain⟨R,hR⟩:=aC (mH K.n (x0,x1,x2,(A:Int),(L:Int)) s);rw[hR];unfold mH PE at hR;simp only[bU]at hR;have hRm:=fun W=>XO A L K.n W (by omega) (by omega);have htm:Int.tmod (A:Int) 2=(A:Int) % 2:=iC (by omega);obtain⟨hok',t',a6Y⟩:=aG hok t hRm;clear hok t hRm;by_cases hev:(A:Int) % 2=0
 case neg=>
  have d1:((A:Int) % 2==0)=false:=by simp[hev]
  obtain rfl:R= .error 4:=by rw[←hR,decide_eq_false hev];simp
  clear hR hev;go_enter Tryz.func210,Tryz.ntmps210;go_upto_region 1 with fail
  have b3:=jJ.new w 50 #[.int .i64 x0,.int .i64 x1,.int .i64 x2,.int .i64 A,.int .i64 L];have hb1:=aD w (.cells #[.int .i64 x0,.int .i64 x1,.int .i64 x2,.int .i64 A,.int .i64 L] 50);have hok1:=hok'.o.later hb1;obtain⟨w1,hw1⟩:=aC (w.alloc (.cells #[.int .i64 x0,.int .i64 x1,.int .i64 x2,.int .i64 A,.int .i64 L] 50));rw[hw1]at b3 hb1 hok1;try rw[hw1]
  clear hw1;obtain⟨gs,hgs⟩:=aC w.heap.size;rw[hgs]at b3;try rw[hgs]
  have hgK:K.g<gs:=by rw[←hgs];exact hok'.o.blk.lt
  have bFD:K.gt<gs:=by rw[←hgs];exact jJ.lt (T:=214) hok'.o.tak
  obtain⟨Ty,f,hne,hbel,jH⟩:=jR w1;have q3:∀s,(f s).cell? ⟨gs,3,none⟩=some (.int .i64 A):=fun s=>(jJ.late b3 (hbel s)).cell rfl;have q4:∀s,(f s).cell? ⟨gs,4,none⟩=some (.int .i64 L):=fun s=>(jJ.late b3 (hbel s)).cell rfl;have q0:∀s,(f s).cell? ⟨K.g,0,none⟩=some (.slice K.a K.n K.c):=fun s=>(jJ.late hok1.blk (hbel s)).cell rfl;obtain⟨HS,HD,b3',hb1',AB,jG,jA,hgs'⟩:=aL (jH _ ((aW _ _).drew)) ((aW w1.heap.size w1).drew) b3 hb1 hok1 hbel jH hgs;clear b3 hb1 hok1 hbel jH hgs;go_wp2_with fail
  refine jU (S:=fun W=>∃s,W=f s) (by kernel_rfl) 18 rfl ?_;refine jF [0,1,2,3,4,5,6,7,8,9,10,11,12,13,14] 3 (by kernel_rfl) (fun d _ _ _ _ h=>by cases d <;> exact h) (by kernel_rfl) (by kernel_rfl) (by kernel_rfl) HS.o ?_;simp only[jB,aS,aT,aQ,aR];iterate 15 (go_big_quiet_step (fail))
  refine wpQuiet_nil ?_;refine jC 15 2 (by kernel_rfl) (by kernel_rfl) ?_;simp only[jB,aS,aT,aQ,aR];go_wp2_with fail
  first|refine Mid.mk ⟨HS.o,?_⟩|skip
  refine jF [16] 1 (by kernel_rfl) (fun d _ _ _ _ h=>by cases d <;> exact h) (by kernel_rfl) (by kernel_rfl) (by kernel_rfl) HS.o ?_;simp only[jB,aS,aT,aQ,aR];iterate 1 (go_big_quiet_step (fail))
  refine wpQuiet_nil ?_;refine jC 17 0 (by kernel_rfl) (by kernel_rfl) ?_;simp only[jB,aS,aT,aQ,aR];go_wp2_with fail
  refine(RN _ _).mono ?_;rintro e w2 ⟨rfl,rfl⟩;refine yF ?_;go_wp2_with fail
  exact⟨rfl,rfl,sv,Mv.of_below (hb1'.o.tm HD.o)⟩
 case pos=>
  have d1:((A:Int) % 2==0)=true:=by simp[hev]
  rw[decide_eq_true hev,dH]at hR;obtain⟨r,hr⟩:=aC (vX A L K.n);rw[hr]at hR a6Y;cases r
  case false=>
   obtain rfl:R= .error 4:=by rw[←hR];simp
   clear hR hev hr;go_enter Tryz.func210,Tryz.ntmps210;go_upto_region 1 with fail
   have b3:=jJ.new w 50 #[.int .i64 x0,.int .i64 x1,.int .i64 x2,.int .i64 A,.int .i64 L];have hb1:=aD w (.cells #[.int .i64 x0,.int .i64 x1,.int .i64 x2,.int .i64 A,.int .i64 L] 50);have hok1:=hok'.o.later hb1;obtain⟨w1,hw1⟩:=aC (w.alloc (.cells #[.int .i64 x0,.int .i64 x1,.int .i64 x2,.int .i64 A,.int .i64 L] 50));rw[hw1]at b3 hb1 hok1;try rw[hw1]
   clear hw1;obtain⟨gs,hgs⟩:=aC w.heap.size;rw[hgs]at b3;try rw[hgs]
   have hgK:K.g<gs:=by rw[←hgs];exact hok'.o.blk.lt
   have bFD:K.gt<gs:=by rw[←hgs];exact jJ.lt (T:=214) hok'.o.tak
   obtain⟨Ty,f,hne,hbel,jH⟩:=jR w1;have q3:∀s,(f s).cell? ⟨gs,3,none⟩=some (.int .i64 A):=fun s=>(jJ.late b3 (hbel s)).cell rfl;have q4:∀s,(f s).cell? ⟨gs,4,none⟩=some (.int .i64 L):=fun s=>(jJ.late b3 (hbel s)).cell rfl;have q0:∀s,(f s).cell? ⟨K.g,0,none⟩=some (.slice K.a K.n K.c):=fun s=>(jJ.late hok1.blk (hbel s)).cell rfl;obtain⟨HS,HD,b3',hb1',AB,jG,jA,hgs'⟩:=aL (jH _ ((aW _ _).drew)) ((aW w1.heap.size w1).drew) b3 hb1 hok1 hbel jH hgs;clear b3 hb1 hok1 hbel jH hgs;go_wp2_with fail
   refine jU (S:=fun W=>∃s,W=f s) (by kernel_rfl) 18 rfl ?_;refine jF [0,1,2,3,4,5,6,7,8,9,10,11,12,13,14] 3 (by kernel_rfl) (fun d _ _ _ _ h=>by cases d <;> exact h) (by kernel_rfl) (by kernel_rfl) (by kernel_rfl) HS.o ?_;simp only[jB,aS,aT,aQ,aR];iterate 15 (go_big_quiet_step (fail))
   refine wpQuiet_nil ?_;refine jC 15 2 (by kernel_rfl) (by kernel_rfl) ?_;simp only[jB,aS,aT,aQ,aR];go_wp2_with fail
   refine(a6Y.o _).mono ?_;rintro e w2 ⟨rfl,rfl⟩;go_wp2_with fail
   first|refine Mid.mk ⟨HS.o,?_⟩|skip
   refine jF [16] 1 (by kernel_rfl) (fun d _ _ _ _ h=>by cases d <;> exact h) (by kernel_rfl) (by kernel_rfl) (by kernel_rfl) HS.o ?_;simp only[jB,aS,aT,aQ,aR];iterate 1 (go_big_quiet_step (fail))
   refine wpQuiet_nil ?_;refine jC 17 0 (by kernel_rfl) (by kernel_rfl) ?_;simp only[jB,aS,aT,aQ,aR];go_wp2_with fail
   refine(RN _ _).mono ?_;rintro e w2 ⟨rfl,rfl⟩;refine yF ?_;go_wp2_with fail
   exact⟨rfl,rfl,sv,Mv.of_below (hb1'.o.tm HD.o)⟩
  case true=>
   have hAL:A+L≤K.n:=by unfold vX at hr;simp at hr;omega
   rw[if_pos rfl]at hR;clear hev hr;have hR':=aA hR;clear hR;go_enter Tryz.func210,Tryz.ntmps210;go_upto_region 1 with fail
   have b3:=jJ.new w 50 #[.int .i64 x0,.int .i64 x1,.int .i64 x2,.int .i64 A,.int .i64 L];have hb1:=aD w (.cells #[.int .i64 x0,.int .i64 x1,.int .i64 x2,.int .i64 A,.int .i64 L] 50);have hok1:=hok'.o.later hb1;obtain⟨w1,hw1⟩:=aC (w.alloc (.cells #[.int .i64 x0,.int .i64 x1,.int .i64 x2,.int .i64 A,.int .i64 L] 50));rw[hw1]at b3 hb1 hok1;try rw[hw1]
   clear hw1;obtain⟨gs,hgs⟩:=aC w.heap.size;rw[hgs]at b3;try rw[hgs]
   have hgK:K.g<gs:=by rw[←hgs];exact hok'.o.blk.lt
   have bFD:K.gt<gs:=by rw[←hgs];exact jJ.lt (T:=214) hok'.o.tak
   obtain⟨Ty,f,hne,hbel,jH⟩:=jR w1;have q3:∀s,(f s).cell? ⟨gs,3,none⟩=some (.int .i64 A):=fun s=>(jJ.late b3 (hbel s)).cell rfl;have q4:∀s,(f s).cell? ⟨gs,4,none⟩=some (.int .i64 L):=fun s=>(jJ.late b3 (hbel s)).cell rfl;have q0:∀s,(f s).cell? ⟨K.g,0,none⟩=some (.slice K.a K.n K.c):=fun s=>(jJ.late hok1.blk (hbel s)).cell rfl;obtain⟨HS,HD,b3',hb1',AB,jG,jA,hgs'⟩:=aL (jH _ ((aW _ _).drew)) ((aW w1.heap.size w1).drew) b3 hb1 hok1 hbel jH hgs;clear b3 hb1 hok1 hbel jH hgs;go_wp2_with fail
   refine jU (S:=fun W=>∃s,W=f s) (by kernel_rfl) 18 rfl ?_;refine jF [0,1,2,3,4,5,6,7,8,9,10,11,12,13,14] 3 (by kernel_rfl) (fun d _ _ _ _ h=>by cases d <;> exact h) (by kernel_rfl) (by kernel_rfl) (by kernel_rfl) HS.o ?_;simp only[jB,aS,aT,aQ,aR];iterate 15 (go_big_quiet_step (fail))
   refine wpQuiet_nil ?_;refine jC 15 2 (by kernel_rfl) (by kernel_rfl) ?_;simp only[jB,aS,aT,aQ,aR];go_wp2_with fail
   refine(a6Y.o _).mono ?_;rintro e w2 ⟨rfl,rfl⟩;go_wp2_with fail
   first|refine Mid.mk ⟨HS.o,?_⟩|refine Mid.mk ?_
   refine jF [16] 1 (by kernel_rfl) (fun d _ _ _ _ h=>by cases d <;> exact h) (by kernel_rfl) (by kernel_rfl) (by kernel_rfl) HS.o ?_;simp only[jB,aS,aT,aQ,aR];iterate 1 (go_big_quiet_step (fail))
   refine wpQuiet_nil ?_;refine jC 17 0 (by kernel_rfl) (by kernel_rfl) ?_;simp only[jB,aS,aT,aQ,aR];go_wp2_with fail
   refine(FM _ _).mono ?_;rintro e w2 ⟨rfl,rfl⟩;go_wp2_with fail
   first|refine Mid.mk ⟨HS.o,?_⟩|refine Mid.mk ?_
   refine jK (by kernel_rfl) ?_;clear q0 q3 q4 HS;have b3:=b3'.o.late HD.o;have aBH:=AB.o.later HD.o;have hbW:=hb1'.o.tm HD.o;obtain⟨W,hW⟩:=aC w1.drew;rw[hW]at b3 aBH hbW;rw[hW];have c3:W.cell? ⟨gs,3,none⟩=some (.int .i64 A):=b3.cell rfl;clear hW b3' AB jG jA HD hb1';obtain⟨b3',DY,EC⟩:=aG b3 aBH hbW;clear b3 aBH hbW;go_wp2_with fail
   clear c3;go_loopw [4] (fun av wr=>∃(m:Nat) (tk2:List Nat),A≤m∧m≤A+L∧av= .int .i64 m∧Hid (Row wr K.gt 214 .u64 (KP tk2))∧Hid (tk2.length=K.tn)∧Hid (∀x∈tk2,x<18446744073709551616)∧Hid (∀j,j<K.n→a6X tk2 j=(lD s j||(decide (A≤j)&&decide (j<m))))∧Hid (∀i:Nat,A≤i→i<m→lD s i=false)∧Hid (But K.gt W wr)) (fun av _=>A+L - (intOf av).toNat)
   case atStart=>
    exact⟨A,tk,by omega,by omega,rfl,aA DY.o.tak,aA DY.o.tkl,aA DY.o.tkb,aA (fun j hj=>by rw[DY.o.bits j hj,show(decide (A≤j)&&decide (j<A))=false by simp,Bool.or_false]),aA (fun i h1 h2=>by omega),aA (But.refl _ _)⟩
   case round=>
    obtain⟨m,tk2,hm0,hm,rfl,hrow,hl2,hx2,hbit,hfree,tX⟩:=hrel;have b3r:=b3'.o.but tX.o (by omega);have c3:wr.cell? ⟨gs,3,none⟩=some (.int .i64 A):=b3r.cell rfl;have c4:wr.cell? ⟨gs,4,none⟩=some (.int .i64 L):=b3r.cell rfl;have hblk:=DY.o.blk.but tX.o t'.o.ne;have hw0:IntKind.i64.wrap ((A:Int)+L)=A+L:=by rw[aY];omega
    clear b3r;by_cases hlt:m<A+L
    ·have d2:decide ((m:Int)<A+L)=true:=by simp;omega
     have hq2:m / 64<K.tn:=by omega
     have HI:=b7N K.g K.gt K.tn _ _ tk2 m wr hblk rfl hrow.o hl2.o hx2.o hq2 (by omega);have hbm:=hbit.o m (by omega);rw[show(decide (A≤m)&&decide (m<m))=false by simp,Bool.or_false]at hbm;rw[hbm]at HI;obtain⟨bt,hbt⟩:=aC (lD s m);rw[hbt]at HI;obtain⟨HI',bV6,EB,hblk'⟩:=aH HI hbm hbt hblk;clear HI hbm hbt hblk;cases bt
     ·obtain⟨q,hq⟩:=aC (m / 64);obtain⟨r,hr2⟩:=aC (m % 64);have hqi:(m:Int) / 64=q:=by omega
      rw[hq]at hq2;have f0:=hrow.o.cell (i:=q) (by simp[KP,hl2.o];omega);have y0:=hrow.o.frozen q;rw[aBG (by rw[hl2.o];exact hq2)]at f0;obtain⟨x,hx⟩:=aC (tk2.getD q 0);rw[hx]at f0;have aLU:x<18446744073709551616:=by
       rw[←hx,jI (show q<tk2.length by rw[hl2.o];exact hq2)];exact hx2.o _ (bL _)
      have b7P:2 ^ r<18446744073709551616:=by
       have:2 ^ r≤2 ^ 63:=Nat.pow_le_pow_right (by decide) (by omega);omega
      have h1:bits .and .u64 (m:Int) 63=(r:Int):=by rw[a3M m (by omega),hr2]
      have h2:IntKind.u64.wrap (m:Int)=m:=by rw[gI];omega
      have h3:IntKind.u64.wrap ((2:Int) ^ r)=((2 ^ r:Nat):Int):=by rw[gI,show((2:Int) ^ r)=((2 ^ r:Nat):Int) by simp];exact Int.emod_eq_of_lt (Int.natCast_nonneg _) (Int.ofNat_lt.2 b7P)
      have h4:bits .or .u64 (x:Int) ((2 ^ r:Nat):Int)=((x|||2 ^ r:Nat):Int):=b7M x _ aLU b7P;have hrr:r≤64:=by omega
      have hqn:(q:Int)<K.tn:=by omega
      have c5:wr.cell? ⟨K.g,3,none⟩=some (.slice (some ⟨K.gt,0,none⟩) K.tn K.tn):=hblk'.o.cell rfl;have hset:=aRP (tk:=tk2) (k:=m) (by rw[hq,hl2.o];exact hq2);rw[hq,hr2,hx]at hset;have hor:x|||2 ^ r<18446744073709551616:=Nat.or_lt_two_pow (n:=64) aLU b7P
      generalize hP:2 ^ r=P at*;obtain⟨hset',bNZ,hx',bSK⟩:=aH hset hor hx aLU;clear hset hor hx aLU;go_wp2_with (first|(go_at_call 86;refine(HI'.o).mono ?_;rintro e w3 ⟨rfl,rfl⟩)|(go_at_call 143;refine(FM _ _).mono ?_;rintro e w3 ⟨rfl,rfl⟩))
      go_roundw
      case rel=>
       refine⟨m+1,tk2.set q (x|||P),by omega,by omega,by go_num,aA ?_,aA (by rw[List.length_set];exact hl2.o),aA (fun y hy=>?_),aA (fun j hj=>?_),aA (fun i h1 h2=>?_),aA (tX.o.set q _)⟩
       ·have h:=hrow.o.set q ((x|||P:Nat):Int);rw[aRO]at h;exact h
       ·rcases List.mem_or_eq_of_mem_set hy with h|h
        ·exact hx2.o y h
        ·rw[h];exact bNZ.o
       ·rw[hset'.o j,hbit.o j hj,eP];simp only[dG,bF,decide_eq_true_eq];constructor
        ·rintro((h|h)|h)
         ·exact .inl h
         ·exact .inr (by omega)
         ·exact .inr (by omega)
        ·rintro(h|h)
         ·exact .inl (.inl h)
         ·by_cases hjm:j=m
          ·exact .inr hjm
          ·exact .inl (.inr (by omega))
       ·by_cases him:i=m
        ·subst him;exact EB.o
        ·exact hfree.o i h1 (by omega)
      case measure=>simp[intOf];omega
     ·obtain rfl:R= .error 5:=by
       have h5:=aRQ (s:=s) (A:=A) (L:=L) (k:=m - A) (by omega) (by rw[show(A:Int)+((m - A:Nat):Int)=m by omega];exact EB.o);have h6:=hR'.o;simp only[h5]at h6;simpa using h6.symm
      go_wp2_with (first|(go_at_call 86;refine(HI'.o).mono ?_;rintro e w3 ⟨rfl,rfl⟩)|(go_at_call 143;refine(RN _ _).mono ?_;rintro e w3 ⟨rfl,rfl⟩))
      exact⟨rfl,rfl,sv,(Mv.of_below EC.o).trans (Mv.yA tX.o (.inr rfl))⟩
    ·obtain rfl:m=A+L:=by omega
     have hfr:=aLV (s:=s) (A:=A) (L:=L) (fun k hk=>hfree.o (A+k) (by omega) (by omega));have bO0:R= .ok {s with jQ:=s.jQ++ [(x0,x1,x2,(A:Int),(L:Int))]}:=by
      have h6:=hR'.o;simp only[hfr]at h6;simpa using h6.symm
     subst bO0;go_wp2_with fail
     clear c3 c4;have bFE:Row wr K.gt 214 .u64 (KP tk2):=hrow.o;have hspot:=lJ DY.o.spot tX.o DY.o.sgt;have b3r:=b3'.o.but tX.o (by omega);have hold:Below K.w0.heap.size K.w0 wr:=DY.o.old.trans (tX.o.below t'.o.gtB DY.o.old.size);have hmv:Mv K.g K.gt sv sv w wr:=(Mv.of_below EC.o).trans (Mv.yA tX.o (.inr rfl));obtain⟨Ty2,f2,hne2,hp2,sJ⟩:=DX (fun W2=>jJ W2 K.g 148 #[.slice K.a K.n K.c,.int .i64 K.o,.slice K.sa K.sn K.sc,.slice (some ⟨K.gt,0,none⟩) K.tn K.tn,sv,.int .i64 s.no,.int .i64 s.wS]∧jJ W2 gs 50 #[.int .i64 x0,.int .i64 x1,.int .i64 x2,.int .i64 A,.int .i64 L]) wr ⟨hblk,b3r⟩;have q4:∀s,(f2 s).cell? ⟨K.g,4,none⟩=some sv:=fun s=>(hp2 s).1.cell rfl;have r0:∀s,(f2 s).cell? ⟨gs,0,none⟩=some (.int .i64 x0):=fun s=>(hp2 s).2.cell rfl;have r1:∀s,(f2 s).cell? ⟨gs,1,none⟩=some (.int .i64 x1):=fun s=>(hp2 s).2.cell rfl;have r2:∀s,(f2 s).cell? ⟨gs,2,none⟩=some (.int .i64 x2):=fun s=>(hp2 s).2.cell rfl;have r3:∀s,(f2 s).cell? ⟨gs,3,none⟩=some (.int .i64 A):=fun s=>(hp2 s).2.cell rfl;have r4:∀s,(f2 s).cell? ⟨gs,4,none⟩=some (.int .i64 L):=fun s=>(hp2 s).2.cell rfl;have HS:=aA (sJ wr.drew ⟨hblk,b3r⟩);obtain⟨i0,z0,hi0,hz,hz1,hz2,hz3⟩:=M9 b7O aY8;obtain⟨bFF,b7Q,bO1,hold',BQ,aNE,yK,hblk'⟩:=aL bFE hspot b3r hold hmv hp2 sJ hblk;clear bFE hspot b3r hold hmv hp2 sJ hblk;refine tV (t:=10) (C:=fun W=>∃s,W=f2 s) (by kernel_rfl) 11 rfl ?_;refine y8 [0,1,2,3] 7 (by kernel_rfl) (fun d _ _ _ _ h=>by cases d <;> exact h) (by kernel_rfl) (by kernel_rfl) (by kernel_rfl) HS.o ?_;simp only[jB,aS,aT,aQ,aR];iterate 4 (go_big_quiet_step (fail))
     refine wpQuiet_nil ?_;refine nU [4,5] 5 (by kernel_rfl) (fun d _ _ _ _ h=>by cases d <;> exact h) (by kernel_rfl) (by kernel_rfl) (by kernel_rfl) HS.o ?_;simp only[jB,aS,aT,aQ,aR];iterate 2 (go_big_quiet_step (fail))
     refine wpQuiet_nil ?_;clear q4 r0 r1 r2 r3 r4;refine l6 6 4 (by kernel_rfl) (by kernel_rfl) ?_;simp only[jB,aS,aT,aQ,aR];go_wp2_with fail
     have hal:=(aD wr (.cells #[.int .i64 x0,.int .i64 x1,.int .i64 x2,.int .i64 A,.int .i64 L] 50)).drew;have hnew:Sl (wr.alloc (.cells #[.int .i64 x0,.int .i64 x1,.int .i64 x2,.int .i64 A,.int .i64 L] 50)).drew (some ⟨wr.heap.size,0,none⟩) 1 1 5 (spC (x0,x1,x2,(A:Int),(L:Int))):=(Sl.new wr 50 5 1 #[.int .i64 x0,.int .i64 x1,.int .i64 x2,.int .i64 A,.int .i64 L] (0,0) (by omega) rfl).mono ((aW _ _).drew);have hblk7:=hblk'.o.late hal;have b37:=bO1.o.late hal;have aFU:=jY b7Q.o hal;have aRR:Row _ K.gt 214 .u64 (KP tk2):=jJ.late (T:=214) bFF.o hal;have aRS:=hold'.o.tm hal;have wK:=BQ.o.later hal;have b7R:=hal.size;obtain⟨w7,hw7⟩:∃w7,(wr.alloc (.cells #[.int .i64 x0,.int .i64 x1,.int .i64 x2,.int .i64 A,.int .i64 L] 50)).drew=w7:=⟨_,rfl⟩;rw[hw7]at hblk7 b37 aFU aRR aRS wK hnew b7R;rw[hw7];obtain⟨gn,hgn⟩:=aC wr.heap.size;rw[hgn]at hnew;rw[hgn];clear hw7 hal HS hgn;have HS:=aA (yK.o w7 ⟨hblk7,b37⟩);have aPU:sv.ownBlock≠some K.g:=DY.o.sg;have b1A:sv.ownBlock≠some K.gt:=DY.o.sgt;have b1B:sv.ownBlock≠some gs:=fun e=>by have:=(hok'.o.spot.lt _ e).2;have:=hgs'.o;omega
     obtain⟨aRT,bFG,aI6,aRU,aFV,aRV,I9,b1C,aRW,b7S⟩:=aN hblk7 b37 aFU aRR aRS wK hnew aPU b1A b1B;clear hblk7 b37 aFU aRR aRS wK hnew aPU b1A b1B;first|refine Mid.mk ⟨fun _=>HS.o,?_⟩|refine Mid.mk ?_
     refine l6 7 3 (by kernel_rfl) (by kernel_rfl) ?_;simp only[jB,aS,aT,aQ,aR];go_wp2_with (at_builtin;refine lI rfl _ _ 43 rfl K.w0.heap.size 50 i0 z0 5 40 Tryz.underlying43 hi0 hz hz1 hz2 hz3 (by decide) sv s.jQ.length _ rfl aI6.o ⟨gn,0,none⟩ 1 1 (spC (x0,x1,x2,(A:Int),(L:Int))) rfl I9.o (aH9 _) (by omega) (by decide) aFV.o.size ?_;intro a8 c8 w8 ob hg8 vF;obtain⟨Ob,Hg8,Ho8⟩:=aG ob hg8 vF;clear ob hg8 vF)
     have aBI:=aRT.o.grown Hg8.o b1C.o;have b38:=bFG.o.grown Hg8.o b7S.o;have b1D:Row w8 K.gt 214 .u64 (KP tk2):=jJ.grown (T:=214) aRU.o Hg8.o aRW.o;have uD:=aRV.o.trans (Mv.PG Hg8.o Ho8.o);have b1E:=below_grown aFV.o Hg8.o aFV.o.size aI6.o;have bV7:=aRT.o.lt;have bSL:=jJ.lt (T:=214) aRU.o;have hg2:(Value.slice a8 (s.jQ.length+1) c8).ownBlock≠some K.g:=fun e=>by rcases Ho8.o _ e with h|h <;> first|exact b1C.o h|omega
     have hgt2:(Value.slice a8 (s.jQ.length+1) c8).ownBlock≠some K.gt:=fun e=>by rcases Ho8.o _ e with h|h <;> first|exact aRW.o h|omega
     have HS:=aA (yK.o w8 ⟨aBI,b38⟩);have p4:w8.cell? ⟨K.g,4,none⟩=some sv:=aBI.cell rfl;have y4:=aBI.frozen 4;clear b38;obtain⟨b7T,b7U,vG,aRX,aKK,bFH⟩:=aJ aBI b1D uD b1E hg2 hgt2;clear aBI b1D uD b1E hg2 hgt2;first|refine Mid.mk ⟨fun _=>HS.o,?_⟩|refine Mid.mk ?_
     refine y8 [8,9] 1 (by kernel_rfl) (fun d _ _ _ _ h=>by cases d <;> exact h) (by kernel_rfl) (by kernel_rfl) (by kernel_rfl) HS.o ?_;simp only[jB,aS,aT,aQ,aR];iterate 2 (go_big_quiet_step (fail))
     refine wpQuiet_nil ?_;refine l6 10 0 (by kernel_rfl) (by kernel_rfl) ?_;simp only[jB,aS,aT,aQ,aR];go_wp2_with fail
     first|refine Mid.mk ⟨fun h=>(by simp[MI]at h),?_⟩|refine Mid.mk ?_
     refine vV (by kernel_rfl) ?_;clear p4 y4;go_wp2_with fail
     refine bodyPost_end (results_none rfl _ _ _) rfl ?_;refine⟨.slice a8 (s.jQ.length+1) c8,tk2,⟨aRX.o.trans (((But.refl K.g w8).set 4 _).below t'.o.gB aRX.o.size),b7T.o.set 4 _,jJ.lF (T:=214) b7U.o (Ne.symm t'.o.ne) 4 _,hl2.o,hx2.o,fun j hj=>?_,?_,aKK.o,bFH.o⟩,vG.o.trans (Mv.yA ((But.refl K.g w8).set 4 _) (.inl rfl)),rfl⟩
     ·rw[hbit.o j hj,KQ];congr 1
      unfold SY;rw[eP];simp;omega
     ·have h:=lJ Ob.o ((But.refl K.g w8).set 4 (.slice a8 (s.jQ.length+1) c8)) aKK.o;rw[bO,uO];exact h
