import Derived.Test.YtceclmpmpldmlaaGreatCx06
import Derived.Lib.ConvBytes
import Derived.Laws.AppendOwn
import Derived.LoopN
set_option linter.unusedSimpArgs false
set_option linter.unusedVariables false
set_option maxRecDepth 100000
set_option maxHeartbeats 8000000
namespace Go.Proofs.YtceclmpmpldmlaaGreat
open Go.RowKit Tt
theorem BR (dir:Int) (a:Option Addr) (n c:Nat) (ts:List Tg) (w:World) (h:Ts w a n c ts) (hd:(Lit.int .i64 dir).wf=true) (D5:∀x∈ts,a6A x):
  Calls Tryz.prog 69 #[.int .i64 dir,.slice a n c] w fun e w'=>e= .returned (.bool (pK dir ts))∧Below w.heap.size w w':=by
 have hm:=h.max;have hl:=h.len;obtain⟨H,Hl,Hd,Hok⟩:=aL h hl hd D5;clear h hl hd D5;obtain⟨r,hr⟩:=aC (pK dir ts);rw[hr];have Hr:=aA hr;clear hr;go_enter Tryz.func69,Tryz.ntmps69;go_wp2_with fail
 refine(aM6 w).mono ?_;rintro e w1 ⟨mb,rfl,hmb,hr1,jY⟩;obtain⟨Hr1,HB1⟩:=aJ hr1 jY;clear hr1 jY hmb;go_wp2;go_loopw [11] (fun i wr=>∃k:Nat,k≤n∧i= .int .i64 k∧Hid (∀j,j<k→ER dir (ts.getD j (0,0,0, []))=true)∧Hid (∀j,j+1<k→(ts.getD j (0,0,0, [])).1<(ts.getD (j+1) (0,0,0, [])).1)∧Hid (Below w1.heap.size w1 wr)) (fun i _=>n - (intOf i).toNat)
 case atStart=>exact⟨0,by omega,rfl,aA (fun j hj=>by omega),aA (fun j hj=>by omega),aA (aY _ _)⟩
 case round=>
  obtain⟨k,hk,rfl,kS,bC1,hb⟩:=hrel;have HBw:=aA (HB1.o.tm hb.o);by_cases kD:k<n
  ·obtain⟨b,o,a1,n1,c1,rfl,xI,e0,e1,e2,e3,hs⟩:=(H.o.mono HBw.o).at kD;obtain⟨⟨tg,ty,ct,d⟩,hx⟩:∃x,ts.getD k (0,0,0, [])=x:=⟨_,rfl⟩;rw[hx]at e0 e1 e2 hs;simp only at e0 e1 e2 hs;have ZU:a6A (tg,ty,ct,d):=hx▸Hok.o _ (aQ0 Hl.o kD);obtain⟨Hx,bNQ,Hs⟩:=aK hx ZU hs;clear hx ZU hs;obtain⟨m,UA⟩:=aC (DJ dir tg ty ct d);have Hmm:Hid (DJ dir tg ty ct d=m):=aA UA;have bDB:Hid (ER dir (tg,ty,ct,d)=m):=aA UA;clear UA;obtain⟨w2,MQ⟩:∃w2,w2=wr.alloc (.cells #[.int .i64 tg,.int .i64 ty,.int .i64 ct,.slice a1 n1 c1] 74):=⟨_,rfl⟩;obtain⟨g,hg⟩:∃g,g=wr.heap.size:=⟨_,rfl⟩;have jT:Below wr.heap.size wr w2:=by rw[MQ];exact(aY _ _).alloc (aZ _) _
   have ht2:GX w2 g tg ty ct a1 n1 c1:=by rw[hg,MQ];exact GX.new ..
   have zF:=hb.o.tm jT;obtain⟨b5O,Hs2,Hr2⟩:=aK zF (Hs.o.mono jT) (Hr1.o.mono zF);have HQ:Hid (Below w2.heap.size w2 w2.drew):=aA ((aY _ _).drew);obtain⟨bd,tQ⟩:=aC (decide (0<k)&&decide (tg≤(ts.getD (k - 1) (0,0,0, [])).1)|| !m);have Hbd:=aA tQ;clear tQ;obtain⟨Hkn,Hlt,HDW⟩:=aK hk kD Hd.o;obtain⟨ok1,ok4⟩:=bNQ.o;obtain⟨Htw,Hby⟩:=aJ ok1 ok4;clear ok1 ok4;have HC:Hid (Calls Tryz.prog 133 #[.map (some mb),.int .i64 dir,.agg #[.int .i64 tg,.int .i64 ty,.int .i64 ct,.slice a1 n1 c1]] w2.drew fun e w'=>e= .returned (.bool m)∧Below w2.drew.heap.size w2.drew w'):=
    aA (by have:=aPP mb dir tg ty ct a1 n1 c1 d w2.drew (Hr2.o.mono HQ.o) (Hs2.o.mono HQ.o) Hby.o Hd.o Htw.o;rwa [Hmm.o]at this)
   go_wp2_with fail
   rw[←MQ,←hg];have QH:=ht2.lt;obtain⟨q0,q1,q2,q3,_⟩:=ht2;have Hat:Hid (∀j,j<n→w2.cell? ⟨b,o+j*4,none⟩=some (.int .i64 (ts.getD j (0,0,0, [])).1)):=aA (fun j hj=>by
    obtain⟨b',o',a2,n2,c2,yZ,_,y0,_⟩:=(H.o.mono (HB1.o.tm b5O.o)).at hj;cases yZ
    exact y0)
   clear MQ hg jT zF hb e0 e1 e2 e3;go_cut [11,35]from 11 to 36 (fun u v wx=>u= .int .i64 k∧v= .bool bd∧Below w2.heap.size w2 wx)
   case first=>
    rcases fT k with EM|EM
    ·have f1:decide ((0:Int)<(k:Int))=false:=by simp;omega
     have f2:decide (0<k)=false:=by simp;omega
     have hbm:bd= !m:=by
      have f2:decide (0<k)=false:=by simp;omega
      rw[←Hbd.o,f2];simp
     have Hbm:=aA hbm;clear EM hbm hk kD;refine I6 17 aF aF _ _ (by simp only[gP,List.take_zero];rfl) (by simp only[List.drop_succ_cons,List.drop_zero];rfl) ?_;iterate 17 (go_big_quiet_step (fail))
     refine wpQuiet_nil ?_;obtain⟨Hr3,Hs3⟩:=aJ (Hr2.o.mono HQ.o) (Hs2.o.mono HQ.o);go_wp2_with fail
     refine HC.o.mono ?_;rintro e w3 ⟨rfl,jQ⟩;have Hb3:=aA (HQ.o.trans jQ);clear jQ;go_wp2_with fail
     go_meet
     exact⟨rfl,by rw[Hbm.o],Hb3.o⟩
    ·obtain⟨k',WM⟩:∃k':Nat,k'+1=k:=⟨k - 1,by omega⟩;have f1:decide ((0:Int)<(k:Int))=true:=by simp;omega
     have f2:decide (0<k)=true:=by simp;omega
     have wk:IntKind.i64.wrap ((k:Int) - 1)=(k':Int):=by rw[bF];omega
     obtain⟨tp,htp⟩:∃tp,(ts.getD k' (0,0,0, [])).1=tp:=⟨_,rfl⟩;have q4:=Hat.o k' aG;rw[htp]at q4;have EC:(k':Int)<(n:Int):=by omega
     have a6B:k'<n:=by omega
     have tQ:bd=(decide (tg≤tp)|| !m):=by
      have f2:decide (0<k)=true:=by simp;omega
      rw[←Hbd.o,f2,show k - 1=k' by omega,htp];simp
     have bDC:=aA tQ;clear EM tQ hk kD WM htp;have hpn:(0:Int)≤(k':Int):=by omega
     by_cases ZK:tg≤tp
     ·have g1:decide (tg≤tp)=true:=by simpa using ZK
      have oU:bd=true:=by rw[bDC.o,g1];rfl
      have Hbt:=aA oU;clear oU;refine I6 17 aF aF _ _ (by simp only[gP,List.take_zero];rfl) (by simp only[List.drop_succ_cons,List.drop_zero];rfl) ?_;iterate 17 (go_big_quiet_step (fail))
      refine wpQuiet_nil ?_;go_wp2_with fail
      go_meet
      exact⟨rfl,by rw[Hbt.o],HQ.o⟩
     ·have g1:decide (tg≤tp)=false:=by simpa using ZK
      have oU:bd= !m:=by rw[bDC.o,g1];rfl
      have Hbt:=aA oU;clear oU;refine I6 17 aF aF _ _ (by simp only[gP,List.take_zero];rfl) (by simp only[List.drop_succ_cons,List.drop_zero];rfl) ?_;iterate 17 (go_big_quiet_step (fail))
      refine wpQuiet_nil ?_;go_wp2_with fail
      refine HC.o.mono ?_;rintro e w3 ⟨rfl,jQ⟩;have Hb3:=aA (HQ.o.trans jQ);clear jQ;go_wp2_with fail
      go_meet
      exact⟨rfl,by rw[Hbt.o],Hb3.o⟩
   case rest=>
    obtain⟨rfl,rfl,mF⟩:=hcut;rename World=>w4
    have HB4:Hid (Below w1.heap.size w1 w4):=aA (b5O.o.tm mF);clear mF;cases bd
    ·have hmt:m=true:=by have:=Hbd.o;simp at this;exact this.2
     have b1B:∀j,j+1<k+1→(ts.getD j (0,0,0, [])).1<(ts.getD (j+1) (0,0,0, [])).1:=fun j hj=>by
      rcases dM (j+1) k with h1|h1
      ·exact bC1.o j h1
      ·obtain rfl:k=j+1:=by omega
       have h2:=Hbd.o;rw[Hx.o];simp at h2;have:=h2.1;simpa using this
     have UO:∀j,j<k+1→ER dir (ts.getD j (0,0,0, []))=true:=fun j hj=>by
      rcases dM j k with h1|h1
      ·exact kS.o j h1
      ·obtain rfl:j=k:=by omega
       rw[Hx.o,bDB.o,hmt]
     obtain⟨bDE,bDF⟩:=aJ b1B UO;clear b1B UO hmt;go_wp2_with fail
     go_roundw
     case rel=>
      exact⟨k+1,by omega,by go_num,bDF,bDE,HB4⟩
     case measure=>
      simp[intOf];omega
    ·have hf:pK dir ts=false:=by
      unfold pK;cases hmc:m
      ·rw[aQ2 Hl.o kD (by rw[Hx.o,bDB.o,hmc])];rfl
      ·have h2:=Hbd.o;rw[hmc]at h2;simp at h2;have hr0:EW ts=false:=a7I (i:=k - 1) (by rw[Hl.o];omega) (by rw[show k - 1+1=k by omega,Hx.o];exact h2.2);rw[hr0];simp
     obtain rfl:r=false:=by rw[←Hr.o,hf]
     clear hf;have HE:=aA (HB1.o.tm HB4.o);go_wp2;go_ret;exact⟨rfl,HE.o⟩
  ·have ha:ts.all (ER dir)=true:=aQ1 Hl.o (fun j hj=>kS.o j aG);have hri:EW ts=true:=KU.2 (fun i hi=>bC1.o i (by rw[Hl.o]at hi;omega));have U9:r=(decide (0≤dir)&&decide (dir≤5)):=by rw[←Hr.o];unfold pK;rw[ha,hri];simp
   have Hr2:=aA U9;clear ha hri U9 kS bC1;by_cases t1:0≤dir
   ·by_cases t2:dir<6
    ·obtain rfl:r=true:=by rw[Hr2.o,decide_eq_true t1,decide_eq_true (show dir≤5 by omega)];rfl
     go_wp2;go_ret;exact⟨rfl,HBw.o⟩
    ·obtain rfl:r=false:=by rw[Hr2.o,decide_eq_false (show ¬dir≤5 by omega)];simp
     go_wp2;go_ret;exact⟨zO (by simp;try omega),HBw.o⟩
   ·obtain rfl:r=false:=by rw[Hr2.o,decide_eq_false t1];simp
    go_wp2;go_ret;exact⟨rfl,HBw.o⟩
def rF (s:Int):Int:=if s=1 then 256 else if s=2 then 65536 else if s=4 then 4294967296 else 0
def ZV:Nat→Int→List Int
 |0,_=> []
 |k+1,n=>n % 256::ZV k (n / 256)
theorem UQ:∀(k:Nat) (n:Int),(ZV k n).length=k
 |0,_=>rfl
 |k+1,n=>by simp[ZV,UQ k]
def lZ (n s o:Int):Bool:=decide (1≤o)&&decide (o≤2)&&decide (0≤n)&&decide (n<rF s)
def kZ (n s o:Int):List Int:=if lZ n s o=true then(if o=1 then ZV s.toNat n else(ZV s.toNat n).reverse)else []
theorem JG (s:Int) (w:World):Calls Tryz.prog 241 #[.int .i64 s] w fun e w'=>e= .returned (.int .i64 (rF s))∧w=w':=by
 by_cases h1:s=1
 ·subst h1;go_enter Tryz.func241,Tryz.ntmps241;go_wp2;go_ret;exact⟨rfl,rfl⟩
 ·by_cases h2:s=2
  ·subst h2;go_enter Tryz.func241,Tryz.ntmps241;go_wp2;go_ret;exact⟨rfl,rfl⟩
  ·by_cases h3:s=4
   ·subst h3;go_enter Tryz.func241,Tryz.ntmps241;go_wp2;go_ret;exact⟨rfl,rfl⟩
   ·have e:rF s=0:=by unfold rF;rw[if_neg h1,if_neg h2,if_neg h3]
    rw[e];go_enter Tryz.func241,Tryz.ntmps241;go_wp2;go_ret;exact⟨rfl,rfl⟩
theorem aQ3 {s:Int} (h:0<rF s):s=1∨s=2∨s=4:=by
 unfold rF at h;split at h
 ·exact .inl ‹_›
 ·split at h
  ·exact .inr (.inl ‹_›)
  ·split at h
   ·exact .inr (.inr ‹_›)
   ·omega
theorem aK0 (s:Int):rF s≤4294967296:=by
 unfold rF;split
 ·omega
 ·split
  ·omega
  ·split <;> omega
theorem aBK:(Tryz.prog.info? 5).map (fun i=>(i.zero,i.size,i.bytes))=some (some (.int .u8 0),1,1):=by kernel_rfl
theorem BA (n s o:Int) (w:World):
  Calls Tryz.prog 188 #[.int .i64 n,.int .i64 s,.int .i64 o] w fun e w'=>∃a m c,e= .returned (.tuple #[.slice a m c,.bool (lZ n s o)])∧w'.ownsRow w.heap.size 5 1 (.slice a m c) m (ints .u8 (kZ n s o))∧Below w.heap.size w w':=by
 obtain⟨i0,hi,sN,oG,qK⟩:=info_parts aBK;by_cases h1:o<1
 ·have e:lZ n s o=false:=by unfold lZ;rw[decide_eq_false (show ¬1≤o by omega)];rfl
  have e2:kZ n s o= []:=by unfold kZ;rw[e];rfl
  rw[e,e2];clear e e2;go_enter Tryz.func188,Tryz.ntmps188;go_wp2;go_ret2;exact⟨_,_,_,rfl,kF _ _ _ _,aY _ _⟩
 ·by_cases h2:2<o
  ·have e:lZ n s o=false:=by unfold lZ;rw[decide_eq_false (show ¬o≤2 by omega)];simp
   have e2:kZ n s o= []:=by unfold kZ;rw[e];rfl
   rw[e,e2];clear e e2;go_enter Tryz.func188,Tryz.ntmps188;go_wp2;go_ret2;exact⟨_,_,_,rfl,kF _ _ _ _,aY _ _⟩
  ·by_cases h3:n<0
   ·have e:lZ n s o=false:=by unfold lZ;rw[decide_eq_false (show ¬0≤n by omega)];simp
    have e2:kZ n s o= []:=by unfold kZ;rw[e];rfl
    rw[e,e2];clear e e2;go_enter Tryz.func188,Tryz.ntmps188;go_wp2;go_ret2;exact⟨_,_,_,rfl,kF _ _ _ _,aY _ _⟩
   ·by_cases h4:rF s≤n
    ·have e:lZ n s o=false:=by unfold lZ;rw[decide_eq_false (show ¬n<rF s by omega)];simp
     have e2:kZ n s o= []:=by unfold kZ;rw[e];rfl
     rw[e,e2];clear e e2;generalize hT:rF s=T at h4;have HT:=aA hT;clear hT;go_enter Tryz.func188,Tryz.ntmps188;go_wp2_with (go_at_call 241;refine(JG _ _).mono ?_;rw[HT.o];rintro e w' ⟨rfl,rfl⟩)
     go_ret2;exact⟨_,_,_,rfl,kF _ _ _ _,aY _ _⟩
    ·have e:lZ n s o=true:=by unfold lZ;rw[decide_eq_true (show 1≤o by omega),decide_eq_true (show o≤2 by omega),decide_eq_true (show 0≤n by omega),decide_eq_true (show n<rF s by omega)];rfl
     obtain⟨S,hS,hSb⟩:∃S:Nat,s=S∧S≤4:=by
      rcases aQ3 (s:=s) aG with rfl|rfl|rfl
      ·exact⟨1,rfl,by omega⟩
      ·exact⟨2,rfl,by omega⟩
      ·exact⟨4,rfl,by omega⟩
     obtain⟨B,hB,hT⟩:∃B:Int,B≤4294967296∧rF s≤B:=⟨_,iY _,aK0 s⟩;have HB:=aA hB;clear hB;generalize hTT:rF s=T at h4 hT;subst hS;have HT:=aA hTT;clear hTT;rcases(show o=1∨o=2 by omega)with ho|ho
     ·have e2:kZ n S o=ZV S n:=by unfold kZ;rw[if_pos e,if_pos ho];rfl
      rw[e,e2];obtain⟨hnB,H3,HSb⟩:=aK (show n≤B by omega) h3 hSb;have q1:decide (o<1)=false:=by simp;omega
      have q2:decide (2<o)=false:=by simp;omega
      have q3:(o==1)=true:=by simp;omega
      have q4:decide (n<0)=false:=by simp;omega
      have q5:decide (T≤n)=false:=by simp;omega
      clear ho h3 h4;clear e e2 h1 h2 hT hSb;go_enter Tryz.func188,Tryz.ntmps188;go_wp2_with (go_at_call 241;refine(JG _ _).mono ?_;rw[HT.o];rintro e w' ⟨rfl,rfl⟩)
      go_loopw [0,8,9] (fun nv v i wr=>∃(k:Nat) (nk:Int) (a4:Option Addr) (c4:Nat) (l:List Int),k≤S∧nv= .int .i64 nk∧0≤nk∧Hid (nk≤B)∧v= .slice a4 k c4∧i= .int .i64 k∧Hid (wr.ownsRow w.heap.size 5 1 (.slice a4 k c4) k (ints .u8 l))∧Hid (l++ZV (S - k) nk=ZV S n)∧Hid (Below w.heap.size w wr)) (fun _ _ i _=>S - (intOf i).toNat)
      case atStart=>exact⟨0,n,none,0, [],by omega,rfl,by have:=H3.o;omega,hnB,rfl,rfl,aA (kF _ _ _ _),aA (by simp),aA (aY _ _)⟩
      case round=>
       obtain⟨k,nk,a4,c4,l,hk,rfl,hn0,KI,rfl,rfl,Ho,Hl,Hb⟩:=hrel;by_cases kD:k<S
       ·have hk4:k≤4:=by have:=HSb.o;omega
        have hnn:=KI.o;have hBB:=HB.o;obtain⟨r,hr⟩:=aC (nk % 256);obtain⟨q,hq⟩:=aC (nk / 256);have U8:Int.tmod nk 256=r:=by rw[gH hn0];exact hr
        have MV:Int.tdiv nk 256=q:=by rw[Int.tdiv_eq_ediv_of_nonneg hn0];exact hq
        have hm3:IntKind.u8.wrap r=r:=by rw[IntKind.wrap_u8];omega
        have J3:=aB r aG;have hm5:=aB q aG;obtain⟨Hq0,HqB,Hr,Hq,Hn0⟩:=aM (show 0≤q by omega) (show q≤B by omega) hr hq hn0;clear hr hq hnn hBB hn0;go_wp2_with (at_builtin;refine kK rfl _ _ 24 rfl w.heap.size 5 i0 _ 1 1 Tryz.underlying24 hi sN oG qK rfl aH _ k _ rfl (eG Ho.o _) _ 1 1 _ rfl (Sl.new wr 5 1 1 _ (0,0) aG rfl) (by simp[Value.oneCell']) (by have:=HSb.o;omega) aH (by have:=Hb.o.size;simp;omega) ?_;intro a5 c5 w2 ob jT HZ;clear HZ;obtain⟨Ob,Hb2⟩:=aJ ob ((Hb.o.alloc Hb.o.size _).trans jT);clear ob jT)
        go_roundw
        case rel=>exact⟨k+1,q,a5,c5,l++ [r],by omega,rfl,Hq0.o,HqB,rfl,by have:=HSb.o;go_num,aA (by have h1:=Ob.o;rw[mG];exact h1),aA (by
         have h0:=Hl.o;rw[show S - k=(S - (k+1))+1 by omega]at h0;simp only[ZV]at h0;rw[dH,←Hr.o,←Hq.o];exact h0),Hb2⟩
        case measure=>have:=HSb.o;simp[intOf];omega
       ·obtain rfl:k=S:=by omega
        have hl:=Hl.o;rw[iP]at hl;simp only[ZV,dR]at hl;have HL:=aA hl;clear hl;go_wp2;go_ret2;exact⟨_,_,_,rfl,by rw[←HL.o];exact Ho.o,Hb.o⟩
     ·have e2:kZ n S o=(ZV S n).reverse:=by unfold kZ;rw[if_pos e,if_neg (show ¬o=1 by omega)];rfl
      rw[e,e2];obtain⟨hnB,H3,HSb⟩:=aK (show n≤B by omega) h3 hSb;have q1:decide (o<1)=false:=by simp;omega
      have q2:decide (2<o)=false:=by simp;omega
      have q3:(o==1)=false:=by simp;omega
      have q4:decide (n<0)=false:=by simp;omega
      have q5:decide (T≤n)=false:=by simp;omega
      clear ho h3 h4;clear e e2 h1 h2 hT hSb;go_enter Tryz.func188,Tryz.ntmps188;go_wp2_with (go_at_call 241;refine(JG _ _).mono ?_;rw[HT.o];rintro e w' ⟨rfl,rfl⟩)
      go_loopw [0,8,9] (fun nv v i wr=>∃(k:Nat) (nk:Int) (a4:Option Addr) (c4:Nat) (l:List Int),k≤S∧nv= .int .i64 nk∧0≤nk∧Hid (nk≤B)∧v= .slice a4 k c4∧i= .int .i64 k∧Hid (wr.ownsRow w.heap.size 5 1 (.slice a4 k c4) k (ints .u8 l))∧Hid (l.reverse++ZV (S - k) nk=ZV S n)∧Hid (Below w.heap.size w wr)) (fun _ _ i _=>S - (intOf i).toNat)
      case atStart=>exact⟨0,n,none,0, [],by omega,rfl,by have:=H3.o;omega,hnB,rfl,rfl,aA (kF _ _ _ _),aA (by simp),aA (aY _ _)⟩
      case round=>
       obtain⟨k,nk,a4,c4,l,hk,rfl,hn0,KI,rfl,rfl,Ho,Hl,Hb⟩:=hrel;by_cases kD:k<S
       ·have hk4:k≤4:=by have:=HSb.o;omega
        have hnn:=KI.o;have hBB:=HB.o;obtain⟨r,hr⟩:=aC (nk % 256);obtain⟨q,hq⟩:=aC (nk / 256);have U8:Int.tmod nk 256=r:=by rw[gH hn0];exact hr
        have MV:Int.tdiv nk 256=q:=by rw[Int.tdiv_eq_ediv_of_nonneg hn0];exact hq
        have hm3:IntKind.u8.wrap r=r:=by rw[IntKind.wrap_u8];omega
        have J3:=aB r aG;have hm5:=aB q aG;obtain⟨Hq0,HqB,Hr,Hq,Hn0⟩:=aM (show 0≤q by omega) (show q≤B by omega) hr hq hn0;clear hr hq hnn hBB hn0;go_wp2_with (at_builtin;refine kK rfl _ _ 24 rfl wr.heap.size 5 i0 _ 1 1 Tryz.underlying24 hi sN oG qK rfl aH _ 1 _ rfl (GR wr wr.heap.size 5 1 1 _ (aZ _) (by unfold maxLen;omega) rfl) _ k c4 _ rfl (vU (Sl.jU Ho.o).1 _) oK (by have:=HSb.o;omega) aH (by simp) ?_;intro a5 c5 w2 ob jT HZ;clear HZ;obtain⟨Ob,Hb2⟩:=aJ (kI ob Hb.o.size) ((Hb.o.alloc Hb.o.size _).trans (jT.mono Hb.o.size));clear ob jT)
        go_roundw
        case rel=>exact⟨k+1,q,a5,c5,r::l,by omega,rfl,Hq0.o,HqB,by rw[Nat.add_comm],by have:=HSb.o;go_num,aA (by have h1:=Ob.o;rw[Nat.add_comm 1 k]at h1;exact h1),aA (by
         have h0:=Hl.o;rw[show S - k=(S - (k+1))+1 by omega]at h0;simp only[ZV]at h0;rw[←Hr.o,←Hq.o];simpa using h0),Hb2⟩
        case measure=>have:=HSb.o;simp[intOf];omega
       ·obtain rfl:k=S:=by omega
        have hl:=Hl.o;rw[iP]at hl;simp only[ZV,dR]at hl;have HL:=aA hl;clear hl;go_wp2;go_ret2;exact⟨_,_,_,rfl,by rw[←HL.o,List.reverse_reverse];exact Ho.o,Hb.o⟩
end Go.Proofs.YtceclmpmpldmlaaGreat
namespace Tt
open Go Go.RowKit
def aY3 (s:ByteArray):List Int:=s.data.toList.map fun b=>(b.toNat:Int)
section
variable {P:Program} {w:World} {ops:Array Oper} {rest:List Oper} {o:Oper} {a:Act} {Q:Exit→Act→World→Prop}
end
end Tt
namespace Go.Proofs.YtceclmpmpldmlaaGreat
open Go.RowKit Tt
theorem b5P (w:World):Calls Tryz.prog 188 #[.int .i64 1,.int .i64 1,.int .i64 2] w fun e w'=>∃a c,e= .returned (.tuple #[.slice a 1 c,.bool true])∧Sl w' a 1 c 1 (ints .u8 [1])∧Below w.heap.size w w':=by
 refine(BA _ _ _ _).mono ?_;rintro e w' ⟨a,m,c,rfl,ho,hb⟩;rw[show kZ 1 1 2= [1] by decide]at ho;have hs:=(Sl.jU ho).1;obtain rfl:m=1:=by have:=hs.nU;simpa using this.symm
 exact⟨a,c,by rw[show lZ 1 1 2=true by decide],hs,hb⟩
def aG4 (dir tag count:Int) (types:List Int):Bool:=(max (qG dir tag).2 0==count)&&(decide (0≤(qG dir tag).2)==decide (0<types.length))&&((qG dir tag).1==types)
def s1:ByteArray:=⟨#[50,48,50,48,58,48,49,58,48,50,32,48,51,58,48,52,58,48,53]⟩
def s2:ByteArray:=⟨#[50,48,50,48,58,48,49,58,48,50,32,48,51,58,48,52,58,48]⟩
theorem k1:aG4 0 274 1 [3]=true:=by decide+kernel
theorem k2:aG4 1 256 1 [3,4]=true:=by decide+kernel
theorem k3:aG4 3 274 0 []=true:=by decide+kernel
theorem r1:MF 0 34665=true:=by decide+kernel
theorem r2:MF 2 34665=false:=by decide+kernel
theorem m1:DJ 2 36867 2 20 (aY3 s1++ [0])=true:=by decide+kernel
theorem m2:DJ 2 36867 2 19 (aY3 s2++ [0])=false:=by decide+kernel
theorem m3:DJ 2 4660 1 1 [1]=true:=by decide+kernel
theorem t1:vH 2 (s1.size+1) (aY3 s1++ [0])=true:=by decide+kernel
theorem t2:vH 2 (s2.size+1) (aY3 s2++ [0])=true:=by decide+kernel
def GCl (B:Nat) (W W':World):Prop:=W'=W∨∃(g:Nat) (vs:List Value) (v:Value) (n:Nat) (xs:List Value),v.ownBlock=some g∧W.ownsRow B 5 1 v n xs∧B≤g∧W'=W.setCells g 0 vs
def GWk (B:Nat) (W:World) (v:Value) (n:Nat):Prop:=∃xs,W.ownsRow B 5 1 v n xs
theorem GWk.cl {B B':Nat} {W W':World} {v:Value} {n:Nat} (h:GWk B W v n) (hc:GCl B' W W'):GWk B W' v n:=by
 obtain⟨xs,h⟩:=h;rcases hc with rfl|⟨g,vs,v',n',xs',hg,_,_,rfl⟩
 ·exact⟨xs,h⟩
 ·exact aAV h g 0 vs
theorem GWk.later {B:Nat} {W W':World} {v:Value} {n:Nat} (h:GWk B W v n) (hb:Below W.heap.size W W'):GWk B W' v n:=by
 obtain⟨xs,h⟩:=h;exact⟨xs,kC h hb⟩
theorem GCl.below {B:Nat} {W W':World} (hc:GCl B W W'):Below B W W':=by
 rcases hc with rfl|⟨g,vs,v',n',xs',hg,_,hB,rfl⟩
 ·exact aY _ _
 ·exact YK g hB vs 0 (aY _ _)
theorem GCl.row {B B':Nat} {W W':World} {E:TypeId} {sz:Nat} {v:Value} {n:Nat} {xs:List Value} (hc:GCl B' W W') (h:W.ownsRow B E sz v n xs) (hE:E≠5):W'.ownsRow B E sz v n xs:=by
 rcases hc with rfl|⟨g,vs,v',n',xs',hg,ho,_,rfl⟩
 ·exact h
 ·exact aAW h ho hE hg 0 vs
theorem a6C {W:World} {B:Nat} {E:TypeId} {sz:Nat} {v:Value} {n:Nat} {xs:List Value} (h:W.ownsRow B E sz v n xs) {g:Nat} (hg:v.ownBlock=some g):∃cur,jW W g E cur:=by
 rcases h.2 with ⟨rfl,_⟩|⟨g',cap,cur,rfl,_,hb,_⟩
 ·cases hg
 ·injection hg with hg
  subst hg;exact⟨cur,hb⟩
theorem GCl.blk {B:Nat} {W W':World} {E:TypeId} {g:Nat} {cs:Array Value} (hc:GCl B W W') (h:jW W g E cs) (hE:E≠5):jW W' g E cs:=by
 rcases hc with rfl|⟨g',vs,v',n',xs',hg,ho,_,rfl⟩
 ·exact h
 ·obtain⟨cur,hb⟩:=a6C ho hg;refine(zP g' vs 0 W g ?_).trans h;rintro rfl;have:=h.symm.trans hb;injection this with this;injection this with h1 h2 h3;exact hE h2
theorem GCl.mk {B:Nat} {W W':World} {ad:Option Addr} {n c:Nat} {xs:List Value} (ho:W.ownsRow B 5 1 (.slice ad n c) n xs) (h:W'=W∨∃g vs,(Value.slice ad n c).ownBlock=some g∧B≤g∧W'=W.setCells g 0 vs):GCl B W W':=by
 rcases h with rfl|⟨g,vs,hg,hB,rfl⟩
 ·exact .inl rfl
 ·exact .inr ⟨g,vs,_,n,xs,hg,ho,hB,rfl⟩
theorem aQ4:∀w,(Go.zeroValue 5).run Tryz.prog w= .ok (.int .u8 0) w:=fun w=>by kernel_rfl
theorem aY4 {ts:List Tg} (h:wS ts=false):(∀x∈ts,x.2.2.2.length≤600)∧ts.length≤60:=by
 unfold wS at h;simp only[Bool.or_eq_false_iff,List.any_eq_false,decide_eq_true_eq,decide_eq_false_iff_not]at h;exact⟨fun x hx=>by have:=h.1 x hx;omega,by omega⟩
def Pw (ts:List Tg):Prop:=ts.Pairwise (fun a b=>a.1<b.1)
theorem aBL (t:Int):∀{ts:List Tg},Pw ts→∃A M C,ts=A++M++C∧(∀a∈A,a.1<t)∧(∀c∈C,t<c.1)∧(M= []∨∃y,M= [y]∧y.1=t)
 | [],_=>⟨[], [], [],rfl,by simp,by simp,.inl rfl⟩
 |x::r,h=>by
  obtain⟨h1,h2⟩:=fU.1 h;rcases Int.lt_trichotomy x.1 t with hx|hx|hx
  ·obtain⟨A,M,C,rfl,hA,hC,hM⟩:=aBL t h2;exact⟨x::A,M,C,by simp,by intro a ha;rcases cB.1 ha with rfl|ha;exact hx;exact hA a ha,hC,hM⟩
  ·exact⟨[], [x],r,rfl,by simp,fun c hc=>by have:=h1 c hc;omega,.inr ⟨x,rfl,hx⟩⟩
  ·exact⟨[], [],x::r,rfl,by simp,fun c hc=>by rcases cB.1 hc with rfl|hc;exact hx;have:=h1 c hc;omega,.inl rfl⟩
section
variable {A M C:List Tg} {t:Int} (hA:∀a∈A,a.1<t) (hC:∀c∈C,t<c.1) (hM:M= []∨∃y,M= [y]∧y.1=t)
include hA hC hM
omit hA hC in
theorem b1C:∀y∈M,y.1=t:=fun y hy=>by
 rcases hM with rfl|⟨z,rfl,hz⟩
 ·cases hy
 ·obtain rfl:y=z:=by simpa using hy
  exact hz
theorem aK1 {x:Tg} (hx:x.1=t):zG (A++M++C) x=A++x::C:=by
 unfold zG;rw[hx];have e1:(A++M++C).takeWhile (fun y=>decide (y.1<t))=A:=by
  rw[dH,List.takeWhile_append_of_pos (fun y hy=>by simpa using hA y hy)];have:(M++C).takeWhile (fun y=>decide (y.1<t))= []:=by
   rcases hM with rfl|⟨y,rfl,hy⟩
   ·cases C with
    |nil=>rfl
    |cons c r=>rw[eX,iA (by have:=hC c dB;simp;omega)]
   ·rw[List.singleton_append,iA (by simp;omega)]
  rw[this,dR]
 have e2:(A++M++C).filter (fun y=>decide (t<y.1))=C:=by
  rw[fD,fD,UK (l:=A) (fun y hy=>by have:=hA y hy;simp;omega),UK (l:=M) (fun y hy=>by have:=b1C hM y hy;simp;omega),UL (fun y hy=>by simpa using hC y hy)];rfl
 rw[e1,e2]
theorem aBM:M4 (A++M++C) t=A++C:=by
 unfold M4;rw[fD,fD,UL (l:=A) (fun y hy=>by have:=hA y hy;simp;omega),UK (l:=M) (fun y hy=>by have:=b1C hM y hy;simp;omega),UL (fun y hy=>by have:=hC y hy;simp;omega)];rw[dR]
omit hM in
theorem b5Q {x:Tg} (hx:x.1=t) (h:Pw (A++M++C)):Pw (A++x::C):=by
 unfold Pw at h ⊢;rw[fK,fK]at h;rw[fK];refine⟨h.1.1,fU.2 ⟨fun c hc=>by have:=hC c hc;omega,h.2.1⟩,fun a ha b hb=>?_⟩;rcases cB.1 hb with rfl|hb
 ·have:=hA a ha;omega
 ·have:=hA a ha;have:=hC b hb;omega
end
theorem a1A {L:List Tg} (h:Pw L) {y:Tg} (hy:y∈L):C9 L y.1=(true,y.2):=by
 obtain⟨s,r,rfl⟩:=List.append_of_mem hy;refine a7H (fun z hz=>?_) rfl;have:=(fK.1 h).2.2 z hz y dB;omega
theorem mem_set {ts:List Tg} {x y:Tg} (h:y∈zG ts x):y=x∨y∈ts:=by
 unfold zG at h;rcases bP.1 h with h|h
 ·exact .inr ((List.takeWhile_sublist _).mem h)
 ·rcases cB.1 h with h|h
  ·exact .inl h
  ·exact .inr (iF.1 h).1
theorem aK2 {ts:List Tg} {x:Tg}:x∈zG ts x:=by unfold zG;simp
structure bDG (ts:List Tg) (x:Tg) (b:Bool) (v:Int×Int×List Int):Prop where
 pw:Pw (zG ts x)
 pwd:Pw (M4 (zG ts x) x.1)
 pwl:Pw (M4 ts x.1)
 found:C9 (zG ts x) x.1=(true,x.2)
 bDH:b=true→(zG ts x).length=ts.length
 bDI:b=false→(zG ts x).length=ts.length+1
 each:∀y∈ts,∃q,C9 (zG ts x) y.1=(true,q)∧(y.1≠x.1→q=y.2)
 gone:C9 (M4 (zG ts x) x.1) x.1=(false,0,0, [])
 bUX:(M4 (zG ts x) x.1).length+1=(zG ts x).length
 same:M4 (zG ts x) x.1=M4 ts x.1
 bSZ:b=true→zG (M4 (zG ts x) x.1) (x.1,v)=ts
 bT0:b=false→M4 (zG ts x) x.1=ts
theorem aG5 {ts:List Tg} (h:Pw ts) (x:Tg) {b:Bool} {v:Int×Int×List Int} (hf:C9 ts x.1=(b,v)):bDG ts x b v:=by
 obtain⟨A,M,C,rfl,hA,hC,hM⟩:=aBL x.1 h;have e1:=aK1 hA hC hM (x:=x) rfl;have e2:M4 (A++M++C) x.1=A++C:=aBM hA hC hM;have e3:M4 (A++x::C) x.1=A++C:=by
  have:=aBM (M:= [x]) hA hC (.inr ⟨x,rfl,rfl⟩);rwa [dH,List.singleton_append]at this
 have p1:Pw (A++x::C):=b5Q hA hC rfl h;have p2:Pw (A++C):=by rw[←e2];exact h.sublist List.filter_sublist
 have hb:(b=true∧∃y,M= [y]∧y.1=x.1∧v=y.2)∨(b=false∧M= []):=by
  rcases hM with rfl|⟨y,rfl,hy⟩
  ·right
   rw[a7G (fun y hy=>by rw[dR]at hy;rcases bP.1 hy with hy|hy;have:=hA y hy;omega;have:=hC y hy;omega)]at hf;simp only[fQ]at hf;exact⟨hf.1.symm,rfl⟩
  ·left
   rw[dH,List.singleton_append,a7H (fun y hy=>by have:=hA y hy;omega) hy]at hf;simp only[fQ]at hf;exact⟨hf.1.symm,y,rfl,hy,hf.2.symm⟩
 refine⟨?_,?_,?_,?_,?_,?_,?_,?_,?_,?_,?_,?_⟩
 ·rw[e1];exact p1
 ·rw[e1,e3];exact p2
 ·rw[e2];exact p2
 ·exact a1A (by rw[e1];exact p1) aK2
 ·intro ht;rcases hb with ⟨_,y,rfl,_⟩|⟨h0,_⟩
  ·rw[e1];simp <;> omega
  ·rw[ht]at h0;cases h0
 ·intro ht;rcases hb with ⟨h0,_⟩|⟨_,rfl⟩
  ·rw[ht]at h0;cases h0
  ·rw[e1];simp <;> omega
 ·intro y hy;rw[e1];by_cases hyx:y.1=x.1
  ·rw[hyx];exact⟨x.2,a1A p1 (by simp),fun hn=>absurd rfl hn⟩
  ·refine⟨y.2,a1A p1 ?_,fun _=>rfl⟩;rcases bP.1 hy with hy|hy
   ·rcases bP.1 hy with hy|hy
    ·exact List.mem_append_left _ hy
    ·rcases hM with rfl|⟨z,rfl,hz⟩
     ·cases hy
     ·obtain rfl:y=z:=by simpa using hy
      exact absurd hz hyx
   ·exact List.mem_append_right _ (cZ _ hy)
 ·rw[e1,e3];exact a7G fun y hy=>by
   rcases bP.1 hy with hy|hy
   ·have:=hA y hy;omega
   ·have:=hC y hy;omega
 ·rw[e1,e3];simp <;> omega
 ·rw[e1,e3,e2]
 ·intro ht;rcases hb with ⟨_,y,rfl,hy,rfl⟩|⟨h0,_⟩
  ·rw[e1,e3];have:=aK1 (M:= []) (x:=(x.1,y.2)) hA hC (.inl rfl) rfl;rw[dR]at this;rw[this,←hy];simp
  ·rw[ht]at h0;cases h0
 ·intro ht;rcases hb with ⟨h0,_⟩|⟨_,rfl⟩
  ·rw[ht]at h0;cases h0
  ·rw[e1,e3];simp
end Go.Proofs.YtceclmpmpldmlaaGreat
namespace Tt
open Go Go.RowKit
section
variable {P:Program} {ops:Array Oper} {Q:Exit→Act→World→Prop} {t:Nat} {C:World→Prop}
def qU (P:Program) (ops:Array Oper) (Q:Exit→Act→World→Prop) (t:Nat) (C:World→Prop):Nat→Array Bool→Act→World→Prop
 |0,listed,a,w=>Region.ready .any ops listed= []∧Q .normal a w
 |fuel+1,listed,a,w=>
  (Region.ready .any ops listed= []→Q .normal a w)∧
  ∀i∈Region.ready .any ops listed,wpOp P ops Q i (fun a' w'=>((listed.setIfInBounds i true).getD t true=false→C w')∧qU P ops Q t C fuel (listed.setIfInBounds i true) a' w') a w
theorem a1B:∀(fuel:Nat) (listed:Array Bool) (a:Act) (w:World),qU P ops Q t C fuel listed a w→wpAny P .any ops Q fuel listed a w
 |0,_,_,_,h=>h
 |fuel+1,_,_,_,h=>⟨h.1,fun i hi=>wpOp_mono (fun a' w' h'=>a1B fuel _ a' w' h'.2) (h.2 i hi)⟩
def a8X (ops:Array Oper) (t i:Nat):Bool:=match ops[t]? with
 |some o=>o.after.any fun e=>Region.binds .any e&&e.on==i
 |none=>false
theorem RJ {i:Nat} {listed:Array Bool} (hw:a8X ops t i=true) (hr:i∈Region.ready .any ops listed):t ∉ Region.ready .any ops listed:=fun ht=>by
 obtain⟨hun,ot,hot,kS⟩:=mem_ready.1 ht;unfold a8X at hw;rw[hot]at hw;simp only[Array.any_eq_true,bV,beq_iff_eq]at hw;obtain⟨k,hk,hb,he⟩:=hw;have h1:=kS ot.after[k] (Array.getElem_mem hk) hb;have h0:=(mem_ready.1 hr).1;rw[he]at h1;rcases dM i listed.size with h'|h'
 ·simp[h']at h0 h1;rw[h0]at h1;cases h1
 ·simp[gW h']at h1
theorem a8Y {i:Nat} {oi:Oper} {v:Value} (hi:ops[i]? =some oi) (hsel:∀(j:Nat) (o:Oper) cs b,ops[j]? =some o→o.op≠ .select cs b)
  (hQ:∀c a w,Q (.panic c) (a.put oi.dst v) w→Q (.panic c) a w) (hwt:a8X ops t i=true):
  ∀(fuel:Nat) (listed:Array Bool) (a:Act) (w:World),
   (∀j oj,ops[j]? =some oj→j≠i→listed.getD j true=false→(∀e∈oj.after,Region.binds .any e=true→e.on≠i)→oi.apart ops oj=true)→
   i∈Region.ready .any ops listed→listed.getD t true=false→t≠i→YieldsIf P ops C oi v a→C w→
   qU P ops Q t C fuel (listed.setIfInBounds i true) (a.put oi.dst v) w→qU P ops Q t C (fuel+1) listed a w:=by
 intro fuel;induction fuel with
 |zero=>
  intro listed a w _ hr ht hti hy hS H;refine⟨fun h=>(by rw[h]at hr;cases hr),fun j hj=>?_⟩;by_cases J9:j=i
  ·subst J9;exact hy.wpOp hi hS ⟨fun _=>hS,H⟩
  ·have:=ready_mono hj J9;rw[H.1]at this;cases this
 |succ fuel ih=>
  intro listed a w aFK hr ht hti hy hS H;refine⟨fun h=>(by rw[h]at hr;cases hr),fun j hj=>?_⟩;by_cases J9:j=i
  ·subst J9;exact hy.wpOp hi hS ⟨fun _=>hS,H⟩
  ·have hjt:j≠t:=by rintro rfl;exact RJ hwt hr hj
   have h1:=H.2 j (ready_mono hj J9);obtain⟨aXG,oj,hoj,kS⟩:=mem_ready.1 hj;have bC2:∀e∈oj.after,Region.binds .any e=true→e.on≠i:=fun e he hb heq=>by
    have h1:=kS e he hb;have h0:=(mem_ready.1 hr).1;rw[heq]at h1;rcases dM i listed.size with h'|h'
    ·simp[h']at h0 h1;rw[h0]at h1;cases h1
    ·simp[gW h']at h1
   have h2:=wpOp_putIf hoj (aFK j oj hoj J9 aXG bC2) (fun cs b=>hsel i oi cs b hi) (fun cs b=>hsel j oj cs b hoj) hQ hy h1;have aJL:∀k ok,ops[k]? =some ok→k≠i→(listed.setIfInBounds j true).getD k true=false→
     (∀e∈ok.after,Region.binds .any e=true→e.on≠i)→oi.apart ops ok=true:=fun k ok hk rC hun qW=>by
    refine aFK k ok hk rC ?_ qW;by_cases TT:j=k
    ·subst TT;exact aXG
    ·rw[getD_set_ne true TT]at hun;exact hun
   have ht2:(listed.setIfInBounds j true).getD t true=false:=by rw[getD_set_ne true hjt];exact ht
   have ht3:((listed.setIfInBounds i true).setIfInBounds j true).getD t true=false:=by rw[getD_set_ne true hjt,getD_set_ne true (Ne.symm hti)];exact ht
   refine wpOp_mono (fun a' w' h3=>⟨fun _=>h3.2.1 ht3,ih (listed.setIfInBounds j true) a' w' aJL (ready_mono hr (Ne.symm J9)) ht2 hti h3.1 (h3.2.1 ht3) ?_⟩) h2;rw[Array.setIfInBounds_comm _ _ J9];exact h3.2.2
theorem aBN {i:Nat} {oi:Oper} {v:Value} (hi:ops[i]? =some oi) (hsel:∀(j:Nat) (o:Oper) cs b,ops[j]? =some o→o.op≠ .select cs b)
  (hQ:∀c a w,Q (.panic c) (a.put oi.dst v) w→Q (.panic c) a w) (hti:t≠i):
  ∀(fuel:Nat) (listed:Array Bool) (a:Act) (w:World),
   (∀j oj,ops[j]? =some oj→j≠i→listed.getD j true=false→(∀e∈oj.after,Region.binds .any e=true→e.on≠i)→oi.apart ops oj=true)→
   i∈Region.ready .any ops listed→YieldsIf P ops (fun _=>True) oi v a→(listed.getD t true=false→C w)→
   qU P ops Q t C fuel (listed.setIfInBounds i true) (a.put oi.dst v) w→qU P ops Q t C (fuel+1) listed a w:=by
 intro fuel;induction fuel with
 |zero=>
  intro listed a w _ hr hy hS H;refine⟨fun h=>(by rw[h]at hr;cases hr),fun j hj=>?_⟩;by_cases J9:j=i
  ·subst J9;exact hy.wpOp hi trivial ⟨fun h=>hS (by rwa [getD_set_ne true (Ne.symm hti)]at h),H⟩
  ·have:=ready_mono hj J9;rw[H.1]at this;cases this
 |succ fuel ih=>
  intro listed a w aFK hr hy hS H;refine⟨fun h=>(by rw[h]at hr;cases hr),fun j hj=>?_⟩;by_cases J9:j=i
  ·subst J9;exact hy.wpOp hi trivial ⟨fun h=>hS (by rwa [getD_set_ne true (Ne.symm hti)]at h),H⟩
  ·have h1:=H.2 j (ready_mono hj J9);obtain⟨aXG,oj,hoj,kS⟩:=mem_ready.1 hj;have bC2:∀e∈oj.after,Region.binds .any e=true→e.on≠i:=fun e he hb heq=>by
    have h1:=kS e he hb;have h0:=(mem_ready.1 hr).1;rw[heq]at h1;rcases dM i listed.size with h'|h'
    ·simp[h']at h0 h1;rw[h0]at h1;cases h1
    ·simp[gW h']at h1
   have h2:=wpOp_putIf hoj (aFK j oj hoj J9 aXG bC2) (fun cs b=>hsel i oi cs b hi) (fun cs b=>hsel j oj cs b hoj) hQ hy h1;have aJL:∀k ok,ops[k]? =some ok→k≠i→(listed.setIfInBounds j true).getD k true=false→
     (∀e∈ok.after,Region.binds .any e=true→e.on≠i)→oi.apart ops ok=true:=fun k ok hk rC hun qW=>by
    refine aFK k ok hk rC ?_ qW;by_cases TT:j=k
    ·subst TT;exact aXG
    ·rw[getD_set_ne true TT]at hun;exact hun
   have hsw:∀(w':World),(((listed.setIfInBounds i true).setIfInBounds j true).getD t true=false→C w')→((listed.setIfInBounds j true).getD t true=false→C w'):=fun w' h h'=>h (by
    rw[Array.setIfInBounds_comm _ _ (Ne.symm J9),getD_set_ne true (Ne.symm hti)];exact h')
   refine wpOp_mono (fun a' w' h3=>⟨hsw w' h3.2.1,ih (listed.setIfInBounds j true) a' w' aJL (ready_mono hr (Ne.symm J9)) h3.1 (hsw w' h3.2.1) ?_⟩) h2;rw[Array.setIfInBounds_comm _ _ J9];exact h3.2.2
def aY5 (ops:Array Oper) (t:Nat):List Nat→Array Bool→Bool
 | [],_=>true
 |i::r,listed=>(Region.ready .any ops listed).contains i&&Region.free .any ops listed i&&a8X ops t i&&(t != i)&&(listed.getD t true==false)&&aY5 ops t r (listed.setIfInBounds i true)
def aY6 (ops:Array Oper) (t:Nat):List Nat→Array Bool→Bool
 | [],_=>true
 |i::r,listed=>(Region.ready .any ops listed).contains i&&Region.free .any ops listed i&&(t != i)&&aY6 ops t r (listed.setIfInBounds i true)
theorem aQ5 (hs:Region.noSelect ops=true) (hQ:∀d v c a w,Q (.panic c) (a.put d v) w→Q (.panic c) a w):
  ∀(idx:List Nat) (q:List Oper) (fuel:Nat) (listed:Array Bool) (a:Act) (w:World),idx.map (fun i=>ops[i]?)=q.map some→aY5 ops t idx listed=true→q.all zR=true→C w→
   wpQuiet P ops C (fun a'=>qU P ops Q t C fuel (WY idx listed) a' w) q a→qU P ops Q t C (fuel+idx.length) listed a w:=by
 intro idx;induction idx with
 |nil=>
  intro q fuel listed a w hm _ _ _ h;cases q with
  |nil=>exact h
  |cons o q=>simp at hm
 |cons i idx ih=>
  intro q fuel listed a w hm hB hp hS h;cases q with
  |nil=>simp at hm
  |cons o q=>
   simp only[aW,iT]at hm;simp only[aY5,bV,bne_iff_ne,beq_iff_eq]at hB;obtain⟨⟨⟨⟨⟨b1,b2⟩,b3⟩,b4⟩,b5⟩,b6⟩:=hB;simp only[List.all_cons,bV]at hp;unfold wpQuiet at h;have key:∀v,YieldsIf P ops C o v a→wpQuiet P ops C (fun a'=>qU P ops Q t C fuel (WY idx (listed.setIfInBounds i true)) a' w) q (a.put o.dst v)→qU P ops Q t C (fuel+(i::idx).length) listed a w:=fun v hy hr=>
    a8Y hm.1 (Region.noSelect_spec hs) (fun c a w h=>hQ _ _ c a w h) b3 _ _ _ _ (Region.free_spec hm.1 b2) (by simpa using b1) b5 b4 hy hS (ih q fuel _ _ w hm.2 b6 hp.2 hS hr)
   by_cases hw:Region.wanted o (yielded ops a.tmps)=true
   ·rw[if_pos hw]at h;obtain⟨v,h1,h2⟩:=h;exact key v (zS hp.1 hS hw h1) h2
   ·rw[if_neg hw]at h;exact key undef (.inr ⟨by simpa using hw,rfl⟩) h
theorem aMK (hs:Region.noSelect ops=true) (hQ:∀d v c a w,Q (.panic c) (a.put d v) w→Q (.panic c) a w):
  ∀(idx:List Nat) (q:List Oper) (fuel:Nat) (listed:Array Bool) (a:Act) (w:World),idx.map (fun i=>ops[i]?)=q.map some→aY6 ops t idx listed=true→q.all zR=true→C w→
   wpQuiet P ops (fun _=>True) (fun a'=>qU P ops Q t C fuel (WY idx listed) a' w) q a→qU P ops Q t C (fuel+idx.length) listed a w:=by
 intro idx;induction idx with
 |nil=>
  intro q fuel listed a w hm _ _ _ h;cases q with
  |nil=>exact h
  |cons o q=>simp at hm
 |cons i idx ih=>
  intro q fuel listed a w hm hB hp hS h;cases q with
  |nil=>simp at hm
  |cons o q=>
   simp only[aW,iT]at hm;simp only[aY6,bV,bne_iff_ne]at hB;obtain⟨⟨⟨b1,b2⟩,b4⟩,b6⟩:=hB;simp only[List.all_cons,bV]at hp;unfold wpQuiet at h;have key:∀v,YieldsIf P ops (fun _=>True) o v a→wpQuiet P ops (fun _=>True) (fun a'=>qU P ops Q t C fuel (WY idx (listed.setIfInBounds i true)) a' w) q (a.put o.dst v)→qU P ops Q t C (fuel+(i::idx).length) listed a w:=fun v hy hr=>
    aBN hm.1 (Region.noSelect_spec hs) (fun c a w h=>hQ _ _ c a w h) b4 _ _ _ _ (Region.free_spec hm.1 b2) (by simpa using b1) hy (fun _=>hS) (ih q fuel _ _ w hm.2 b6 hp.2 hS hr)
   by_cases hw:Region.wanted o (yielded ops a.tmps)=true
   ·rw[if_pos hw]at h;obtain⟨v,h1,h2⟩:=h;exact key v (zS (w0:=w) hp.1 trivial hw h1) h2
   ·rw[if_neg hw]at h;exact key undef (.inr ⟨by simpa using hw,rfl⟩) h
theorem nC {l:List Oper} {listed:Array Bool} {a:Act} {w:World} (idx:List Nat) (fuel:Nat) (hs:Region.noSelect l.toArray=true) (hQ:∀d v c a w,Q (.panic c) (a.put d v) w→Q (.panic c) a w)
  (hb:idx.all (·<l.length)=true) (hB:aY5 l.toArray t idx listed=true) (hp:(jI l idx).all zR=true) (hS:C w)
  (h:wpQuiet P l.toArray C (fun a'=>qU P l.toArray Q t C fuel (WY idx listed) a' w) (jI l idx) a):qU P l.toArray Q t C (fuel+idx.length) listed a w:=
 aQ5 hs hQ idx _ fuel listed a w (OY idx hb) hB hp hS h
theorem X7 {l:List Oper} {listed:Array Bool} {a:Act} {w:World} (idx:List Nat) (fuel:Nat) (hs:Region.noSelect l.toArray=true) (hQ:∀d v c a w,Q (.panic c) (a.put d v) w→Q (.panic c) a w)
  (hb:idx.all (·<l.length)=true) (hB:aY6 l.toArray t idx listed=true) (hp:(jI l idx).all zR=true) (hS:C w)
  (h:wpQuiet P l.toArray (fun _=>True) (fun a'=>qU P l.toArray Q t C fuel (WY idx listed) a' w) (jI l idx) a):qU P l.toArray Q t C (fuel+idx.length) listed a w:=
 aMK hs hQ idx _ fuel listed a w (OY idx hb) hB hp hS h
theorem aML {i fuel:Nat} {o:Oper} {listed:Array Bool} {a:Act} {w:World} (hr:Region.ready .any ops listed= [i]) (ho:ops[i]? =some o)
  (h:wpList P ops (Mid (fun a' w'=>((listed.setIfInBounds i true).getD t true=false→C w')∧qU P ops Q t C fuel (listed.setIfInBounds i true) a' w') Q) [o] a w):qU P ops Q t C (fuel+1) listed a w:=by
 refine⟨fun h0=>(by rw[hr]at h0;cases h0),fun j hj=>?_⟩;rw[hr]at hj;obtain rfl:j=i:=by simpa using hj
 unfold wpOp;simp only[ho];unfold wpList at h;split
 ·rename_i hw;rw[if_pos hw]at h;rcases h with h|⟨h1,a2,w2,h2⟩
  ·exact .inl (UG h)
  ·exact .inr ⟨h1,a2,w2,h2⟩
 ·rename_i hw;rw[if_neg hw]at h;exact h
theorem kV {l:List Oper} {listed:Array Bool} {a:Act} {w:World} (i fuel:Nat) (hb:decide (i<l.length)=true) (hr:Region.ready .any l.toArray listed= [i])
  (h:wpList P l.toArray (Mid (fun a' w'=>((listed.setIfInBounds i true).getD t true=false→C w')∧qU P l.toArray Q t C fuel (listed.setIfInBounds i true) a' w') Q) (jI l [i]) a w):qU P l.toArray Q t C (fuel+1) listed a w:=by
 have hi:i<l.length:=of_decide_eq_true hb;exact aML (o:=l.getD i aAX) hr (by rw[bH,bI hi];simp[hi]) h
theorem zD {l:List Oper} {listed:Array Bool} {a:Act} {w:World} (hr:Region.ready .any l.toArray listed= []) (h:Q .normal a w):qU P l.toArray Q t C 0 listed a w:=⟨hr,h⟩
theorem vN {id:Nat} {a:Act} {w:World} {l:List Oper} (hm:P.follows .mixedOrders=true) (n:Nat) (hn:l.length=n)
  (h:qU P l.toArray Q t C n (Array.replicate n false) a w.drew):(Code.region id l.toArray true).wp P Q a w:=by
 refine wp_region_any hm (a1B (t:=t) (C:=C) _ _ _ _ ?_);have e:l.toArray.size=n:=by simpa using hn
 rw[e];exact h
def noP (Q:Exit→Act→World→Prop):Exit→Act→World→Prop
 | .panic _,_,_=>False
 |e,a,w=>Q e a w
theorem NE {c:Code} {a:Act} {w:World} (h:c.wp P (noP Q) a w):c.wp P Q a w:=wp_mono h (fun e a w h=>by cases e <;> first|exact h|exact h.elim)
theorem wT {a:Act} {w:World} (h:Q .normal a w):noP Q .normal a w:=h
theorem pU:∀(d:Option Tmp) (v:Value) (c:List PanicEntry) (a:Act) (w:World),noP Q (.panic c) (a.put d v) w→noP Q (.panic c) a w:=fun _ _ _ _ _ h=>h
end
