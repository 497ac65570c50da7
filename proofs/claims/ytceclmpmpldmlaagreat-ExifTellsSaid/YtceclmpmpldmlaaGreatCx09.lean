import Derived.Test.YtceclmpmpldmlaaGreatCx08
set_option linter.unusedSimpArgs false
set_option linter.unusedVariables false
set_option maxRecDepth 100000
set_option maxHeartbeats 8000000
namespace Go.Proofs.YtceclmpmpldmlaaGreat
open Go.RowKit Tt
def M5 (s o:Int):Bool:=EX s o||(s==8&&EX 1 o)
def EZ (n p i:Nat):Nat:=if i<n - n % p then i - i % p+p - 1 - i % p else i
def turned (p:Nat) (b:List Int):List Int:=(List.range b.length).map fun i=>b.getD (EZ b.length p i) 0
def wK (b:List Int) (s o:Int):List Int:=if M5 s o=true then(if o=1 then turned s.toNat b else b)else []
theorem BD (p:Nat) (b:List Int):(turned p b).length=b.length:=by simp[turned]
theorem a1H {p i:Nat} {b:List Int} (h:i<b.length):(turned p b).getD i 0=b.getD (EZ b.length p i) 0:=by
 rw[jO (by rw[BD];exact h)];simp[turned]
theorem aMP {n p i:Nat} (hp:0<p) (h:i<n):EZ n p i<n:=by
 unfold EZ;split
 ·rename_i h1;have:=Nat.mod_lt i hp;have h2:=Nat.div_add_mod i p;have h3:=Nat.div_add_mod n p;have h4:i / p<n / p:=by
   rw[Nat.div_lt_iff_lt_mul hp,Nat.mul_comm];omega
  have h5:p*(i / p+1)≤p*(n / p):=Nat.mul_le_mul_left p h4;rw[Nat.mul_succ]at h5;omega
 ·exact h
theorem a1I {s o:Int} (h:M5 s o=true):(s=1∨s=2∨s=4∨s=8)∧(o=1∨o=2):=by
 unfold M5 EX at h;simp at h;omega
theorem aG8 {p:Nat} {b:List Int} (hb:tV b):tV (turned p b):=by
 intro x hx;unfold turned at hx;obtain⟨i,_,rfl⟩:=dG.1 hx;exact hb.get _
theorem aQA {b:List Int} (hb:tV b) (s o:Int):tV (wK b s o):=by
 unfold wK;split
 ·split
  ·exact aG8 hb
  ·exact hb
 ·intro x hx;cases hx
def a1J (p q:Nat) (b cs:List Int):Prop:=cs.length=b.length∧∀k,k<b.length→cs.getD k 0=if k<q then b.getD (EZ b.length p k) 0 else b.getD k 0
theorem YM {p q:Nat} {b cs cs':List Int} (hp:p=1∨p=2∨p=4∨p=8) (hq:q % p=0) (hqn:q+p≤b.length) (h:a1J p q b cs) (hl:cs'.length=cs.length)
  (hg:∀k,k<cs.length→cs'.getD k 0=if q≤k∧k<q+p then cs.getD (2*q+p - 1 - k) 0 else cs.getD k 0):a1J p (q+p) b cs':=by
 obtain⟨h1,h2⟩:=h;refine⟨hl.trans h1,fun k hk=>?_⟩;rw[hg k aG];by_cases hi:q≤k∧k<q+p
 ·rw[if_pos hi,if_pos hi.2,h2 _ aG,if_neg aG];congr 1
  unfold EZ;rcases hp with rfl|rfl|rfl|rfl
  all_goals
   rw[if_pos aG];omega
 ·rw[if_neg hi,h2 k hk];by_cases hk2:k<q
  ·rw[if_pos hk2,if_pos aG]
  ·rw[if_neg hk2,if_neg aG]
theorem a1K {p q:Nat} {b cs:List Int} (hp:p=1∨p=2∨p=4∨p=8) (hq:q % p=0) (hqn:b.length<q+p) (hqb:q≤b.length) (h:a1J p q b cs):cs=turned p b:=by
 refine aBQ (by rw[h.1,BD]) (fun k hk=>?_);rw[h.1]at hk;rw[h.2 k hk,a1H hk];by_cases hk2:k<q
 ·rw[if_pos hk2]
 ·rw[if_neg hk2];unfold EZ;rcases hp with rfl|rfl|rfl|rfl
  all_goals rw[if_neg aG]
theorem a1L {b z:List Int} {n:Nat} (hb:b.length=n) (hz:z.length=n):splice z 0 (b.take n)=b:=by
 unfold splice;simp[hb,hz,bK (gT hb)]
theorem aQB {P:Program} {T E:TypeId} (ht:P.underlying T=some (.slice E)) (hE:∀w,(Go.sizeOf E).run P w= .ok 1 w) (g n q p:Nat) (hp:1≤p) (h:q+p≤n) (W:World):
  (Instr.sliceAt T (.slice (some ⟨g,0,none⟩) n n) (some (.int .i64 (q:Int))) (some (.int .i64 ((q:Int)+p))) none).run P W= .ok (.slice (some ⟨g,q,none⟩) p (n - q)) W:=by
 have he:P.elem T=E:=by unfold Program.elem;rw[ht]
 rw[run_sliceAt_slice (h:=by rw[he];exact ht),run_slice_lh (ht:=by rw[he];exact ht) (h0:=by omega) (h1:=by omega) (h2:=by omega),he,hE];simp only[Result.andThen,sliced];have e1:((q:Int)+p - q).toNat=p:=by omega
 have e2:¬n=q:=by omega
 simp[e1,e2,Addr.add];omega
theorem aQC (s o:Int):M5 s o=((decide (rF s≠0)||s==8)&&decide (1≤o)&&decide (o≤2)):=by
 unfold M5 EX rF;rw[eD];simp;split <;> (try split) <;> (try split) <;> omega
theorem aMQ (a:Option Addr) (n c:Nat) (b:List Int) (s o:Int) (w:World) (hs:Sl w a n c 1 (ints .u8 b)) (hn:n≤1000000000):
  Calls Tryz.prog 262 #[.slice a n c,.int .i64 s,.int .i64 o] w fun e w'=>∃a2 m c2,e= .returned (.slice a2 m c2)∧w'.ownsRow w.heap.size 5 1 (.slice a2 m c2) m (ints .u8 (wK b s o))∧Below w.heap.size w w':=by
 obtain⟨i0,hi,sN,oG,qK⟩:=info_parts aBK;have vF:=hs.nU;have BX:=hs.le;have LX:=hs.max;have htb:=aQC s o;have HT:=aA (fun W=>JG s W);by_cases ht:M5 s o=true
 ·obtain⟨rX,GA⟩:=a1I ht;obtain⟨p,rfl⟩:∃p:Nat,s=p:=⟨s.toNat,by omega⟩;have hp0:¬(p:Int)=0:=by omega
  have YN:p≤8:=by omega
  have d0:(rF (p:Int)==0&&(p:Int) != 8)=false:=by
   rw[ht]at htb;simp at htb ⊢;intro h;exact(htb.1.1.resolve_left (fun h2=>h2 h))
  have hR:wK b p o=if o=1 then turned p b else b:=by unfold wK;rw[if_pos ht];rfl
  obtain⟨R,hRR⟩:=aC (wK b p o);have hRl:R.length=n:=by rw[←hRR,hR,←vF];split <;> simp[BD]
  rw[hRR]at hR ⊢;have hRg:∀k,k<n→R.getD k 0=b.getD (if o=1 then EZ n p k else k) 0:=fun k hk=>by
   rw[hR];by_cases ho:o=1
   ·rw[if_pos ho,if_pos ho,a1H (by rw[vF];exact hk),vF]
   ·rw[if_neg ho,if_neg ho]
  have d1:decide (o<1)=false:=by simp;omega
  have d2:decide (2<o)=false:=by simp;omega
  generalize rF (p:Int)=T at*;clear hR hRR htb ht;obtain⟨bDN,bNT,pX,tL⟩:=aL hRl hRg hs vF;clear hRl hRg hs vF;obtain⟨rn,hrn⟩:=aC (n % p);have bV2:rn≤n:=by rw[←hrn];exact Nat.mod_le _ _
  have ht1:Int.tmod (n:Int) (p:Int)=rn:=by rw[gH aG,←hrn];rfl
  have hp1:1≤p:=by omega
  clear rX;have bNU:=aA hrn;clear hrn;have main:∀w1:World,True:=fun _=>trivial;obtain⟨z0,hT⟩:=aC (T==0);rw[hT]at d0;cases z0
  all_goals
   go_enter Tryz.func262,Tryz.ntmps262;go_wp2_with (go_at_call 241;refine(HT.o _).mono ?_;rintro e w1 ⟨rfl,rfl⟩)
   go_loopw [7,8] (fun v i wr=>∃(k:Nat) (a4:Option Addr) (c4:Nat),k≤n∧v= .slice a4 k c4∧i= .int .i64 k∧Hid (wr.ownsRow w.heap.size 5 1 (.slice a4 k c4) k (ints .u8 (R.take k)))∧Hid (Below w.heap.size w wr)) (fun _ i _=>n - (intOf i).toNat)
   case atStart=>exact⟨0,none,0,by omega,rfl,rfl,aA (kF _ _ _ _),aA (aY _ _)⟩
   case round=>
    obtain⟨k,a4,c4,hk,rfl,rfl,Ho,Hb⟩:=hrel;by_cases kD:k<n
    ·have zM:R.take k++ [R.getD k 0]=R.take (k+1):=(take_snoc' (by rw[bDN.o];exact kD)).symm;have hrg:=bNT.o k kD;have b5U:(if o=1 then EZ n p k else k)<n:=by
      split
      ·exact aMP aG kD
      ·exact kD
     obtain⟨ix,hix⟩:∃ix,(if o=1 then EZ n p k else k)=ix:=⟨_,rfl⟩;rw[hix]at hrg b5U;obtain⟨bl,off,rfl,JH,hc⟩:=(pX.o.mono Hb.o).at (i:=ix) b5U;have f1:=hc ix _ (oP (by rw[tL.o];exact b5U));rw[←hrg]at f1;generalize R.getD k 0=x at*;have bT3:(ix:Int)<n:=by omega
     clear hc hrg;have I7:=aA zM;clear zM;by_cases ho:o=1
     ·have d5:(o==1)=true:=by simp[ho]
      rw[if_pos ho]at hix;unfold EZ at hix;rw[bNU.o]at hix;have hw9:IntKind.i64.wrap ((n:Int) - rn)=n - rn:=by rw[bF];omega
      by_cases EC:k<n - rn
      ·have d6:decide ((k:Int)<n - rn)=true:=by simp;omega
       obtain⟨r,hr⟩:=aC (k % p);have ht2:Int.tmod (k:Int) (p:Int)=r:=by rw[gH aG,←hr];rfl
       have hrp:r<p:=by rw[←hr];exact Nat.mod_lt _ aG
       have hrk:r≤k:=by rw[←hr];exact Nat.mod_le _ _
       rw[if_pos EC,hr]at hix;have sS:IntKind.i64.wrap ((k:Int) - r)=k - r:=by rw[bF];omega
       have MQ:IntKind.i64.wrap ((k:Int) - r+p)=k - r+p:=by rw[bF];omega
       have HY:IntKind.i64.wrap ((k:Int) - r+p - 1)=k - r+p - 1:=by rw[bF];omega
       have ZL:IntKind.i64.wrap ((k:Int) - r+p - 1 - r)=ix:=by rw[bF];omega
       have hw5:IntKind.i64.wrap (rn:Int)=rn:=by rw[bF];omega
       have KW:IntKind.i64.wrap (r:Int)=r:=by rw[bF];omega
       obtain⟨bC6,qX,J8⟩:=aK hix hr ho;clear hix hr ho;clear GA;go_wp2_with fail
       go_quiet (fail)
       go_wp2_with (at_builtin;refine kK rfl _ _ 24 rfl w.heap.size 5 i0 _ 1 1 Tryz.underlying24 hi sN oG qK rfl aH _ k _ rfl (eG (w:=wr.drewN _) Ho.o _) _ 1 1 _ rfl (Sl.new (wr.drewN _) 5 1 1 _ (0,0) aG rfl) (by simp[Value.oneCell']) aG aH (by have:=Hb.o.size;simp;omega) ?_;intro a5 c5 w2 ob jT HZ;clear HZ;obtain⟨Ob,Hb2⟩:=aJ ob (((below_drewN Hb.o _).alloc Hb.o.size _).trans jT);clear ob jT)
       go_roundw
       case rel=>exact⟨k+1,a5,c5,by omega,rfl,by go_num,aA (by rw[←I7.o,mG];exact Ob.o),Hb2⟩
       case measure=>simp[intOf];omega
      ·have d6:decide ((k:Int)<n - rn)=false:=by simp;omega
       have hw5:IntKind.i64.wrap (rn:Int)=rn:=by rw[bF];omega
       rw[if_neg EC]at hix;subst hix;have J8:=aA ho;clear ho;clear GA;go_wp2_with (at_builtin;refine kK rfl _ _ 24 rfl w.heap.size 5 i0 _ 1 1 Tryz.underlying24 hi sN oG qK rfl aH _ k _ rfl (eG Ho.o _) _ 1 1 _ rfl (Sl.new wr 5 1 1 _ (0,0) aG rfl) (by simp[Value.oneCell']) aG aH (by have:=Hb.o.size;simp;omega) ?_;intro a5 c5 w2 ob jT HZ;clear HZ;obtain⟨Ob,Hb2⟩:=aJ ob ((Hb.o.alloc Hb.o.size _).trans jT);clear ob jT)
       go_roundw
       case rel=>exact⟨k+1,a5,c5,by omega,rfl,by go_num,aA (by rw[←I7.o,mG];exact Ob.o),Hb2⟩
       case measure=>simp[intOf];omega
     ·have d5:(o==1)=false:=by simp[ho]
      rw[if_neg ho]at hix;subst hix;have J8:=aA ho;clear ho;clear GA;go_wp2_with (at_builtin;refine kK rfl _ _ 24 rfl w.heap.size 5 i0 _ 1 1 Tryz.underlying24 hi sN oG qK rfl aH _ k _ rfl (eG Ho.o _) _ 1 1 _ rfl (Sl.new wr 5 1 1 _ (0,0) aG rfl) (by simp[Value.oneCell']) aG aH (by have:=Hb.o.size;simp;omega) ?_;intro a5 c5 w2 ob jT HZ;clear HZ;obtain⟨Ob,Hb2⟩:=aJ ob ((Hb.o.alloc Hb.o.size _).trans jT);clear ob jT)
      go_roundw
      case rel=>exact⟨k+1,a5,c5,by omega,rfl,by go_num,aA (by rw[←I7.o,mG];exact Ob.o),Hb2⟩
      case measure=>simp[intOf];omega
    ·obtain rfl:k=n:=by omega
     go_wp2;go_ret;exact⟨_,_,_,rfl,by have h:=Ho.o;rw[bK (gT bDN.o)]at h;exact h,Hb.o⟩
 ·have hR:wK b s o= []:=by unfold wK;rw[if_neg ht]
  have hf:M5 s o=false:=by simpa using ht
  rw[hf]at htb;rw[hR];generalize rF s=T at*;clear hR ht hf;have b5V:(T=0∧¬s=8)∨o<1∨2<o:=by
   by_cases h1:o<1
   ·exact .inr (.inl h1)
   ·by_cases h2:2<o
    ·exact .inr (.inr h2)
    ·simp at htb;exact .inl (by by_cases h3:T=0 <;> by_cases h4:s=8 <;> simp_all <;> omega)
  clear htb;by_cases h0:T=0∧¬s=8
  ·obtain⟨rfl,h8⟩:=h0;have d1:(s != 8)=true:=by simp[h8]
   clear b5V;go_enter Tryz.func262,Tryz.ntmps262;go_wp2_with (go_at_call 241;refine(HT.o _).mono ?_;rintro e w1 ⟨rfl,rfl⟩)
   go_ret;exact⟨none,0,0,rfl,kF _ _ _ _,aY _ _⟩
  ·have d0:((T==0)&&(s != 8))=false:=by
    by_cases h3:T=0 <;> by_cases h4:s=8 <;> simp_all
   have bDO:o<1∨2<o:=b5V.resolve_left h0;clear b5V h0;obtain⟨z0,hT⟩:=aC (T==0);rw[hT]at d0;by_cases h1:o<1
   ·have d1:decide (o<1)=true:=by simp;omega
    clear bDO;cases z0
    all_goals
     go_enter Tryz.func262,Tryz.ntmps262;go_wp2_with (go_at_call 241;refine(HT.o _).mono ?_;rintro e w1 ⟨rfl,rfl⟩)
     go_ret;exact⟨none,0,0,rfl,kF _ _ _ _,aY _ _⟩
   ·have d1:decide (o<1)=false:=by simp;omega
    have d2:decide (2<o)=true:=by simp;omega
    clear bDO;cases z0
    all_goals
     go_enter Tryz.func262,Tryz.ntmps262;go_wp2_with (go_at_call 241;refine(HT.o _).mono ?_;rintro e w1 ⟨rfl,rfl⟩)
     go_ret;exact⟨none,0,0,rfl,kF _ _ _ _,aY _ _⟩
theorem aYC (s:Int):(rF s==0)= !(s==1||s==2||s==4):=by
 unfold rF;rw[eD];simp;split <;> (try split) <;> (try split) <;> omega
theorem aQD (a:Option Addr) (n c:Nat) (z:List Int) (at_ size order:Int) (w:World) (hs:Sl w a n c 1 (ints .u8 z)) (hb:tV z):
  Calls Tryz.prog 250 #[.slice a n c,.int .i64 at_,.int .i64 size,.int .i64 order] w fun e w'=>e= .returned (.tuple #[.int .i64 (yN z at_ size order),.bool (EY n at_ size order)])∧Below w.heap.size w w':=by
 have qJ:=hs.nU;have BX:=hs.le;have LX:=hs.max;have hT0:=aYC size;have HT:=aA (fun W=>JG size W);have hgv:yN z at_ size order=if EY n at_ size order=true then be (X9 z at_.toNat size.toNat order)else 0:=by unfold yN;rw[qJ]
 rw[hgv];clear hgv;by_cases h0:(size==1||size==2||size==4)=true
 case neg=>
  have e1:EY n at_ size order=false:=by unfold EY EX;simp only[eZ]at h0;rw[h0];simp
  rw[e1];simp only[eZ]at h0;rw[h0]at hT0;simp only[Bool.not_false]at hT0;clear e1 h0 hs hb;generalize rF size=T at*;go_enter Tryz.func250,Tryz.ntmps250;go_wp2_with (go_at_call 241;refine(HT.o _).mono ?_;rintro e w1 ⟨rfl,rfl⟩)
  go_ret2;exact⟨rfl,aY _ _⟩
 rw[h0]at hT0;simp only[Bool.not_true]at hT0;have rX:size=1∨size=2∨size=4:=by simpa [or_assoc] using h0
 generalize rF size=T at*;by_cases h1:order<1
 case pos=>
  have e1:EY n at_ size order=false:=by unfold EY EX;simp;omega
  rw[e1];clear e1 h0 hs hb rX;have d1:decide (order<1)=true:=by simp;omega
  go_enter Tryz.func250,Tryz.ntmps250;go_wp2_with (go_at_call 241;refine(HT.o _).mono ?_;rintro e w1 ⟨rfl,rfl⟩)
  go_ret2;exact⟨rfl,aY _ _⟩
 have d1:decide (order<1)=false:=by simp;omega
 by_cases h2:2<order
 case pos=>
  have e1:EY n at_ size order=false:=by unfold EY EX;simp;omega
  rw[e1];clear e1 h0 hs hb rX;have d2:decide (2<order)=true:=by simp;omega
  go_enter Tryz.func250,Tryz.ntmps250;go_wp2_with (go_at_call 241;refine(HT.o _).mono ?_;rintro e w1 ⟨rfl,rfl⟩)
  go_ret2;exact⟨rfl,aY _ _⟩
 have d2:decide (2<order)=false:=by simp;omega
 have GA:order=1∨order=2:=by omega
 have hm:EX size order=true:=by unfold EX;rw[h0];simp;omega
 by_cases h3:at_<0
 case pos=>
  have e1:EY n at_ size order=false:=by unfold EY;simp;omega
  rw[e1];clear e1 h0 hs hb rX hm;have d3:decide (at_<0)=true:=by simp;omega
  go_enter Tryz.func250,Tryz.ntmps250;go_wp2_with (go_at_call 241;refine(HT.o _).mono ?_;rintro e w1 ⟨rfl,rfl⟩)
  go_ret2;exact⟨rfl,aY _ _⟩
 have d3:decide (at_<0)=false:=by simp;omega
 by_cases h4:n<at_
 case pos=>
  have e1:EY n at_ size order=false:=by unfold EY;simp;omega
  rw[e1];clear e1 h0 hs hb rX hm;have d4:decide (n<at_)=true:=by simp;omega
  go_enter Tryz.func250,Tryz.ntmps250;go_wp2_with (go_at_call 241;refine(HT.o _).mono ?_;rintro e w1 ⟨rfl,rfl⟩)
  go_ret2;exact⟨rfl,aY _ _⟩
 have d4:decide (n<at_)=false:=by simp;omega
 have hw0:IntKind.i64.wrap ((n:Int) - at_)=n - at_:=by rw[bF];omega
 by_cases h5:(n:Int) - at_<size
 case pos=>
  have e1:EY n at_ size order=false:=by unfold EY;simp;omega
  rw[e1];clear e1 h0 hs hb rX hm;have d5:decide ((n:Int) - at_<size)=true:=by simp;omega
  go_enter Tryz.func250,Tryz.ntmps250;go_wp2_with (go_at_call 241;refine(HT.o _).mono ?_;rintro e w1 ⟨rfl,rfl⟩)
  go_ret2;exact⟨rfl,aY _ _⟩
 have d5:decide ((n:Int) - at_<size)=false:=by simp;omega
 have e1:EY n at_ size order=true:=by unfold EY;rw[hm];simp;omega
 rw[e1,if_pos rfl];clear e1 hm h0;obtain⟨A,rfl⟩:∃A:Nat,at_=A:=⟨at_.toNat,by omega⟩;obtain⟨s,rfl⟩:∃s:Nat,size=s:=⟨size.toNat,by omega⟩;have hs4:s≤4:=by omega
 rw[bM,bM];have hAs:A+s≤n:=by omega
 have yV:=a1D (order:=order) (show A+s≤z.length by rw[qJ];omega);have aG7:=a1E hb A s order;have a0H:=fun i hi=>aBP (z:=z) (at_:=A) (size:=s) (i:=i) (order:=order) (by rw[qJ];omega) hi;obtain⟨L,hL⟩:=aC (X9 z A s order);rw[hL]at yV aG7 a0H ⊢;clear hL h1 h2 h3 h4 h5 rX;obtain⟨FZ,bDP,bDQ,pX,mO,mX⟩:=aN yV aG7 a0H hs hb qJ;clear yV aG7 a0H hs hb qJ;go_enter Tryz.func250,Tryz.ntmps250;go_wp2_with (go_at_call 241;refine(HT.o _).mono ?_;rintro e w1 ⟨rfl,rfl⟩)
 go_loop [10,11,12] (fun nv bv iv=>∃(k:Nat) (N B:Int),k≤s∧iv= .int .i64 k∧nv= .int .i64 N∧bv= .int .i64 B∧Hid (B=256 ^ k∧0≤N∧N<B∧be L=be (L.take (s - k))*B+N)) (fun _ _ i=>s - (intOf i).toNat)
 case atStart=>exact⟨0,0,1,by omega,rfl,rfl,rfl,aA ⟨rfl,by omega,by omega,by rw[Nat.sub_zero,bK (gT FZ.o)];omega⟩⟩
 case round=>
  obtain⟨k,N,B,hk,rfl,rfl,rfl,aXH⟩:=hrel;by_cases kD:k<s
  ·obtain⟨hB,hN0,hN1,hbe⟩:=aXH.o;have hB4:B=1∨B=256∨B=65536∨B=16777216:=by
    have:k=0∨k=1∨k=2∨k=3:=by omega
    rcases this with rfl|rfl|rfl|rfl <;> simp at hB <;> omega
   obtain⟨q,hq⟩:=aC (s - 1 - k);have hgk:=bDQ.o q aG;have oU:=bDP.o.get q;have zM:=a8Z (l:=L) (j:=q) (by rw[FZ.o];omega);rw[show q+1=s - k by omega]at zM;obtain⟨j,hj⟩:∃j,(if order=1 then A+s - 1 - q else A+q)=j:=⟨_,rfl⟩;have hjn:j<n:=by rw[←hj];split <;> omega
   obtain⟨b,o,rfl,aQ9,hc⟩:=pX.o.at (i:=j) hjn;have f1:=hc j _ (oP (by rw[mX.o];exact hjn));rw[hj]at hgk;rw[←hgk]at f1;generalize L.getD q 0=x at*;have hxB:0≤B*x∧B*x≤B*255:=⟨iX aG oU.1,Int.mul_le_mul_of_nonneg_left aG aG⟩;have AJ:be L=be (L.take (s - (k+1)))*(256*B)+(N+B*x):=by
    rw[hbe,zM,show s - (k+1)=q by omega,Int.add_mul,Int.mul_assoc,Int.mul_comm x B];omega
   have hB2:256*B=256 ^ (k+1):=by rw[hB,Int.pow_succ];omega
   have hN2:N+B*x<256*B:=by omega
   have sS:=aB (B*x) aG;have MQ:=aB (N+B*x) aG;have HY:=aB (256*B) aG;have ZL:=aB x aG;have hM2:0≤N+B*x:=by omega
   clear aXH hB4 hc hgk zM hbe hB;obtain⟨GZ,bMB,aBR,bDR,bV3⟩:=aM AJ hB2 hN2 hM2 hxB;clear AJ hB2 hN2 hM2 hxB;by_cases ho:order=1
   ·have d6:(order==2)=false:=by simp[ho]
    rw[if_pos ho]at hj;have hw5:IntKind.i64.wrap ((A:Int)+k)=j:=by rw[bF];omega
    have b5S:(j:Int)<n:=by omega
    obtain⟨J8,RF,hq'⟩:=aK ho hj hq;clear ho hj hq;clear GA;go_wp2;go_round
    case rel=>exact⟨k+1,_,_,by omega,by go_num,rfl,rfl,aA ⟨bMB.o,bDR.o,aBR.o,GZ.o⟩⟩
    case measure=>simp[intOf];omega
   ·have d6:(order==2)=true:=by simp;omega
    rw[if_neg ho]at hj;have hw5:IntKind.i64.wrap ((A:Int)+s)=A+s:=by rw[bF];omega
    have KW:IntKind.i64.wrap ((A:Int)+s - 1)=A+s - 1:=by rw[bF];omega
    have hw7:IntKind.i64.wrap ((A:Int)+s - 1 - k)=j:=by rw[bF];omega
    have hw8:IntKind.i64.wrap ((A:Int)+k)=A+k:=by rw[bF];omega
    have b5S:(j:Int)<n:=by omega
    obtain⟨J8,RF,hq'⟩:=aK ho hj hq;clear ho hj hq;clear GA;go_wp2;go_round
    case rel=>exact⟨k+1,_,_,by omega,by go_num,rfl,rfl,aA ⟨bMB.o,bDR.o,aBR.o,GZ.o⟩⟩
    case measure=>simp[intOf];omega
  ·obtain rfl:k=s:=by omega
   have hbe:=aXH.o.2.2.2;rw[iP,List.take_zero,show be []=0 from rfl,Int.zero_mul,Int.zero_add]at hbe;have bDS:be L=N:=hbe;obtain⟨bDT,bNV,bT4⟩:=aK bDS hbe aXH;clear bDS hbe aXH;go_wp2;go_ret2;exact⟨by rw[bDT.o];rfl,aY _ _⟩
end Go.Proofs.YtceclmpmpldmlaaGreat
namespace Tt
open Go Go.RowKit
def fl {α:Type} (f:α→List Value) (l:List α):List Value:=l.flatMap f
section
variable {α:Type} {f:α→List Value} {k:Nat}
theorem a0N (x:α) (r:List α):fl f (x::r)=f x++fl f r:=rfl
theorem JI (x y:List α):fl f (x++y)=fl f x++fl f y:=by simp[fl]
theorem BV (x:List α) (y:α):fl f (x++ [y])=fl f x++f y:=by rw[JI];simp[fl]
theorem RN (hf:∀x,(f x).length=k):∀(l:List α),(fl f l).length=l.length*k
 | []=>by simp[fl]
 |x::r=>by rw[a0N,cO,RN hf r,hf x,dP,Nat.succ_mul,Nat.add_comm]
theorem aG9 (hf:∀x,(f x).length=k) (d:α):∀{l:List α} {i j:Nat},i<l.length→j<k→(fl f l)[i*k+j]? =(f (l.getD i d))[j]?
 |x::r,0,j,_,hj=>by rw[a0N,iD (by rw[hf x];omega),gF,dU];rfl
 |x::r,i+1,j,hi,hj=>by
  have e:(i+1)*k+j - k=i*k+j:=by rw[Nat.succ_mul];omega
  rw[a0N,iB (by rw[hf x,Nat.succ_mul];omega),hf x,e,aG9 hf d (by simpa using hi) hj];rfl
theorem aQE (h1:∀x,∀u∈f x,u.oneCell'=true) {l:List α}:∀u∈fl f l,u.oneCell'=true:=by
 intro u hu;obtain⟨x,_,hx⟩:=gZ.1 hu;exact h1 x u hx
theorem Sl.rP {w:World} {a:Option Addr} {n c:Nat} {l:List α} (hf:∀x,(f x).length=k) (hk:0<k) (h:Sl w a n c k (fl f l)):l.length=n:=by
 have:=h.len;rw[RN hf]at this;exact Nat.eq_of_mul_eq_mul_right hk this
theorem Sl.elem {w:World} {a:Option Addr} {n c:Nat} {l:List α} (hf:∀x,(f x).length=k) (hk:0<k) (d:α) (h:Sl w a n c k (fl f l)) {i:Nat} (hi:i<n):
  ∃b o,a=some ⟨b,o,none⟩∧b<w.heap.size∧∀j v,(f (l.getD i d))[j]? =some v→w.cell? ⟨b,o+i*k+j,none⟩=some v:=by
 have hl:=h.rP hf hk;obtain⟨b,o,rfl,hb,hc⟩:=h.at hi;refine⟨b,o,rfl,hb,fun j v hj=>?_⟩;have TT:j<k:=by
  have:=(dO.1 hj).1;rwa [hf]at this
 have:=hc (i*k+j) v ((aG9 hf d aG TT).trans hj);rwa [←Nat.add_assoc]at this
end
end Tt
namespace Go.Proofs.YtceclmpmpldmlaaGreat
open Go.RowKit Tt
abbrev Lk:=Int×Int
def lkc (x:Lk):List Value:= [.int .i64 x.1,.int .i64 x.2]
theorem pJ (x:Lk):(lkc x).length=2:=rfl
def b1E (a l e:Int):Bool:=decide (0≤a)&&decide (0≤l)&&decide (a≤e)&&decide (l≤e - a)
def AL (ty cnt:Int):Int:=if cnt<1∨65536<cnt then 0 else cnt*(kU ty).1
def yF (ty cnt:Int):Int:=if 4<AL ty cnt then AL ty cnt else 0
def XA (ty cnt:Int):Bool:=decide (0<AL ty cnt)&&decide (AL ty cnt≤4)
theorem a1M (ty cnt:Int):0≤AL ty cnt∧AL ty cnt≤524288:=by
 unfold AL;have:=AY ty;split
 ·omega
 ·rename_i h;have h1:cnt*(kU ty).1≤65536*8:=iO aG this.2 this.1 aG;exact⟨iX aG this.1,by omega⟩
theorem aQF (n:Int) (w:World):Calls Tryz.prog 229 #[.int .i64 n] w fun e w'=>e= .returned (.int .i64 (kU n).1)∧Below w.heap.size w w':=by
 have hK:=a0Z n w;generalize (kU n).1=s1 at*;generalize (kU n).2.1=s2 at*;generalize (kU n).2.2=s3 at*;have hF:∀W,(Instr.field 185 (.agg #[.int .i64 s1,.int .i64 s2,.int .i64 s3]) 0).run Tryz.prog W= .ok (.int .i64 s1) W:=fun W=>by kernel_rfl
 have hK':=aA hK;clear hK;go_enter Tryz.func229,Tryz.ntmps229;go_wp2_with fail
 refine hK'.o.mono ?_;rintro e w1 ⟨rfl,jY⟩;have HB:=aA jY;clear jY;go_wp2_with fail
 go_ret;exact⟨rfl,HB.o⟩
theorem aBS (ty cnt:Int) (w:World):Calls Tryz.prog 165 #[.int .i64 ty,.int .i64 cnt] w fun e w'=>e= .returned (.int .i64 (AL ty cnt))∧Below w.heap.size w w':=by
 have hk:=AY ty;unfold AL;by_cases h:cnt<1
 ·rw[if_pos (.inl h)];go_enter Tryz.func165,Tryz.ntmps165;go_wp2;go_ret;exact⟨rfl,aY _ _⟩
 ·have d1:decide (cnt<1)=false:=by simp;omega
  by_cases h2:65536<cnt
  ·rw[if_pos (.inr h2)];go_enter Tryz.func165,Tryz.ntmps165;go_wp2;go_ret;exact⟨rfl,aY _ _⟩
  ·have d2:decide (65536<cnt)=false:=by simp;omega
   rw[if_neg aG];have h3:cnt*(kU ty).1≤65536*8:=iO aG hk.2 hk.1 aG;have h4:0≤cnt*(kU ty).1:=iX aG hk.1;have hS:=fun W=>aQF ty W;generalize (kU ty).1=s at*;have hw:=aB (cnt*s) aG;obtain⟨WM,hS'⟩:=aJ hk hS;clear hk hS;go_enter Tryz.func165,Tryz.ntmps165;go_wp2_with (go_at_call 229;refine(hS'.o _).mono ?_;rintro e w1 ⟨rfl,jY⟩;have HB:=aA jY;clear jY)
   go_ret;exact⟨rfl,HB.o⟩
theorem a7K (ty cnt:Int) (w:World):Calls Tryz.prog 260 #[.int .i64 ty,.int .i64 cnt] w fun e w'=>e= .returned (.int .i64 (AL ty cnt))∧Below w.heap.size w w':=by
 have hk:=AY ty;unfold AL;by_cases h:cnt<1
 ·rw[if_pos (.inl h)];go_enter Tryz.func260,Tryz.ntmps260;go_wp2;go_ret;exact⟨rfl,aY _ _⟩
 ·have d1:decide (cnt<1)=false:=by simp;omega
  by_cases h2:65536<cnt
  ·rw[if_pos (.inr h2)];go_enter Tryz.func260,Tryz.ntmps260;go_wp2;go_ret;exact⟨rfl,aY _ _⟩
  ·have d2:decide (65536<cnt)=false:=by simp;omega
   rw[if_neg aG];have h3:cnt*(kU ty).1≤65536*8:=iO aG hk.2 hk.1 aG;have h4:0≤cnt*(kU ty).1:=iX aG hk.1;have hS:=fun W=>JC ty W;generalize (kU ty).1=s at*;have hw:=aB (cnt*s) aG;obtain⟨WM,hS'⟩:=aJ hk hS;clear hk hS;go_enter Tryz.func260,Tryz.ntmps260;go_wp2_with (go_at_call 146;refine(hS'.o _).mono ?_;rintro e w1 ⟨rfl,rfl⟩)
   go_ret;exact⟨rfl,aY _ _⟩
theorem aYD (ty cnt:Int) (w:World):Calls Tryz.prog 161 #[.int .i64 ty,.int .i64 cnt] w fun e w'=>e= .returned (.int .i64 (yF ty cnt))∧Below w.heap.size w w':=by
 have hK:=aBS ty cnt w;unfold yF;generalize AL ty cnt=s at*;have hK':=aA hK;clear hK;by_cases h:4<s
 ·rw[if_pos h];go_enter Tryz.func161,Tryz.ntmps161;go_wp2_with (go_at_call 165;refine(hK'.o).mono ?_;rintro e w1 ⟨rfl,jY⟩;have HB:=aA jY;clear jY)
  go_ret;exact⟨rfl,HB.o⟩
 ·have d:decide (4<s)=false:=by simp;omega
  rw[if_neg h];go_enter Tryz.func161,Tryz.ntmps161;go_wp2_with (go_at_call 165;refine(hK'.o).mono ?_;rintro e w1 ⟨rfl,jY⟩;have HB:=aA jY;clear jY)
  go_ret;exact⟨rfl,HB.o⟩
theorem aQG (ty cnt:Int) (w:World):Calls Tryz.prog 240 #[.int .i64 ty,.int .i64 cnt] w fun e w'=>e= .returned (.int .i64 (yF ty cnt))∧Below w.heap.size w w':=by
 have hK:=fun W=>a7K ty cnt W;unfold yF;generalize AL ty cnt=s at*;have hK':=aA hK;clear hK;by_cases h:4<s
 ·rw[if_pos h];go_enter Tryz.func240,Tryz.ntmps240;go_wp2_with fail
  refine(hK'.o _).mono ?_;rintro e w1 ⟨rfl,jY⟩;go_wp2_with fail
  refine(hK'.o _).mono ?_;rintro e w2 ⟨rfl,jT⟩;have hb:=jY.tm jT;clear jY jT;have mO:=aA hb;clear hb;go_wp2_with fail
  go_ret;exact⟨rfl,mO.o⟩
 ·have d:decide (4<s)=false:=by simp;omega
  rw[if_neg h];go_enter Tryz.func240,Tryz.ntmps240;go_wp2_with (go_at_call 260;refine(hK'.o _).mono ?_;rintro e w1 ⟨rfl,jY⟩;have HB:=aA jY;clear jY)
  go_ret;exact⟨rfl,HB.o⟩
theorem bMN (ty cnt:Int) (w:World):Calls Tryz.prog 113 #[.int .i64 ty,.int .i64 cnt] w fun e w'=>e= .returned (.bool (XA ty cnt))∧Below w.heap.size w w':=by
 have hK:=aBS ty cnt w;unfold XA;generalize AL ty cnt=s at*;have hK':=aA hK;clear hK;by_cases h:0<s
 ·simp only[h,decide_true,dD];go_enter Tryz.func113,Tryz.ntmps113;go_wp2_with (go_at_call 165;refine(hK'.o).mono ?_;rintro e w1 ⟨rfl,jY⟩;have HB:=aA jY;clear jY)
  go_ret;exact⟨rfl,HB.o⟩
 ·have d:decide (0<s)=false:=by simp;omega
  rw[d,Bool.false_and];go_enter Tryz.func113,Tryz.ntmps113;go_wp2_with (go_at_call 165;refine(hK'.o).mono ?_;rintro e w1 ⟨rfl,jY⟩;have HB:=aA jY;clear jY)
  go_ret;exact⟨rfl,HB.o⟩
theorem aQH (ty cnt:Int) (w:World):Calls Tryz.prog 261 #[.int .i64 ty,.int .i64 cnt] w fun e w'=>e= .returned (.bool (XA ty cnt))∧Below w.heap.size w w':=by
 have hK:=fun W=>a7K ty cnt W;unfold XA;generalize AL ty cnt=s at*;have hK':=aA hK;clear hK;by_cases h:0<s
 ·have d:decide (1≤s)=true:=by simp;omega
  simp only[h,decide_true,dD];go_enter Tryz.func261,Tryz.ntmps261;go_wp2_with fail
  refine(hK'.o _).mono ?_;rintro e w1 ⟨rfl,jY⟩;go_wp2_with fail
  refine(hK'.o _).mono ?_;rintro e w2 ⟨rfl,jT⟩;have hb:=jY.tm jT;clear jY jT;have mO:=aA hb;clear hb;go_wp2_with fail
  go_ret;exact⟨rfl,mO.o⟩
 ·have d:decide (1≤s)=false:=by simp;omega
  rw[show decide (0<s)=false by simp;omega,Bool.false_and];go_enter Tryz.func261,Tryz.ntmps261;go_wp2_with (go_at_call 260;refine(hK'.o _).mono ?_;rintro e w1 ⟨rfl,jY⟩;have HB:=aA jY;clear jY)
  go_ret;exact⟨rfl,HB.o⟩
def ofS (ty cnt:Int) (b:List Int) (o:Int):Option (List Int):=
 if(kU ty).1=0∨cnt<1∨65536<cnt∨(b.length:Int)<cnt*(kU ty).1 then none
 else if vH ty cnt (wK (b.take (cnt*(kU ty).1).toNat) (kU ty).2.1 o)=true then some (wK (b.take (cnt*(kU ty).1).toNat) (kU ty).2.1 o)else none
theorem aMR (n:Int) (w:World):Calls Tryz.prog 217 #[.int .i64 n] w fun e w'=>e= .returned (.int .i64 (kU n).2.1)∧w=w':=by
 by_cases h5:n=5
 ·subst h5;rw[show(kU 5).2.1=4 by decide];go_enter Tryz.func217,Tryz.ntmps217;go_wp2;go_ret;exact⟨rfl,rfl⟩
 by_cases h10:n=10
 ·subst h10;rw[show(kU 10).2.1=4 by decide];go_enter Tryz.func217,Tryz.ntmps217;go_wp2;go_ret;exact⟨rfl,rfl⟩
 have e:(kU n).2.1=(kU n).1:=by
  rcases Classical.em (n<0∨12<n)with h|h
  ·rw[OZ h]
  ·rcases(by omega:n=0∨n=1∨n=2∨n=3∨n=4∨n=6∨n=7∨n=8∨n=9∨n=11∨n=12)with rfl|rfl|rfl|rfl|rfl|rfl|rfl|rfl|rfl|rfl|rfl <;> decide
 rw[e];have hS:=fun W=>JC n W;have d5:(n==5)=false:=by simp[h5]
 have d10:(n==10)=false:=by simp[h10]
 generalize (kU n).1=s at*;have hS':=aA hS;clear hS;go_enter Tryz.func217,Tryz.ntmps217;go_wp2_with (go_at_call 146;refine(hS'.o _).mono ?_;rintro e w1 ⟨rfl,rfl⟩)
 go_ret;exact⟨rfl,rfl⟩
abbrev xB:=Int×Int×Int×Int
def sP (x:xB):List Value:= [.int .i64 x.1,.int .i64 x.2.1,.int .i64 x.2.2.1,.int .i64 x.2.2.2]
theorem rG (x:xB):(sP x).length=4:=rfl
def bDU (z:List Int) (o p:Int):xB:=(yN z p 2 o,yN z (p+2) 2 o,yN z (p+4) 4 o,yN z (p+8) 4 o)
theorem aYE {n:Nat} {at_ size o:Int} (hs:size=1∨size=2∨size=4) (ho:o=1∨o=2) (h0:0≤at_) (h1:at_+size≤n):EY n at_ size o=true:=by
 unfold EY EX;simp;omega
end Go.Proofs.YtceclmpmpldmlaaGreat
namespace Tt
open Go Go.RowKit
end Tt
namespace Go.Proofs.YtceclmpmpldmlaaGreat
open Go.RowKit Tt
def b5W (l:List Int):Bool:= !l.any (fun x=>x != 0)
def inS (x:xB) (o:Int):Option (List Int×Bool):=
 if(lZ x.2.2.2 4 o&&XA x.2.1 x.2.2.1)=true then(ofS x.2.1 x.2.2.1 (kZ x.2.2.2 4 o) o).map (fun d=>(d,b5W ((kZ x.2.2.2 4 o).drop d.length)))else none
abbrev rQ:=List Lk×Int×Int×Int
abbrev mD:rQ:=([],0,0,0)
def vV (x:Int):Bool:=decide (0≤x)&&decide (x<65536)
def JJ (n i:Nat) (x:Int):Bool:=decide ((i:Int)<x)&&decide (x<n)
def nI (n i:Nat) (s:rQ) (k:Nat):Bool:=
 vV (s.1.getD k (0,0)).1&&(decide (k=0)||decide ((s.1.getD (k - 1) (0,0)).1<(s.1.getD k (0,0)).1))&&JJ n i (s.1.getD k (0,0)).2&& !(decide (0<s.2.1)&&(decide ((s.1.getD k (0,0)).1=s.2.1)||decide ((s.1.getD k (0,0)).1=s.2.2.1)))
def QM (n i:Nat) (s:rQ):Bool:=decide (s.2.2.2= -1)||JJ n i s.2.2.2
def NI (s:rQ):Bool:=(decide (s.2.1=0)&&decide (s.2.2.1=0))||(decide (1≤s.2.1)&&decide (s.2.1<s.2.2.1)&&vV s.2.2.1)
def lX (n i:Nat) (s:rQ):Bool:=(List.range s.1.length).all (nI n i s)&&QM n i s&&NI s
def nO (l:List rQ):Bool:=decide (1≤l.length)&&decide (l.length≤16)&&(List.range l.length).all (fun i=>lX l.length i (l.getD i mD))
abbrev QN:=(Option Addr×Nat×Nat)×rQ
abbrev sJ:QN:=((none,0,0),mD)
def shc (z:QN):List Value:= [.slice z.1.1 z.1.2.1 z.1.2.2,.int .i64 z.2.2.1,.int .i64 z.2.2.2.1,.int .i64 z.2.2.2.2]
theorem qD (z:QN):(shc z).length=4:=rfl
structure ShR (W:World) (a:Option Addr) (n c:Nat) (zs:List QN):Prop where
 row:Sl W a n c 4 (fl shc zs)
 each:∀z∈zs,Sl W z.1.1 z.1.2.1 z.1.2.2 2 (fl lkc z.2.1)
theorem ShR.len {W:World} {a:Option Addr} {n c:Nat} {zs:List QN} (h:ShR W a n c zs):zs.length=n:=h.row.rP qD aH
theorem ShR.mono {W W':World} {a:Option Addr} {n c:Nat} {zs:List QN} (h:ShR W a n c zs) (hb:Below W.heap.size W W'):ShR W' a n c zs:=⟨h.row.mono hb,fun z hz=>(h.each z hz).mono hb⟩
theorem ShR.at {W:World} {a:Option Addr} {n c:Nat} {zs:List QN} (h:ShR W a n c zs) {i:Nat} (hi:i<n):
  Sl W (zs.getD i sJ).1.1 (zs.getD i sJ).1.2.1 (zs.getD i sJ).1.2.2 2 (fl lkc (zs.getD i sJ).2.1):=
 h.each _ (by rw[jO (by rw[h.len];exact hi)];exact bJ _)
def jP (zs:List QN):List rQ:=zs.map (·.2)
theorem qL {zs:List QN} {i:Nat} (hi:i<zs.length):(jP zs).getD i mD=(zs.getD i sJ).2:=by
 rw[jO (by simpa [jP] using hi),jO hi];simp[jP]
theorem aK4 (x:Int) (w:World):Calls Tryz.prog 105 #[.int .i64 x] w fun e w'=>e= .returned (.bool (vV x))∧Below w.heap.size w w':=by
 have hP:=fun W=>KV x 2 2 W;have hk:lZ x 2 2=vV x:=by unfold lZ vV rF;simp
 rw[hk]at hP;generalize vV x=b at*;have Q0:=aA hP;clear hP;go_enter Tryz.func105,Tryz.ntmps105;go_wp2_with fail
 refine(Q0.o _).mono ?_;rintro e w1 ⟨a1,m1,c1,rfl,OT,jY⟩;clear OT;have kR:=aA jY;clear jY;go_wp2_with fail
 go_ret;exact⟨rfl,kR.o⟩
theorem aMS (a:Option Addr) (n c i:Nat) (x:Int) (w:World):Calls Tryz.prog 106 #[.slice a n c,.int .i64 i,.int .i64 x] w fun e w'=>e= .returned (.bool (JJ n i x))∧w=w':=by
 unfold JJ;by_cases h:(i:Int)<x
 ·simp only[h,decide_true,dD];go_enter Tryz.func106,Tryz.ntmps106;go_wp2;go_ret;exact⟨rfl,rfl⟩
 ·simp only[h,decide_false,Bool.false_and];go_enter Tryz.func106,Tryz.ntmps106;go_wp2;go_ret;exact⟨rfl,rfl⟩
abbrev rM:=Int×Int×Int×List Int
abbrev nY:=Int×Int×Int×Int×Int
structure St where
 JK:List nY
 no:Int
 aGA:Int
def b5X (k:Int) (x:nY):Bool:=decide (x.2.2.2.1≤k)&&decide (k<x.2.2.2.1+x.2.2.2.2)
def b5Y (s:St) (k:Int):Bool:=s.JK.any (b5X k)
def bDV (s:St) (at_:Int) (long:Nat):Bool:=(List.range long).all fun i=> !b5Y s (at_+i)
def bNW (n:Nat) (x:nY):Bool:=decide (x.2.2.2.1 % 2=0)&&b1E x.2.2.2.1 x.2.2.2.2 n
def aBT (n:Nat) (x:nY) (s:St):Except Int St:=
 if bNW n x=true then if bDV s x.2.2.2.1 x.2.2.2.2.toNat=true then .ok {s with JK:=s.JK++ [x]}else .error 5 else .error 4
def b1F (z:List Int) (o p:Int) (k:Nat):List xB:=(List.range k).map fun(i:Nat)=>bDU z o (p+2+12*(i:Int))
def aQI:List xB→Bool
 |x::y::r=>decide (x.1<y.1)&&aQI (y::r)
 |_=>true
def aQJ (z:List Int) (o p no:Int) (s:St):Except Int (List xB×St):=
 if(decide (p % 2=0)&&b1E p 2 z.length)=true then
  if 0<yN z p 2 o then
   match aBT z.length (2,no,0,p,6+12*yN z p 2 o) s with
   | .error e=> .error e
   | .ok s'=>if aQI (b1F z o p (yN z p 2 o).toNat)=true then .ok (b1F z o p (yN z p 2 o).toNat,s')else .error 2
  else .error 2
 else .error 4
def b5Z (z:List Int) (o:Int) (x:xB) (no:Int) (s:St):Except Int (rM×St):=
 if 0<(kU x.2.1).1∧1≤x.2.2.1∧x.2.2.1≤65536 then
  if 0<yF x.2.1 x.2.2.1 then
   match aBT z.length (3,no,x.1,x.2.2.2,yF x.2.1 x.2.2.1) s with
   | .error e=> .error e
   | .ok s'=>match ofS x.2.1 x.2.2.1 (z.drop x.2.2.2.toNat) o with
    |none=> .error 6
    |some d=> .ok ((x.1,x.2.1,x.2.2.1,d),s')
  else match inS x o with
   |none=> .error 6
   |some d=> .ok ((x.1,x.2.1,x.2.2.1,d.1),{s with aGA:=if d.2=true then s.aGA else IntKind.i64.wrap (s.aGA+1)})
 else .error 6
def wU (s:rQ) (t:Int):Bool:=s.1.any fun y=>y.1==t
def NJ (s:rQ) (t:Int):Bool:=decide (0<s.2.1)&&(decide (t=s.2.1)||decide (t=s.2.2.1))
def RO (s:rQ) (t:Int):Bool:=wU s t||NJ s t
def stepT (z:List Int) (o:Int) (sh:rQ) (no:Int) (acc:List rM×St) (x:xB):Except Int (List rM×St):=
 if RO sh x.1=true then(if x.2.1=4∧x.2.2.1=1 then .ok acc else .error 6)
 else match b5Z z o x no acc.2 with
  | .error e=> .error e
  | .ok (v,s')=> .ok (acc.1++ [v],s')
def jR:Nat→Type
 |0=>Unit
 |f+1=>List rM×List (Int×jR f)×List Int
def bDW {f:Nat} (rec:Int→Int→St→Except Int ((jR f×Int)×St)) (sh:rQ) (acc:List (Int×jR f)×St) (x:xB):Except Int (List (Int×jR f)×St):=
 if wU sh x.1=true then
  match rec x.2.2.2 (sh.1.getD (fst (fun y=>y.1==x.1) sh.1).toNat (0,0)).2 acc.2 with
  | .error e=> .error e
  | .ok ((d,next),s')=>if next=0 then .ok (acc.1++ [(x.1,d)],s')else .error 2
 else .ok acc
def loopS {α σ:Type} (step:σ→α→Except Int σ):List α→σ→Except Int σ
 | [],s=> .ok s
 |x::r,s=>match step s x with
  | .error e=> .error e
  | .ok s'=>loopS step r s'
def bDX (z:List Int) (sh:rQ) (l:List xB) (no:Int) (s:St):Except Int (List Int×St):=
 match l.filter (fun x=> !wU sh x.1&&NJ sh x.1)with
 | [x,y]=>if 0<y.2.2.2 then
   match aBT z.length (4,no,0,x.2.2.2,y.2.2.2) s with
   | .error e=> .error e
   | .ok s'=> .ok ((z.drop x.2.2.2.toNat).take y.2.2.2.toNat,s')
  else .error 6
 |_=> .ok ([],s)
def bDY (z:List Int) (o:Int) (L:List rQ):(f:Nat)→Int→Int→St→Except Int ((jR f×Int)×St)
 |0,_,_,_=> .error 2
 |f+1,p,sh,s=>
  match aQJ z o p s.no {s with no:=IntKind.i64.wrap (s.no+1)}with
  | .error e=> .error e
  | .ok (l,s1)=>
   match loopS (stepT z o (L.getD sh.toNat mD) s.no) l ([],s1)with
   | .error e=> .error e
   | .ok (tags,s2)=>
    if(l.filter (fun x=> !wU (L.getD sh.toNat mD) x.1&&NJ (L.getD sh.toNat mD) x.1)).length=1 then .error 6 else
    match loopS (bDW (bDY z o L f) (L.getD sh.toNat mD)) l ([],s2)with
    | .error e=> .error e
    | .ok (subs,s3)=>
     match bDX z (L.getD sh.toNat mD) l s.no s3 with
     | .error e=> .error e
     | .ok (blob,s4)=> .ok (((tags,subs,blob),yN z (p+2+12*l.length) 4 o),s4)
def a90 (z:List Int):Int:=if z.getD 0 0=73∧z.getD 1 0=73 then 1 else if z.getD 0 0=77∧z.getD 1 0=77 then 2 else 0
def bDZ (z:List Int):Except Int St:=
 if 8≤z.length then
  if 0<a90 z∧yN z 2 2 (a90 z)=42 then aBT z.length (1, -1,0,0,8) ⟨[],0,0⟩else .error 2
 else .error 3
def aQK (z:List Int) (o:Int) (L:List rQ):Nat→List (jR 16)→Int→Int→St→Except Int (List (jR 16)×St)
 |0,_,_,_,_=> .error 2
 |f+1,acc,p,sh,s=>
  if 0<p∨acc.length=0 then
   if 0≤sh then
    match bDY z o L 16 p sh s with
    | .error e=> .error e
    | .ok ((d,next),s')=>aQK z o L f (acc++ [d]) next (L.getD sh.toNat mD).2.2.2 s'
   else .error 2
  else .ok (acc,s)
def aBU (z:List Int) (L:List rQ):Except Int (List (jR 16)×St):=
 if nO L=true then
  match bDZ z with
  | .error e=> .error e
  | .ok s=>aQK z (a90 z) L 18 [] (yN z 4 4 (a90 z)) 0 s
 else .error 1
def aQL (r:Except Int (List (jR 16)×St)):Int:=match r with| .error e=>e| .ok _=>0
def ofL (l:List Int):List Int:= [73,73,42,0,8,0,0,0]++l
def aBV:List rQ:= [([],0,0, -1)]
theorem ex3:aQL (aBU (ofL [1,0,0,1,5,0,1,0,0,0,8,0,0,0,0,0,0,0]) aBV)=5:=by decide+kernel
theorem ex4:aQL (aBU (ofL [1,0,0,1,5,0,1,0,0,0,9,0,0,0,0,0,0,0]) aBV)=4:=by decide+kernel
theorem ex5:aQL (aBU (ofL [1,0,0,1,5,0,1,0,0,0,232,3,0,0,0,0,0,0]) aBV)=4:=by decide+kernel
theorem ex6:aQL (aBU (ofL [1,0,0,1,2,0,2,0,0,0,97,98,0,0,0,0,0,0]) aBV)=6:=by decide+kernel
theorem ex7:aQL (aBU [] aBV)=3:=by decide+kernel
abbrev Flt:=List rM×Nat×List Int
def qM (t s b:Nat):Nat:=t+s+if 0<b then 2 else 0
def kQ:(f:Nat)→jR f→List Flt
 |0,_=> []
 |f+1,d=>(d.1,d.2.1.length,d.2.2)::d.2.1.flatMap fun s=>kQ f s.2
theorem vO (f:Nat) (d:jR (f+1)):kQ (f+1) d=(d.1,d.2.1.length,d.2.2)::d.2.1.flatMap fun s=>kQ f s.2:=rfl
def ZW (x:rM):Bool:=vH x.2.1 x.2.2.1 x.2.2.2
def okF (x:Flt):Bool:=decide (1≤qM x.1.length x.2.1 x.2.2.length)&&decide (qM x.1.length x.2.1 x.2.2.length≤65535)&&x.1.all ZW
def vK (n:Int):Int:=n+n % 2
def mM (l:List nY):Int:=match l.getLast? with|none=>0|some x=>x.2.2.2.1+x.2.2.2.2
def pG (l:List nY) (what no tag long:Int):List nY:=l++ [(what,no,tag,vK (mM l),long)]
def oF (no:Int) (ts:List rM) (l:List nY):List nY:=ts.foldl (fun l x=>if 0<yF x.2.1 x.2.2.1 then pG l 3 no x.1 (yF x.2.1 x.2.2.1)else l) l
def BF:(f:Nat)→jR f→Int→List nY→List nY
 |0,_,_,l=>l
 |f+1,d,no,l=>
  let l1:=oF no d.1 (pG l 2 no 0 (6+12*(qM d.1.length d.2.1.length d.2.2.length:Nat)))
  let r:=d.2.1.foldl (fun(r:List nY×Int) s=>(BF f s.2 r.2 r.1,r.2+(kQ f s.2).length)) (l1,no+1)
  if 0<d.2.2.length then pG r.1 4 no 0 (d.2.2.length:Nat)else r.1
theorem a1N (l:List nY) (a b c e:Int):mM (pG l a b c e)=vK (mM l)+e:=by simp[mM,pG]
theorem NK {n:Int} (h:0≤n):n≤vK n∧vK n≤n+1:=by unfold vK;omega
theorem yO (l:List nY) (a b c e:Int):(pG l a b c e).length=l.length+1:=by simp[pG]
