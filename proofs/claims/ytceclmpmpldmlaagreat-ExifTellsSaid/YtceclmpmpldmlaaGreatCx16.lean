import Derived.Test.YtceclmpmpldmlaaGreatCx15
set_option linter.unusedSimpArgs false
set_option linter.unusedVariables false
set_option maxRecDepth 100000
set_option maxHeartbeats 8000000
namespace Go.Proofs.YtceclmpmpldmlaaGreat
open Go.RowKit Tt
theorem RY (t n:Int) (w:World):Calls Tryz.prog 93 #[.int .i64 t,.int .i64 n] w fun e w'=>e= .returned (.agg #[.int .i64 t,.int .i64 4,.int .i64 1,.int .i64 n])∧Below w.heap.size w w':=by
 have jY:=aD w (.cells #[.int .i64 t,.int .i64 4,.int .i64 1,.int .i64 n] 55);have b1:=jW.new w 55 #[.int .i64 t,.int .i64 4,.int .i64 1,.int .i64 n];obtain⟨kR,b1'⟩:=aJ jY b1;clear jY b1;go_enter Tryz.func93,Tryz.ntmps93;go_wp2_with fail
 refine bodyPost_ret (results_cell_row rfl _ _ w.heap.size 55 #[.int .i64 t,.int .i64 4,.int .i64 1,.int .i64 n] (0,0) _ rfl b1'.o Tryz.underlying55 rfl aF) rfl ?_;exact⟨rfl,kR.o⟩
theorem aNA (g0 g1 g2:Nat) (what no tag:Int) (x:nY) (w:World) (h0:w.cell? ⟨g0,0,none⟩=some (.int .i64 what)) (h1:w.cell? ⟨g1,0,none⟩=some (.int .i64 no)) (h2:w.cell? ⟨g2,0,none⟩=some (.int .i64 tag)) (l0:g0<w.heap.size) (l1:g1<w.heap.size) (l2:g2<w.heap.size):
  Calls Tryz.prog 153 #[.agg (spC x).toArray,.pointer (some ⟨g0,0,none⟩),.pointer (some ⟨g1,0,none⟩),.pointer (some ⟨g2,0,none⟩)] w fun e w'=>e= .returned (.bool (atP what no tag x))∧Below w.heap.size w w':=by
 obtain⟨x0,x1,x2,x3,x4⟩:=x;have jY:=aD w (.cells #[.int .i64 x0,.int .i64 x1,.int .i64 x2,.int .i64 x3,.int .i64 x4] 50);have e:atP what no tag (x0,x1,x2,x3,x4)=(x0==what&&x1==no&&x2==tag):=rfl;rw[e];simp only[spC];obtain⟨b0,pW⟩:∃b,(x0==what)=b:=⟨_,rfl⟩;obtain⟨b1,yZ⟩:∃b,(x1==no)=b:=⟨_,rfl⟩;obtain⟨b2,jT⟩:∃b,(x2==tag)=b:=⟨_,rfl⟩;rw[pW,yZ,jT];clear e;have kR:=aA jY;clear jY;cases b0
 ·go_enter Tryz.func153,Tryz.ntmps153;go_wp2_with fail
  go_ret;exact⟨rfl,kR.o⟩
 ·cases b1
  ·go_enter Tryz.func153,Tryz.ntmps153;go_wp2_with fail
   go_ret;exact⟨rfl,kR.o⟩
  ·go_enter Tryz.func153,Tryz.ntmps153;go_wp2_with fail
   go_ret;exact⟨rfl,kR.o⟩
theorem aRO (caps:Array Value) (a:Option Addr) (n c:Nat) (ls:List nY) (p:nY→Bool) (w:World) (hs:Sl w a n c 5 (fl spC ls))
  (hc:∀W (x:nY),Below w.heap.size w W→Calls Tryz.prog 153 (#[.agg (spC x).toArray]++caps) W fun e W'=>e= .returned (.bool (p x))∧Below W.heap.size W W'):
  Calls Tryz.prog 152 #[.slice a n c,.func (.func 153) #[] caps] w fun e w'=>e= .returned (.int .i64 (fst p ls))∧Below w.heap.size w w':=by
 have hl:=hs.rP DW aH;have hm:=hs.max;have BX:=hs.le;obtain⟨pX,hc',yI⟩:=aK hs hc hl;clear hs hc hl;go_enter Tryz.func152,Tryz.ntmps152;go_wp2;go_loopw [8] (fun iv wr=>∃k:Nat,k≤n∧iv= .int .i64 k∧Hid (∀i (hi:i<ls.length),i<k→p ls[i]=false)∧Hid (Below w.heap.size w wr)) (fun iv _=>n - (intOf iv).toNat)
 case atStart=>exact⟨0,by omega,rfl,aA (fun j _ hj=>by omega),aA (aY _ _)⟩
 case round=>
  obtain⟨k,hk,rfl,kS,hb⟩:=hrel;by_cases kD:k<n
  ·have hww:IntKind.i64.wrap ((k:Int)+1)=k+1:=by rw[bF];omega
   have D6:k<ls.length:=by rw[yI.o];exact kD
   obtain⟨b,o,rfl,yZ,f⟩:=(pX.o.mono hb.o).elem DW aH (0,0,0,0,0) kD;rw[jO D6]at f;obtain⟨r,hr⟩:=aC (p (ls[k]'D6));have HC:=hc'.o wr (ls[k]'D6) hb.o;rw[hr]at HC;obtain⟨⟨x0,x1,x2,x3,x4⟩,hx⟩:∃x,ls[k]'D6=x:=⟨_,rfl⟩;rw[hx]at HC f;have f0:=f 0 _ rfl;have f1:=f 1 _ rfl;have f2:=f 2 _ rfl;have f3:=f 3 _ rfl;have f4:=f 4 _ rfl;clear f;simp only[spC,bU]at f0 f1 f2 f3 f4 HC;obtain⟨HC',qX,TR⟩:=aK HC hr hx;clear HC hr hx;go_wp2_with fail
   refine HC'.o.mono ?_;rintro e w2 ⟨rfl,jT⟩;have jZ:=hb.o.tm jT;clear jT;cases r with
   |true=>
    have jM:=aA jZ;clear jZ;go_wp2;go_ret;exact⟨by rw[RL D6 qX.o (fun i hi=>kS.o i aG hi)];rfl,jM.o⟩
   |false=>
    have nP:∀i (hi:i<ls.length),i<k+1→p ls[i]=false:=fun i hi h=>by
     rcases dM i k with h1|h1
     ·exact kS.o i hi h1
     ·obtain rfl:i=k:=by omega
      exact qX.o
    obtain⟨jM,lW⟩:=aJ jZ nP;clear jZ nP;go_wp2;go_roundw
    case rel=>exact⟨k+1,by omega,by go_num,lW,jM⟩
    case measure=>simp[intOf];omega
  ·obtain rfl:k=n:=by omega
   go_wp2;go_ret;exact⟨by rw[X8 (fun i hi=>kS.o i hi (by rw[yI.o]at hi;exact hi))];rfl,hb.o⟩
theorem PD (K:Wc) (w:World) (no:Int) (P:List Int) (h:P7 K w no P) (what dir tag:Int) (hf:K.l.any (atP what dir tag)=true):
  Calls Tryz.prog 94 #[.pointer (some ⟨K.gw,0,none⟩),.int .i64 what,.int .i64 dir,.int .i64 tag] w fun e w'=>e= .returned (.int .i64 (oV K.l what dir tag))∧Below w.heap.size w w':=by
 obtain⟨W1,pR,b0,b1,b2,jY,s1⟩:=wV w 3 #[.int .i64 what] 3 #[.int .i64 dir] 3 #[.int .i64 tag];have h1:=h.later jY;have hI:=aRO #[.pointer (some ⟨w.heap.size,0,none⟩),.pointer (some ⟨w.heap.size+1,0,none⟩),.pointer (some ⟨w.heap.size+2,0,none⟩)] K.GH K.H6 K.J6 K.l (atP what dir tag) W1 h1.sp
  (fun W x hb=>aNA _ _ _ what dir tag x W (late hb b0.lt (b0.cell rfl)) (late hb b1.lt (b1.cell rfl)) (late hb b2.lt (b2.cell rfl)) (cK b0.lt hb.size) (cK b1.lt hb.size) (cK b2.lt hb.size))
 obtain⟨s,IY,BO,hs3⟩:=aRM hf;have EL:oV K.l what dir tag=s.2.2.2.1:=by unfold oV;rw[IY]
 rw[EL];have yV:=h1.sp.rP DW aH;have LX:=h1.sp.max;have BX:=h1.sp.le;obtain⟨k,hk⟩:∃k:Nat,fst (atP what dir tag) K.l=k:=⟨(fst (atP what dir tag) K.l).toNat,by omega⟩;rw[hk]at hI BO;rw[bM]at BO;obtain⟨D6,hks⟩:=dO.1 BO;have hkn:k<K.H6:=by rw[←yV];exact D6
 have aJM:(k:Int)<(K.H6:Int):=by omega
 have aGD:(0:Int)≤(k:Int):=by omega
 have c2:=h1.blk.cell (i:=2) rfl;rw[←pR]at c2 hI;clear hs3;obtain⟨h',h1',b0',b1',b2',kR,MR,aPQ,RP,FZ,WM,bO9⟩:=aT h h1 b0 b1 b2 jY hI IY BO yV hk hks;obtain⟨y8,YE,QJ⟩:=aK pR EL hf;clear h h1 b0 b1 b2 jY hI IY BO yV hk hks pR EL hf;go_enter Tryz.func94,Tryz.ntmps94;go_wp2_with fail
 refine MR.o.mono ?_;rw[y8.o];rintro e w2 ⟨rfl,jT⟩;have h2:=h1'.o.later jT;clear c2;have c2:=h2.blk.cell (i:=2) rfl;obtain⟨b,o,e,kD,fe⟩:=h2.sp.elem DW aH (0,0,0,0,0) hkn;rw[jO (by rw[FZ.o];exact hkn),bO9.o]at fe;have f3:=fe 3 _ rfl;clear fe;have jZ:=kR.o.tm jT;obtain⟨h2',mE,jM⟩:=aK h2 jT jZ;clear h2 jT jZ;rw[e]at c2;go_wp2_with fail
 go_ret;exact⟨rfl,jM.o⟩
theorem aRP (a:Option Addr) (n c:Nat) (b:List Int) (s o:Int) (w:World) (hs:Sl w a n c 1 (ints .u8 b)) (hn:n≤1000000000):
  Calls Tryz.prog 117 #[.slice a n c,.int .i64 s,.int .i64 o] w fun e w'=>∃a2 m,e= .returned (.slice a2 m m)∧w'.ownsRow w.heap.size 5 1 (.slice a2 m m) m (ints .u8 (wK b s o))∧Below w.heap.size w w':=by
 obtain⟨i0,hi,sN,oG,qK⟩:=info_parts aBK;have vF:=hs.nU;have BX:=hs.le;have LX:=hs.max;have U8:=fun W=>UR s o W;have MV:=fun W=>UR 1 o W;obtain⟨t,ht⟩:=aC (M5 s o);have hts:wK b s o=if t=true then(if o=1 then turned s.toNat b else b)else []:=by unfold wK;rw[ht]
 obtain⟨R,hR⟩:=aC (wK b s o);rw[hR];rw[hR]at hts;replace hts:=hts.symm
 have TV:=ht;unfold M5 at TV;obtain⟨r1,hr1⟩:∃r,EX s o=r:=⟨_,rfl⟩;obtain⟨r2,U9⟩:∃r,EX 1 o=r:=⟨_,rfl⟩;rw[hr1]at U8 TV;rw[U9]at MV TV;obtain⟨aBG,a1V,pX,tL,a94⟩:=aM U8 MV hs vF hts;clear U8 MV hs vF hts;clear hr1 U9 hR;go_enter Tryz.func117,Tryz.ntmps117;cases t
 ·clear ht;cases r1
  ·by_cases h8:s=8
   ·subst h8;obtain rfl:r2=false:=by simpa using TV
    clear TV;go_wp2_with fail
    refine(aBG.o _).mono ?_;rintro e w1 ⟨rfl,jY⟩;have HB1:=aA jY;clear jY;go_wp2_with fail
    refine(a1V.o _).mono ?_;rintro e w2 ⟨rfl,jT⟩;have HB2:=aA (HB1.o.tm jT);clear jT;go_wp2_with fail
    go_ret;exact⟨none,0,rfl,by rw[←a94.o];exact kF _ _ _ _,HB2.o⟩
   ·have d8:(s != 8)=true:=by simp[h8]
    clear TV;go_wp2_with fail
    refine(aBG.o _).mono ?_;rintro e w1 ⟨rfl,jY⟩;have HB1:=aA jY;clear jY;go_wp2_with fail
    go_ret;exact⟨none,0,rfl,by rw[←a94.o];exact kF _ _ _ _,HB1.o⟩
  ·simp at TV
 ·obtain⟨rX,GA⟩:=a1I ht;obtain⟨p,rfl⟩:∃p:Nat,s=p:=⟨s.toNat,by omega⟩;have hp:p=1∨p=2∨p=4∨p=8:=by omega
  have hp1:1≤p:=by omega
  have YN:p≤8:=by omega
  clear ht rX;cases r1
  ·have h8:p=8:=by simp at TV;omega
   subst h8;obtain rfl:r2=true:=by simpa using TV
   clear TV hp;go_wp2_with fail
   refine(aBG.o _).mono ?_;rintro e w1 ⟨rfl,jY⟩;have HB1:=aA jY;clear jY;go_wp2_with fail
   refine(a1V.o _).mono ?_;rintro e w2 ⟨rfl,jT⟩;have HB2:=aA (HB1.o.tm jT);clear jT HB1;go_wp2_with (first|(at_make;refine wpList_make_full w2 rfl _ _ 24 rfl w2.heap.size 5 i0 _ 1 Tryz.underlying24 hi sN oG .i64 .i64 _ _ n rfl rfl rfl rfl (by rw[qK];omega) (by unfold maxLen;omega) (aZ _) ?_;intro w3 kY HZ;have R3:=Row.jU (by rw[NH]at kY;exact kY);have H3:=(HB2).o.trans (((aY _ _).grown HZ (aZ _) (fun k e=>by cases e)).mono (HB2).o.size);clear kY HZ)|(refine M0 rfl (.tmp 25) (.tmp 26) 24 24 rfl 5 Tryz.underlying24 (by rw[hi];simp[oG]) w2.heap.size n .u8 _ rfl R3 (by simp) a n c b rfl (pX.o.mono H3) w.heap.size w H3 (HB2).o.size ?_;intro w4 hr4 mF;rw[a1L tL.o (by simp)]at hr4;clear R3 H3))
   obtain⟨g,hg⟩:=aC w2.heap.size;have WO:w.heap.size≤g:=by rw[←hg];exact(HB2).o.size
   rw[hg]at hr4;rw[hg];clear HB2 hg;obtain⟨aH1,rT⟩:=aJ hr4 mF;clear hr4 mF;by_cases ho:o=1
   ·have d1:(o==1)=true:=by simp[ho]
    have J8:=aA ho;clear ho;clear GA;go_loopw [8] (fun i wr=>∃(q:Nat) (cs:List Int),q≤n∧i= .int .i64 q∧Hid (q % 8=0)∧Hid (Row wr g 5 .u8 cs)∧Hid (a1J 8 q b cs)∧Hid (Below w.heap.size w wr)) (fun i _=>n - (intOf i).toNat)
    case atStart=>exact⟨0,b,by omega,rfl,aA (by simp),aH1,aA ⟨rfl,fun k hk=>by simp⟩,rT⟩
    case round=>
     obtain⟨q,cs,hq,rfl,hqm,hr,htu,hb⟩:=hrel;have sS:IntKind.i64.wrap ((q:Int)+8)=q+8:=by rw[bF];omega
     have nK:=htu.o.1;rw[tL.o]at nK;by_cases kD:q+8≤n
     ·have d2:decide ((q:Int)+8≤n)=true:=by simp;omega
      have hRV:=fun cc=>NG g q 8 cc cs 5 wr hr.o aG aG;have nL:=aQB (P:=Tryz.prog) (T:=24) (E:=5) Tryz.underlying24 (fun W=>by kernel_rfl) g n q 8 aG kD;have b6H:=aA hRV;clear hRV;go_wp2_with (go_at_call 149;refine(b6H.o _).mono ?_;rintro e w5 ⟨rfl,p',hr5,hl5,nW,nZ⟩;obtain⟨HR5,HL5,HG5,HB5⟩:=aL hr5 hl5 nW nZ;clear hr5 hl5 nW nZ)
      go_roundw
      case rel=>exact⟨q+8,p',by omega,by go_num,aA (by have:=hqm.o;first|omega|(rw[Nat.add_mod_right];exact this)),HR5,aA (YM aG hqm.o (by rw[tL.o];omega) htu.o HL5.o HG5.o),aA (hb.o.trans (HB5.o.below WO hb.o.size))⟩
      case measure=>simp[intOf];omega
     ·have d2:decide ((q:Int)+8≤n)=false:=by simp;omega
      go_wp2;go_ret;refine⟨some ⟨g,0,none⟩,n,rfl,?_,hb.o⟩;have:=a1K (p:=8) aG hqm.o (by rw[tL.o];omega) (by rw[tL.o];exact hq) htu.o;have U9:=hr.o;rw[this]at U9;have hR:=a94.o;rw[if_pos trivial,if_pos J8.o]at hR;rw[bM]at hR;rw[←hR];exact U9.own (by rw[BD];exact tL.o) WO (by unfold maxLen;omega)
   ·have d1:(o==1)=false:=by simp[ho]
    have J8:=aA ho;clear ho;clear GA;go_loopw [8] (fun i wr=>i= .int .i64 0∧wr=w4) (fun i _=>0)
    case atStart=>exact⟨rfl,rfl⟩
    case round=>
     obtain⟨rfl,rfl⟩:=hrel;go_wp2;go_ret;refine⟨some ⟨g,0,none⟩,n,rfl,?_,rT.o⟩;rw[←a94.o,if_pos trivial,if_neg J8.o];exact aH1.o.own tL.o WO (by unfold maxLen;omega)
  ·clear TV;go_wp2_with fail
   refine(aBG.o _).mono ?_;rintro e w2 ⟨rfl,jT⟩;have HB2:=aA jT;clear jT;go_wp2_with (first|(at_make;refine wpList_make_full w2 rfl _ _ 24 rfl w2.heap.size 5 i0 _ 1 Tryz.underlying24 hi sN oG .i64 .i64 _ _ n rfl rfl rfl rfl (by rw[qK];omega) (by unfold maxLen;omega) (aZ _) ?_;intro w3 kY HZ;have R3:=Row.jU (by rw[NH]at kY;exact kY);have H3:=(HB2).o.trans (((aY _ _).grown HZ (aZ _) (fun k e=>by cases e)).mono (HB2).o.size);clear kY HZ)|(refine M0 rfl (.tmp 25) (.tmp 26) 24 24 rfl 5 Tryz.underlying24 (by rw[hi];simp[oG]) w2.heap.size n .u8 _ rfl R3 (by simp) a n c b rfl (pX.o.mono H3) w.heap.size w H3 (HB2).o.size ?_;intro w4 hr4 mF;rw[a1L tL.o (by simp)]at hr4;clear R3 H3))
   obtain⟨g,hg⟩:=aC w2.heap.size;have WO:w.heap.size≤g:=by rw[←hg];exact(HB2).o.size
   rw[hg]at hr4;rw[hg];clear HB2 hg;obtain⟨aH1,rT⟩:=aJ hr4 mF;clear hr4 mF;by_cases ho:o=1
   ·have d1:(o==1)=true:=by simp[ho]
    have J8:=aA ho;clear ho;clear GA;go_loopw [8] (fun i wr=>∃(q:Nat) (cs:List Int),q≤n∧i= .int .i64 q∧Hid (q % p=0)∧Hid (Row wr g 5 .u8 cs)∧Hid (a1J p q b cs)∧Hid (Below w.heap.size w wr)) (fun i _=>n - (intOf i).toNat)
    case atStart=>exact⟨0,b,by omega,rfl,aA (by simp),aH1,aA ⟨rfl,fun k hk=>by simp⟩,rT⟩
    case round=>
     obtain⟨q,cs,hq,rfl,hqm,hr,htu,hb⟩:=hrel;have sS:IntKind.i64.wrap ((q:Int)+p)=q+p:=by rw[bF];omega
     have nK:=htu.o.1;rw[tL.o]at nK;by_cases kD:q+p≤n
     ·have d2:decide ((q:Int)+p≤n)=true:=by simp;omega
      have hRV:=fun cc=>NG g q p cc cs 5 wr hr.o aG aG;have nL:=aQB (P:=Tryz.prog) (T:=24) (E:=5) Tryz.underlying24 (fun W=>by kernel_rfl) g n q p aG kD;have b6H:=aA hRV;clear hRV;go_wp2_with (go_at_call 149;refine(b6H.o _).mono ?_;rintro e w5 ⟨rfl,p',hr5,hl5,nW,nZ⟩;obtain⟨HR5,HL5,HG5,HB5⟩:=aL hr5 hl5 nW nZ;clear hr5 hl5 nW nZ)
      go_roundw
      case rel=>exact⟨q+p,p',by omega,by go_num,aA (by have:=hqm.o;first|omega|(rw[Nat.add_mod_right];exact this)),HR5,aA (YM aG hqm.o (by rw[tL.o];omega) htu.o HL5.o HG5.o),aA (hb.o.trans (HB5.o.below WO hb.o.size))⟩
      case measure=>simp[intOf];omega
     ·have d2:decide ((q:Int)+p≤n)=false:=by simp;omega
      go_wp2;go_ret;refine⟨some ⟨g,0,none⟩,n,rfl,?_,hb.o⟩;have:=a1K (p:=p) aG hqm.o (by rw[tL.o];omega) (by rw[tL.o];exact hq) htu.o;have U9:=hr.o;rw[this]at U9;have hR:=a94.o;rw[if_pos trivial,if_pos J8.o]at hR;rw[bM]at hR;rw[←hR];exact U9.own (by rw[BD];exact tL.o) WO (by unfold maxLen;omega)
   ·have d1:(o==1)=false:=by simp[ho]
    have J8:=aA ho;clear ho;clear GA;go_loopw [8] (fun i wr=>i= .int .i64 0∧wr=w4) (fun i _=>0)
    case atStart=>exact⟨rfl,rfl⟩
    case round=>
     obtain⟨rfl,rfl⟩:=hrel;go_wp2;go_ret;refine⟨some ⟨g,0,none⟩,n,rfl,?_,rT.o⟩;rw[←a94.o,if_pos trivial,if_neg J8.o];exact aH1.o.own tL.o WO (by unfold maxLen;omega)
theorem a2R (t y k:Int) (a:Option Addr) (n c:Nat) (d:List Int) (o:Int) (w:World) (hs:Sl w a n c 1 (ints .u8 d)) (hd:tV d) (hn:n≤1000000000):
  Calls Tryz.prog 151 #[.agg #[.int .i64 y,.int .i64 k,.slice a n c],.int .i64 o] w fun e w'=>∃a2 m,e= .returned (.slice a2 m m)∧w'.ownsRow w.heap.size 5 1 (.slice a2 m m) m (ints .u8 (lT (t,y,k,d) o))∧Below w.heap.size w w':=by
 have jY:=aD w (.cells #[.int .i64 y,.int .i64 k,.slice a n c] 72);have b1:=jW.new w 72 #[.int .i64 y,.int .i64 k,.slice a n c];obtain⟨W1,pR⟩:=aC (w.alloc (.cells #[.int .i64 y,.int .i64 k,.slice a n c] 72));rw[pR]at jY b1;have hM:=a0L y k a n c d W1 (hs.mono jY) hd;have hbv:lT (t,y,k,d) o=if vH y k d=true then wK d (kU y).2.1 o else []:=rfl;obtain⟨R,hR⟩:=aC (lT (t,y,k,d) o);rw[hR]at hbv ⊢;obtain⟨r,hr⟩:=aC (vH y k d);rw[hr]at hM hbv;rw[←pR]at hM;clear hR;obtain⟨kR,b1',hM',pX,UB,qX,y8,aH2⟩:=aP jY b1 hM hs hd hr pR hbv;clear jY b1 hM hs hd hr pR hbv
 go_enter Tryz.func151,Tryz.ntmps151;go_wp2_with fail
 refine hM'.o.mono ?_;rintro e w2 ⟨rfl,jT⟩;rw[y8.o]at jT;have jZ:=kR.o.tm jT;have b2:=b1'.o.late jT;cases r with
 |false=>
  obtain rfl:R= []:=aH2.o;obtain⟨jM,b2',mE⟩:=aK jZ b2 jT;clear jZ b2 jT;go_wp2_with fail
  go_ret;exact⟨none,0,rfl,kF _ _ _ _,jM.o⟩
 |true=>
  obtain rfl:R=wK d (kU y).2.1 o:=aH2.o;have hK:=fun W=>a0Z y W;obtain⟨z0,sN⟩:∃z,(kU y).1=z:=⟨_,rfl⟩;clear aH2;generalize hpt:(kU y).2.1=pt at*;obtain⟨z2,qK⟩:∃z,(kU y).2.2=z:=⟨_,rfl⟩;simp only[sN,hpt,qK]at hK;have bVA:∀W,(Instr.field 185 (.agg #[.int .i64 z0,.int .i64 pt,.int .i64 z2]) 1).run Tryz.prog W= .ok (.int .i64 pt) W:=fun W=>by kernel_rfl
  obtain⟨Ty,ff,oJ,jN,jK⟩:=kE w2;obtain⟨HS,HD⟩:=aJ (jK _ ((aY _ _).drew)) ((aY w2.heap.size w2).drew);have q0:=fun s=>(b2.late (jN s)).cell (i:=0) rfl;have q2:=fun s=>(b2.late (jN s)).cell (i:=2) rfl;obtain⟨jM,b2',mE,hK',bMG,a6J,bC8,jH,jF⟩:=aQ jZ b2 jT hK sN hpt qK jN jK;clear jZ b2 jT hK sN hpt qK jN jK;go_wp2_with fail
  refine kM (S:=fun W=>∃s,W=ff s) aF 9 rfl ?_;obtain⟨wD,qF⟩:=aC w2.drew;rw[qF]at HS HD ⊢;clear qF;refine jS [0,1,2,3,6] 4 aF aI aF aF aF HS.o ?_;simp only[jI,aW,aX,aU,aV];iterate 5 (go_big_quiet_step (fail))
  refine wpQuiet_nil ?_;refine jJ 4 3 aF aF ?_;simp only[jI,aW,aX,aU,aV];go_wp2_with fail
  refine(hK'.o wD).mono ?_;rintro e w3 ⟨rfl,jQ⟩;have NW:=HD.o.tm jQ;obtain⟨HS,qN,CJ⟩:=aK (jF.o _ NW) jQ NW;clear jQ NW;go_wp2_with fail
  first|refine Mid.mk ⟨HS.o,?_⟩|refine Mid.mk ?_
  refine jS [5] 2 aF aI aF aF aF HS.o ?_;simp only[jI,aW,aX,aU,aV];iterate 1 (go_big_quiet_step (fail))
  refine wpQuiet_nil ?_;refine jJ 7 1 aF aF ?_;simp only[jI,aW,aX,aU,aV];go_wp2_with fail
  refine(aRP a n c d pt o w3 (pX.o.mono (jM.o.tm CJ.o)) hn).mono ?_;rintro e w4 ⟨a4,m4,rfl,ET,mF⟩;have BH:=CJ.o.tm mF;have qZ:=jM.o.tm BH;have ho5:=kI ET (show w.heap.size≤_ from bQ jM.o.size CJ.o.size);have HS:=aA (jF.o _ BH);clear ET;obtain⟨rT,aKD,kW,a6K⟩:=aL mF BH qZ ho5;clear mF BH qZ ho5;go_wp2_with fail
  first|refine Mid.mk ⟨HS.o,?_⟩|refine Mid.mk ?_
  refine jJ 8 0 aF aF ?_;simp only[jI,aW,aX,aU,aV];go_wp2_with fail
  first|refine Mid.mk ⟨HS.o,?_⟩|refine Mid.mk ?_
  refine jV aF ?_;go_wp2_with fail
  go_ret;exact⟨a4,m4,rfl,by rw[a6J.o];exact a6K.o,kW.o⟩
theorem aRQ {b:List Int} (h:b.length≤4):(A9 b).length=4:=by unfold A9;simp;omega
theorem aH3 (n:Nat):(Builtin.zeroCells #[.int .u8 0] n).toList=ints .u8 (List.replicate n 0):=by
 apply fE
 ·simp[Builtin.zeroCells,ints]
 ·intro i h1 h2;simp[Builtin.zeroCells,ints,Nat.mod_one]
theorem aNB (w:World) (a2:Option Addr) (m k:Nat) (b:List Int) (B:Nat) (ty:TypeId) (ho:w.ownsRow B 5 1 (.slice a2 m m) m (ints .u8 b)) (hm:0<m) (hk:0<k) (h4:m+k=4):
  ∃a' c' w',(Builtin.append_ #[24,3] ty #[.slice a2 m m,.int .i64 (k:Int)]).run Tryz.prog w= .ok (.slice a' 4 c') w'∧Sl w' a' 4 c' 1 (ints .u8 (A9 b))∧Below w.heap.size w w':=by
 obtain⟨i0,hi,sN,oG,qK⟩:=info_parts a7R;have nL:=(Sl.jU ho).1;have vF:b.length=m:=nL.nU;obtain⟨g,off,e,kD,hc⟩:=nL.lies 0 hm;subst e;have aXC:(Builtin.firstCells i0.size m (.slice (some ⟨g,off,none⟩) m m)).run Tryz.prog w.drew= .ok (ints .u8 b).toArray w.drew:=by
  refine run_firstCells_some (P:=Tryz.prog) (w:=w.drew) i0.size m ⟨g,off,none⟩ m m (ints .u8 b) (by rw[pY,vF,oG,jD]) (fun j v hv=>?_);rw[fH];exact hc j v hv
 have hr:=Lib.run_append_grow_zeros (P:=Tryz.prog) w 24 3 ty 5 i0 (.int .u8 0) .i64 .i64 Tryz.underlying24 Tryz.underlying3 hi sN (some ⟨g,off,none⟩) m m (ints .u8 b) aXC k hk aG aG aG (by rw[qK];omega) (growslice_fits aG (by rw[qK];omega));rw[h4]at hr;have ZK:=grownCap_ge w 4 m 5;have hcm:=grownCap_le_maxLen w 4 m 5 (by unfold maxLen;omega);refine⟨_,_,_,hr,?_,?_⟩
 ·have AJ:jW (w.drew.alloc (.cells ((ints .u8 b).toArray++Builtin.zeroCells (Value.int .u8 0).cells k++Builtin.zeroCells (Value.int .u8 0).cells (grownCap w 4 m 5 - 4)) 5)) w.heap.size 5 ((ints .u8 b).toArray++Builtin.zeroCells (Value.int .u8 0).cells k++Builtin.zeroCells (Value.int .u8 0).cells (grownCap w 4 m 5 - 4)):=jW.new w.drew _ _;have e1:(Value.int .u8 0).cells=#[.int .u8 0]:=rfl;rw[e1]at AJ ⊢;have BP:=aRQ (b:=b) aG;refine(Sl.jU (KQ (B:=0) (xs:=ints .u8 (A9 b)) AJ (Nat.zero_le _) ZK hcm ?_ ?_)).1
  ·simp[size_zeroCells,pY,vF];omega
  ·have e2:((ints .u8 b).toArray++Builtin.zeroCells #[.int .u8 0] k++Builtin.zeroCells #[.int .u8 0] (grownCap w 4 m 5 - 4)).toList=ints .u8 (A9 b)++(Builtin.zeroCells #[.int .u8 0] (grownCap w 4 m 5 - 4)).toList:=by
    simp only[Array.toList_append];rw[aH3 k,←mG];unfold A9;rw[show 4 - b.length=k by omega]
   rw[e2,fB (by rw[pY,BP];omega),bK (by rw[pY,BP];omega)]
 ·exact((aY w.heap.size w).drew).alloc (aZ _) _
theorem aNC {b:List Int} (h:b.length=4):A9 b=b:=by unfold A9;rw[h];simp
theorem aKE {b:List Int} (h:tV b):tV (A9 b):=h.append (fun x hx=>by rw[List.eq_of_mem_replicate hx];decide)
theorem a2S {x:rM} {o:Int} (h:tV x.2.2.2):tV (lT x o):=by
 unfold lT;split
 ·exact aQA h _ _
 ·intro x hx;cases hx
theorem aKF (tag y k:Int) (a:Option Addr) (n c:Nat) (d:List Int) (o:Int) (w:World) (hs:Sl w a n c 1 (ints .u8 d)) (hd:tV d) (hn:n≤1000000000):
  Calls Tryz.prog 150 #[.int .i64 tag,.agg #[.int .i64 y,.int .i64 k,.slice a n c],.int .i64 o] w fun e w'=>∃x0 x1 x2 x3,e= .returned (.tuple #[.agg #[.int .i64 x0,.int .i64 x1,.int .i64 x2,.int .i64 x3],.bool (a9I tag (lT (tag,y,k,d) o) o)])∧Below w.heap.size w w'∧
   (a9I tag (lT (tag,y,k,d) o) o=true→x0=tag∧x1=y∧x2=k∧x3=yN (A9 (lT (tag,y,k,d) o)) 0 4 o):=by
 obtain⟨W1,pR,b0,b1,jY,s1⟩:=nM w 72 #[.int .i64 y,.int .i64 k,.slice a n c] 55 #[.int .i64 0,.int .i64 0,.int .i64 0,.int .i64 0];have hB:=a2R tag y k a n c d o W1 (hs.mono jY) hd hn;have rU:tV (lT (tag,y,k,d) o):=a2S hd;obtain⟨E,hE⟩:=aC (a9I tag (lT (tag,y,k,d) o) o);rw[hE];unfold a9I at hE;generalize lT (tag,y,k,d) o=b at*;rw[←pR]at hB;obtain⟨pX,UB,b0',b1',kR,y8,hB',wJ⟩:=aP hs hd b0 b1 jY pR hB rU;have JA:=aA hE;clear hs hd b0 b1 jY pR hB rU hE;go_enter Tryz.func150,Tryz.ntmps150;go_wp2_with fail
 refine hB'.o.mono ?_;rw[y8.o];rintro e w2 ⟨a2,m,rfl,vS,jT⟩;have vF:b.length=m:=(Sl.jU vS).1.nU;have U8:=(Sl.jU vS).1.max;have b02:=b0'.o.late jT;have b12:=b1'.o.late jT;have lJ:=kR.o.tm jT;have hP:=fun W=>KV tag 2 o W;obtain⟨pk,AU⟩:∃b,lZ tag 2 o=b:=⟨_,rfl⟩;simp only[AU]at hP;rw[AU,vF]at JA;obtain⟨aQW,aQX,lG,Q6,mE,Q0,a6Z,tL⟩:=aP b02 b12 lJ vS jT hP AU vF;clear b02 b12 lJ vS jT hP AU vF;go_wp2_with fail
 refine(Q0.o _).mono ?_;rintro e w3 ⟨a3,m3,c3,rfl,PZ,jQ⟩;have b03:=aQW.o.late jQ;have b13:=aQX.o.late jQ;have sD:=lG.o.tm jQ;have a6L:=kC Q6.o jQ;have v0:=b03.cell (i:=0) rfl;have v1:=b03.cell (i:=1) rfl;have p0:=b13.cell (i:=0) rfl;have p1:=b13.cell (i:=1) rfl;have p2:=b13.cell (i:=2) rfl;have p3:=b13.cell (i:=3) rfl;have y0:=b13.frozen 0;have y1:=b13.frozen 1;have y2:=b13.frozen 2;have y3:=b13.frozen 3;have bN:=(((b13.set 0 (.int .i64 0)).set 1 (.int .i64 0)).set 2 (.int .i64 0)).set 3 (.int .i64 0);have hbN:=(((sD.setCell (p:=⟨w.heap.size+1,0,none⟩) (by show w.heap.size≤w.heap.size+1;omega) (.int .i64 0)).setCell (p:=⟨w.heap.size+1,1,none⟩) (by show w.heap.size≤w.heap.size+1;omega) (.int .i64 0)).setCell (p:=⟨w.heap.size+1,2,none⟩) (by show w.heap.size≤w.heap.size+1;omega) (.int .i64 0)).setCell (p:=⟨w.heap.size+1,3,none⟩) (by show w.heap.size≤w.heap.size+1;omega) (.int .i64 0);cases pk with
 |false=>
  obtain rfl:E=false:=JA.o.symm;obtain⟨aGL,aGM,nX,aRR,qN,NA⟩:=aN b03 b13 sD a6L jQ PZ;clear b03 b13 sD a6L jQ PZ;go_wp2_with fail
  refine bodyPost_ret (mK rfl _ _ (w.heap.size+1) 55 #[.int .i64 0,.int .i64 0,.int .i64 0,.int .i64 0] _ rfl bN Tryz.underlying55 rfl aF) rfl ?_;exact⟨0,0,0,0,rfl,hbN,fun h=>by cases h⟩
 |true=>
 by_cases ZM:m=0
 ·have d1:((m:Int)==0)=true:=by simp[ZM]
  have d2:(m==0)=true:=by simp[ZM]
  obtain rfl:E=false:=by rw[←JA.o,ZM];rfl
  clear ZM;obtain⟨aGL,aGM,nX,aRR,qN,NA⟩:=aN b03 b13 sD a6L jQ PZ;clear b03 b13 sD a6L jQ PZ;go_wp2_with fail
  refine bodyPost_ret (mK rfl _ _ (w.heap.size+1) 55 #[.int .i64 0,.int .i64 0,.int .i64 0,.int .i64 0] _ rfl bN Tryz.underlying55 rfl aF) rfl ?_;exact⟨0,0,0,0,rfl,hbN,fun h=>by cases h⟩
 have d1:((m:Int)==0)=false:=by simp;omega
 have d2:(m==0)=false:=by simp[ZM]
 by_cases J3:4<m
 ·have d3:decide ((4:Int)<(m:Int))=true:=by simp;omega
  have d4:decide (4<m)=true:=by simp;omega
  obtain rfl:E=false:=by rw[←JA.o,decide_eq_false (show ¬m≤4 by omega)];simp
  obtain⟨aGL,aGM,nX,aRR,qN,NA⟩:=aN b03 b13 sD a6L jQ PZ;clear b03 b13 sD a6L jQ PZ;go_wp2_with fail
  refine bodyPost_ret (mK rfl _ _ (w.heap.size+1) 55 #[.int .i64 0,.int .i64 0,.int .i64 0,.int .i64 0] _ rfl bN Tryz.underlying55 rfl aF) rfl ?_;exact⟨0,0,0,0,rfl,hbN,fun h=>by cases h⟩
 have d3:decide ((4:Int)<(m:Int))=false:=by simp;omega
 have d4:decide (4<m)=false:=by simp;omega
 obtain rfl:E=true:=by rw[←JA.o,decide_eq_true (show m≠0 by omega),decide_eq_true (show m≤4 by omega)];rfl
 obtain⟨k4,hk4⟩:∃k4,m+k4=4:=⟨4 - m,by omega⟩;have hwk:IntKind.i64.wrap (4 - (m:Int))=(k4:Int):=by rw[bF];omega
 clear bN hbN;obtain⟨a5,c5,w5,hr5,hs5,nZ⟩:∃a' c' w',(Builtin.append_ #[24,3] 24 #[.slice a2 m m,.int .i64 (k4:Int)]).run Tryz.prog w3= .ok (.slice a' 4 c') w'∧Sl w' a' 4 c' 1 (ints .u8 (A9 b))∧Below w3.heap.size w3 w':=by
  rcases fT k4 with h0|h0
  ·subst h0;obtain rfl:m=4:=by omega
   refine⟨a2,4,w3,?_,by rw[aNC tL.o];exact(Sl.jU a6L).1,aY _ _⟩;obtain⟨i0,hi,sN,oG,qK⟩:=info_parts a7R;have hw0:IntKind.i64.wrap (0:Int)=0:=by decide
   simp[Builtin.append_,run_underlying (P:=Tryz.prog) Tryz.underlying24,run_underlying (P:=Tryz.prog) Tryz.underlying3,sizeOf,typeInfo,zeroValue,hi,sN,asInt,asIntOf,hw0];cases a2 <;> simp[storeCells]
  ·exact aNB w3 a2 m k4 b _ _ a6L aG h0 hk4
 have hG:=aYA a5 4 c5 (A9 b) 0 4 o w5 hs5 (aKE wJ.o);have b05:=b03.late nZ;have b15:=b13.late nZ;have wN:=sD.tm nZ;obtain⟨gv,hgv⟩:∃v,yN (A9 b) 0 4 o=v:=⟨_,rfl⟩;rw[hgv]at hG;clear v0 v1 p0 p1 p2 p3 y0 y1 y2 y3;obtain⟨aGL,aGM,nX,aRR,qN,NA,hG',bOA,bOB,nN,aRS,xJ⟩:=aT b03 b13 sD a6L jQ PZ hG b05 b15 wN hs5 nZ;have b6I:=aA hgv;clear b03 b13 sD a6L jQ PZ hG b05 b15 wN hs5 nZ hgv;go_wp2_with (at_builtin;refine Lib.wpList_append_run w3 rfl _ _ _ _ rfl _ _ rfl rfl _ _ hr5 ?_)
 refine hG'.o.mono ?_;rintro e w6 ⟨rfl,wQ⟩;have b06:=bOA.o.late wQ;have b16:=bOB.o.late wQ;have Q8:=nN.o.tm wQ;have v0:=b06.cell (i:=0) rfl;have v1:=b06.cell (i:=1) rfl;have p0:=b16.cell (i:=0) rfl;have p1:=b16.cell (i:=1) rfl;have p2:=b16.cell (i:=2) rfl;have p3:=b16.cell (i:=3) rfl;have y0:=b16.frozen 0;have y1:=b16.frozen 1;have y2:=b16.frozen 2;have y3:=b16.frozen 3;have bN:=(((b16.set 0 (.int .i64 tag)).set 1 (.int .i64 y)).set 2 (.int .i64 k)).set 3 (.int .i64 gv);have hbN:=(((Q8.setCell (p:=⟨w.heap.size+1,0,none⟩) (by show w.heap.size≤w.heap.size+1;omega) (.int .i64 tag)).setCell (p:=⟨w.heap.size+1,1,none⟩) (by show w.heap.size≤w.heap.size+1;omega) (.int .i64 y)).setCell (p:=⟨w.heap.size+1,2,none⟩) (by show w.heap.size≤w.heap.size+1;omega) (.int .i64 k)).setCell (p:=⟨w.heap.size+1,3,none⟩) (by show w.heap.size≤w.heap.size+1;omega) (.int .i64 gv);obtain⟨aYN,a6M,AO,CB⟩:=aL b06 b16 Q8 wQ;clear b06 b16 Q8 wQ;go_wp2_with fail
 refine bodyPost_ret (mK rfl _ _ (w.heap.size+1) 55 #[.int .i64 tag,.int .i64 y,.int .i64 k,.int .i64 gv] _ rfl bN Tryz.underlying55 rfl aF) rfl ?_;exact⟨tag,y,k,gv,rfl,hbN,rfl,rfl,rfl,b6I.o.symm⟩
theorem P7.ne_of {K:Wc} {w:World} {no:Int} {P:List Int} (h:P7 K w no P):K.gw<w.heap.size∧K.gb<w.heap.size:=⟨h.blk.lt,Row.lt h.row⟩
theorem EH (K:Wc) (w:World) (no:Int) (P:List Int) (h:P7 K w no P) (q:Nat) (v s:Int) (D5:lZ v s K.o=true) (IY:1≤(kZ v s K.o).length) (hq:q+(kZ v s K.o).length≤K.n):
  Calls Tryz.prog 42 #[.pointer (some ⟨K.gw,0,none⟩),.int .i64 q,.int .i64 v,.int .i64 s] w fun e w'=>e= .returned (.tuple #[])∧P7 K w' no (splice P q (kZ v s K.o))∧Mv K.gw K.gb tZ tZ w w':=by
 have hP:=fun W=>KV v s K.o W;have c1:=h.blk.cell (i:=1) rfl;obtain⟨MG,rU⟩:∃b,kZ v s K.o=b:=⟨_,rfl⟩;rw[rU]at IY hq ⊢;simp only[rU,D5]at hP;obtain⟨h',Q0,wJ⟩:=aK h hP rU;clear h hP rU;go_enter Tryz.func42,Tryz.ntmps42;go_wp2_with fail
 refine(Q0.o _).mono ?_;rintro e w2 ⟨a,m,c,rfl,vS,jT⟩;have h2:=h'.o.later jT;have vF:MG.length=m:=(Sl.jU vS).1.nU;rw[vF]at IY hq;clear c1;have c0:=h2.blk.cell (i:=0) rfl;have aXJ:=fun W=>a2L (P:=Tryz.prog) (T:=24) (E:=5) Tryz.underlying24 a2M K.gb K.n q aG W;obtain⟨w3,hr3,h3,hm3,_⟩:=JU h2 a m c MG (Sl.jU vS).1 q IY hq 3;have hmv:=(Mv.of_below (g:=K.gw) (gt:=K.gb) (sv:=tZ) jT).trans hm3;obtain⟨Q6,mE,h2',tL,h3',a9A,bOC⟩:=aO vS jT h2 vF h3 hm3 hmv;clear vS jT h2 vF h3 hm3 hmv;go_wp2_with (at_builtin;refine wpList_copy_run _ rfl _ _ _ _ rfl _ _ rfl rfl hr3 ?_)
 go_end0
 exact⟨rfl,h3'.o,bOC.o⟩
