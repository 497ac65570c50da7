import Derived.Test.YtceclmpmpldmlaaGreatCz24
import Derived.Deep.RegionWith
import Derived.Test.YtceclmpmpldmlaaGreatCz22
set_option linter.unusedSimpArgs false
set_option linter.unusedVariables false
set_option maxRecDepth 100000
set_option maxHeartbeats 8000000
namespace Go.Proofs.YtceclmpmpldmlaaGreat
open Go.RowKit Tt
attribute [-go_sem] run_eql_struct
def b6I:List (Int×Int):= [(0,34665),(0,34853),(1,513),(1,514),(2,37500),(2,40965),(5,45057),(5,45058)]
def QZ (d t:Int):Bool:=b6I.contains (d,t)
def K9 (ps:List (Int×Int)):List Value:=ps.flatMap fun p=> [.int .i64 p.1,.int .i64 p.2]
theorem ZI:∀(ps:List (Int×Int)) (i:Nat),i<ps.length→(K9 ps)[i*2]? =some (.int .i64 (ps.getD i (0,0)).1)∧(K9 ps)[i*2+1]? =some (.int .i64 (ps.getD i (0,0)).2)
 | [],i,h=>by simp at h
 |p::r,0,_=>by simp[K9]
 |p::r,i+1,h=>by
  have:=ZI r i (by simpa using h);rw[show(i+1)*2=i*2+1+1 by omega];simpa [K9] using this
theorem aXJ (a:Option Addr) (n c:Nat) (ps:List (Int×Int)) (d t:Int) (w:World) (hs:Sl w a n c 2 (K9 ps)) (hl:ps.length=n):
  Calls Tryz.prog 263 #[.slice a n c,SG d t] w fun e w'=>∃k:Int,e= .returned (.int .i64 k)∧(0≤k↔(d,t)∈ps)∧Below w.heap.size w w':=by
 have hm:=hs.max;have hle:=hs.le;have hEq:=aQ4;unfold SG at hEq ⊢;obtain⟨Hs,Hl⟩:=aF hs hl;clear hs hl;go_enter Tryz.func263,Tryz.ntmps263;go_wp2;obtain⟨g,hg⟩:∃g,g=w.heap.size:=⟨_,rfl⟩;obtain⟨w1,hw1⟩:∃w1,w1=w.alloc (.cells #[.int .i64 d,.int .i64 t] 261):=⟨_,rfl⟩;have hs1:Hid (Sl w1 a n c 2 (K9 ps)):=aA (by rw[hw1];exact wM Hs.o _);have hb1:Hid (Below w.heap.size w w1):=aA (by rw[hw1];exact(aW _ _).alloc (aU _) _);have bx0:w1.cell? ⟨g,0,none⟩=some (.int .i64 d):=by rw[hw1,hg];unfold World.cell?;rw[mF];rfl
 have bx1:w1.cell? ⟨g,1,none⟩=some (.int .i64 t):=by rw[hw1,hg];unfold World.cell?;rw[mF];rfl
 rw[←hw1,←hg];have HG:=aA hg;clear hw1 hg Hs;go_loopw [8] (fun i wr=>∃k:Nat,k≤n∧i= .int .i64 k∧Hid (∀j,j<k→ps.getD j (0,0)≠(d,t))∧Qt w1 wr) (fun i _=>n - (intOf i).toNat)
 case atStart=>exact⟨0,by omega,rfl,aA (fun j hj=>by omega),Qt.refl _⟩
 case round=>
  obtain⟨k,hk,rfl,hno,hq⟩:=hrel;by_cases hlt:k<n
  ·obtain⟨b,off,rfl,hbx,hc⟩:=hs1.o.at hlt;obtain⟨g1,g2⟩:=ZI ps k (by rw[Hl.o];exact hlt);have f1:=hc _ _ g1;have f2:=hc _ _ g2;obtain⟨m,rfl⟩:=hq.ex;obtain⟨pd,pt,hpe⟩:∃pd pt,ps.getD k (0,0)=(pd,pt):=⟨_,_,rfl⟩;rw[hpe]at f1 f2;have Hpe:=aA hpe;clear hc g1 g2 hpe;rw[show off+(k*2+1)=off+k*2+1 by omega]at f2;cases hcmp:(d==pd&&t==pt)
   ·go_wp2_with fail
    go_quiet (fail)
    go_wp2;go_roundw
    case rel=>
     refine⟨k+1,by omega,by go_num,aA (fun j hj=>?_),⟨_,rfl⟩⟩;rcases eH j k with h|h
     ·exact hno.o j h
     ·obtain rfl:j=k:=by omega
      rw[Hpe.o];intro he;injection he with h1 h2;rw[h1,h2]at hcmp
      simp at hcmp
    case measure=>simp[intOf];omega
   ·go_wp2_with fail
    go_quiet (fail)
    go_wp2;go_ret;refine⟨k,rfl,⟨fun _=>?_,fun _=>by omega⟩,?_⟩
    ·simp at hcmp;have:ps.getD k (0,0)∈ps:=by
      rw[aV,aX (by rw[Hl.o];exact hlt)];exact bL _
     rw[Hpe.o,←hcmp.1,←hcmp.2]at this;exact this
    ·exact hb1.o.trans ((hq.step _).below _)
  ·go_wp2;go_ret;refine⟨-1,rfl,⟨fun h=>by omega,fun h=>?_⟩,hb1.o.trans (hq.below _)⟩;exfalso
   obtain⟨i,hi,he⟩:=gV.1 h;refine hno.o i (by rw[Hl.o]at hi;omega) ?_;rw[aV,aX hi];exact he
theorem a6E (a:Option Addr) (n c:Nat) (ps:List (Int×Int)) (d t:Int) (w:World) (hs:Sl w a n c 2 (K9 ps)) (hl:ps.length=n):
  Calls Tryz.prog 245 #[.slice a n c,SG d t] w fun e w'=>e= .returned (.bool (ps.contains (d,t)))∧Below w.heap.size w w':=by
 have hi:=fun W h=>aXJ a n c ps d t W h hl;unfold SG at hi ⊢;obtain⟨r,hr⟩:=aC (ps.contains (d,t));rw[hr];have Hr:=aA hr;clear hr;go_enter Tryz.func245,Tryz.ntmps245;go_wp2_with fail
 refine(hi _ (wM hs _)).mono ?_;rintro e w2 ⟨k,rfl,hk,hb⟩;have hb2:=(aD w (.cells #[.int .i64 d,.int .i64 t] 261)).trans (hb.mono (by simp));clear hb hi;have hkr:decide (0≤k)=r:=by
  rw[←Hr.o];rw[eP,decide_eq_true_iff,List.contains_iff_mem];exact hk
 clear hk;go_wp2;go_ret;exact⟨BK rfl,hb2⟩
theorem a6F (d t:Int) (w:World):
  Calls Tryz.prog 197 #[.int .i64 d,.int .i64 t] w fun e w'=>e= .returned (.bool (QZ d t))∧Below w.heap.size w w':=by
 have hc:∀W:World,Sl W (some ⟨w.heap.size,0,none⟩) 8 8 2 (K9 b6I)→Calls Tryz.prog 245 #[.slice (some ⟨w.heap.size,0,none⟩) 8 8,.agg #[.int .i64 d,.int .i64 t]] W fun e w'=>e= .returned (.bool (QZ d t))∧Below W.heap.size W w':=fun W h=>a6E (some ⟨w.heap.size,0,none⟩) 8 8 b6I d t W h rfl;generalize QZ d t=r at*;go_enter Tryz.func197,Tryz.ntmps197;go_wp2_with fail
 refine(hc _ (Sl.new w 261 2 8 _ (0,0) (by decide) rfl)).mono ?_;rintro e w2 ⟨rfl,hb⟩;have hb2:=(aD w _).trans (hb.mono (by simp));clear hb hc;go_wp2;go_ret;exact⟨rfl,hb2⟩
end Go.Proofs.YtceclmpmpldmlaaGreat
namespace Go.Proofs.YtceclmpmpldmlaaGreat
open Go.RowKit Tt
theorem aQ5 (a:Option Addr) (n c:Nat) (l:List Int) (x:Int) (w:World) (hs:Sl w a n c 1 (ints .i64 l)):
  Calls Tryz.prog 246 #[.slice a n c,.int .i64 x] w fun e w'=>∃k:Int,e= .returned (.int .i64 k)∧(0≤k↔x∈l)∧w=w':=by
 have hl:=hs.nV;have hm:=hs.max;have hle:=hs.le;have Hl:=aA hl;clear hl;go_enter Tryz.func246,Tryz.ntmps246;go_wp2;go_loopw [8] (fun i wr=>∃k:Nat,k≤n∧i= .int .i64 k∧Hid (∀j,j<k→l.getD j 0≠x)∧Hid (wr=w)) (fun i _=>n - (intOf i).toNat)
 case atStart=>exact⟨0,by omega,rfl,aA (fun j hj=>by omega),aA rfl⟩
 case round=>
  obtain⟨k,hk,rfl,hno,hw⟩:=hrel;obtain rfl:=hw.o.symm;clear hw;by_cases hlt:k<n
  ·obtain⟨b,off,rfl,hbx,hc⟩:=hs.at hlt;have f1:=hc k _ (oW (by rw[Hl.o];exact hlt));clear hc;obtain⟨y,hy⟩:=aC (l.getD k 0);rw[hy]at f1;have Hy:=aA hy;clear hy;cases hcmp:(x==y)
   ·go_wp2;go_roundw
    case rel=>
     refine⟨k+1,by omega,by go_num,aA (fun j hj=>?_),aA trivial⟩;rcases eH j k with h|h
     ·exact hno.o j h
     ·obtain rfl:j=k:=by omega
      rw[Hy.o];intro he;rw[he]at hcmp;simp at hcmp
    case measure=>simp[intOf];omega
   ·go_wp2;go_ret;refine⟨k,rfl,⟨fun _=>?_,fun _=>by omega⟩,rfl⟩;simp at hcmp;have:l.getD k 0∈l:=by
     rw[aV,aX (by rw[Hl.o];exact hlt)];exact bL _
    rw[Hy.o,←hcmp]at this;exact this
  ·go_wp2;go_ret;refine⟨-1,rfl,⟨fun h=>by omega,fun h=>?_⟩,rfl⟩;exfalso
   obtain⟨i,hi,he⟩:=gV.1 h;refine hno.o i (by rw[Hl.o]at hi;omega) ?_;rw[aV,aX hi];exact he
theorem aQ6 (a:Option Addr) (n c:Nat) (l:List Int) (x:Int) (w:World) (hs:Sl w a n c 1 (ints .i64 l)):
  Calls Tryz.prog 198 #[.slice a n c,.int .i64 x] w fun e w'=>e= .returned (.bool (l.contains x))∧w=w':=by
 have hi:=aQ5 a n c l x w hs;obtain⟨r,hr⟩:=aC (l.contains x);rw[hr];have Hr:=aA hr;clear hr;go_enter Tryz.func198,Tryz.ntmps198;go_wp2_with fail
 refine hi.mono ?_;rintro e w2 ⟨k,rfl,hk,rfl⟩;have hkr:decide (0≤k)=r:=by
  rw[←Hr.o,eP,decide_eq_true_iff,List.contains_iff_mem];exact hk
 clear hk hi;go_wp2;go_ret;exact⟨BK rfl,rfl⟩
def FH (dir tag ty cnt:Int) (d:List Int):Bool:=
 decide (0≤dir)&&decide (dir≤5)&&decide (0≤tag)&&decide (tag≤65535)&& !QZ dir tag&&rM ty cnt d&&
  (decide ((xB dir tag).2<0)||((xB dir tag).1.contains ty&&((xB dir tag).2==0||(xB dir tag).2==cnt)))
theorem M7 {dir tag ty cnt:Int} {d:List Int} (h:dir<0∨5<dir∨tag<0∨65535<tag∨QZ dir tag=true∨rM ty cnt d=false):FH dir tag ty cnt d=false:=by
 unfold FH;rcases h with h|h|h|h|h|h
 ·rw[decide_eq_false (show ¬0≤dir by omega)];simp
 ·rw[decide_eq_false (show ¬dir≤5 by omega)];simp
 ·rw[decide_eq_false (show ¬0≤tag by omega)];simp
 ·rw[decide_eq_false (show ¬tag≤65535 by omega)];simp
 ·rw[h];simp
 ·rw[h];simp
theorem aL9 {dir tag ty cnt:Int} {d:List Int} (h1:¬dir<0) (h2:¬5<dir) (h3:¬tag<0) (h4:¬65535<tag) (h5:QZ dir tag=false) (h6:rM ty cnt d=true):
  FH dir tag ty cnt d=(decide ((xB dir tag).2<0)||((xB dir tag).1.contains ty&&((xB dir tag).2==0||(xB dir tag).2==cnt))):=by
 unfold FH;rw[decide_eq_true (show 0≤dir by omega),decide_eq_true (show dir≤5 by omega),decide_eq_true (show 0≤tag by omega),decide_eq_true (show tag≤65535 by omega),h5,h6];simp
structure KA (w:World) (g:Nat) (tag ty cnt:Int) (a:Option Addr) (n c:Nat):Prop where
 c0:w.cell? ⟨g,0,none⟩=some (.int .i64 tag)
 c1:w.cell? ⟨g,1,none⟩=some (.int .i64 ty)
 c2:w.cell? ⟨g,2,none⟩=some (.int .i64 cnt)
 c3:w.cell? ⟨g,3,none⟩=some (.slice a n c)
 lt:g<w.heap.size
theorem KA.new (w:World) (tag ty cnt:Int) (a:Option Addr) (n c:Nat) (E:TypeId):KA (w.alloc (.cells #[.int .i64 tag,.int .i64 ty,.int .i64 cnt,.slice a n c] E)) w.heap.size tag ty cnt a n c:=by
 have h:=mF w (.cells #[.int .i64 tag,.int .i64 ty,.int .i64 cnt,.slice a n c] E);refine⟨?_,?_,?_,?_,by simp⟩ <;> (unfold World.cell?;rw[h];rfl)
theorem KA.mono {w w':World} {g:Nat} {tag ty cnt:Int} {a:Option Addr} {n c:Nat} (h:KA w g tag ty cnt a n c) (hb:Below w.heap.size w w'):KA w' g tag ty cnt a n c:=
 ⟨(hb.cell (p:=⟨g,0,none⟩) h.lt).trans h.c0,(hb.cell (p:=⟨g,1,none⟩) h.lt).trans h.c1,(hb.cell (p:=⟨g,2,none⟩) h.lt).trans h.c2,(hb.cell (p:=⟨g,3,none⟩) h.lt).trans h.c3,cO h.lt hb.size⟩
theorem aQ7 (b:Nat) (dir tag ty cnt:Int) (a:Option Addr) (n c:Nat) (d:List Int) (w:World) (hr:Rules w b MR) (hs:Sl w a n c 1 (ints .u8 d)) (bd:mW d)
  (hd:(Lit.int .i64 dir).wf=true) (ht:(Lit.int .i64 tag).wf=true):
  Calls Tryz.prog 133 #[.map (some b),.int .i64 dir,.agg #[.int .i64 tag,.int .i64 ty,.int .i64 cnt,.slice a n c]] w fun e w'=>e= .returned (.bool (FH dir tag ty cnt d))∧Below w.heap.size w w':=by
 obtain⟨m,hm⟩:=aC (FH dir tag ty cnt d);rw[hm];obtain⟨Hm,Hd,Ht,Bd⟩:=aH hm hd ht bd;obtain⟨w1,hw1⟩:∃w1,w1=w.alloc (.cells #[.int .i64 tag,.int .i64 ty,.int .i64 cnt,.slice a n c] 74):=⟨_,rfl⟩;have hb1:Below w.heap.size w w1:=by rw[hw1];exact(aW _ _).alloc (aU _) _
 obtain⟨Hs1,Hr1⟩:=aF (hs.mono hb1) (hr.mono hb1);obtain⟨g,hg⟩:∃g,g=w.heap.size:=⟨_,rfl⟩;have ht1:KA w1 g tag ty cnt a n c:=by rw[hg,hw1];exact KA.new ..
 obtain⟨c0,c1,c2,c3,hlt⟩:=ht1;have HT1:Hid (KA w1 g tag ty cnt a n c):=aA ⟨c0,c1,c2,c3,hlt⟩;have HB:=aA hb1;clear hm hd ht bd hr hs hb1;go_enter Tryz.func133,Tryz.ntmps133;by_cases t1:dir<0
 ·obtain rfl:m=false:=by rw[←Hm.o];exact M7 (.inl t1)
  go_wp2;go_ret;exact⟨rfl,(aW _ _).alloc (aU _) _⟩
 have f1:decide (dir<0)=false:=by simp;omega
 by_cases t2:5<dir
 ·obtain rfl:m=false:=by rw[←Hm.o];exact M7 (.inr (.inl t2))
  go_wp2;go_ret;exact⟨rfl,(aW _ _).alloc (aU _) _⟩
 have f2:decide (6≤dir)=false:=by simp;omega
 by_cases t3:tag<0
 ·obtain rfl:m=false:=by rw[←Hm.o];exact M7 (.inr (.inr (.inl t3)))
  go_wp2;go_ret;exact⟨rfl,(aW _ _).alloc (aU _) _⟩
 have f3:decide (tag<0)=false:=by simp;omega
 by_cases t4:65535<tag
 ·obtain rfl:m=false:=by rw[←Hm.o];exact M7 (.inr (.inr (.inr (.inl t4))))
  go_wp2;go_ret;exact⟨rfl,(aW _ _).alloc (aU _) _⟩
 have f4:decide (65535<tag)=false:=by simp;omega
 go_wp2_with fail
 rw[←hw1,←hg];have HG:=aA hg;clear hw1 hg;refine(a6F dir tag w1).mono ?_;rintro e w2 ⟨rfl,hb2⟩;have HB2:=aA (HB.o.tm hb2);obtain⟨c0,c1,c2,c3,hlt⟩:=HT1.o.mono hb2;have HT2:Hid (KA w2 g tag ty cnt a n c):=aA ⟨c0,c1,c2,c3,hlt⟩;obtain⟨Hs2,Hr2⟩:=aF (Hs1.o.mono hb2) (Hr1.o.mono hb2);clear hb2 HT1 Hs1 Hr1;cases hres:QZ dir tag
 case true=>
  obtain rfl:m=false:=by rw[←Hm.o];exact M7 (.inr (.inr (.inr (.inr (.inl hres)))))
  clear hres;go_wp2;go_ret;exact⟨rfl,HB2.o⟩
 have bNC:=aA hres;clear hres;go_wp2_with fail
 refine(LM ty cnt a n c d w2 Hs2.o Bd.o).mono ?_;rintro e w3 ⟨rfl,hb3⟩;have HB3:=aA (HB2.o.tm hb3);obtain⟨c0,c1,c2,c3,hlt⟩:=HT2.o.mono hb3;have Hr3:=aA (Hr2.o.mono hb3);clear hb3 HT2 Hs2 Hr2 HB2 HB;cases hmay:rM ty cnt d
 case false=>
  obtain rfl:m=false:=by rw[←Hm.o];exact M7 (.inr (.inr (.inr (.inr (.inr hmay)))))
  clear hmay;go_wp2;go_ret;exact⟨rfl,HB3.o⟩
 have hme:=aL9 (d:=d) (by omega) (by omega) (by omega) (by omega) bNC.o hmay;rw[Hm.o]at hme;clear hmay t1 t2 t3 t4;by_cases hex:∃x∈MR,x.1=(dir,tag)
 ·have Hex:=aA hex;clear hex;have Hme:=aA hme;clear hme;go_wp2_with (at_lookup;refine WI rfl (.tmp 38) (.tmp 42) rfl b MR dir tag rfl rfl Hr3.o Hd.o Ht.o Hex.o ?_;intro x hx he a1 n1 c1' hs1)
  have hk:=aF4 x hx;have hnn:=(a6D x hx).1;rw[he]at hk;simp only at hk;clear hx he Hex;obtain⟨⟨xd,xt⟩,xl,xc⟩:=x;simp only at hs1 hnn hk;have aXK:=Hme.o;rw[hk,decide_eq_false (show ¬xc<0 by omega),Bool.false_or]at aXK;have b4O:=wM hs1 (.cells #[.slice a1 n1 c1',.int .i64 xc] 258);clear hs1 hk Hme;have hcc:=aQ6 a1 n1 c1' xl ty _ b4O;obtain⟨r,hrr⟩:=aC (xl.contains ty);rw[hrr]at aXK hcc;have b6J:=aA aXK;clear aXK hrr b4O;go_wp2_with fail
  refine hcc.mono ?_;rintro e w4 ⟨rfl,rfl⟩;have hE:=HB3.o.alloc HB3.o.size (.cells #[.slice a1 n1 c1',.int .i64 xc] 258);cases r
  ·obtain rfl:m=false:=by rw[b6J.o];rfl
   go_wp2;go_ret;exact⟨rfl,hE⟩
  ·by_cases t5:xc=0
   ·have g1:(xc==0)=true:=by simp[t5]
    obtain rfl:m=true:=by rw[b6J.o,g1];rfl
    go_wp2;go_ret;exact⟨rfl,HB3.o.alloc HB3.o.size _⟩
   ·have g1:(xc==0)=false:=by simp[t5]
    obtain rfl:m=(xc==cnt):=by rw[b6J.o,g1];simp
    go_wp2;go_ret;exact⟨rfl,hE⟩
 ·have hno:∀x∈MR,x.1≠(dir,tag):=fun x hx he=>hex ⟨x,hx,he⟩;have hkn:=aL8 hno;rw[hkn]at hme;obtain rfl:m=true:=by rw[hme];rfl
  have Hno:=aA hno;clear hno hex hkn hme;go_wp2_with (at_lookup;refine ZH rfl (.tmp 38) (.tmp 42) rfl b MR dir tag rfl rfl Hr3.o Hd.o Ht.o Hno.o ?_)
  go_ret;exact⟨rfl,HB3.o.alloc HB3.o.size _⟩
abbrev Tg:=Int×Int×Int×List Int
structure Ts (w:World) (a:Option Addr) (n cap:Nat) (ts:List Tg):Prop where
 vs:∃vs:List Value,Sl w a n cap 4 vs∧∀i,i<n→∃a' n' c',vs[i*4]? =some (.int .i64 (ts.getD i (0,0,0, [])).1)∧vs[i*4+1]? =some (.int .i64 (ts.getD i (0,0,0, [])).2.1)∧vs[i*4+2]? =some (.int .i64 (ts.getD i (0,0,0, [])).2.2.1)∧
  vs[i*4+3]? =some (.slice a' n' c')∧Sl w a' n' c' 1 (ints .u8 (ts.getD i (0,0,0, [])).2.2.2)
 len:ts.length=n
theorem Ts.mono {w w':World} {a:Option Addr} {n cap:Nat} {ts:List Tg} (h:Ts w a n cap ts) (hb:Below w.heap.size w w'):Ts w' a n cap ts:=by
 obtain⟨⟨vs,h1,h2⟩,h3⟩:=h;exact⟨⟨vs,h1.mono hb,fun i hi=>by obtain⟨a',n',c',e0,e1,e2,e3,hs⟩:=h2 i hi;exact⟨a',n',c',e0,e1,e2,e3,hs.mono hb⟩⟩,h3⟩
theorem Ts.max {w:World} {a:Option Addr} {n cap:Nat} {ts:List Tg} (h:Ts w a n cap ts):n≤9223372036854775807:=by
 obtain⟨⟨vs,h1,h2⟩,h3⟩:=h;exact bK h1.le h1.max
theorem Ts.at {w:World} {a:Option Addr} {n cap:Nat} {ts:List Tg} (h:Ts w a n cap ts) {k:Nat} (hk:k<n):
  ∃b o a' n' c',a=some ⟨b,o,none⟩∧b<w.heap.size∧w.cell? ⟨b,o+k*4,none⟩=some (.int .i64 (ts.getD k (0,0,0, [])).1)∧w.cell? ⟨b,o+k*4+1,none⟩=some (.int .i64 (ts.getD k (0,0,0, [])).2.1)∧
   w.cell? ⟨b,o+k*4+2,none⟩=some (.int .i64 (ts.getD k (0,0,0, [])).2.2.1)∧w.cell? ⟨b,o+k*4+3,none⟩=some (.slice a' n' c')∧Sl w a' n' c' 1 (ints .u8 (ts.getD k (0,0,0, [])).2.2.2):=by
 obtain⟨⟨vs,h1,h2⟩,h3⟩:=h;obtain⟨b,o,rfl,hb,hc⟩:=h1.at hk;obtain⟨a',n',c',e0,e1,e2,e3,hs⟩:=h2 k hk;exact⟨b,o,a',n',c',rfl,hb,hc _ _ e0,hc _ _ e1,hc _ _ e2,hc _ _ e3,hs⟩
def a1P (x:Tg):Prop:=(Lit.int .i64 x.1).wf=true∧mW x.2.2.2
def KC (dir:Int) (x:Tg):Bool:=FH dir x.1 x.2.1 x.2.2.1 x.2.2.2
abbrev uM:=(Int×Int×Int×Option Addr×Nat×Nat)×List Int
abbrev rA:uM:=((0,0,0,none,0,0), [])
def tag (z:uM):Tg:=(z.1.1,z.1.2.1,z.1.2.2.1,z.2)
def zcl (z:uM):List Value:= [.int .i64 z.1.1,.int .i64 z.1.2.1,.int .i64 z.1.2.2.1,.slice z.1.2.2.2.1 z.1.2.2.2.2.1 z.1.2.2.2.2.2]
def zc (zs:List uM):List Value:=zs.flatMap zcl
theorem xC (z:uM):(zcl z).length=4:=rfl
theorem xE (z:uM) (r:List uM):zc (z::r)=zcl z++zc r:=rfl
theorem a3D (x y:List uM):zc (x++y)=zc x++zc y:=by simp[zc]
theorem aF5:∀(zs:List uM),(zc zs).length=zs.length*4
 | []=>rfl
 |z::r=>by rw[xE,bO,aF5 r,xC,dF];omega
theorem a6G:∀(zs:List uM) (i:Nat),(zc zs).take (i*4)=zc (zs.take i)
 |zs,0=>by simp[zc]
 | [],i+1=>by simp[zc]
 |z::r,i+1=>by
  rw[xE,gX,xE,←a6G r i,List.take_append,xC,bP (by rw[xC];omega),show(i+1)*4 - 4=i*4 by omega]
theorem a6H:∀(zs:List uM) (i:Nat),(zc zs).drop (i*4)=zc (zs.drop i)
 |zs,0=>by simp
 | [],i+1=>by simp[zc]
 |z::r,i+1=>by
  rw[xE,List.drop_succ_cons,←a6H r i,List.drop_append,xC,gK (by rw[xC];omega),eG,show(i+1)*4 - 4=i*4 by omega]
theorem KD:∀{zs:List uM} {i j:Nat},i<zs.length→j<4→(zc zs)[i*4+j]? =(zcl (zs.getD i rA))[j]?
 |z::r,0,j,_,hj=>by rw[xE,fV (by rw[xC];omega),fJ,eX];rfl
 |z::r,i+1,j,hi,hj=>by
  rw[xE,iB (by rw[xC];omega),xC,show(i+1)*4+j - 4=i*4+j by omega,KD (by simpa using hi) hj];rfl
theorem TU:∀{zs:List uM} {i j:Nat} {v:Value} {z':uM},j<4→(zcl (zs.getD i rA)).set j v=zcl z'→(zc zs).set (i*4+j) v=zc (zs.set i z')
 | [],i,j,v,z',_,_=>rfl
 |z::r,0,j,v,z',hj,h=>by
  rw[xE,fJ,eX,List.set_append_left _ _ (by rw[xC];exact hj),List.set_cons_zero,xE,←h];rfl
 |z::r,i+1,j,v,z',hj,h=>by
  rw[xE,List.set_append_right _ _ (by rw[xC];omega),xC,show(i+1)*4+j - 4=i*4+j by omega,List.set_cons_succ,xE,TU hj (by simpa using h)]
theorem aF6 {zs:List uM}:∀u∈zc zs,u.oneCell'=true:=by
 intro u hu;obtain⟨z,_,hz⟩:=dK.1 hu;simp only[zcl,bQ,eD,or_false]at hz;rcases hz with rfl|rfl|rfl|rfl <;> rfl
def Rd (W:World) (z:uM):Prop:=Sl W z.1.2.2.2.1 z.1.2.2.2.2.1 z.1.2.2.2.2.2 1 (ints .u8 z.2)
def Ow (B:Nat) (W:World) (z:uM):Prop:=W.ownsRow B 5 1 (.slice z.1.2.2.2.1 z.1.2.2.2.2.1 z.1.2.2.2.2.2) z.1.2.2.2.2.1 (ints .u8 z.2)
theorem Ow.rd {B:Nat} {W:World} {z:uM} (h:Ow B W z):Rd W z:=(Sl.jX h).1
structure Tr (W:World) (a:Option Addr) (n c:Nat) (zs:List uM):Prop where
 row:Sl W a n c 4 (zc zs)
 each:∀z∈zs,Rd W z
theorem Tr.len {W:World} {a:Option Addr} {n c:Nat} {zs:List uM} (h:Tr W a n c zs):zs.length=n:=by
 have:=h.row.len;rw[aF5]at this;omega
theorem Tr.mono {W W':World} {a:Option Addr} {n c:Nat} {zs:List uM} (h:Tr W a n c zs) (hb:Below W.heap.size W W'):Tr W' a n c zs:=⟨h.row.mono hb,fun z hz=>(h.each z hz).mono hb⟩
theorem CJ {zs:List uM} {i:Nat} (hi:i<zs.length):zs.getD i rA∈zs:=by
 rw[aV,aX hi];exact bL _
theorem Tr.at {W:World} {a:Option Addr} {n c:Nat} {zs:List uM} (h:Tr W a n c zs) {k:Nat} (hk:k<n):
  ∃b o,a=some ⟨b,o,none⟩∧b<W.heap.size∧W.cell? ⟨b,o+k*4,none⟩=some (.int .i64 (zs.getD k rA).1.1)∧W.cell? ⟨b,o+k*4+1,none⟩=some (.int .i64 (zs.getD k rA).1.2.1)∧
   W.cell? ⟨b,o+k*4+2,none⟩=some (.int .i64 (zs.getD k rA).1.2.2.1)∧W.cell? ⟨b,o+k*4+3,none⟩=some (.slice (zs.getD k rA).1.2.2.2.1 (zs.getD k rA).1.2.2.2.2.1 (zs.getD k rA).1.2.2.2.2.2)∧Rd W (zs.getD k rA):=by
 have hl:=h.len;obtain⟨b,o,rfl,hb,hc⟩:=h.row.at hk;have g:=fun j hj=>KD (zs:=zs) (i:=k) (j:=j) (by omega) hj;exact⟨b,o,rfl,hb,hc (k*4+0) _ (g 0 (by omega)),hc _ _ (g 1 (by omega)),hc _ _ (g 2 (by omega)),hc _ _ (g 3 (by omega)),h.each _ (CJ (by omega))⟩
theorem Tr.ts {W:World} {a:Option Addr} {n c:Nat} {zs:List uM} (h:Tr W a n c zs):Ts W a n c (zs.map tag):=by
 have hl:=h.len;refine⟨⟨zc zs,h.row,fun i hi=>?_⟩,by simp[hl]⟩;have g:=fun j hj=>KD (zs:=zs) (i:=i) (j:=j) (by omega) hj;have hg:(zs.map tag).getD i (0,0,0, [])=tag (zs.getD i rA):=by
  rw[aV,List.getElem?_map,aX (by omega),aV,aX (by omega)];rfl
 rw[hg];exact⟨_,_,_,(by have h0:=g 0 (by omega);rwa [cK]at h0),g 1 (by omega),g 2 (by omega),g 3 (by omega),h.each _ (CJ (by omega))⟩
structure To (B:Nat) (W:World) (a:Option Addr) (n c:Nat) (zs:List uM):Prop where
 row:W.ownsRow B 74 4 (.slice a n c) n (zc zs)
 each:∀z∈zs,Ow B W z
theorem To.tr {B:Nat} {W:World} {a:Option Addr} {n c:Nat} {zs:List uM} (h:To B W a n c zs):Tr W a n c zs:=⟨(Sl.jX h.row).1,fun z hz=>(h.each z hz).rd⟩
theorem To.later {B:Nat} {W W':World} {a:Option Addr} {n c:Nat} {zs:List uM} (h:To B W a n c zs) (hb:Below W.heap.size W W'):To B W' a n c zs:=⟨jY h.row hb,fun z hz=>jY (h.each z hz) hb⟩
theorem Ow.grown {B B':Nat} {W W':World} {z:uM} (h:Ow B W z) {v:Value} {n:Nat} {xs:List Value} (hv:W.ownsRow B' 74 4 v n xs) (hg:W.grownBy W' v.ownBlock):Ow B W' z:=
 World.ownsRow.kept h hg (EL h hv (by decide))
theorem b6K:(Tryz.prog.info? 5).map (fun i=>(i.zero,i.size,i.bytes))=some (some (.int .u8 0),1,1):=by kernel_rfl
section
attribute [local go_sem] Lib.run_eql_slice_nil
theorem yY (a:Option Addr) (n c:Nat) (z:List Int) (w:World) (hs:Sl w a n c 1 (ints .u8 z)) (hl:n≤140737488355328):
  Calls Tryz.prog 61 #[.slice a n c] w fun e w'=>∃a' c',e= .returned (.slice a' n c')∧w'.ownsRow w.heap.size 5 1 (.slice a' n c') n (ints .u8 z)∧Below w.heap.size w w':=by
 obtain⟨i0,hi,hz0,hz1,hz2⟩:=info_parts b6K;cases a with
 |none=>
  have hc:=hs.fit rfl;subst hc;have hn:n=0:=by have:=hs.le;omega
  subst hn;have hp:z= []:=dP hs.nV;subst hp;clear hs;go_enter Tryz.func61,Tryz.ntmps61;go_wp2;go_ret;exact⟨_,_,rfl,kC _ _ _ _,aW _ _⟩
 |some ad=>
  have hs':=aA hs;clear hs;go_enter Tryz.func61,Tryz.ntmps61;go_wp2_with (at_builtin;refine o5 rfl _ _ 24 rfl w.heap.size 5 i0 _ 1 1 Tryz.underlying24 hi hz0 hz1 hz2 rfl (by decide) _ 0 [] rfl (WN w w.heap.size 5 1 0 #[] (aU _) (by unfold maxLen;omega) rfl) _ n c _ rfl (wM hs'.o _) sM (by omega) (by decide) (by simp) ?_;intro a5 c5 w2 ob hb2 hg2;rw[eX]at ob ⊢;rw[eG]at ob;clear hg2;obtain⟨Ob,Hb2⟩:=aF ob (((aW _ _).alloc (aU _) _).trans hb2);clear ob hb2)
  go_ret;exact⟨_,_,rfl,Ob.o,Hb2.o⟩
theorem ZJ (a:Option Addr) (n c:Nat) (zs:List uM) (w:World) (hs:Sl w a n c 4 (zc zs)) (hl:n≤1000000):
  Calls Tryz.prog 119 #[.slice a n c] w fun e w'=>∃a' c',e= .returned (.slice a' n c')∧w'.ownsRow w.heap.size 74 4 (.slice a' n c') n (zc zs)∧Below w.heap.size w w':=by
 obtain⟨i0,z0,hi,hz,hz1,hz2,hz3⟩:=K6;cases a with
 |none=>
  have hc:=hs.fit rfl;subst hc;have hn:n=0:=by have:=hs.le;omega
  subst hn;have hp:zs= []:=dP (by have:=hs.len;rw[aF5]at this;omega);subst hp;clear hs;go_enter Tryz.func119,Tryz.ntmps119;go_wp2;go_ret;exact⟨_,_,rfl,kC _ _ _ _,aW _ _⟩
 |some ad=>
  have hs':=aA hs;clear hs;go_enter Tryz.func119,Tryz.ntmps119;go_wp2_with (at_builtin;refine o5 rfl _ _ 22 rfl w.heap.size 74 i0 z0 4 48 Tryz.underlying22 hi hz hz1 hz2 hz3 (by decide) _ 0 [] rfl (WN w w.heap.size 74 4 0 #[] (aU _) (by unfold maxLen;omega) rfl) _ n c _ rfl (wM hs'.o _) aF6 (by omega) (by decide) (by simp) ?_;intro a5 c5 w2 ob hb2 hg2;rw[eX]at ob ⊢;rw[eG]at ob;clear hg2;obtain⟨Ob,Hb2⟩:=aF ob (((aW _ _).alloc (aU _) _).trans hb2);clear ob hb2)
  go_ret;exact⟨_,_,rfl,Ob.o,Hb2.o⟩
end
theorem ZK (y k:Int) (a:Option Addr) (n c:Nat) (d:List Int) (w:World) (hs:Sl w a n c 1 (ints .u8 d)) (hl:n≤1000000):
  Calls Tryz.prog 169 #[.agg #[.int .i64 y,.int .i64 k,.slice a n c]] w fun e w'=>∃a' c',e= .returned (.agg #[.int .i64 y,.int .i64 k,.slice a' n c'])∧w'.ownsRow w.heap.size 5 1 (.slice a' n c') n (ints .u8 d)∧Below w.heap.size w w':=by
 have hs':=aA hs;clear hs;go_enter Tryz.func169,Tryz.ntmps169;go_wp2_with fail
 have hb:=(aD w (.cells #[.int .i64 y,.int .i64 k,.slice a n c] 72)).alloc (by simp) (.cells #[.int .i64 0,.int .i64 0,.slice none 0 0] 72);refine(yY a n c d _ (hs'.o.mono hb) (by omega)).mono ?_;rintro e w2 ⟨a5,c5,rfl,ho,hb2⟩;have hbb:=hb.tm hb2;have b0:jJ w2 w.heap.size 72 #[.int .i64 y,.int .i64 k,.slice a n c]:=jJ.late ((sN _ _ (by simp)).trans (mF _ _)) hb2;have b1:jJ w2 (w.heap.size+1) 72 #[.int .i64 0,.int .i64 0,.slice none 0 0]:=jJ.late (sW _ _ (by simp)) hb2;have p0:w2.cell? ⟨w.heap.size,0,none⟩=some (.int .i64 y):=b0.cell rfl;have p1:w2.cell? ⟨w.heap.size,1,none⟩=some (.int .i64 k):=b0.cell rfl;have p2:w2.cell? ⟨w.heap.size,2,none⟩=some (.slice a n c):=b0.cell rfl;have z2:w2.frozen? ⟨w.heap.size,2,none⟩=false:=b0.frozen 2;have q0:w2.cell? ⟨w.heap.size+1,0,none⟩=some (.int .i64 0):=b1.cell rfl;have q1:w2.cell? ⟨w.heap.size+1,1,none⟩=some (.int .i64 0):=b1.cell rfl;have q2:w2.cell? ⟨w.heap.size+1,2,none⟩=some (.slice none 0 0):=b1.cell rfl;have y0:=b1.frozen 0;have y1:=b1.frozen 1;have y2:=b1.frozen 2;simp only[World.size_alloc]at ho;obtain⟨hb',hb2',CZ,b0',b1',ho'⟩:=aJ hb hb2 hbb b0 b1 ho;clear hb hb2 hbb b0 b1 ho;go_wp2_with fail
 refine bodyPost_ret (results_cell_row rfl _ _ (w.heap.size+1) 72 #[.int .i64 y,.int .i64 k,.slice a5 n c5] (0,0) _ rfl ((b1'.o.lF (by omega) 2 _).xK _ _ _) Tryz.underlying72 rfl (by kernel_rfl)) rfl ?_;refine⟨_,_,rfl,?_,?_⟩
 ·exact kK (J5 (kQ ho'.o (by omega) 2 _) (by omega) _ _ _) (by omega)
 ·exact kM (CZ.o.setCell (p:=⟨w.heap.size,2,none⟩) (aU _) _) (by omega) _ _ _
def KE (a b:Int):Int:=if a<b then -1 else if b<a then 1 else 0
theorem aQ8 (a b:Int) (w:World):Calls Tryz.prog 97 #[.int .i64 a,.int .i64 b] w fun e w'=>e= .returned (.int .i64 (KE a b))∧w=w':=by
 have hn:∀(x:Int) (W:World),Calls Tryz.prog 155 #[.int .i64 x] W fun e w'=>e= .returned (.bool false)∧W=w':=fun x W=>by
  have hx:(x != x)=false:=by simp
  go_enter Tryz.func155,Tryz.ntmps155;go_wp2;go_ret;exact⟨rfl,rfl⟩
 have hn':=aA hn;clear hn;unfold KE;by_cases h1:a<b
 ·have d1:decide (a<b)=true:=by simp;omega
  rw[if_pos h1];go_enter Tryz.func97,Tryz.ntmps97;go_wp2_with (go_at_call 155;refine(hn'.o _ _).mono ?_;rintro e w' ⟨rfl,rfl⟩)
  go_ret;exact⟨rfl,rfl⟩
 ·have d1:decide (a<b)=false:=by simp;omega
  rw[if_neg h1];by_cases h2:b<a
  ·have d2:decide (b<a)=true:=by simp;omega
   rw[if_pos h2];go_enter Tryz.func97,Tryz.ntmps97;go_wp2_with (go_at_call 155;refine(hn'.o _ _).mono ?_;rintro e w' ⟨rfl,rfl⟩)
   go_ret;exact⟨rfl,rfl⟩
  ·have d2:decide (b<a)=false:=by simp;omega
   rw[if_neg h2];go_enter Tryz.func97,Tryz.ntmps97;go_wp2_with (go_at_call 155;refine(hn'.o _ _).mono ?_;rintro e w' ⟨rfl,rfl⟩)
   go_ret;exact⟨rfl,rfl⟩
theorem aHR (x1 x2 x3:Int) (xa:Option Addr) (xn xc:Nat) (t:Int) (w:World):Calls Tryz.prog 231 #[.agg #[.int .i64 x1,.int .i64 x2,.int .i64 x3,.slice xa xn xc],.int .i64 t] w fun e w'=>e= .returned (.int .i64 (KE x1 t))∧Below w.heap.size w w':=by
 go_enter Tryz.func231,Tryz.ntmps231;go_wp2_with (go_at_call 97;refine(aQ8 _ _ _).mono ?_;rintro e w' ⟨rfl,rfl⟩)
 go_ret;exact⟨rfl,(aW _ _).alloc (aU _) _⟩
end Go.Proofs.YtceclmpmpldmlaaGreat
namespace Go.Proofs.YtceclmpmpldmlaaGreat
open Go.RowKit Tt
def key (zs:List uM) (i:Nat):Int:=(zs.getD i rA).1.1
structure Pos (zs:List uM) (t:Int) (k:Nat):Prop where
 le:k≤zs.length
 lo:∀i,i<k→key zs i<t
 hi:∀i,k≤i→i<zs.length→t≤key zs i
def TV (zs:List uM) (t:Int) (k:Nat):Bool:=decide (k<zs.length)&&decide (key zs k=t)
theorem X5 {zs:List uM} {n:Nat} (hr:∀i,i+1<n→key zs i<key zs (i+1)) {i:Nat}:∀{j:Nat},i<j→j<n→key zs i<key zs j
 |j+1,h1,h2=>by
  rcases eH i j with h|h
  ·have:=X5 hr h (by omega);have:=hr j h2;omega
  ·obtain rfl:i=j:=by omega
   exact hr i h2
theorem aXL {a b:Int} (h:a<b):KE a b= -1:=if_pos h
theorem aXM {a:Int}:KE a a=0:=by unfold KE;simp
theorem aXN {a b:Int} (h:b<a):KE a b=1:=by unfold KE;rw[if_neg (by omega),if_pos h]
theorem b6L (a:Option Addr) (n c:Nat) (zs:List uM) (t:Int) (w:World) (hs:Tr w a n c zs) (hr:∀i,i+1<n→key zs i<key zs (i+1)) (hl:n≤1000000):
  Calls Tryz.prog 230 #[.slice a n c,.int .i64 t,.func (.func 231) #[] #[]] w fun e w'=>∃k:Nat,Pos zs t k∧e= .returned (.tuple #[.int .i64 k,.bool (TV zs t k)])∧Below w.heap.size w w':=by
 have hzl:=hs.len;obtain⟨hs',hr',mV⟩:=aG hs hr hzl;clear hs hr hzl;go_enter Tryz.func230,Tryz.ntmps230;go_wp2;go_loopw [9,10] (fun iv jv wr=>∃i j:Nat,i≤j∧j≤n∧iv= .int .i64 i∧jv= .int .i64 j∧Hid (∀l,l<i→key zs l<t)∧Hid (∀l,j≤l→l<n→t≤key zs l)∧Hid (Below w.heap.size w wr)) (fun iv jv _=>(intOf jv).toNat - (intOf iv).toNat)
 case atStart=>exact⟨0,n,by omega,by omega,rfl,rfl,aA (fun l hl=>by omega),aA (fun l h1 h2=>by omega),aA (aW _ _)⟩
 case round=>
  obtain⟨i,j,hij,hjn,rfl,rfl,hlo,hhi,hb⟩:=hrel;by_cases hlt:i<j
  ·obtain⟨h,hh⟩:∃h:Nat,h=(i+j) / 2:=⟨_,rfl⟩;have hh1:i≤h:=by omega
   have hh2:h<j:=by omega
   have hh3:h<n:=by omega
   have bND:(i:Int)<(j:Int):=by omega
   have hhn:(h:Int)<(n:Int):=by omega
   have hw1:IntKind.i64.wrap ((i:Int)+j)=i+j:=by rw[aY];omega
   have hw2:IntKind.u64.wrap ((i:Int)+j)=i+j:=by rw[gI];omega
   have hw3:((i:Int)+j) / 2=(h:Int):=by omega
   have hw4:IntKind.i64.wrap (h:Int)=h:=by rw[aY];omega
   have hw5:IntKind.i64.wrap ((h:Int)+1)=h+1:=by rw[aY];omega
   obtain⟨b,o,rfl,hbb,f0,f1,f2,f3,_⟩:=(hs'.o.mono hb.o).at hh3;have hkey:key zs h=(zs.getD h rA).1.1:=rfl;generalize (zs.getD h rA).1.2.1=x1 at*;generalize (zs.getD h rA).1.2.2.1=x2 at*;generalize (zs.getD h rA).1.2.2.2.1=x3 at*;generalize (zs.getD h rA).1.2.2.2.2.1=x4 at*;generalize (zs.getD h rA).1.2.2.2.2.2=x5 at*;generalize (zs.getD h rA).1.1=x0 at*;have hC:=fun W=>aHR x0 x1 x2 x3 x4 x5 t W;have hnew:(x0<t→∀l,l<h+1→key zs l<t)∧(t≤x0→∀l,h≤l→l<n→t≤key zs l):=by
    refine⟨fun hx l hl=>?_,fun hx l h1 h2=>?_⟩
    ·rcases eH l h with h3|h3
     ·have:=X5 hr'.o h3 hh3;omega
     ·obtain rfl:l=h:=by omega
      omega
    ·rcases eH h l with h3|h3
     ·have:=X5 hr'.o h3 h2;omega
     ·obtain rfl:l=h:=by omega
      omega
   by_cases hx:x0<t
   ·rw[aXL hx]at hC;obtain⟨hl,hC',hkey',hh'⟩:=aH (hnew.1 hx) hC hkey hh;clear hC hkey hh;clear hnew;go_wp2_with (go_at_call 231;refine(hC'.o _).mono ?_;rintro e w2 ⟨rfl,hb2⟩;have HB:=aA (hb.o.tm hb2);clear hb2)
    go_roundw
    case rel=>exact⟨h+1,j,by omega,hjn,by go_num,rfl,hl,hhi,HB⟩
    case measure=>simp[intOf];omega
   ·have hr2:=aA (hnew.2 (by omega));have hc2:decide (KE x0 t<0)=false:=by
     unfold KE;rw[if_neg hx];split <;> rfl
    obtain⟨q,hq⟩:=aC (KE x0 t);rw[hq]at hC hc2;obtain⟨hC',hkey',hh',hq'⟩:=aH hC hkey hh hq;clear hC hkey hh hq;clear hnew;go_wp2_with (go_at_call 231;refine(hC'.o _).mono ?_;rintro e w2 ⟨rfl,hb2⟩;have HB:=aA (hb.o.tm hb2);clear hb2)
    go_roundw
    case rel=>exact⟨i,h,by omega,by omega,rfl,rfl,hlo,hr2,HB⟩
    case measure=>simp[intOf];omega
  ·obtain rfl:i=j:=by omega
   have hpos:=aA (show Pos zs t i from⟨by rw[mV.o];exact hjn,hlo.o,fun l h1 h2=>hhi.o l h1 (by rw[←mV.o];exact h2)⟩);by_cases hin:i<n
   ·obtain⟨b,o,rfl,hbb,f0,f1,f2,f3,_⟩:=(hs'.o.mono hb.o).at hin;have hkey:key zs i=(zs.getD i rA).1.1:=rfl;generalize (zs.getD i rA).1.2.1=x1 at*;generalize (zs.getD i rA).1.2.2.1=x2 at*;generalize (zs.getD i rA).1.2.2.2.1=x3 at*;generalize (zs.getD i rA).1.2.2.2.2.1=x4 at*;generalize (zs.getD i rA).1.2.2.2.2.2=x5 at*;generalize (zs.getD i rA).1.1=x0 at*;have hC:=fun W=>aHR x0 x1 x2 x3 x4 x5 t W;have bND:(i:Int)<(n:Int):=by omega
    have hge:=hhi.o i (aU _) hin;rw[hkey]at hge;by_cases hx:x0=t
    ·have aAW:TV zs t i=true:=by unfold TV;rw[hkey,mV.o];simp[hin,hx]
     rw[hx,aXM]at hC;rw[hx]at f0;obtain⟨hC',hkey',aAX,hx'⟩:=aH hC hkey aAW hx;clear hC hkey aAW hx;clear hge;go_wp2_with (go_at_call 231;refine(hC'.o _).mono ?_;rintro e w2 ⟨rfl,hb2⟩;have HB:=aA (hb.o.tm hb2);clear hb2)
     go_ret2;exact⟨i,hpos.o,(by rw[aAX.o];rfl),HB.o⟩
    ·have aAW:TV zs t i=false:=by unfold TV;rw[hkey,mV.o];simp[hx]
     rw[aXN (by omega)]at hC;obtain⟨hC',hkey',aAX,hx'⟩:=aH hC hkey aAW hx;clear hC hkey aAW hx;clear hge;go_wp2_with (go_at_call 231;refine(hC'.o _).mono ?_;rintro e w2 ⟨rfl,hb2⟩;have HB:=aA (hb.o.tm hb2);clear hb2)
     go_ret2;exact⟨i,hpos.o,(by rw[aAX.o];rfl),HB.o⟩
   ·have hd:decide ((i:Int)<(n:Int))=false:=by simp;omega
    have hd':decide (i<n)=false:=by simp;omega
    have aAW:TV zs t i=false:=by unfold TV;rw[mV.o];simp[hin]
    have aAX:=aA aAW;clear aAW;go_wp2;go_ret2;exact⟨i,hpos.o,(by rw[aAX.o];rfl),hb.o⟩
theorem aF7 (a:Option Addr) (n c:Nat) (zs:List uM) (t:Int) (w:World) (hs:Tr w a n c zs) (hr:∀i,i+1<n→key zs i<key zs (i+1)) (hl:n≤1000000):
  Calls Tryz.prog 170 #[.slice a n c,.int .i64 t] w fun e w'=>∃k:Nat,Pos zs t k∧e= .returned (.tuple #[.int .i64 k,.bool (TV zs t k)])∧Below w.heap.size w w':=by
 have hB:=b6L a n c zs t w hs hr hl;obtain⟨hB',hs',hr'⟩:=aG hB hs hr;clear hB hs hr;go_enter Tryz.func170,Tryz.ntmps170;go_wp2_with fail
 refine hB'.o.mono ?_;rintro e w2 ⟨k,hp,rfl,hb⟩;obtain⟨r,hr2⟩:=aC (TV zs t k);rw[hr2];obtain⟨hp',hb',hr2'⟩:=aG hp hb hr2;clear hp hb hr2;go_wp2;go_ret2;exact⟨k,hp'.o,(by rw[hr2'.o];rfl),hb'.o⟩
