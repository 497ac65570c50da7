import Derived.Test.YtceclmpmpldmlaaGreatCw01
import Derived.Test.YtceclmpmpldmlaaGreatCw04
set_option linter.unusedSimpArgs false
set_option linter.unusedVariables false
set_option maxRecDepth 100000
set_option maxHeartbeats 8000000
namespace Go.Proofs.YtceclmpmpldmlaaGreat
open Go.RowKit Tt
abbrev yK:=(Int×Int×Int×Option Addr×Nat×Nat)×List Int
abbrev tY:yK:=((0,0,0,none,0,0), [])
def tag (z:yK):Tg:=(z.1.1,z.1.2.1,z.1.2.2.1,z.2)
def zcl (z:yK):List Value:= [.int .i64 z.1.1,.int .i64 z.1.2.1,.int .i64 z.1.2.2.1,.slice z.1.2.2.2.1 z.1.2.2.2.2.1 z.1.2.2.2.2.2]
def zc (zs:List yK):List Value:=zs.flatMap zcl
theorem BG (z:yK):(zcl z).length=4:=rfl
theorem BH (z:yK) (r:List yK):zc (z::r)=zcl z++zc r:=rfl
theorem a95 (x y:List yK):zc (x++y)=zc x++zc y:=by simp[zc]
theorem aAP:∀(zs:List yK),(zc zs).length=zs.length*4
 | []=>rfl
 |z::r=>by rw[BH,cO,aAP r,BG,dO];omega
theorem aAQ:∀(zs:List yK) (i:Nat),(zc zs).take (i*4)=zc (zs.take i)
 |zs,0=>by simp[zc]
 | [],i+1=>by simp[zc]
 |z::r,i+1=>by
  rw[BH,iL,BH,←aAQ r i,List.take_append,BG,bW (by rw[BG];omega),show(i+1)*4 - 4=i*4 by omega]
theorem aAR:∀(zs:List yK) (i:Nat),(zc zs).drop (i*4)=zc (zs.drop i)
 |zs,0=>by simp
 | [],i+1=>by simp[zc]
 |z::r,i+1=>by
  rw[BH,List.drop_succ_cons,←aAR r i,List.drop_append,BG,iB (by rw[BG];omega),fG,show(i+1)*4 - 4=i*4 by omega]
theorem MH:∀{zs:List yK} {i j:Nat},i<zs.length→j<4→(zc zs)[i*4+j]? =(zcl (zs.getD i tY))[j]?
 |z::r,0,j,_,hj=>by rw[BH,fJ (by rw[BG];omega),fM,eU];rfl
 |z::r,i+1,j,hi,hj=>by
  rw[BH,iA (by rw[BG];omega),BG,show(i+1)*4+j - 4=i*4+j by omega,MH (by simpa using hi) hj];rfl
theorem ZK:∀{zs:List yK} {i j:Nat} {v:Value} {z':yK},j<4→(zcl (zs.getD i tY)).set j v=zcl z'→(zc zs).set (i*4+j) v=zc (zs.set i z')
 | [],i,j,v,z',_,_=>rfl
 |z::r,0,j,v,z',hj,h=>by
  rw[BH,fM,eU,List.set_append_left _ _ (by rw[BG];exact hj),List.set_cons_zero,BH,←h];rfl
 |z::r,i+1,j,v,z',hj,h=>by
  rw[BH,List.set_append_right _ _ (by rw[BG];omega),BG,show(i+1)*4+j - 4=i*4+j by omega,List.set_cons_succ,BH,ZK hj (by simpa using h)]
theorem aIO {zs:List yK}:∀u∈zc zs,u.oneCell'=true:=by
 intro u hu;obtain⟨z,_,hz⟩:=eH.1 hu;simp only[zcl,cK,eG,or_false]at hz;rcases hz with rfl|rfl|rfl|rfl <;> rfl
def Rd (W:World) (z:yK):Prop:=Sl W z.1.2.2.2.1 z.1.2.2.2.2.1 z.1.2.2.2.2.2 1 (ints .u8 z.2)
def Ow (B:Nat) (W:World) (z:yK):Prop:=W.ownsRow B 5 1 (.slice z.1.2.2.2.1 z.1.2.2.2.2.1 z.1.2.2.2.2.2) z.1.2.2.2.2.1 (ints .u8 z.2)
theorem Ow.rd {B:Nat} {W:World} {z:yK} (h:Ow B W z):Rd W z:=(Sl.kZ h).1
structure Tr (W:World) (a:Option Addr) (n c:Nat) (zs:List yK):Prop where
 row:Sl W a n c 4 (zc zs)
 each:∀z∈zs,Rd W z
theorem Tr.len {W:World} {a:Option Addr} {n c:Nat} {zs:List yK} (h:Tr W a n c zs):zs.length=n:=by
 have:=h.row.len;rw[aAP]at this;omega
theorem Tr.mono {W W':World} {a:Option Addr} {n c:Nat} {zs:List yK} (h:Tr W a n c zs) (hb:Below W.heap.size W W'):Tr W' a n c zs:=⟨h.row.mono hb,fun z hz=>(h.each z hz).mono hb⟩
theorem IG {zs:List yK} {i:Nat} (hi:i<zs.length):zs.getD i tY∈zs:=by
 rw[aZ,bH hi];exact bP _
theorem Tr.at {W:World} {a:Option Addr} {n c:Nat} {zs:List yK} (h:Tr W a n c zs) {k:Nat} (hk:k<n):
  ∃b o,a=some ⟨b,o,none⟩∧b<W.heap.size∧W.cell? ⟨b,o+k*4,none⟩=some (.int .i64 (zs.getD k tY).1.1)∧W.cell? ⟨b,o+k*4+1,none⟩=some (.int .i64 (zs.getD k tY).1.2.1)∧
   W.cell? ⟨b,o+k*4+2,none⟩=some (.int .i64 (zs.getD k tY).1.2.2.1)∧W.cell? ⟨b,o+k*4+3,none⟩=some (.slice (zs.getD k tY).1.2.2.2.1 (zs.getD k tY).1.2.2.2.2.1 (zs.getD k tY).1.2.2.2.2.2)∧Rd W (zs.getD k tY):=by
 have hl:=h.len;obtain⟨b,o,rfl,hb,hc⟩:=h.row.at hk;have g:=fun j hj=>MH (zs:=zs) (i:=k) (j:=j) aG hj;exact⟨b,o,rfl,hb,hc (k*4+0) _ (g 0 aG),hc _ _ (g 1 aG),hc _ _ (g 2 aG),hc _ _ (g 3 aG),h.each _ (IG aG)⟩
theorem Tr.ts {W:World} {a:Option Addr} {n c:Nat} {zs:List yK} (h:Tr W a n c zs):Ts W a n c (zs.map tag):=by
 have hl:=h.len;refine⟨⟨zc zs,h.row,fun i hi=>?_⟩,by simp[hl]⟩;have g:=fun j hj=>MH (zs:=zs) (i:=i) (j:=j) aG hj;have hg:(zs.map tag).getD i (0,0,0, [])=tag (zs.getD i tY):=by
  rw[aZ,jK,bH aG,aZ,bH aG];rfl
 rw[hg];exact⟨_,_,_,(by have h0:=g 0 aG;rwa [dB]at h0),g 1 aG,g 2 aG,g 3 aG,h.each _ (IG aG)⟩
theorem Ts.tr {W:World} {a:Option Addr} {n c:Nat} {ts:List Tg} (h:Ts W a n c ts):∃zs,Tr W a n c zs∧zs.map tag=ts:=by
 obtain⟨⟨vs,h1,h2⟩,h3⟩:=h;have hex:∀i,∃q:Option Addr×Nat×Nat,i<n→vs[i*4]? =some (.int .i64 (ts.getD i (0,0,0, [])).1)∧vs[i*4+1]? =some (.int .i64 (ts.getD i (0,0,0, [])).2.1)∧vs[i*4+2]? =some (.int .i64 (ts.getD i (0,0,0, [])).2.2.1)∧
   vs[i*4+3]? =some (.slice q.1 q.2.1 q.2.2)∧Sl W q.1 q.2.1 q.2.2 1 (ints .u8 (ts.getD i (0,0,0, [])).2.2.2):=fun i=>by
  by_cases hi:i<n
  ·obtain⟨a',n',c',h4⟩:=h2 i hi;exact⟨(a',n',c'),fun _=>h4⟩
  ·exact⟨(none,0,0),fun h0=>absurd h0 hi⟩
 obtain⟨q,hq⟩:=Classical.axiomOfChoice hex;obtain⟨f,hf⟩:∃f:Nat→yK,f=fun i=>(((ts.getD i (0,0,0, [])).1,(ts.getD i (0,0,0, [])).2.1,(ts.getD i (0,0,0, [])).2.2.1,(q i).1,(q i).2.1,(q i).2.2),(ts.getD i (0,0,0, [])).2.2.2):=⟨_,rfl⟩;have hvs:vs=zc ((List.range n).map f):=by
  apply List.ext_getElem?;intro j;by_cases hj:j<n*4
  ·have g:=MH (zs:=(List.range n).map f) (i:=j / 4) (j:=j % 4) (by simp;omega) aG;rw[show j / 4*4+j % 4=j by omega]at g;rw[g];have hd:((List.range n).map f).getD (j / 4) tY=f (j / 4):=by simp[show j / 4<n by omega]
   rw[hd,hf];obtain⟨e0,e1,e2,e3,_⟩:=hq (j / 4) aG;have:j % 4=0∨j % 4=1∨j % 4=2∨j % 4=3:=by omega
   rcases this with h|h|h|h
   ·rw[h,show j=j / 4*4 by omega,e0];have:j / 4*4 / 4=j / 4:=by omega
    rw[this];rfl
   ·rw[h,show vs[j]? =vs[j / 4*4+1]? by congr 1;omega,e1];rfl
   ·rw[h,show vs[j]? =vs[j / 4*4+2]? by congr 1;omega,e2];rfl
   ·rw[h,show vs[j]? =vs[j / 4*4+3]? by congr 1;omega,e3];rfl
  ·rw[fE (by rw[h1.len];omega),fE (by rw[aAP];simp;omega)]
 refine⟨(List.range n).map f,⟨hvs▸h1,fun z hz=>?_⟩,?_⟩
 ·obtain⟨i,hi,rfl⟩:=dH.1 hz;rw[hf];exact(hq i (by simpa using hi)).2.2.2.2
 ·apply gG (by simp[h3]);intro i h4 h5;simp[hf,tag,aZ,h5]
structure To (B:Nat) (W:World) (a:Option Addr) (n c:Nat) (zs:List yK):Prop where
 row:W.ownsRow B 74 4 (.slice a n c) n (zc zs)
 each:∀z∈zs,Ow B W z
theorem To.tr {B:Nat} {W:World} {a:Option Addr} {n c:Nat} {zs:List yK} (h:To B W a n c zs):Tr W a n c zs:=⟨(Sl.kZ h.row).1,fun z hz=>(h.each z hz).rd⟩
theorem To.later {B:Nat} {W W':World} {a:Option Addr} {n c:Nat} {zs:List yK} (h:To B W a n c zs) (hb:Below W.heap.size W W'):To B W' a n c zs:=⟨l6 h.row hb,fun z hz=>l6 (h.each z hz) hb⟩
theorem Ow.grown {B B':Nat} {W W':World} {z:yK} (h:Ow B W z) {v:Value} {n:Nat} {xs:List Value} (hv:W.ownsRow B' 74 4 v n xs) (hg:W.grownBy W' v.ownBlock):Ow B W' z:=
 World.ownsRow.kept h hg (KV h hv aH)
theorem bBR:(Tryz.prog.info? 5).map (fun i=>(i.zero,i.size,i.bytes))=some (some (.int .u8 0),1,1):=by kernel_rfl
section
attribute [local go_sem] Lib.run_eql_slice_nil
theorem ET (a:Option Addr) (n c:Nat) (z:List Int) (w:World) (hs:Sl w a n c 1 (ints .u8 z)) (hl:n≤140737488355328):
  Calls Tryz.prog 61 #[.slice a n c] w fun e w'=>∃a' c',e= .returned (.slice a' n c')∧w'.ownsRow w.heap.size 5 1 (.slice a' n c') n (ints .u8 z)∧Below w.heap.size w w':=by
 obtain⟨i0,hi,yZ,qC,wY⟩:=info_parts bBR;cases a with
 |none=>
  have hc:=hs.fit rfl;subst hc;have hn:n=0:=by have:=hs.le;omega
  subst hn;have hp:z= []:=dS hs.p9;subst hp;clear hs;go_enter Tryz.func61,Tryz.ntmps61;go_wp2;go_ret;exact⟨_,_,rfl,lC _ _ _ _,bF _ _⟩
 |some ad=>
  have sK:=aA hs;clear hs;go_enter Tryz.func61,Tryz.ntmps61;go_wp2_with (at_builtin;refine qD rfl _ _ 24 rfl w.heap.size 5 i0 _ 1 1 Tryz.underlying24 hi yZ qC wY rfl aH _ 0 [] rfl (a2N w w.heap.size 5 1 0 #[] (aY _) (by unfold maxLen;omega) rfl) _ n c _ rfl (AZ sK.o _) wQ aG aH (by simp) ?_;intro a5 c5 w2 ob kP MB;rw[eU]at ob ⊢;rw[fG]at ob;clear MB;obtain⟨Ob,Hb2⟩:=aJ ob (((bF _ _).alloc (aY _) _).trans kP);clear ob kP)
  go_ret;exact⟨_,_,rfl,Ob.o,Hb2.o⟩
theorem a3J (a:Option Addr) (n c:Nat) (zs:List yK) (w:World) (hs:Sl w a n c 4 (zc zs)) (hl:n≤1000000):
  Calls Tryz.prog 119 #[.slice a n c] w fun e w'=>∃a' c',e= .returned (.slice a' n c')∧w'.ownsRow w.heap.size 74 4 (.slice a' n c') n (zc zs)∧Below w.heap.size w w':=by
 obtain⟨i0,z0,hi,hz,qC,wY,ZA⟩:=OU;cases a with
 |none=>
  have hc:=hs.fit rfl;subst hc;have hn:n=0:=by have:=hs.le;omega
  subst hn;have hp:zs= []:=dS (by have:=hs.len;rw[aAP]at this;omega);subst hp;clear hs;go_enter Tryz.func119,Tryz.ntmps119;go_wp2;go_ret;exact⟨_,_,rfl,lC _ _ _ _,bF _ _⟩
 |some ad=>
  have sK:=aA hs;clear hs;go_enter Tryz.func119,Tryz.ntmps119;go_wp2_with (at_builtin;refine qD rfl _ _ 22 rfl w.heap.size 74 i0 z0 4 48 Tryz.underlying22 hi hz qC wY ZA aH _ 0 [] rfl (a2N w w.heap.size 74 4 0 #[] (aY _) (by unfold maxLen;omega) rfl) _ n c _ rfl (AZ sK.o _) aIO aG aH (by simp) ?_;intro a5 c5 w2 ob kP MB;rw[eU]at ob ⊢;rw[fG]at ob;clear MB;obtain⟨Ob,Hb2⟩:=aJ ob (((bF _ _).alloc (aY _) _).trans kP);clear ob kP)
  go_ret;exact⟨_,_,rfl,Ob.o,Hb2.o⟩
end
theorem a3K (y k:Int) (a:Option Addr) (n c:Nat) (d:List Int) (w:World) (hs:Sl w a n c 1 (ints .u8 d)) (hl:n≤1000000):
  Calls Tryz.prog 169 #[.agg #[.int .i64 y,.int .i64 k,.slice a n c]] w fun e w'=>∃a' c',e= .returned (.agg #[.int .i64 y,.int .i64 k,.slice a' n c'])∧w'.ownsRow w.heap.size 5 1 (.slice a' n c') n (ints .u8 d)∧Below w.heap.size w w':=by
 have sK:=aA hs;clear hs;go_enter Tryz.func169,Tryz.ntmps169;go_wp2_with fail
 have hb:=(aD w (.cells #[.int .i64 y,.int .i64 k,.slice a n c] 72)).alloc (by simp) (.cells #[.int .i64 0,.int .i64 0,.slice none 0 0] 72);refine(ET a n c d _ (sK.o.mono hb) aG).mono ?_;rintro e w2 ⟨a5,c5,rfl,ho,kP⟩;have EI:=hb.tm kP;have b0:kG w2 w.heap.size 72 #[.int .i64 y,.int .i64 k,.slice a n c]:=kG.late ((wR _ _ (by simp)).trans (nS _ _)) kP;have b1:kG w2 (w.heap.size+1) 72 #[.int .i64 0,.int .i64 0,.slice none 0 0]:=kG.late (wZ _ _ (by simp)) kP;have p0:=b0.cell (i:=0) rfl;have p1:=b0.cell (i:=1) rfl;have p2:=b0.cell (i:=2) rfl;have z2:w2.frozen? ⟨w.heap.size,2,none⟩=false:=b0.frozen 2;have q0:=b1.cell (i:=0) rfl;have q1:=b1.cell (i:=1) rfl;have q2:=b1.cell (i:=2) rfl;have y0:=b1.frozen 0;have y1:=b1.frozen 1;have y2:=b1.frozen 2;simp only[World.size_alloc]at ho;obtain⟨pW,pG,JK,b0',b1',JG⟩:=aN hb kP EI b0 b1 ho;clear hb kP EI b0 b1 ho;go_wp2_with fail
 refine bodyPost_ret (results_cell_row rfl _ _ (w.heap.size+1) 72 #[.int .i64 y,.int .i64 k,.slice a5 n c5] (0,0) _ rfl ((b1'.o.mO aG 2 _).D5 _ _ _) Tryz.underlying72 rfl aF) rfl ?_;refine⟨_,_,rfl,?_,?_⟩
 ·exact lN (OT (lW JG.o aG 2 _) aG _ _ _) aG
 ·exact lT (JK.o.setCell (p:=⟨w.heap.size,2,none⟩) (aY _) _) aG _ _ _
def P6 (a b:Int):Int:=if a<b then -1 else if b<a then 1 else 0
theorem aSS (a b:Int) (w:World):Calls Tryz.prog 97 #[.int .i64 a,.int .i64 b] w fun e w'=>e= .returned (.int .i64 (P6 a b))∧w=w':=by
 have hn:∀(x:Int) (W:World),Calls Tryz.prog 155 #[.int .i64 x] W fun e w'=>e= .returned (.bool false)∧W=w':=fun x W=>by
  have hx:(x != x)=false:=by simp
  go_enter Tryz.func155,Tryz.ntmps155;go_wp2;go_ret;exact⟨rfl,rfl⟩
 have hn':=aA hn;clear hn;unfold P6;by_cases h1:a<b
 ·have d1:decide (a<b)=true:=by simp;omega
  rw[if_pos h1];go_enter Tryz.func97,Tryz.ntmps97;go_wp2_with (go_at_call 155;refine(hn'.o _ _).mono ?_;rintro e w' ⟨rfl,rfl⟩)
  go_ret;exact⟨rfl,rfl⟩
 ·have d1:decide (a<b)=false:=by simp;omega
  rw[if_neg h1];by_cases h2:b<a
  ·have d2:decide (b<a)=true:=by simp;omega
   rw[if_pos h2];go_enter Tryz.func97,Tryz.ntmps97;go_wp2_with (go_at_call 155;refine(hn'.o _ _).mono ?_;rintro e w' ⟨rfl,rfl⟩)
   go_ret;exact⟨rfl,rfl⟩
  ·have d2:decide (b<a)=false:=by simp;omega
   rw[if_neg h2];go_enter Tryz.func97,Tryz.ntmps97;go_wp2_with (go_at_call 155;refine(hn'.o _ _).mono ?_;rintro e w' ⟨rfl,rfl⟩)
   go_ret;exact⟨rfl,rfl⟩
theorem aMH (x1 x2 x3:Int) (xa:Option Addr) (xn xc:Nat) (t:Int) (w:World):Calls Tryz.prog 231 #[.agg #[.int .i64 x1,.int .i64 x2,.int .i64 x3,.slice xa xn xc],.int .i64 t] w fun e w'=>e= .returned (.int .i64 (P6 x1 t))∧Below w.heap.size w w':=by
 go_enter Tryz.func231,Tryz.ntmps231;go_wp2_with (go_at_call 97;refine(aSS _ _ _).mono ?_;rintro e w' ⟨rfl,rfl⟩)
 go_ret;exact⟨rfl,(bF _ _).alloc (aY _) _⟩
end Go.Proofs.YtceclmpmpldmlaaGreat
namespace Go.Proofs.YtceclmpmpldmlaaGreat
open Go.RowKit Tt
def key (zs:List yK) (i:Nat):Int:=(zs.getD i tY).1.1
structure Pos (zs:List yK) (t:Int) (k:Nat):Prop where
 le:k≤zs.length
 lo:∀i,i<k→key zs i<t
 hi:∀i,k≤i→i<zs.length→t≤key zs i
def ZL (zs:List yK) (t:Int) (k:Nat):Bool:=decide (k<zs.length)&&decide (key zs k=t)
theorem a2O {zs:List yK} {n:Nat} (hr:∀i,i+1<n→key zs i<key zs (i+1)) {i:Nat}:∀{j:Nat},i<j→j<n→key zs i<key zs j
 |j+1,h1,h2=>by
  rcases eB i j with h|h
  ·have:=a2O hr h aG;have:=hr j h2;omega
  ·obtain rfl:i=j:=by omega
   exact hr i h2
theorem b2I {a b:Int} (h:a<b):P6 a b= -1:=if_pos h
theorem b2J {a:Int}:P6 a a=0:=by unfold P6;simp
theorem b2K {a b:Int} (h:b<a):P6 a b=1:=by unfold P6;rw[if_neg aG,if_pos h]
theorem bBS (a:Option Addr) (n c:Nat) (zs:List yK) (t:Int) (w:World) (hs:Tr w a n c zs) (hr:∀i,i+1<n→key zs i<key zs (i+1)) (hl:n≤1000000):
  Calls Tryz.prog 230 #[.slice a n c,.int .i64 t,.func (.func 231) #[] #[]] w fun e w'=>∃k:Nat,Pos zs t k∧e= .returned (.tuple #[.int .i64 k,.bool (ZL zs t k)])∧Below w.heap.size w w':=by
 have vO:=hs.len;obtain⟨sK,sH,oC⟩:=aK hs hr vO;clear hs hr vO;go_enter Tryz.func230,Tryz.ntmps230;go_wp2;go_loopw [9,10] (fun iv jv wr=>∃i j:Nat,i≤j∧j≤n∧iv= .int .i64 i∧jv= .int .i64 j∧Hid (∀l,l<i→key zs l<t)∧Hid (∀l,j≤l→l<n→t≤key zs l)∧Hid (Below w.heap.size w wr)) (fun iv jv _=>(intOf jv).toNat - (intOf iv).toNat)
 case atStart=>exact⟨0,n,by omega,by omega,rfl,rfl,aA (fun l hl=>by omega),aA (fun l h1 h2=>by omega),aA (bF _ _)⟩
 case round=>
  obtain⟨i,j,hij,hjn,rfl,rfl,hlo,hhi,hb⟩:=hrel;by_cases kY:i<j
  ·obtain⟨h,hh⟩:∃h:Nat,h=(i+j) / 2:=⟨_,rfl⟩;have hh1:i≤h:=by omega
   have hh2:h<j:=by omega
   have hh3:h<n:=by omega
   have bUB:(i:Int)<(j:Int):=by omega
   have hhn:(h:Int)<(n:Int):=by omega
   have xR:IntKind.i64.wrap ((i:Int)+j)=i+j:=by rw[bJ];omega
   have hw2:IntKind.u64.wrap ((i:Int)+j)=i+j:=by rw[IntKind.wrap_u64];omega
   have xE:((i:Int)+j) / 2=(h:Int):=by omega
   have hw4:IntKind.i64.wrap (h:Int)=h:=by rw[bJ];omega
   have hw5:IntKind.i64.wrap ((h:Int)+1)=h+1:=by rw[bJ];omega
   obtain⟨b,o,rfl,EI,f0,f1,f2,f3,_⟩:=(sK.o.mono hb.o).at hh3;have a2L:key zs h=(zs.getD h tY).1.1:=rfl;generalize (zs.getD h tY).1.2.1=x1 at*;generalize (zs.getD h tY).1.2.2.1=x2 at*;generalize (zs.getD h tY).1.2.2.2.1=x3 at*;generalize (zs.getD h tY).1.2.2.2.2.1=x4 at*;generalize (zs.getD h tY).1.2.2.2.2.2=x5 at*;generalize (zs.getD h tY).1.1=x0 at*;have hC:=fun W=>aMH x0 x1 x2 x3 x4 x5 t W;have C8:(x0<t→∀l,l<h+1→key zs l<t)∧(t≤x0→∀l,h≤l→l<n→t≤key zs l):=by
    refine⟨fun hx l hl=>?_,fun hx l h1 h2=>?_⟩
    ·rcases eB l h with h3|h3
     ·have:=a2O sH.o h3 hh3;omega
     ·obtain rfl:l=h:=by omega
      omega
    ·rcases eB h l with h3|h3
     ·have:=a2O sH.o h3 h2;omega
     ·obtain rfl:l=h:=by omega
      omega
   by_cases hx:x0<t
   ·rw[b2I hx]at hC;obtain⟨hl,OO,b1X,hh'⟩:=aL (C8.1 hx) hC a2L hh;clear hC a2L hh;clear C8;go_wp2_with (go_at_call 231;refine(OO.o _).mono ?_;rintro e w2 ⟨rfl,kP⟩;have HB:=aA (hb.o.tm kP);clear kP)
    go_roundw
    case rel=>exact⟨h+1,j,by omega,hjn,by go_num,rfl,hl,hhi,HB⟩
    case measure=>simp[intOf];omega
   ·have KT:=aA (C8.2 aG);have hc2:decide (P6 x0 t<0)=false:=by
     unfold P6;rw[if_neg hx];split <;> rfl
    obtain⟨q,hq⟩:=aC (P6 x0 t);rw[hq]at hC hc2;obtain⟨OO,b1X,hh',hq'⟩:=aL hC a2L hh hq;clear hC a2L hh hq;clear C8;go_wp2_with (go_at_call 231;refine(OO.o _).mono ?_;rintro e w2 ⟨rfl,kP⟩;have HB:=aA (hb.o.tm kP);clear kP)
    go_roundw
    case rel=>exact⟨i,h,by omega,by omega,rfl,rfl,hlo,KT,HB⟩
    case measure=>simp[intOf];omega
  ·obtain rfl:i=j:=by omega
   have a7W:=aA (show Pos zs t i from⟨by rw[oC.o];exact hjn,hlo.o,fun l h1 h2=>hhi.o l h1 (by rw[←oC.o];exact h2)⟩);by_cases CY:i<n
   ·obtain⟨b,o,rfl,EI,f0,f1,f2,f3,_⟩:=(sK.o.mono hb.o).at CY;have a2L:key zs i=(zs.getD i tY).1.1:=rfl;generalize (zs.getD i tY).1.2.1=x1 at*;generalize (zs.getD i tY).1.2.2.1=x2 at*;generalize (zs.getD i tY).1.2.2.2.1=x3 at*;generalize (zs.getD i tY).1.2.2.2.2.1=x4 at*;generalize (zs.getD i tY).1.2.2.2.2.2=x5 at*;generalize (zs.getD i tY).1.1=x0 at*;have hC:=fun W=>aMH x0 x1 x2 x3 x4 x5 t W;have bUB:(i:Int)<(n:Int):=by omega
    have hge:=hhi.o i (aY _) CY;rw[a2L]at hge;by_cases hx:x0=t
    ·have aDQ:ZL zs t i=true:=by unfold ZL;rw[a2L,oC.o];simp[CY,hx]
     rw[hx,b2J]at hC;rw[hx]at f0;obtain⟨OO,b1X,aDR,TV⟩:=aL hC a2L aDQ hx;clear hC a2L aDQ hx;clear hge;go_wp2_with (go_at_call 231;refine(OO.o _).mono ?_;rintro e w2 ⟨rfl,kP⟩;have HB:=aA (hb.o.tm kP);clear kP)
     go_ret2;exact⟨i,a7W.o,(by rw[aDR.o];rfl),HB.o⟩
    ·have aDQ:ZL zs t i=false:=by unfold ZL;rw[a2L,oC.o];simp[hx]
     rw[b2K aG]at hC;obtain⟨OO,b1X,aDR,TV⟩:=aL hC a2L aDQ hx;clear hC a2L aDQ hx;clear hge;go_wp2_with (go_at_call 231;refine(OO.o _).mono ?_;rintro e w2 ⟨rfl,kP⟩;have HB:=aA (hb.o.tm kP);clear kP)
     go_ret2;exact⟨i,a7W.o,(by rw[aDR.o];rfl),HB.o⟩
   ·have hd:decide ((i:Int)<(n:Int))=false:=by simp;omega
    have hd':decide (i<n)=false:=by simp;omega
    have aDQ:ZL zs t i=false:=by unfold ZL;rw[oC.o];simp[CY]
    have aDR:=aA aDQ;clear aDQ;go_wp2;go_ret2;exact⟨i,a7W.o,(by rw[aDR.o];rfl),hb.o⟩
theorem aIP (a:Option Addr) (n c:Nat) (zs:List yK) (t:Int) (w:World) (hs:Tr w a n c zs) (hr:∀i,i+1<n→key zs i<key zs (i+1)) (hl:n≤1000000):
  Calls Tryz.prog 170 #[.slice a n c,.int .i64 t] w fun e w'=>∃k:Nat,Pos zs t k∧e= .returned (.tuple #[.int .i64 k,.bool (ZL zs t k)])∧Below w.heap.size w w':=by
 have hB:=bBS a n c zs t w hs hr hl;obtain⟨hB',sK,sH⟩:=aK hB hs hr;clear hB hs hr;go_enter Tryz.func170,Tryz.ntmps170;go_wp2_with fail
 refine hB'.o.mono ?_;rintro e w2 ⟨k,hp,rfl,hb⟩;obtain⟨r,KT⟩:=aC (ZL zs t k);rw[KT];obtain⟨hp',pW,aS3⟩:=aK hp hb KT;clear hp hb KT;go_wp2;go_ret2;exact⟨k,hp'.o,(by rw[aS3.o];rfl),pW.o⟩
