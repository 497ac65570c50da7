import Derived.Deep.RegionWith
import Derived.Test.YtceclmpmpldmlaaGreatCx04
set_option linter.unusedSimpArgs false
set_option linter.unusedVariables false
set_option maxRecDepth 100000
set_option maxHeartbeats 8000000
namespace Go.Proofs.YtceclmpmpldmlaaGreat
open Go.RowKit Tt
abbrev Tg:=Int×Int×Int×List Int
structure Ts (w:World) (a:Option Addr) (n cap:Nat) (ts:List Tg):Prop where
 vs:∃vs:List Value,Sl w a n cap 4 vs∧∀i,i<n→∃a' n' c',vs[i*4]? =some (.int .i64 (ts.getD i (0,0,0, [])).1)∧vs[i*4+1]? =some (.int .i64 (ts.getD i (0,0,0, [])).2.1)∧vs[i*4+2]? =some (.int .i64 (ts.getD i (0,0,0, [])).2.2.1)∧
  vs[i*4+3]? =some (.slice a' n' c')∧Sl w a' n' c' 1 (ints .u8 (ts.getD i (0,0,0, [])).2.2.2)
 len:ts.length=n
theorem Ts.mono {w w':World} {a:Option Addr} {n cap:Nat} {ts:List Tg} (h:Ts w a n cap ts) (hb:Below w.heap.size w w'):Ts w' a n cap ts:=by
 obtain⟨⟨vs,h1,h2⟩,h3⟩:=h;exact⟨⟨vs,h1.mono hb,fun i hi=>by obtain⟨a',n',c',e0,e1,e2,e3,hs⟩:=h2 i hi;exact⟨a',n',c',e0,e1,e2,e3,hs.mono hb⟩⟩,h3⟩
theorem Ts.max {w:World} {a:Option Addr} {n cap:Nat} {ts:List Tg} (h:Ts w a n cap ts):n≤9223372036854775807:=by
 obtain⟨⟨vs,h1,h2⟩,h3⟩:=h;exact bQ h1.le h1.max
theorem Ts.at {w:World} {a:Option Addr} {n cap:Nat} {ts:List Tg} (h:Ts w a n cap ts) {k:Nat} (hk:k<n):
  ∃b o a' n' c',a=some ⟨b,o,none⟩∧b<w.heap.size∧w.cell? ⟨b,o+k*4,none⟩=some (.int .i64 (ts.getD k (0,0,0, [])).1)∧w.cell? ⟨b,o+k*4+1,none⟩=some (.int .i64 (ts.getD k (0,0,0, [])).2.1)∧
   w.cell? ⟨b,o+k*4+2,none⟩=some (.int .i64 (ts.getD k (0,0,0, [])).2.2.1)∧w.cell? ⟨b,o+k*4+3,none⟩=some (.slice a' n' c')∧Sl w a' n' c' 1 (ints .u8 (ts.getD k (0,0,0, [])).2.2.2):=by
 obtain⟨⟨vs,h1,h2⟩,h3⟩:=h;obtain⟨b,o,rfl,hb,hc⟩:=h1.at hk;obtain⟨a',n',c',e0,e1,e2,e3,hs⟩:=h2 k hk;exact⟨b,o,a',n',c',rfl,hb,hc _ _ e0,hc _ _ e1,hc _ _ e2,hc _ _ e3,hs⟩
def a6A (x:Tg):Prop:=(Lit.int .i64 x.1).wf=true∧tV x.2.2.2
def ER (dir:Int) (x:Tg):Bool:=DJ dir x.1 x.2.1 x.2.2.1 x.2.2.2
abbrev wF:=(Int×Int×Int×Option Addr×Nat×Nat)×List Int
abbrev rO:wF:=((0,0,0,none,0,0), [])
def tag (z:wF):Tg:=(z.1.1,z.1.2.1,z.1.2.2.1,z.2)
def zcl (z:wF):List Value:= [.int .i64 z.1.1,.int .i64 z.1.2.1,.int .i64 z.1.2.2.1,.slice z.1.2.2.2.1 z.1.2.2.2.2.1 z.1.2.2.2.2.2]
def zc (zs:List wF):List Value:=zs.flatMap zcl
theorem zT (z:wF):(zcl z).length=4:=rfl
theorem zU (z:wF) (r:List wF):zc (z::r)=zcl z++zc r:=rfl
theorem X4 (x y:List wF):zc (x++y)=zc x++zc y:=by simp[zc]
theorem a8U:∀(zs:List wF),(zc zs).length=zs.length*4
 | []=>rfl
 |z::r=>by rw[zU,cO,a8U r,zT,dP];omega
theorem aJU:∀(zs:List wF) (i:Nat),(zc zs).take (i*4)=zc (zs.take i)
 |zs,0=>by simp[zc]
 | [],i+1=>by simp[zc]
 |z::r,i+1=>by
  rw[zU,gP,zU,←aJU r i,List.take_append,zT,bK (by rw[zT];omega),show(i+1)*4 - 4=i*4 by omega]
theorem aJV:∀(zs:List wF) (i:Nat),(zc zs).drop (i*4)=zc (zs.drop i)
 |zs,0=>by simp
 | [],i+1=>by simp[zc]
 |z::r,i+1=>by
  rw[zU,List.drop_succ_cons,←aJV r i,List.drop_append,zT,gV (by rw[zT];omega),eX,show(i+1)*4 - 4=i*4 by omega]
theorem KT:∀{zs:List wF} {i j:Nat},i<zs.length→j<4→(zc zs)[i*4+j]? =(zcl (zs.getD i rO))[j]?
 |z::r,0,j,_,hj=>by rw[zU,iD (by rw[zT];omega),gF,dU];rfl
 |z::r,i+1,j,hi,hj=>by
  rw[zU,iB (by rw[zT];omega),zT,show(i+1)*4+j - 4=i*4+j by omega,KT (by simpa using hi) hj];rfl
theorem X5:∀{zs:List wF} {i j:Nat} {v:Value} {z':wF},j<4→(zcl (zs.getD i rO)).set j v=zcl z'→(zc zs).set (i*4+j) v=zc (zs.set i z')
 | [],i,j,v,z',_,_=>rfl
 |z::r,0,j,v,z',hj,h=>by
  rw[zU,gF,dU,List.set_append_left _ _ (by rw[zT];exact hj),List.set_cons_zero,zU,←h];rfl
 |z::r,i+1,j,v,z',hj,h=>by
  rw[zU,List.set_append_right _ _ (by rw[zT];omega),zT,show(i+1)*4+j - 4=i*4+j by omega,List.set_cons_succ,zU,X5 hj (by simpa using h)]
theorem aPR {zs:List wF}:∀u∈zc zs,u.oneCell'=true:=by
 intro u hu;obtain⟨z,_,hz⟩:=gZ.1 hu;simp only[zcl,cB,dK,or_false]at hz;rcases hz with rfl|rfl|rfl|rfl <;> rfl
def Rd (W:World) (z:wF):Prop:=Sl W z.1.2.2.2.1 z.1.2.2.2.2.1 z.1.2.2.2.2.2 1 (ints .u8 z.2)
def Ow (B:Nat) (W:World) (z:wF):Prop:=W.ownsRow B 5 1 (.slice z.1.2.2.2.1 z.1.2.2.2.2.1 z.1.2.2.2.2.2) z.1.2.2.2.2.1 (ints .u8 z.2)
theorem Ow.rd {B:Nat} {W:World} {z:wF} (h:Ow B W z):Rd W z:=(Sl.jU h).1
structure Tr (W:World) (a:Option Addr) (n c:Nat) (zs:List wF):Prop where
 row:Sl W a n c 4 (zc zs)
 each:∀z∈zs,Rd W z
theorem Tr.len {W:World} {a:Option Addr} {n c:Nat} {zs:List wF} (h:Tr W a n c zs):zs.length=n:=by
 have:=h.row.len;rw[a8U]at this;omega
theorem Tr.mono {W W':World} {a:Option Addr} {n c:Nat} {zs:List wF} (h:Tr W a n c zs) (hb:Below W.heap.size W W'):Tr W' a n c zs:=⟨h.row.mono hb,fun z hz=>(h.each z hz).mono hb⟩
theorem ES {zs:List wF} {i:Nat} (hi:i<zs.length):zs.getD i rO∈zs:=by
 rw[bH,bI hi];exact bJ _
theorem Tr.at {W:World} {a:Option Addr} {n c:Nat} {zs:List wF} (h:Tr W a n c zs) {k:Nat} (hk:k<n):
  ∃b o,a=some ⟨b,o,none⟩∧b<W.heap.size∧W.cell? ⟨b,o+k*4,none⟩=some (.int .i64 (zs.getD k rO).1.1)∧W.cell? ⟨b,o+k*4+1,none⟩=some (.int .i64 (zs.getD k rO).1.2.1)∧
   W.cell? ⟨b,o+k*4+2,none⟩=some (.int .i64 (zs.getD k rO).1.2.2.1)∧W.cell? ⟨b,o+k*4+3,none⟩=some (.slice (zs.getD k rO).1.2.2.2.1 (zs.getD k rO).1.2.2.2.2.1 (zs.getD k rO).1.2.2.2.2.2)∧Rd W (zs.getD k rO):=by
 have hl:=h.len;obtain⟨b,o,rfl,hb,hc⟩:=h.row.at hk;have g:=fun j hj=>KT (zs:=zs) (i:=k) (j:=j) aG hj;exact⟨b,o,rfl,hb,hc (k*4+0) _ (g 0 aG),hc _ _ (g 1 aG),hc _ _ (g 2 aG),hc _ _ (g 3 aG),h.each _ (ES aG)⟩
theorem Tr.ts {W:World} {a:Option Addr} {n c:Nat} {zs:List wF} (h:Tr W a n c zs):Ts W a n c (zs.map tag):=by
 have hl:=h.len;refine⟨⟨zc zs,h.row,fun i hi=>?_⟩,by simp[hl]⟩;have g:=fun j hj=>KT (zs:=zs) (i:=i) (j:=j) aG hj;have hg:(zs.map tag).getD i (0,0,0, [])=tag (zs.getD i rO):=by
  rw[bH,iJ,bI aG,bH,bI aG];rfl
 rw[hg];exact⟨_,_,_,(by have h0:=g 0 aG;rwa [bU]at h0),g 1 aG,g 2 aG,g 3 aG,h.each _ (ES aG)⟩
theorem Ts.tr {W:World} {a:Option Addr} {n c:Nat} {ts:List Tg} (h:Ts W a n c ts):∃zs,Tr W a n c zs∧zs.map tag=ts:=by
 obtain⟨⟨vs,h1,h2⟩,h3⟩:=h;have hex:∀i,∃q:Option Addr×Nat×Nat,i<n→vs[i*4]? =some (.int .i64 (ts.getD i (0,0,0, [])).1)∧vs[i*4+1]? =some (.int .i64 (ts.getD i (0,0,0, [])).2.1)∧vs[i*4+2]? =some (.int .i64 (ts.getD i (0,0,0, [])).2.2.1)∧
   vs[i*4+3]? =some (.slice q.1 q.2.1 q.2.2)∧Sl W q.1 q.2.1 q.2.2 1 (ints .u8 (ts.getD i (0,0,0, [])).2.2.2):=fun i=>by
  by_cases hi:i<n
  ·obtain⟨a',n',c',h4⟩:=h2 i hi;exact⟨(a',n',c'),fun _=>h4⟩
  ·exact⟨(none,0,0),fun h0=>absurd h0 hi⟩
 obtain⟨q,hq⟩:=Classical.axiomOfChoice hex;obtain⟨f,hf⟩:∃f:Nat→wF,f=fun i=>(((ts.getD i (0,0,0, [])).1,(ts.getD i (0,0,0, [])).2.1,(ts.getD i (0,0,0, [])).2.2.1,(q i).1,(q i).2.1,(q i).2.2),(ts.getD i (0,0,0, [])).2.2.2):=⟨_,rfl⟩;have hvs:vs=zc ((List.range n).map f):=by
  apply List.ext_getElem?;intro j;by_cases hj:j<n*4
  ·have g:=KT (zs:=(List.range n).map f) (i:=j / 4) (j:=j % 4) (by simp;omega) aG;rw[show j / 4*4+j % 4=j by omega]at g;rw[g];have hd:((List.range n).map f).getD (j / 4) rO=f (j / 4):=by simp[show j / 4<n by omega]
   rw[hd,hf];obtain⟨e0,e1,e2,e3,_⟩:=hq (j / 4) aG;have:j % 4=0∨j % 4=1∨j % 4=2∨j % 4=3:=by omega
   rcases this with h|h|h|h
   ·rw[h,show j=j / 4*4 by omega,e0];have:j / 4*4 / 4=j / 4:=by omega
    rw[this];rfl
   ·rw[h,show vs[j]? =vs[j / 4*4+1]? by congr 1;omega,e1];rfl
   ·rw[h,show vs[j]? =vs[j / 4*4+2]? by congr 1;omega,e2];rfl
   ·rw[h,show vs[j]? =vs[j / 4*4+3]? by congr 1;omega,e3];rfl
  ·rw[gI (by rw[h1.len];omega),gI (by rw[a8U];simp;omega)]
 refine⟨(List.range n).map f,⟨hvs▸h1,fun z hz=>?_⟩,?_⟩
 ·obtain⟨i,hi,rfl⟩:=dG.1 hz;rw[hf];exact(hq i (by simpa using hi)).2.2.2.2
 ·apply fE (by simp[h3]);intro i h4 h5;simp[hf,tag,bH,h5]
structure To (B:Nat) (W:World) (a:Option Addr) (n c:Nat) (zs:List wF):Prop where
 row:W.ownsRow B 74 4 (.slice a n c) n (zc zs)
 each:∀z∈zs,Ow B W z
theorem To.tr {B:Nat} {W:World} {a:Option Addr} {n c:Nat} {zs:List wF} (h:To B W a n c zs):Tr W a n c zs:=⟨(Sl.jU h.row).1,fun z hz=>(h.each z hz).rd⟩
theorem To.later {B:Nat} {W W':World} {a:Option Addr} {n c:Nat} {zs:List wF} (h:To B W a n c zs) (hb:Below W.heap.size W W'):To B W' a n c zs:=⟨kC h.row hb,fun z hz=>kC (h.each z hz) hb⟩
theorem Ow.grown {B B':Nat} {W W':World} {z:wF} (h:Ow B W z) {v:Value} {n:Nat} {xs:List Value} (hv:W.ownsRow B' 74 4 v n xs) (hg:W.grownBy W' v.ownBlock):Ow B W' z:=
 World.ownsRow.kept h hg (EF h hv aH)
theorem aPS:(Tryz.prog.info? 5).map (fun i=>(i.zero,i.size,i.bytes))=some (some (.int .u8 0),1,1):=by kernel_rfl
section
attribute [local go_sem] Lib.run_eql_slice_nil
theorem GY (a:Option Addr) (n c:Nat) (z:List Int) (w:World) (hs:Sl w a n c 1 (ints .u8 z)) (hl:n≤140737488355328):
  Calls Tryz.prog 61 #[.slice a n c] w fun e w'=>∃a' c',e= .returned (.slice a' n c')∧w'.ownsRow w.heap.size 5 1 (.slice a' n c') n (ints .u8 z)∧Below w.heap.size w w':=by
 obtain⟨i0,hi,sN,oG,qK⟩:=info_parts aPS;cases a with
 |none=>
  have hc:=hs.fit rfl;subst hc;have hn:n=0:=by have:=hs.le;omega
  subst hn;have hp:z= []:=dN hs.nU;subst hp;clear hs;go_enter Tryz.func61,Tryz.ntmps61;go_wp2;go_ret;exact⟨_,_,rfl,kF _ _ _ _,aY _ _⟩
 |some ad=>
  have pX:=aA hs;clear hs;go_enter Tryz.func61,Tryz.ntmps61;go_wp2_with (at_builtin;refine kK rfl _ _ 24 rfl w.heap.size 5 i0 _ 1 1 Tryz.underlying24 hi sN oG qK rfl aH _ 0 [] rfl (GR w w.heap.size 5 1 0 #[] (aZ _) (by unfold maxLen;omega) rfl) _ n c _ rfl (vU pX.o _) oK aG aH (by simp) ?_;intro a5 c5 w2 ob jT HZ;rw[dU]at ob ⊢;rw[eX]at ob;clear HZ;obtain⟨Ob,Hb2⟩:=aJ ob (((aY _ _).alloc (aZ _) _).trans jT);clear ob jT)
  go_ret;exact⟨_,_,rfl,Ob.o,Hb2.o⟩
theorem a14 (a:Option Addr) (n c:Nat) (zs:List wF) (w:World) (hs:Sl w a n c 4 (zc zs)) (hl:n≤1000000):
  Calls Tryz.prog 119 #[.slice a n c] w fun e w'=>∃a' c',e= .returned (.slice a' n c')∧w'.ownsRow w.heap.size 74 4 (.slice a' n c') n (zc zs)∧Below w.heap.size w w':=by
 obtain⟨i0,z0,hi,hz,oG,qK,QG⟩:=GU;cases a with
 |none=>
  have hc:=hs.fit rfl;subst hc;have hn:n=0:=by have:=hs.le;omega
  subst hn;have hp:zs= []:=dN (by have:=hs.len;rw[a8U]at this;omega);subst hp;clear hs;go_enter Tryz.func119,Tryz.ntmps119;go_wp2;go_ret;exact⟨_,_,rfl,kF _ _ _ _,aY _ _⟩
 |some ad=>
  have pX:=aA hs;clear hs;go_enter Tryz.func119,Tryz.ntmps119;go_wp2_with (at_builtin;refine kK rfl _ _ 22 rfl w.heap.size 74 i0 z0 4 48 Tryz.underlying22 hi hz oG qK QG aH _ 0 [] rfl (GR w w.heap.size 74 4 0 #[] (aZ _) (by unfold maxLen;omega) rfl) _ n c _ rfl (vU pX.o _) aPR aG aH (by simp) ?_;intro a5 c5 w2 ob jT HZ;rw[dU]at ob ⊢;rw[eX]at ob;clear HZ;obtain⟨Ob,Hb2⟩:=aJ ob (((aY _ _).alloc (aZ _) _).trans jT);clear ob jT)
  go_ret;exact⟨_,_,rfl,Ob.o,Hb2.o⟩
end
theorem aB8 (y k:Int) (a:Option Addr) (n c:Nat) (d:List Int) (w:World) (hs:Sl w a n c 1 (ints .u8 d)) (hl:n≤1000000):
  Calls Tryz.prog 169 #[.agg #[.int .i64 y,.int .i64 k,.slice a n c]] w fun e w'=>∃a' c',e= .returned (.agg #[.int .i64 y,.int .i64 k,.slice a' n c'])∧w'.ownsRow w.heap.size 5 1 (.slice a' n c') n (ints .u8 d)∧Below w.heap.size w w':=by
 have pX:=aA hs;clear hs;go_enter Tryz.func169,Tryz.ntmps169;go_wp2_with fail
 have hb:=(aD w (.cells #[.int .i64 y,.int .i64 k,.slice a n c] 72)).alloc (by simp) (.cells #[.int .i64 0,.int .i64 0,.slice none 0 0] 72);refine(GY a n c d _ (pX.o.mono hb) aG).mono ?_;rintro e w2 ⟨a5,c5,rfl,ho,jT⟩;have yZ:=hb.tm jT;have b0:jW w2 w.heap.size 72 #[.int .i64 y,.int .i64 k,.slice a n c]:=jW.late ((sG _ _ (by simp)).trans (mZ _ _)) jT;have b1:jW w2 (w.heap.size+1) 72 #[.int .i64 0,.int .i64 0,.slice none 0 0]:=jW.late (wB _ _ (by simp)) jT;have p0:=b0.cell (i:=0) rfl;have p1:=b0.cell (i:=1) rfl;have p2:=b0.cell (i:=2) rfl;have z2:w2.frozen? ⟨w.heap.size,2,none⟩=false:=b0.frozen 2;have q0:=b1.cell (i:=0) rfl;have q1:=b1.cell (i:=1) rfl;have q2:=b1.cell (i:=2) rfl;have y0:=b1.frozen 0;have y1:=b1.frozen 1;have y2:=b1.frozen 2;simp only[World.size_alloc]at ho;obtain⟨mO,mE,AZ,b0',b1',J8⟩:=aN hb jT yZ b0 b1 ho;clear hb jT yZ b0 b1 ho;go_wp2_with fail
 refine bodyPost_ret (results_cell_row rfl _ _ (w.heap.size+1) 72 #[.int .i64 y,.int .i64 k,.slice a5 n c5] (0,0) _ rfl ((b1'.o.mV aG 2 _).ZO _ _ _) Tryz.underlying72 rfl aF) rfl ?_;refine⟨_,_,rfl,?_,?_⟩
 ·exact kI (UF (lD J8.o aG 2 _) aG _ _ _) aG
 ·exact nG (AZ.o.setCell (p:=⟨w.heap.size,2,none⟩) (aZ _) _) aG _ _ _
def N9 (a b:Int):Int:=if a<b then -1 else if b<a then 1 else 0
theorem aPT (a b:Int) (w:World):Calls Tryz.prog 97 #[.int .i64 a,.int .i64 b] w fun e w'=>e= .returned (.int .i64 (N9 a b))∧w=w':=by
 have hn:∀(x:Int) (W:World),Calls Tryz.prog 155 #[.int .i64 x] W fun e w'=>e= .returned (.bool false)∧W=w':=fun x W=>by
  have hx:(x != x)=false:=by simp
  go_enter Tryz.func155,Tryz.ntmps155;go_wp2;go_ret;exact⟨rfl,rfl⟩
 have hn':=aA hn;clear hn;unfold N9;by_cases h1:a<b
 ·have d1:decide (a<b)=true:=by simp;omega
  rw[if_pos h1];go_enter Tryz.func97,Tryz.ntmps97;go_wp2_with (go_at_call 155;refine(hn'.o _ _).mono ?_;rintro e w' ⟨rfl,rfl⟩)
  go_ret;exact⟨rfl,rfl⟩
 ·have d1:decide (a<b)=false:=by simp;omega
  rw[if_neg h1];by_cases h2:b<a
  ·have d2:decide (b<a)=true:=by simp;omega
   rw[if_pos h2];go_enter Tryz.func97,Tryz.ntmps97;go_wp2_with (go_at_call 155;refine(hn'.o _ _).mono ?_;rintro e w' ⟨rfl,rfl⟩)
   go_ret;exact⟨rfl,rfl⟩
  ·have d2:decide (b<a)=false:=by simp;omega
   rw[if_neg h2];go_enter Tryz.func97,Tryz.ntmps97;go_wp2_with (go_at_call 155;refine(hn'.o _ _).mono ?_;rintro e w' ⟨rfl,rfl⟩)
   go_ret;exact⟨rfl,rfl⟩
theorem aJW (x1 x2 x3:Int) (xa:Option Addr) (xn xc:Nat) (t:Int) (w:World):Calls Tryz.prog 231 #[.agg #[.int .i64 x1,.int .i64 x2,.int .i64 x3,.slice xa xn xc],.int .i64 t] w fun e w'=>e= .returned (.int .i64 (N9 x1 t))∧Below w.heap.size w w':=by
 go_enter Tryz.func231,Tryz.ntmps231;go_wp2_with (go_at_call 97;refine(aPT _ _ _).mono ?_;rintro e w' ⟨rfl,rfl⟩)
 go_ret;exact⟨rfl,(aY _ _).alloc (aZ _) _⟩
end Go.Proofs.YtceclmpmpldmlaaGreat
namespace Go.Proofs.YtceclmpmpldmlaaGreat
open Go.RowKit Tt
def key (zs:List wF) (i:Nat):Int:=(zs.getD i rO).1.1
structure Pos (zs:List wF) (t:Int) (k:Nat):Prop where
 le:k≤zs.length
 lo:∀i,i<k→key zs i<t
 hi:∀i,k≤i→i<zs.length→t≤key zs i
def isB (zs:List wF) (t:Int) (k:Nat):Bool:=decide (k<zs.length)&&decide (key zs k=t)
theorem a0M {zs:List wF} {n:Nat} (hr:∀i,i+1<n→key zs i<key zs (i+1)) {i:Nat}:∀{j:Nat},i<j→j<n→key zs i<key zs j
 |j+1,h1,h2=>by
  rcases dM i j with h|h
  ·have:=a0M hr h aG;have:=hr j h2;omega
  ·obtain rfl:i=j:=by omega
   exact hr i h2
theorem aXW {a b:Int} (h:a<b):N9 a b= -1:=if_pos h
theorem aXX {a:Int}:N9 a a=0:=by unfold N9;simp
theorem aXY {a b:Int} (h:b<a):N9 a b=1:=by unfold N9;rw[if_neg aG,if_pos h]
theorem b5I (a:Option Addr) (n c:Nat) (zs:List wF) (t:Int) (w:World) (hs:Tr w a n c zs) (hr:∀i,i+1<n→key zs i<key zs (i+1)) (hl:n≤1000000):
  Calls Tryz.prog 230 #[.slice a n c,.int .i64 t,.func (.func 231) #[] #[]] w fun e w'=>∃k:Nat,Pos zs t k∧e= .returned (.tuple #[.int .i64 k,.bool (isB zs t k)])∧Below w.heap.size w w':=by
 have qJ:=hs.len;obtain⟨pX,qX,mX⟩:=aK hs hr qJ;clear hs hr qJ;go_enter Tryz.func230,Tryz.ntmps230;go_wp2;go_loopw [9,10] (fun iv jv wr=>∃i j:Nat,i≤j∧j≤n∧iv= .int .i64 i∧jv= .int .i64 j∧Hid (∀l,l<i→key zs l<t)∧Hid (∀l,j≤l→l<n→t≤key zs l)∧Hid (Below w.heap.size w wr)) (fun iv jv _=>(intOf jv).toNat - (intOf iv).toNat)
 case atStart=>exact⟨0,n,by omega,by omega,rfl,rfl,aA (fun l hl=>by omega),aA (fun l h1 h2=>by omega),aA (aY _ _)⟩
 case round=>
  obtain⟨i,j,hij,hjn,rfl,rfl,hlo,hhi,hb⟩:=hrel;by_cases kD:i<j
  ·obtain⟨h,hh⟩:∃h:Nat,h=(i+j) / 2:=⟨_,rfl⟩;have hh1:i≤h:=by omega
   have hh2:h<j:=by omega
   have hh3:h<n:=by omega
   have bD3:(i:Int)<(j:Int):=by omega
   have hhn:(h:Int)<(n:Int):=by omega
   have sS:IntKind.i64.wrap ((i:Int)+j)=i+j:=by rw[bF];omega
   have MQ:IntKind.u64.wrap ((i:Int)+j)=i+j:=by rw[IntKind.wrap_u64];omega
   have HY:((i:Int)+j) / 2=(h:Int):=by omega
   have ZL:IntKind.i64.wrap (h:Int)=h:=by rw[bF];omega
   have hw5:IntKind.i64.wrap ((h:Int)+1)=h+1:=by rw[bF];omega
   obtain⟨b,o,rfl,yZ,f0,f1,f2,f3,_⟩:=(pX.o.mono hb.o).at hh3;have a0F:key zs h=(zs.getD h rO).1.1:=rfl;generalize (zs.getD h rO).1.2.1=x1 at*;generalize (zs.getD h rO).1.2.2.1=x2 at*;generalize (zs.getD h rO).1.2.2.2.1=x3 at*;generalize (zs.getD h rO).1.2.2.2.2.1=x4 at*;generalize (zs.getD h rO).1.2.2.2.2.2=x5 at*;generalize (zs.getD h rO).1.1=x0 at*;have hC:=fun W=>aJW x0 x1 x2 x3 x4 x5 t W;have AJ:(x0<t→∀l,l<h+1→key zs l<t)∧(t≤x0→∀l,h≤l→l<n→t≤key zs l):=by
    refine⟨fun hx l hl=>?_,fun hx l h1 h2=>?_⟩
    ·rcases dM l h with h3|h3
     ·have:=a0M qX.o h3 hh3;omega
     ·obtain rfl:l=h:=by omega
      omega
    ·rcases dM h l with h3|h3
     ·have:=a0M qX.o h3 h2;omega
     ·obtain rfl:l=h:=by omega
      omega
   by_cases hx:x0<t
   ·rw[aXW hx]at hC;obtain⟨hl,MC,aXD,hh'⟩:=aL (AJ.1 hx) hC a0F hh;clear hC a0F hh;clear AJ;go_wp2_with (go_at_call 231;refine(MC.o _).mono ?_;rintro e w2 ⟨rfl,jT⟩;have HB:=aA (hb.o.tm jT);clear jT)
    go_roundw
    case rel=>exact⟨h+1,j,by omega,hjn,by go_num,rfl,hl,hhi,HB⟩
    case measure=>simp[intOf];omega
   ·have U9:=aA (AJ.2 aG);have hc2:decide (N9 x0 t<0)=false:=by
     unfold N9;rw[if_neg hx];split <;> rfl
    obtain⟨q,hq⟩:=aC (N9 x0 t);rw[hq]at hC hc2;obtain⟨MC,aXD,hh',hq'⟩:=aL hC a0F hh hq;clear hC a0F hh hq;clear AJ;go_wp2_with (go_at_call 231;refine(MC.o _).mono ?_;rintro e w2 ⟨rfl,jT⟩;have HB:=aA (hb.o.tm jT);clear jT)
    go_roundw
    case rel=>exact⟨i,h,by omega,by omega,rfl,rfl,hlo,U9,HB⟩
    case measure=>simp[intOf];omega
  ·obtain rfl:i=j:=by omega
   have aOY:=aA (show Pos zs t i from⟨by rw[mX.o];exact hjn,hlo.o,fun l h1 h2=>hhi.o l h1 (by rw[←mX.o];exact h2)⟩);by_cases yJ:i<n
   ·obtain⟨b,o,rfl,yZ,f0,f1,f2,f3,_⟩:=(pX.o.mono hb.o).at yJ;have a0F:key zs i=(zs.getD i rO).1.1:=rfl;generalize (zs.getD i rO).1.2.1=x1 at*;generalize (zs.getD i rO).1.2.2.1=x2 at*;generalize (zs.getD i rO).1.2.2.2.1=x3 at*;generalize (zs.getD i rO).1.2.2.2.2.1=x4 at*;generalize (zs.getD i rO).1.2.2.2.2.2=x5 at*;generalize (zs.getD i rO).1.1=x0 at*;have hC:=fun W=>aJW x0 x1 x2 x3 x4 x5 t W;have bD3:(i:Int)<(n:Int):=by omega
    have ZK:=hhi.o i (aZ _) yJ;rw[a0F]at ZK;by_cases hx:x0=t
    ·have aB9:isB zs t i=true:=by unfold isB;rw[a0F,mX.o];simp[yJ,hx]
     rw[hx,aXX]at hC;rw[hx]at f0;obtain⟨MC,aXD,aBA,TR⟩:=aL hC a0F aB9 hx;clear hC a0F aB9 hx;clear ZK;go_wp2_with (go_at_call 231;refine(MC.o _).mono ?_;rintro e w2 ⟨rfl,jT⟩;have HB:=aA (hb.o.tm jT);clear jT)
     go_ret2;exact⟨i,aOY.o,(by rw[aBA.o];rfl),HB.o⟩
    ·have aB9:isB zs t i=false:=by unfold isB;rw[a0F,mX.o];simp[hx]
     rw[aXY aG]at hC;obtain⟨MC,aXD,aBA,TR⟩:=aL hC a0F aB9 hx;clear hC a0F aB9 hx;clear ZK;go_wp2_with (go_at_call 231;refine(MC.o _).mono ?_;rintro e w2 ⟨rfl,jT⟩;have HB:=aA (hb.o.tm jT);clear jT)
     go_ret2;exact⟨i,aOY.o,(by rw[aBA.o];rfl),HB.o⟩
   ·have hd:decide ((i:Int)<(n:Int))=false:=by simp;omega
    have UB:decide (i<n)=false:=by simp;omega
    have aB9:isB zs t i=false:=by unfold isB;rw[mX.o];simp[yJ]
    have aBA:=aA aB9;clear aB9;go_wp2;go_ret2;exact⟨i,aOY.o,(by rw[aBA.o];rfl),hb.o⟩
theorem b5J (a:Option Addr) (n c:Nat) (zs:List wF) (t:Int) (w:World) (hs:Tr w a n c zs) (hr:∀i,i+1<n→key zs i<key zs (i+1)) (hl:n≤1000000):
  Calls Tryz.prog 170 #[.slice a n c,.int .i64 t] w fun e w'=>∃k:Nat,Pos zs t k∧e= .returned (.tuple #[.int .i64 k,.bool (isB zs t k)])∧Below w.heap.size w w':=by
 have hB:=b5I a n c zs t w hs hr hl;obtain⟨hB',pX,qX⟩:=aK hB hs hr;clear hB hs hr;go_enter Tryz.func170,Tryz.ntmps170;go_wp2_with fail
 refine hB'.o.mono ?_;rintro e w2 ⟨k,hp,rfl,hb⟩;obtain⟨r,U9⟩:=aC (isB zs t k);rw[U9];obtain⟨hp',mO,aXE⟩:=aK hp hb U9;clear hp hb U9;go_wp2;go_ret2;exact⟨k,hp'.o,(by rw[aXE.o];rfl),mO.o⟩
theorem To.le {B B':Nat} {W:World} {a:Option Addr} {n c:Nat} {zs:List wF} (h:To B W a n c zs) (hB:B'≤B):To B' W a n c zs:=⟨kI h.row hB,fun z hz=>kI (h.each z hz) hB⟩
theorem To.len {B:Nat} {W:World} {a:Option Addr} {n c:Nat} {zs:List wF} (h:To B W a n c zs):zs.length=n:=h.tr.len
theorem Ow.put {B B':Nat} {W:World} {z:wF} (h:Ow B W z) {g n c m:Nat} {xs:List Value} (hr:W.ownsRow B' 74 4 (.slice (some ⟨g,0,none⟩) n c) m xs) (i:Nat) (u:Value):Ow B (W.setCell ⟨g,i,none⟩ u) z:=aAW h hr aH rfl i [u]
theorem C8 {zs:List wF} {i:Nat} (hi:i<zs.length) (z:wF):(zs.set i z).getD i rO=z:=by simp[bH,hi]
theorem getD_set_ne {zs:List wF} {i j:Nat} (h:i≠j) (z:wF):(zs.set i z).getD j rO=zs.getD j rO:=by simp[bH,List.getElem?_set_ne h]
theorem aJX {zs:List wF} {i:Nat} {y t k t0 k0:Int} {a a0:Option Addr} {n c n0 c0:Nat} {d d0:List Int} (hi:i<zs.length) (h:zs.getD i rO=((y,t0,k0,a0,n0,c0),d0)):
  (((zc zs).set (i*4+1) (.int .i64 t)).set (i*4+2) (.int .i64 k)).set (i*4+3) (.slice a n c)=zc (zs.set i ((y,t,k,a,n,c),d)):=by
 rw[X5 (z':=((y,t,k0,a0,n0,c0),d)) aG (by rw[h];rfl),
  X5 (z':=((y,t,k,a0,n0,c0),d)) aG (by rw[C8 hi];rfl),List.set_set,
  X5 (z':=((y,t,k,a,n,c),d)) aG (by rw[C8 hi];rfl),List.set_set]
theorem aXZ {zs:List wF} {i:Nat} {y t k:Int} {a:Option Addr} {n c:Nat} {d:List Int} (hi:i<zs.length):
  ((((zc zs).set (i*4) (.int .i64 y)).set (i*4+1) (.int .i64 t)).set (i*4+2) (.int .i64 k)).set (i*4+3) (.slice a n c)=zc (zs.set i ((y,t,k,a,n,c),d)):=by
 obtain⟨⟨⟨y0,t0,k0,a0,n0,c0⟩,d0⟩,hz⟩:∃z,zs.getD i rO=z:=⟨_,rfl⟩;rw[show(zc zs).set (i*4) (.int .i64 y)=(zc zs).set (i*4+0) (.int .i64 y)from rfl,X5 (z':=((y,t0,k0,a0,n0,c0),d)) aG (by rw[hz];rfl),
  aJX (d:=d) (by simpa using hi) (C8 hi _),List.set_set]
theorem aBB {W:World} {B g n c m:Nat} {xs:List Value} {E:TypeId} {sz:Nat} (h:W.ownsRow B E sz (.slice (some ⟨g,0,none⟩) n c) m xs) (i j k:Nat) (x y z:Value):
  (((W.setCell ⟨g,i,none⟩ x).setCell ⟨g,j,none⟩ y).setCell ⟨g,k,none⟩ z).ownsRow B E sz (.slice (some ⟨g,0,none⟩) n c) m (((xs.set i x).set j y).set k z):=DV (DV (DV h i x) j y) k z
theorem Ow.aPU {B B':Nat} {W:World} {z:wF} (h:Ow B W z) {g n c m:Nat} {xs:List Value} (hr:W.ownsRow B' 74 4 (.slice (some ⟨g,0,none⟩) n c) m xs) (i j k:Nat) (x y u:Value):
  Ow B (((W.setCell ⟨g,i,none⟩ x).setCell ⟨g,j,none⟩ y).setCell ⟨g,k,none⟩ u) z:=((h.put hr i x).put (DV hr i x) j y).put (DV (DV hr i x) j y) k u
theorem aMF (a:Option Addr) (n c:Nat) (zs:List wF) (w:World) (hs:Tr w a n c zs) (hl:n≤1000000) (hd:∀z∈zs,z.1.2.2.2.2.1≤1000000):
  Calls Tryz.prog 168 #[.slice a n c] w fun e w'=>∃a' c' zs',e= .returned (.slice a' n c')∧To w.heap.size w' a' n c' zs'∧zs'.map tag=zs.map tag∧Below w.heap.size w w':=by
 have qJ:=hs.len;have hC:=a14 a n c zs w hs.row hl;obtain⟨pX,UB,mX,MC⟩:=aL hs hd qJ hC;clear hs hd qJ hC;go_enter Tryz.func168,Tryz.ntmps168;go_wp2_with fail
 refine MC.o.mono ?_;rintro e w1 ⟨a5,c5,rfl,ho,hb⟩;obtain⟨J8,mO⟩:=aJ ho hb;clear ho hb;go_wp2;go_loopw [10] (fun iv wr=>∃(i:Nat) (zs':List wF),i≤n∧iv= .int .i64 i∧zs'.length=n∧Hid (wr.ownsRow w.heap.size 74 4 (.slice a5 n c5) n (zc zs'))∧Hid (∀j,j<i→Ow w.heap.size wr (zs'.getD j rO))∧Hid (∀j,i≤j→zs'.getD j rO=zs.getD j rO)∧Hid (zs'.map tag=zs.map tag)∧Hid (Below w.heap.size w wr)) (fun iv _=>n - (intOf iv).toNat)
 case atStart=>exact⟨0,zs,by omega,rfl,mX.o,J8,aA (fun j hj=>by omega),aA (fun j _=>rfl),aA rfl,mO⟩
 case round=>
  obtain⟨i,zs',yJ,rfl,hlz,kY,aFH,aFI,aFJ,lI⟩:=hrel;by_cases hi:i<n
  ·have I4:(i:Int)<(n:Int):=by omega
   have sS:IntKind.i64.wrap ((i:Int)+1)=i+1:=by rw[bF];omega
   obtain⟨g,rfl,hBg,bD5,fz,hc⟩:=a0Q kY.o hi;have oG:=aFI.o i (aZ _);have rV:=(pX.o.each _ (ES (zs:=zs) (i:=i) (by rw[mX.o];exact hi))).mono lI.o;have sM:=UB.o _ (ES (zs:=zs) (i:=i) (by rw[mX.o];exact hi));obtain⟨⟨⟨y,t,k,xa,xn,xc⟩,d⟩,hz⟩:∃z,zs.getD i rO=z:=⟨_,rfl⟩;rw[hz]at oG rV sM;have gg:=fun j hj=>KT (zs:=zs') (i:=i) (j:=j) aG hj;rw[oG]at gg;have f0:=hc _ _ (gg 0 aG);have f1:=hc _ _ (gg 1 aG);have f2:=hc _ _ (gg 2 aG);have f3:=hc _ _ (gg 3 aG);simp only[zcl,iL,iM]at f0 f1 f2 f3;rw[bU]at f0;clear gg hc;have hD:=rV;change Sl wr xa xn xc 1 (ints .u8 d)at hD
   change xn≤1000000 at sM
   obtain⟨AQ,a0G,hD',fz'⟩:=aL hz oG hD fz;clear hz oG hD fz;clear rV;go_wp2_with fail
   have jY:=aD wr (.cells #[.int .i64 y,.int .i64 t,.int .i64 k,.slice xa xn xc] 74);refine(aB8 t k xa xn xc d _ (hD'.o.mono jY) sM).mono ?_;rintro e w2 ⟨a6,c6,rfl,vS,jT⟩;have zF:=jY.tm jT;have FY:=kC kY.o zF;have a15:=fun j (hj:j<i)=>kC (aFH.o j hj) zF;have jZ:=lI.o.tm zF;obtain⟨g',hgg,_,bD7,fz2,hc2⟩:=a0Q FY hi;injection hgg with hgg;injection hgg with hgg;subst hgg;have gg:=fun j hj=>KT (zs:=zs') (i:=i) (j:=j) aG hj;rw[a0G.o]at gg;have p1:=hc2 _ _ (gg 1 aG);have p2:=hc2 _ _ (gg 2 aG);have p3:=hc2 _ _ (gg 3 aG);have y1:=fz2 (i*4+1);have y2:=fz2 (i*4+2);have y3:=fz2 (i*4+3);simp only[zcl,iL,iM]at p1 p2 p3;have PZ:=kI vS (show w.heap.size≤_ from bQ lI.o.size (by simp));clear vS f0 f1 f2 f3 gg hc2 fz2 jT zF jY;obtain⟨RI,a8V,jM,NA⟩:=aL FY a15 jZ PZ;clear FY a15 jZ PZ
   go_wp2_with fail
   go_roundw
   case rel=>
    refine⟨i+1,zs'.set i ((y,t,k,a6,xn,c6),d),by omega,by go_num,by rw[List.length_set];exact hlz,aA ?_,aA (fun j hj=>?_),aA (fun j hj=>?_),aA ?_,aA ?_⟩
    ·rw[←aJX aG a0G.o];exact aBB RI.o _ _ _ _ _ _
    ·by_cases J9:j=i
     ·subst J9;rw[C8 aG];exact Ow.aPU (show Ow w.heap.size w2 ((y,t,k,a6,xn,c6),d)from NA.o) RI.o _ _ _ _ _ _
     ·rw[getD_set_ne (fun e=>J9 e.symm)];exact Ow.aPU (a8V.o j aG) RI.o _ _ _ _ _ _
    ·rw[getD_set_ne aG];exact aFI.o j aG
    ·rw[←aFJ.o,List.map_set];apply fE (by simp);intro j h1 h2;by_cases J9:i=j
     ·subst J9;have h3:zs'[i]=((y,t,k,xa,xn,xc),d):=by
       have:=a0G.o;rwa [bH,bI aG]at this
      simp[h3,tag]
     ·simp[List.getElem_set_ne J9]
    ·exact((jM.o.setCell (p:=⟨g,i*4+1,none⟩) hBg _).setCell (p:=⟨g,i*4+2,none⟩) hBg _).setCell (p:=⟨g,i*4+3,none⟩) hBg _
   case measure=>simp[intOf];omega
  ·obtain rfl:i=n:=by omega
   have hd:decide ((i:Int)<(i:Int))=false:=by simp
   go_wp2;go_ret;refine⟨_,_,zs',rfl,⟨kY.o,fun z hz=>?_⟩,aFJ.o,lI.o⟩;obtain⟨j,hj,rfl⟩:=eH hz;have:=aFH.o j aG;rwa [bH,bI hj]at this
def zG (ts:List Tg) (x:Tg):List Tg:=ts.takeWhile (fun y=>decide (y.1<x.1))++x::ts.filter (fun y=>decide (x.1<y.1))
def M4 (ts:List Tg) (t:Int):List Tg:=ts.filter (fun y=>decide (y.1≠t))
theorem a8W {zs:List wF} {i:Nat} (hi:i<zs.length):(zs[i]).1.1=key zs i:=by
 unfold key;rw[bH,bI hi];rfl
theorem aBC {zs:List wF} {t:Int} {k:Nat} (hp:Pos zs t k):∀y∈(zs.map tag).take k,y.1<t:=fun y hy=>by
 rw[←gX]at hy;obtain⟨z,hz,rfl⟩:=dG.1 hy;obtain⟨j,hj,rfl⟩:=eH hz;rw[dV]at hj;have:=hp.lo j aG;rw[←a8W aG]at this;simpa [tag] using this
theorem aPV {zs:List wF} {t:Int} {k:Nat} (hp:Pos zs t k):∀y∈(zs.map tag).drop k,t≤y.1:=fun y hy=>by
 rw[←List.map_drop]at hy;obtain⟨z,hz,rfl⟩:=dG.1 hy;obtain⟨j,hj,rfl⟩:=eH hz;rw[j6]at hj;have:=hp.hi (k+j) aG aG;rw[←a8W aG]at this;simpa [tag] using this
theorem aBD {zs:List wF} {t:Int} {k:Nat} (hr:∀i,i+1<zs.length→key zs i<key zs (i+1)) (hp:Pos zs t k):∀y∈(zs.map tag).drop (k+1),t<y.1:=fun y hy=>by
 rw[←List.map_drop]at hy;obtain⟨z,hz,rfl⟩:=dG.1 hy;obtain⟨j,hj,rfl⟩:=eH hz;rw[j6]at hj;have h1:=hp.hi k (aZ _) aG;have h2:=a0M hr (show k<k+1+j by omega) aG;rw[←a8W (i:=k+1+j) aG]at h2;have h3:(tag ((zs.drop (k+1))[j])).1=(zs[k+1+j]'aG).1.1:=by simp[tag]
 omega
theorem aBE {zs:List wF} {t:Int} {k:Nat} (h:isB zs t k=true):k<zs.length∧key zs k=t:=by
 unfold isB at h;simpa using h
theorem aBF {zs:List wF} {k:Nat} (h:k<zs.length):(zs.map tag).drop k=tag (zs.getD k rO)::(zs.map tag).drop (k+1):=by
 rw[List.drop_eq_getElem_cons (by simpa using h),dZ,bH,bI h];rfl
theorem aMG {zs:List wF} {t:Int} {k:Nat} (hp:Pos zs t k) (hr:∀i,i+1<zs.length→key zs i<key zs (i+1)) (h:isB zs t k=false):∀y∈(zs.map tag).drop k,t<y.1:=fun y hy=>by
 by_cases hk:k<zs.length
 ·rw[aBF hk]at hy;rcases cB.1 hy with rfl|hy
  ·have h1:=hp.hi k (aZ _) hk;have h2:key zs k≠t:=fun e=>by unfold isB at h;simp[hk,e]at h
   show t<key zs k
   omega
  ·exact aBD hr hp y hy
 ·rw[gV (by simp;omega)]at hy;cases hy
theorem aPW {l:List Tg} {k:Nat} {p:Tg→Bool} (h1:∀y∈l.take k,p y=true) (h2:∀y∈l.drop k,p y=false):l.takeWhile p=l.take k:=by
 conv=>lhs;rw[←fF k l]
 rw[List.takeWhile_append_of_pos h1];cases hd:l.drop k with
 |nil=>simp
 |cons y r=>rw[iA (by rw[h2 y (by rw[hd];exact dB)];simp)];simp
theorem aMH {l:List Tg} {k:Nat} {p:Tg→Bool}:l.filter p=(l.take k).filter p++(l.drop k).filter p:=by rw[←fD,fF]
theorem UK {l:List Tg} {p:Tg→Bool} (h:∀y∈l,p y=false):l.filter p= []:=List.filter_eq_nil_iff.2 fun y hy=>by simp[h y hy]
theorem UL {l:List Tg} {p:Tg→Bool} (h:∀y∈l,p y=true):l.filter p=l:=List.filter_eq_self.2 h
theorem b5K {zs:List wF} {x:Tg} {k:Nat} (hp:Pos zs x.1 k) (hr:∀i,i+1<zs.length→key zs i<key zs (i+1)):
  zG (zs.map tag) x=(zs.map tag).take k++x::(zs.map tag).drop (if isB zs x.1 k=true then k+1 else k):=by
 unfold zG;rw[aPW (k:=k) (fun y hy=>by simpa using aBC hp y hy) (fun y hy=>by have:=aPV hp y hy;simpa using this),
  aMH (k:=k),UK (fun y hy=>by have:=aBC hp y hy;simp;omega),eX]
 congr 2
 by_cases hb:isB zs x.1 k=true
 ·obtain⟨h1,h2⟩:=aBE hb;rw[if_pos hb,aBF h1,fZ (by have h3:(tag (zs.getD k rO)).1=x.1:=h2;rw[h3];simp)];exact UL fun y hy=>by have:=aBD hr hp y hy;simpa using this
 ·rw[if_neg hb];exact UL fun y hy=>by have:=aMG hp hr (by simpa using hb) y hy;simpa using this
theorem aJY {zs zs':List wF} (h:zs'.map tag=zs.map tag) (i:Nat):key zs' i=key zs i:=by
 have hl:zs'.length=zs.length:=by simpa using congrArg List.length h
 unfold key;by_cases hi:i<zs.length
 ·have h1:(zs'.map tag)[i]'(by simp;omega)=(zs.map tag)[i]'(by simp;omega):=by simp only[h]
  rw[bH,bH,bI hi,bI (by omega:i<zs'.length)];simp only[dZ,tag,fQ]at h1;exact h1.1
 ·rw[bH,gI aG,bH,gI aG]
theorem aFY {zs:List wF} {k:Nat} (h:k<zs.length) (z:wF):(zs.set k z).map tag=(zs.map tag).take k++tag z::(zs.map tag).drop (k+1):=by
 rw[List.map_set,List.set_eq_take_append_cons_drop,if_pos (by simpa using h)]
theorem To.mV {B:Nat} {W:World} {a:Option Addr} {n c:Nat} {zs:List wF} (h:To B W a n c zs) {g:Nat} (hg:g<B) (i:Nat) (u:Value):To B (W.setCell ⟨g,i,none⟩ u) a n c zs:=
 ⟨lD h.row hg i u,fun z hz=>lD (h.each z hz) hg i u⟩
theorem To.aFZ {B:Nat} {W:World} {a:Option Addr} {n c:Nat} {zs:List wF} (h:To B W a n c zs) {g:Nat} (hg:g<B) (i j k:Nat) (x y u:Value):
  To B (((W.setCell ⟨g,i,none⟩ x).setCell ⟨g,j,none⟩ y).setCell ⟨g,k,none⟩ u) a n c zs:=((h.mV hg i x).mV hg j y).mV hg k u
theorem aG0 {w:World} {B:Nat} {E:TypeId} {sz:Nat} {v:Value} {n:Nat} {xs:List Value} (h:w.ownsRow B E sz v n xs) {g:Nat} (hg:g<B) (i j k:Nat) (x y u:Value):
  (((w.setCell ⟨g,i,none⟩ x).setCell ⟨g,j,none⟩ y).setCell ⟨g,k,none⟩ u).ownsRow B E sz v n xs:=lD (lD (lD h hg i x) hg j y) hg k u
theorem To.put {B:Nat} {W:World} {g n c:Nat} {zs:List wF} (h:To B W (some ⟨g,0,none⟩) n c zs) {k:Nat} (hk:k<zs.length) {y t q:Int} {a:Option Addr} {m p:Nat} {d:List Int} (hx:Ow B W ((y,t,q,a,m,p),d)):
  To B ((((W.setCell ⟨g,k*4,none⟩ (.int .i64 y)).setCell ⟨g,k*4+1,none⟩ (.int .i64 t)).setCell ⟨g,k*4+2,none⟩ (.int .i64 q)).setCell ⟨g,k*4+3,none⟩ (.slice a m p)) (some ⟨g,0,none⟩) n c (zs.set k ((y,t,q,a,m,p),d)):=by
 refine⟨by rw[←aXZ hk];exact aBB (DV h.row _ _) _ _ _ _ _ _,fun z hz=>?_⟩;have WM:∀z,Ow B W z→Ow B ((((W.setCell ⟨g,k*4,none⟩ (.int .i64 y)).setCell ⟨g,k*4+1,none⟩ (.int .i64 t)).setCell ⟨g,k*4+2,none⟩ (.int .i64 q)).setCell ⟨g,k*4+3,none⟩ (.slice a m p)) z:=fun z hz=>(hz.put h.row _ _).aPU (DV h.row _ _) _ _ _ _ _ _;rcases List.mem_or_eq_of_mem_set hz with hz|rfl
 ·exact WM z (h.each z hz)
 ·exact WM _ hx
theorem To.ins {B:Nat} {W W':World} {a a':Option Addr} {n c c':Nat} {zs:List wF} (h:To B W a n c zs) {z:wF} (hz:Ow B W z) {k:Nat} (hr:W'.ownsRow B 74 4 (.slice a' (n+1) c') (n+1) (zc (zs.take k++z::zs.drop k))) (hg:W.grownBy W' (Value.slice a n c).ownBlock):
  To B W' a' (n+1) c' (zs.take k++z::zs.drop k):=⟨hr,fun u hu=>by
 rcases bP.1 hu with hu|hu
 ·exact(h.each u (eT hu)).grown h.row hg
 ·rcases cB.1 hu with rfl|hu
  ·exact hz.grown h.row hg
  ·exact(h.each u (List.mem_of_mem_drop hu)).grown h.row hg⟩
theorem aY0 (a:Option Addr) (n c:Nat) (zs:List wF) (x1 x2 x3:Int) (xa:Option Addr) (xn xc:Nat) (d:List Int) (w:World) (hs:Tr w a n c zs) (hr:∀i,i+1<n→key zs i<key zs (i+1)) (hl:n≤1000000 - 1) (hd:∀z∈zs,z.1.2.2.2.2.1≤1000000)
  (hx:Sl w xa xn xc 1 (ints .u8 d)) (hxn:xn≤1000000):
  Calls Tryz.prog 121 #[.slice a n c,.agg #[.int .i64 x1,.int .i64 x2,.int .i64 x3,.slice xa xn xc]] w fun e w'=>∃a' n' c' zs',e= .returned (.slice a' n' c')∧To w.heap.size w' a' n' c' zs'∧zs'.map tag=zG (zs.map tag) (x1,x2,x3,d)∧Below w.heap.size w w':=by
 have qJ:=hs.len;have pW:=aD w (.cells #[.int .i64 x1,.int .i64 x2,.int .i64 x3,.slice xa xn xc] 74);have hO:=aMF a n c zs _ (hs.mono pW) aG hd;obtain⟨zZ,pX,UB,mX,qX,TR,lF⟩:=aO hO hs hd qJ hr hx pW;clear hO hs hd qJ hr hx pW;go_enter Tryz.func121,Tryz.ntmps121;go_wp2_with fail
 refine zZ.o.mono ?_;rintro e w1 ⟨a1,c1,zs1,rfl,OT,U8,jY⟩;have hr1:∀i,i+1<n→key zs1 i<key zs1 (i+1):=fun i hi=>by rw[aJY U8,aJY U8];exact qX.o i hi
 have b0:jW w1 w.heap.size 74 #[.int .i64 x1,.int .i64 x2,.int .i64 x3,.slice xa xn xc]:=jW.late (mZ _ _) jY;have qC:=lF.o.tm jY;have hX:=aB8 x2 x3 xa xn xc d w1 (TR.o.mono qC) hxn;have p1:=b0.cell (i:=1) rfl;have p2:=b0.cell (i:=2) rfl;have p3:=b0.cell (i:=3) rfl;simp only[World.size_alloc]at OT;clear jY;obtain⟨aY1,aBG,bC0,b0',oD,hX'⟩:=aN OT U8 hr1 b0 qC hX;clear OT U8 hr1 b0 qC hX;go_wp2_with fail
 refine hX'.o.mono ?_;rintro e w2 ⟨a2,c2,rfl,vS,jT⟩;have JE:=oD.o.tm jT;have b1:=b0'.o.late jT;have ht2:=aY1.o.later jT;have kD:w.heap.size<w1.heap.size:=b0'.o.lt;have q0:=b1.cell (i:=0) rfl;have q1:=b1.cell (i:=1) rfl;have q2:=b1.cell (i:=2) rfl;have q3:=b1.cell (i:=3) rfl;have y1:=b1.frozen 1;have y2:=b1.frozen 2;have y3:=b1.frozen 3;clear p1 p2 p3 jT;obtain⟨Q6,rW,b1',aPX⟩:=aL vS JE b1 ht2;clear vS JE b1 ht2;go_wp2_with fail
 have hT3:=aPX.o.aFZ (show w.heap.size<w.heap.size+1 by omega) 1 2 3 (.int .i64 x2) (.int .i64 x3) (.slice a2 xn c2);have hX3:=aG0 Q6.o kD 1 2 3 (.int .i64 x2) (.int .i64 x3) (.slice a2 xn c2);have hB3:=((rW.o.setCell (p:=⟨w.heap.size,1,none⟩) (aZ _) (.int .i64 x2)).setCell (p:=⟨w.heap.size,2,none⟩) (aZ _) (.int .i64 x3)).setCell (p:=⟨w.heap.size,3,none⟩) (aZ _) (.slice a2 xn c2);have b3:=((b1'.o.set 1 (.int .i64 x2)).set 2 (.int .i64 x3)).set 3 (.slice a2 xn c2);clear q0 q1 q2 q3 y1 y2 y3;generalize ((w2.setCell ⟨w.heap.size,1,none⟩ (.int .i64 x2)).setCell ⟨w.heap.size,2,none⟩ (.int .i64 x3)).setCell ⟨w.heap.size,3,none⟩ (.slice a2 xn c2)=w3 at*;refine(b5J a1 n c1 zs1 x1 w3 hT3.tr bC0.o aG).mono ?_;rintro e w4 ⟨k,hp,rfl,mF⟩;have hT4:=(hT3.later mF).le (show w.heap.size≤w.heap.size+1 by omega);have hX4:=kI (kC hX3 mF) (iI kD);have hB4:=hB3.tm mF;have b4:jW w4 w.heap.size 74 #[.int .i64 x1,.int .i64 x2,.int .i64 x3,.slice a2 xn c2]:=b3.late mF;have q0:=b4.cell (i:=0) rfl;have q1:=b4.cell (i:=1) rfl;have q2:=b4.cell (i:=2) rfl;have q3:=b4.cell (i:=3) rfl;have yV:zs1.length=n:=hT4.len;have EL:=b5K (x:=(x1,x2,x3,d)) hp (by rw[yV];exact bC0.o);have BX:=hp.le;cases his:isB zs1 x1 k with
 |true=>
  have hkn:k<n:=by have:=(aBE his).1;omega
  rw[his,if_pos rfl]at EL;obtain⟨g,rfl,hBg,bD5,fz,hc⟩:=a0Q hT4.row hkn;have gg:=fun j hj=>KT (zs:=zs1) (i:=k) (j:=j) aG hj;have f0:=hc _ _ (gg 0 aG);have f1:=hc _ _ (gg 1 aG);have f2:=hc _ _ (gg 2 aG);have f3:=hc _ _ (gg 3 aG);rw[bU]at f0;have y0:=fz (k*4);have y1:=fz (k*4+1);have y2:=fz (k*4+2);have y3:=fz (k*4+3);clear gg hc fz b3 mF hT3 hX3 hB3;obtain⟨hp',bNP,aMI,b5L,ZQ,b4',YE⟩:=aO hp his hT4 hX4 hB4 b4 EL;clear hp his hT4 hX4 hB4 b4 EL;go_wp2_with fail
  go_ret;refine⟨_,_,_,_,rfl,aMI.o.put aG (show Ow w.heap.size w4 ((x1,x2,x3,a2,xn,c2),d)from b5L.o),?_,(((ZQ.o.setCell (p:=⟨g,k*4,none⟩) hBg _).setCell (p:=⟨g,k*4+1,none⟩) hBg _).setCell (p:=⟨g,k*4+2,none⟩) hBg _).setCell (p:=⟨g,k*4+3,none⟩) hBg _⟩;rw[←aBG.o,YE.o,aFY aG];rfl
 |false=>
  rw[his,if_neg (by simp)]at EL;clear b3 mF hT3 hX3 hB3;obtain⟨hp',bNP,aMI,b5L,ZQ,b4',YE⟩:=aO hp his hT4 hX4 hB4 b4 EL;clear hp his hT4 hX4 hB4 b4 EL;go_wp2_with fail
  have ha:=aD w4 (.cells #[.int .i64 x1,.int .i64 x2,.int .i64 x3,.slice a2 xn c2] 74);have hT5:=aMI.o.later ha;have hX5:=kC b5L.o ha;have hB5:=ZQ.o.tm ha;have oJ:(Value.slice a1 n c1).ownBlock≠some w4.heap.size:=fun e=>by
   have:=(aMI.o.row.lt _ e).2;omega
  have bn:jW (w4.alloc (.cells #[.int .i64 x1,.int .i64 x2,.int .i64 x3,.slice a2 xn c2] 74)) w4.heap.size 74 #[.int .i64 x1,.int .i64 x2,.int .i64 x3,.slice a2 xn c2]:=mZ _ _;generalize w4.alloc (.cells #[.int .i64 x1,.int .i64 x2,.int .i64 x3,.slice a2 xn c2] 74)=w5 at*;refine(aFS w.heap.size a1 n c1 (zc zs1) k w4.heap.size _ w5 hT5.row hB5.size aG aG bn rfl oJ aPR (by intro v hv;simp at hv;rcases hv with rfl|rfl|rfl|rfl <;> rfl)).mono ?_;rintro e w6 ⟨a6,c6,rfl,ho6,qQ⟩;have hz:(#[.int .i64 x1,.int .i64 x2,.int .i64 x3,.slice a2 xn c2]:Array Value).toList=zcl ((x1,x2,x3,a2,xn,c2),d):=rfl;rw[hz,aJU,aJV,dH,←zU,←X4]at ho6;have hT6:=hT5.ins (show Ow w.heap.size w5 ((x1,x2,x3,a2,xn,c2),d)from hX5) ho6 qQ;have hB6:=below_grown hB5 qQ hB5.size hT5.row;clear ho6 qQ hT5 hX5 hB5 bn;obtain⟨aBH,aY2⟩:=aJ hT6 hB6;clear hT6 hB6;go_wp2_with fail
  go_ret;refine⟨_,_,_,_,rfl,aBH.o,?_,aY2.o⟩;rw[←aBG.o,YE.o,dI,aW,gX,List.map_drop];rfl
