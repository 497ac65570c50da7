import Derived.Test.YtceclmpmpldmlaaGreatCz00
import Derived.Laws.Bits64
set_option linter.unusedSimpArgs false
set_option linter.unusedVariables false
set_option maxRecDepth 100000
set_option maxHeartbeats 8000000
namespace Tt
open Go Go.RowKit
section
variable {P:Program} {ops:Array Oper} {Q:Exit→Act→World→Prop} {t:Nat} {C:World→Prop}
def pE (P:Program) (ops:Array Oper) (Q:Exit→Act→World→Prop) (t:Nat) (C:World→Prop):Nat→Array Bool→Act→World→Prop
 |0,listed,a,w=>Region.ready .any ops listed= []∧Q .normal a w
 |fuel+1,listed,a,w=>
  (Region.ready .any ops listed= []→Q .normal a w)∧
  ∀i∈Region.ready .any ops listed,wpOp P ops Q i (fun a' w'=>((listed.setIfInBounds i true).getD t true=false→C w')∧pE P ops Q t C fuel (listed.setIfInBounds i true) a' w') a w
theorem XF:∀(fuel:Nat) (listed:Array Bool) (a:Act) (w:World),pE P ops Q t C fuel listed a w→wpAny P .any ops Q fuel listed a w
 |0,_,_,_,h=>h
 |fuel+1,_,_,_,h=>⟨h.1,fun i hi=>wpOp_mono (fun a' w' h'=>XF fuel _ a' w' h'.2) (h.2 i hi)⟩
def a3Z (ops:Array Oper) (t i:Nat):Bool:=match ops[t]? with
 |some o=>o.after.any fun e=>Region.binds .any e&&e.on==i
 |none=>false
theorem NH {i:Nat} {listed:Array Bool} (hw:a3Z ops t i=true) (hr:i∈Region.ready .any ops listed):t ∉ Region.ready .any ops listed:=fun ht=>by
 obtain⟨hun,ot,hot,hall⟩:=mem_ready.1 ht;unfold a3Z at hw;rw[hot]at hw;simp only[Array.any_eq_true,bF,beq_iff_eq]at hw;obtain⟨k,hk,hb,he⟩:=hw;have h1:=hall ot.after[k] (Array.getElem_mem hk) hb;have h0:=(mem_ready.1 hr).1;rw[he]at h1;rcases eH i listed.size with h'|h'
 ·simp[h']at h0 h1;rw[h0]at h1;cases h1
 ·simp[iA h']at h1
theorem a4A {i:Nat} {oi:Oper} {v:Value} (hi:ops[i]? =some oi) (hsel:∀(j:Nat) (o:Oper) cs b,ops[j]? =some o→o.op≠ .select cs b)
  (hQ:∀c a w,Q (.panic c) (a.put oi.dst v) w→Q (.panic c) a w) (hwt:a3Z ops t i=true):
  ∀(fuel:Nat) (listed:Array Bool) (a:Act) (w:World),
   (∀j oj,ops[j]? =some oj→j≠i→listed.getD j true=false→(∀e∈oj.after,Region.binds .any e=true→e.on≠i)→oi.apart ops oj=true)→
   i∈Region.ready .any ops listed→listed.getD t true=false→t≠i→YieldsIf P ops C oi v a→C w→
   pE P ops Q t C fuel (listed.setIfInBounds i true) (a.put oi.dst v) w→pE P ops Q t C (fuel+1) listed a w:=by
 intro fuel;induction fuel with
 |zero=>
  intro listed a w _ hr ht hti hy hS H;refine⟨fun h=>(by rw[h]at hr;cases hr),fun j hj=>?_⟩;by_cases hji:j=i
  ·subst hji;exact hy.wpOp hi hS ⟨fun _=>hS,H⟩
  ·have:=ready_mono hj hji;rw[H.1]at this;cases this
 |succ fuel ih=>
  intro listed a w hfree hr ht hti hy hS H;refine⟨fun h=>(by rw[h]at hr;cases hr),fun j hj=>?_⟩;by_cases hji:j=i
  ·subst hji;exact hy.wpOp hi hS ⟨fun _=>hS,H⟩
  ·have hjt:j≠t:=by rintro rfl;exact NH hwt hr hj
   have h1:=H.2 j (ready_mono hj hji);obtain⟨hjun,oj,hoj,hall⟩:=mem_ready.1 hj;have hnot:∀e∈oj.after,Region.binds .any e=true→e.on≠i:=fun e he hb heq=>by
    have h1:=hall e he hb;have h0:=(mem_ready.1 hr).1;rw[heq]at h1;rcases eH i listed.size with h'|h'
    ·simp[h']at h0 h1;rw[h0]at h1;cases h1
    ·simp[iA h']at h1
   have h2:=wpOp_putIf hoj (hfree j oj hoj hji hjun hnot) (fun cs b=>hsel i oi cs b hi) (fun cs b=>hsel j oj cs b hoj) hQ hy h1;have hfree':∀k ok,ops[k]? =some ok→k≠i→(listed.setIfInBounds j true).getD k true=false→
     (∀e∈ok.after,Region.binds .any e=true→e.on≠i)→oi.apart ops ok=true:=fun k ok hk hki hun hno=>by
    refine hfree k ok hk hki ?_ hno;by_cases hjk:j=k
    ·subst hjk;exact hjun
    ·rw[getD_set_ne true hjk]at hun;exact hun
   have ht2:(listed.setIfInBounds j true).getD t true=false:=by rw[getD_set_ne true hjt];exact ht
   have ht3:((listed.setIfInBounds i true).setIfInBounds j true).getD t true=false:=by rw[getD_set_ne true hjt,getD_set_ne true (Ne.symm hti)];exact ht
   refine wpOp_mono (fun a' w' h3=>⟨fun _=>h3.2.1 ht3,ih (listed.setIfInBounds j true) a' w' hfree' (ready_mono hr (Ne.symm hji)) ht2 hti h3.1 (h3.2.1 ht3) ?_⟩) h2;rw[Array.setIfInBounds_comm _ _ hji];exact h3.2.2
theorem a88 {i:Nat} {oi:Oper} {v:Value} (hi:ops[i]? =some oi) (hsel:∀(j:Nat) (o:Oper) cs b,ops[j]? =some o→o.op≠ .select cs b)
  (hQ:∀c a w,Q (.panic c) (a.put oi.dst v) w→Q (.panic c) a w) (hti:t≠i):
  ∀(fuel:Nat) (listed:Array Bool) (a:Act) (w:World),
   (∀j oj,ops[j]? =some oj→j≠i→listed.getD j true=false→(∀e∈oj.after,Region.binds .any e=true→e.on≠i)→oi.apart ops oj=true)→
   i∈Region.ready .any ops listed→YieldsIf P ops (fun _=>True) oi v a→(listed.getD t true=false→C w)→
   pE P ops Q t C fuel (listed.setIfInBounds i true) (a.put oi.dst v) w→pE P ops Q t C (fuel+1) listed a w:=by
 intro fuel;induction fuel with
 |zero=>
  intro listed a w _ hr hy hS H;refine⟨fun h=>(by rw[h]at hr;cases hr),fun j hj=>?_⟩;by_cases hji:j=i
  ·subst hji;exact hy.wpOp hi trivial ⟨fun h=>hS (by rwa [getD_set_ne true (Ne.symm hti)]at h),H⟩
  ·have:=ready_mono hj hji;rw[H.1]at this;cases this
 |succ fuel ih=>
  intro listed a w hfree hr hy hS H;refine⟨fun h=>(by rw[h]at hr;cases hr),fun j hj=>?_⟩;by_cases hji:j=i
  ·subst hji;exact hy.wpOp hi trivial ⟨fun h=>hS (by rwa [getD_set_ne true (Ne.symm hti)]at h),H⟩
  ·have h1:=H.2 j (ready_mono hj hji);obtain⟨hjun,oj,hoj,hall⟩:=mem_ready.1 hj;have hnot:∀e∈oj.after,Region.binds .any e=true→e.on≠i:=fun e he hb heq=>by
    have h1:=hall e he hb;have h0:=(mem_ready.1 hr).1;rw[heq]at h1;rcases eH i listed.size with h'|h'
    ·simp[h']at h0 h1;rw[h0]at h1;cases h1
    ·simp[iA h']at h1
   have h2:=wpOp_putIf hoj (hfree j oj hoj hji hjun hnot) (fun cs b=>hsel i oi cs b hi) (fun cs b=>hsel j oj cs b hoj) hQ hy h1;have hfree':∀k ok,ops[k]? =some ok→k≠i→(listed.setIfInBounds j true).getD k true=false→
     (∀e∈ok.after,Region.binds .any e=true→e.on≠i)→oi.apart ops ok=true:=fun k ok hk hki hun hno=>by
    refine hfree k ok hk hki ?_ hno;by_cases hjk:j=k
    ·subst hjk;exact hjun
    ·rw[getD_set_ne true hjk]at hun;exact hun
   have hsw:∀(w':World),(((listed.setIfInBounds i true).setIfInBounds j true).getD t true=false→C w')→((listed.setIfInBounds j true).getD t true=false→C w'):=fun w' h h'=>h (by
    rw[Array.setIfInBounds_comm _ _ (Ne.symm hji),getD_set_ne true (Ne.symm hti)];exact h')
   refine wpOp_mono (fun a' w' h3=>⟨hsw w' h3.2.1,ih (listed.setIfInBounds j true) a' w' hfree' (ready_mono hr (Ne.symm hji)) h3.1 (hsw w' h3.2.1) ?_⟩) h2;rw[Array.setIfInBounds_comm _ _ hji];exact h3.2.2
def aVX (ops:Array Oper) (t:Nat):List Nat→Array Bool→Bool
 | [],_=>true
 |i::r,listed=>(Region.ready .any ops listed).contains i&&Region.free .any ops listed i&&a3Z ops t i&&(t != i)&&(listed.getD t true==false)&&aVX ops t r (listed.setIfInBounds i true)
def aVY (ops:Array Oper) (t:Nat):List Nat→Array Bool→Bool
 | [],_=>true
 |i::r,listed=>(Region.ready .any ops listed).contains i&&Region.free .any ops listed i&&(t != i)&&aVY ops t r (listed.setIfInBounds i true)
theorem aMO (hs:Region.noSelect ops=true) (hQ:∀d v c a w,Q (.panic c) (a.put d v) w→Q (.panic c) a w):
  ∀(idx:List Nat) (q:List Oper) (fuel:Nat) (listed:Array Bool) (a:Act) (w:World),idx.map (fun i=>ops[i]?)=q.map some→aVX ops t idx listed=true→q.all wN=true→C w→
   wpQuiet P ops C (fun a'=>pE P ops Q t C fuel (MI idx listed) a' w) q a→pE P ops Q t C (fuel+idx.length) listed a w:=by
 intro idx;induction idx with
 |nil=>
  intro q fuel listed a w hm _ _ _ h;cases q with
  |nil=>exact h
  |cons o q=>simp at hm
 |cons i idx ih=>
  intro q fuel listed a w hm hB hp hS h;cases q with
  |nil=>simp at hm
  |cons o q=>
   simp only[aS,List.cons.injEq]at hm;simp only[aVX,bF,bne_iff_ne,beq_iff_eq]at hB;obtain⟨⟨⟨⟨⟨b1,b2⟩,b3⟩,b4⟩,b5⟩,b6⟩:=hB;simp only[j3,bF]at hp;unfold wpQuiet at h;have key:∀v,YieldsIf P ops C o v a→wpQuiet P ops C (fun a'=>pE P ops Q t C fuel (MI idx (listed.setIfInBounds i true)) a' w) q (a.put o.dst v)→pE P ops Q t C (fuel+(i::idx).length) listed a w:=fun v hy hr=>
    a4A hm.1 (Region.noSelect_spec hs) (fun c a w h=>hQ _ _ c a w h) b3 _ _ _ _ (Region.free_spec hm.1 b2) (by simpa using b1) b5 b4 hy hS (ih q fuel _ _ w hm.2 b6 hp.2 hS hr)
   by_cases hw:Region.wanted o (yielded ops a.tmps)=true
   ·rw[if_pos hw]at h;obtain⟨v,h1,h2⟩:=h;exact key v (wP hp.1 hS hw h1) h2
   ·rw[if_neg hw]at h;exact key undef (.inr ⟨by simpa using hw,rfl⟩) h
theorem aJ6 (hs:Region.noSelect ops=true) (hQ:∀d v c a w,Q (.panic c) (a.put d v) w→Q (.panic c) a w):
  ∀(idx:List Nat) (q:List Oper) (fuel:Nat) (listed:Array Bool) (a:Act) (w:World),idx.map (fun i=>ops[i]?)=q.map some→aVY ops t idx listed=true→q.all wN=true→C w→
   wpQuiet P ops (fun _=>True) (fun a'=>pE P ops Q t C fuel (MI idx listed) a' w) q a→pE P ops Q t C (fuel+idx.length) listed a w:=by
 intro idx;induction idx with
 |nil=>
  intro q fuel listed a w hm _ _ _ h;cases q with
  |nil=>exact h
  |cons o q=>simp at hm
 |cons i idx ih=>
  intro q fuel listed a w hm hB hp hS h;cases q with
  |nil=>simp at hm
  |cons o q=>
   simp only[aS,List.cons.injEq]at hm;simp only[aVY,bF,bne_iff_ne]at hB;obtain⟨⟨⟨b1,b2⟩,b4⟩,b6⟩:=hB;simp only[j3,bF]at hp;unfold wpQuiet at h;have key:∀v,YieldsIf P ops (fun _=>True) o v a→wpQuiet P ops (fun _=>True) (fun a'=>pE P ops Q t C fuel (MI idx (listed.setIfInBounds i true)) a' w) q (a.put o.dst v)→pE P ops Q t C (fuel+(i::idx).length) listed a w:=fun v hy hr=>
    a88 hm.1 (Region.noSelect_spec hs) (fun c a w h=>hQ _ _ c a w h) b4 _ _ _ _ (Region.free_spec hm.1 b2) (by simpa using b1) hy (fun _=>hS) (ih q fuel _ _ w hm.2 b6 hp.2 hS hr)
   by_cases hw:Region.wanted o (yielded ops a.tmps)=true
   ·rw[if_pos hw]at h;obtain⟨v,h1,h2⟩:=h;exact key v (wP (w0:=w) hp.1 trivial hw h1) h2
   ·rw[if_neg hw]at h;exact key undef (.inr ⟨by simpa using hw,rfl⟩) h
theorem nU {l:List Oper} {listed:Array Bool} {a:Act} {w:World} (idx:List Nat) (fuel:Nat) (hs:Region.noSelect l.toArray=true) (hQ:∀d v c a w,Q (.panic c) (a.put d v) w→Q (.panic c) a w)
  (hb:idx.all (·<l.length)=true) (hB:aVX l.toArray t idx listed=true) (hp:(jB l idx).all wN=true) (hS:C w)
  (h:wpQuiet P l.toArray C (fun a'=>pE P l.toArray Q t C fuel (MI idx listed) a' w) (jB l idx) a):pE P l.toArray Q t C (fuel+idx.length) listed a w:=
 aMO hs hQ idx _ fuel listed a w (LH idx hb) hB hp hS h
theorem y8 {l:List Oper} {listed:Array Bool} {a:Act} {w:World} (idx:List Nat) (fuel:Nat) (hs:Region.noSelect l.toArray=true) (hQ:∀d v c a w,Q (.panic c) (a.put d v) w→Q (.panic c) a w)
  (hb:idx.all (·<l.length)=true) (hB:aVY l.toArray t idx listed=true) (hp:(jB l idx).all wN=true) (hS:C w)
  (h:wpQuiet P l.toArray (fun _=>True) (fun a'=>pE P l.toArray Q t C fuel (MI idx listed) a' w) (jB l idx) a):pE P l.toArray Q t C (fuel+idx.length) listed a w:=
 aJ6 hs hQ idx _ fuel listed a w (LH idx hb) hB hp hS h
theorem aJ7 {i fuel:Nat} {o:Oper} {listed:Array Bool} {a:Act} {w:World} (hr:Region.ready .any ops listed= [i]) (ho:ops[i]? =some o)
  (h:wpList P ops (Mid (fun a' w'=>((listed.setIfInBounds i true).getD t true=false→C w')∧pE P ops Q t C fuel (listed.setIfInBounds i true) a' w') Q) [o] a w):pE P ops Q t C (fuel+1) listed a w:=by
 refine⟨fun h0=>(by rw[hr]at h0;cases h0),fun j hj=>?_⟩;rw[hr]at hj;obtain rfl:j=i:=by simpa using hj
 unfold wpOp;simp only[ho];unfold wpList at h;split
 ·rename_i hw;rw[if_pos hw]at h;rcases h with h|⟨h1,a2,w2,h2⟩
  ·exact .inl (OY h)
  ·exact .inr ⟨h1,a2,w2,h2⟩
 ·rename_i hw;rw[if_neg hw]at h;exact h
theorem l6 {l:List Oper} {listed:Array Bool} {a:Act} {w:World} (i fuel:Nat) (hb:decide (i<l.length)=true) (hr:Region.ready .any l.toArray listed= [i])
  (h:wpList P l.toArray (Mid (fun a' w'=>((listed.setIfInBounds i true).getD t true=false→C w')∧pE P l.toArray Q t C fuel (listed.setIfInBounds i true) a' w') Q) (jB l [i]) a w):pE P l.toArray Q t C (fuel+1) listed a w:=by
 have hi:i<l.length:=of_decide_eq_true hb;exact aJ7 (o:=l.getD i a7Z) hr (by rw[aV,aX hi];simp[hi]) h
theorem vV {l:List Oper} {listed:Array Bool} {a:Act} {w:World} (hr:Region.ready .any l.toArray listed= []) (h:Q .normal a w):pE P l.toArray Q t C 0 listed a w:=⟨hr,h⟩
theorem tV {id:Nat} {a:Act} {w:World} {l:List Oper} (hm:P.follows .mixedOrders=true) (n:Nat) (hn:l.length=n)
  (h:pE P l.toArray Q t C n (Array.replicate n false) a w.drew):(Code.region id l.toArray true).wp P Q a w:=by
 refine wp_region_any hm (XF (t:=t) (C:=C) _ _ _ _ ?_);have e:l.toArray.size=n:=by simpa using hn
 rw[e];exact h
def noP (Q:Exit→Act→World→Prop):Exit→Act→World→Prop
 | .panic _,_,_=>False
 |e,a,w=>Q e a w
theorem XG {c:Code} {a:Act} {w:World} (h:c.wp P (noP Q) a w):c.wp P Q a w:=wp_mono h (fun e a w h=>by cases e <;> first|exact h|exact h.elim)
theorem BM {a:Act} {w:World} (h:Q .normal a w):noP Q .normal a w:=h
theorem tL:∀(d:Option Tmp) (v:Value) (c:List PanicEntry) (a:Act) (w:World),noP Q (.panic c) (a.put d v) w→noP Q (.panic c) a w:=fun _ _ _ _ _ h=>h
end
end Tt
namespace Go.Proofs.YtceclmpmpldmlaaGreat
open Go.RowKit Tt
theorem aDB (w:World) (g:Nat) (T:TypeId) (cs:Array Value) (h:jJ w g T cs):∃(S:Type) (f:S→World),Nonempty S∧(∀s,jJ (f s) g T cs)∧∀W,jJ W g T cs→∃s,W=f s:=
 ⟨{W:World // jJ W g T cs},Subtype.val,⟨⟨w,h⟩⟩,fun s=>s.2,fun W h=>⟨⟨W,h⟩,rfl⟩⟩
def aMP (o n i:Nat) (l:List Int) (cs cs':Array Value):Prop:=
 cs'.size=cs.size∧(∀k,k<n→cs'[o+k]? =some (.int .u8 (if k<i∨n≤k+i then l.getD (n - 1 - k) 0 else l.getD k 0)))∧∀k,(k<o∨o+n≤k)→cs'[k]? =cs[k]?
theorem a8A (g o n c:Nat) (cs:Array Value) (l:List Int) (T:TypeId) (w:World) (hb:jJ w g T cs) (hl:l.length=n) (hn:n≤1000000) (hc:∀k,k<n→cs[o+k]? =some (.int .u8 (l.getD k 0))):
  Calls Tryz.prog 149 #[.slice (some ⟨g,o,none⟩) n c] w fun e w'=>e= .returned (.tuple #[])∧∃cs':Array Value,jJ w' g T cs'∧cs'.size=cs.size∧(∀k,k<n→cs'[o+k]? =some (.int .u8 (l.getD (n - 1 - k) 0)))∧(∀k,(k<o∨o+n≤k)→cs'[k]? =cs[k]?)∧But g w w':=by
 have hw0:IntKind.i64.wrap ((n:Int) - 1)=n - 1:=by rw[aY];omega
 obtain⟨hb',hl',hc'⟩:=aG hb hl hc;clear hb hl hc;go_enter Tryz.func149,Tryz.ntmps149;go_wp2;go_loopw [2,3] (fun iv jv wr=>∃(i:Nat) (cs':Array Value),2*i≤n+1∧iv= .int .i64 i∧jv= .int .i64 ((n:Int) - 1 - i)∧Hid (jJ wr g T cs')∧Hid (aMP o n i l cs cs')∧Hid (But g w wr)) (fun iv _ _=>n - (intOf iv).toNat)
 case atStart=>
  refine⟨0,cs,by omega,rfl,by simp,hb',aA ⟨rfl,fun k hk=>?_,fun _ _=>rfl⟩,aA (But.refl _ _)⟩;rw[hc'.o k hk,if_neg (by omega)]
 case round=>
  obtain⟨i,cs',hin,rfl,rfl,hbk,htu,tX⟩:=hrel;by_cases hij:2*i+1<n
  ·obtain⟨j,hj⟩:∃j:Nat,j=n - 1 - i:=⟨_,rfl⟩;have hji:((n:Int) - 1 - i)=(j:Int):=by omega
   rw[hji];have hlt:(i:Int)<(j:Int):=by omega
   have hin2:i<n:=by omega
   have hjn:j<n:=by omega
   have hww:IntKind.i64.wrap ((i:Int)+1)=i+1:=by rw[aY];omega
   have bTB:IntKind.i64.wrap ((j:Int) - 1)=j - 1:=by rw[aY];omega
   have ci:=htu.o.2.1 i hin2;have cj:=htu.o.2.1 j hjn;rw[if_neg (by omega)]at ci cj;obtain⟨x,hx⟩:=aC (l.getD i 0);obtain⟨y,hy⟩:=aC (l.getD j 0);rw[hx]at ci;rw[hy]at cj;obtain⟨Ty,f,hne,hfb,jH⟩:=aDB wr g T cs' hbk.o;have q0:∀s,(f s).cell? ⟨g,o+i,none⟩=some (.int .u8 x):=fun s=>(hfb s).cell ci;have q1:∀s,(f s).cell? ⟨g,o+j,none⟩=some (.int .u8 y):=fun s=>(hfb s).cell cj;have HS:=aA (jH wr.drew hbk.o);have p0:wr.drew.cell? ⟨g,o+i,none⟩=some (.int .u8 x):=jJ.cell (w:=wr.drew) hbk.o ci;have y0:wr.drew.frozen? ⟨g,o+i,none⟩=false:=jJ.frozen (w:=wr.drew) hbk.o (o+i);have hb2:jJ (wr.drew.setCell ⟨g,o+i,none⟩ (.int .u8 y)) g T (cs'.setIfInBounds (o+i) (.int .u8 y)):=jJ.set (w:=wr.drew) hbk.o (o+i) _;have p1:(wr.drew.setCell ⟨g,o+i,none⟩ (.int .u8 y)).cell? ⟨g,o+j,none⟩=some (.int .u8 y):=hb2.cell (by rw[dX (by omega)];exact cj);have y1:(wr.drew.setCell ⟨g,o+i,none⟩ (.int .u8 y)).frozen? ⟨g,o+j,none⟩=false:=hb2.frozen (o+j);have hb3:jJ (wr.setCell ⟨g,o+i,none⟩ (.int .u8 y)) g T (cs'.setIfInBounds (o+i) (.int .u8 y)):=jJ.set (w:=wr) hbk.o (o+i) _;have z0:wr.cell? ⟨g,o+j,none⟩=some (.int .u8 y):=jJ.cell (w:=wr) hbk.o cj;have z1:wr.frozen? ⟨g,o+j,none⟩=false:=jJ.frozen (w:=wr) hbk.o (o+j);have z2:(wr.setCell ⟨g,o+i,none⟩ (.int .u8 y)).cell? ⟨g,o+j,none⟩=some (.int .u8 y):=hb3.cell (by rw[dX (by omega)];exact cj);have z3:(wr.setCell ⟨g,o+i,none⟩ (.int .u8 y)).frozen? ⟨g,o+j,none⟩=false:=hb3.frozen (o+j);clear hb3;have bTC:¬(i=j):=by omega
   have bTD:¬(j=i):=by omega
   obtain⟨bTE,jA,hb2',ci',cj',hx',hy',hj',bKF⟩:=aM hfb jH hb2 ci cj hx hy hj hji;clear hfb jH hb2 ci cj hx hy hj hji;go_wp2_with fail
   refine tV (t:=13) (C:=fun W=>∃s,W=f s) (by kernel_rfl) 16 rfl ?_;refine y8 [0,1,2,3,4,5,6,8,9,10] 6 (by kernel_rfl) (fun d _ _ _ _ h=>by cases d <;> exact h) (by kernel_rfl) (by kernel_rfl) (by kernel_rfl) HS.o ?_;simp only[jB,aS,aT,aQ,aR];iterate 10 (go_big_quiet_step (fail))
   refine wpQuiet_nil ?_;refine nU [7,11] 4 (by kernel_rfl) (fun d _ _ _ _ h=>by cases d <;> exact h) (by kernel_rfl) (by kernel_rfl) (by kernel_rfl) HS.o ?_;simp only[jB,aS,aT,aQ,aR];iterate 2 (go_big_quiet_step (fail))
   refine wpQuiet_nil ?_;refine y8 [12] 3 (by kernel_rfl) (fun d _ _ _ _ h=>by cases d <;> exact h) (by kernel_rfl) (by kernel_rfl) (by kernel_rfl) HS.o ?_;simp only[jB,aS,aT,aQ,aR];iterate 1 (go_big_quiet_step (fail))
   refine wpQuiet_nil ?_;clear q0 q1;refine l6 13 2 (by kernel_rfl) (by kernel_rfl) ?_;simp only[jB,aS,aT,aQ,aR];go_wp2_with fail
   first|refine Mid.mk ⟨fun h=>(by simp[MI]at h),?_⟩|refine Mid.mk ?_
   refine l6 14 1 (by kernel_rfl) (by kernel_rfl) ?_;simp only[jB,aS,aT,aQ,aR];go_wp2_with fail
   first|refine Mid.mk ⟨fun h=>(by simp[MI]at h),?_⟩|refine Mid.mk ?_
   refine l6 15 0 (by kernel_rfl) (by kernel_rfl) ?_;simp only[jB,aS,aT,aQ,aR];go_wp2_with fail
   first|refine Mid.mk ⟨fun h=>(by simp[MI]at h),?_⟩|refine Mid.mk ?_
   refine vV (by kernel_rfl) ?_;clear p0 p1 y0 y1 z0 z1 z2 z3;go_wp2_with fail
   go_roundw
   case rel=>
    refine⟨i+1,_,by omega,by go_num,by have:=bKF.o;show Value.int .i64 _=_;congr 1;omega,aA (hb2'.o.set (o+j) (.int .u8 x)),aA ⟨by simp[htu.o.1],fun k hk=>?_,fun k hk=>?_⟩,aA (((tX.o.trans (But.of_below ((aW wr.heap.size wr).drew))).set _ _).set _ _)⟩
    ·have hjj:=hj'.o;have hsz:o+k<cs'.size:=by have:=htu.o.2.1 k hk;exact(bY.1 this).1
     by_cases hki:k=i
     ·subst hki;rw[dX (by omega),Array.getElem?_setIfInBounds_self_of_lt hsz,if_pos (by omega),←hy'.o,hjj]
     ·by_cases hkj:k=j
      ·subst hkj;rw[Array.getElem?_setIfInBounds_self_of_lt (by simpa using hsz),if_pos (by omega),←hx'.o,show n - 1 - k=i by omega]
      ·rw[dX (by omega),dX (by omega),htu.o.2.1 k hk];by_cases h1:k<i∨n≤k+i
       ·rw[if_pos h1,if_pos (by omega)]
       ·rw[if_neg h1,if_neg (by omega)]
    ·rw[dX (by omega),dX (by omega)];exact htu.o.2.2 k hk
   case measure=>simp[intOf];omega
  ·have hd:decide ((i:Int)<(n:Int) - 1 - i)=false:=by simp;omega
   go_wp2_with fail
   refine bodyPost_end (results_none rfl _ _ _) rfl ?_;refine⟨rfl,cs',hbk.o,htu.o.1,fun k hk=>?_,htu.o.2.2,tX.o⟩;rw[htu.o.2.1 k hk];by_cases h1:k<i∨n≤k+i
   ·rw[if_pos h1]
   ·rw[if_neg h1,show n - 1 - k=k by omega]
def fst {α:Type} (p:α→Bool) (l:List α):Int:=match l.findIdx? p with|some i=>i|none=> -1
theorem J6 {α:Type} {p:α→Bool} {l:List α} {k:Nat} (hk:k<l.length) (h:p l[k]=true) (hn:∀i (hi:i<k),p (l[i]'(by omega))=false):fst p l=k:=by
 unfold fst;rw[gJ.2 ⟨hk,h,fun j hj=>by rw[hn j hj];simp⟩]
theorem NI {α:Type} {p:α→Bool} {l:List α} (hn:∀i (hi:i<l.length),p l[i]=false):fst p l= -1:=by
 unfold fst;rw[List.findIdx?_eq_none_iff.2 (fun x hx=>by obtain⟨i,hi,rfl⟩:=fI hx;exact hn i hi)]
theorem yI {α:Type} {p:α→Bool} {l:List α}:decide (0≤fst p l)=l.any p:=by
 unfold fst;cases h:l.findIdx? p with
 |none=>
  rw[List.findIdx?_eq_none_iff]at h;simp only[show decide ((0:Int)≤ -1)=false from rfl];exact(List.any_eq_false.2 (fun x hx=>by rw[h x hx];simp)).symm
 |some i=>
  obtain⟨hi,hp,_⟩:=gJ.1 h;have h1:decide ((0:Int)≤(i:Int))=true:=by simp
  simp only[h1];exact(List.any_eq_true.2 ⟨_,bL hi,hp⟩).symm
theorem jI {α:Type} {l:List α} {k:Nat} (hk:k<l.length) (d:α):l.getD k d=l[k]:=by rw[aV,aX hk];rfl
theorem aMQ (FX:Nat) (hf:FX=110) (cap:Value) (a:Option Addr) (n c:Nat) (ls:List Int) (p:Int→Bool) (w:World) (hs:Sl w a n c 1 (ints .i64 ls))
  (hc:∀W (x:Int),Below w.heap.size w W→Calls Tryz.prog FX #[.int .i64 x,cap] W fun e W'=>e= .returned (.bool (p x))∧Below W.heap.size W W'):
  Calls Tryz.prog 163 #[.slice a n c,.func (.func FX) #[] #[cap]] w fun e w'=>e= .returned (.int .i64 (fst p ls))∧Below w.heap.size w w':=by
 have hl:=hs.nV;have hm:=hs.max;have hle:=hs.le;obtain⟨hs',hc',hl'⟩:=aG hs hc hl;clear hs hc hl;rcases hf with rfl
 all_goals
  go_enter Tryz.func163,Tryz.ntmps163;go_wp2;go_loopw [8] (fun iv wr=>∃k:Nat,k≤n∧iv= .int .i64 k∧Hid (∀i (hi:i<ls.length),i<k→p ls[i]=false)∧Hid (Below w.heap.size w wr)) (fun iv _=>n - (intOf iv).toNat)
  case atStart=>exact⟨0,by omega,rfl,aA (fun j _ hj=>by omega),aA (aW _ _)⟩
  case round=>
   obtain⟨k,hk,rfl,hall,hb⟩:=hrel;by_cases hlt:k<n
   ·have hww:IntKind.i64.wrap ((k:Int)+1)=k+1:=by rw[aY];omega
    have hkl:k<ls.length:=by rw[hl'.o];exact hlt
    obtain⟨b,o,rfl,hbb,f⟩:=(hs'.o.mono hb.o).at hlt;have f0:=f k _ (oW hkl);rw[jI hkl]at f0;clear f;obtain⟨r,hr⟩:=aC (p (ls[k]'hkl));have HC:=hc'.o wr (ls[k]'hkl) hb.o;rw[hr]at HC;generalize (ls[k]'hkl)=x1 at f0 HC;obtain⟨SK,hr'⟩:=aF HC hr;clear HC hr;go_wp2_with fail
    refine SK.o.mono ?_;rintro e w2 ⟨rfl,hb2⟩;have hbw:=hb.o.tm hb2;clear hb2;cases r with
    |true=>
     have jW:=aA hbw;clear hbw;go_wp2;go_ret;exact⟨by rw[J6 hkl hr'.o (fun i hi=>hall.o i (by omega) hi)];rfl,jW.o⟩
    |false=>
     have nK:∀i (hi:i<ls.length),i<k+1→p ls[i]=false:=fun i hi h=>by
      rcases eH i k with h1|h1
      ·exact hall.o i hi h1
      ·obtain rfl:i=k:=by omega
       exact hr'.o
     obtain⟨jW,lW⟩:=aF hbw nK;clear hbw nK;go_wp2;go_roundw
     case rel=>exact⟨k+1,by omega,by go_num,lW,jW⟩
     case measure=>simp[intOf];omega
   ·obtain rfl:k=n:=by omega
    go_wp2;go_ret;exact⟨by rw[NI (fun i hi=>hall.o i hi (by rw[hl'.o]at hi;exact hi))];rfl,hb.o⟩
theorem aMR (FX:Nat) (hf:FX=110) (cap:Value) (a:Option Addr) (n c:Nat) (ls:List Int) (p:Int→Bool) (w:World) (hs:Sl w a n c 1 (ints .i64 ls))
  (hc:∀W (x:Int),Below w.heap.size w W→Calls Tryz.prog FX #[.int .i64 x,cap] W fun e W'=>e= .returned (.bool (p x))∧Below W.heap.size W W'):
  Calls Tryz.prog 109 #[.slice a n c,.func (.func FX) #[] #[cap]] w fun e w'=>e= .returned (.bool (ls.any p))∧Below w.heap.size w w':=by
 have HX:=aMQ FX hf cap a n c ls p w hs hc;obtain⟨r,hr⟩:=aC (fst p ls);have ha:=yI (p:=p) (l:=ls);rw[hr]at HX ha;obtain⟨q,hq⟩:=aC (ls.any p);rw[hq]at ha ⊢;clear hs hc;obtain⟨HX',hr',hq'⟩:=aG HX hr hq;clear HX hr hq;rcases hf with rfl
 all_goals
  go_enter Tryz.func109,Tryz.ntmps109;go_wp2_with fail
  refine HX'.o.mono ?_;rintro e w2 ⟨rfl,hb2⟩;have hb2':=aA hb2;clear hb2;go_wp2;go_ret;exact⟨rfl,hb2'.o⟩
def FY (size order:Int):Bool:=(size==1||size==2||size==4)&&(order==1||order==2)
theorem aJ8 (n size:Int) (g:Nat) (w:World) (h:w.cell? ⟨g,0,none⟩=some (.int .i64 size)):
  Calls Tryz.prog 110 #[.int .i64 n,.pointer (some ⟨g,0,none⟩)] w fun e w'=>e= .returned (.bool (n==size))∧w=w':=by
 go_enter Tryz.func110,Tryz.ntmps110;go_wp2;go_ret;exact⟨rfl,rfl⟩
theorem EM (size order:Int) (w:World):
  Calls Tryz.prog 49 #[.int .i64 size,.int .i64 order] w fun e w'=>e= .returned (.bool (FY size order))∧Below w.heap.size w w':=by
 obtain⟨W1,hW1⟩:∃W1,W1=(w.alloc (.cells #[.int .i64 size] 3)).alloc (.cells #[.int .i64 1,.int .i64 2,.int .i64 4] 48):=⟨_,rfl⟩;have hb1:Below w.heap.size w W1:=by rw[hW1];exact((aW _ _).alloc (aU _) _).alloc (by simp) _
 have hc:W1.cell? ⟨w.heap.size,0,none⟩=some (.int .i64 size):=by
  rw[hW1];unfold World.cell?;rw[sN _ _ (by simp),mF];rfl
 have hsl:Sl W1 (some ⟨w.heap.size+1,0,none⟩) 3 3 1 (ints .i64 [1,2,4]):=by
  rw[hW1];exact Sl.new' _ _ 1 3 #[.int .i64 1,.int .i64 2,.int .i64 4] (0,0) (by simp) (by omega) rfl
 have hany:([1,2,4]:List Int).any (fun n=>n==size)=(size==1||size==2||size==4):=by
  simp only[List.any_cons,List.any_nil,Bool.or_false];rw[show((1:Int)==size)=(size==1) by exact Bool.beq_comm ..,show((2:Int)==size)=(size==2) by exact Bool.beq_comm ..,show((4:Int)==size)=(size==4) by exact Bool.beq_comm ..,Bool.or_assoc]
 have hc1:w.heap.size<W1.heap.size:=by rw[hW1];simp;omega
 have HC:=aMR 110 rfl (.pointer (some ⟨w.heap.size,0,none⟩)) _ 3 3 [1,2,4] (fun n=>n==size) W1 hsl
  (fun W x hb=>(aJ8 x size _ _ (late hb hc1 hc)).mono fun e w' ⟨h1,h2⟩=>⟨h1,by rw[h2];exact aW _ _⟩)
 rw[hany]at HC;have HC:=aA HC;obtain⟨r,hr⟩:=aC (FY size order);rw[hr];have Hb:=aA hb1;clear hc hsl hb1 hany hc1;go_enter Tryz.func49,Tryz.ntmps49;go_upto_region 2 with fail
 rw[←hW1];obtain⟨hW1',hr'⟩:=aF hW1 hr;clear hW1 hr;go_wp2_with fail
 refine HC.o.mono ?_;rintro e w2 ⟨rfl,hb2⟩;have Hb:=aA (Hb.o.tm hb2);clear hb2;have hr2:=hr'.o;unfold FY at hr2;generalize (size==1||size==2||size==4)=s at*;have h1:∃b,(order==1)=b:=⟨_,rfl⟩;have h2:∃b,(order==2)=b:=⟨_,rfl⟩;obtain⟨b1,h1⟩:=h1;obtain⟨b2,h2⟩:=h2;rw[h1,h2]at hr2;have hr2':=aA hr2;clear hr2;cases s <;> cases b1 <;> cases b2
 all_goals
  go_wp2;go_ret;exact⟨by rw[←hr2'.o];rfl,Hb.o⟩
end Go.Proofs.YtceclmpmpldmlaaGreat
namespace Tt
open Go Go.RowKit
theorem b49 (a b:Nat) (ha:a<9223372036854775808) (hb:b<9223372036854775808):bits .or .i64 (a:Int) (b:Int)=((a|||b:Nat):Int):=by
 have hx:a|||b<2 ^ 63:=Nat.or_lt_two_pow (by omega) (by omega)
 have h1:(BitVec.ofInt 64 (a:Int)).toNat=a:=by rw[BitVec.ofInt_natCast,BitVec.toNat_ofNat];exact fC (by omega)
 have h2:(BitVec.ofInt 64 (b:Int)).toNat=b:=by rw[BitVec.ofInt_natCast,BitVec.toNat_ofNat];exact fC (by omega)
 show IntKind.i64.wrap ((BitVec.ofInt 64 (a:Int)|||BitVec.ofInt 64 (b:Int)).toNat:Int)=_
 rw[BitVec.toNat_or,h1,h2,aY];omega
theorem aVZ (a b:Nat) (ha:a<9223372036854775808) (hb:b<9223372036854775808):bits .and .i64 (a:Int) (b:Int)=((a&&& b:Nat):Int):=by
 have hx:a&&& b<2 ^ 63:=Nat.and_lt_two_pow _ (by omega);have h1:(BitVec.ofInt 64 (a:Int)).toNat=a:=by rw[BitVec.ofInt_natCast,BitVec.toNat_ofNat];exact fC (by omega)
 have h2:(BitVec.ofInt 64 (b:Int)).toNat=b:=by rw[BitVec.ofInt_natCast,BitVec.toNat_ofNat];exact fC (by omega)
 show IntKind.i64.wrap ((BitVec.ofInt 64 (a:Int)&&& BitVec.ofInt 64 (b:Int)).toNat:Int)=_
 rw[BitVec.toNat_and,h1,h2,aY];omega
theorem aW0 {N B:Int} (h0:0≤N) (h1:N<36028797018963968) (h2:0≤B) (h3:B<256):bits .or .i64 (N*256) B=N*256+B:=by
 obtain⟨a,rfl⟩:∃a:Nat,N=a:=⟨N.toNat,by omega⟩;obtain⟨b,rfl⟩:∃b:Nat,B=b:=⟨B.toNat,by omega⟩;have h:=b49 (a*256) b (by omega) (by omega);have h4:=Nat.two_pow_add_eq_or_of_lt (i:=8) (b:=b) (by omega) a;have h5:(2 ^ 8*a:Nat)=a*256:=by omega
 rw[h5]at h4;rw[←h4]at h;rw[show((a*256:Nat):Int)=(a:Int)*256 by omega,show((a*256+b:Nat):Int)=(a:Int)*256+b by omega]at h;exact h
def be (l:List Int):Int:=l.foldl (fun n b=>n*256+b) 0
theorem a4B (l:List Int) (b:Int):be (l++ [b])=be l*256+b:=by unfold be;rw[fM];rfl
theorem take_snoc' {l:List Int} {j:Nat} (h:j<l.length):l.take (j+1)=l.take j++ [l.getD j 0]:=by
 rw[dN,aX h,aV,aX h];rfl
theorem aH0 {l:List Int} {j:Nat} (h:j<l.length):be (l.take (j+1))=be (l.take j)*256+l.getD j 0:=by rw[take_snoc' h,a4B]
theorem OZ {l:List Int} (h:mW l):∀{j:Nat},j≤l.length→0≤be (l.take j)∧be (l.take j)<256 ^ j
 |0,_=>by simp[be]
 |j+1,hj=>by
  have h1:=OZ h (j:=j) (by omega);have h2:=h.get j;rw[aH0 (by omega),Int.pow_succ];omega
end Tt
namespace Go.Proofs.YtceclmpmpldmlaaGreat
open Go.RowKit Tt
def NJ (z:List Int) (at_:Nat) (size:Nat) (order:Int):List Int:=if order=1 then((z.drop at_).take size).reverse else(z.drop at_).take size
def VL (n:Nat) (at_ size order:Int):Bool:=FY size order&&decide (0≤at_)&&decide (at_≤n - size)
def kZ (z:List Int) (at_ size order:Int):Int:=if VL z.length at_ size order=true then be (NJ z at_.toNat size.toNat order)else 0
theorem XH {z:List Int} {at_ size:Nat} {order:Int} (h:at_+size≤z.length):(NJ z at_ size order).length=size:=by
 unfold NJ;split <;> simp <;> omega
theorem XI {z:List Int} (hb:mW z) (at_ size:Nat) (order:Int):mW (NJ z at_ size order):=by
 unfold NJ;split
 ·intro x hx;exact(hb.drop _).take _ x (List.mem_reverse.1 hx)
 ·exact(hb.drop _).take _
theorem aMS {z:List Int} {at_ size i:Nat} {order:Int} (h:at_+size≤z.length) (hi:i<size):(NJ z at_ size order).getD i 0=z.getD (if order=1 then at_+size - 1 - i else at_+i) 0:=by
 unfold NJ;split
 ·rw[aV,List.getElem?_reverse (by simp;omega),dI];rw[if_pos (by simp;omega),eT,aV];congr 2
  simp;omega
 ·rw[aV,dI,if_pos hi,eT,aV]
theorem a2A {size order:Int} (h:FY size order=true):(size=1∨size=2∨size=4)∧(order=1∨order=2):=by
 unfold FY at h;simp at h;omega
theorem a4C (a:Option Addr) (n c:Nat) (z:List Int) (at_ size order:Int) (w:World) (hs:Sl w a n c 1 (ints .u8 z)) (hb:mW z):
  Calls Tryz.prog 14 #[.slice a n c,.int .i64 at_,.int .i64 size,.int .i64 order] w fun e w'=>e= .returned (.tuple #[.int .i64 (kZ z at_ size order),.bool (VL n at_ size order)])∧Below w.heap.size w w':=by
 have hzl:=hs.nV;have hle:=hs.le;have hmx:=hs.max;have hmm:=fun W=>EM size order W;have hgv:kZ z at_ size order=if VL n at_ size order=true then be (NJ z at_.toNat size.toNat order)else 0:=by unfold kZ;rw[hzl]
 rw[hgv];obtain⟨m,hm⟩:=aC (FY size order);rw[hm]at hmm;have hgb:VL n at_ size order=(m&&decide (0≤at_)&&decide (at_≤n - size)):=by unfold VL;rw[hm]
 rw[hgb];obtain⟨hs',hb',mV,hmm'⟩:=aH hs hb hzl hmm;clear hs hb hzl hmm;clear hgv hgb;cases m
 ·clear hm;go_enter Tryz.func14,Tryz.ntmps14;go_wp2_with (go_at_call 49;refine(hmm'.o _).mono ?_;rintro e w1 ⟨rfl,hb1⟩;have HB1:=aA hb1;clear hb1)
  go_ret2;exact⟨rfl,HB1.o⟩
 ·obtain⟨hsz,uN⟩:=a2A hm;clear hm;by_cases ha:at_<0
  ·have d1:decide (at_<0)=true:=by simp;omega
   have d2:decide (0≤at_)=false:=by simp;omega
   rw[d2];clear hsz uN;go_enter Tryz.func14,Tryz.ntmps14;go_wp2_with (go_at_call 49;refine(hmm'.o _).mono ?_;rintro e w1 ⟨rfl,hb1⟩;have HB1:=aA hb1;clear hb1)
   go_ret2;exact⟨rfl,HB1.o⟩
  ·have d1:decide (at_<0)=false:=by simp;omega
   have d2:decide (0≤at_)=true:=by simp;omega
   rw[d2];obtain⟨A,rfl⟩:∃A:Nat,at_=A:=⟨at_.toNat,by omega⟩;obtain⟨s,rfl⟩:∃s:Nat,size=s:=⟨size.toNat,by omega⟩;have hs1:1≤s:=by omega
   have hs4:s≤4:=by omega
   rw[bU,bU];have hwn:IntKind.i64.wrap ((n:Int) - s)=n - s:=by rw[aY];omega
   by_cases hb2:(n:Int) - s<A
   ·have d3:decide ((n:Int) - s<A)=true:=by simp;omega
    have d4:decide ((A:Int)≤n - s)=false:=by simp;omega
    rw[d4];clear hsz uN;go_enter Tryz.func14,Tryz.ntmps14;go_wp2_with (go_at_call 49;refine(hmm'.o _).mono ?_;rintro e w1 ⟨rfl,hb1⟩;have HB1:=aA hb1;clear hb1)
    go_ret2;exact⟨rfl,HB1.o⟩
   ·have d3:decide ((n:Int) - s<A)=false:=by simp;omega
    have d4:decide ((A:Int)≤n - s)=true:=by simp;omega
    rw[d4];have hlen:=XH (order:=order) (show A+s≤z.length by rw[mV.o];omega);have b4A:=XI hb'.o A s order;have hget:=fun i hi=>aMS (z:=z) (at_:=A) (size:=s) (i:=i) (order:=order) (by rw[mV.o];omega) hi;obtain⟨L,hL⟩:=aC (NJ z A s order);rw[hL]at hlen b4A hget ⊢;clear hsz hL;obtain⟨HL,HLB,HG⟩:=aG hlen b4A hget;clear hlen b4A hget;have hAs:A+s≤n:=by omega
    go_enter Tryz.func14,Tryz.ntmps14;go_wp2_with (go_at_call 49;refine(hmm'.o _).mono ?_;rintro e w1 ⟨rfl,hb1⟩;have HB1:=aA hb1;clear hb1)
    go_loop [10,30] (fun v i=>∃k:Nat,k≤s∧i= .int .i64 k∧v= .int .i64 (be (L.take k))) (fun _ i=>s - (intOf i).toNat)
    case atStart=>exact⟨0,by omega,rfl,rfl⟩
    case round=>
     obtain⟨k,hk,rfl,rfl⟩:=hrel;by_cases hlt:k<s
     ·have hbb:=OZ HLB.o (j:=k) (by rw[HL.o];omega);have hnx:=aH0 (l:=L) (j:=k) (by rw[HL.o];exact hlt);have hbt:=HLB.o.get k;have hgk:=HG.o k hlt;have h24:be (L.take k)<16777216:=by
       have:k=0∨k=1∨k=2∨k=3:=by omega
       rcases this with rfl|rfl|rfl|rfl <;> simp at hbb ⊢ <;> omega
      obtain⟨j,hj⟩:∃j,(if order=1 then A+s - 1 - k else A+k)=j:=⟨_,rfl⟩;have hjn:j<n:=by rw[←hj];split <;> omega
      obtain⟨b,o,rfl,bAZ,hc⟩:=(hs'.o.mono HB1.o).at (i:=j) hjn;have f1:=hc j _ (oW (by rw[mV.o];exact hjn));rw[hj]at hgk;rw[←hgk]at f1;obtain⟨B,hB⟩:=aC (L.getD k 0);obtain⟨N,hN⟩:=aC (be (L.take k));rw[hB]at f1 hnx hbt;rw[hN]at hnx hbb h24;rw[hN];have hw1:=aB (N*256) (by omega);have hor:=aW0 (N:=N) (B:=B) (by omega) (by omega) hbt.1 hbt.2;have hw2:IntKind.i64.wrap ((A:Int)+k)=A+k:=by rw[aY];omega
      have hw3:IntKind.i64.wrap ((A:Int)+s)=A+s:=by rw[aY];omega
      have hw4:IntKind.i64.wrap ((A:Int)+s - 1)=A+s - 1:=by rw[aY];omega
      have hw5:IntKind.i64.wrap ((A:Int)+s - 1 - k)=A+s - 1 - k:=by rw[aY];omega
      obtain⟨a1B,CZ,hB',hN',bTF⟩:=aI hnx hbb hB hN hgk;clear hnx hbb hB hN hgk;obtain⟨hb0,bQZ⟩:=hbt;clear hc;by_cases ho:order=1
      ·have d5:(order==1)=true:=by simp[ho]
       rw[if_pos ho]at hj;have hji:(A:Int)+s - 1 - k=(j:Int):=by omega
       rw[hji]at hw5;have bKG:(j:Int)<n:=by omega
       obtain⟨ho',hj'⟩:=aF ho hj;clear ho hj;clear uN hw2;go_wp2;go_round
       case rel=>exact⟨k+1,by omega,by go_num,by rw[a1B.o]⟩
       case measure=>simp[intOf];omega
      ·have d5:(order==1)=false:=by simp[ho]
       rw[if_neg ho]at hj;have hji:(A:Int)+k=(j:Int):=by omega
       rw[hji]at hw2;have bKG:(j:Int)<n:=by omega
       obtain⟨ho',hj'⟩:=aF ho hj;clear ho hj;clear uN hw3 hw4 hw5;go_wp2;go_round
       case rel=>exact⟨k+1,by omega,by go_num,by rw[a1B.o]⟩
       case measure=>simp[intOf];omega
     ·obtain rfl:k=s:=by omega
      go_wp2;go_ret2;exact⟨by rw[bP (by rw[HL.o];omega)];rfl,HB1.o⟩
