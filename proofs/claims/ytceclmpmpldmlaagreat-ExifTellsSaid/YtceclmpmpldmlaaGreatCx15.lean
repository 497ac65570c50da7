import Derived.Test.YtceclmpmpldmlaaGreatCx14
set_option linter.unusedSimpArgs false
set_option linter.unusedVariables false
set_option maxRecDepth 100000
set_option maxHeartbeats 8000000
namespace Go.Proofs.YtceclmpmpldmlaaGreat
open Go.RowKit Tt
theorem aCJ (no:Int):∀(ts:List rM) (l:List nY),l.length≤(oF no ts l).length
 | [],l=>aZ _
 |x::ts,l=>by
  have e:oF no (x::ts) l=oF no ts (if 0<yF x.2.1 x.2.2.1 then pG l 3 no x.1 (yF x.2.1 x.2.2.1)else l):=rfl;rw[e];refine bQ ?_ (aCJ no ts _);split
  ·rw[yO];omega
  ·exact aZ _
theorem RV (f:Nat) (ih:∀(d:jR f) (no:Int) (l:List nY),l.length≤(BF f d no l).length):∀(ss:List (Int×jR f)) (r:List nY×Int),r.1.length≤(l7 f ss r).1.length
 | [],r=>aZ _
 |s::ss,r=>by
  rw[L6];exact bQ (ih s.2 r.2 r.1) (RV f ih ss (BF f s.2 r.2 r.1,r.2+(kQ f s.2).length))
theorem aYI:∀(f:Nat) (d:jR f) (no:Int) (l:List nY),l.length≤(BF f d no l).length:=by
 intro f;induction f with
 |zero=>intro d no l;exact aZ _
 |succ f ih=>
  intro d no l;have h1:=aCJ no d.1 (pG l 2 no 0 (6+12*(qM d.1.length d.2.1.length d.2.2.length:Nat)));have h2:=RV f ih d.2.1 (oF no d.1 (pG l 2 no 0 (6+12*(qM d.1.length d.2.1.length d.2.2.length:Nat))),no+1);rw[yO]at h1;simp only at h2;rw[JQ];split
  ·rw[yO];omega
  ·omega
theorem aRK (f:Nat) (ds:List (jR f)) (hs:∀d∈ds,lN f d) (hN:(lK f ds).length<1000):∃n,(jX f ds).length=n+1:=by
 have h:=RV f (aYI f) (D9 f ds) (pG [] 1 (-1) 0 8,0);have a2G:(pG [] 1 (-1) 0 8).length=1:=rfl;simp only[a2G]at h;exact⟨(jX f ds).length - 1,by unfold jX;omega⟩
theorem aRL (f:Nat) (o:Int) (sa:Option Addr) (sn sc:Nat) (ds:List (jR f)) (w:World) (h:yP f w sa sn sc ds) (hs:∀d∈ds,lN f d) (hN:(lK f ds).length<1000)
  (KH:∀W,Below w.heap.size w W→Calls Tryz.prog 44 #[.agg #[.int .i64 o,.slice sa sn sc]] W fun e W'=>e= .returned (.bool (QS f ds))∧Below W.heap.size W W'):
  Calls Tryz.prog 12 #[.agg #[.int .i64 o,.slice sa sn sc]] w fun e w'=>e= .returned (.int .i64 (nS f ds))∧Below w.heap.size w w':=by
 have tQ:=YV f ds hs hN;obtain⟨n,hn⟩:=aRK f ds hs hN;have hla:=a7M hn;have jY:=aD w (.cells #[.int .i64 o,.slice sa sn sc] 39);have hO:=aCI f o sa sn sc ds _ (h.mono jY) hs hN (fun W hW=>KH W (jY.tm hW));have hx1:GD f ds=true→nS f ds=mM (jX f ds):=fun e=>by unfold nS;rw[if_pos e]
 have TU:GD f ds=false→nS f ds=0:=fun e=>by unfold nS;rw[if_neg (by rw[e];decide)]
 generalize nS f ds=x at*;obtain⟨kR,zZ,pX,h',QA,QB,bTA⟩:=aO jY hO hs h hx1 TU KH;clear jY hO hs h hx1 TU KH;go_enter Tryz.func12,Tryz.ntmps12;go_wp2_with fail
 refine zZ.o.mono ?_;rintro e w2 ⟨hc,jT⟩;have jZ:=kR.o.tm jT;rcases hc with ⟨hf,v,rfl,WW⟩|⟨hf,rfl⟩
 ·obtain⟨xa,xc,rfl⟩:=JN WW;obtain rfl:=QA.o hf;clear QA QB;have nL:=(Sl.jU WW).1;have hm:=nL.max;have BX:=nL.le;rw[hn]at nL BX;obtain⟨b,o',rfl,hb,fe⟩:=nL.elem DW aH (0,0,0,0,0) (show n<n+1 by omega);have f0:=fe 0 _ rfl;have f1:=fe 1 _ rfl;have f2:=fe 2 _ rfl;have f3:=fe 3 _ rfl;have f4:=fe 4 _ rfl;simp only[bU]at f0 f1 f2 f3 f4;clear fe nL WW;obtain⟨r,hr⟩:=aC (mM (jX f ds));rw[hr]at hla tQ;generalize (jX f ds).getD n (0,0,0,0,0)=z at*;obtain⟨z0,z1,z2,z3,z4⟩:=z;simp only at f0 f1 f2 f3 f4 hla;have hw:IntKind.i64.wrap (z3+z4)=r:=by rw[bF];omega
  have sS:IntKind.i64.wrap (((n+1:Nat):Int) - 1)=n:=by rw[bF];omega
  have d1:(0:Int)≤(n:Int):=by omega
  have d2:(n:Int)<((n+1:Nat):Int):=by omega
  have wR:=jZ.alloc jZ.size (.cells #[.int .i64 z0,.int .i64 z1,.int .i64 z2,.int .i64 z3,.int .i64 z4] 50);rw[hn];obtain⟨jM,mE,bV9,zI,hn',qX⟩:=aN jZ jT hla wR hn hr;clear jZ jT hla wR hn hr;go_wp2_with fail
  go_ret;exact⟨KO qX.o.symm,zI.o⟩
 ·obtain rfl:=QB.o hf;clear QA QB;obtain⟨jM,mE⟩:=aJ jZ jT;clear jZ jT;go_wp2_with fail
  go_ret;exact⟨rfl,jM.o⟩
theorem a7R:(Tryz.prog.info? 5).map (fun i=>(i.zero,i.size,i.bytes))=some (some (.int .u8 0),1,1):=by kernel_rfl
theorem EG (a:Option Addr) (n c:Nat) (x:List Int) (w:World) (hx:Sl w a n c 1 (ints .u8 x)) (hn:n≤140737488355328):
  Calls Tryz.prog 33 #[.slice a n c] w fun e w'=>∃a' c',e= .returned (.slice a' n c')∧w'.ownsRow w.heap.size 5 1 (.slice a' n c') n (ints .u8 x)∧Below w.heap.size w w':=by
 obtain⟨i0,hi,sN,oG,qK⟩:=info_parts a7R;go_enter Tryz.func33,Tryz.ntmps33;go_wp2_with (at_builtin;refine kK rfl _ _ 24 rfl w.heap.size 5 i0 _ 1 1 Tryz.underlying24 hi sN oG qK rfl aH _ 0 [] rfl (GR w w.heap.size 5 1 0 #[] (aZ _) (by unfold maxLen;omega) rfl) a n c _ rfl (vU hx _) oK aG aH (by simp) ?_;intro a' c' w1 kY jN aXF)
 rw[dU,eX]at kY;clear aXF;go_wp2;go_ret;exact⟨a',c',aFN rfl,kY,((aY _ _).alloc (aZ _) _).trans jN⟩
theorem a2J (la:Option Addr) (ln lc:Nat) (lS:List Lk) (sat jG lV tag:Int) (w:World) (hl:Sl w la ln lc 2 (fl lkc lS)):
  Calls Tryz.prog 189 #[.agg #[.slice la ln lc,.int .i64 sat,.int .i64 jG,.int .i64 lV],.int .i64 tag] w fun e w'=>e= .returned (.int .i64 (fst (fun y=>y.1==tag) lS))∧Below w.heap.size w w':=by
 have yV:=hl.rP pJ aH;have LX:=hl.max;have BX:=hl.le;have pW:=aD w (.cells #[.slice la ln lc,.int .i64 sat,.int .i64 jG,.int .i64 lV] 35);have b0:=jW.new w 35 #[.slice la ln lc,.int .i64 sat,.int .i64 jG,.int .i64 lV];obtain⟨w1,sS⟩:∃W,w.alloc (.cells #[.slice la ln lc,.int .i64 sat,.int .i64 jG,.int .i64 lV] 35)=W:=⟨_,rfl⟩;rw[sS]at pW b0;obtain⟨gs,WQ⟩:∃g,w.heap.size=g:=⟨_,rfl⟩;rw[WQ]at b0;have hl1:=hl.mono pW;obtain⟨yI,lF,b6G,b0',FZ⟩:=aM hl pW hl1 b0 yV;clear hl pW hl1 b0 yV;go_enter Tryz.func189,Tryz.ntmps189;go_upto_region 1 with fail
 try rw[sS]
 try rw[WQ]
 clear sS;go_wp2_with fail
 go_loopw [5] (fun i wr=>∃(k:Nat),k≤ln∧i= .int .i64 k∧Hid (∀j,j<k→((lS.getD j (0,0)).1==tag)=false)∧Hid (Below w1.heap.size w1 wr)) (fun i _=>ln - (intOf i).toNat)
 case atStart=>exact⟨0,by omega,rfl,aA (fun j hj=>by omega),aA (aY _ _)⟩
 case round=>
  obtain⟨k,hk,rfl,qW,hb⟩:=hrel;have br:=b0'.o.late hb.o;have c0:=br.cell (i:=0) rfl;by_cases kD:k<ln
  ·have bD3:(k:Int)<ln:=by omega
   obtain⟨bb,oo,rfl,yZ,fe⟩:=(b6G.o.mono hb.o).elem pJ aH (0,0) kD;have f0:=fe 0 _ rfl;rw[bU]at f0;obtain⟨x,hx⟩:=aC (lS.getD k (0,0));rw[hx]at f0;clear fe;obtain⟨br',TR⟩:=aJ br hx;clear br hx;cases hxt:(x.1==tag)with
   |true=>
    have hf:fst (fun y=>y.1==tag) lS=k:=RL (by rw[FZ.o];exact kD) (by rw[←jO (d:=(0,0)) (by rw[FZ.o];exact kD),TR.o];exact hxt) (fun i hi=>by rw[←jO (d:=(0,0)) (by rw[FZ.o];omega)];exact qW.o i hi);have QJ:=aA hf;clear hf;go_wp2_with fail
    go_ret;exact⟨by rw[QJ.o];rfl,lF.o.tm hb.o⟩
   |false=>
    go_wp2_with fail
    go_roundw
    case rel=>exact⟨k+1,by omega,by go_num,aA (fun j hj=>by
     by_cases TT:j=k
     ·subst TT;rw[TR.o];exact hxt
     ·exact qW.o j aG),hb⟩
    case measure=>simp[intOf];omega
  ·obtain rfl:k=ln:=by omega
   have hf:fst (fun y=>y.1==tag) lS= -1:=X8 (fun j hj=>by rw[←jO (d:=(0,0)) hj];exact qW.o j (by rw[FZ.o]at hj;exact hj));obtain⟨QJ,br'⟩:=aJ hf br;clear hf br;go_wp2_with fail
   go_ret;exact⟨by rw[QJ.o];rfl,lF.o.tm hb.o⟩
def aYJ (lS:List Lk) (sat jG tag:Int):Bool:=decide (0≤fst (fun y=>y.1==tag) lS)||(sat != 0&&(tag==sat||tag==jG))
theorem aYK (la:Option Addr) (ln lc:Nat) (lS:List Lk) (sat jG lV tag:Int) (w:World) (hl:Sl w la ln lc 2 (fl lkc lS)):
  Calls Tryz.prog 204 #[.agg #[.slice la ln lc,.int .i64 sat,.int .i64 jG,.int .i64 lV],.int .i64 tag] w fun e w'=>e= .returned (.bool (aYJ lS sat jG tag))∧Below w.heap.size w w':=by
 have pW:=aD w (.cells #[.slice la ln lc,.int .i64 sat,.int .i64 jG,.int .i64 lV] 35);have b0:=jW.new w 35 #[.slice la ln lc,.int .i64 sat,.int .i64 jG,.int .i64 lV];obtain⟨w1,sS⟩:∃W,w.alloc (.cells #[.slice la ln lc,.int .i64 sat,.int .i64 jG,.int .i64 lV] 35)=W:=⟨_,rfl⟩;rw[sS]at pW b0;obtain⟨gs,WQ⟩:∃g,w.heap.size=g:=⟨_,rfl⟩;rw[WQ]at b0;have HL:=a2J la ln lc lS sat jG lV tag w1 (hl.mono pW);unfold aYJ;generalize fst (fun(y:Lk)=>y.1==tag) lS=k at*;obtain⟨p,hp⟩:=aC (decide (0≤k));obtain⟨q,hq⟩:=aC (sat != 0);obtain⟨r,hr⟩:=aC (tag==sat);obtain⟨u,hu⟩:=aC (tag==jG);rw[hp,hq,hr,hu];have c0:=b0.cell (i:=0) rfl;have c1:=b0.cell (i:=1) rfl;have c2:=b0.cell (i:=2) rfl;have c3:=b0.cell (i:=3) rfl;obtain⟨yI,lF,HL',b0'⟩:=aL hl pW HL b0;clear hl pW HL b0;go_enter Tryz.func204,Tryz.ntmps204;go_upto_region 1 with fail
 try rw[sS]
 try rw[WQ]
 clear sS;go_wp2_with fail
 refine HL'.o.mono ?_;rintro e w2 ⟨rfl,jT⟩;have b2:=b0'.o.late jT;have d1:=b2.cell (i:=1) rfl;have d2:=b2.cell (i:=2) rfl;clear c0 c1 c2 c3 b0';obtain⟨b2',mE⟩:=aJ b2 jT;clear b2 jT;cases p <;> cases q <;> cases r <;> cases u
 all_goals
  go_wp2_with fail
  go_ret;exact⟨rfl,lF.o.tm mE.o⟩
theorem NU {n k:Nat} {p:Nat→Bool} (hk:k<n) (h:p k=false):(List.range n).all p=false:=by
 cases hh:(List.range n).all p with
 |false=>rfl
 |true=>rw[dQ.1 hh k (dF.2 hk)]at h;exact absurd h aH
theorem DZ {n:Nat} {p:Nat→Bool} (h:∀k,k<n→p k=true):(List.range n).all p=true:=dQ.2 fun k hk=>h k (dF.1 hk)
def tg0:rM:=(0,0,0, [])
def lY:(f:Nat)→jR f
 |0=>()
 |_+1=>([], [], [])
def U4 (s:rQ) (ts:List rM) (k:Nat):Bool:=
 vV (ts.getD k tg0).1&&(decide (k=0)||decide ((ts.getD (k - 1) tg0).1<(ts.getD k tg0).1))&& !RO s (ts.getD k tg0).1&&ZW (ts.getD k tg0)
def zA (s:rQ) (t:Int):Int:=(s.1.getD (fst (fun y=>y.1==t) s.1).toNat (0,0)).2
def J5 {f:Nat} (has:jR f→Int→Bool) (s:rQ) (ss:List (Int×jR f)) (k:Nat):Bool:=
 wU s (ss.getD k (0,lY f)).1&&(decide (k=0)||decide ((ss.getD (k - 1) (0,lY f)).1<(ss.getD k (0,lY f)).1))&&has (ss.getD k (0,lY f)).2 (zA s (ss.getD k (0,lY f)).1)
def ownB (s:rQ) (d:List rM):Bool:=(List.range d.length).all (U4 s d)
def aCK (s:rQ) (e b:Nat):Bool:=decide (1≤e)&&decide (e≤65535)&&(decide (b=0)|| !decide (s.2.1=0))
def nJ (L:List rQ):(f:Nat)→jR f→Int→Bool
 |0,_,_=>false
 |f+1,d,i=>aCK (L.getD i.toNat mD) (qM d.1.length d.2.1.length d.2.2.length) d.2.2.length&&ownB (L.getD i.toNat mD) d.1&&
   (List.range d.2.1.length).all (J5 (nJ L f) (L.getD i.toNat mD) d.2.1)
theorem XH (L:List rQ) (f:Nat) (d:jR (f+1)) (i:Int):nJ L (f+1) d i=
  (aCK (L.getD i.toNat mD) (qM d.1.length d.2.1.length d.2.2.length) d.2.2.length&&ownB (L.getD i.toNat mD) d.1&&(List.range d.2.1.length).all (J5 (nJ L f) (L.getD i.toNat mD) d.2.1)):=rfl
def nA (L:List rQ):Nat→Int
 |0=>0
 |k+1=>(L.getD (nA L k).toNat mD).2.2.2
def chainB (L:List rQ) (n:Nat):Bool:=(List.range n).all fun k=>decide (0≤nA L k)
def hasAll (L:List rQ) (f:Nat) (ds:List (jR f)):Bool:=(List.range ds.length).all fun k=>nJ L f (ds.getD k (lY f)) (nA L k)
def tY (f:Nat) (o:Int) (ds:List (jR f)) (L:List rQ):Int:=
 if(nO L&&(decide (o=1)||decide (o=2))&& !decide (ds.length=0))=true then
  if chainB L ds.length=true then
   if hasAll L f ds=true then(if nS f ds=0 then 7 else 0)else 6
  else 1
 else 1
theorem CG {L:List rQ} (h:nO L=true) {i:Nat} (hi:i<L.length):lX L.length i (L.getD i mD)=true:=by
 unfold nO at h;simp only[bV]at h;exact dQ.1 h.2 i (dF.2 hi)
theorem aCL {L:List rQ} (h:nO L=true):1≤L.length∧L.length≤16:=by
 unfold nO at h;simp only[bV,decide_eq_true_eq]at h;exact h.1
theorem aCM {n i:Nat} {s:rQ} (h:lX n i s=true):s.2.2.2= -1∨((i:Int)<s.2.2.2∧s.2.2.2<n):=by
 unfold lX QM JJ at h;simp only[bV,eY,decide_eq_true_eq]at h;exact h.1.2
theorem a7S {n i k:Nat} {s:rQ} (h:lX n i s=true) (hk:k<s.1.length):nI n i s k=true:=by
 unfold lX at h;simp only[bV]at h;exact dQ.1 h.1.1 k (dF.2 hk)
theorem aGX {n i k:Nat} {s:rQ} (h:nI n i s k=true):(i:Int)<(s.1.getD k (0,0)).2∧(s.1.getD k (0,0)).2<n:=by
 unfold nI JJ at h;simp only[bV,decide_eq_true_eq]at h;exact h.1.2
theorem YW {n i:Nat} {s:rQ} (h:lX n i s=true):(s.2.1=0∧s.2.2.1=0)∨(1≤s.2.1∧s.2.1<s.2.2.1∧s.2.2.1<65536):=by
 unfold lX NI vV at h;simp only[bV,eY,decide_eq_true_eq]at h;omega
theorem I9 {L:List rQ} (h:nO L=true):∀k,nA L k<L.length∧ -1≤nA L k:=by
 have hl:=aCL h;intro k;induction k with
 |zero=>unfold nA;omega
 |succ k ih=>
  unfold nA;have:=aCM (CG h (i:=(nA L k).toNat) aG);omega
theorem NV {L:List rQ} {n:Nat}:chainB L (n+1)=(chainB L n&&decide (0≤nA L n)):=by
 unfold chainB;rw[eO,iU];simp
theorem XI {L:List rQ} {n k:Nat} (hk:k<n) (h:nA L k<0):chainB L n=false:=NU hk (by simp;omega)
theorem BG {α:Type} {p:α→Bool} {l:List α}: -1≤fst p l∧fst p l<l.length:=by
 unfold fst;cases h:l.findIdx? p with
 |none=>simp;omega
 |some i=>
  simp only;have:=List.findIdx?_eq_some_iff_getElem.1 h;obtain⟨h1,_⟩:=this;omega
theorem V6 {L:List rQ} {i:Nat} {t:Int} (h:nO L=true) (hi:i<L.length) (hl:wU (L.getD i mD) t=true):(i:Int)<zA (L.getD i mD) t∧zA (L.getD i mD) t<L.length:=by
 have hs:=CG h hi;have hb:=BG (p:=fun(y:Lk)=>y.1==t) (l:=(L.getD i mD).1);have ha:=BU (p:=fun(y:Lk)=>y.1==t) (l:=(L.getD i mD).1);unfold wU at hl;rw[hl,decide_eq_true_eq]at ha;have:=aGX (a7S hs (k:=(fst (fun(y:Lk)=>y.1==t) (L.getD i mD).1).toNat) aG);exact this
theorem aN7 {n i:Nat} {s:rQ} (h:lX n i s=true) (t:Int):((decide (0<s.2.1)&&(t==s.2.1||t==s.2.2.1))||s.1.any fun y=>y.1==t)=RO s t:=by
 unfold RO wU NJ;rw[Bool.or_comm];congr 1
theorem aYL {n i:Nat} {s:rQ} (h:lX n i s=true) (t:Int):aYJ s.1 s.2.1 s.2.2.1 t=RO s t:=by
 unfold aYJ RO wU NJ;rw[BU];congr 1
 have:=YW h;have e:(s.2.1 != 0)=decide (0<s.2.1):=by
  rw[eD];simp;omega
 rw[e];congr 1
end Go.Proofs.YtceclmpmpldmlaaGreat
namespace Tt
open Go Go.RowKit
theorem wV (w:World) (T:TypeId) (a:Array Value) (U:TypeId) (b:Array Value) (V:TypeId) (c:Array Value):∃WC,((w.alloc (.cells a T)).alloc (.cells b U)).alloc (.cells c V)=WC∧jW WC w.heap.size T a∧jW WC (w.heap.size+1) U b∧jW WC (w.heap.size+2) V c∧Below w.heap.size w WC∧WC.heap.size=w.heap.size+3:=by
 have hA:=jW.new w T a;have hB:=jW.new (w.alloc (.cells a T)) U b;have hC:=jW.new ((w.alloc (.cells a T)).alloc (.cells b U)) V c;rw[show(w.alloc (.cells a T)).heap.size=w.heap.size+1 by simp]at hB;rw[show((w.alloc (.cells a T)).alloc (.cells b U)).heap.size=w.heap.size+2 by simp]at hC;exact⟨_,rfl,(hA.alloc _).alloc _,hB.alloc _,hC,((aD w _).alloc (by simp) _).alloc (by simp <;> omega) _,by simp⟩
theorem nM (w:World) (T:TypeId) (a:Array Value) (U:TypeId) (b:Array Value):∃WC,(w.alloc (.cells a T)).alloc (.cells b U)=WC∧jW WC w.heap.size T a∧jW WC (w.heap.size+1) U b∧Below w.heap.size w WC∧WC.heap.size=w.heap.size+2:=by
 have hA:=jW.new w T a;have hB:=jW.new (w.alloc (.cells a T)) U b;rw[show(w.alloc (.cells a T)).heap.size=w.heap.size+1 by simp]at hB;exact⟨_,rfl,hA.alloc _,hB,(aD w _).alloc (by simp) _,by simp⟩
theorem a2K (B:Nat) (w:World) (p:Addr) (v:Value) (w1:World) (h:Below B w w1) (hc:w1.cell? p=some v):
  ∃(S:Type) (f:S→World),Nonempty S∧(∀s,Below B w (f s))∧(∀s,(f s).cell? p=some v)∧∀W,Below B w W→W.cell? p=some v→∃s,W=f s:=
 ⟨{W:World // Below B w W∧W.cell? p=some v},Subtype.val,⟨⟨w1,h,hc⟩⟩,fun s=>s.2.1,fun s=>s.2.2,fun W h1 h2=>⟨⟨W,h1,h2⟩,rfl⟩⟩
theorem aGY (b:Nat) (w:World):∃(S:Type) (f:S→World),Nonempty S∧(∀s,But b w (f s))∧∀W,But b w W→∃s,W=f s:=
 ⟨{W:World // But b w W},Subtype.val,⟨⟨w,But.refl b w⟩⟩,fun s=>s.2,fun W h=>⟨⟨W,h⟩,rfl⟩⟩
theorem jW.a9H {w w':World} {b k:Nat} {T:TypeId} {cs:Array Value} (h:But b w w') (hb:jW w k T cs) (hk:k≠b):jW w' k T cs:=(h.block k hb.lt hk).trans hb
end Tt
namespace Go.Proofs.YtceclmpmpldmlaaGreat
open Go.RowKit Tt
def lT (x:rM) (o:Int):List Int:=if vH x.2.1 x.2.2.1 x.2.2.2=true then wK x.2.2.2 (kU x.2.1).2.1 o else []
def A9 (b:List Int):List Int:=b++List.replicate (4 - b.length) 0
def a9I (tag:Int) (b:List Int) (o:Int):Bool:=lZ tag 2 o&&decide (b.length≠0)&&decide (b.length≤4)
def MI (x:xB) (o:Int):List Int:=kZ x.1 2 o++kZ x.2.1 2 o++kZ x.2.2.1 4 o++kZ x.2.2.2 4 o
def DL (x:xB) (o:Int):Bool:=lZ x.1 2 o&&lZ x.2.1 2 o&&lZ x.2.2.1 4 o&&lZ x.2.2.2 4 o
def atP (what no tag:Int) (s:nY):Bool:=s.1==what&&s.2.1==no&&s.2.2.1==tag
def oV (l:List nY) (what no tag:Int):Int:=match l.find? (atP what no tag)with
 |some s=>s.2.2.2.1
 |none=>0
def Fits (l:List nY) (n:Nat) (what no tag:Int) (m:Nat):Prop:=(l.any (atP what no tag)=true)∧0≤oV l what no tag∧(oV l what no tag).toNat+m≤n
abbrev Pt:=Nat×List Int
def tO (ps:List Pt) (b:List Int):List Int:=ps.foldl (fun b p=>splice b p.1 p.2) b
theorem l6 (p q:List Pt) (b:List Int):tO (p++q) b=tO q (tO p b):=by unfold tO;rw[gN]
theorem sQ {b MG:List Int} {i:Nat} (h:i+MG.length≤b.length):(splice b i MG).length=b.length:=by unfold splice;simp;omega
def V7 (x:rM) (o:Int):Bool:=a9I x.1 (lT x o) o
def JS (l:List nY) (o no:Int) (x:rM):xB:=(x.1,x.2.1,x.2.2.1,if V7 x o=true then yN (A9 (lT x o)) 0 4 o else oV l 3 no x.1)
def AA (l:List nY) (o no:Int) (x:rM):List Pt:=if V7 x o=true then []else [((oV l 3 no x.1).toNat,lT x o)]
theorem aRM {α:Type} {p:α→Bool} {l:List α} (h:l.any p=true):∃s,l.find? p=some s∧l[(fst p l).toNat]? =some s∧0≤fst p l:=by
 induction l with
 |nil=>cases h
 |cons x r ih=>
  cases hx:p x with
  |true=>
   have hf:fst p (x::r)=0:=RL (k:=0) (by simp) (by simpa using hx) (fun i hi=>by omega);exact⟨x,by simp[List.find?,hx],by rw[hf];rfl,by rw[hf];decide⟩
  |false=>
   have hr:r.any p=true:=by simpa [hx] using h
   obtain⟨s,h1,h2,h3⟩:=ih hr;have hf:fst p (x::r)=fst p r+1:=by
    unfold fst at h3 ⊢;rw[List.findIdx?_cons,hx];cases hh:r.findIdx? p with
    |none=>rw[hh]at h3;simp at h3
    |some i=>simp
   refine⟨s,by simp[List.find?,hx,h1],?_,by omega⟩;rw[hf,show(fst p r+1).toNat=(fst p r).toNat+1 by omega];exact h2
structure Wc where
 gw:Nat
 gb:Nat
 n:Nat
 o:Int
 GH:Option Addr
 H6:Nat
 J6:Nat
 l:List nY
 qa:Option Addr
 qn:Nat
 qc:Nat
 sb:Nat
structure P7 (K:Wc) (w:World) (no:Int) (P:List Int):Prop where
 blk:jW w K.gw 91 #[.slice (some ⟨K.gb,0,none⟩) K.n K.n,.int .i64 K.o,.slice K.GH K.H6 K.J6,.slice K.qa K.qn K.qc,.int .i64 no]
 row:Row w K.gb 5 .u8 P
 len:P.length=K.n
 sp:Sl w K.GH K.H6 K.J6 5 (fl spC K.l)
 a9J:∀x,K.GH=some x→x.block≠K.gw∧x.block≠K.gb
 ne:K.gw≠K.gb
 aCN:∀x,K.GH=some x→x.block<K.sb
 aCO:K.sb≤w.heap.size
abbrev tZ:Value:= .slice none 0 0
theorem RX {w w':World} {a:Option Addr} {n c sz:Nat} {cs:List Value} (h:Sl w a n c sz cs) (hs:w.heap.size≤w'.heap.size) (hb:∀x,a=some x→x.block<w.heap.size→w'.heap[x.block]? =w.heap[x.block]?):Sl w' a n c sz cs:=
 ⟨h.len,h.le,h.max,fun i hi=>by
  obtain⟨g,off,e,kD,hc⟩:=h.lies i hi;refine⟨g,off,e,cK kD hs,fun j v hv=>?_⟩;have h1:=hc j v hv;have h2:=hb _ e kD;unfold World.cell? at h1 ⊢;rw[h2];exact h1,h.fit⟩
theorem P7.later {K:Wc} {w w':World} {no:Int} {P:List Int} (h:P7 K w no P) (hb:Below w.heap.size w w'):P7 K w' no P:=
 ⟨h.blk.late hb,jW.late (T:=5) h.row hb,h.len,h.sp.mono hb,h.a9J,h.ne,h.aCN,bQ h.aCO hb.size⟩
theorem P7.no {K:Wc} {w:World} {no:Int} {P:List Int} (h:P7 K w no P) (m:Int):P7 K (w.setCell ⟨K.gw,4,none⟩ (.int .i64 m)) m P∧Mv K.gw K.gb tZ tZ w (w.setCell ⟨K.gw,4,none⟩ (.int .i64 m)):=by
 have oU:=(But.refl K.gw w).set 4 (.int .i64 m);exact⟨⟨h.blk.set 4 _,(oU.block _ (Row.lt h.row) (Ne.symm h.ne)).trans h.row,h.len,RX h.sp oU.size (fun x e hx=>oU.block _ hx (h.a9J x e).1),h.a9J,h.ne,h.aCN,bQ h.aCO oU.size⟩,Mv.a1P oU (.inl rfl)⟩
theorem a2L {P:Program} {T E:TypeId} (ht:P.underlying T=some (.slice E)) (hE:∀w,(Go.sizeOf E).run P w= .ok 1 w) (g n q:Nat) (h:q<n) (W:World):
  (Instr.sliceAt T (.slice (some ⟨g,0,none⟩) n n) (some (.int .i64 (q:Int))) none none).run P W= .ok (.slice (some ⟨g,q,none⟩) (n - q) (n - q)) W:=by
 have he:P.elem T=E:=by unfold Program.elem;rw[ht]
 rw[run_sliceAt_slice (h:=by rw[he];exact ht),run_slice_l (ht:=by rw[he];exact ht) (h0:=by omega) (h1:=by omega),he,hE];simp only[Result.andThen,sliced];have e2:¬n=q:=by omega
 simp[e2,Addr.add];omega
theorem a2M:∀w,(Go.sizeOf 5).run Tryz.prog w= .ok 1 w:=fun w=>by kernel_rfl
theorem JU {K:Wc} {w:World} {no:Int} {P:List Int} (h:P7 K w no P) (ba:Option Addr) (bm bc:Nat) (MG:List Int) (hs:Sl w ba bm bc 1 (ints .u8 MG)) (q:Nat) (h1:1≤bm) (hq:q+bm≤K.n) (ty:TypeId):
  ∃w',(Builtin.copy_ #[24,24] ty #[.slice (some ⟨K.gb,q,none⟩) (K.n - q) (K.n - q),.slice ba bm bc]).run Tryz.prog w= .ok (goInt (bm:Nat)) w'∧P7 K w' no (splice P q MG)∧Mv K.gw K.gb tZ tZ w w'∧But K.gb w w':=by
 have vF:MG.length=bm:=hs.nU;obtain⟨b,off,e,kD,hc⟩:=hs.lies 0 aG;subst e;have bMF:Nat.min bm (K.n - q)=bm:=by simp[jE];omega
 have rX:(Tryz.prog.info? 5).map (·.size)=some 1:=by kernel_rfl
 have hr:=BZ (P:=Tryz.prog) w 24 24 ty 5 1 K.gb q (K.n - q) (K.n - q) ⟨b,off,none⟩ bm bc (ints .u8 P).toArray 5 (ints .u8 MG) Tryz.underlying24 rX h.row (by rw[bMF,pY,vF,jD]) (fun j v hv=>by rw[fH];exact hc j v hv) (by rw[pY,vF];simp[pY,h.len];omega) oK;rw[bMF]at hr;refine⟨_,hr,?_,?_,⟨rfl,rfl,rfl,by simp[World.setRow],fun k hk h2=>setRow_other w K.gb k _ h2⟩⟩
 ·have ho:∀k,k≠K.gb→(w.setRow K.gb (splice (ints .u8 P).toArray.toList q (ints .u8 MG)).toArray).heap[k]? =w.heap[k]? :=fun k hk=>setRow_other w K.gb k _ hk;refine⟨(ho _ h.ne).trans h.blk,?_,by rw[sQ (by rw[vF,h.len];exact hq)];exact h.len,?_,h.a9J,h.ne,h.aCN,by simp[World.setRow];exact h.aCO⟩
  ·have:=setRow_heap w K.gb (ints .u8 P).toArray (splice (ints .u8 P).toArray.toList q (ints .u8 MG)).toArray 5 (0,0) h.row;unfold Row;rw[this];have e:(ints .u8 P).toArray.toList=ints .u8 P:=by simp
   rw[e,MW]
  ·exact RX h.sp (by simp[World.setRow]) (fun x e hx=>ho _ (h.a9J x e).2)
 ·exact⟨rfl,rfl,rfl,by simp[World.setRow],fun k hk h2 h3 _=>setRow_other w K.gb k _ h3,fun _ h=> .inl h⟩
theorem Mv.blk {g gt:Nat} {w w':World} {k:Nat} {T:TypeId} {cs:Array Value} (h:Mv g gt tZ tZ w w') (hb:jW w k T cs) (h1:k≠g) (h2:k≠gt):jW w' k T cs:=(h.block k hb.lt h1 h2 (by intro e;cases e)).trans hb
theorem Mv.own {g gt:Nat} {w w':World} {B:Nat} {E:TypeId} {sz n:Nat} {v:Value} {xs:List Value} (h:Mv g gt tZ tZ w w') (ho:w.ownsRow B E sz v n xs) (h1:v.ownBlock≠some g) (h2:v.ownBlock≠some gt):w'.ownsRow B E sz v n xs:=by
 obtain⟨hl,hr⟩:=ho;refine⟨hl,?_⟩;rcases hr with hn|⟨b,cap,cur,rfl,hB,hg,r⟩
 ·exact .inl hn
 ·exact .inr ⟨b,cap,cur,rfl,hB,(h.block b (bW.1 hg).1 (fun e=>h1 (by rw[←e];rfl)) (fun e=>h2 (by rw[←e];rfl)) (by intro e;cases e)).trans hg,r⟩
theorem P7.but {K:Wc} {w w':World} {no:Int} {P:List Int} {g:Nat} (h:P7 K w no P) (hb:But g w w') (h1:g≠K.gw) (h2:g≠K.gb) (h3:K.sb≤g):P7 K w' no P:=
 ⟨jW.a9H hb h.blk (Ne.symm h1),(hb.block _ (Row.lt h.row) (Ne.symm h2)).trans h.row,h.len,RX h.sp hb.size (fun x e hx=>hb.block _ hx (by have:=h.aCN x e;omega)),h.a9J,h.ne,h.aCN,bQ h.aCO hb.size⟩
theorem Mv.new {g gt b:Nat} {w w1 w2:World} (h:Mv g gt tZ tZ w w1) (hb:But b w1 w2) (h1:w.heap.size≤b):Mv g gt tZ tZ w w2:=
 ⟨hb.os.trans h.os,hb.tape.trans h.tape,hb.output.trans h.output,bQ h.size hb.size,fun k hk h2 h3 h4=>(hb.block k (cK hk h.size) aG).trans (h.block k hk h2 h3 h4),fun _ e=>by cases e⟩
def Dj (p q:Pt):Prop:=p.1+p.2.length≤q.1∨q.1+q.2.length≤p.1
theorem Dj.symm {p q:Pt} (h:Dj p q):Dj q p:=Or.symm h
theorem wW {b c:List Int} {i:Nat} (h:i+c.length≤b.length) (k:Nat):(splice b i c).getD k 0=if i≤k∧k<i+c.length then c.getD (k - i) 0 else b.getD k 0:=by
 unfold splice;simp only[bH,List.getElem?_append,dW,fV,dV];by_cases h1:k<i
 ·rw[if_pos aG,if_pos h1,if_neg aG]
 ·rw[if_neg aG];by_cases h2:k<i+c.length
  ·rw[if_pos aG,if_pos aG,jC aG]
  ·rw[if_neg aG,if_neg aG];congr 2
   omega
theorem a7T {a b:List Int} (hl:a.length=b.length) (h:∀k,k<a.length→a.getD k 0=b.getD k 0):a=b:=by
 refine fE hl fun k h1 h2=>?_;have:=h k h1;rwa [bH,bH,bI h1,bI h2]at this
theorem aCP {b:List Int} {p q:Pt} (h:Dj p q) (hp:p.1+p.2.length≤b.length) (hq:q.1+q.2.length≤b.length):splice (splice b p.1 p.2) q.1 q.2=splice (splice b q.1 q.2) p.1 p.2:=by
 have e1:=sQ hp;have e2:=sQ hq;refine a7T ((sQ aG).trans (e1.trans (e2.symm.trans (sQ aG).symm))) fun k hk=>?_;rw[wW aG,wW aG,wW aG,wW aG];rcases h with h|h
 ·by_cases h1:q.1≤k∧k<q.1+q.2.length
  ·rw[if_pos h1,if_neg aG,if_pos h1]
  ·rw[if_neg h1];by_cases h2:p.1≤k∧k<p.1+p.2.length
   ·rw[if_pos h2,if_pos h2]
   ·rw[if_neg h2,if_neg h2,if_neg h1]
 ·by_cases h1:q.1≤k∧k<q.1+q.2.length
  ·rw[if_pos h1,if_neg aG,if_pos h1]
  ·rw[if_neg h1];by_cases h2:p.1≤k∧k<p.1+p.2.length
   ·rw[if_pos h2,if_pos h2]
   ·rw[if_neg h2,if_neg h2,if_neg h1]
def InB (n:Nat) (ps:List Pt):Prop:=∀p∈ps,p.1+p.2.length≤n
theorem F6 (p:Pt) (ps:List Pt) (b:List Int):tO (p::ps) b=tO ps (splice b p.1 p.2):=rfl
theorem aRN {ps qs:List Pt} (hpm:ps.Perm qs):∀(b:List Int),InB b.length ps→ps.Pairwise Dj→tO ps b=tO qs b:=by
 induction hpm with
 |nil=>intros;rfl
 |cons p _ ih=>
  intro b h hd;have h1:=sQ (h p (dB ..));rw[F6,F6];exact ih _ (by rw[h1];exact fun r hr=>h r (cZ _ hr)) (fU.1 hd).2
 |swap p q l=>
  intro b h hd;have hq:=h q (dB ..);have hp:=h p (cZ _ (dB ..));have hdj:=(fU.1 hd).1 p (dB ..);rw[F6,F6,F6,F6,aCP hdj hq hp]
 |trans h1 _ ih1 ih2=>
  intro b h hd;rw[ih1 b h hd];exact ih2 b (fun r hr=>h r (h1.mem_iff.2 hr)) ((h1.pairwise_iff (fun {_ _} h=>Dj.symm h)).1 hd)
theorem LA {α β:Type} {f g:α→List β}:∀(l:List α),(∀x∈l,(f x).Perm (g x))→(l.flatMap f).Perm (l.flatMap g)
 | [],_=>gL _
 |x::l,h=>by
  rw[fA,fA];exact(h x (dB ..)).append (LA l fun y hy=>h y (cZ _ hy))
abbrev P8:=Int×Int×Int×Int
def QV (l:List nY) (x:P8):List nY:=pG l x.1 x.2.1 x.2.2.1 x.2.2.2
def placed:Int→List P8→List nY
 |_, []=> []
 |e,x::r=>(x.1,x.2.1,x.2.2.1,vK e,x.2.2.2)::placed (vK e+x.2.2.2) r
def endP:Int→List P8→Int
 |e, []=>e
 |e,x::r=>endP (vK e+x.2.2.2) r
theorem aN8 (l:List nY) (x:P8):mM (QV l x)=vK (mM l)+x.2.2.2:=a1N ..
theorem aCQ:∀(is:List P8) (l:List nY),is.foldl QV l=l++placed (mM l) is∧mM (is.foldl QV l)=endP (mM l) is
 | [],l=>by simp[placed,endP]
 |x::is,l=>by
  have ih:=aCQ is (QV l x);rw[List.foldl_cons,ih.2,ih.1,aN8];refine⟨?_,rfl⟩;unfold QV pG;rw[dH];rfl
theorem a9K:∀(is:List P8) (e:Int),0≤e→(∀x∈is,0≤x.2.2.2)→e≤endP e is
 | [],e,_,_=>iY _
 |x::is,e,h,hx=>by
  have h1:=NK h;have h2:=hx x (dB ..);have:=a9K is (vK e+x.2.2.2) aG fun y hy=>hx y (cZ _ hy);show e≤endP (vK e+x.2.2.2) is
  omega
theorem P9:∀(is:List P8) (e:Int),0≤e→(∀x∈is,0≤x.2.2.2)→∀s∈placed e is,e≤s.2.2.2.1∧s.2.2.2.1 % 2=0∧0≤s.2.2.2.2∧s.2.2.2.1+s.2.2.2.2≤endP e is
 | [],_,_,_,s,hs=>by cases hs
 |x::is,e,h,hx,s,hs=>by
  have h1:=NK h;have h2:=hx x (dB ..);have TR:=fun y hy=>hx y (cZ _ hy);rcases cB.1 hs with rfl|hs
  ·have:=a9K is (vK e+x.2.2.2) aG TR;refine⟨h1.1,?_,h2,this⟩;show vK e % 2=0
   unfold vK;omega
  ·have:=P9 is (vK e+x.2.2.2) aG TR s hs;exact⟨by omega,this.2⟩
def Ahead (s t:nY):Prop:=s.2.2.2.1+s.2.2.2.2≤t.2.2.2.1
theorem V8:∀(is:List P8) (e:Int),0≤e→(∀x∈is,0≤x.2.2.2)→(placed e is).Pairwise Ahead
 | [],_,_,_=>List.Pairwise.nil
 |x::is,e,h,hx=>by
  have h1:=NK h;have h2:=hx x (dB ..);have TR:=fun y hy=>hx y (cZ _ hy);exact iC (fun s hs=>(P9 is _ aG TR s hs).1) (V8 is _ aG TR)
def a2N (x:P8):Int×Int×Int:=(x.1,x.2.1,x.2.2.1)
def LB (x:nY):Int×Int×Int:=(x.1,x.2.1,x.2.2.1)
theorem YX:∀(is:List P8) (e:Int),(placed e is).map LB=is.map a2N
 | [],_=>rfl
 |x::is,e=>by
  show LB _::(placed _ is).map LB=a2N x::is.map a2N
  rw[YX is];rfl
theorem a2O:∀(is:List P8) (e:Int) (x:P8),x∈is→∃s∈placed e is,LB s=a2N x∧s.2.2.2.2=x.2.2.2
 | [],_,_,h=>by cases h
 |y::is,e,x,h=>by
  rcases cB.1 h with rfl|h
  ·exact⟨_,dB ..,rfl,rfl⟩
  ·obtain⟨s,h1,h2⟩:=a2O is (vK e+y.2.2.2) x h;exact⟨s,cZ _ h1,h2⟩
theorem aKC {a b c:Int} {s:nY}:atP a b c s=true↔LB s=(a,b,c):=by
 unfold atP LB;simp[Prod.ext_iff,and_assoc]
theorem aYM {l:List nY} (hd:(l.map LB).Nodup) {s:nY} (hs:s∈l):l.any (atP s.1 s.2.1 s.2.2.1)=true∧oV l s.1 s.2.1 s.2.2.1=s.2.2.2.1:=by
 induction l with
 |nil=>cases hs
 |cons t l ih=>
  obtain⟨h1,h2⟩:=iR.1 hd;rcases cB.1 hs with rfl|hs
  ·have:atP s.1 s.2.1 s.2.2.1 s=true:=aKC.2 rfl;unfold oV;simp[List.find?,this]
  ·obtain⟨i1,i2⟩:=ih h2 hs;have oJ:atP s.1 s.2.1 s.2.2.1 t=false:=by
    cases hh:atP s.1 s.2.1 s.2.2.1 t with
    |false=>rfl
    |true=>exact absurd (dG.2 ⟨s,hs,(aKC.1 hh).symm⟩) h1
   unfold oV at i2 ⊢;rw[List.any_cons,oJ,List.find?,oJ];exact⟨by simpa using i1,i2⟩
def InQ (l:List nY) (Q:nY→Prop) (p:Pt):Prop:=∃s∈l,Q s∧s.2.2.2.1≤p.1∧(p.1:Int)+p.2.length≤s.2.2.2.1+s.2.2.2.2
theorem aN9 {l:List nY} (h:l.Pairwise Ahead) {s t:nY} (hs:s∈l) (ht:t∈l) (hn:s≠t):Ahead s t∨Ahead t s:=by
 induction l with
 |nil=>cases hs
 |cons u l ih=>
  obtain⟨h1,h2⟩:=fU.1 h;rcases cB.1 hs with e1|BO <;> rcases cB.1 ht with e2|ht2
  ·exact absurd (e1.trans e2.symm) hn
  ·exact .inl (e1▸h1 _ ht2)
  ·exact .inr (e2▸h1 _ BO)
  ·exact ih h2 BO ht2
theorem V9 {l:List nY} (h:l.Pairwise Ahead) {Q R:nY→Prop} {p q:Pt} (hp:InQ l Q p) (hq:InQ l R q) (hx:∀s,Q s→R s→False):Dj p q:=by
 obtain⟨s,hs,h1,h2,h3⟩:=hp;obtain⟨t,ht,h4,h5,h6⟩:=hq;have hn:s≠t:=fun e=>hx s h1 (e▸h4);unfold Dj;rcases aN9 h hs ht hn with h7|h7 <;> unfold Ahead at h7 <;> omega
theorem InQ.mono {l:List nY} {Q R:nY→Prop} {p:Pt} (h:InQ l Q p) (hx:∀s,Q s→R s):InQ l R p:=by
 obtain⟨s,h1,h2,h3⟩:=h;exact⟨s,h1,hx s h2,h3⟩
theorem nQ {n s o:Int} (h:lZ n s o=true):(kZ n s o).length=s.toNat:=by
 unfold kZ;rw[if_pos h];split <;> simp[UQ]
def VA (x:xB) (o k:Int):List Int:=
 if k=0 then []else if k=1 then kZ x.1 2 o else if k=2 then kZ x.1 2 o++kZ x.2.1 2 o else if k=3 then kZ x.1 2 o++kZ x.2.1 2 o++kZ x.2.2.1 4 o else MI x o
def a02 (k:Int):Nat:=if k=0 then 0 else if k=1 then 2 else if k=2 then 4 else if k=3 then 8 else 12
theorem aGZ:(Tryz.prog.info? 5).map (fun i=>(i.zero,i.size,i.bytes))=some (some (.int .u8 0),1,1):=by kernel_rfl
theorem mH {w:World} {B:Nat} {E T:TypeId} {sz:Nat} {v:Value} {n g:Nat} {xs:List Value} {cs:Array Value} (h:w.ownsRow B E sz v n xs) (hb:jW w g T cs) (hE:E≠T):v.ownBlock≠some g:=fun e=>by
 rcases h.2 with ⟨rfl,_⟩|⟨g',cap,cur,rfl,_,hg,_⟩
 ·cases e
 ·obtain rfl:g'=g:=by injection e
  unfold jW at hb;rw[hb]at hg;injection hg with hg;injection hg with h1 h2;exact hE h2.symm
theorem a2P (x0 x1 x2 x3 o:Int) (w:World) (D5:DL (x0,x1,x2,x3) o=true):
  Calls Tryz.prog 98 #[.agg #[.int .i64 x0,.int .i64 x1,.int .i64 x2,.int .i64 x3],.int .i64 o] w fun e w'=>∃a c,e= .returned (.tuple #[.slice a 12 c,.bool true])∧w'.ownsRow w.heap.size 5 1 (.slice a 12 c) 12 (ints .u8 (MI (x0,x1,x2,x3) o))∧Below w.heap.size w w':=by
 obtain⟨i0,hi,sN,oG,qK⟩:=info_parts aGZ;unfold DL at D5;simp only[bV]at D5;obtain⟨W1,pR,bA,bB,jY,s1⟩:=nM w 55 #[.int .i64 x0,.int .i64 x1,.int .i64 x2,.int .i64 x3] 222 #[.int .i64 2,.int .i64 2,.int .i64 4,.int .i64 4];obtain⟨ED,bA',bB',kR,y8⟩:=aM D5 bA bB jY pR;clear D5 bA bB jY pR;go_enter Tryz.func98,Tryz.ntmps98;go_wp2_with fail
 rw[y8.o];go_loopw [6,22] (fun v iv wr=>∃(k:Int) (a:Option Addr) (c:Nat),(k=0∨k=1∨k=2∨k=3∨k=4)∧iv= .int .i64 k∧v= .slice a (a02 k) c∧Hid (wr.ownsRow w.heap.size 5 1 (.slice a (a02 k) c) (a02 k) (ints .u8 (VA (x0,x1,x2,x3) o k)))∧Hid (jW wr (w.heap.size+1) 222 #[.int .i64 2,.int .i64 2,.int .i64 4,.int .i64 4])∧Hid (Below w.heap.size w wr)) (fun _ iv _=>4 - (intOf iv).toNat)
 case atStart=>exact⟨0,none,0,.inl rfl,rfl,rfl,aA (kF _ _ _ _),bB',kR⟩
 clear bB'
 case round=>
  obtain⟨k,a,c,hk,rfl,rfl,ho,bB,hb⟩:=hrel;have ho:=ho.o;have bB:=bB.o;have hb:=hb.o;rcases hk with rfl|rfl|rfl|rfl|rfl
  ·
   have hX:∀W,(Instr.index 222 (.agg #[.int .i64 x0,.int .i64 x1,.int .i64 x2,.int .i64 x3]) (.int .i64 0)).run Tryz.prog W= .ok (.int .i64 x0) W:=fun W=>by kernel_rfl
   have hP:=fun W=>KV x0 2 o W;have AU:lZ x0 2 o=true:=by simp only[ED.o]
   have BP:=nQ AU;simp only[AU]at hP;have PY:VA (x0,x1,x2,x3) o (0+1)=VA (x0,x1,x2,x3) o 0++kZ x0 2 o:=by simp[VA,MI]
   obtain⟨MG,rU⟩:∃b,kZ x0 2 o=b:=⟨_,rfl⟩;rw[rU]at BP PY;simp only[rU]at hP;have c7:=bB.cell (i:=0) rfl;have BX:a02 0=0:=by simp[a02]
   rw[BX]at ho ⊢;obtain⟨Q0,a6Z,aH0,wJ⟩:=aL hP AU PY rU;obtain⟨bB',mO⟩:=aJ bB hb;clear hP AU PY rU bB hb;go_wp2_with fail
   refine(Q0.o _).mono ?_;rintro e w2 ⟨a2,m2,c2,rfl,vS,jT⟩;have JH:MG.length=m2:=(Sl.jU vS).1.nU;have BO:=(Sl.jU vS).1;obtain rfl:m2=2:=by rw[←JH,BP];rfl
   have OT:=kC ho jT;have bB2:=bB'.o.late jT;have lJ:=mO.o.tm jT;have aAS:=lJ.size;clear c7 JH BP;obtain⟨RP,a2Q,lG,mE⟩:=aL BO bB2 lJ jT;clear BO bB2 lJ jT;go_wp2_with (at_builtin;refine kK rfl _ _ 24 rfl w.heap.size 5 i0 _ 1 1 Tryz.underlying24 hi sN oG qK rfl aH _ 0 _ rfl OT a2 2 c2 (ints .u8 MG) rfl RP.o oK aH aH aAS ?_;intro a5 c5 w5 ob nZ nW;obtain⟨Ob,Hb5,BB5⟩:=aK ob (lG.o.trans nZ) (a2Q.o.grown nW (mH OT a2Q.o aH));clear ob nZ nW)
   go_roundw
   case rel=>exact⟨0+1,a5,c5,by decide,rfl,rfl,aA (by rw[aH0.o,mG];exact Ob.o),BB5,Hb5⟩
   case measure=>simp[intOf]
  ·
   have hX:∀W,(Instr.index 222 (.agg #[.int .i64 x0,.int .i64 x1,.int .i64 x2,.int .i64 x3]) (.int .i64 1)).run Tryz.prog W= .ok (.int .i64 x1) W:=fun W=>by kernel_rfl
   have hP:=fun W=>KV x1 2 o W;have AU:lZ x1 2 o=true:=by simp only[ED.o]
   have BP:=nQ AU;simp only[AU]at hP;have PY:VA (x0,x1,x2,x3) o (1+1)=VA (x0,x1,x2,x3) o 1++kZ x1 2 o:=by simp[VA,MI]
   obtain⟨MG,rU⟩:∃b,kZ x1 2 o=b:=⟨_,rfl⟩;rw[rU]at BP PY;simp only[rU]at hP;have c7:=bB.cell (i:=1) rfl;have BX:a02 1=2:=by simp[a02]
   rw[BX]at ho ⊢;obtain⟨Q0,a6Z,aH0,wJ⟩:=aL hP AU PY rU;obtain⟨bB',mO⟩:=aJ bB hb;clear hP AU PY rU bB hb;go_wp2_with fail
   refine(Q0.o _).mono ?_;rintro e w2 ⟨a2,m2,c2,rfl,vS,jT⟩;have JH:MG.length=m2:=(Sl.jU vS).1.nU;have BO:=(Sl.jU vS).1;obtain rfl:m2=2:=by rw[←JH,BP];rfl
   have OT:=kC ho jT;have bB2:=bB'.o.late jT;have lJ:=mO.o.tm jT;have aAS:=lJ.size;clear c7 JH BP;obtain⟨RP,a2Q,lG,mE⟩:=aL BO bB2 lJ jT;clear BO bB2 lJ jT;go_wp2_with (at_builtin;refine kK rfl _ _ 24 rfl w.heap.size 5 i0 _ 1 1 Tryz.underlying24 hi sN oG qK rfl aH _ 2 _ rfl OT a2 2 c2 (ints .u8 MG) rfl RP.o oK aH aH aAS ?_;intro a5 c5 w5 ob nZ nW;obtain⟨Ob,Hb5,BB5⟩:=aK ob (lG.o.trans nZ) (a2Q.o.grown nW (mH OT a2Q.o aH));clear ob nZ nW)
   go_roundw
   case rel=>exact⟨1+1,a5,c5,by decide,rfl,rfl,aA (by rw[aH0.o,mG];exact Ob.o),BB5,Hb5⟩
   case measure=>simp[intOf]
  ·
   have hX:∀W,(Instr.index 222 (.agg #[.int .i64 x0,.int .i64 x1,.int .i64 x2,.int .i64 x3]) (.int .i64 2)).run Tryz.prog W= .ok (.int .i64 x2) W:=fun W=>by kernel_rfl
   have hP:=fun W=>KV x2 4 o W;have AU:lZ x2 4 o=true:=by simp only[ED.o]
   have BP:=nQ AU;simp only[AU]at hP;have PY:VA (x0,x1,x2,x3) o (2+1)=VA (x0,x1,x2,x3) o 2++kZ x2 4 o:=by simp[VA,MI]
   obtain⟨MG,rU⟩:∃b,kZ x2 4 o=b:=⟨_,rfl⟩;rw[rU]at BP PY;simp only[rU]at hP;have c7:=bB.cell (i:=2) rfl;have BX:a02 2=4:=by simp[a02]
   rw[BX]at ho ⊢;obtain⟨Q0,a6Z,aH0,wJ⟩:=aL hP AU PY rU;obtain⟨bB',mO⟩:=aJ bB hb;clear hP AU PY rU bB hb;go_wp2_with fail
   refine(Q0.o _).mono ?_;rintro e w2 ⟨a2,m2,c2,rfl,vS,jT⟩;have JH:MG.length=m2:=(Sl.jU vS).1.nU;have BO:=(Sl.jU vS).1;obtain rfl:m2=4:=by rw[←JH,BP];rfl
   have OT:=kC ho jT;have bB2:=bB'.o.late jT;have lJ:=mO.o.tm jT;have aAS:=lJ.size;clear c7 JH BP;obtain⟨RP,a2Q,lG,mE⟩:=aL BO bB2 lJ jT;clear BO bB2 lJ jT;go_wp2_with (at_builtin;refine kK rfl _ _ 24 rfl w.heap.size 5 i0 _ 1 1 Tryz.underlying24 hi sN oG qK rfl aH _ 4 _ rfl OT a2 4 c2 (ints .u8 MG) rfl RP.o oK aH aH aAS ?_;intro a5 c5 w5 ob nZ nW;obtain⟨Ob,Hb5,BB5⟩:=aK ob (lG.o.trans nZ) (a2Q.o.grown nW (mH OT a2Q.o aH));clear ob nZ nW)
   go_roundw
   case rel=>exact⟨2+1,a5,c5,by decide,rfl,rfl,aA (by rw[aH0.o,mG];exact Ob.o),BB5,Hb5⟩
   case measure=>simp[intOf]
  ·
   have hX:∀W,(Instr.index 222 (.agg #[.int .i64 x0,.int .i64 x1,.int .i64 x2,.int .i64 x3]) (.int .i64 3)).run Tryz.prog W= .ok (.int .i64 x3) W:=fun W=>by kernel_rfl
   have hP:=fun W=>KV x3 4 o W;have AU:lZ x3 4 o=true:=by simp only[ED.o]
   have BP:=nQ AU;simp only[AU]at hP;have PY:VA (x0,x1,x2,x3) o (3+1)=VA (x0,x1,x2,x3) o 3++kZ x3 4 o:=by simp[VA,MI]
   obtain⟨MG,rU⟩:∃b,kZ x3 4 o=b:=⟨_,rfl⟩;rw[rU]at BP PY;simp only[rU]at hP;have c7:=bB.cell (i:=3) rfl;have BX:a02 3=8:=by simp[a02]
   rw[BX]at ho ⊢;obtain⟨Q0,a6Z,aH0,wJ⟩:=aL hP AU PY rU;obtain⟨bB',mO⟩:=aJ bB hb;clear hP AU PY rU bB hb;go_wp2_with fail
   refine(Q0.o _).mono ?_;rintro e w2 ⟨a2,m2,c2,rfl,vS,jT⟩;have JH:MG.length=m2:=(Sl.jU vS).1.nU;have BO:=(Sl.jU vS).1;obtain rfl:m2=4:=by rw[←JH,BP];rfl
   have OT:=kC ho jT;have bB2:=bB'.o.late jT;have lJ:=mO.o.tm jT;have aAS:=lJ.size;clear c7 JH BP;obtain⟨RP,a2Q,lG,mE⟩:=aL BO bB2 lJ jT;clear BO bB2 lJ jT;go_wp2_with (at_builtin;refine kK rfl _ _ 24 rfl w.heap.size 5 i0 _ 1 1 Tryz.underlying24 hi sN oG qK rfl aH _ 8 _ rfl OT a2 4 c2 (ints .u8 MG) rfl RP.o oK aH aH aAS ?_;intro a5 c5 w5 ob nZ nW;obtain⟨Ob,Hb5,BB5⟩:=aK ob (lG.o.trans nZ) (a2Q.o.grown nW (mH OT a2Q.o aH));clear ob nZ nW)
   go_roundw
   case rel=>exact⟨3+1,a5,c5,by decide,rfl,rfl,aA (by rw[aH0.o,mG];exact Ob.o),BB5,Hb5⟩
   case measure=>simp[intOf]
  ·have e12:a02 4=12:=by decide
   rw[e12]at ho ⊢;obtain⟨bB',mO⟩:=aJ bB hb;clear bB hb;go_wp2_with fail
   refine bodyPost_ret (results_tmp2 rfl _ _ _) rfl ?_;exact⟨a,c,rfl,by simpa [VA] using ho,mO.o⟩
