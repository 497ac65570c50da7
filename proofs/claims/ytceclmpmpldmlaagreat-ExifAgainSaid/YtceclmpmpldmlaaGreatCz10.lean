import Derived.Test.YtceclmpmpldmlaaGreatCz09
import Derived.Test.YtceclmpmpldmlaaGreatShelf
import Derived.RangeFuncNested
import Derived.RangeFuncBound
import Derived.RangeFuncCalls
import Derived.RangeFuncLeaves
import Derived.RangeFuncBox
import Derived.Shelf.Abstract
import Derived.Shelf.RegionOpen
import Derived.OwnWalkIn
import Derived.TacticsInMore
import Derived.LoopNIn
import Derived.LoopIn
set_option linter.unusedSimpArgs false
set_option linter.unusedVariables false
set_option maxRecDepth 100000
set_option maxHeartbeats 8000000
namespace Go.Proofs.YtceclmpmpldmlaaGreat
open Go.RowKit Tt Go.Sort
def aWO (a b:Int):Int:=if a<b then -1 else if b<a then 1 else 0
theorem aWP (a b:Int) (w:World):Calls Tryz.prog 97 #[.int .i64 a,.int .i64 b] w fun e w'=>e= .returned (.int .i64 (aWO a b))∧w=w':=by
 have hn:∀(x:Int) (W:World),Calls Tryz.prog 155 #[.int .i64 x] W fun e w'=>e= .returned (.bool false)∧W=w':=fun x W=>by
  have hx:(x != x)=false:=by simp
  go_enter Tryz.func155,Tryz.ntmps155;go_wp2;go_ret;exact⟨rfl,rfl⟩
 have hn':=aA hn;clear hn;unfold aWO;by_cases h1:a<b
 ·have d1:decide (a<b)=true:=by simp;omega
  rw[if_pos h1];go_enter Tryz.func97,Tryz.ntmps97;go_wp2_with (go_at_call 155;refine(hn'.o _ _).mono ?_;rintro e w' ⟨rfl,rfl⟩)
  go_ret;exact⟨rfl,rfl⟩
 ·have d1:decide (a<b)=false:=by simp;omega
  rw[if_neg h1];by_cases h2:b<a
  ·have d2:decide (b<a)=true:=by simp;omega
   rw[if_pos h2];go_enter Tryz.func97,Tryz.ntmps97;go_wp2_with (go_at_call 155;refine(hn'.o _ _).mono ?_;rintro e w' ⟨rfl,rfl⟩)
   go_ret;exact⟨rfl,rfl⟩
  ·have d2:decide (b<a)=false:=by simp;omega
   rw[if_neg h2];go_enter Tryz.func97,Tryz.ntmps97;go_wp2_with (go_at_call 155;refine(hn'.o _ _).mono ?_;rintro e w' ⟨rfl,rfl⟩)
   go_ret;exact⟨rfl,rfl⟩
def cfE (x y:mK):Int:=aWO x.1 y.1
theorem aWQ (x y:mK) (w:World):Calls Tryz.prog 96 #[.agg (mY x).toArray,.agg (mY y).toArray] w fun e w'=>e= .returned (.int .i64 (cfE x y))∧∃q os',w'=grow (w.drewN q) os':=by
 obtain⟨x1,x2,x3,x4⟩:=x;obtain⟨y1,y2,y3,y4⟩:=y;obtain⟨W1,hW1,b0,b1,hb1,s1⟩:=qZ w 55 #[.int .i64 x1,.int .i64 x2,.int .i64 x3,.int .i64 x4] 55 #[.int .i64 y1,.int .i64 y2,.int .i64 y3,.int .i64 y4];have hgr:∃q os',W1=grow (w.drewN q) os':=⟨0,#[_,_],by rw[←hW1,alloc_eq_grow,alloc_eq_grow,grow_grow];rfl⟩;have p0:W1.cell? ⟨w.heap.size,0,none⟩=some (.int .i64 x1):=b0.cell rfl;have p1:W1.cell? ⟨w.heap.size+1,0,none⟩=some (.int .i64 y1):=b1.cell rfl;show Calls Tryz.prog 96 #[.agg #[.int .i64 x1,.int .i64 x2,.int .i64 x3,.int .i64 x4],.agg #[.int .i64 y1,.int .i64 y2,.int .i64 y3,.int .i64 y4]] w _
 obtain⟨hW1',b0',b1',hb1',s1',MN⟩:=aJ hW1 b0 b1 hb1 s1 hgr;clear hW1 b0 b1 hb1 s1 hgr;go_enter Tryz.func96,Tryz.ntmps96;go_wp2_with fail
 rw[hW1'.o];go_wp2_with (go_at_call 97;refine(aWP _ _ _).mono ?_;rintro e w' ⟨rfl,rfl⟩)
 go_ret;exact⟨rfl,MN.o⟩
theorem aWR (g:Nat) (tag:Int) (u v:Int) (w:World) (h:w.cell? ⟨g,0,none⟩=some (.int .i64 tag)) (hg:g<w.heap.size):
  Calls Tryz.prog 92 #[.agg #[.int .i64 u,.int .i64 v],.pointer (some ⟨g,0,none⟩)] w fun e w'=>e= .returned (.bool (u==tag))∧Below w.heap.size w w':=by
 have hb:=aD w (.cells #[.int .i64 u,.int .i64 v] 32);have hb':=aA hb;clear hb;go_enter Tryz.func92,Tryz.ntmps92;go_wp2_with fail
 go_ret;exact⟨rfl,hb'.o⟩
def sortE (l:List mK):List mK:=l.mergeSort fun x y=> !Go.Proofs.ltOf cfE y x
theorem ltE (x y:mK):Go.Proofs.ltOf cfE x y=decide (x.1<y.1):=by
 unfold Go.Proofs.ltOf cfE aWO;rw[eP,decide_eq_true_eq,decide_eq_true_eq];split
 ·omega
 ·split <;> omega
theorem bL7:SWO (Go.Proofs.ltOf cfE):=⟨fun x=>by rw[ltE];simp,fun x y z h1 h2=>by rw[ltE,decide_eq_true_eq]at*;omega,fun x y z h1 h2=>by rw[ltE,decide_eq_false_iff_not]at*;omega⟩
theorem uQ (l:List mK):(sortE l).length=l.length:=(gY _ _).length_eq
theorem aK4 {l:List mK} (hd:l.Pairwise fun x y=>x.1≠y.1) {d':Array mK} (hP:PermIn 0 l.length l.toArray d') (hS:SortedIn (Go.Proofs.ltOf cfE) 0 l.length d'):d'.toList=sortE l:=by
 obtain⟨hsz,_,hperm⟩:=hP;have hsz':d'.size=l.length:=by simpa using hsz
 have e1:d'.extract 0 l.length=d':=by rw[←hsz'];exact Array.extract_size
 have e2:l.toArray.extract 0 l.length=l.toArray:=by simp
 rw[e1,e2]at hperm;have hpl:d'.toList.Perm l:=hperm;have hmem:∀a b,a∈l→b∈l→a.1=b.1→a=b:=by
  intro a b ha hb hab;obtain⟨i,hi,rfl⟩:=fI ha;obtain⟨j,hj,rfl⟩:=fI hb;rcases Nat.lt_trichotomy i j with h|h|h
  ·exact absurd hab (fT.1 hd i j hi hj h)
  ·subst h;rfl
  ·exact absurd hab.symm (fT.1 hd j i hj hi h)
 refine List.Perm.eq_of_pairwise (le:=fun x y=>(!Go.Proofs.ltOf cfE y x)=true) ?_ ?_ ?_ (hpl.trans (gY _ _).symm)
 ·intro a b ha hb h1 h2;simp only[ltE,dS,decide_eq_false_iff_not]at h1 h2;exact hmem a b (hpl.subset ha) ((gY _ _).subset hb) (by omega)
 ·rw[fT];intro i j hi hj hij;have hi':i<d'.size:=by simpa using hi
  have hj':j<d'.size:=by simpa using hj
  have:=hS i j (iP _) hij (by omega);rw[getElem!_pos d' j hj',getElem!_pos d' i hi']at this;simpa using this
 ·refine List.pairwise_mergeSort ?_ ?_ _
  ·intro a b c h1 h2;simp only[ltE,dS,decide_eq_false_iff_not]at h1 h2 ⊢;omega
  ·intro a b;simp only[ltE,dG,dS,decide_eq_false_iff_not];omega
theorem b0A (l:List mK):flatK mY 4 l.toArray=(fl mY l).toArray:=by
 have hsz:(fl mY l).length=l.length*4:=NP mG l;refine ext_get! (by simp[hsz]) fun t ht=>?_;have ht':t<l.length*4:=by simpa using ht
 rw[get_flatK _ _ _ t (by simpa using ht')];have h1:t / 4<l.length:=by omega
 have h2:t % 4<4:=Nat.mod_lt _ (by decide);have:=aDE mG default h1 h2;rw[show t / 4*4+t % 4=t by omega]at this;have e1:l.toArray[t / 4]! =l.getD (t / 4) default:=by
  rw[getElem!_pos _ _ (by simpa using h1)];simp[List.getD,aX h1]
 rw[e1,getElem!_pos (fl mY l).toArray t (by simpa [hsz] using ht')];have h3:t<(fl mY l).length:=by omega
 rw[aX h3]at this;have h4:t % 4<(mY (l.getD (t / 4) default)).length:=by rw[mG];exact h2
 rw[aX h4]at this;rw[getElem!_pos (mY (l.getD (t / 4) default)) (t % 4) h4];simpa using this.symm
theorem aK5 (cur:Array Value) (ts:List Value) (h:ts.length≤cur.size):(putCells id 0 ts.toArray cur).toList.take ts.length=ts:=by
 apply List.ext_getElem?;intro j;by_cases hj:j<ts.length
 ·rw[List.getElem?_take_of_lt hj,Array.getElem?_toList];simp[putCells,hj,show j<cur.size by omega]
 ·rw[List.getElem?_take_eq_none (by omega),fZ (by omega)]
theorem a2M (B:Nat) (l:List mK) (v:Value) (w:World) (h:w.ownsRow B 55 4 v l.length (fl mY l)) (h1:1≤l.length) (hn:l.length≤1000000) (hd:l.Pairwise fun x y=>x.1≠y.1):
  Calls Tryz.prog 95 #[v,.func (.func 96) #[] #[]] w fun e w'=>e= .returned (.tuple #[])∧w'.ownsRow B 55 4 v (sortE l).length (fl mY (sortE l))∧w.grownBy w' v.ownBlock:=by
 obtain⟨hlen,hr⟩:=h;rcases hr with ⟨_,h0⟩|⟨g,cap,cur,rfl,hB,hg,hc,hmx,hcs,htk⟩
 ·omega
 have hH:HoldsK mY 4 w g 0 l.toArray:=by
  unfold HoldsK;rw[b0A];intro j hj;have hj':j<(fl mY l).length:=by simpa using hj
  refine⟨?_,by simp[World.frozen?,hg]⟩;have h1:(cur.toList.take (l.length*4))[j]? =(fl mY l)[j]? :=by rw[htk]
  rw[List.getElem?_take_of_lt (by rw[NP mG]at hj';exact hj')]at h1;simp only[World.cell?,hg,eX];simp only[Option.isSome_none,Bool.false_eq_true,if_false];rw[←Array.getElem?_toList,h1];simp[hj']
 have hgl:=(bY.1 hg).1;have hone:∀(x:mK),∀v∈mY x,v.oneCell'=true:=by
  intro x v hv;simp only[mY,bQ,eD,or_false]at hv;rcases hv with rfl|rfl|rfl|rfl <;> rfl
 refine(Go.Proofs.AnyQ.slices_SortFunc Tryz.sortE 4 Tryz.isAgg55 Tryz.sizeOf55 mY mG hone cfE bL7 96 #[] g 0 cap l.toArray w (fun args W=>by kernel_rfl) (fun m os dk _ x y=>aWQ x y _) hH hgl (by simpa using Nat.lt_of_le_of_lt hn (by decide))).mono ?_;rintro e w' ⟨rfl,d',n,os,hP,hS,rfl⟩;have hd':=aK4 hd (by simpa using hP) (by simpa using hS);obtain rfl:d'=(sortE l).toArray:=by rw[←hd']
 refine⟨rfl,⟨NP mG _,.inr ⟨g,cap,putCells id 0 (fl mY (sortE l)).toArray cur,by rw[uQ],hB,?_,by rw[uQ];exact hc,hmx,by simp[putCells,hcs],?_⟩⟩,⟨rfl,rfl,rfl,?_,?_⟩⟩
 ·unfold sortWorldK putRowK;rw[b0A,heap_grow_old _ _ (by simpa using hgl)];simp[putRow,mapBlock,Sort.ahead,gP,hg,onCells]
 ·rw[←NP mG (sortE l)];refine aK5 cur _ ?_;rw[NP mG,uQ,hcs];exact iE _ hc
 ·unfold sortWorldK;simp[size_putRowK]
 ·intro k hk hne;unfold sortWorldK putRowK;rw[heap_grow_old _ _ (by simpa using hk)];have:g≠k:=fun e=>hne (by rw[←e];rfl);simp[putRow,mapBlock,Sort.ahead,gP,this]
theorem b4W {T:TypeId} {sz FV:Nat} (h1:(Tryz.prog.info? T).map (fun i=>(i.size,i.bytes))=some (sz,FV)) (h2:(Tryz.prog.info? T).map (fun i=>i.zero.map (fun z=>z.cells.size))=some (some sz)):
  ∃(i:TypeInfo) (z:Value),Tryz.prog.info? T=some i∧i.zero=some z∧i.size=sz∧i.bytes=FV∧z.cells.size=sz:=by
 cases hi:Tryz.prog.info? T with
 |none=>rw[hi]at h1;cases h1
 |some i=>
  rw[hi]at h1 h2;simp only[fQ,Option.some.injEq,Prod.mk.injEq]at h1 h2;cases hz:i.zero with
  |none=>rw[hz]at h2;cases h2
  |some z=>
   rw[hz]at h2;simp only[fQ,Option.some.injEq]at h2;exact⟨i,z,rfl,hz,h1.1,h1.2,h2⟩
theorem bBX:(Tryz.prog.info? 55).map (fun i=>(i.size,i.bytes))=some (4,32):=by kernel_rfl
theorem b4X:(Tryz.prog.info? 55).map (fun i=>i.zero.map (fun z=>z.cells.size))=some (some 4):=by kernel_rfl
theorem aO0 {w w':World} {B b:Nat} {E:TypeId} {sz n:Nat} {v:Value} {xs:List Value} (h:w.ownsRow B E sz v n xs) (hb:But b w w') (hne:v.ownBlock≠some b):w'.ownsRow B E sz v n xs:=by
 obtain⟨hl,hr⟩:=h;refine⟨hl,?_⟩;rcases hr with hn|⟨g,cap,cur,rfl,hB,hg,r⟩
 ·exact .inl hn
 ·exact .inr ⟨g,cap,cur,rfl,hB,(hb.block g (bY.1 hg).1 (fun e=>hne (by rw[←e];rfl))).trans hg,r⟩
theorem a4Y (B gl:Nat) (l xs:List mK) (v:Value) (a:Option Addr) (n c:Nat) (w:World) (hv:jJ w gl 154 #[v]) (h:w.ownsRow B 55 4 v l.length (fl mY l)) (hne:v.ownBlock≠some gl) (hB:B≤w.heap.size) (hs:Sl w a n c 4 (fl mY xs)) (h1:1≤n) (hn:l.length+n≤1000000):
  Calls Tryz.prog 89 #[.slice a n c,.pointer (some ⟨gl,0,none⟩)] w fun e w'=>∃v',e= .returned (.tuple #[])∧jJ w' gl 154 #[v']∧w'.ownsRow B 55 4 v' (l++xs).length (fl mY (l++xs))∧v'.ownBlock≠some gl∧Mv gl gl v v' w w':=by
 have hxl:xs.length=n:=hs.uY mG (by decide);obtain⟨b,off,rfl,hlt,_⟩:=hs.lies 0 (by omega);have hgl:=hv.lt;have p0:w.cell? ⟨gl,0,none⟩=some v:=hv.cell rfl;have y0:=hv.frozen 0;have hone:∀u∈fl mY xs,u.oneCell'=true:=b4C (fun x v hv=>by
  simp only[mY,bQ,eD,or_false]at hv;rcases hv with rfl|rfl|rfl|rfl <;> rfl)
 obtain⟨i0,z0,hi0,hz,hz1,hz2,hz3⟩:=b4W bBX b4X;obtain⟨hv',h',hne',hs',hone'⟩:=aI hv h hne hs hone;clear hv h hne hs hone;go_enter Tryz.func89,Tryz.ntmps89;go_wp2_with (at_builtin;refine lI rfl _ _ 154 rfl B 55 i0 z0 4 32 Tryz.underlying154 hi0 hz hz1 hz2 hz3 (by decide) v _ _ rfl h'.o ⟨b,off,none⟩ n c (fl mY xs) rfl hs'.o hone'.o (by omega) (by decide) hB ?_;intro a5 c5 wa ob hga hoa;obtain⟨Ob,Hga,Hoa⟩:=aG ob hga hoa;clear p0 y0;have y0:=(hv'.o.grown hga hne'.o).frozen 0;have p0:=(hv'.o.grown hga hne'.o).cell (i:=0) rfl;clear ob hga hoa)
 refine bodyPost_end (results_none rfl _ _ _) rfl ?_;have hv1:=hv'.o.grown Hga.o hne'.o;have hne1:(Value.slice a5 (l.length+n) c5).ownBlock≠some gl:=fun e=>by
  rcases Hoa.o gl e with h|h
  ·exact hne'.o h
  ·omega
 refine⟨_,rfl,hv1.set 0 _,?_,hne1,?_⟩
 ·rw[a2D,bO,hxl];exact aO0 Ob.o ((But.refl gl wa).set 0 _) hne1
 ·exact(Mv.PG Hga.o Hoa.o).trans (Mv.yA ((But.refl gl wa).set 0 _) (.inl rfl))
theorem a1K {zs:List Tz} {k:Nat}:(zs.map mE).getD k tg0=mE (zs.getD k D5):=Y5 mE zs D5 k
theorem aK6 (qa:Option Addr) (qn qc:Nat) (ta:Option Addr) (tn tc:Nat) (sa:Option Addr) (sn sc:Nat) (ba:Option Addr) (bn bc:Nat) (zs:List Tz) (la:Option Addr) (ln lc:Nat) (nH:List Lk) (sat jE nD:Int) (w:World)
  (ht:Tgr w ta tn tc zs) (hbt:∀z∈zs,mW z.2) (hl:Sl w la ln lc 2 (fl lkc nH)) (hown:∀t,((decide (0<sat)&&(t==sat||t==jE))||nH.any fun y=>y.1==t)=qQ (nH,sat,jE,nD) t):
  Calls Tryz.prog 107 #[.agg #[.slice qa qn qc],.agg #[.slice ta tn tc,.slice sa sn sc,.slice ba bn bc],.agg #[.slice la ln lc,.int .i64 sat,.int .i64 jE,.int .i64 nD]] w fun e w'=>e= .returned (.bool (ownB (nH,sat,jE,nD) (zs.map mE)))∧Below w.heap.size w w':=by
 have hzl:=ht.len;have hmx:=ht.row.max;have hle:=ht.row.le;obtain⟨ts,hts⟩:=aC (zs.map mE);have hgt:∀k,ts.getD k tg0=mE (zs.getD k D5):=fun k=>hts▸a1K;rw[hts];have hlen:ts.length=tn:=by rw[←hts,bX];exact hzl
 obtain⟨R,hR⟩:=aC (ownB (nH,sat,jE,nD) ts);rw[hR];obtain⟨WC,hWC,bA,bB,bC,hbC,sC⟩:=yR w 104 #[.slice qa qn qc] 26 #[.slice ta tn tc,.slice sa sn sc,.slice ba bn bc] 35 #[.slice la ln lc,.int .i64 sat,.int .i64 jE,.int .i64 nD];have c0:=bB.cell (i:=0) rfl;rw[←hWC]at c0;obtain⟨ht',EB,hl',hown',mV,NN,NZ,hlen',hR',bA',bB',bC'⟩:=aP ht hbt hl hown hzl hts hgt hlen hR bA bB bC;obtain⟨a4Z,sC',aO1⟩:=aG hbC sC hWC;clear ht hbt hl hown hzl hts hgt hlen hR bA bB bC hbC sC hWC;go_enter Tryz.func107,Tryz.ntmps107;go_wp2_with fail
 rw[aO1.o];clear aO1 c0;go_loopw [12] (fun iv wr=>∃i:Nat,i≤tn∧iv= .int .i64 i∧Hid (∀j,j<i→tgB (nH,sat,jE,nD) ts j=true)∧Hid (Below WC.heap.size WC wr)) (fun iv _=>tn - (intOf iv).toNat)
 case atStart=>exact⟨0,by omega,rfl,aA (fun j hj=>by omega),aA (aW _ _)⟩
 case round=>
  obtain⟨i,hi,rfl,hall,hb⟩:=hrel;by_cases hlt:i<tn
  ·have hbw:=a4Z.o.tm hb.o;have htw:=ht'.o.mono hbw;obtain⟨b,o,rfl,hblt,f0,f1,f2,f3,hrd⟩:=htw.at hlt;have hgi:=NZ.o i;have hbd:mW (zs.getD i D5).2:=by rw[jI (by rw[mV.o];exact hlt)];exact EB.o _ (bL _)
   have hgp:=NZ.o (i - 1);obtain⟨⟨⟨y,t,k,xa,xn,xc⟩,d⟩,hzi⟩:∃z,zs.getD i D5=z:=⟨_,rfl⟩;rw[hzi]at f0 f1 f2 f3 hrd hgi hbd;simp only[mE]at f0 f1 f2 f3 hrd hgi hbd;have JF:tgB (nH,sat,jE,nD) ts i=false→R=false:=fun hh=>hR'.o▸TD (by rw[hlen'.o];exact hlt) hh;have nK:tgB (nH,sat,jE,nD) ts i=true→∀j,j<i+1→tgB (nH,sat,jE,nD) ts j=true:=fun hv j hj=>by
    by_cases hjk:j=i
    ·subst hjk;exact hv
    ·exact hall.o j (by omega)
   have htB:tgB (nH,sat,jE,nD) ts i=(xM y&&(decide (i=0)||decide ((ts.getD (i - 1) tg0).1<y))&& !qQ (nH,sat,jE,nD) y&&rM t k d):=by
    unfold tgB;rw[hgi];rfl
   have hTG:=fun W=>aH7 y W;generalize xM y=tb at*;have hin:(i:Int)<(tn:Int):=by omega
   have b4:=jJ.new wr 74 #[.int .i64 y,.int .i64 t,.int .i64 k,.slice xa xn xc];have hb4:=aD wr (.cells #[.int .i64 y,.int .i64 t,.int .i64 k,.slice xa xn xc] 74);have VZ:=hb.o.tm hb4;have tY:=a4Z.o.tm VZ;have bB4:=bB'.o.late VZ;have bC4:=bC'.o.late VZ;have bBY:=ht'.o.mono tY;have bBZ:=hrd.mono hb4;have hl4:=hl'.o.mono tY;obtain⟨jW,bTS,hgi',a4T,bL8,aWB,pR,lW,PX,XY,b4',tC⟩:=aP hbw htw hgi hbd hgp hzi JF nK htB hTG b4 hb4;obtain⟨YG,lG,aDY,W9,b0B,a4J,b0C,b4Y⟩:=aL VZ tY bB4 bC4 bBY hrd bBZ hl4;clear hbw htw hgi hbd hgp hzi JF nK htB hTG b4 hb4 VZ tY bB4 bC4 bBY hrd bBZ hl4;go_wp2_with fail
   clear f0 f1 f2 f3;obtain⟨w4,hw4⟩:=aC (wr.alloc (.cells #[.int .i64 y,.int .i64 t,.int .i64 k,.slice xa xn xc] 74));rw[hw4]at b4' tC YG lG aDY W9 b0B b0C b4Y ⊢;generalize wr.heap.size=g4 at*;clear hw4;have hnz:=fun(hz:i≠0)=>b0B.o.at (k:=i - 1) (by omega);obtain⟨Ty,ff,hne,hbel,jH⟩:=jR w4;have HS:=aA (jH _ ((aW _ _).drew));have q0:∀s,(ff s).cell? ⟨g4,0,none⟩=some (.int .i64 y):=fun s=>(b4'.o.late (hbel s)).cell rfl;have q1:∀s,(ff s).cell? ⟨g4,1,none⟩=some (.int .i64 t):=fun s=>(b4'.o.late (hbel s)).cell rfl;have q2:∀s,(ff s).cell? ⟨g4,2,none⟩=some (.int .i64 k):=fun s=>(b4'.o.late (hbel s)).cell rfl;have q3:∀s,(ff s).cell? ⟨g4,3,none⟩=some (.slice xa xn xc):=fun s=>(b4'.o.late (hbel s)).cell rfl;have q4:∀s,(ff s).cell? ⟨w.heap.size+1,0,none⟩=some (.slice (some ⟨b,o,none⟩) tn tc):=fun s=>(aDY.o.late (hbel s)).cell rfl;have q5:∀s,(ff s).cell? ⟨w.heap.size+2,0,none⟩=some (.slice la ln lc):=fun s=>(W9.o.late (hbel s)).cell rfl;have q6:∀s,(ff s).cell? ⟨w.heap.size+2,1,none⟩=some (.int .i64 sat):=fun s=>(W9.o.late (hbel s)).cell rfl;have q7:∀s,(ff s).cell? ⟨w.heap.size+2,2,none⟩=some (.int .i64 jE):=fun s=>(W9.o.late (hbel s)).cell rfl;have q8:∀s,(ff s).cell? ⟨w.heap.size+2,3,none⟩=some (.int .i64 nD):=fun s=>(W9.o.late (hbel s)).cell rfl;have hMY:=fun s=>LM t k xa xn xc d (ff s) (b0C.o.mono (hbel s)) a4T.o;have hTK:=fun s=>aJW la ln lc nH sat jE nD y (ff s) (b4Y.o.mono (hbel s));rw[hown'.o]at hTK;generalize qQ (nH,sat,jE,nD) y=kb at*;generalize rM t k d=mb at*;obtain⟨jG,jA,a9B,a9C⟩:=aH hbel jH hMY hTK;clear hbel jH hMY hTK;cases tb
   case false=>
    have hv:tgB (nH,sat,jE,nD) ts i=false:=by rw[PX.o];simp
    clear hnz;refine jO ff (by kernel_rfl) (by kernel_rfl) HS.o ?_;iterate 32 (go_big_quiet_step (first
     |(go_at_call 105;refine(XY.o _).mono ?_;rintro e w3 ⟨rfl,hb3⟩;exact⟨rfl,jA.o _ ((jG.o _).trans (hb3.mono (jG.o _).size))⟩)
     |(go_at_call 162;refine(a9C.o _).mono ?_;rintro e w3 ⟨rfl,hb3⟩;exact⟨rfl,jA.o _ ((jG.o _).trans (hb3.mono (jG.o _).size))⟩)
     |(go_at_call 102;refine(a9B.o _).mono ?_;rintro e w3 ⟨rfl,hb3⟩;exact⟨rfl,jA.o _ ((jG.o _).trans (hb3.mono (jG.o _).size))⟩)))
    refine wpQuiet_nil ?_;intro s;have hbs:=jG.o s;have hbw:=lG.o.tm hbs;obtain rfl:=pR.o hv;clear hv;obtain⟨jW,qG⟩:=aF hbw hbs;clear hbw hbs;go_wp2_with fail
    go_ret;exact⟨rfl,jW.o⟩
   case true=>
    by_cases hk0:i=0
    ·have p1:decide ((0:Int)<(i:Int))=false:=by simp;omega
     have p2:decide (0<i)=false:=by simp;omega
     replace PX:=aA (PX.o.trans (by rw[decide_eq_true hk0];rfl:_=(true&&true&& !kb&&mb)))
     clear hk0 hnz;cases kb
     case true=>
      have hv:tgB (nH,sat,jE,nD) ts i=false:=by rw[PX.o];simp
      refine jO ff (by kernel_rfl) (by kernel_rfl) HS.o ?_;iterate 32 (go_big_quiet_step (first
       |(go_at_call 105;refine(XY.o _).mono ?_;rintro e w3 ⟨rfl,hb3⟩;exact⟨rfl,jA.o _ ((jG.o _).trans (hb3.mono (jG.o _).size))⟩)
       |(go_at_call 162;refine(a9C.o _).mono ?_;rintro e w3 ⟨rfl,hb3⟩;exact⟨rfl,jA.o _ ((jG.o _).trans (hb3.mono (jG.o _).size))⟩)
       |(go_at_call 102;refine(a9B.o _).mono ?_;rintro e w3 ⟨rfl,hb3⟩;exact⟨rfl,jA.o _ ((jG.o _).trans (hb3.mono (jG.o _).size))⟩)))
      refine wpQuiet_nil ?_;intro s;have hbs:=jG.o s;have hbw:=lG.o.tm hbs;obtain rfl:=pR.o hv;clear hv;obtain⟨jW,qG⟩:=aF hbw hbs;clear hbw hbs;go_wp2_with fail
      go_ret;exact⟨rfl,jW.o⟩
     case false=>
      cases mb
      case false=>
       have hv:tgB (nH,sat,jE,nD) ts i=false:=by rw[PX.o];simp
       refine jO ff (by kernel_rfl) (by kernel_rfl) HS.o ?_;iterate 32 (go_big_quiet_step (first
        |(go_at_call 105;refine(XY.o _).mono ?_;rintro e w3 ⟨rfl,hb3⟩;exact⟨rfl,jA.o _ ((jG.o _).trans (hb3.mono (jG.o _).size))⟩)
        |(go_at_call 162;refine(a9C.o _).mono ?_;rintro e w3 ⟨rfl,hb3⟩;exact⟨rfl,jA.o _ ((jG.o _).trans (hb3.mono (jG.o _).size))⟩)
        |(go_at_call 102;refine(a9B.o _).mono ?_;rintro e w3 ⟨rfl,hb3⟩;exact⟨rfl,jA.o _ ((jG.o _).trans (hb3.mono (jG.o _).size))⟩)))
       refine wpQuiet_nil ?_;intro s;have hbs:=jG.o s;have hbw:=lG.o.tm hbs;obtain rfl:=pR.o hv;clear hv;obtain⟨jW,qG⟩:=aF hbw hbs;clear hbw hbs;go_wp2_with fail
       go_ret;exact⟨rfl,jW.o⟩
      case true=>
       have hv:tgB (nH,sat,jE,nD) ts i=true:=by rw[PX.o];simp
       refine jO ff (by kernel_rfl) (by kernel_rfl) HS.o ?_;iterate 32 (go_big_quiet_step (first
        |(go_at_call 105;refine(XY.o _).mono ?_;rintro e w3 ⟨rfl,hb3⟩;exact⟨rfl,jA.o _ ((jG.o _).trans (hb3.mono (jG.o _).size))⟩)
        |(go_at_call 162;refine(a9C.o _).mono ?_;rintro e w3 ⟨rfl,hb3⟩;exact⟨rfl,jA.o _ ((jG.o _).trans (hb3.mono (jG.o _).size))⟩)
        |(go_at_call 102;refine(a9B.o _).mono ?_;rintro e w3 ⟨rfl,hb3⟩;exact⟨rfl,jA.o _ ((jG.o _).trans (hb3.mono (jG.o _).size))⟩)))
       refine wpQuiet_nil ?_;intro s;have hbs:=jG.o s;have hbw:=YG.o.tm hbs;obtain⟨qG,jW,hv'⟩:=aG hbs hbw hv;clear hbs hbw hv;go_wp2_with fail
       go_roundw
       case rel=>exact⟨i+1,by omega,by go_num,aA (lW.o hv'.o),jW⟩
       case measure=>simp[intOf];omega
    ·obtain⟨b3,o3,he3,JK,g0,_⟩:=hnz hk0;obtain⟨rfl,rfl⟩:b=b3∧o=o3:=by simpa using he3
     clear he3 hnz;obtain⟨k',hk'⟩:∃k',k'+1=i:=⟨i - 1,by omega⟩;have p1:decide ((0:Int)<(i:Int))=true:=by simp;omega
     have p2:decide (0<i)=true:=by simp;omega
     have wk:IntKind.i64.wrap ((i:Int) - 1)=(k':Int):=by rw[aY];omega
     have b4Z:=bL8.o;rw[show i - 1=k' by omega]at g0 b4Z;have hpe:(ts.getD (i - 1) tg0).1=(zs.getD k' D5).1.1:=by rw[show i - 1=k' by omega,b4Z];rfl
     replace PX:=aA (PX.o.trans (by rw[hpe]:_=(true&&(decide (i=0)||decide ((zs.getD k' D5).1.1<y))&& !kb&&mb)))
     clear hpe b4Z;generalize (zs.getD k' D5).1.1=pv at*;have q9:∀s,(ff s).cell? ⟨b,o+k'*4,none⟩=some (.int .i64 pv):=fun s=>late (jG.o s) JK g0;have hkn2:(k':Int)<tn:=by omega
     have aJL:k'<tn:=by omega
     have aNB:(0:Int)≤(k':Int):=by omega
     clear g0;by_cases hpt:y≤pv
     ·have p3:decide (y≤pv)=true:=by simp;omega
      have hv:tgB (nH,sat,jE,nD) ts i=false:=by rw[PX.o,decide_eq_false hk0,decide_eq_false (show ¬pv<y by omega)];simp
      clear hk0 hk';refine jO ff (by kernel_rfl) (by kernel_rfl) HS.o ?_;iterate 32 (go_big_quiet_step (first
       |(go_at_call 105;refine(XY.o _).mono ?_;rintro e w3 ⟨rfl,hb3⟩;exact⟨rfl,jA.o _ ((jG.o _).trans (hb3.mono (jG.o _).size))⟩)
       |(go_at_call 162;refine(a9C.o _).mono ?_;rintro e w3 ⟨rfl,hb3⟩;exact⟨rfl,jA.o _ ((jG.o _).trans (hb3.mono (jG.o _).size))⟩)
       |(go_at_call 102;refine(a9B.o _).mono ?_;rintro e w3 ⟨rfl,hb3⟩;exact⟨rfl,jA.o _ ((jG.o _).trans (hb3.mono (jG.o _).size))⟩)))
      refine wpQuiet_nil ?_;intro s;have hbs:=jG.o s;have hbw:=lG.o.tm hbs;obtain rfl:=pR.o hv;clear hv;obtain⟨jW,qG⟩:=aF hbw hbs;clear hbw hbs;go_wp2_with fail
      go_ret;exact⟨rfl,jW.o⟩
     ·have p3:decide (y≤pv)=false:=by simp;omega
      replace PX:=aA (PX.o.trans (by rw[decide_eq_true (show pv<y by omega),Bool.or_true]:_=(true&&true&& !kb&&mb)))
      clear hk0 hk';cases kb
      case true=>
       have hv:tgB (nH,sat,jE,nD) ts i=false:=by rw[PX.o];simp
       refine jO ff (by kernel_rfl) (by kernel_rfl) HS.o ?_;iterate 32 (go_big_quiet_step (first
        |(go_at_call 105;refine(XY.o _).mono ?_;rintro e w3 ⟨rfl,hb3⟩;exact⟨rfl,jA.o _ ((jG.o _).trans (hb3.mono (jG.o _).size))⟩)
        |(go_at_call 162;refine(a9C.o _).mono ?_;rintro e w3 ⟨rfl,hb3⟩;exact⟨rfl,jA.o _ ((jG.o _).trans (hb3.mono (jG.o _).size))⟩)
        |(go_at_call 102;refine(a9B.o _).mono ?_;rintro e w3 ⟨rfl,hb3⟩;exact⟨rfl,jA.o _ ((jG.o _).trans (hb3.mono (jG.o _).size))⟩)))
       refine wpQuiet_nil ?_;intro s;have hbs:=jG.o s;have hbw:=lG.o.tm hbs;obtain rfl:=pR.o hv;clear hv;obtain⟨jW,qG⟩:=aF hbw hbs;clear hbw hbs;go_wp2_with fail
       go_ret;exact⟨rfl,jW.o⟩
      case false=>
       cases mb
       case false=>
        have hv:tgB (nH,sat,jE,nD) ts i=false:=by rw[PX.o];simp
        refine jO ff (by kernel_rfl) (by kernel_rfl) HS.o ?_;iterate 32 (go_big_quiet_step (first
         |(go_at_call 105;refine(XY.o _).mono ?_;rintro e w3 ⟨rfl,hb3⟩;exact⟨rfl,jA.o _ ((jG.o _).trans (hb3.mono (jG.o _).size))⟩)
         |(go_at_call 162;refine(a9C.o _).mono ?_;rintro e w3 ⟨rfl,hb3⟩;exact⟨rfl,jA.o _ ((jG.o _).trans (hb3.mono (jG.o _).size))⟩)
         |(go_at_call 102;refine(a9B.o _).mono ?_;rintro e w3 ⟨rfl,hb3⟩;exact⟨rfl,jA.o _ ((jG.o _).trans (hb3.mono (jG.o _).size))⟩)))
        refine wpQuiet_nil ?_;intro s;have hbs:=jG.o s;have hbw:=lG.o.tm hbs;obtain rfl:=pR.o hv;clear hv;obtain⟨jW,qG⟩:=aF hbw hbs;clear hbw hbs;go_wp2_with fail
        go_ret;exact⟨rfl,jW.o⟩
       case true=>
        have hv:tgB (nH,sat,jE,nD) ts i=true:=by rw[PX.o];simp
        refine jO ff (by kernel_rfl) (by kernel_rfl) HS.o ?_;iterate 32 (go_big_quiet_step (first
         |(go_at_call 105;refine(XY.o _).mono ?_;rintro e w3 ⟨rfl,hb3⟩;exact⟨rfl,jA.o _ ((jG.o _).trans (hb3.mono (jG.o _).size))⟩)
         |(go_at_call 162;refine(a9C.o _).mono ?_;rintro e w3 ⟨rfl,hb3⟩;exact⟨rfl,jA.o _ ((jG.o _).trans (hb3.mono (jG.o _).size))⟩)
         |(go_at_call 102;refine(a9B.o _).mono ?_;rintro e w3 ⟨rfl,hb3⟩;exact⟨rfl,jA.o _ ((jG.o _).trans (hb3.mono (jG.o _).size))⟩)))
        refine wpQuiet_nil ?_;intro s;have hbs:=jG.o s;have hbw:=YG.o.tm hbs;obtain⟨qG,jW,hv'⟩:=aG hbs hbw hv;clear hbs hbw hv;go_wp2_with fail
        go_roundw
        case rel=>exact⟨i+1,by omega,by go_num,aA (lW.o hv'.o),jW⟩
        case measure=>simp[intOf];omega
  ·obtain rfl:i=tn:=by omega
   obtain rfl:R=true:=by rw[←hR'.o];exact wW (fun j hj=>hall.o j (by rw[hlen'.o]at hj;exact hj))
   have hbw:=a4Z.o.tm hb.o;have jW:=aA hbw;clear hbw;go_wp2_with fail
   go_ret;exact⟨rfl,jW.o⟩
theorem a9D (g:Nat) (tag:Int) (u v:Int) (w:World) (h:w.cell? ⟨g,0,none⟩=some (.int .i64 tag)) (hg:g<w.heap.size):
  Calls Tryz.prog 108 #[.agg #[.int .i64 u,.int .i64 v],.pointer (some ⟨g,0,none⟩)] w fun e w'=>e= .returned (.bool (u==tag))∧Below w.heap.size w w':=by
 have hb:=aD w (.cells #[.int .i64 u,.int .i64 v] 32);have hb':=aA hb;clear hb;go_enter Tryz.func108,Tryz.ntmps108;go_wp2_with fail
 go_ret;exact⟨rfl,hb'.o⟩
end Go.Proofs.YtceclmpmpldmlaaGreat
namespace Tt
open Go Go.RowKit
variable {F:Fence} {n:Nat} {P:Program}
def IC (fn:FuncId) (tmps:Array Value) (ps:Array Tmp) (assign body:Code) (D:Nat) (st:LoopState) (pe:Option Code):Loop:=
 {state:=st,pending:=pe,fn,tmps,params:=ps,assign,body,defers:=D}
def aDZ (F:Fence) (n:Nat) (P:Program) (Q:Exit→Act→World→Prop) (a:Act) (w:World) (rec:LoopState→Option Code→Loop) (e:Ending) (W2:World):Prop:=
 (∃v,e= .returned v)∧∃st c,st≠ .busy∧W2.heap[w.heap.size+1]? =some (.loop (rec st c))∧
  (match c with
   |none=>Q .normal {a with defers:={target:= .collected w.heap.size,args:=#[]}::a.defers} (W2.putObj (w.heap.size+1) (.loop (rec .exhausted c)))
   |some j=>j.wpIn F n P Q {a with defers:={target:= .collected w.heap.size,args:=#[]}::a.defers} (W2.putObj (w.heap.size+1) (.loop (rec .exhausted c))))
theorem b50 {g:Operand} {ps:Array Tmp} {assign body:Code} {Q:Exit→Act→World→Prop} {a:Act} {w:World}
  (hro:F.round=none) (h1:1≤n) {gf:Nat} {lb:Array Value} (hg:a.eval g= .func (.func gf) #[] lb) (hFg:F.fn gf) (eg:∀args w,(callFunc gf args).run P w= .ok (.enter gf args) w)
  (h:∀fn,F.fn fn→CallsIn F (n - 1) P gf (#[.func (.yield (w.heap.size+1)) #[] #[]]++lb)
   ((w.alloc (.deferred (some []))).alloc (.loop (IC fn a.tmps ps assign body w.heap.size .ready none)))
   (aDZ F n P Q a w (IC fn a.tmps ps assign body w.heap.size))):
  (Code.rangeFunc g ps assign body).wpIn F n P Q a w:=by
 refine wpIn_rangeFunc ?_;intro fn hfn;rw[hro];have hh:=h fn hfn;have hen:=run_enterLoop_outer (P:=P) (w:=w) fn a.tmps ps assign body;have hrec:({state:= .ready,pending:=none,fn,tmps:=a.tmps,params:=ps,assign,body,defers:=w.heap.size}:Loop)=IC fn a.tmps ps assign body w.heap.size .ready none:=rfl;have hE:∀(W2:World) (st:LoopState) (c:Option Code),st≠ .busy→W2.heap[w.heap.size+1]? =some (.loop (IC fn a.tmps ps assign body w.heap.size st c))→
   (Instr.endLoop (w.heap.size+1)).run P W2= .ok c (W2.putObj (w.heap.size+1) (.loop (IC fn a.tmps ps assign body w.heap.size .exhausted c))):=fun W2 st c hs hl=>run_endLoop hl hs
 rw[hrec]at hen;clear hrec h;generalize IC fn a.tmps ps assign body w.heap.size=rec at*;generalize (w.alloc (.deferred (some []))).alloc (.loop (rec .ready none))=W1 at*;refine⟨w.heap.size+1, [{target:= .collected w.heap.size,args:=#[]}],W1,{target:= .fn (.func gf) lb,args:=#[.func (.yield (w.heap.size+1)) #[] #[]]},W1,gf,#[.func (.yield (w.heap.size+1)) #[] #[]]++lb,W1,hen,?_,?_,?_,fun _=>h1,?_⟩
 ·simp only[resolve,hg];simp[go_sem]
 ·intro f' hf';simp[Target.leads]at hf';subst hf';exact hFg
 ·simp[invoke,go_sem,eg]
 ·refine CallsIn.mono hh ?_;rintro e W2 ⟨⟨v,rfl⟩,st,c,hs,hl,hq⟩;have hend:=hE W2 st c hs hl;exact⟨c,_,hend,hq⟩
def aO2 (l:Nat) (rec:LoopState→Option Code→Loop) (R:Ending→World→Prop):Exit→Act→World→Prop
 | .normal,_,W3=>W3.heap[l]? =some (.loop (rec .busy none))∧R (.returned (.bool true)) (W3.putObj l (.loop (rec .ready none)))
 | .ret,_,W3=>W3.heap[l]? =some (.loop (rec .busy none))∧R (.returned (.bool false)) (W3.putObj l (.loop (rec .done (some .ret))))
 | .exit id,_,W3=>W3.heap[l]? =some (.loop (rec .busy none))∧R (.returned (.bool false)) (W3.putObj l (.loop (rec .done (some (.exit id)))))
 |_,_,_=>False
theorem aO3 {m:Nat} {l:Nat} {fn:FuncId} {tmps:Array Value} {ps:Array Tmp} {assign body:Code} {D:Nat} {W:World} {args:Array Value} {R:Ending→World→Prop}
  (hfn:F.fn fn) (hl:W.heap[l]? =some (.loop (IC fn tmps ps assign body D .ready none))) (hps:args.size=ps.size)
  (h:assign.wpIn (F.inRound l) m P (Exit.then (fun a₁ w₁=>w₁.heap[l]? =some (.loop (IC fn tmps ps assign body D .ready none))∧
    body.wpIn (F.inRound l) m P (aO2 l (IC fn tmps ps assign body D) R) a₁ (w₁.putObj l (.loop (IC fn tmps ps assign body D .busy none)))) (fun _ _ _=>False))
   {tmps:=(ps.zip args).foldl (fun t (p,v)=>t.setIfInBounds p v) tmps,defers:= []} W):YieldAt F m P l args W R:=by
 refine⟨fn,_,assign,body,run_yield hl hps,roundIn_of_wpIn hfn (wpIn_mono h ?_)⟩;intro e a1 w1 hq;cases e with
 |normal=>
  obtain⟨h1,h2⟩:=hq;refine⟨_,run_beginRound h1 rfl,wpIn_mono h2 ?_⟩;intro e a3 W3 hp;cases e with
  |normal=>obtain⟨h3,h4⟩:=hp;exact⟨_,_,run_endRound none h3,h4⟩
  |ret=>obtain⟨h3,h4⟩:=hp;exact⟨_,_,run_endRound (some .ret) h3,h4⟩
  |exit id=>obtain⟨h3,h4⟩:=hp;exact⟨_,_,run_endRound (some (.exit id)) h3,h4⟩
  |goto t=>exact hp.elim
  |panic c=>exact hp.elim
  |outgrown=>exact hp.elim
 |ret=>exact hq.elim
 |exit id=>exact hq.elim
 |goto t=>exact hq.elim
 |panic c=>exact hq.elim
 |outgrown=>exact hq.elim
theorem aWS {g:Operand} {ps:Array Tmp} {assign body:Code} {Q:Exit→Act→World→Prop} {a:Act} {w:World}
  (hro:F.round=none) (h1:1≤n) {gf:Nat} {lb:Array Value} (hg:a.eval g= .func (.func gf) #[] lb) (hFg:F.fn gf) (eg:∀args w,(callFunc gf args).run P w= .ok (.enter gf args) w)
  (h:∀fn rec,F.fn fn→Hid (rec=IC fn a.tmps ps assign body w.heap.size)→CallsIn F (n - 1) P gf (#[.func (.yield (w.heap.size+1)) #[] #[]]++lb)
   ((w.alloc (.deferred (some []))).alloc (.loop (rec .ready none)))
   (aDZ F n P Q a w rec)):
  (Code.rangeFunc g ps assign body).wpIn F n P Q a w:=
 b50 hro h1 hg hFg eg fun fn hfn=>h fn _ hfn rfl
theorem aK7 {m:Nat} {l:Nat} {fn:FuncId} {tmps:Array Value} {ps:Array Tmp} {assign body:Code} {D:Nat} {W:World} {args:Array Value} {R:Ending→World→Prop} {rec:LoopState→Option Code→Loop}
  (hfn:F.fn fn) (hrec:Hid (rec=IC fn tmps ps assign body D)) (hl:W.heap[l]? =some (.loop (rec .ready none))) (hps:args.size=ps.size)
  (h:assign.wpIn (F.inRound l) m P (Exit.then (fun a₁ w₁=>w₁.heap[l]? =some (.loop (rec .ready none))∧
    body.wpIn (F.inRound l) m P (aO2 l rec R) a₁ (w₁.putObj l (.loop (rec .busy none)))) (fun _ _ _=>False))
   {tmps:=(ps.zip args).foldl (fun t (p,v)=>t.setIfInBounds p v) tmps,defers:= []} W):YieldAt F m P l args W R:=by
 have hr:=hrec.o;subst hr;exact aO3 hfn hl hps h
