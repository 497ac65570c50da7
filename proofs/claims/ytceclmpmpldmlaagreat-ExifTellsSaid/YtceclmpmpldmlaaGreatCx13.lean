import Derived.Test.YtceclmpmpldmlaaGreatCx12
set_option linter.unusedSimpArgs false
set_option linter.unusedVariables false
set_option maxRecDepth 100000
set_option maxHeartbeats 8000000
namespace Go.Proofs.YtceclmpmpldmlaaGreat
open Go.RowKit Tt
theorem a98 (ty cnt:Int):0≤yF ty cnt∧yF ty cnt≤524288:=by
 unfold yF;have:=a1M ty cnt;split <;> omega
theorem V4 (l:List nY) (a b c e:Int) (h:0≤mM l) (he:0≤e):0≤mM (pG l a b c e)∧mM (pG l a b c e)≤mM l+e+1:=by
 rw[a1N];have:=NK h;omega
theorem aGN (no:Int) (ts:List rM) (x:rM) (l:List nY):oF no (ts++ [x]) l=if 0<yF x.2.1 x.2.2.1 then pG (oF no ts l) 3 no x.1 (yF x.2.1 x.2.2.1)else oF no ts l:=by
 unfold oF;rw[gN];rfl
def aC4 (no:Int) (x:rM) (l:List nY):List nY:=if 0<yF x.2.1 x.2.2.1 then pG l 3 no x.1 (yF x.2.1 x.2.2.1)else l
theorem a7O {no y t k s:Int} {d:List Int} {l:List nY} (hs:yF t k=s) (h:0<s):aC4 no (y,t,k,d) l=pG l 3 no y s:=by unfold aC4;simp only[hs];rw[if_pos h]
theorem a7P {no y t k s:Int} {d:List Int} {l:List nY} (hs:yF t k=s) (h:¬0<s):aC4 no (y,t,k,d) l=l:=by unfold aC4;simp only[hs];rw[if_neg h]
theorem a1U (no:Int) (l:List nY) {zs:List Tz} {i:Nat} (hi:i<zs.length):oF no ((zs.map l8).take (i+1)) l=aC4 no (l8 (zs.getD i yL)) (oF no ((zs.map l8).take i) l):=by
 rw[dS,bI (by rw[bL];exact hi),fJ,aGN,dZ,←jO hi yL];rfl
theorem F5 (no:Int):∀(ts:List rM) (l:List nY),0≤mM l→0≤mM (oF no ts l)∧mM (oF no ts l)≤mM l+ts.length*524289∧(oF no ts l).length≤l.length+ts.length
 | [],l,h=>⟨h,by simp[oF],by simp[oF]⟩
 |x::ts,l,h=>by
  have ho:=a98 x.2.1 x.2.2.1;have e:oF no (x::ts) l=oF no ts (if 0<yF x.2.1 x.2.2.1 then pG l 3 no x.1 (yF x.2.1 x.2.2.1)else l):=rfl;rw[e];split
  ·have h1:=V4 l 3 no x.1 _ h ho.1;have h2:=F5 no ts _ h1.1;rw[yO]at h2;simp only[dP];omega
  ·have h2:=F5 no ts l h;simp only[dP];omega
theorem aMY (g:Nat) (dir no:Int) (v:Value) (l:List nY) (ta sa ba:Option Addr) (tn tc sn sc bn bc:Nat) (zs:List Tz) (w0 w:World) (ht:Tgr w0 ta tn tc zs) (pW:Below w0.heap.size w0 w) (hg0:w0.heap.size≤g)
  (h:Pln g w no v l) (h0:0≤mM l) (h1:mM l<1000000000000) (hl:l.length<600000) (hn:tn<1000):
  Calls Tryz.prog 104 #[.pointer (some ⟨g,0,none⟩),.agg #[.slice ta tn tc,.slice sa sn sc,.slice ba bn bc],.int .i64 dir,.func (.func 45) #[.pointer (some ⟨g,0,none⟩)] #[]] w fun e w'=>∃v',e= .returned (.tuple #[])∧Pln g w' no v' (oF dir (zs.map l8) l)∧Mv g g v v' w w':=by
 have qJ:=ht.len;have jY:=aD w (.cells #[.slice ta tn tc,.slice sa sn sc,.slice ba bn bc] 26);have kY:∀k,v.ownBlock=some k→w0.heap.size≤k:=fun k e=>by have:=(h.JK.lt k e).1;omega
 have WO:=h.blk.lt;have hLB:∀i,i≤tn→0≤mM (oF dir ((zs.map l8).take i) l)∧mM (oF dir ((zs.map l8).take i) l)<4611686018427387∧(oF dir ((zs.map l8).take i) l).length<1000000:=fun i hi=>by
  have:=F5 dir ((zs.map l8).take i) l h0;have yV:((zs.map l8).take i).length≤i:=by simp;omega
  omega
 obtain⟨TV,lF,h',mX,kR,tF,aQY⟩:=aO ht pW h qJ jY kY hLB;clear ht pW h qJ jY kY hLB;go_enter Tryz.func104,Tryz.ntmps104;go_wp2_with fail
 go_loopw [14] (fun iv wr=>∃(i:Nat) (v':Value),i≤tn∧iv= .int .i64 i∧Hid (Pln g wr no v' (oF dir ((zs.map l8).take i) l))∧Hid (Mv g g v v' w wr)) (fun iv _=>tn - (intOf iv).toNat)
 case atStart=>exact⟨0,v,by omega,rfl,aA (by simpa [oF] using h'.o.later kR.o),aA (Mv.of_below kR.o)⟩
 case round=>
  obtain⟨i,v',yJ,rfl,hp,hm⟩:=hrel;by_cases hi:i<tn
  ·have I4:(i:Int)<(tn:Int):=by omega
   have sS:IntKind.i64.wrap ((i:Int)+1)=i+1:=by rw[bF];omega
   have lI:=lF.o.trans (hm.o.below aG aG tF.o lF.o.size);obtain⟨b,o,rfl,lC,f0,f1,f2,f3,rV⟩:=(TV.o.mono lI).at hi;have zM:=a1U dir l (show i<zs.length by rw[mX.o];exact hi);obtain⟨⟨⟨y,t,k,xa,xn,xc⟩,d⟩,wO⟩:∃z,zs.getD i yL=z:=⟨_,rfl⟩;rw[wO]at f0 f1 f2 f3 rV zM;simp only[l8]at f0 f1 f2 f3 zM;have hO:=fun W=>aYD t k W;have hol:=a98 t k;obtain⟨s,hs⟩:=aC (yF t k);rw[hs]at hO hol;have hL0:=aQY.o i yJ;obtain⟨L,hL⟩:=aC (oF dir ((zs.map l8).take i) l);rw[hL]at hp zM hL0;have l9:=aD wr (.cells #[.int .i64 y,.int .i64 t,.int .i64 k,.slice xa xn xc] 74);have bk:=jW.new wr 74 #[.int .i64 y,.int .i64 t,.int .i64 k,.slice xa xn xc];obtain⟨KY,JF,NC,zZ,pX,hL',I7,oL,U2⟩:=aQ lI rV wO hO hs hL zM l9 bk;clear lI rV wO hO hs hL zM l9 bk;go_wp2_with fail
   refine(zZ.o _).mono ?_;rintro e w2 ⟨rfl,jT⟩;have bk2:=U2.o.late jT;have KZ:=oL.o.tm jT;have c0:=bk2.cell (i:=0) rfl;clear f0 f1 f2 f3;obtain⟨mE,JO,YT⟩:=aK jT bk2 KZ;clear jT bk2 KZ;by_cases wC:0<s
   ·have a5V:=I7.o.trans (a7O pX.o wC);have hP:=UY g no v' L 3 dir y s w2 (hp.o.later YT.o) hL0.1 hL0.2.1 hol.1 aG hL0.2.2;rw[←a5V]at hP;clear a5V;have Q0:=aA hP;clear hP;go_wp2_with fail
    refine Q0.o.mono ?_;rintro e w3 ⟨v2,rfl,hp3,hm3⟩;have J3:=(hm.o.later YT.o).trans hm3;clear hm3 c0;obtain⟨a00,a01⟩:=aJ hp3 J3;clear hp3 J3;go_wp2_with fail
    go_roundw
    case rel=>exact⟨i+1,v2,by omega,by go_num,a00,a01⟩
    case measure=>simp[intOf];omega
   ·have a5V:=I7.o.trans (a7P pX.o wC);have hd:decide (0<s)=false:=by simp;omega
    have hp3:Pln g w2 no v' (oF dir ((zs.map l8).take (i+1)) l):=by rw[a5V];exact hp.o.later YT.o
    have J3:=hm.o.later YT.o;clear c0 a5V;obtain⟨a00,a01⟩:=aJ hp3 J3;clear hp3 J3;go_wp2_with fail
    go_roundw
    case rel=>exact⟨i+1,v',by omega,by go_num,a00,a01⟩
    case measure=>simp[intOf];omega
  ·obtain rfl:i=tn:=by omega
   have rY:(zs.map l8).take i=zs.map l8:=bK (by rw[bL,mX.o];omega);rw[rY]at hp;go_wp2_with fail
   refine bodyPost_end (results_none rfl _ _ _) rfl ?_;exact⟨v',rfl,hp.o,hm.o⟩
end Go.Proofs.YtceclmpmpldmlaaGreat
namespace Tt
open Go Go.RowKit
theorem jW.mv {g gt:Nat} {v v':Value} {w w':World} {k:Nat} {T:TypeId} {cs:Array Value} (h:jW w k T cs) (hm:Mv g gt v v' w w') (h1:k≠g) (h2:k≠gt) (h3:v.ownBlock≠some k):jW w' k T cs:=(hm.block k h.lt h1 h2 h3).trans h
end Tt
namespace Go.Proofs.YtceclmpmpldmlaaGreat
open Go.RowKit Tt
def lH (f:Nat) (ss:List (Int×jR f)):List Flt:=ss.flatMap fun s=>kQ f s.2
def l7 (f:Nat) (ss:List (Int×jR f)) (r:List nY×Int):List nY×Int:=ss.foldl (fun(r:List nY×Int) s=>(BF f s.2 r.2 r.1,r.2+(kQ f s.2).length)) r
theorem JQ (f:Nat) (d:jR (f+1)) (no:Int) (l:List nY):BF (f+1) d no l=
  if 0<d.2.2.length then pG (l7 f d.2.1 (oF no d.1 (pG l 2 no 0 (6+12*(qM d.1.length d.2.1.length d.2.2.length:Nat))),no+1)).1 4 no 0 (d.2.2.length:Nat)
  else(l7 f d.2.1 (oF no d.1 (pG l 2 no 0 (6+12*(qM d.1.length d.2.1.length d.2.2.length:Nat))),no+1)).1:=rfl
def lN:(f:Nat)→jR f→Prop
 |0,_=>True
 |f+1,d=>d.1.length≤500∧d.2.2.length≤1000000∧d.2.1.length≤500∧∀s∈d.2.1,lN f s.2
theorem yY {t s b:Nat} (ht:t≤500) (hs:s≤500):qM t s b≤1002:=by unfold qM;split <;> omega
theorem L6 (f:Nat) (s:Int×jR f) (ss:List (Int×jR f)) (r:List nY×Int):l7 f (s::ss) r=l7 f ss (BF f s.2 r.2 r.1,r.2+(kQ f s.2).length):=rfl
theorem a99 (f:Nat) (s:Int×jR f) (ss:List (Int×jR f)) (r:List nY×Int):l7 f (ss++ [s]) r=(BF f s.2 (l7 f ss r).2 (l7 f ss r).1,(l7 f ss r).2+(kQ f s.2).length):=by
 unfold l7;rw[gN];rfl
theorem vP (f:Nat) (ih:∀(d:jR f) (no:Int) (l:List nY),lN f d→0≤mM l→0≤mM (BF f d no l)∧mM (BF f d no l)≤mM l+(kQ f d).length*270000000∧(BF f d no l).length≤l.length+(kQ f d).length*502):
  ∀(ss:List (Int×jR f)) (r:List nY×Int),(∀s∈ss,lN f s.2)→0≤mM r.1→0≤mM (l7 f ss r).1∧mM (l7 f ss r).1≤mM r.1+(lH f ss).length*270000000∧(l7 f ss r).1.length≤r.1.length+(lH f ss).length*502∧(l7 f ss r).2=r.2+(lH f ss).length
 | [],r,_,h=>⟨h,by simp[l7,lH],by simp[l7,lH],by simp[l7,lH]⟩
 |s::ss,r,hs,h=>by
  have h1:=ih s.2 r.2 r.1 (hs s (dB ..)) h;have h2:=vP f ih ss (BF f s.2 r.2 r.1,r.2+(kQ f s.2).length) (fun x hx=>hs x (cZ _ hx)) h1.1;rw[L6];have e:(lH f (s::ss)).length=(kQ f s.2).length+(lH f ss).length:=by simp[lH]
  rw[e];simp only at h2;omega
theorem L8:∀(f:Nat) (d:jR f) (no:Int) (l:List nY),lN f d→0≤mM l→0≤mM (BF f d no l)∧mM (BF f d no l)≤mM l+(kQ f d).length*270000000∧(BF f d no l).length≤l.length+(kQ f d).length*502:=by
 intro f;induction f with
 |zero=>intro d no l _ h;exact⟨h,by simp[BF,kQ],by simp[BF,kQ]⟩
 |succ f ih=>
  intro d no l hs h;obtain⟨h1,h2,h3,h4⟩:=hs;have he:=yY (b:=d.2.2.length) h1 h3;have a1:=V4 l 2 no 0 (6+12*(qM d.1.length d.2.1.length d.2.2.length:Nat)) h aG;have b1:=F5 no d.1 _ a1.1;have c1:=vP f ih d.2.1 (oF no d.1 (pG l 2 no 0 (6+12*(qM d.1.length d.2.1.length d.2.2.length:Nat))),no+1) h4 b1.1;have e1:=V4 (l7 f d.2.1 (oF no d.1 (pG l 2 no 0 (6+12*(qM d.1.length d.2.1.length d.2.2.length:Nat))),no+1)).1 4 no 0 (d.2.2.length:Nat) c1.1 aG;have e:(kQ (f+1) d).length=(lH f d.2.1).length+1:=by rw[vO];rfl
  rw[JQ,e];rw[yO]at b1;simp only at c1;split
  ·rw[yO];omega
  ·omega
theorem oO (f:Nat) (ss:List (Int×jR f)) (i:Nat):(lH f (ss.take i)).length≤(lH f ss).length:=by
 conv=>rhs;rw[←fF i ss]
 unfold lH;rw[dJ,cO];omega
theorem z8 (f:Nat) (ss:List (Int×jR f)) {i:Nat} (hi:i<ss.length):(lH f (ss.take (i+1))).length=(lH f (ss.take i)).length+(kQ f ss[i].2).length:=by
 rw[dS,bI hi,fJ];unfold lH;rw[dJ,cO];simp
theorem DX (f:Nat) (ss:List (Int×jR f)) (r:List nY×Int) {i:Nat} (hi:i<ss.length):l7 f (ss.take (i+1)) r=(BF f ss[i].2 (l7 f (ss.take i) r).2 (l7 f (ss.take i) r).1,(l7 f (ss.take i) r).2+(kQ f ss[i].2).length):=by
 rw[dS,bI hi,fJ,a99]
theorem wH.v {w:World}:∀{f:Nat} {d:jR f} {v:Dz},wH w f d v→∃(ta:Option Addr) (tn tc:Nat) (sa:Option Addr) (sn sc:Nat) (ba:Option Addr) (bn bc:Nat),v=(.slice ta tn tc,.slice sa sn sc,.slice ba bn bc)
 |0,_,_,h=>h.elim
 |f+1,d,v,h=>by
  obtain⟨ta,tn,tc,zs,sa,sn,sc,ds,ba,bn,bc,h1,_⟩:=h;exact⟨ta,tn,tc,sa,sn,sc,ba,bn,bc,h1⟩
def b6B (f:Nat):Prop:=∀(g:Nat) (no:Int) (v:Value) (l:List nY) (w0 w:World) (d:jR f) (dv:Dz),wH w0 f d dv→Below w0.heap.size w0 w→w0.heap.size≤g→Pln g w no v l→lN f d→
  0≤no→no+(kQ f d).length<1000000→0≤mM l→mM l+(kQ f d).length*270000000<1000000000000→l.length+(kQ f d).length*502<600000→
  Calls Tryz.prog 46 #[.pointer (some ⟨g,0,none⟩),.agg #[dv.1,dv.2.1,dv.2.2]] w fun e w'=>∃v',e= .returned (.tuple #[])∧Pln g w' (no+(kQ f d).length) v' (BF f d no l)∧Mv g g v v' w w'
theorem aMZ (f:Nat) (ih:b6B f):b6B (f+1):=by
 intro g no v l w0 w d dv hd pW hg0 hp hs qW aQZ he0 IZ hl;obtain⟨ta,tn,tc,zs,sa,sn,sc,ds,ba,bn,bc,rfl,A8,G5,nL,oQ,nR,vF⟩:=hd;obtain⟨h1,h2,h3,h4⟩:=hs;have e:(kQ (f+1) d).length=(lH f d.2.1).length+1:=by rw[vO];rfl
 have BX:=JQ f d no l;rw[e]at aQZ IZ hl;rw[e];have TW:d.1.length=tn:=by rw[G5,bL];exact A8.len
 have AR:d.2.1.length=sn:=by rw[←oQ];exact nL.rP mJ aH
 have pF:d.2.2.length=bn:=vF.nU;have a7Q:tn≤500:=by omega
 have a6D:sn≤500:=by omega
 have aGO:bn≤1000000:=by omega
 have aC5:=yY (b:=d.2.2.length) h1 h3;have a1:=V4 l 2 no 0 (6+12*(qM d.1.length d.2.1.length d.2.2.length:Nat)) he0 aG;have b1:=F5 no d.1 _ a1.1;rw[yO]at b1;have hE:=fun W=>UU ta sa ba tn tc sn sc bn bc W aG aG;rw[TW,AR,pF]at BX aC5 a1 b1;generalize qM tn sn bn=m at*;have sS:IntKind.i64.wrap (12*(m:Int))=12*m:=by rw[bF];omega
 have MQ:IntKind.i64.wrap (2+12*(m:Int))=2+12*m:=by rw[bF];omega
 have HY:IntKind.i64.wrap (2+12*(m:Int)+4)=6+12*m:=by rw[bF];omega
 have ZL:=aB (no+1) aG;have jY:=aD w (.cells #[.slice ta tn tc,.slice sa sn sc,.slice ba bn bc] 26);have bk:=jW.new w 26 #[.slice ta tn tc,.slice sa sn sc,.slice ba bn bc];have hp1:=hp.later jY;have c1:=hp1.blk.cell (i:=1) rfl;have f1:=hp1.blk.frozen 1;have kY:∀k,v.ownBlock=some k→w0.heap.size≤k:=fun k e=>by have:=(hp.JK.lt k e).1;omega
 have oJ:v.ownBlock≠some w.heap.size:=fun e=>by have:=(hp.JK.lt _ e).2;omega
 have WO:=hp.blk.lt;obtain⟨W1,pR⟩:=aC (w.alloc (.cells #[.slice ta tn tc,.slice sa sn sc,.slice ba bn bc] 26));rw[pR]at jY bk hp1 c1 f1;have hp2:Pln g (W1.setCell ⟨g,1,none⟩ (.int .i64 (no+1))) (no+1) v l:=⟨hp1.blk.set 1 _,lD hp1.JK aG 1 _⟩;have MV:Mv g g v v W1 (W1.setCell ⟨g,1,none⟩ (.int .i64 (no+1))):=Mv.a1P ((But.refl g W1).set 1 _) (.inl rfl);have bk2:=bk.mv MV aG aG oJ;have aJN:w.heap.size<W1.heap.size:=bk.lt;have d0:=bk.cell (i:=0) rfl;have d1:=bk.cell (i:=1) rfl;have d2:=bk.cell (i:=2) rfl;obtain⟨lF,hp',D8,tX,oW,tL,CW,a0I,JA,kR,U2,bME⟩:=aT pW hp A8 nL nR vF G5 BX hE jY bk hp1;obtain⟨aYG,a1V,JO,tF,MP,h4',ih',V5,rR,DY,e'⟩:=aS hp2 MV bk2 kY oJ h4 ih TW AR pF e;clear pW hp A8 nL nR vF G5 BX hE jY bk hp1 hp2 MV bk2 kY oJ h4 ih TW AR pF e;go_enter Tryz.func46,Tryz.ntmps46;go_wp2_with fail
 refine(JA.o _).mono ?_;rintro e w3 ⟨rfl,jQ⟩;have hp3:=aYG.o.later jQ;have hm3:=a1V.o.later jQ;have XE:=JO.o.late jQ;clear c1 f1 d0 d1 d2;have d0:=XE.cell (i:=0) rfl;have d1:=XE.cell (i:=1) rfl;have d2:=XE.cell (i:=2) rfl;have hP:=UY g (no+1) v l 2 no 0 (6+12*m) w3 hp3 he0 aG aG aG aG;obtain⟨qN,a00,a9A,a9B,Q0⟩:=aM jQ hp3 hm3 XE hP;clear jQ hp3 hm3 XE hP;go_wp2_with fail
 refine Q0.o.mono ?_;rintro e w4 ⟨v4,rfl,hp4,J3⟩;have J3:=a9A.o.trans J3;have bk4:=U2.o.mv J3 aG aG MP.o;have mF:=lF.o.trans (kR.o.mono lF.o.size|>.trans (J3.below aG aG tF.o (by have:=lF.o.size;omega)));have ET:∀k,v4.ownBlock=some k→w0.heap.size≤k:=fun k e=>by have:=(hp4.JK.lt k e).1;omega
 clear d0 d1 d2;have d0:=bk4.cell (i:=0) rfl;have d1:=bk4.cell (i:=1) rfl;have d2:=bk4.cell (i:=2) rfl;have hV:=aMY g no (no+1) v4 _ ta sa ba tn tc sn sc bn bc zs w0 w4 D8.o mF hg0 hp4 a1.1 aG (by rw[yO];omega) aG;rw[←CW.o]at hV;obtain⟨bEW,a01,bV5,rT,ZR,hV'⟩:=aN hp4 J3 bk4 mF ET hV;clear hp4 J3 bk4 mF ET hV;go_wp2_with fail
 refine hV'.o.mono ?_;rintro e w5 ⟨v5,rfl,hp5,hm5⟩;have hm5:=a01.o.trans hm5;have bk5:=U2.o.mv hm5 aG aG MP.o;clear d0 d1 d2;have d1:=bk5.cell (i:=1) rfl;obtain⟨L1,hL1⟩:=aC (oF no d.1 (pG l 2 no 0 (6+12*m)));rw[hL1]at hp5 b1 a0I;obtain⟨bO3,bEX,bV6⟩:=aK hp5 hm5 bk5;clear hp5 hm5 bk5;go_wp2_with fail
 go_loopw [35] (fun iv wr=>∃(i:Nat) (v':Value),i≤sn∧iv= .int .i64 i∧Hid (Pln g wr (l7 f (d.2.1.take i) (L1,no+1)).2 v' (l7 f (d.2.1.take i) (L1,no+1)).1)∧Hid (Mv g g v v' W1 wr)) (fun iv _=>sn - (intOf iv).toNat)
 case atStart=>exact⟨0,v5,by omega,rfl,aA (by simpa [l7] using bO3.o),bEX⟩
 case round=>
  obtain⟨i,v',yJ,rfl,BQ,hmr⟩:=hrel;by_cases hi:i<sn
  ·have I4:(i:Int)<(sn:Int):=by omega
   have hw5:IntKind.i64.wrap ((i:Int)+1)=i+1:=by rw[bF];omega
   have lI:=lF.o.trans (kR.o.mono lF.o.size|>.trans (hmr.o.below aG aG tF.o (by have:=lF.o.size;omega)));have hid:i<d.2.1.length:=by rw[rR.o];exact hi
   have nV:i<ds.length:=by rw[oQ];exact hid
   obtain⟨b,o,rfl,lC,fe⟩:=(tX.o.mono lI).elem mJ aH (0,(.slice none 0 0,.slice none 0 0,.slice none 0 0)) hi;rw[jO nV]at fe;obtain⟨OV,nD⟩:=oW.o i nV hid;obtain⟨ua,un,uc,pa,pn,pc,ra,rn,rc,hv⟩:=nD.v;have g0:=fe 0 _ rfl;have g1:=fe 1 _ rfl;have g2:=fe 2 _ rfl;have g3:=fe 3 _ rfl;simp only[bU]at g0 g1 g2 g3;clear fe OV;rw[hv]at nD g1 g2 g3;simp only at g0 g1 g2 g3;generalize ds[i].1=y at g0;have vI:=DX f d.2.1 (L1,no+1) hid;have UC:=z8 f d.2.1 hid;have RQ:=oO f d.2.1 (i+1);have tH:lN f d.2.1[i].2:=h4'.o _ (bJ hid);have tQ:=vP f (L8 f) (d.2.1.take i) (L1,no+1) (fun x hx=>h4'.o x (eT hx)) b1.1;simp only at tQ;generalize l7 f (d.2.1.take i) (L1,no+1)=R at vI tQ BQ;generalize d.2.1[i].2=dd at vI UC tH nD;obtain⟨Ls,ns⟩:=R;simp only at tQ BQ vI;have l9:=aD wr (.cells #[.int .i64 y,.slice ua un uc,.slice pa pn pc,.slice ra rn rc] 28);have bs:=jW.new wr 28 #[.int .i64 y,.slice ua un uc,.slice pa pn pc,.slice ra rn rc];have hI:=ih'.o g ns v' Ls w0 _ dd _ nD (lI.tm l9) hg0 (BQ.o.later l9) tH aG aG tQ.1 aG aG;obtain⟨KY,zH,a6E,aC6,yG,oL,bs',MR,xE,zN⟩:=aR lI nD UC RQ tH l9 bs hI hv vI;clear lI nD UC RQ tH l9 bs hI hv vI;go_wp2_with fail
   refine MR.o.mono ?_;rintro e w7 ⟨v7,rfl,hp7,hm7⟩;have hm7:=(hmr.o.later oL.o).trans hm7;obtain⟨aGP,aGQ⟩:=aJ hp7 hm7;clear hp7 hm7;clear g0 g1 g2 g3;go_wp2_with fail
   go_roundw
   case rel=>exact⟨i+1,v7,by omega,by go_num,by rw[zN.o];exact aGP,aGQ⟩
   case measure=>simp[intOf];omega
  ·obtain rfl:i=sn:=by omega
   have rY:d.2.1.take i=d.2.1:=bK (by rw[rR.o];omega);rw[rY]at BQ;have tQ:=vP f (L8 f) d.2.1 (L1,no+1) h4'.o b1.1;generalize l7 f d.2.1 (L1,no+1)=R at*;obtain⟨Ls,ns⟩:=R;simp only at tQ BQ;have CY:=U2.o.mv hmr.o aG aG MP.o;have d2:=CY.cell (i:=2) rfl;by_cases RU:0<bn
   ·rw[if_pos RU]at a0I;have hdc:decide ((0:Int)<bn)=true:=by simp;omega
    have hP:=UY g ns v' Ls 4 no 0 bn wr BQ.o tQ.1 aG aG aG aG;obtain⟨Q0,JR⟩:=aJ hP CY;clear hP CY;go_wp2_with fail
    refine Q0.o.mono ?_;rintro e w8 ⟨v8,rfl,YN,U3⟩;have U3:=hmr.o.trans U3;have hp9:Pln g w8 (no+((lH f d.2.1).length+1:Nat)) v8 (BF (f+1) d no l):=by
     rw[a0I.o,show no+(((lH f d.2.1).length+1:Nat):Int)=ns by omega];exact YN
    clear d2;obtain⟨XF,a6F,aGR⟩:=aK YN U3 hp9;clear YN U3 hp9;go_wp2_with fail
    refine bodyPost_end (results_none rfl _ _ _) rfl ?_;exact⟨v8,rfl,aGR.o,(Mv.of_below kR.o).trans a6F.o⟩
   ·rw[if_neg RU]at a0I;have hdc:decide ((0:Int)<bn)=false:=by simp;omega
    have hp9:Pln g wr (no+((lH f d.2.1).length+1:Nat)) v' (BF (f+1) d no l):=by
     rw[a0I.o,show no+(((lH f d.2.1).length+1:Nat):Int)=ns by omega];exact BQ.o
    obtain⟨aGR,JR⟩:=aJ hp9 CY;clear hp9 CY;go_wp2_with fail
    refine bodyPost_end (results_none rfl _ _ _) rfl ?_;exact⟨rfl,v',aGR.o,(Mv.of_below kR.o).trans hmr.o⟩
theorem aR0:∀f,b6B f:=by
 intro f;induction f with
 |zero=>intro g no v l w0 w d dv hd;exact hd.elim
 |succ f ih=>exact aMZ f ih
theorem aC7:(Tryz.prog.info? 26).map (fun i=>(i.size,i.bytes))=some (3,72):=by kernel_rfl
theorem aC8:(Tryz.prog.info? 26).map (fun i=>i.zero.map (fun z=>z.cells.size))=some (some 3):=by kernel_rfl
def aC9 (w:World) (x:Flt) (v:Dz):Prop:=∃(ta:Option Addr) (tc:Nat) (sa:Option Addr) (sc:Nat) (ba:Option Addr) (bc:Nat) (zs:List Tz),
 v=(.slice ta x.1.length tc,.slice sa x.2.1 sc,.slice ba x.2.2.length bc)∧Tgr w ta x.1.length tc zs∧x.1=zs.map l8∧Sl w ba x.2.2.length bc 1 (ints .u8 x.2.2)
def L9 (w:World):List Flt→List Dz→Prop
 | [], []=>True
 |x::xs,v::vs=>aC9 w x v∧L9 w xs vs
 |_,_=>False
theorem aC9.mono {w w':World} {x:Flt} {v:Dz} (h:aC9 w x v) (hb:Below w.heap.size w w'):aC9 w' x v:=by
 obtain⟨ta,tc,sa,sc,ba,bc,zs,h1,h2,h3,h4⟩:=h;exact⟨ta,tc,sa,sc,ba,bc,zs,h1,h2.mono hb,h3,h4.mono hb⟩
theorem L9.mono {w w':World} (hb:Below w.heap.size w w'):∀{xs:List Flt} {vs:List Dz},L9 w xs vs→L9 w' xs vs
 | [], [],_=>trivial
 |x::xs,v::vs,h=>⟨h.1.mono hb,L9.mono hb h.2⟩
 | [],_::_,h=>h
 |_::_, [],h=>h
theorem L9.append {w:World}:∀{xs ys:List Flt} {vs us:List Dz},L9 w xs vs→L9 w ys us→L9 w (xs++ys) (vs++us)
 | [],_, [],_,_,h=>h
 |x::xs,_,v::vs,_,h,k=>⟨h.1,h.2.append k⟩
 | [],_,_::_,_,h,_=>h.elim
 |_::_,_, [],_,h,_=>h.elim
theorem L9.len {w:World}:∀{xs:List Flt} {vs:List Dz},L9 w xs vs→vs.length=xs.length
 | [], [],_=>rfl
 |x::xs,v::vs,h=>by simp[h.2.len]
 | [],_::_,h=>h.elim
 |_::_, [],h=>h.elim
theorem L9.one {w:World}:∀{xs:List Flt} {vs:List Dz},L9 w xs vs→∀u∈fl YR vs,u.oneCell'=true
 | [], [],_=>by simp[fl]
 |x::xs,v::vs,h=>by
  intro u hu;rw[a0N,bP]at hu;rcases hu with hu|hu
  ·obtain⟨ta,tc,sa,sc,ba,bc,zs,rfl,_⟩:=h.1;simp only[YR,cB,dK,or_false]at hu;rcases hu with rfl|rfl|rfl <;> rfl
  ·exact h.2.one u hu
 | [],_::_,h=>h.elim
 |_::_, [],h=>h.elim
theorem L9.get {w:World}:∀{xs:List Flt} {vs:List Dz},L9 w xs vs→∀(i:Nat) (h:i<xs.length) (h':i<vs.length),aC9 w xs[i] vs[i]
 | [], [],_,i,h,_=>by simp at h
 |x::xs,v::vs,hh,0,_,_=>hh.1
 |x::xs,v::vs,hh,i+1,h,h'=>by simpa using hh.2.get i (by simpa using h) (by simpa using h')
 | [],_::_,h,_,_,_=>h.elim
 |_::_, [],h,_,_,_=>h.elim
theorem wH.flt {w:World} {f:Nat} {d:jR (f+1)} {v:Dz} (h:wH w (f+1) d v):aC9 w (d.1,d.2.1.length,d.2.2) v:=by
 obtain⟨ta,tn,tc,zs,sa,sn,sc,ds,ba,bn,bc,h1,h2,h3,h4,h5,h6,h7⟩:=h;have e1:d.1.length=tn:=by rw[h3,bL];exact h2.len
 have e2:d.2.1.length=sn:=by rw[←h5];exact h4.rP mJ aH
 have e3:d.2.2.length=bn:=h7.nU;subst e1 e2 e3;exact⟨ta,tc,sa,sc,ba,bc,zs,h1,h2,h3,h7⟩
theorem a1W (f:Nat) (ss:List (Int×jR f)) {i:Nat} (hi:i<ss.length):lH f (ss.take (i+1))=lH f (ss.take i)++kQ f ss[i].2:=by
 rw[dS,bI hi,fJ];unfold lH;rw[dJ,fA,List.flatMap_nil,dR]
def a9C (f:Nat):Prop:=∀(w0 w:World) (d:jR f) (dv:Dz),wH w0 f d dv→Below w0.heap.size w0 w→(kQ f d).length<1000000→
  Calls Tryz.prog 186 #[.agg #[dv.1,dv.2.1,dv.2.2]] w fun e w'=>∃(a:Addr) (c:Nat) (vs:List Dz),e= .returned (.slice (some a) (kQ f d).length c)∧w'.ownsRow w.heap.size 26 3 (.slice (some a) (kQ f d).length c) (kQ f d).length (fl YR vs)∧L9 w0 (kQ f d) vs∧Below w.heap.size w w'
theorem aR1 {w:World} {B:Nat} {E:TypeId} {sz:Nat} {a:Option Addr} {n c m:Nat} {xs:List Value} (h:w.ownsRow B E sz (.slice a n c) m xs) (hm:0<m):∃x,a=some x:=by
 rcases h.2 with ⟨e,h0⟩|⟨g,cap,cur,e,_⟩
 ·omega
 ·cases e;exact⟨_,rfl⟩
theorem a9D (f:Nat) (ih:a9C f):a9C (f+1):=by
 intro w0 w d dv hd pW hN;obtain⟨i0,z0,xH,hz,oG,qK,QG⟩:=wL aC7 aC8;have bEY:=hd.flt;obtain⟨ta,tn,tc,zs,sa,sn,sc,ds,ba,bn,bc,rfl,A8,G5,nL,oQ,nR,vF⟩:=hd;have e:kQ (f+1) d=(d.1,d.2.1.length,d.2.2)::lH f d.2.1:=rfl;rw[e]at hN ⊢;rw[dP]at hN ⊢;have AR:d.2.1.length=sn:=by rw[←oQ];exact nL.rP mJ aH
 have bEZ:=nL.max;have b66:=nL.le;generalize ((d.1,d.2.1.length,d.2.2):Flt)=hd0 at*;have jY:=aD w (.cells #[.slice ta tn tc,.slice sa sn sc,.slice ba bn bc] 26);have bk:=jW.new w 26 #[.slice ta tn tc,.slice sa sn sc,.slice ba bn bc];obtain⟨W1,pR⟩:=aC (w.alloc (.cells #[.slice ta tn tc,.slice sa sn sc,.slice ba bn bc] 26));have aJN:W1.heap.size=w.heap.size+1:=by rw[←pR];simp
 rw[pR]at jY bk;have d0:=bk.cell (i:=0) rfl;have d1:=bk.cell (i:=1) rfl;have d2:=bk.cell (i:=2) rfl;have l9:=aD W1 (.cells #[.slice ta tn tc,.slice sa sn sc,.slice ba bn bc] 26);have oM:=GR W1 W1.heap.size 26 3 1 #[.slice ta tn tc,.slice sa sn sc,.slice ba bn bc] (aZ _) (by unfold maxLen;omega) rfl;have bk2:=bk.late l9;rw[aJN]at oM;obtain⟨lF,D8,tX,oW,tL,CW,kR,U2,ih',rR,e',oL⟩:=aT pW A8 nL nR vF G5 jY bk ih AR e l9;obtain⟨CX,JO,bF0⟩:=aK oM bk2 bEY;clear pW A8 nL nR vF G5 jY bk ih AR e l9 oM bk2 bEY;go_enter Tryz.func186,Tryz.ntmps186;go_wp2_with fail
 go_loopw [3,4] (fun rv iv wr=>∃(i:Nat) (a:Addr) (c:Nat) (vs:List Dz),i≤sn∧iv= .int .i64 i∧rv= .slice (some a) ((lH f (d.2.1.take i)).length+1) c∧Hid (wr.ownsRow (w.heap.size+1) 26 3 (.slice (some a) ((lH f (d.2.1.take i)).length+1) c) ((lH f (d.2.1.take i)).length+1) (fl YR vs))∧Hid (L9 w0 (hd0::lH f (d.2.1.take i)) vs)∧Hid (Below W1.heap.size W1 wr)) (fun _ iv _=>sn - (intOf iv).toNat)
 case atStart=>
  exact⟨0,_,_, [(.slice ta tn tc,.slice sa sn sc,.slice ba bn bc)],by omega,rfl,rfl,CX,aA ⟨bF0.o,trivial⟩,oL⟩
 case round=>
  obtain⟨i,a,c,vs,yJ,rfl,rfl,kY,a1X,lI⟩:=hrel;have CY:=U2.o.late lI.o;have q1:=CY.cell (i:=1) rfl;by_cases hi:i<sn
  ·have I4:(i:Int)<(sn:Int):=by omega
   have hw5:IntKind.i64.wrap ((i:Int)+1)=i+1:=by rw[bF];omega
   have qC:=lF.o.tm kR.o;have qR:=qC.tm lI.o;have hid:i<d.2.1.length:=by rw[rR.o];exact hi
   have nV:i<ds.length:=by rw[oQ];exact hid
   obtain⟨b,o,rfl,lC,fe⟩:=(tX.o.mono qR).elem mJ aH (0,(.slice none 0 0,.slice none 0 0,.slice none 0 0)) hi;rw[jO nV]at fe;obtain⟨OV,nD⟩:=oW.o i nV hid;obtain⟨ua,un,uc,pa,pn,pc,ra,rn,rc,hv⟩:=nD.v;have g1:=fe 1 _ rfl;have g2:=fe 2 _ rfl;have g3:=fe 3 _ rfl;clear fe OV;rw[hv]at nD g1 g2 g3;simp only at g1 g2 g3;have UC:=z8 f d.2.1 hid;have aCA:=a1W f d.2.1 hid;have RQ:=oO f d.2.1 (i+1);have hI:=ih'.o w0 wr d.2.1[i].2 _ nD qR aG;simp only at hI;generalize d.2.1[i].2=dd at UC aCA hI;clear nD hv;obtain⟨a6E,aC6,aR2,MR,a1Y,oD,JR⟩:=aO UC RQ aCA hI qR qC CY;clear UC RQ aCA hI qR qC CY;go_wp2_with fail
   refine MR.o.mono ?_;rintro e w6 ⟨a6,c6,us,rfl,ho6,aR3,wQ⟩;have aCB:=kC kY.o wQ;have aR4:=(Sl.jU ho6).1;have aGS:=lI.o.tm wQ;have bO4:=aGS.size;clear g1 g2 g3 q1;obtain⟨a1Z,aR5,aCC,bO5,CB,aCD⟩:=aN aCB aR4 aGS ho6 wQ aR3;clear aCB aR4 aGS ho6 wQ aR3;go_wp2_with (at_builtin;refine mU rfl _ _ 37 rfl (w.heap.size+1) 26 i0 z0 3 72 Tryz.underlying37 xH hz oG qK QG aH (.slice (some a) ((lH f (d.2.1.take i)).length+1) c) ((lH f (d.2.1.take i)).length+1) _ rfl a1Z.o a6 (kQ f dd).length c6 (fl YR us) rfl aR5.o aCD.o.one (by have:=a6E.o;have:=aC6.o;omega) aH aG ?_;intro a8 c8 w8 ob hg8 NP;obtain⟨Ob,Hg8,Ho8⟩:=aK ob hg8 NP;clear ob hg8 NP)
   have hnm:(lH f (d.2.1.take i)).length+1+(kQ f dd).length=(lH f (d.2.1.take (i+1))).length+1:=by have:=a6E.o;omega
   have ho8:=Ob.o;rw[hnm,←JI]at ho8;obtain⟨x8,rfl⟩:=aR1 ho8 aG;have aR6:Below W1.heap.size W1 w8:=below_grown aCC.o Hg8.o aCC.o.size (by rw[aJN];exact a1Z.o);have a2A:=a1X.o.append aCD.o;rw[List.cons_append,←aR2.o]at a2A;obtain⟨aN0,aR7,aR8⟩:=aK ho8 aR6 a2A;clear ho8 aR6 a2A;go_wp2_with fail
   go_roundw
   case rel=>exact⟨i+1,x8,c8,vs++us,by omega,by go_num,by rw[hnm],aN0,aR8,aR7⟩
   case measure=>simp[intOf];omega
  ·obtain rfl:i=sn:=by omega
   have rY:d.2.1.take i=d.2.1:=bK (by rw[rR.o];omega);rw[rY]at kY a1X;have jZ:=kR.o.tm lI.o;have jM:=aA jZ;clear jZ;rw[rY];go_wp2_with fail
   go_ret;exact⟨a,c,vs,rfl,kI kY.o aG,a1X.o,jM.o⟩
theorem NS:∀f,a9C f:=by
 intro f;induction f with
 |zero=>intro w0 w d dv hd;exact hd.elim
 |succ f ih=>exact a9D f ih
end Go.Proofs.YtceclmpmpldmlaaGreat
namespace Tt
open Go Go.RowKit
end Tt
namespace Go.Proofs.YtceclmpmpldmlaaGreat
open Go.RowKit Tt
theorem Spr.later {B:Nat} {w w':World} {v:Value} {l:List nY} (h:Spr B w v l) (hb:Below w.heap.size w w'):Spr B w' v l:=kC h hb
def aR9 (f:Nat):Prop:=∀(B:Nat) (no:Int) (v:Value) (l:List nY) (w0 w:World) (d:jR f) (dv:Dz),wH w0 f d dv→Below w0.heap.size w0 w→w0.heap.size≤B→B≤w.heap.size→Spr B w v l→lN f d→
  0≤no→no+(kQ f d).length<1000000→0≤mM l→mM l+(kQ f d).length*270000000<1000000000000→l.length+(kQ f d).length*502<600000→
  Calls Tryz.prog 185 #[v,.agg #[dv.1,dv.2.1,dv.2.2],.int .i64 no] w fun e w'=>∃v',e= .returned v'∧Spr B w' v' (BF f d no l)∧Gr v v' w w'
theorem aGT (f:Nat) (ih:aR9 f):aR9 (f+1):=by
 intro B no v l w0 w d dv hd pW hB0 hBw hp hs qW aQZ he0 IZ hl;obtain⟨ta,tn,tc,zs,sa,sn,sc,ds,ba,bn,bc,rfl,A8,G5,nL,oQ,nR,vF⟩:=hd;obtain⟨h1,h2,h3,h4⟩:=hs;have e:(kQ (f+1) d).length=(lH f d.2.1).length+1:=by rw[vO];rfl
 have BX:=JQ f d no l;rw[e]at aQZ IZ hl;have TW:d.1.length=tn:=by rw[G5,bL];exact A8.len
 have AR:d.2.1.length=sn:=by rw[←oQ];exact nL.rP mJ aH
 have pF:d.2.2.length=bn:=vF.nU;have a7Q:tn≤500:=by omega
 have a6D:sn≤500:=by omega
 have aGO:bn≤1000000:=by omega
 have aC5:=yY (b:=d.2.2.length) h1 h3;have a1:=V4 l 2 no 0 (6+12*(qM d.1.length d.2.1.length d.2.2.length:Nat)) he0 aG;have b1:=F5 no d.1 _ a1.1;have hLB:∀i,i≤tn→0≤mM (oF no ((zs.map l8).take i) (pG l 2 no 0 (6+12*(qM d.1.length d.2.1.length d.2.2.length:Nat))))∧mM (oF no ((zs.map l8).take i) (pG l 2 no 0 (6+12*(qM d.1.length d.2.1.length d.2.2.length:Nat))))<4611686018427387∧(oF no ((zs.map l8).take i) (pG l 2 no 0 (6+12*(qM d.1.length d.2.1.length d.2.2.length:Nat)))).length<1000000:=fun i hi=>by
  have:=F5 no ((zs.map l8).take i) _ a1.1;have yV:((zs.map l8).take i).length≤i:=by simp;omega
  rw[yO]at this;omega
 rw[yO]at b1;have hE:=fun W=>NN ta sa ba tn tc sn sc bn bc W aG aG;rw[TW,AR,pF]at BX aC5 a1 b1 hLB;have qJ:=A8.len;generalize qM tn sn bn=m at*;have sS:IntKind.i64.wrap (12*(m:Int))=12*m:=by rw[bF];omega
 have MQ:IntKind.i64.wrap (6+12*(m:Int))=6+12*m:=by rw[bF];omega
 have ZL:=aB (no+1) aG;have jY:=aD w (.cells #[.slice ta tn tc,.slice sa sn sc,.slice ba bn bc] 26);have bk:=jW.new w 26 #[.slice ta tn tc,.slice sa sn sc,.slice ba bn bc];have hp1:=hp.later jY;have kY:∀k,v.ownBlock=some k→w0.heap.size≤k:=fun k e=>by have:=(World.ownsRow.lt hp k e).1;omega
 have oJ:v.ownBlock≠some w.heap.size:=fun e=>by have:=(World.ownsRow.lt hp _ e).2;omega
 obtain⟨W1,pR⟩:=aC (w.alloc (.cells #[.slice ta tn tc,.slice sa sn sc,.slice ba bn bc] 26));rw[pR]at jY bk hp1;have aJN:w.heap.size<W1.heap.size:=bk.lt;have d0:=bk.cell (i:=0) rfl;have d1:=bk.cell (i:=1) rfl;have d2:=bk.cell (i:=2) rfl;have qC:=pW.tm jY;obtain⟨lF,hp',D8,tX,oW,tL,CW,a0I,JA,kR,U2,bME⟩:=aT pW hp A8 nL nR vF G5 BX hE jY bk hp1;obtain⟨tF,MP,h4',ih',V5,rR,DY,e',aQY,oD⟩:=aR kY oJ h4 ih TW AR pF e hLB qC;clear pW hp A8 nL nR vF G5 BX hE jY bk hp1 kY oJ h4 ih TW AR pF e hLB qC;go_enter Tryz.func185,Tryz.ntmps185;go_wp2_with fail
 refine(JA.o _).mono ?_;rintro e w3 ⟨rfl,jQ⟩;have hp3:=bME.o.later jQ;have XE:=U2.o.late jQ;clear d0 d1 d2;have hP:=P5 B v l 2 no 0 (6+12*m) w3 hp3 (by have:=jQ.size;omega) he0 aG aG;obtain⟨qN,a00,a9B,Q0⟩:=aL jQ hp3 XE hP;clear jQ hp3 XE hP;go_wp2_with fail
 refine Q0.o.mono ?_;rintro e w4 ⟨v4,rfl,hp4,J3⟩;have J3:=(Gr.of_below qN.o).trans J3;obtain⟨L0,hL0⟩:=aC (pG l 2 no 0 (6+12*m));rw[hL0]at hp4 a0I aQY b1 a1;obtain⟨bEW,a01⟩:=aJ hp4 J3;clear hp4 J3;go_wp2_with fail
 go_loopw [0,7] (fun r0 iv wr=>∃(i:Nat) (rv:Value),i≤tn∧iv= .int .i64 i∧rv=r0∧Hid (Spr B wr rv (oF no ((zs.map l8).take i) L0))∧Hid (Gr v rv W1 wr)) (fun _ iv _=>tn - (intOf iv).toNat)
 case atStart=>exact⟨0,v4,by omega,rfl,rfl,aA (by simpa [oF] using bEW.o),a01⟩
 case round=>
  obtain⟨i,rv,yJ,rfl,rfl,BQ,hmr⟩:=hrel;have CY:=U2.o.gr hmr.o MP.o;have q0:=CY.cell (i:=0) rfl;by_cases hi:i<tn
  ·have I4:(i:Int)<(tn:Int):=by omega
   have hw5:IntKind.i64.wrap ((i:Int)+1)=i+1:=by rw[bF];omega
   have qR:=oD.o.trans (hmr.o.below tF.o (by have:=lF.o.size;omega));obtain⟨b,o,rfl,lC,f0,f1,f2,f3,rV⟩:=(D8.o.mono qR).at hi;have zM:=a1U no L0 (show i<zs.length by rw[qJ];exact hi);obtain⟨⟨⟨y,t,k,xa,xn,xc⟩,dd⟩,wO⟩:∃z,zs.getD i yL=z:=⟨_,rfl⟩;rw[wO]at f0 f1 f2 f3 rV zM;simp only[l8]at f0 f1 f2 f3 zM;have hol:=a98 t k;have HG:=fun W=>aQG t k W;obtain⟨x,hx⟩:=aC (yF t k);rw[hx]at HG hol;have hL1:=aQY.o i yJ;obtain⟨L,hL⟩:=aC (oF no ((zs.map l8).take i) L0);rw[hL]at BQ zM hL1;obtain⟨Ty,ff,sU,jN,jK⟩:=kE wr;have z0:∀s,(ff s).cell? ⟨w.heap.size,0,none⟩=some (.slice (some ⟨b,o,none⟩) tn tc):=fun s=>late (jN s) CY.lt q0;have z1:∀s,(ff s).cell? ⟨b,o+i*4+1,none⟩=some (.int .i64 t):=fun s=>late (jN s) lC f1;have z2:∀s,(ff s).cell? ⟨b,o+i*4+2,none⟩=some (.int .i64 k):=fun s=>late (jN s) lC f2;have z3:∀s,(ff s).cell? ⟨b,o+i*4,none⟩=some (.int .i64 y):=fun s=>late (jN s) lC f0;have HS:=aA (jK _ ((aY _ _).drew));clear f0 f1 f2 f3 rV;obtain⟨a1Y,jH,jF,NC,TR,hL',I7,JR,HG'⟩:=aQ qR jN jK wO hx hL zM CY HG;clear qR jN jK wO hx hL zM CY HG;go_wp2_with fail
   clear q0;refine jL ff aF aF HS.o ?_;iterate 16 (go_big_quiet_step ((go_at_call 240;refine(HG'.o _).mono ?_;rintro e w3 ⟨rfl,jQ⟩;exact⟨rfl,jF.o _ ((jH.o _).tm jQ)⟩)))
   refine wpQuiet_nil ?_;intro s;have kJ:=jH.o s;have q0:=z0 s;have q3:=z3 s;have bF1:=BQ.o.later kJ;have b6C:=hmr.o.trans (Gr.of_below kJ);have bV7:=b6C.size;generalize ff s=ws at*;clear z0 z1 z2 z3;obtain⟨mR,b1I,b1J⟩:=aK kJ bF1 b6C;clear kJ bF1 b6C;by_cases hx0:0<x
   ·have a5V:=I7.o.trans (a7O TR.o hx0);have hP:=P5 B rv L 3 no y x ws b1I.o aG hL1.1 aG hL1.2.2;rw[←a5V]at hP;clear a5V;have Q0:=aA hP;clear hP;go_wp2_with fail
    refine Q0.o.mono ?_;rintro e w8 ⟨v8,rfl,YN,U3⟩;have YU:=b1J.o.trans U3;clear q0 q3;obtain⟨XF,aGU⟩:=aJ YN YU;clear YN YU;go_wp2_with fail
    go_roundw
    case rel=>exact⟨i+1,v8,by omega,by go_num,rfl,XF,aGU⟩
    case measure=>simp[intOf];omega
   ·have a5V:=I7.o.trans (a7P TR.o hx0);have hd:decide (0<x)=false:=by simp;omega
    have YN:Spr B ws rv (oF no ((zs.map l8).take (i+1)) L0):=by rw[a5V];exact b1I.o
    clear a5V q0 q3;have XF:=aA YN;clear YN;go_wp2_with fail
    go_roundw
    case rel=>exact⟨i+1,rv,by omega,by go_num,rfl,XF,b1J⟩
    case measure=>simp[intOf];omega
  ·obtain rfl:i=tn:=by omega
   have rY:(zs.map l8).take i=zs.map l8:=bK (by rw[bL,qJ];omega);rw[rY,←CW.o]at BQ;clear aQY;obtain⟨L1,hL1⟩:=aC (oF no d.1 L0);rw[hL1]at BQ b1 a0I;have JR:=aA CY;clear CY;go_wp2_with fail
   go_loopw [0,9,10] (fun r0 av iv wx=>∃(i:Nat) (rv:Value),i≤sn∧iv= .int .i64 i∧av= .int .i64 (l7 f (d.2.1.take i) (L1,no+1)).2∧rv=r0∧Hid (Spr B wx rv (l7 f (d.2.1.take i) (L1,no+1)).1)∧Hid (Gr v rv W1 wx)) (fun _ _ iv _=>sn - (intOf iv).toNat)
   case atStart=>exact⟨0,rv,by omega,rfl,rfl,rfl,aA (by simpa [l7] using BQ.o),hmr⟩
   clear q0 hmr BQ JR
   case round=>
    obtain⟨i,rv,yJ,rfl,rfl,rfl,BQ,hmr⟩:=hrel;have CY:=U2.o.gr hmr.o MP.o;have q1:=CY.cell (i:=1) rfl;by_cases hi:i<sn
    ·have I4:(i:Int)<(sn:Int):=by omega
     have hw5:IntKind.i64.wrap ((i:Int)+1)=i+1:=by rw[bF];omega
     have qR:=oD.o.trans (hmr.o.below tF.o (by have:=lF.o.size;omega));have hid:i<d.2.1.length:=by rw[rR.o];exact hi
     have nV:i<ds.length:=by rw[oQ];exact hid
     obtain⟨b,o,rfl,lC,fe⟩:=tX.o.elem mJ aH (0,(.slice none 0 0,.slice none 0 0,.slice none 0 0)) hi;rw[jO nV]at fe;obtain⟨OV,nD⟩:=oW.o i nV hid;obtain⟨ua,un,uc,pa,pn,pc,ra,rn,rc,hv⟩:=nD.v;have k1:=fe 1 _ rfl;have k2:=fe 2 _ rfl;have k3:=fe 3 _ rfl;clear fe OV;rw[hv]at nD k1 k2 k3;simp only at k1 k2 k3;have g1:=late qR lC k1;have g2:=late qR lC k2;have g3:=late qR lC k3;have vI:=DX f d.2.1 (L1,no+1) hid;have UC:=z8 f d.2.1 hid;have RQ:=oO f d.2.1 (i+1);have tH:lN f d.2.1[i].2:=h4'.o _ (bJ hid);have tQ:=vP f (L8 f) (d.2.1.take i) (L1,no+1) (fun x hx=>h4'.o x (eT hx)) b1.1;simp only at tQ;generalize d.2.1[i].2=dd at vI UC tH nD;generalize l7 f (d.2.1.take i) (L1,no+1)=R at vI tQ BQ ⊢;obtain⟨Ls,ns⟩:=R;simp only at tQ BQ vI ⊢;have KW:=aB (ns+(kQ f dd).length) aG;have hI:=ih'.o B ns rv Ls w0 wr dd _ nD qR hB0 (by have:=hmr.o.size;omega) BQ.o tH aG aG tQ.1 aG aG;have hW:=fun W (h:Below w0.heap.size w0 W)=>NS f w0 W dd _ nD h aG;simp only at hI hW;obtain⟨a1Y,zH,a6E,aC6,yG,MR,xE,zN,I5,JR,k1',k2'⟩:=aT qR nD UC RQ tH hI hv vI hW CY k1 k2;obtain⟨k3',a2B⟩:=aJ k3 tQ;clear qR nD UC RQ tH hI hv vI hW CY k1 k2 k3 tQ;go_wp2_with fail
     refine MR.o.mono ?_;rintro e w7 ⟨v7,rfl,hp7,hm7⟩;have hm7:=hmr.o.trans hm7;have bk7:=U2.o.gr hm7 MP.o;have Q9:=oD.o.trans (hm7.below tF.o (by have:=lF.o.size;omega));clear q1 g1 g2 g3;have q1:=bk7.cell (i:=1) rfl;have g1:=late Q9 lC k1'.o;have g2:=late Q9 lC k2'.o;have g3:=late Q9 lC k3'.o;have hWW:=I5.o w7 Q9;obtain⟨aGP,aGQ,aRA,aK6,b6D⟩:=aM hp7 hm7 bk7 Q9 hWW;clear hp7 hm7 bk7 Q9 hWW;go_wp2_with fail
     refine b6D.o.mono ?_;rintro e w8 ⟨a8,c8,us,rfl,ho8,a2A,J4⟩;have YN:=aGP.o.later J4;have U3:=aGQ.o.trans (Gr.of_below J4);clear q1 g1 g2 g3 ho8 a2A;obtain⟨XF,a6F,a96⟩:=aK YN U3 J4;clear YN U3 J4;go_wp2_with fail
     go_roundw
     case rel=>exact⟨i+1,v7,by omega,by go_num,by rw[zN.o],rfl,by rw[zN.o];exact XF,a6F⟩
     case measure=>simp[intOf];omega
    ·obtain rfl:i=sn:=by omega
     have rY:d.2.1.take i=d.2.1:=bK (by rw[rR.o];omega);rw[rY]at BQ;have tQ:=vP f (L8 f) d.2.1 (L1,no+1) h4'.o b1.1;generalize l7 f d.2.1 (L1,no+1)=R at*;obtain⟨Ls,ns⟩:=R;simp only at tQ BQ;have d2:=CY.cell (i:=2) rfl;by_cases RU:0<bn
     ·rw[if_pos RU]at a0I;have hdc:decide ((0:Int)<bn)=true:=by simp;omega
      have hP:=P5 B rv Ls 4 no 0 bn wr BQ.o (by have:=hmr.o.size;omega) tQ.1 aG aG;obtain⟨Q0,JR⟩:=aJ hP CY;clear hP CY;go_wp2_with fail
      refine Q0.o.mono ?_;rintro e w8 ⟨v8,rfl,YN,U3⟩;have U3:=(Gr.of_below kR.o).trans (hmr.o.trans U3);have hp9:Spr B w8 v8 (BF (f+1) d no l):=by rw[a0I.o];exact YN
      clear d2 q1;obtain⟨XF,a6F,aGR⟩:=aK YN U3 hp9;clear YN U3 hp9;go_wp2_with fail
      go_ret;exact⟨v8,rfl,aGR.o,a6F.o⟩
     ·rw[if_neg RU]at a0I;have hdc:decide ((0:Int)<bn)=false:=by simp;omega
      have hp9:Spr B wr rv (BF (f+1) d no l):=by rw[a0I.o];exact BQ.o
      have U3:=(Gr.of_below kR.o).trans hmr.o;obtain⟨aGR,JR,a6F⟩:=aK hp9 CY U3;clear hp9 CY U3;go_wp2_with fail
      go_ret;exact⟨rv,rfl,aGR.o,a6F.o⟩
theorem aN1:∀f,aR9 f:=by
 intro f;induction f with
 |zero=>intro B no v l w0 w d dv hd;exact hd.elim
 |succ f ih=>exact aGT f ih
