import Derived.Test.YtceclmpmpldmlaaGreatCw12
set_option linter.unusedSimpArgs false
set_option linter.unusedVariables false
set_option maxRecDepth 100000
set_option maxHeartbeats 8000000
namespace Go.Proofs.YtceclmpmpldmlaaGreat
open Go.RowKit Tt
theorem ZW (MJ:Nat) (hf:MJ=228∨MJ=108) (cap:Value) (a:Option Addr) (n c:Nat) (ls:List Lk) (p:Lk→Bool) (w:World) (hs:Sl w a n c 2 (fl lkc ls))
  (hc:∀W (x:Lk),Below w.heap.size w W→Calls Tryz.prog MJ #[.agg #[.int .i64 x.1,.int .i64 x.2],cap] W fun e W'=>e= .returned (.bool (p x))∧Below W.heap.size W W'):
  Calls Tryz.prog 91 #[.slice a n c,.func (.func MJ) #[] #[cap]] w fun e w'=>e= .returned (.int .i64 (fst p ls))∧Below w.heap.size w w':=by
 have hl:=hs.xZ sO aH;have hm:=hs.max;have FI:=hs.le;obtain⟨sK,KU,FX⟩:=aK hs hc hl;clear hs hc hl;rcases hf with rfl|rfl
 all_goals
  go_enter Tryz.func91,Tryz.ntmps91;go_wp2;go_loopw [8] (fun iv wr=>∃k:Nat,k≤n∧iv= .int .i64 k∧Hid (∀i (hi:i<ls.length),i<k→p ls[i]=false)∧Hid (Below w.heap.size w wr)) (fun iv _=>n - (intOf iv).toNat)
  case atStart=>exact⟨0,by omega,rfl,aA (fun j _ hj=>by omega),aA (bF _ _)⟩
  case round=>
   obtain⟨k,hk,rfl,lY,hb⟩:=hrel;by_cases kY:k<n
   ·have hww:IntKind.i64.wrap ((k:Int)+1)=k+1:=by rw[bJ];omega
    have xK:k<ls.length:=by rw[FX.o];exact kY
    obtain⟨b,o,rfl,EI,f⟩:=(sK.o.mono hb.o).elem sO aH (0,0) kY;rw[kF xK]at f;have f0:=f 0 _ rfl;have f1:=f 1 _ rfl;clear f;rw[dB]at f0;obtain⟨r,hr⟩:=aC (p (ls[k]'xK));have HC:=KU.o wr (ls[k]'xK) hb.o;rw[hr]at HC;generalize (ls[k]'xK).1=x1 at*;generalize (ls[k]'xK).2=x2 at*;obtain⟨WO,sH⟩:=aJ HC hr;clear HC hr;go_wp2_with fail
    refine WO.o.mono ?_;rintro e w2 ⟨rfl,kP⟩;have lK:=hb.o.tm kP;clear kP;cases r with
    |true=>
     have kX:=aA lK;clear lK;go_wp2;go_ret;exact⟨by rw[P9 xK sH.o (fun i hi=>lY.o i aG hi)];rfl,kX.o⟩
    |false=>
     have oQ:∀i (hi:i<ls.length),i<k+1→p ls[i]=false:=fun i hi h=>by
      rcases eB i k with h1|h1
      ·exact lY.o i hi h1
      ·obtain rfl:i=k:=by omega
       exact sH.o
     obtain⟨kX,nG⟩:=aJ lK oQ;clear lK oQ;go_wp2;go_roundw
     case rel=>exact⟨k+1,by omega,by go_num,nG,kX⟩
     case measure=>simp[intOf];omega
   ·obtain rfl:k=n:=by omega
    go_wp2;go_ret;exact⟨by rw[UO (fun i hi=>lY.o i hi (by rw[FX.o]at hi;exact hi))];rfl,hb.o⟩
theorem aPM (MJ:Nat) (hf:MJ=228∨MJ=108) (cap:Value) (a:Option Addr) (n c:Nat) (ls:List Lk) (p:Lk→Bool) (w:World) (hs:Sl w a n c 2 (fl lkc ls))
  (hc:∀W (x:Lk),Below w.heap.size w W→Calls Tryz.prog MJ #[.agg #[.int .i64 x.1,.int .i64 x.2],cap] W fun e W'=>e= .returned (.bool (p x))∧Below W.heap.size W W'):
  Calls Tryz.prog 227 #[.slice a n c,.func (.func MJ) #[] #[cap]] w fun e w'=>e= .returned (.bool (ls.any p))∧Below w.heap.size w w':=by
 have HX:=ZW MJ hf cap a n c ls p w hs hc;obtain⟨r,hr⟩:=aC (fst p ls);have ha:=EL (p:=p) (l:=ls);rw[hr]at HX ha;obtain⟨q,hq⟩:=aC (ls.any p);rw[hq]at ha ⊢;clear hs hc;obtain⟨HX',sH,hq'⟩:=aK HX hr hq;clear HX hr hq;rcases hf with rfl|rfl
 all_goals
  go_enter Tryz.func227,Tryz.ntmps227;go_wp2_with fail
  refine HX'.o.mono ?_;rintro e w2 ⟨rfl,kP⟩;have pG:=aA kP;clear kP;go_wp2;go_ret;exact⟨rfl,pG.o⟩
theorem aJB (g:Nat) (tag u v:Int) (w:World) (h:w.cell? ⟨g,0,none⟩=some (.int .i64 tag)) (hg:g<w.heap.size):
  Calls Tryz.prog 228 #[.agg #[.int .i64 u,.int .i64 v],.pointer (some ⟨g,0,none⟩)] w fun e w'=>e= .returned (.bool (u==tag))∧Below w.heap.size w w':=by
 have hb:=aD w (.cells #[.int .i64 u,.int .i64 v] 32);have pW:=aA hb;clear hb;go_enter Tryz.func228,Tryz.ntmps228;go_wp2_with fail
 go_ret;exact⟨rfl,pW.o⟩
theorem aPN (la:Option Addr) (ln lc:Nat) (oN:List Lk) (sat kC oM tag:Int) (w:World) (hl:Sl w la ln lc 2 (fl lkc oN)):
  Calls Tryz.prog 162 #[.agg #[.slice la ln lc,.int .i64 sat,.int .i64 kC,.int .i64 oM],.int .i64 tag] w fun e w'=>e= .returned (.bool ((decide (0<sat)&&(tag==sat||tag==kC))||oN.any fun y=>y.1==tag))∧Below w.heap.size w w':=by
 have kV:=(aD w (.cells #[.slice la ln lc,.int .i64 sat,.int .i64 kC,.int .i64 oM] 35)).alloc (by simp) (.cells #[.int .i64 tag] 3);obtain⟨W1,vS⟩:∃W1,(w.alloc (.cells #[.slice la ln lc,.int .i64 sat,.int .i64 kC,.int .i64 oM] 35)).alloc (.cells #[.int .i64 tag] 3)=W1:=⟨_,rfl⟩;have sI:W1.cell? ⟨w.heap.size+1,0,none⟩=some (.int .i64 tag):=by rw[←vS];simp
 have tC:w.heap.size+1<W1.heap.size:=by rw[←vS];simp
 rw[vS]at kV;have hH:=aPM 228 (.inl rfl) (.pointer (some ⟨w.heap.size+1,0,none⟩)) la ln lc oN (fun y=>y.1==tag) W1 (hl.mono kV) (fun W x hb=>aJB _ tag x.1 x.2 W (late hb tC sI) (dD tC hb.size));rw[←vS]at hH kV;clear sI tC vS;generalize (oN.any fun y=>y.1==tag)=r at*;obtain⟨FX,lZ,hH'⟩:=aK hl kV hH;clear hl kV hH;obtain⟨p,hp⟩:=aC (decide (0<sat));obtain⟨q,hq⟩:=aC (tag==sat);obtain⟨s,hs⟩:=aC (tag==kC);rw[hp,hq,hs];cases p with
 |false=>
  go_enter Tryz.func162,Tryz.ntmps162;go_wp2_with fail
  refine hH'.o.mono ?_;rintro e w2 ⟨rfl,kP⟩;have hb:=lZ.o.tm kP;obtain⟨pW,pG⟩:=aJ hb kP;clear hb kP;go_wp2_with fail
  go_ret;exact⟨rfl,pW.o⟩
 |true=>
  cases q with
  |true=>
   go_enter Tryz.func162,Tryz.ntmps162;go_wp2_with fail
   go_ret;exact⟨rfl,lZ.o⟩
  |false=>
   cases s with
   |true=>
    go_enter Tryz.func162,Tryz.ntmps162;go_wp2_with fail
    go_ret;exact⟨rfl,lZ.o⟩
   |false=>
    go_enter Tryz.func162,Tryz.ntmps162;go_wp2_with fail
    refine hH'.o.mono ?_;rintro e w2 ⟨rfl,kP⟩;have hb:=lZ.o.tm kP;obtain⟨pW,pG⟩:=aJ hb kP;clear hb kP;go_wp2_with fail
    go_ret;exact⟨rfl,pW.o⟩
theorem aEH (f:Nat) (o:Int) (sa:Option Addr) (sn sc:Nat) (ds:List (jY f)) (w:World) (h:JX f w sa sn sc ds) (hs:∀d∈ds,mY f d) (hN:(oI f ds).length<1000)
  (hmay:∀W,Below w.heap.size w W→Calls Tryz.prog 44 #[.agg #[.int .i64 o,.slice sa sn sc]] W fun e W'=>e= .returned (.bool (U2 f ds))∧Below W.heap.size W W'):
  Calls Tryz.prog 11 #[.agg #[.int .i64 o,.slice sa sn sc]] w fun e w'=>((V3 f ds=true∧∃v,e= .returned (.tuple #[v,.bool true])∧Spr w.heap.size w' v (kW f ds))∨(V3 f ds=false∧e= .returned (.tuple #[.slice none 0 0,.bool false])))∧Below w.heap.size w w':=by
 have kV:=aD w (.cells #[.int .i64 o,.slice sa sn sc] 39);have bk:=kG.new w 39 #[.int .i64 o,.slice sa sn sc];obtain⟨W1,vS⟩:=aC (w.alloc (.cells #[.int .i64 o,.slice sa sn sc] 39));rw[vS]at kV bk;have hM:=hmay W1 kV;have d0:=bk.cell (i:=0) rfl;have d1:=bk.cell (i:=1) rfl;have AP:ds.length=sn:=by
  obtain⟨ME,wG,qU,_⟩:=h;rw[←wG];exact qU.xZ qW aH
 have GY:(FP f ds).length=sn:=by unfold FP;rw[dF];exact AP
 have b3B:∀x∈FP f ds,mY f x.2:=fun x hx=>by
  obtain⟨d,hd,rfl⟩:=dH.1 hx;exact hs d hd
 have bK9:mD f (FP f ds)=oI f ds:=H6 f ds;obtain⟨q,hq⟩:=aC (U2 f ds);rw[hq]at hM;have JF:V3 f ds=(q&&decide (nI (kW f ds)≤4294967295)):=by unfold V3;rw[hq]
 clear hmay hq;obtain⟨h',lZ,bk',hM',sK,aEI,FQ,a7Y,bKA,bKB⟩:=aR h kV bk hM hs JF AP GY b3B bK9;clear h kV bk hM hs JF AP GY b3B bK9;go_enter Tryz.func11,Tryz.ntmps11;go_wp2_with fail
 refine hM'.o.mono ?_;rintro e w2 ⟨rfl,kP⟩;have bk2:=bk'.o.late kP;have rG:=lZ.o.tm kP;have aS2:=bk2.lt;clear d0 d1;cases q with
 |false=>
  obtain⟨pG,ZV,nD⟩:=aK kP bk2 rG;clear kP bk2 rG;go_wp2_with fail
  refine bodyPost_ret (results_tmp2 rfl _ _ _) rfl ?_;exact⟨.inr ⟨aEI.o,rfl⟩,nD.o⟩
 |true=>
  have kU:=aD w2 (.cells #[.int .i64 0,.int .i64 0,.slice none 0 0] 98);have hpn:Pln w2.heap.size (w2.alloc (.cells #[.int .i64 0,.int .i64 0,.slice none 0 0] 98)) 0 (.slice none 0 0) []:=⟨kG.new w2 98 #[.int .i64 0,.int .i64 0,.slice none 0 0],lC _ _ _ _⟩;have hP:=X5 w2.heap.size 0 (.slice none 0 0) [] 1 (-1) 0 8 _ hpn aH aH aH aH aH;obtain⟨pG,ZV,nD,qR,aPO,hP'⟩:=aN kP bk2 rG kU hpn hP;clear kP bk2 rG kU hpn hP;go_wp2_with fail
  refine hP'.o.mono ?_;rintro e w3 ⟨v3,rfl,hp3,RU⟩;have bk3:=(ZV.o.late qR.o).mv RU aG aG (by intro h;cases h);have d1:=bk3.cell (i:=1) rfl;obtain⟨a4I,O0,aPK⟩:=aK hp3 RU bk3;clear hp3 RU bk3;go_wp2_with fail
  obtain⟨g,hg⟩:∃g,g=w2.heap.size:=⟨_,rfl⟩;rw[←hg]at a4I O0 ⊢;have hmm:Hid (Mv g g (.slice none 0 0) v3 w2 w3):=aA ((Mv.of_below qR.o).trans O0.o);have hwg:w.heap.size≤g:=by rw[hg];exact nD.o.size
  have JJ:w2.heap.size≤g:=by omega
  clear O0 aPK hP' aPO hg;go_loopw [17] (fun iv wx=>∃(i:Nat) (v':Value),i≤sn∧iv= .int .i64 i∧Hid (Pln g wx (l9 f ((FP f ds).take i) (oH [] 1 (-1) 0 8,0)).2 v' (l9 f ((FP f ds).take i) (oH [] 1 (-1) 0 8,0)).1)∧Hid (Mv g g (.slice none 0 0) v' w2 wx)) (fun iv _=>sn - (intOf iv).toNat)
  case atStart=>exact⟨0,v3,by omega,rfl,aA (by simpa [l9] using a4I.o),hmm⟩
  clear a4I hmm
  case round=>
   obtain⟨i,v',CY,rfl,TB,hmr⟩:=hrel;have hbo:=hmr.o.below JJ JJ (fun k e=>by cases e) (aY _);have FZ:=nD.o.tm hbo;have he8:nI (oH [] 1 (-1) 0 8)=8:=rfl;have FJ:=zT f (X6 f) ((FP f ds).take i) (oH [] 1 (-1) 0 8,0) (fun x hx=>bKA.o x (gQ hx)) aH;have b39:=xA f (FP f ds) i;have aTV:(oH [] 1 (-1) 0 8).length=1:=rfl;simp only[he8,aTV]at FJ;by_cases hi:i<sn
   ·have hil:(i:Int)<(sn:Int):=by omega
    obtain⟨ME,wG,qU,vV⟩:=h'.o;have UC:=qU.max;have hml:=qU.le;have hw5:IntKind.i64.wrap ((i:Int)+1)=i+1:=by rw[bJ];omega
    have hid:i<ds.length:=by rw[FQ.o];exact hi
    have rC:i<ME.length:=by omega
    have hip:i<(FP f ds).length:=by rw[a7Y.o];exact hi
    have hpi:=aMW f ds hip hid;obtain⟨b,o',rfl,xL,fe⟩:=qU.elem qW aH dzz hi;rw[kF rC]at fe;have rH:=vV i rC hid;obtain⟨ua,un,uc,pa,pn,pc,ra,rn,rc,hv⟩:=rH.v;have k0:=fe 0 _ rfl;have k1:=fe 1 _ rfl;have k2:=fe 2 _ rfl;clear fe;rw[hv]at rH k0 k1 k2;simp only[dB]at k0 k1 k2;have g0:=late FZ xL k0;have g1:=late FZ xL k1;have g2:=late FZ xL k2;have zN:=GQ f (FP f ds) (oH [] 1 (-1) 0 8,0) hip;have hft:=MP f (FP f ds) hip;have bKC:=xA f (FP f ds) (i+1);rw[hpi]at zN hft;have EJ:mY f ds[i]:=sK.o _ (bP hid);rw[bKB.o]at b39 bKC;generalize ds[i]=dd at zN hft EJ rH;generalize l9 f ((FP f ds).take i) (oH [] 1 (-1) 0 8,0)=R at zN FJ TB;obtain⟨Ls,ns⟩:=R;simp only at FJ TB zN;have JM:=aD wr (.cells #[.slice ua un uc,.slice pa pn pc,.slice ra rn rc] 26);have hI:=aTQ f g ns v' Ls w _ dd _ rH (FZ.tm JM) hwg (TB.o.later JM) EJ aG aG FJ.1 aG aG;simp only at hI;clear qU vV hv wG k0 k1 k2;obtain⟨bUW,a4J,c4L,aBD,c1X,c4M,L9,Z4,bUV,JN,hI',U1⟩:=aT hbo FZ he8 FJ aTV hpi rH zN hft EJ hI JM;clear hbo FZ he8 FJ aTV hpi rH zN hft EJ hI JM;go_wp2_with fail
    refine hI'.o.mono ?_;rintro e w7 ⟨v7,rfl,hp7,hm7⟩;have hm7:=(hmr.o.later U1.o).trans hm7;clear g0 g1 g2;obtain⟨bCG,bCH⟩:=aJ hp7 hm7;clear hp7 hm7;go_wp2_with fail
    go_roundw
    case rel=>exact⟨i+1,v7,by omega,by go_num,by rw[Z4.o];exact bCG,bCH⟩
    case measure=>simp[intOf];omega
   ·obtain rfl:i=sn:=by omega
    have KF:(FP f ds).take i=FP f ds:=bW (by rw[a7Y.o];omega);rw[KF]at TB;have hLe:(l9 f (FP f ds) (oH [] 1 (-1) 0 8,0)).1=kW f ds:=rfl;rw[hLe]at TB;have q0:=TB.o.blk.cell (i:=0) rfl;have q2:=TB.o.blk.cell (i:=2) rfl;have bKD:Spr w.heap.size wr v' (kW f ds):=lN TB.o.o5 aG;obtain⟨a4J,bUW,bKE,aBD⟩:=aL FZ hbo bKD FJ;clear FZ hbo bKD FJ;by_cases hfi:nI (kW f ds)≤4294967295
    ·have hdc:decide ((4294967295:Int)<nI (kW f ds))=false:=by simp;omega
     rw[decide_eq_true hfi]at aEI;go_wp2_with fail
     refine bodyPost_ret (results_tmp2 rfl _ _ _) rfl ?_;exact⟨.inl ⟨aEI.o,v',rfl,bKE.o⟩,a4J.o⟩
    ·have hdc:decide ((4294967295:Int)<nI (kW f ds))=true:=by simp;omega
     rw[decide_eq_false hfi]at aEI;go_wp2_with fail
     refine bodyPost_ret (results_tmp2 rfl _ _ _) rfl ?_;exact⟨.inr ⟨aEI.o,rfl⟩,a4J.o⟩
theorem aEJ (no:Int):∀(ts:List oZ) (l:List mZ),l.length≤(nK no ts l).length
 | [],l=>aY _
 |x::ts,l=>by
  have e:nK no (x::ts) l=nK no ts (if 0<rT x.2.1 x.2.2.1 then oH l 3 no x.1 (rT x.2.1 x.2.2.1)else l):=rfl;rw[e];refine bU ?_ (aEJ no ts _);split
  ·rw[F5];omega
  ·exact aY _
theorem V4 (f:Nat) (ih:∀(d:jY f) (no:Int) (l:List mZ),l.length≤(yX f d no l).length):∀(ss:List (Int×jY f)) (r:List mZ×Int),r.1.length≤(l9 f ss r).1.length
 | [],r=>aY _
 |s::ss,r=>by
  rw[yN];exact bU (ih s.2 r.2 r.1) (V4 f ih ss (yX f s.2 r.2 r.1,r.2+(lD f s.2).length))
theorem b3C:∀(f:Nat) (d:jY f) (no:Int) (l:List mZ),l.length≤(yX f d no l).length:=by
 intro f;induction f with
 |zero=>intro d no l;exact aY _
 |succ f ih=>
  intro d no l;have h1:=aEJ no d.1 (oH l 2 no 0 (6+12*(pU d.1.length d.2.1.length d.2.2.length:Nat)));have h2:=V4 f ih d.2.1 (nK no d.1 (oH l 2 no 0 (6+12*(pU d.1.length d.2.1.length d.2.2.length:Nat))),no+1);rw[F5]at h1;simp only at h2;rw[L8];split
  ·rw[F5];omega
  ·omega
theorem aTW (f:Nat) (ds:List (jY f)) (hs:∀d∈ds,mY f d) (hN:(oI f ds).length<1000):∃n,(kW f ds).length=n+1:=by
 have h:=V4 f (b3C f) (FP f ds) (oH [] 1 (-1) 0 8,0);have aTV:(oH [] 1 (-1) 0 8).length=1:=rfl;simp only[aTV]at h;exact⟨(kW f ds).length - 1,by unfold kW;omega⟩
theorem aTX (f:Nat) (o:Int) (sa:Option Addr) (sn sc:Nat) (ds:List (jY f)) (w:World) (h:JX f w sa sn sc ds) (hs:∀d∈ds,mY f d) (hN:(oI f ds).length<1000)
  (hmay:∀W,Below w.heap.size w W→Calls Tryz.prog 44 #[.agg #[.int .i64 o,.slice sa sn sc]] W fun e W'=>e= .returned (.bool (U2 f ds))∧Below W.heap.size W W'):
  Calls Tryz.prog 12 #[.agg #[.int .i64 o,.slice sa sn sc]] w fun e w'=>e= .returned (.int .i64 (oU f ds))∧Below w.heap.size w w':=by
 have FJ:=aEG f ds hs hN;obtain⟨n,hn⟩:=aTW f ds hs hN;have hla:=aPD hn;have kV:=aD w (.cells #[.int .i64 o,.slice sa sn sc] 39);have hO:=aEH f o sa sn sc ds _ (h.mono kV) hs hN (fun W hW=>hmay W (kV.tm hW));have hx1:V3 f ds=true→oU f ds=nI (kW f ds):=fun e=>by unfold oU;rw[if_pos e]
 have ZC:V3 f ds=false→oU f ds=0:=fun e=>by unfold oU;rw[if_neg (by rw[e];decide)]
 generalize oU f ds=x at*;obtain⟨lZ,hO',sK,h',a1W,a1X,c1Y⟩:=aO kV hO hs h hx1 ZC hmay;clear kV hO hs h hx1 ZC hmay;go_enter Tryz.func12,Tryz.ntmps12;go_wp2_with fail
 refine hO'.o.mono ?_;rintro e w2 ⟨hc,kP⟩;have lK:=lZ.o.tm kP;rcases hc with ⟨hf,v,rfl,hsp⟩|⟨hf,rfl⟩
 ·obtain⟨xa,xc,rfl⟩:=a9E hsp;obtain rfl:=a1W.o hf;clear a1W a1X;have qU:=(Sl.kZ hsp).1;have hm:=qU.max;have FI:=qU.le;rw[hn]at qU FI;obtain⟨b,o',rfl,hb,fe⟩:=qU.elem WZ aH (0,0,0,0,0) (show n<n+1 by omega);have f0:=fe 0 _ rfl;have f1:=fe 1 _ rfl;have f2:=fe 2 _ rfl;have f3:=fe 3 _ rfl;have f4:=fe 4 _ rfl;simp only[dB]at f0 f1 f2 f3 f4;clear fe qU hsp;obtain⟨r,hr⟩:=aC (nI (kW f ds));rw[hr]at hla FJ;generalize (kW f ds).getD n (0,0,0,0,0)=z at*;obtain⟨z0,z1,z2,z3,z4⟩:=z;simp only at f0 f1 f2 f3 f4 hla;have hw:IntKind.i64.wrap (z3+z4)=r:=by rw[bJ];omega
  have xR:IntKind.i64.wrap (((n+1:Nat):Int) - 1)=n:=by rw[bJ];omega
  have d1:(0:Int)≤(n:Int):=by omega
  have d2:(n:Int)<((n+1:Nat):Int):=by omega
  have yV:=lK.alloc lK.size (.cells #[.int .i64 z0,.int .i64 z1,.int .i64 z2,.int .i64 z3,.int .i64 z4] 50);rw[hn];obtain⟨kX,pG,c4N,FR,hn',sH⟩:=aN lK kP hla yV hn hr;clear lK kP hla yV hn hr;go_wp2_with fail
  go_ret;exact⟨aAG sH.o.symm,FR.o⟩
 ·obtain rfl:=a1X.o hf;clear a1W a1X;obtain⟨kX,pG⟩:=aJ lK kP;clear lK kP;go_wp2_with fail
  go_ret;exact⟨rfl,kX.o⟩
theorem b79:(Tryz.prog.info? 5).map (fun i=>(i.zero,i.size,i.bytes))=some (some (.int .u8 0),1,1):=by kernel_rfl
theorem ZX {n k:Nat} {p:Nat→Bool} (hk:k<n) (h:p k=false):(List.range n).all p=false:=by
 cases hh:(List.range n).all p with
 |false=>rfl
 |true=>rw[dI.1 hh k (cZ.2 hk)]at h;exact absurd h aH
theorem GR {n:Nat} {p:Nat→Bool} (h:∀k,k<n→p k=true):(List.range n).all p=true:=dI.2 fun k hk=>h k (cZ.1 hk)
def tg0:oZ:=(0,0,0, [])
def kS:(f:Nat)→jY f
 |0=>()
 |_+1=>([], [], [])
def tgB (s:nP) (ts:List oZ) (k:Nat):Bool:=
 DY (ts.getD k tg0).1&&(decide (k=0)||decide ((ts.getD (k - 1) tg0).1<(ts.getD k tg0).1))&& !xI s (ts.getD k tg0).1&&WA (ts.getD k tg0)
def vG (s:nP) (t:Int):Int:=(s.1.getD (fst (fun y=>y.1==t) s.1).toNat (0,0)).2
def WE {f:Nat} (has:jY f→Int→Bool) (s:nP) (ss:List (Int×jY f)) (k:Nat):Bool:=
 nQ s (ss.getD k (0,kS f)).1&&(decide (k=0)||decide ((ss.getD (k - 1) (0,kS f)).1<(ss.getD k (0,kS f)).1))&&has (ss.getD k (0,kS f)).2 (vG s (ss.getD k (0,kS f)).1)
def ownB (s:nP) (d:List oZ):Bool:=(List.range d.length).all (tgB s d)
def aPP (s:nP) (e b:Nat):Bool:=decide (1≤e)&&decide (e≤65535)&&(decide (b=0)|| !decide (s.2.1=0))
def nN (L:List nP):(f:Nat)→jY f→Int→Bool
 |0,_,_=>false
 |f+1,d,i=>aPP (L.getD i.toNat kQ) (pU d.1.length d.2.1.length d.2.2.length) d.2.2.length&&ownB (L.getD i.toNat kQ) d.1&&
   (List.range d.2.1.length).all (WE (nN L f) (L.getD i.toNat kQ) d.2.1)
theorem a9F (L:List nP) (f:Nat) (d:jY (f+1)) (i:Int):nN L (f+1) d i=
  (aPP (L.getD i.toNat kQ) (pU d.1.length d.2.1.length d.2.2.length) d.2.2.length&&ownB (L.getD i.toNat kQ) d.1&&(List.range d.2.1.length).all (WE (nN L f) (L.getD i.toNat kQ) d.2.1)):=rfl
def o8 (L:List nP):Nat→Int
 |0=>0
 |k+1=>(L.getD (o8 L k).toNat kQ).2.2.2
def chainB (L:List nP) (n:Nat):Bool:=(List.range n).all fun k=>decide (0≤o8 L k)
def hasAll (L:List nP) (f:Nat) (ds:List (jY f)):Bool:=(List.range ds.length).all fun k=>nN L f (ds.getD k (kS f)) (o8 L k)
def oD (f:Nat) (o:Int) (ds:List (jY f)) (L:List nP):Int:=
 if(mW L&&(decide (o=1)||decide (o=2))&& !decide (ds.length=0))=true then
  if chainB L ds.length=true then
   if hasAll L f ds=true then(if oU f ds=0 then 7 else 0)else 6
  else 1
 else 1
theorem AA {L:List nP} (h:mW L=true) {i:Nat} (hi:i<L.length):mR L.length i (L.getD i kQ)=true:=by
 unfold mW at h;simp only[bK]at h;exact dI.1 h.2 i (cZ.2 hi)
theorem a11 {L:List nP} (h:mW L=true):1≤L.length∧L.length≤16:=by
 unfold mW at h;simp only[bK,decide_eq_true_eq]at h;exact h.1
theorem a14 {n i:Nat} {s:nP} (h:mR n i s=true):s.2.2.2= -1∨((i:Int)<s.2.2.2∧s.2.2.2<n):=by
 unfold mR a4C NN at h;simp only[bK,dN,decide_eq_true_eq]at h;exact h.1.2
theorem a9G {n i k:Nat} {s:nP} (h:mR n i s=true) (hk:k<s.1.length):tQ n i s k=true:=by
 unfold mR at h;simp only[bK]at h;exact dI.1 h.1.1 k (cZ.2 hk)
theorem aJC {n i k:Nat} {s:nP} (h:tQ n i s k=true):(i:Int)<(s.1.getD k (0,0)).2∧(s.1.getD k (0,0)).2<n:=by
 unfold tQ NN at h;simp only[bK,decide_eq_true_eq]at h;exact h.1.2
theorem aEK {n i:Nat} {s:nP} (h:mR n i s=true):(s.2.1=0∧s.2.2.1=0)∨(1≤s.2.1∧s.2.1<s.2.2.1∧s.2.2.1<65536):=by
 unfold mR a9D DY at h;simp only[bK,dN,decide_eq_true_eq]at h;omega
theorem KJ {L:List nP} (h:mW L=true):∀k,o8 L k<L.length∧ -1≤o8 L k:=by
 have hl:=a11 h;intro k;induction k with
 |zero=>unfold o8;omega
 |succ k ih=>
  unfold o8;have:=a14 (AA h (i:=(o8 L k).toNat) aG);omega
theorem a15 {L:List nP} {n:Nat}:chainB L (n+1)=(chainB L n&&decide (0≤o8 L n)):=by
 unfold chainB;rw[fZ,jR];simp
theorem a9H {L:List nP} {n k:Nat} (hk:k<n) (h:o8 L k<0):chainB L n=false:=ZX hk (by simp;omega)
theorem MQ {α:Type} {p:α→Bool} {l:List α}: -1≤fst p l∧fst p l<l.length:=by
 unfold fst;cases h:l.findIdx? p with
 |none=>simp;omega
 |some i=>
  simp only;have:=gY.1 h;obtain⟨h1,_⟩:=this;omega
theorem a2T {L:List nP} {i:Nat} {t:Int} (h:mW L=true) (hi:i<L.length) (hl:nQ (L.getD i kQ) t=true):(i:Int)<vG (L.getD i kQ) t∧vG (L.getD i kQ) t<L.length:=by
 have hs:=AA h hi;have hb:=MQ (p:=fun(y:Lk)=>y.1==t) (l:=(L.getD i kQ).1);have ha:=EL (p:=fun(y:Lk)=>y.1==t) (l:=(L.getD i kQ).1);unfold nQ at hl;rw[hl,decide_eq_true_eq]at ha;have:=aJC (a9G hs (k:=(fst (fun(y:Lk)=>y.1==t) (L.getD i kQ).1).toNat) aG);exact this
theorem aPQ {n i:Nat} {s:nP} (h:mR n i s=true) (t:Int):((decide (0<s.2.1)&&(t==s.2.1||t==s.2.2.1))||s.1.any fun y=>y.1==t)=xI s t:=by
 unfold xI nQ yT;rw[Bool.or_comm];congr 1
end Go.Proofs.YtceclmpmpldmlaaGreat
namespace Tt
open Go Go.RowKit
theorem F6 (w:World) (T:TypeId) (a:Array Value) (U:TypeId) (b:Array Value) (V:TypeId) (c:Array Value):∃WC,((w.alloc (.cells a T)).alloc (.cells b U)).alloc (.cells c V)=WC∧kG WC w.heap.size T a∧kG WC (w.heap.size+1) U b∧kG WC (w.heap.size+2) V c∧Below w.heap.size w WC∧WC.heap.size=w.heap.size+3:=by
 have hA:=kG.new w T a;have hB:=kG.new (w.alloc (.cells a T)) U b;have hC:=kG.new ((w.alloc (.cells a T)).alloc (.cells b U)) V c;rw[show(w.alloc (.cells a T)).heap.size=w.heap.size+1 by simp]at hB;rw[show((w.alloc (.cells a T)).alloc (.cells b U)).heap.size=w.heap.size+2 by simp]at hC;exact⟨_,rfl,(hA.alloc _).alloc _,hB.alloc _,hC,((aD w _).alloc (by simp) _).alloc (by simp <;> omega) _,by simp⟩
theorem sN (w:World) (T:TypeId) (a:Array Value) (U:TypeId) (b:Array Value):∃WC,(w.alloc (.cells a T)).alloc (.cells b U)=WC∧kG WC w.heap.size T a∧kG WC (w.heap.size+1) U b∧Below w.heap.size w WC∧WC.heap.size=w.heap.size+2:=by
 have hA:=kG.new w T a;have hB:=kG.new (w.alloc (.cells a T)) U b;rw[show(w.alloc (.cells a T)).heap.size=w.heap.size+1 by simp]at hB;exact⟨_,rfl,hA.alloc _,hB,(aD w _).alloc (by simp) _,by simp⟩
theorem V5 (b:Nat) (w:World):∃(S:Type) (f:S→World),Nonempty S∧(∀s,But b w (f s))∧∀W,But b w W→∃s,W=f s:=
 ⟨{W:World // But b w W},Subtype.val,⟨⟨w,But.refl b w⟩⟩,fun s=>s.2,fun W h=>⟨⟨W,h⟩,rfl⟩⟩
theorem kG.aBE {w w':World} {b k:Nat} {T:TypeId} {cs:Array Value} (h:But b w w') (hb:kG w k T cs) (hk:k≠b):kG w' k T cs:=(h.block k hb.lt hk).trans hb
end Tt
namespace Go.Proofs.YtceclmpmpldmlaaGreat
open Go.RowKit Tt
def mE (x:oZ) (o:Int):List Int:=if wH x.2.1 x.2.2.1 x.2.2.2=true then rA x.2.2.2 (lI x.2.1).2.1 o else []
def AU (b:List Int):List Int:=b++List.replicate (4 - b.length) 0
def a8E (tag:Int) (b:List Int) (o:Int):Bool:=mH tag 2 o&&decide (b.length≠0)&&decide (b.length≤4)
def JO (x:oJ) (o:Int):List Int:=lQ x.1 2 o++lQ x.2.1 2 o++lQ x.2.2.1 4 o++lQ x.2.2.2 4 o
def JZ (x:oJ) (o:Int):Bool:=mH x.1 2 o&&mH x.2.1 2 o&&mH x.2.2.1 4 o&&mH x.2.2.2 4 o
def atP (what no tag:Int) (s:mZ):Bool:=s.1==what&&s.2.1==no&&s.2.2.1==tag
def qK (l:List mZ) (what no tag:Int):Int:=match l.find? (atP what no tag)with
 |some s=>s.2.2.2.1
 |none=>0
def Fits (l:List mZ) (n:Nat) (what no tag:Int) (m:Nat):Prop:=(l.any (atP what no tag)=true)∧0≤qK l what no tag∧(qK l what no tag).toNat+m≤n
abbrev Pt:=Nat×List Int
def FL (ps:List Pt) (b:List Int):List Int:=ps.foldl (fun b p=>splice b p.1 p.2) b
theorem qG (p q:List Pt) (b:List Int):FL (p++q) b=FL q (FL p b):=by unfold FL;rw[fT]
theorem qH {b MC:List Int} {i:Nat} (h:i+MC.length≤b.length):(splice b i MC).length=b.length:=by unfold splice;simp;omega
def TL (x:oZ) (o:Int):Bool:=a8E x.1 (mE x o) o
def PO (l:List mZ) (o no:Int) (x:oZ):oJ:=(x.1,x.2.1,x.2.2.1,if TL x o=true then mM (AU (mE x o)) 0 4 o else qK l 3 no x.1)
def FT (l:List mZ) (o no:Int) (x:oZ):List Pt:=if TL x o=true then []else [((qK l 3 no x.1).toNat,mE x o)]
theorem aTY {α:Type} {p:α→Bool} {l:List α} (h:l.any p=true):∃s,l.find? p=some s∧l[(fst p l).toNat]? =some s∧0≤fst p l:=by
 induction l with
 |nil=>cases h
 |cons x r ih=>
  cases hx:p x with
  |true=>
   have hf:fst p (x::r)=0:=P9 (k:=0) (by simp) (by simpa using hx) (fun i hi=>by omega);exact⟨x,by simp[List.find?,hx],by rw[hf];rfl,by rw[hf];decide⟩
  |false=>
   have hr:r.any p=true:=by simpa [hx] using h
   obtain⟨s,h1,h2,h3⟩:=ih hr;have hf:fst p (x::r)=fst p r+1:=by
    unfold fst at h3 ⊢;rw[List.findIdx?_cons,hx];cases hh:r.findIdx? p with
    |none=>rw[hh]at h3;simp at h3
    |some i=>simp
   refine⟨s,by simp[List.find?,hx,h1],?_,by omega⟩;rw[hf,show(fst p r+1).toNat=(fst p r).toNat+1 by omega];exact h2
structure Wc where
 gw:Nat
 gb:Nat
 n:Nat
 o:Int
 spa:Option Addr
 spn:Nat
 spc:Nat
 l:List mZ
 qa:Option Addr
 qn:Nat
 qc:Nat
 sb:Nat
structure RX (K:Wc) (w:World) (no:Int) (P:List Int):Prop where
 blk:kG w K.gw 91 #[.slice (some ⟨K.gb,0,none⟩) K.n K.n,.int .i64 K.o,.slice K.spa K.spn K.spc,.slice K.qa K.qn K.qc,.int .i64 no]
 row:Row w K.gb 5 .u8 P
 len:P.length=K.n
 sp:Sl w K.spa K.spn K.spc 5 (fl spC K.l)
 aBF:∀x,K.spa=some x→x.block≠K.gw∧x.block≠K.gb
 ne:K.gw≠K.gb
 aEL:∀x,K.spa=some x→x.block<K.sb
 aEM:K.sb≤w.heap.size
abbrev wI:Value:= .slice none 0 0
theorem ZY {w w':World} {a:Option Addr} {n c sz:Nat} {cs:List Value} (h:Sl w a n c sz cs) (hs:w.heap.size≤w'.heap.size) (hb:∀x,a=some x→x.block<w.heap.size→w'.heap[x.block]? =w.heap[x.block]?):Sl w' a n c sz cs:=
 ⟨h.len,h.le,h.max,fun i hi=>by
  obtain⟨g,off,e,kY,hc⟩:=h.lies i hi;refine⟨g,off,e,dD kY hs,fun j v hv=>?_⟩;have h1:=hc j v hv;have h2:=hb _ e kY;unfold World.cell? at h1 ⊢;rw[h2];exact h1,h.fit⟩
theorem RX.later {K:Wc} {w w':World} {no:Int} {P:List Int} (h:RX K w no P) (hb:Below w.heap.size w w'):RX K w' no P:=
 ⟨h.blk.late hb,kG.late (T:=5) h.row hb,h.len,h.sp.mono hb,h.aBF,h.ne,h.aEL,bU h.aEM hb.size⟩
theorem RX.no {K:Wc} {w:World} {no:Int} {P:List Int} (h:RX K w no P) (m:Int):RX K (w.setCell ⟨K.gw,4,none⟩ (.int .i64 m)) m P∧Mv K.gw K.gb wI wI w (w.setCell ⟨K.gw,4,none⟩ (.int .i64 m)):=by
 have mQ:=(But.refl K.gw w).set 4 (.int .i64 m);exact⟨⟨h.blk.set 4 _,(mQ.block _ (Row.lt h.row) (Ne.symm h.ne)).trans h.row,h.len,ZY h.sp mQ.size (fun x e hx=>mQ.block _ hx (h.aBF x e).1),h.aBF,h.ne,h.aEL,bU h.aEM mQ.size⟩,Mv.E5 mQ (.inl rfl)⟩
theorem a4K {P:Program} {T E:TypeId} (ht:P.underlying T=some (.slice E)) (hE:∀w,(Go.sizeOf E).run P w= .ok 1 w) (g n q:Nat) (h:q<n) (W:World):
  (Instr.sliceAt T (.slice (some ⟨g,0,none⟩) n n) (some (.int .i64 (q:Int))) none none).run P W= .ok (.slice (some ⟨g,q,none⟩) (n - q) (n - q)) W:=by
 have he:P.elem T=E:=by unfold Program.elem;rw[ht]
 rw[run_sliceAt_slice (h:=by rw[he];exact ht),run_slice_l (ht:=by rw[he];exact ht) (h0:=by omega) (h1:=by omega),he,hE];simp only[Result.andThen,sliced];have e2:¬n=q:=by omega
 simp[e2,Addr.add];omega
theorem aEN:∀w,(Go.sizeOf 5).run Tryz.prog w= .ok 1 w:=fun w=>by kernel_rfl
theorem LA {K:Wc} {w:World} {no:Int} {P:List Int} (h:RX K w no P) (ba:Option Addr) (bm bc:Nat) (MC:List Int) (hs:Sl w ba bm bc 1 (ints .u8 MC)) (q:Nat) (h1:1≤bm) (hq:q+bm≤K.n) (ty:TypeId):
  ∃w',(Builtin.copy_ #[24,24] ty #[.slice (some ⟨K.gb,q,none⟩) (K.n - q) (K.n - q),.slice ba bm bc]).run Tryz.prog w= .ok (goInt (bm:Nat)) w'∧RX K w' no (splice P q MC)∧Mv K.gw K.gb wI wI w w'∧But K.gb w w':=by
 have D9:MC.length=bm:=hs.p9;obtain⟨b,off,e,kY,hc⟩:=hs.lies 0 aG;subst e;have bTK:Nat.min bm (K.n - q)=bm:=by simp[jS];omega
 have tC:(Tryz.prog.info? 5).map (·.size)=some 1:=by kernel_rfl
 have hr:=EQ (P:=Tryz.prog) w 24 24 ty 5 1 K.gb q (K.n - q) (K.n - q) ⟨b,off,none⟩ bm bc (ints .u8 P).toArray 5 (ints .u8 MC) Tryz.underlying24 tC h.row (by rw[bTK,qO,D9,iH]) (fun j v hv=>by rw[fF];exact hc j v hv) (by rw[qO,D9];simp[qO,h.len];omega) wQ;rw[bTK]at hr;refine⟨_,hr,?_,?_,⟨rfl,rfl,rfl,by simp[World.setRow],fun k hk h2=>setRow_other w K.gb k _ h2⟩⟩
 ·have ho:∀k,k≠K.gb→(w.setRow K.gb (splice (ints .u8 P).toArray.toList q (ints .u8 MC)).toArray).heap[k]? =w.heap[k]? :=fun k hk=>setRow_other w K.gb k _ hk;refine⟨(ho _ h.ne).trans h.blk,?_,by rw[qH (by rw[D9,h.len];exact hq)];exact h.len,?_,h.aBF,h.ne,h.aEL,by simp[World.setRow];exact h.aEM⟩
  ·have:=setRow_heap w K.gb (ints .u8 P).toArray (splice (ints .u8 P).toArray.toList q (ints .u8 MC)).toArray 5 (0,0) h.row;unfold Row;rw[this];have e:(ints .u8 P).toArray.toList=ints .u8 P:=by simp
   rw[e,OP]
  ·exact ZY h.sp (by simp[World.setRow]) (fun x e hx=>ho _ (h.aBF x e).2)
 ·exact⟨rfl,rfl,rfl,by simp[World.setRow],fun k hk h2 h3 _=>setRow_other w K.gb k _ h3,fun _ h=> .inl h⟩
theorem Mv.blk {g gt:Nat} {w w':World} {k:Nat} {T:TypeId} {cs:Array Value} (h:Mv g gt wI wI w w') (hb:kG w k T cs) (h1:k≠g) (h2:k≠gt):kG w' k T cs:=(h.block k hb.lt h1 h2 (by intro e;cases e)).trans hb
theorem Mv.own {g gt:Nat} {w w':World} {B:Nat} {E:TypeId} {sz n:Nat} {v:Value} {xs:List Value} (h:Mv g gt wI wI w w') (ho:w.ownsRow B E sz v n xs) (h1:v.ownBlock≠some g) (h2:v.ownBlock≠some gt):w'.ownsRow B E sz v n xs:=by
 obtain⟨hl,hr⟩:=ho;refine⟨hl,?_⟩;rcases hr with hn|⟨b,cap,cur,rfl,hB,hg,r⟩
 ·exact .inl hn
 ·exact .inr ⟨b,cap,cur,rfl,hB,(h.block b (dA.1 hg).1 (fun e=>h1 (by rw[←e];rfl)) (fun e=>h2 (by rw[←e];rfl)) (by intro e;cases e)).trans hg,r⟩
theorem RX.but {K:Wc} {w w':World} {no:Int} {P:List Int} {g:Nat} (h:RX K w no P) (hb:But g w w') (h1:g≠K.gw) (h2:g≠K.gb) (h3:K.sb≤g):RX K w' no P:=
 ⟨kG.aBE hb h.blk (Ne.symm h1),(hb.block _ (Row.lt h.row) (Ne.symm h2)).trans h.row,h.len,ZY h.sp hb.size (fun x e hx=>hb.block _ hx (by have:=h.aEL x e;omega)),h.aBF,h.ne,h.aEL,bU h.aEM hb.size⟩
theorem Mv.new {g gt b:Nat} {w w1 w2:World} (h:Mv g gt wI wI w w1) (hb:But b w1 w2) (h1:w.heap.size≤b):Mv g gt wI wI w w2:=
 ⟨hb.os.trans h.os,hb.tape.trans h.tape,hb.output.trans h.output,bU h.size hb.size,fun k hk h2 h3 h4=>(hb.block k (dD hk h.size) aG).trans (h.block k hk h2 h3 h4),fun _ e=>by cases e⟩
def Dj (p q:Pt):Prop:=p.1+p.2.length≤q.1∨q.1+q.2.length≤p.1
theorem Dj.symm {p q:Pt} (h:Dj p q):Dj q p:=Or.symm h
theorem sU {b c:List Int} {i:Nat} (h:i+c.length≤b.length) (k:Nat):(splice b i c).getD k 0=if i≤k∧k<i+c.length then c.getD (k - i) 0 else b.getD k 0:=by
 unfold splice;simp only[aZ,List.getElem?_append,dM,eY,eX];by_cases h1:k<i
 ·rw[if_pos aG,if_pos h1,if_neg aG]
 ·rw[if_neg aG];by_cases h2:k<i+c.length
  ·rw[if_pos aG,if_pos aG,iJ aG]
  ·rw[if_neg aG,if_neg aG];congr 2
   omega
theorem H7 {a b:List Int} (hl:a.length=b.length) (h:∀k,k<a.length→a.getD k 0=b.getD k 0):a=b:=by
 refine gG hl fun k h1 h2=>?_;have:=h k h1;rwa [aZ,aZ,bH h1,bH h2]at this
theorem aEO {b:List Int} {p q:Pt} (h:Dj p q) (hp:p.1+p.2.length≤b.length) (hq:q.1+q.2.length≤b.length):splice (splice b p.1 p.2) q.1 q.2=splice (splice b q.1 q.2) p.1 p.2:=by
 have e1:=qH hp;have e2:=qH hq;refine H7 ((qH aG).trans (e1.trans (e2.symm.trans (qH aG).symm))) fun k hk=>?_;rw[sU aG,sU aG,sU aG,sU aG];rcases h with h|h
 ·by_cases h1:q.1≤k∧k<q.1+q.2.length
  ·rw[if_pos h1,if_neg aG,if_pos h1]
  ·rw[if_neg h1];by_cases h2:p.1≤k∧k<p.1+p.2.length
   ·rw[if_pos h2,if_pos h2]
   ·rw[if_neg h2,if_neg h2,if_neg h1]
 ·by_cases h1:q.1≤k∧k<q.1+q.2.length
  ·rw[if_pos h1,if_neg aG,if_pos h1]
  ·rw[if_neg h1];by_cases h2:p.1≤k∧k<p.1+p.2.length
   ·rw[if_pos h2,if_pos h2]
   ·rw[if_neg h2,if_neg h2,if_neg h1]
def InB (n:Nat) (ps:List Pt):Prop:=∀p∈ps,p.1+p.2.length≤n
theorem yC (p:Pt) (ps:List Pt) (b:List Int):FL (p::ps) b=FL ps (splice b p.1 p.2):=rfl
theorem aBG:∀(ps:List Pt) (b:List Int),InB b.length ps→(FL ps b).length=b.length
 | [],_,_=>rfl
 |p::ps,b,h=>by
  have h1:=qH (h p (bQ ..));rw[yC,aBG ps _ (by rw[h1];exact fun q hq=>h q (bL _ hq)),h1]
theorem a2U:∀(ps:List Pt) (b:List Int) (k:Nat),InB b.length ps→(∀p∈ps,¬(p.1≤k∧k<p.1+p.2.length))→(FL ps b).getD k 0=b.getD k 0
 | [],_,_,_,_=>rfl
 |p::ps,b,k,h,hk=>by
  have hp:=h p (bQ ..);have h1:=qH hp;rw[yC,a2U ps _ k (by rw[h1];exact fun q hq=>h q (bL _ hq)) (fun q hq=>hk q (bL _ hq)),sU hp,if_neg (hk p (bQ ..))]
theorem aTZ:∀(ps:List Pt) (b:List Int),InB b.length ps→ps.Pairwise Dj→∀p∈ps,∀i,i<p.2.length→(FL ps b).getD (p.1+i) 0=p.2.getD i 0
 | [],_,_,_,_,hp,_,_=>by cases hp
 |q::ps,b,h,hd,p,hp,i,hi=>by
  have hq:=h q (bQ ..);have h1:=qH hq;have hb:InB (splice b q.1 q.2).length ps:=by rw[h1];exact fun r hr=>h r (bL _ hr)
  obtain⟨hd1,hd2⟩:=eP.1 hd;rw[yC];rcases cK.1 hp with rfl|hp
  ·rw[a2U ps _ _ hb (fun r hr=>by have:=hd1 r hr;unfold Dj at this;omega),sU hq,if_pos aG,Nat.add_sub_cancel_left]
  ·exact aTZ ps _ hb hd2 p hp i hi
theorem b3D {ps:List Pt} {b:List Int} (h:InB b.length ps) (hd:ps.Pairwise Dj) {p:Pt} (hp:p∈ps):((FL ps b).drop p.1).take p.2.length=p.2:=by
 have hl:=aBG ps b h;have:=h p hp;refine H7 (by simp;omega) fun k hk=>?_;have WG:k<p.2.length:=by simp at hk;omega
 rw[←aTZ ps b h hd p hp k WG];simp only[aZ,dM,eY];rw[if_pos WG]
theorem aU0 {ps qs:List Pt} (hpm:ps.Perm qs):∀(b:List Int),InB b.length ps→ps.Pairwise Dj→FL ps b=FL qs b:=by
 induction hpm with
 |nil=>intros;rfl
 |cons p _ ih=>
  intro b h hd;have h1:=qH (h p (bQ ..));rw[yC,yC];exact ih _ (by rw[h1];exact fun r hr=>h r (bL _ hr)) (eP.1 hd).2
 |swap p q l=>
  intro b h hd;have hq:=h q (bQ ..);have hp:=h p (bL _ (bQ ..));have hdj:=(eP.1 hd).1 p (bQ ..);rw[yC,yC,yC,yC,aEO hdj hq hp]
 |trans h1 _ ih1 ih2=>
  intro b h hd;rw[ih1 b h hd];exact ih2 b (fun r hr=>h r (h1.mem_iff.2 hr)) ((h1.pairwise_iff (fun {_ _} h=>Dj.symm h)).1 hd)
theorem MR {α β:Type} {f g:α→List β}:∀(l:List α),(∀x∈l,(f x).Perm (g x))→(l.flatMap f).Perm (l.flatMap g)
 | [],_=>iI _
 |x::l,h=>by
  rw[eF,eF];exact(h x (bQ ..)).append (MR l fun y hy=>h y (bL _ hy))
abbrev LB:=Int×Int×Int×Int
def NQ (l:List mZ) (x:LB):List mZ:=oH l x.1 x.2.1 x.2.2.1 x.2.2.2
def placed:Int→List LB→List mZ
 |_, []=> []
 |e,x::r=>(x.1,x.2.1,x.2.2.1,qQ e,x.2.2.2)::placed (qQ e+x.2.2.2) r
def endP:Int→List LB→Int
 |e, []=>e
 |e,x::r=>endP (qQ e+x.2.2.2) r
theorem aPR (l:List mZ) (x:LB):nI (NQ l x)=qQ (nI l)+x.2.2.2:=PK ..
theorem a4L:∀(is:List LB) (l:List mZ),is.foldl NQ l=l++placed (nI l) is∧nI (is.foldl NQ l)=endP (nI l) is
 | [],l=>by simp[placed,endP]
 |x::is,l=>by
  have ih:=a4L is (NQ l x);rw[jH,ih.2,ih.1,aPR];refine⟨?_,rfl⟩;unfold NQ oH;rw[dJ];rfl
theorem aBH:∀(is:List LB) (e:Int),0≤e→(∀x∈is,0≤x.2.2.2)→e≤endP e is
 | [],e,_,_=>gX _
 |x::is,e,h,hx=>by
  have h1:=BN h;have h2:=hx x (bQ ..);have:=aBH is (qQ e+x.2.2.2) aG fun y hy=>hx y (bL _ hy);show e≤endP (qQ e+x.2.2.2) is
  omega
theorem LC:∀(is:List LB) (e:Int),0≤e→(∀x∈is,0≤x.2.2.2)→∀s∈placed e is,e≤s.2.2.2.1∧s.2.2.2.1 % 2=0∧0≤s.2.2.2.2∧s.2.2.2.1+s.2.2.2.2≤endP e is
 | [],_,_,_,s,hs=>by cases hs
 |x::is,e,h,hx,s,hs=>by
  have h1:=BN h;have h2:=hx x (bQ ..);have TV:=fun y hy=>hx y (bL _ hy);rcases cK.1 hs with rfl|hs
  ·have:=aBH is (qQ e+x.2.2.2) aG TV;refine⟨h1.1,?_,h2,this⟩;show qQ e % 2=0
   unfold qQ;omega
  ·have:=LC is (qQ e+x.2.2.2) aG TV s hs;exact⟨by omega,this.2⟩
def Ahead (s t:mZ):Prop:=s.2.2.2.1+s.2.2.2.2≤t.2.2.2.1
theorem X7:∀(is:List LB) (e:Int),0≤e→(∀x∈is,0≤x.2.2.2)→(placed e is).Pairwise Ahead
 | [],_,_,_=>gJ
 |x::is,e,h,hx=>by
  have h1:=BN h;have h2:=hx x (bQ ..);have TV:=fun y hy=>hx y (bL _ hy);exact gN (fun s hs=>(LC is _ aG TV s hs).1) (X7 is _ aG TV)
def a4M (x:LB):Int×Int×Int:=(x.1,x.2.1,x.2.2.1)
def IL (x:mZ):Int×Int×Int:=(x.1,x.2.1,x.2.2.1)
theorem a18:∀(is:List LB) (e:Int),(placed e is).map IL=is.map a4M
 | [],_=>rfl
 |x::is,e=>by
  show IL _::(placed _ is).map IL=a4M x::is.map a4M
  rw[a18 is];rfl
theorem a4N:∀(is:List LB) (e:Int) (x:LB),x∈is→∃s∈placed e is,IL s=a4M x∧s.2.2.2.2=x.2.2.2
 | [],_,_,h=>by cases h
 |y::is,e,x,h=>by
  rcases cK.1 h with rfl|h
  ·exact⟨_,bQ ..,rfl,rfl⟩
  ·obtain⟨s,h1,h2⟩:=a4N is (qQ e+y.2.2.2) x h;exact⟨s,bL _ h1,h2⟩
theorem aMX {a b c:Int} {s:mZ}:atP a b c s=true↔IL s=(a,b,c):=by
 unfold atP IL;simp[Prod.ext_iff,and_assoc]
theorem aMY {l:List mZ} (hd:(l.map IL).Nodup) {s:mZ} (hs:s∈l):l.any (atP s.1 s.2.1 s.2.2.1)=true∧qK l s.1 s.2.1 s.2.2.1=s.2.2.2.1:=by
 induction l with
 |nil=>cases hs
 |cons t l ih=>
  obtain⟨h1,h2⟩:=jG.1 hd;rcases cK.1 hs with rfl|hs
  ·have:atP s.1 s.2.1 s.2.2.1 s=true:=aMX.2 rfl;unfold qK;simp[List.find?,this]
  ·obtain⟨i1,i2⟩:=ih h2 hs;have pQ:atP s.1 s.2.1 s.2.2.1 t=false:=by
    cases hh:atP s.1 s.2.1 s.2.2.1 t with
    |false=>rfl
    |true=>exact absurd (dH.2 ⟨s,hs,(aMX.1 hh).symm⟩) h1
   unfold qK at i2 ⊢;rw[List.any_cons,pQ,List.find?,pQ];exact⟨by simpa using i1,i2⟩
def InQ (l:List mZ) (Q:mZ→Prop) (p:Pt):Prop:=∃s∈l,Q s∧s.2.2.2.1≤p.1∧(p.1:Int)+p.2.length≤s.2.2.2.1+s.2.2.2.2
theorem LD {l:List mZ} (h:l.Pairwise Ahead) {s t:mZ} (hs:s∈l) (ht:t∈l) (hn:s≠t):Ahead s t∨Ahead t s:=by
 induction l with
 |nil=>cases hs
 |cons u l ih=>
  obtain⟨h1,h2⟩:=eP.1 h;rcases cK.1 hs with e1|xV <;> rcases cK.1 ht with e2|ht2
  ·exact absurd (e1.trans e2.symm) hn
  ·exact .inl (e1▸h1 _ ht2)
  ·exact .inr (e2▸h1 _ xV)
  ·exact ih h2 xV ht2
theorem X8 {l:List mZ} (h:l.Pairwise Ahead) {Q R:mZ→Prop} {p q:Pt} (hp:InQ l Q p) (hq:InQ l R q) (hx:∀s,Q s→R s→False):Dj p q:=by
 obtain⟨s,hs,h1,h2,h3⟩:=hp;obtain⟨t,ht,h4,h5,h6⟩:=hq;have hn:s≠t:=fun e=>hx s h1 (e▸h4);unfold Dj;rcases LD h hs ht hn with h7|h7 <;> unfold Ahead at h7 <;> omega
theorem InQ.mono {l:List mZ} {Q R:mZ→Prop} {p:Pt} (h:InQ l Q p) (hx:∀s,Q s→R s):InQ l R p:=by
 obtain⟨s,h1,h2,h3⟩:=h;exact⟨s,h1,hx s h2,h3⟩
