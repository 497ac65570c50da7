import Derived.Test.YtceclmpmpldmlaaGreatCz06
import Derived.Lib.AppendZeros
import Derived.Lib.AppendZerosOnto
import Derived.Lib.Overlaps
set_option linter.unusedSimpArgs false
set_option linter.unusedVariables false
set_option maxRecDepth 100000
set_option maxHeartbeats 8000000
namespace Go.Proofs.YtceclmpmpldmlaaGreat
open Go.RowKit Tt
theorem TB (FX:Nat) (hf:FX=228∨FX=108) (cap:Value) (a:Option Addr) (n c:Nat) (ls:List Lk) (p:Lk→Bool) (w:World) (hs:Sl w a n c 2 (fl lkc ls))
  (hc:∀W (x:Lk),Below w.heap.size w W→Calls Tryz.prog FX #[.agg #[.int .i64 x.1,.int .i64 x.2],cap] W fun e W'=>e= .returned (.bool (p x))∧Below W.heap.size W W'):
  Calls Tryz.prog 91 #[.slice a n c,.func (.func FX) #[] #[cap]] w fun e w'=>e= .returned (.int .i64 (fst p ls))∧Below w.heap.size w w':=by
 have hl:=hs.uY qD (by decide);have hm:=hs.max;have hle:=hs.le;obtain⟨hs',hc',hl'⟩:=aG hs hc hl;clear hs hc hl;rcases hf with rfl|rfl
 all_goals
  go_enter Tryz.func91,Tryz.ntmps91;go_wp2;go_loopw [8] (fun iv wr=>∃k:Nat,k≤n∧iv= .int .i64 k∧Hid (∀i (hi:i<ls.length),i<k→p ls[i]=false)∧Hid (Below w.heap.size w wr)) (fun iv _=>n - (intOf iv).toNat)
  case atStart=>exact⟨0,by omega,rfl,aA (fun j _ hj=>by omega),aA (aW _ _)⟩
  case round=>
   obtain⟨k,hk,rfl,hall,hb⟩:=hrel;by_cases hlt:k<n
   ·have hww:IntKind.i64.wrap ((k:Int)+1)=k+1:=by rw[aY];omega
    have hkl:k<ls.length:=by rw[hl'.o];exact hlt
    obtain⟨b,o,rfl,hbb,f⟩:=(hs'.o.mono hb.o).elem qD (by decide) (0,0) hlt;rw[jI hkl]at f;have f0:=f 0 _ rfl;have f1:=f 1 _ rfl;clear f;rw[cK]at f0;obtain⟨r,hr⟩:=aC (p (ls[k]'hkl));have HC:=hc'.o wr (ls[k]'hkl) hb.o;rw[hr]at HC;generalize (ls[k]'hkl).1=x1 at*;generalize (ls[k]'hkl).2=x2 at*;obtain⟨SK,hr'⟩:=aF HC hr;clear HC hr;go_wp2_with fail
    refine SK.o.mono ?_;rintro e w2 ⟨rfl,hb2⟩;have hbw:=hb.o.tm hb2;clear hb2;cases r with
    |true=>
     have jW:=aA hbw;clear hbw;go_wp2;go_ret;exact⟨by rw[J6 hkl hr'.o (fun i hi=>hall.o i (by omega) hi)];rfl,jW.o⟩
    |false=>
     have nK:∀i (hi:i<ls.length),i<k+1→p ls[i]=false:=fun i hi h=>by
      rcases eH i k with h1|h1
      ·exact hall.o i hi h1
      ·obtain rfl:i=k:=by omega
       exact hr'.o
     obtain⟨jW,lW⟩:=aF hbw nK;clear hbw nK;go_wp2;go_roundw
     case rel=>exact⟨k+1,by omega,by go_num,lW,jW⟩
     case measure=>simp[intOf];omega
   ·obtain rfl:k=n:=by omega
    go_wp2;go_ret;exact⟨by rw[NI (fun i hi=>hall.o i hi (by rw[hl'.o]at hi;exact hi))];rfl,hb.o⟩
theorem aJV (FX:Nat) (hf:FX=228∨FX=108) (cap:Value) (a:Option Addr) (n c:Nat) (ls:List Lk) (p:Lk→Bool) (w:World) (hs:Sl w a n c 2 (fl lkc ls))
  (hc:∀W (x:Lk),Below w.heap.size w W→Calls Tryz.prog FX #[.agg #[.int .i64 x.1,.int .i64 x.2],cap] W fun e W'=>e= .returned (.bool (p x))∧Below W.heap.size W W'):
  Calls Tryz.prog 227 #[.slice a n c,.func (.func FX) #[] #[cap]] w fun e w'=>e= .returned (.bool (ls.any p))∧Below w.heap.size w w':=by
 have HX:=TB FX hf cap a n c ls p w hs hc;obtain⟨r,hr⟩:=aC (fst p ls);have ha:=yI (p:=p) (l:=ls);rw[hr]at HX ha;obtain⟨q,hq⟩:=aC (ls.any p);rw[hq]at ha ⊢;clear hs hc;obtain⟨HX',hr',hq'⟩:=aG HX hr hq;clear HX hr hq;rcases hf with rfl|rfl
 all_goals
  go_enter Tryz.func227,Tryz.ntmps227;go_wp2_with fail
  refine HX'.o.mono ?_;rintro e w2 ⟨rfl,hb2⟩;have hb2':=aA hb2;clear hb2;go_wp2;go_ret;exact⟨rfl,hb2'.o⟩
theorem aDS (g:Nat) (tag u v:Int) (w:World) (h:w.cell? ⟨g,0,none⟩=some (.int .i64 tag)) (hg:g<w.heap.size):
  Calls Tryz.prog 228 #[.agg #[.int .i64 u,.int .i64 v],.pointer (some ⟨g,0,none⟩)] w fun e w'=>e= .returned (.bool (u==tag))∧Below w.heap.size w w':=by
 have hb:=aD w (.cells #[.int .i64 u,.int .i64 v] 32);have hb':=aA hb;clear hb;go_enter Tryz.func228,Tryz.ntmps228;go_wp2_with fail
 go_ret;exact⟨rfl,hb'.o⟩
theorem aJW (la:Option Addr) (ln lc:Nat) (nH:List Lk) (sat jE nD tag:Int) (w:World) (hl:Sl w la ln lc 2 (fl lkc nH)):
  Calls Tryz.prog 162 #[.agg #[.slice la ln lc,.int .i64 sat,.int .i64 jE,.int .i64 nD],.int .i64 tag] w fun e w'=>e= .returned (.bool ((decide (0<sat)&&(tag==sat||tag==jE))||nH.any fun y=>y.1==tag))∧Below w.heap.size w w':=by
 have hb1:=(aD w (.cells #[.slice la ln lc,.int .i64 sat,.int .i64 jE,.int .i64 nD] 35)).alloc (by simp) (.cells #[.int .i64 tag] 3);obtain⟨W1,hW1⟩:∃W1,(w.alloc (.cells #[.slice la ln lc,.int .i64 sat,.int .i64 jE,.int .i64 nD] 35)).alloc (.cells #[.int .i64 tag] 3)=W1:=⟨_,rfl⟩;have hcl:W1.cell? ⟨w.heap.size+1,0,none⟩=some (.int .i64 tag):=by rw[←hW1];simp
 have hsz:w.heap.size+1<W1.heap.size:=by rw[←hW1];simp
 rw[hW1]at hb1;have hH:=aJV 228 (.inl rfl) (.pointer (some ⟨w.heap.size+1,0,none⟩)) la ln lc nH (fun y=>y.1==tag) W1 (hl.mono hb1) (fun W x hb=>aDS _ tag x.1 x.2 W (late hb hsz hcl) (cO hsz hb.size));rw[←hW1]at hH hb1;clear hcl hsz hW1;generalize (nH.any fun y=>y.1==tag)=r at*;obtain⟨hl',hb1',hH'⟩:=aG hl hb1 hH;clear hl hb1 hH;obtain⟨p,hp⟩:=aC (decide (0<sat));obtain⟨q,hq⟩:=aC (tag==sat);obtain⟨s,hs⟩:=aC (tag==jE);rw[hp,hq,hs];cases p with
 |false=>
  go_enter Tryz.func162,Tryz.ntmps162;go_wp2_with fail
  refine hH'.o.mono ?_;rintro e w2 ⟨rfl,hb2⟩;have hb:=hb1'.o.tm hb2;obtain⟨hb',hb2'⟩:=aF hb hb2;clear hb hb2;go_wp2_with fail
  go_ret;exact⟨rfl,hb'.o⟩
 |true=>
  cases q with
  |true=>
   go_enter Tryz.func162,Tryz.ntmps162;go_wp2_with fail
   go_ret;exact⟨rfl,hb1'.o⟩
  |false=>
   cases s with
   |true=>
    go_enter Tryz.func162,Tryz.ntmps162;go_wp2_with fail
    go_ret;exact⟨rfl,hb1'.o⟩
   |false=>
    go_enter Tryz.func162,Tryz.ntmps162;go_wp2_with fail
    refine hH'.o.mono ?_;rintro e w2 ⟨rfl,hb2⟩;have hb:=hb1'.o.tm hb2;obtain⟨hb',hb2'⟩:=aF hb hb2;clear hb hb2;go_wp2_with fail
    go_ret;exact⟨rfl,hb'.o⟩
theorem a8W (f:Nat) (o:Int) (sa:Option Addr) (sn sc:Nat) (ds:List (jD f)) (w:World) (h:DJ f w sa sn sc ds) (hs:∀d∈ds,lC f d) (hN:(lX f ds).length<1000)
  (hmay:∀W,Below w.heap.size w W→Calls Tryz.prog 44 #[.agg #[.int .i64 o,.slice sa sn sc]] W fun e W'=>e= .returned (.bool (ER f ds))∧Below W.heap.size W W'):
  Calls Tryz.prog 11 #[.agg #[.int .i64 o,.slice sa sn sc]] w fun e w'=>((IL f ds=true∧∃v,e= .returned (.tuple #[v,.bool true])∧Spr w.heap.size w' v (jV f ds))∨(IL f ds=false∧e= .returned (.tuple #[.slice none 0 0,.bool false])))∧Below w.heap.size w w':=by
 have hb1:=aD w (.cells #[.int .i64 o,.slice sa sn sc] 39);have bk:=jJ.new w 39 #[.int .i64 o,.slice sa sn sc];obtain⟨W1,hW1⟩:=aC (w.alloc (.cells #[.int .i64 o,.slice sa sn sc] 39));rw[hW1]at hb1 bk;have hM:=hmay W1 hb1;have d0:W1.cell? ⟨w.heap.size,0,none⟩=some (.int .i64 o):=bk.cell rfl;have d1:W1.cell? ⟨w.heap.size,1,none⟩=some (.slice sa sn sc):=bk.cell rfl;have hdn:ds.length=sn:=by
  obtain⟨FW,hdl,hsl,_⟩:=h;rw[←hdl];exact hsl.uY qA (by decide)
 have hpl:(wL f ds).length=sn:=by unfold wL;rw[bX];exact hdn
 have aWF:∀x∈wL f ds,lC f x.2:=fun x hx=>by
  obtain⟨d,hd,rfl⟩:=cB.1 hx;exact hs d hd
 have bBR:kD f (wL f ds)=lX f ds:=AY f ds;obtain⟨q,hq⟩:=aC (ER f ds);rw[hq]at hM;have hfit:IL f ds=(q&&decide (lS (jV f ds)≤4294967295)):=by unfold IL;rw[hq]
 clear hmay hq;obtain⟨h',hb1',bk',hM',hs',a8X,zT,hpl',bBS,bBT⟩:=aN h hb1 bk hM hs hfit hdn hpl aWF bBR;clear h hb1 bk hM hs hfit hdn hpl aWF bBR;go_enter Tryz.func11,Tryz.ntmps11;go_wp2_with fail
 refine hM'.o.mono ?_;rintro e w2 ⟨rfl,hb2⟩;have bk2:=bk'.o.late hb2;have hbw2:=hb1'.o.tm hb2;have hlt2:=bk2.lt;clear d0 d1;cases q with
 |false=>
  obtain⟨hb2',TA,lU⟩:=aG hb2 bk2 hbw2;clear hb2 bk2 hbw2;go_wp2_with fail
  refine bodyPost_ret (results_tmp2 rfl _ _ _) rfl ?_;exact⟨.inr ⟨a8X.o,rfl⟩,lU.o⟩
 |true=>
  have hal:=aD w2 (.cells #[.int .i64 0,.int .i64 0,.slice none 0 0] 98);have hpn:Pln w2.heap.size (w2.alloc (.cells #[.int .i64 0,.int .i64 0,.slice none 0 0] 98)) 0 (.slice none 0 0) []:=⟨jJ.new w2 98 #[.int .i64 0,.int .i64 0,.slice none 0 0],kC _ _ _ _⟩;have hP:=PL w2.heap.size 0 (.slice none 0 0) [] 1 (-1) 0 8 _ hpn (by decide) (by decide) (by decide) (by decide) (by decide);obtain⟨hb2',TA,lU,oM,aJX,hP'⟩:=aJ hb2 bk2 hbw2 hal hpn hP;clear hb2 bk2 hbw2 hal hpn hP;go_wp2_with fail
  refine hP'.o.mono ?_;rintro e w3 ⟨v3,rfl,hp3,LK⟩;have bk3:=(TA.o.late oM.o).mv LK (by omega) (by omega) (by intro h;cases h);have d1:w3.cell? ⟨w.heap.size,1,none⟩=some (.slice sa sn sc):=bk3.cell rfl;obtain⟨Y6,IK,aJT⟩:=aG hp3 LK bk3;clear hp3 LK bk3;go_wp2_with fail
  obtain⟨g,hg⟩:∃g,g=w2.heap.size:=⟨_,rfl⟩;rw[←hg]at Y6 IK ⊢;have hmm:Hid (Mv g g (.slice none 0 0) v3 w2 w3):=aA ((Mv.of_below oM.o).trans IK.o);have hwg:w.heap.size≤g:=by rw[hg];exact lU.o.size
  have hgw:w2.heap.size≤g:=by omega
  clear IK aJT hP' aJX hg;go_loopw [17] (fun iv wx=>∃(i:Nat) (v':Value),i≤sn∧iv= .int .i64 i∧Hid (Pln g wx (jZ f ((wL f ds).take i) (mZ [] 1 (-1) 0 8,0)).2 v' (jZ f ((wL f ds).take i) (mZ [] 1 (-1) 0 8,0)).1)∧Hid (Mv g g (.slice none 0 0) v' w2 wx)) (fun iv _=>sn - (intOf iv).toNat)
  case atStart=>exact⟨0,v3,by omega,rfl,aA (by simpa [jZ] using Y6.o),hmm⟩
  clear Y6 hmm
  case round=>
   obtain⟨i,v',hin,rfl,hpr,hmr⟩:=hrel;have hbo:=hmr.o.below hgw hgw (fun k e=>by cases e) (aU _);have hbw0:=lU.o.tm hbo;have he8:lS (mZ [] 1 (-1) 0 8)=8:=rfl;have hbd:=vQ f (PN f) ((wL f ds).take i) (mZ [] 1 (-1) 0 8,0) (fun x hx=>bBS.o x (fO hx)) (by decide);have aWD:=sZ f (wL f ds) i;have aNL:(mZ [] 1 (-1) 0 8).length=1:=rfl;simp only[he8,aNL]at hbd;by_cases hi:i<sn
   ·have hil:(i:Int)<(sn:Int):=by omega
    obtain⟨FW,hdl,hsl,hsub⟩:=h'.o;have hmx:=hsl.max;have hml:=hsl.le;have hw5:IntKind.i64.wrap ((i:Int)+1)=i+1:=by rw[aY];omega
    have hid:i<ds.length:=by rw[zT.o];exact hi
    have p9:i<FW.length:=by omega
    have hip:i<(wL f ds).length:=by rw[hpl'.o];exact hi
    have hpi:=aHC f ds hip hid;obtain⟨b,o',rfl,hblt,fe⟩:=hsl.elem qA (by decide) dzz hi;rw[jI p9]at fe;have hq2:=hsub i p9 hid;obtain⟨ua,un,uc,pa,pn,pc,ra,rn,rc,hv⟩:=hq2.v;have k0:=fe 0 _ rfl;have k1:=fe 1 _ rfl;have k2:=fe 2 _ rfl;clear fe;rw[hv]at hq2 k0 k1 k2;simp only[cK]at k0 k1 k2;have g0:=late hbw0 hblt k0;have g1:=late hbw0 hblt k1;have g2:=late hbw0 hblt k2;have hst:=AL f (wL f ds) (mZ [] 1 (-1) 0 8,0) hip;have hft:=G8 f (wL f ds) hip;have bBU:=sZ f (wL f ds) (i+1);rw[hpi]at hst hft;have hsm:lC f ds[i]:=hs'.o _ (bL hid);rw[bBT.o]at aWD bBU;generalize ds[i]=dd at hst hft hsm hq2;generalize jZ f ((wL f ds).take i) (mZ [] 1 (-1) 0 8,0)=R at hst hbd hpr;obtain⟨Ls,ns⟩:=R;simp only at hbd hpr hst;have D6:=aD wr (.cells #[.slice ua un uc,.slice pa pn pc,.slice ra rn rc] 26);have hI:=aNG f g ns v' Ls w _ dd _ hq2 (hbw0.tm D6) hwg (hpr.o.later D6) hsm (by omega) (by omega) hbd.1 (by omega) (by omega);simp only at hI;clear hsl hsub hv hdl k0 k1 k2;obtain⟨bL0,Y7,bTN,a4T,bR5,bTO,EQ,hst',bKZ,NS,hI',N7⟩:=aP hbo hbw0 he8 hbd aNL hpi hq2 hst hft hsm hI D6;clear hbo hbw0 he8 hbd aNL hpi hq2 hst hft hsm hI D6;go_wp2_with fail
    refine hI'.o.mono ?_;rintro e w7 ⟨v7,rfl,hp7,hm7⟩;have hm7:=(hmr.o.later N7.o).trans hm7;clear g0 g1 g2;obtain⟨b4L,b4M⟩:=aF hp7 hm7;clear hp7 hm7;go_wp2_with fail
    go_roundw
    case rel=>exact⟨i+1,v7,by omega,by go_num,by rw[hst'.o];exact b4L,b4M⟩
    case measure=>simp[intOf];omega
   ·obtain rfl:i=sn:=by omega
    have hfull:(wL f ds).take i=wL f ds:=bP (by rw[hpl'.o];omega);rw[hfull]at hpr;have hLe:(jZ f (wL f ds) (mZ [] 1 (-1) 0 8,0)).1=jV f ds:=rfl;rw[hLe]at hpr;have q0:=hpr.o.blk.cell (i:=0) rfl;have q2:=hpr.o.blk.cell (i:=2) rfl;have bBV:Spr w.heap.size wr v' (jV f ds):=kK hpr.o.jQ (by omega);obtain⟨Y7,bL0,bBW,a4T⟩:=aH hbw0 hbo bBV hbd;clear hbw0 hbo bBV hbd;by_cases hfi:lS (jV f ds)≤4294967295
    ·have hdc:decide ((4294967295:Int)<lS (jV f ds))=false:=by simp;omega
     rw[decide_eq_true hfi]at a8X;go_wp2_with fail
     refine bodyPost_ret (results_tmp2 rfl _ _ _) rfl ?_;exact⟨.inl ⟨a8X.o,v',rfl,bBW.o⟩,Y7.o⟩
    ·have hdc:decide ((4294967295:Int)<lS (jV f ds))=true:=by simp;omega
     rw[decide_eq_false hfi]at a8X;go_wp2_with fail
     refine bodyPost_ret (results_tmp2 rfl _ _ _) rfl ?_;exact⟨.inr ⟨a8X.o,rfl⟩,Y7.o⟩
theorem a8Y (no:Int):∀(ts:List nC) (l:List lK),l.length≤(lY no ts l).length
 | [],l=>aU _
 |x::ts,l=>by
  have e:lY no (x::ts) l=lY no ts (if 0<oL x.2.1 x.2.2.1 then mZ l 3 no x.1 (oL x.2.1 x.2.2.1)else l):=rfl;rw[e];refine bK ?_ (a8Y no ts _);split
  ·rw[yP];omega
  ·exact aU _
theorem NT (f:Nat) (ih:∀(d:jD f) (no:Int) (l:List lK),l.length≤(vB f d no l).length):∀(ss:List (Int×jD f)) (r:List lK×Int),r.1.length≤(jZ f ss r).1.length
 | [],r=>aU _
 |s::ss,r=>by
  rw[uP];exact bK (ih s.2 r.2 r.1) (NT f ih ss (vB f s.2 r.2 r.1,r.2+(jT f s.2).length))
theorem aWG:∀(f:Nat) (d:jD f) (no:Int) (l:List lK),l.length≤(vB f d no l).length:=by
 intro f;induction f with
 |zero=>intro d no l;exact aU _
 |succ f ih=>
  intro d no l;have h1:=a8Y no d.1 (mZ l 2 no 0 (6+12*(mQ d.1.length d.2.1.length d.2.2.length:Nat)));have h2:=NT f ih d.2.1 (lY no d.1 (mZ l 2 no 0 (6+12*(mQ d.1.length d.2.1.length d.2.2.length:Nat))),no+1);rw[yP]at h1;simp only at h2;rw[EP];split
  ·rw[yP];omega
  ·omega
theorem aNM (f:Nat) (ds:List (jD f)) (hs:∀d∈ds,lC f d) (hN:(lX f ds).length<1000):∃n,(jV f ds).length=n+1:=by
 have h:=NT f (aWG f) (wL f ds) (mZ [] 1 (-1) 0 8,0);have aNL:(mZ [] 1 (-1) 0 8).length=1:=rfl;simp only[aNL]at h;exact⟨(jV f ds).length - 1,by unfold jV;omega⟩
theorem aNN (f:Nat) (o:Int) (sa:Option Addr) (sn sc:Nat) (ds:List (jD f)) (w:World) (h:DJ f w sa sn sc ds) (hs:∀d∈ds,lC f d) (hN:(lX f ds).length<1000)
  (hmay:∀W,Below w.heap.size w W→Calls Tryz.prog 44 #[.agg #[.int .i64 o,.slice sa sn sc]] W fun e W'=>e= .returned (.bool (ER f ds))∧Below W.heap.size W W'):
  Calls Tryz.prog 12 #[.agg #[.int .i64 o,.slice sa sn sc]] w fun e w'=>e= .returned (.int .i64 (mX f ds))∧Below w.heap.size w w':=by
 have hbd:=a8V f ds hs hN;obtain⟨n,hn⟩:=aNM f ds hs hN;have hla:=aJM hn;have hb1:=aD w (.cells #[.int .i64 o,.slice sa sn sc] 39);have hO:=a8W f o sa sn sc ds _ (h.mono hb1) hs hN (fun W hW=>hmay W (hb1.tm hW));have hx1:IL f ds=true→mX f ds=lS (jV f ds):=fun e=>by unfold mX;rw[if_pos e]
 have hx2:IL f ds=false→mX f ds=0:=fun e=>by unfold mX;rw[if_neg (by rw[e];decide)]
 generalize mX f ds=x at*;obtain⟨hb1',UR,hs',h',VT,VU,bR7⟩:=aK hb1 hO hs h hx1 hx2 hmay;clear hb1 hO hs h hx1 hx2 hmay;go_enter Tryz.func12,Tryz.ntmps12;go_wp2_with fail
 refine UR.o.mono ?_;rintro e w2 ⟨hc,hb2⟩;have hbw:=hb1'.o.tm hb2;rcases hc with ⟨hf,v,rfl,hsp⟩|⟨hf,rfl⟩
 ·obtain⟨xa,xc,rfl⟩:=a2G hsp;obtain rfl:=VT.o hf;clear VT VU;have hsl:=(Sl.jX hsp).1;have hm:=hsl.max;have hle:=hsl.le;rw[hn]at hsl hle;obtain⟨b,o',rfl,hb,fe⟩:=hsl.elem PI (by decide) (0,0,0,0,0) (show n<n+1 by omega);have f0:=fe 0 _ rfl;have f1:=fe 1 _ rfl;have f2:=fe 2 _ rfl;have f3:=fe 3 _ rfl;have f4:=fe 4 _ rfl;simp only[cK]at f0 f1 f2 f3 f4;clear fe hsl hsp;obtain⟨r,hr⟩:=aC (lS (jV f ds));rw[hr]at hla hbd;generalize (jV f ds).getD n (0,0,0,0,0)=z at*;obtain⟨z0,z1,z2,z3,z4⟩:=z;simp only at f0 f1 f2 f3 f4 hla;have hw:IntKind.i64.wrap (z3+z4)=r:=by rw[aY];omega
  have hw1:IntKind.i64.wrap (((n+1:Nat):Int) - 1)=n:=by rw[aY];omega
  have d1:(0:Int)≤(n:Int):=by omega
  have d2:(n:Int)<((n+1:Nat):Int):=by omega
  have hbz:=hbw.alloc hbw.size (.cells #[.int .i64 z0,.int .i64 z1,.int .i64 z2,.int .i64 z3,.int .i64 z4] 50);rw[hn];obtain⟨jW,hb2',bTP,zU,hn',hr'⟩:=aJ hbw hb2 hla hbz hn hr;clear hbw hb2 hla hbz hn hr;go_wp2_with fail
  go_ret;exact⟨a3X hr'.o.symm,zU.o⟩
 ·obtain rfl:=VU.o hf;clear VT VU;obtain⟨jW,hb2'⟩:=aF hbw hb2;clear hbw hb2;go_wp2_with fail
  go_ret;exact⟨rfl,jW.o⟩
theorem aZZ:(Tryz.prog.info? 5).map (fun i=>(i.zero,i.size,i.bytes))=some (some (.int .u8 0),1,1):=by kernel_rfl
theorem TD {n k:Nat} {p:Nat→Bool} (hk:k<n) (h:p k=false):(List.range n).all p=false:=by
 cases hh:(List.range n).all p with
 |false=>rfl
 |true=>rw[cZ.1 hh k (bW.2 hk)]at h;exact absurd h (by decide)
theorem wW {n:Nat} {p:Nat→Bool} (h:∀k,k<n→p k=true):(List.range n).all p=true:=cZ.2 fun k hk=>h k (bW.1 hk)
def tg0:nC:=(0,0,0, [])
def jS:(f:Nat)→jD f
 |0=>()
 |_+1=>([], [], [])
def tgB (s:lV) (ts:List nC) (k:Nat):Bool:=
 xM (ts.getD k tg0).1&&(decide (k=0)||decide ((ts.getD (k - 1) tg0).1<(ts.getD k tg0).1))&& !qQ s (ts.getD k tg0).1&&II (ts.getD k tg0)
def qH (s:lV) (t:Int):Int:=(s.1.getD (fst (fun y=>y.1==t) s.1).toNat (0,0)).2
def OX {f:Nat} (has:jD f→Int→Bool) (s:lV) (ss:List (Int×jD f)) (k:Nat):Bool:=
 kT s (ss.getD k (0,jS f)).1&&(decide (k=0)||decide ((ss.getD (k - 1) (0,jS f)).1<(ss.getD k (0,jS f)).1))&&has (ss.getD k (0,jS f)).2 (qH s (ss.getD k (0,jS f)).1)
def ownB (s:lV) (d:List nC):Bool:=(List.range d.length).all (tgB s d)
def aJY (s:lV) (e b:Nat):Bool:=decide (1≤e)&&decide (e≤65535)&&(decide (b=0)|| !decide (s.2.1=0))
def lQ (L:List lV):(f:Nat)→jD f→Int→Bool
 |0,_,_=>false
 |f+1,d,i=>aJY (L.getD i.toNat jM) (mQ d.1.length d.2.1.length d.2.2.length) d.2.2.length&&ownB (L.getD i.toNat jM) d.1&&
   (List.range d.2.1.length).all (OX (lQ L f) (L.getD i.toNat jM) d.2.1)
theorem a2H (L:List lV) (f:Nat) (d:jD (f+1)) (i:Int):lQ L (f+1) d i=
  (aJY (L.getD i.toNat jM) (mQ d.1.length d.2.1.length d.2.2.length) d.2.2.length&&ownB (L.getD i.toNat jM) d.1&&(List.range d.2.1.length).all (OX (lQ L f) (L.getD i.toNat jM) d.2.1)):=rfl
def mI (L:List lV):Nat→Int
 |0=>0
 |k+1=>(L.getD (mI L k).toNat jM).2.2.2
def chainB (L:List lV) (n:Nat):Bool:=(List.range n).all fun k=>decide (0≤mI L k)
def hasAll (L:List lV) (f:Nat) (ds:List (jD f)):Bool:=(List.range ds.length).all fun k=>lQ L f (ds.getD k (jS f)) (mI L k)
def mJ (f:Nat) (o:Int) (ds:List (jD f)) (L:List lV):Int:=
 if(l9 L&&(decide (o=1)||decide (o=2))&& !decide (ds.length=0))=true then
  if chainB L ds.length=true then
   if hasAll L f ds=true then(if mX f ds=0 then 7 else 0)else 6
  else 1
 else 1
theorem vY {L:List lV} (h:l9 L=true) {i:Nat} (hi:i<L.length):lH L.length i (L.getD i jM)=true:=by
 unfold l9 at h;simp only[bF]at h;exact cZ.1 h.2 i (bW.2 hi)
theorem UU {L:List lV} (h:l9 L=true):1≤L.length∧L.length≤16:=by
 unfold l9 at h;simp only[bF,decide_eq_true_eq]at h;exact h.1
theorem UW {n i:Nat} {s:lV} (h:lH n i s=true):s.2.2.2= -1∨((i:Int)<s.2.2.2∧s.2.2.2<n):=by
 unfold lH XU I8 at h;simp only[bF,dG,decide_eq_true_eq]at h;exact h.1.2
theorem a2I {n i k:Nat} {s:lV} (h:lH n i s=true) (hk:k<s.1.length):qO n i s k=true:=by
 unfold lH at h;simp only[bF]at h;exact cZ.1 h.1.1 k (bW.2 hk)
theorem aDT {n i k:Nat} {s:lV} (h:qO n i s k=true):(i:Int)<(s.1.getD k (0,0)).2∧(s.1.getD k (0,0)).2<n:=by
 unfold qO I8 at h;simp only[bF,decide_eq_true_eq]at h;exact h.1.2
theorem a8Z {n i:Nat} {s:lV} (h:lH n i s=true):(s.2.1=0∧s.2.2.1=0)∨(1≤s.2.1∧s.2.1<s.2.2.1∧s.2.2.1<65536):=by
 unfold lH a2F xM at h;simp only[bF,dG,decide_eq_true_eq]at h;omega
theorem BO {L:List lV} (h:l9 L=true):∀k,mI L k<L.length∧ -1≤mI L k:=by
 have hl:=UU h;intro k;induction k with
 |zero=>unfold mI;omega
 |succ k ih=>
  unfold mI;have:=UW (vY h (i:=(mI L k).toNat) (by omega));omega
theorem UY {L:List lV} {n:Nat}:chainB L (n+1)=(chainB L n&&decide (0≤mI L n)):=by
 unfold chainB;rw[gM,j4];simp
theorem a2J {L:List lV} {n k:Nat} (hk:k<n) (h:mI L k<0):chainB L n=false:=TD hk (by simp;omega)
theorem G9 {α:Type} {p:α→Bool} {l:List α}: -1≤fst p l∧fst p l<l.length:=by
 unfold fst;cases h:l.findIdx? p with
 |none=>simp;omega
 |some i=>
  simp only;have:=gJ.1 h;obtain⟨h1,_⟩:=this;omega
theorem PO {L:List lV} {i:Nat} {t:Int} (h:l9 L=true) (hi:i<L.length) (hl:kT (L.getD i jM) t=true):(i:Int)<qH (L.getD i jM) t∧qH (L.getD i jM) t<L.length:=by
 have hs:=vY h hi;have hb:=G9 (p:=fun(y:Lk)=>y.1==t) (l:=(L.getD i jM).1);have ha:=yI (p:=fun(y:Lk)=>y.1==t) (l:=(L.getD i jM).1);unfold kT at hl;rw[hl,decide_eq_true_eq]at ha;have:=aDT (a2I hs (k:=(fst (fun(y:Lk)=>y.1==t) (L.getD i jM).1).toNat) (by omega));exact this
theorem aJZ {n i:Nat} {s:lV} (h:lH n i s=true) (t:Int):((decide (0<s.2.1)&&(t==s.2.1||t==s.2.2.1))||s.1.any fun y=>y.1==t)=qQ s t:=by
 unfold qQ kT nY;rw[Bool.or_comm];congr 1
end Go.Proofs.YtceclmpmpldmlaaGreat
namespace Tt
open Go Go.RowKit
section
variable {P:Program}
theorem yQ (w:World) (dT sT ty elem:TypeId) (sz g o dLen dCap:Nat) (a:Addr) (sLen sCap:Nat) (cur:Array Value) (t:TypeId) (cs:List Value)
  (hu:P.underlying dT=some (.slice elem)) (hs:(P.info? elem).map (·.size)=some sz)
  (hg:w.heap[g]? =some (.cells cur t (0,0))) (hn:cs.length=Nat.min sLen dLen*sz)
  (hsrc:∀j v,cs[j]? =some v→w.cell? (a.add j)=some v) (hfit:o+cs.length≤cur.size) (h1:∀v∈cs,v.oneCell'=true):
  (Builtin.copy_ #[dT,sT] ty #[.slice (some ⟨g,o,none⟩) dLen dCap,.slice (some a) sLen sCap]).run P w=
   .ok (goInt (Nat.min sLen dLen:Nat)) (w.setRow g (splice cur.toList o cs).toArray):=by
 have hl:=run_loadCells_list (P:=P) w a cs hsrc;have hst:=run_storeCells_at P g o t cs 0 cur w hg (by simpa using hfit) h1;rw[hn]at hl;cases hq:P.info? elem with
 |none=>simp[hq]at hs
 |some i=>
  have hi:i.size=sz:=by simpa [hq] using hs
  simp only[j5]at hl hn ⊢;simp[Builtin.copy_,run_underlying hu,Builtin.lenOf,Builtin.firstCells,Go.sizeOf,typeInfo,hq,hi,hl,hst,j5,splice]
theorem wp_copy_run (w:World) {o:Oper} {a:Act} {K:Act→World→Prop} {Q:Exit→Act→World→Prop} (d s:Operand) (t t':TypeId)
  (ho:o.op= .call {callee:= .builtin .copy,args:=#[d,s],argTypes:=#[t,t']}) (v u:Value) (hd:a.eval d=v) (hs:a.eval s=u) {v':Value} {w':World}
  (hr:(Builtin.copy_ #[t,t'] o.type #[v,u]).run P w= .ok v' w') (h:K (a.put o.dst v') w'):o.wp P a w K Q:=by
 unfold Oper.wp execOp;simp only[ho,resolve,invoke,builtin,Sem.run_bind,Sem.run_pure,Result.andThen_ok,List.map_toArray,aS,aT,hd,hs,hr];exact h
theorem wpList_copy_run (w:World) {ops:Array Oper} {rest:List Oper} {o:Oper} {a:Act} {Q:Exit→Act→World→Prop} (hgd:o.guard=none) (d s:Operand) (t t':TypeId)
  (ho:o.op= .call {callee:= .builtin .copy,args:=#[d,s],argTypes:=#[t,t']}) (v u:Value) (hd:a.eval d=v) (hs:a.eval s=u) {v':Value} {w':World}
  (hr:(Builtin.copy_ #[t,t'] o.type #[v,u]).run P w= .ok v' w') (h:wpList P ops Q rest (a.put o.dst v') w'):wpList P ops Q (o::rest) a w:=
 wpList_plain hgd fun _ hK=>wp_copy_run w d s t t' ho v u hd hs hr (hK _ _ h)
theorem N8 {ops:Array Oper} {o:Oper} {a:Act} {w:World} {K:Act→World→Prop} {Q:Exit→Act→World→Prop} {E:Prop}
  (hg:o.guard=none) (d x:Operand) (dT sT:TypeId) (hop:o.op=Op.call {callee:=Callee.builtin Builtin.copy,args:=#[d,x],argTypes:=#[dT,sT]})
  (v u:Value) (hd:a.eval d=v) (hx:a.eval x=u) {v':Value} {w':World} (hr:(Builtin.copy_ #[dT,sT] o.type #[v,u]).run P w= .ok v' w') (hK:K (a.put o.dst v') w'):
  if Region.wanted o (yielded ops a.tmps)=true then Oper.wp P o a w K Q else E:=by
 have hw:Region.wanted o (yielded ops a.tmps)=true:=by simp[Region.wanted,hg]
 rw[if_pos hw];exact wp_copy_run w d x dT sT hop v u hd hx hr hK
end
theorem jJ.row {w:World} {g:Nat} {T:TypeId} {cs:Array Value} (h:jJ w g T cs) (cs':Array Value):jJ (w.setRow g cs') g T cs':=setRow_heap w g cs cs' T (0,0) h
theorem AO {w w':World} {g:Nat} (h:w.grownBy w' (some g)) (cs:Array Value):w.grownBy (w'.setRow g cs) (some g):=
 ⟨h.os,h.tape,h.output,by rw[show(w'.setRow g cs).heap.size=w'.heap.size by simp[World.setRow]];exact h.size,fun k hk hne=>(setRow_other w' g k cs (fun e=>hne (by rw[e]))).trans (h.block k hk hne)⟩
theorem a2K {w w':World} {row:Option Nat} (h:w.grownBy w' row) {g:Nat} (hg:w.heap.size≤g) (cs:Array Value):w.grownBy (w'.setRow g cs) row:=
 ⟨h.os,h.tape,h.output,by rw[show(w'.setRow g cs).heap.size=w'.heap.size by simp[World.setRow]];exact h.size,fun k hk hne=>(setRow_other w' g k cs (by omega)).trans (h.block k hk hne)⟩
theorem GA {w w':World} {row:Option Nat} (h:w.grownBy w' row):w.grownBy w'.drew row:=⟨h.os,h.tape,h.output,h.size,h.block⟩
theorem a90 {w w':World} {row:Option Nat} (h:w.grownBy w' row) (o:Obj):w.grownBy (w'.alloc o) row:=
 ⟨h.os,h.tape,h.output,by simp;have:=h.size;omega,fun k hk hne=>(sN w' o (by have:=h.size;omega)).trans (h.block k hk hne)⟩
theorem a2L {w:World} {B:Nat} {E:TypeId} {sz:Nat} {a:Option Addr} {n c m:Nat} {xs:List Value} (h:w.ownsRow B E sz (.slice a n c) m xs) (hn:0<n):
  ∃g cur,a=some ⟨g,0,none⟩∧B≤g∧jJ w g E cur∧n≤c∧c≤maxLen∧cur.size=c*sz∧cur.toList.take (n*sz)=xs∧m=n:=by
 obtain⟨_,hm⟩:=Sl.jX h;subst hm;rcases h.2 with ⟨hv,_⟩|⟨g,cap,cur,hv,hB,hg,h1,h2,h3,h4⟩
 ·injection hv with h1 h2 h3;omega
 ·injection hv with e1 e2 e3
  subst e1 e3;exact⟨g,cur,rfl,hB,hg,h1,h2,h3,h4,rfl⟩
theorem AP {w:World} {B g:Nat} {E:TypeId} {sz n c:Nat} {cur:Array Value} {xs:List Value} (hb:jJ w g E cur) (hB:B≤g) (hn:n≤c) (hc:c≤maxLen) (hs:cur.size=c*sz) (ht:cur.toList.take (n*sz)=xs):w.ownsRow B E sz (.slice (some ⟨g,0,none⟩) n c) n xs:=by
 refine⟨?_,.inr ⟨g,c,cur,rfl,hB,hb,hn,hc,hs,ht⟩⟩;rw[←ht,eO,dA,hs];have:=iE sz hn;omega
theorem a92 {L cs:List Value} {k m:Nat} (hm:m=k+cs.length) (hL:m≤L.length):(splice L k cs).take m=L.take k++cs:=by
 unfold splice;rw[←dB,dU (by simp;omega),bP (by simp;omega)]
section
variable {P:Program} {T E:TypeId} {sz:Nat} (ht:P.underlying T=some (.slice E)) (hE:∀w,(Go.sizeOf E).run P w= .ok sz w)
include ht hE
theorem yB (g o n c l:Nat) (l':Int) (hl':l'=l) (h1:l≤n) (hnc:n≤c) (hc:l<c):∀W,(Instr.sliceAt T (.slice (some ⟨g,o,none⟩) n c) (some (.int .i64 l')) none none).run P W= .ok (.slice (some ⟨g,o+l*sz,none⟩) (n - l) (c - l)) W:=by
 have he:P.elem T=E:=by unfold Program.elem;rw[ht]
 intro W;rw[run_sliceAt_slice (h:=by rw[he];exact ht),run_slice_l (ht:=by rw[he];exact ht) (h0:=by omega) (h1:=by omega),he,hE];have e:l'.toNat=l:=by omega
 simp only[Result.andThen,sliced,e];rw[if_neg (by omega)];simp[Addr.add_lit]
theorem NU (g o n c hi:Nat) (hi':Int) (hh':hi'=hi) (h2:hi≤c):∀W,(Instr.sliceAt T (.slice (some ⟨g,o,none⟩) n c) none (some (.int .i64 hi')) none).run P W= .ok (.slice (some ⟨g,o,none⟩) hi c) W:=by
 have he:P.elem T=E:=by unfold Program.elem;rw[ht]
 intro W;rw[run_sliceAt_slice (h:=by rw[he];exact ht),run_slice_h (ht:=by rw[he];exact ht) (h0:=by omega) (h2:=by omega),he,hE];have e:hi'.toNat=hi:=by omega
 simp only[Result.andThen,sliced,e,fJ,Nat.sub_zero];split <;> simp[Addr.add_lit]
end
theorem aDU {α:Type} {L D E:List α} {k e d:Nat} (hE:E.length=e) (hD:D.length=d) (hL:k+e+d≤L.length):(splice (splice L (k+e) D) k E).take (k+e+d)=L.take k++E++D:=by
 unfold splice;have h1:((L.take (k+e)++(D++L.drop (k+e+D.length))).take k)=L.take k:=by
  rw[dU (by simp;omega),iK,gW (by omega)]
 have h2:((L.take (k+e)++(D++L.drop (k+e+D.length))).drop (k+E.length))=D++L.drop (k+e+D.length):=by
  rw[List.drop_append_of_le_length (by simp;omega),gK (by simp;omega),eG]
 rw[h1,h2,←dB,←dB,dU (by simp;omega),bP (by simp;omega)]
theorem a94 {α:Type} {L D E:List α} {k e d:Nat} (hE:E.length=e) (hD:D.length=d) (hL:k+e+d≤L.length):(splice (splice L k E) (k+e) D).take (k+e+d)=L.take k++E++D:=by
 unfold splice;have h1:((L.take k++(E++L.drop (k+E.length))).take (k+e))=L.take k++E:=by
  rw[←dB,dU (by simp;omega),bP (by simp;omega)]
 rw[h1,←dB,dU (by simp;omega),bP (by simp;omega)]
theorem yR (w:World) (T:TypeId) (a:Array Value) (U:TypeId) (b:Array Value) (V:TypeId) (c:Array Value):∃WC,((w.alloc (.cells a T)).alloc (.cells b U)).alloc (.cells c V)=WC∧jJ WC w.heap.size T a∧jJ WC (w.heap.size+1) U b∧jJ WC (w.heap.size+2) V c∧Below w.heap.size w WC∧WC.heap.size=w.heap.size+3:=by
 have hA:=jJ.new w T a;have hB:=jJ.new (w.alloc (.cells a T)) U b;have hC:=jJ.new ((w.alloc (.cells a T)).alloc (.cells b U)) V c;rw[show(w.alloc (.cells a T)).heap.size=w.heap.size+1 by simp]at hB;rw[show((w.alloc (.cells a T)).alloc (.cells b U)).heap.size=w.heap.size+2 by simp]at hC;exact⟨_,rfl,(hA.alloc _).alloc _,hB.alloc _,hC,((aD w _).alloc (by simp) _).alloc (by simp <;> omega) _,by simp⟩
theorem qZ (w:World) (T:TypeId) (a:Array Value) (U:TypeId) (b:Array Value):∃WC,(w.alloc (.cells a T)).alloc (.cells b U)=WC∧jJ WC w.heap.size T a∧jJ WC (w.heap.size+1) U b∧Below w.heap.size w WC∧WC.heap.size=w.heap.size+2:=by
 have hA:=jJ.new w T a;have hB:=jJ.new (w.alloc (.cells a T)) U b;rw[show(w.alloc (.cells a T)).heap.size=w.heap.size+1 by simp]at hB;exact⟨_,rfl,hA.alloc _,hB,(aD w _).alloc (by simp) _,by simp⟩
theorem NV (b:Nat) (w:World):∃(S:Type) (f:S→World),Nonempty S∧(∀s,But b w (f s))∧∀W,But b w W→∃s,W=f s:=
 ⟨{W:World // But b w W},Subtype.val,⟨⟨w,But.refl b w⟩⟩,fun s=>s.2,fun W h=>⟨⟨W,h⟩,rfl⟩⟩
theorem jJ.a4U {w w':World} {b k:Nat} {T:TypeId} {cs:Array Value} (h:But b w w') (hb:jJ w k T cs) (hk:k≠b):jJ w' k T cs:=(h.block k hb.lt hk).trans hb
end Tt
namespace Go.Proofs.YtceclmpmpldmlaaGreat
open Go.RowKit Tt
def kS (x:nC) (o:Int):List Int:=if rM x.2.1 x.2.2.1 x.2.2.2=true then oZ x.2.2.2 (kH x.2.1).2.1 o else []
def wH (b:List Int):List Int:=b++List.replicate (4 - b.length) 0
def a1F (tag:Int) (b:List Int) (o:Int):Bool:=kX tag 2 o&&decide (b.length≠0)&&decide (b.length≤4)
def D7 (x:mK) (o:Int):List Int:=kL x.1 2 o++kL x.2.1 2 o++kL x.2.2.1 4 o++kL x.2.2.2 4 o
def DL (x:mK) (o:Int):Bool:=kX x.1 2 o&&kX x.2.1 2 o&&kX x.2.2.1 4 o&&kX x.2.2.2 4 o
def atP (what no tag:Int) (s:lK):Bool:=s.1==what&&s.2.1==no&&s.2.2.1==tag
def oG (l:List lK) (what no tag:Int):Int:=match l.find? (atP what no tag)with
 |some s=>s.2.2.2.1
 |none=>0
def Fits (l:List lK) (n:Nat) (what no tag:Int) (m:Nat):Prop:=(l.any (atP what no tag)=true)∧0≤oG l what no tag∧(oG l what no tag).toNat+m≤n
abbrev Pt:=Nat×List Int
def zQ (ps:List Pt) (b:List Int):List Int:=ps.foldl (fun b p=>splice b p.1 p.2) b
theorem o8 (p q:List Pt) (b:List Int):zQ (p++q) b=zQ q (zQ p b):=by unfold zQ;rw[fM]
theorem o9 {b FV:List Int} {i:Nat} (h:i+FV.length≤b.length):(splice b i FV).length=b.length:=by unfold splice;simp;omega
def ML (x:nC) (o:Int):Bool:=a1F x.1 (kS x o) o
def JH (l:List lK) (o no:Int) (x:nC):mK:=(x.1,x.2.1,x.2.2.1,if ML x o=true then kZ (wH (kS x o)) 0 4 o else oG l 3 no x.1)
def zV (l:List lK) (o no:Int) (x:nC):List Pt:=if ML x o=true then []else [((oG l 3 no x.1).toNat,kS x o)]
theorem aNO {α:Type} {p:α→Bool} {l:List α} (h:l.any p=true):∃s,l.find? p=some s∧l[(fst p l).toNat]? =some s∧0≤fst p l:=by
 induction l with
 |nil=>cases h
 |cons x r ih=>
  cases hx:p x with
  |true=>
   have hf:fst p (x::r)=0:=J6 (k:=0) (by simp) (by simpa using hx) (fun i hi=>by omega);exact⟨x,by simp[List.find?,hx],by rw[hf];rfl,by rw[hf];decide⟩
  |false=>
   have hr:r.any p=true:=by simpa [hx] using h
   obtain⟨s,h1,h2,h3⟩:=ih hr;have hf:fst p (x::r)=fst p r+1:=by
    unfold fst at h3 ⊢;rw[List.findIdx?_cons,hx];cases hh:r.findIdx? p with
    |none=>rw[hh]at h3;simp at h3
    |some i=>simp
   refine⟨s,by simp[List.find?,hx,h1],?_,by omega⟩;rw[hf,show(fst p r+1).toNat=(fst p r).toNat+1 by omega];exact h2
structure Wc where
 gw:Nat
 gb:Nat
 n:Nat
 o:Int
 spa:Option Addr
 spn:Nat
 spc:Nat
 l:List lK
 qa:Option Addr
 qn:Nat
 qc:Nat
 sb:Nat
structure LP (K:Wc) (w:World) (no:Int) (P:List Int):Prop where
 blk:jJ w K.gw 91 #[.slice (some ⟨K.gb,0,none⟩) K.n K.n,.int .i64 K.o,.slice K.spa K.spn K.spc,.slice K.qa K.qn K.qc,.int .i64 no]
 row:Row w K.gb 5 .u8 P
 len:P.length=K.n
 sp:Sl w K.spa K.spn K.spc 5 (fl spC K.l)
 a4V:∀x,K.spa=some x→x.block≠K.gw∧x.block≠K.gb
 ne:K.gw≠K.gb
 a95:∀x,K.spa=some x→x.block<K.sb
 a96:K.sb≤w.heap.size
abbrev sD:Value:= .slice none 0 0
theorem TF {w w':World} {a:Option Addr} {n c sz:Nat} {cs:List Value} (h:Sl w a n c sz cs) (hs:w.heap.size≤w'.heap.size) (hb:∀x,a=some x→x.block<w.heap.size→w'.heap[x.block]? =w.heap[x.block]?):Sl w' a n c sz cs:=
 ⟨h.len,h.le,h.max,fun i hi=>by
  obtain⟨g,off,e,hlt,hc⟩:=h.lies i hi;refine⟨g,off,e,cO hlt hs,fun j v hv=>?_⟩;have h1:=hc j v hv;have h2:=hb _ e hlt;unfold World.cell? at h1 ⊢;rw[h2];exact h1,h.fit⟩
theorem LP.later {K:Wc} {w w':World} {no:Int} {P:List Int} (h:LP K w no P) (hb:Below w.heap.size w w'):LP K w' no P:=
 ⟨h.blk.late hb,jJ.late (T:=5) h.row hb,h.len,h.sp.mono hb,h.a4V,h.ne,h.a95,bK h.a96 hb.size⟩
theorem LP.no {K:Wc} {w:World} {no:Int} {P:List Int} (h:LP K w no P) (m:Int):LP K (w.setCell ⟨K.gw,4,none⟩ (.int .i64 m)) m P∧Mv K.gw K.gb sD sD w (w.setCell ⟨K.gw,4,none⟩ (.int .i64 m)):=by
 have hbt:=(But.refl K.gw w).set 4 (.int .i64 m);exact⟨⟨h.blk.set 4 _,(hbt.block _ (Row.lt h.row) (Ne.symm h.ne)).trans h.row,h.len,TF h.sp hbt.size (fun x e hx=>hbt.block _ hx (h.a4V x e).1),h.a4V,h.ne,h.a95,bK h.a96 hbt.size⟩,Mv.yA hbt (.inl rfl)⟩
theorem Y8 {P:Program} {T E:TypeId} (ht:P.underlying T=some (.slice E)) (hE:∀w,(Go.sizeOf E).run P w= .ok 1 w) (g n q:Nat) (h:q<n) (W:World):
  (Instr.sliceAt T (.slice (some ⟨g,0,none⟩) n n) (some (.int .i64 (q:Int))) none none).run P W= .ok (.slice (some ⟨g,q,none⟩) (n - q) (n - q)) W:=by
 have he:P.elem T=E:=by unfold Program.elem;rw[ht]
 rw[run_sliceAt_slice (h:=by rw[he];exact ht),run_slice_l (ht:=by rw[he];exact ht) (h0:=by omega) (h1:=by omega),he,hE];simp only[Result.andThen,sliced];have e2:¬n=q:=by omega
 simp[e2,Addr.add];omega
theorem a97:∀w,(Go.sizeOf 5).run Tryz.prog w= .ok 1 w:=fun w=>by kernel_rfl
theorem ES {K:Wc} {w:World} {no:Int} {P:List Int} (h:LP K w no P) (ba:Option Addr) (bm bc:Nat) (FV:List Int) (hs:Sl w ba bm bc 1 (ints .u8 FV)) (q:Nat) (h1:1≤bm) (hq:q+bm≤K.n) (ty:TypeId):
  ∃w',(Builtin.copy_ #[24,24] ty #[.slice (some ⟨K.gb,q,none⟩) (K.n - q) (K.n - q),.slice ba bm bc]).run Tryz.prog w= .ok (goInt (bm:Nat)) w'∧LP K w' no (splice P q FV)∧Mv K.gw K.gb sD sD w w'∧But K.gb w w':=by
 have hbl:FV.length=bm:=hs.nV;obtain⟨b,off,e,hlt,hc⟩:=hs.lies 0 (by omega);subst e;have hmin:Nat.min bm (K.n - q)=bm:=by simp[j5];omega
 have hsz:(Tryz.prog.info? 5).map (·.size)=some 1:=by kernel_rfl
 have hr:=yQ (P:=Tryz.prog) w 24 24 ty 5 1 K.gb q (K.n - q) (K.n - q) ⟨b,off,none⟩ bm bc (ints .u8 P).toArray 5 (ints .u8 FV) Tryz.underlying24 hsz h.row (by rw[hmin,oH,hbl,gU]) (fun j v hv=>by rw[Addr.add_lit];exact hc j v hv) (by rw[oH,hbl];simp[oH,h.len];omega) sM;rw[hmin]at hr;refine⟨_,hr,?_,?_,⟨rfl,rfl,rfl,by simp[World.setRow],fun k hk h2=>setRow_other w K.gb k _ h2⟩⟩
 ·have ho:∀k,k≠K.gb→(w.setRow K.gb (splice (ints .u8 P).toArray.toList q (ints .u8 FV)).toArray).heap[k]? =w.heap[k]? :=fun k hk=>setRow_other w K.gb k _ hk;refine⟨(ho _ h.ne).trans h.blk,?_,by rw[o9 (by rw[hbl,h.len];exact hq)];exact h.len,?_,h.a4V,h.ne,h.a95,by simp[World.setRow];exact h.a96⟩
  ·have:=setRow_heap w K.gb (ints .u8 P).toArray (splice (ints .u8 P).toArray.toList q (ints .u8 FV)).toArray 5 (0,0) h.row;unfold Row;rw[this];have e:(ints .u8 P).toArray.toList=ints .u8 P:=by simp
   rw[e,J3]
  ·exact TF h.sp (by simp[World.setRow]) (fun x e hx=>ho _ (h.a4V x e).2)
 ·exact⟨rfl,rfl,rfl,by simp[World.setRow],fun k hk h2 h3 _=>setRow_other w K.gb k _ h3,fun _ h=> .inl h⟩
theorem Mv.blk {g gt:Nat} {w w':World} {k:Nat} {T:TypeId} {cs:Array Value} (h:Mv g gt sD sD w w') (hb:jJ w k T cs) (h1:k≠g) (h2:k≠gt):jJ w' k T cs:=(h.block k hb.lt h1 h2 (by intro e;cases e)).trans hb
theorem Mv.own {g gt:Nat} {w w':World} {B:Nat} {E:TypeId} {sz n:Nat} {v:Value} {xs:List Value} (h:Mv g gt sD sD w w') (ho:w.ownsRow B E sz v n xs) (h1:v.ownBlock≠some g) (h2:v.ownBlock≠some gt):w'.ownsRow B E sz v n xs:=by
 obtain⟨hl,hr⟩:=ho;refine⟨hl,?_⟩;rcases hr with hn|⟨b,cap,cur,rfl,hB,hg,r⟩
 ·exact .inl hn
 ·exact .inr ⟨b,cap,cur,rfl,hB,(h.block b (bY.1 hg).1 (fun e=>h1 (by rw[←e];rfl)) (fun e=>h2 (by rw[←e];rfl)) (by intro e;cases e)).trans hg,r⟩
theorem LP.but {K:Wc} {w w':World} {no:Int} {P:List Int} {g:Nat} (h:LP K w no P) (hb:But g w w') (h1:g≠K.gw) (h2:g≠K.gb) (h3:K.sb≤g):LP K w' no P:=
 ⟨jJ.a4U hb h.blk (Ne.symm h1),(hb.block _ (Row.lt h.row) (Ne.symm h2)).trans h.row,h.len,TF h.sp hb.size (fun x e hx=>hb.block _ hx (by have:=h.a95 x e;omega)),h.a4V,h.ne,h.a95,bK h.a96 hb.size⟩
theorem Mv.new {g gt b:Nat} {w w1 w2:World} (h:Mv g gt sD sD w w1) (hb:But b w1 w2) (h1:w.heap.size≤b):Mv g gt sD sD w w2:=
 ⟨hb.os.trans h.os,hb.tape.trans h.tape,hb.output.trans h.output,bK h.size hb.size,fun k hk h2 h3 h4=>(hb.block k (cO hk h.size) (by omega)).trans (h.block k hk h2 h3 h4),fun _ e=>by cases e⟩
