import Derived.Test.YtceclmpmpldmlaaGreatCx13
set_option linter.unusedSimpArgs false
set_option linter.unusedVariables false
set_option maxRecDepth 100000
set_option maxHeartbeats 8000000
namespace Go.Proofs.YtceclmpmpldmlaaGreat
open Go.RowKit Tt
def lK (f:Nat) (ds:List (jR f)):List Flt:=ds.flatMap (kQ f)
theorem a2C (f:Nat) (ds:List (jR f)) {i:Nat} (hi:i<ds.length):lK f (ds.take (i+1))=lK f (ds.take i)++kQ f ds[i]:=by
 rw[dS,bI hi,fJ];unfold lK;rw[dJ,fA,List.flatMap_nil,dR]
theorem a6G (f:Nat) (ds:List (jR f)) (i:Nat):(lK f (ds.take i)).length≤(lK f ds).length:=by
 conv=>rhs;rw[←fF i ds]
 unfold lK;rw[dJ,cO];omega
theorem aN2 (f:Nat) (o:Int) (sa:Option Addr) (sn sc:Nat) (ds:List (jR f)) (w:World) (h:yP f w sa sn sc ds) (hN:(lK f ds).length<1000000):
  Calls Tryz.prog 182 #[.agg #[.int .i64 o,.slice sa sn sc]] w fun e w'=>∃(a:Option Addr) (c:Nat) (vs:List Dz),e= .returned (.slice a (lK f ds).length c)∧w'.ownsRow w.heap.size 26 3 (.slice a (lK f ds).length c) (lK f ds).length (fl YR vs)∧L9 w (lK f ds) vs∧Below w.heap.size w w':=by
 obtain⟨i0,z0,xH,hz,oG,qK,QG⟩:=wL aC7 aC8;obtain⟨xC,oQ,nL,nR⟩:=h;have AR:ds.length=sn:=by rw[←oQ];exact nL.rP mP aH
 have bEZ:=nL.max;have b66:=nL.le;have jY:=aD w (.cells #[.int .i64 o,.slice sa sn sc] 39);have bk:=jW.new w 39 #[.int .i64 o,.slice sa sn sc];obtain⟨W1,pR⟩:=aC (w.alloc (.cells #[.int .i64 o,.slice sa sn sc] 39));have aJN:W1.heap.size=w.heap.size+1:=by rw[←pR];simp
 rw[pR]at jY bk;obtain⟨tX,oW,kR,U2,rR⟩:=aM nL nR jY bk AR;clear nL nR jY bk AR;go_enter Tryz.func182,Tryz.ntmps182;go_wp2_with fail
 go_loopw [3,4] (fun r0 iv wr=>∃(i:Nat) (a:Option Addr) (c:Nat) (vs:List Dz),i≤sn∧iv= .int .i64 i∧r0= .slice a (lK f (ds.take i)).length c∧Hid (wr.ownsRow (w.heap.size+1) 26 3 (.slice a (lK f (ds.take i)).length c) (lK f (ds.take i)).length (fl YR vs))∧Hid (L9 w (lK f (ds.take i)) vs)∧Hid (Below W1.heap.size W1 wr)) (fun _ iv _=>sn - (intOf iv).toNat)
 case atStart=>exact⟨0,none,0, [],by omega,rfl,rfl,aA (kF _ _ _ _),aA trivial,aA (aY _ _)⟩
 case round=>
  obtain⟨i,a,c,vs,yJ,rfl,rfl,kY,a1X,lI⟩:=hrel;have CY:=U2.o.late lI.o;have q1:=CY.cell (i:=1) rfl;by_cases hi:i<sn
  ·have I4:(i:Int)<(sn:Int):=by omega
   have hw5:IntKind.i64.wrap ((i:Int)+1)=i+1:=by rw[bF];omega
   have qR:=kR.o.tm lI.o;have hid:i<ds.length:=by rw[rR.o];exact hi
   have nV:i<xC.length:=by rw[oQ];exact hid
   obtain⟨b,o',rfl,lC,fe⟩:=(tX.o.mono qR).elem mP aH (.slice none 0 0,.slice none 0 0,.slice none 0 0) hi;rw[jO nV]at fe;have nD:=oW.o i nV hid;obtain⟨ua,un,uc,pa,pn,pc,ra,rn,rc,hv⟩:=nD.v;have g0:=fe 0 _ rfl;have g1:=fe 1 _ rfl;have g2:=fe 2 _ rfl;clear fe;rw[hv]at nD g0 g1 g2;simp only[bU]at g0 g1 g2;have aCA:=a2C f ds hid;have UC:=congrArg List.length aCA;rw[cO]at UC;have RQ:=a6G f ds (i+1);have hI:=NS f w wr ds[i] _ nD qR aG;simp only at hI;generalize ds[i]=dd at UC aCA hI;clear nD hv;obtain⟨a6E,aC6,aR2,MR,a1Y,JR⟩:=aN UC RQ aCA hI qR CY;clear UC RQ aCA hI qR CY;go_wp2_with fail
   refine MR.o.mono ?_;rintro e w6 ⟨a6,c6,us,rfl,ho6,aR3,wQ⟩;have aCB:=kC kY.o wQ;have aR4:=(Sl.jU ho6).1;have aGS:=lI.o.tm wQ;have bO4:=aGS.size;clear g0 g1 g2 q1;obtain⟨a1Z,aR5,aCC,bO5,CB,aCD⟩:=aN aCB aR4 aGS ho6 wQ aR3;clear aCB aR4 aGS ho6 wQ aR3;go_wp2_with (at_builtin;refine mU rfl _ _ 37 rfl (w.heap.size+1) 26 i0 z0 3 72 Tryz.underlying37 xH hz oG qK QG aH (.slice a (lK f (ds.take i)).length c) (lK f (ds.take i)).length _ rfl a1Z.o a6 (kQ f dd).length c6 (fl YR us) rfl aR5.o aCD.o.one (by have:=a6E.o;have:=aC6.o;omega) aH aG ?_;intro a8 c8 w8 ob hg8 NP;obtain⟨Ob,Hg8,Ho8⟩:=aK ob hg8 NP;clear ob hg8 NP)
   have hnm:(lK f (ds.take i)).length+(kQ f dd).length=(lK f (ds.take (i+1))).length:=a6E.o.symm;have ho8:=Ob.o;rw[hnm,←JI]at ho8;have aR6:Below W1.heap.size W1 w8:=below_grown aCC.o Hg8.o aCC.o.size (by rw[aJN];exact a1Z.o);have a2A:=a1X.o.append aCD.o;rw[←aR2.o]at a2A;obtain⟨aN0,aR7,aR8⟩:=aK ho8 aR6 a2A;clear ho8 aR6 a2A;go_wp2_with fail
   go_roundw
   case rel=>exact⟨i+1,a8,c8,vs++us,by omega,by go_num,by rw[hnm],aN0,aR8,aR7⟩
   case measure=>simp[intOf];omega
  ·obtain rfl:i=sn:=by omega
   have rY:ds.take i=ds:=bK (by rw[rR.o];omega);rw[rY]at kY a1X;have jZ:=kR.o.tm lI.o;have jM:=aA jZ;clear jZ;rw[rY];go_wp2_with fail
   go_ret;exact⟨a,c,vs,rfl,kI kY.o aG,a1X.o,jM.o⟩
def D9 (f:Nat) (ds:List (jR f)):List (Int×jR f):=ds.map (Prod.mk 0)
theorem P6 (f:Nat) (ds:List (jR f)):lH f (D9 f ds)=lK f ds:=by
 unfold lH D9 lK;rw[List.flatMap_map]
theorem aK7 (f:Nat) (ds:List (jR f)) {i:Nat} (h:i<(D9 f ds).length) (h':i<ds.length):(D9 f ds)[i].2=ds[i]:=by simp[D9]
def jX (f:Nat) (ds:List (jR f)):List nY:=(l7 f (D9 f ds) (pG [] 1 (-1) 0 8,0)).1
def QS (f:Nat) (ds:List (jR f)):Bool:=(lK f ds).all okF
def GD (f:Nat) (ds:List (jR f)):Bool:=QS f ds&&decide (mM (jX f ds)≤4294967295)
def nS (f:Nat) (ds:List (jR f)):Int:=if GD f ds=true then mM (jX f ds)else 0
def a9E (x:Flt):Prop:=x.1.length≤500∧x.2.1≤500∧x.2.2.length≤1000000
theorem a2D:∀(f:Nat) (d:jR f),lN f d→∀x∈kQ f d,a9E x:=by
 intro f;induction f with
 |zero=>intro d _ x hx;simp[kQ]at hx
 |succ f ih=>
  intro d hs x hx;obtain⟨h1,h2,h3,h4⟩:=hs;rw[vO,cB]at hx;rcases hx with rfl|hx
  ·exact⟨h1,h3,h2⟩
  ·obtain⟨s,hs,hx⟩:=gZ.1 hx;exact ih s.2 (h4 s hs) x hx
theorem aCE (f:Nat) (ds:List (jR f)) (h:∀d∈ds,lN f d):∀x∈lK f ds,a9E x:=fun x hx=>by
 obtain⟨d,hd,hx⟩:=gZ.1 hx;exact a2D f d (h d hd) x hx
theorem aK8 {x:Flt} (h:a9E x):okF x=(decide (1≤qM x.1.length x.2.1 x.2.2.length)&&x.1.all ZW):=by
 unfold okF;have:=yY (b:=x.2.2.length) h.1 h.2.1;rw[show decide (qM x.1.length x.2.1 x.2.2.length≤65535)=true by simp;omega,jB]
theorem aK9 {α:Type} {p:α→Bool} {l:List α} {i:Nat} (h:i<l.length) (hp:p l[i]=false):l.all p=false:=by
 rw[List.all_eq_false];exact⟨l[i],bJ h,by simp[hp]⟩
theorem aKA {α:Type} {p:α→Bool} {l:List α} (h:∀i (hi:i<l.length),p l[i]=true):l.all p=true:=by
 rw[dQ];intro x hx;obtain⟨i,hi,rfl⟩:=eH hx;exact h i hi
theorem aCF (f:Nat) (o:Int) (sa:Option Addr) (sn sc:Nat) (ds:List (jR f)) (w:World) (h:yP f w sa sn sc ds) (hs:∀d∈ds,lN f d) (hN:(lK f ds).length<1000):
  Calls Tryz.prog 125 #[.agg #[.int .i64 o,.slice sa sn sc]] w fun e w'=>((GD f ds=true∧∃v,e= .returned (.tuple #[v,.bool true])∧Spr w.heap.size w' v (jX f ds))∨(GD f ds=false∧e= .returned (.tuple #[.slice none 0 0,.bool false])))∧Below w.heap.size w w':=by
 have bF2:=aCE f ds hs;have jY:=aD w (.cells #[.int .i64 o,.slice sa sn sc] 39);have bk:=jW.new w 39 #[.int .i64 o,.slice sa sn sc];obtain⟨W1,pR⟩:=aC (w.alloc (.cells #[.int .i64 o,.slice sa sn sc] 39));have aJN:W1.heap.size=w.heap.size+1:=by rw[←pR];simp
 rw[pR]at jY bk;have hD:=aN2 f o sa sn sc ds W1 (h.mono jY) aG;have d0:=bk.cell (i:=0) rfl;have d1:=bk.cell (i:=1) rfl;obtain⟨h',kR,U2,hD',pX,bF3⟩:=aN h jY bk hD hs bF2;clear h jY bk hD hs bF2;go_enter Tryz.func125,Tryz.ntmps125;go_wp2_with fail
 refine hD'.o.mono ?_;rintro e w2 ⟨ra,rc,vs,rfl,kY,a1X,jT⟩;have oM:=(Sl.jU kY).1;have hlv:=a1X.len;have lJ:=kR.o.tm jT;clear d0 d1;obtain⟨tF,bF4,mE,CX,bO6,lG⟩:=aN kY a1X jT oM hlv lJ;clear kY a1X jT oM hlv lJ;go_wp2_with fail
 go_loopw [5] (fun iv wr=>∃(i:Nat),i≤(lK f ds).length∧iv= .int .i64 i∧Hid (∀j (hj:j<(lK f ds).length),j<i→okF (lK f ds)[j]=true)∧Hid (Below w2.heap.size w2 wr)) (fun iv _=>(lK f ds).length - (intOf iv).toNat)
 case atStart=>exact⟨0,by omega,rfl,aA (fun j _ hj=>by omega),aA (aY _ _)⟩
 case round=>
  obtain⟨i,yJ,rfl,kS,lI⟩:=hrel;by_cases hi:i<(lK f ds).length
  ·have I4:(i:Int)<((lK f ds).length:Int):=by omega
   have hw5:IntKind.i64.wrap ((i:Int)+1)=i+1:=by rw[bF];omega
   have hiv:i<vs.length:=by rw[bO6.o];exact hi
   obtain⟨b,o',rfl,lC,fe⟩:=(CX.o.mono lI.o).elem mP aH dzz hi;rw[jO hiv]at fe;have hfx:=bF4.o.get i hi hiv;have hsx:=bF3.o _ (bJ hi);have ZU:=aK8 hsx;have bC7:okF (lK f ds)[i]=false→GD f ds=false:=fun e=>by unfold GD QS;rw[aK9 hi e];rfl
   have mQ:okF (lK f ds)[i]=true→∀j (hj:j<(lK f ds).length),j<i+1→okF (lK f ds)[j]=true:=fun e j hj h1=>by
    rcases dM j i with h2|h2
    ·exact kS.o j hj h2
    ·obtain rfl:j=i:=by omega
     exact e
   obtain⟨x,hx⟩:∃x,(lK f ds)[i]=x:=⟨_,rfl⟩;rw[hx]at hfx hsx ZU bC7 mQ;obtain⟨xt,xs,xb⟩:=x;obtain⟨ta,tc,ua,uc,ba,bc,zs,hv,A8,hxt,vF⟩:=hfx;rw[hv]at fe;simp only at ZU A8 hxt;have g0:=fe 0 _ rfl;have g1:=fe 1 _ rfl;have g2:=fe 2 _ rfl;simp only[bU]at g0 g1 g2;clear fe;have a7Q:xt.length≤500:=hsx.1;have a6D:xs≤500:=hsx.2.1;have hE:=fun W=>NN ta ua ba xt.length tc xs uc xb.length bc W aG aG;have hm:=yY (b:=xb.length) a7Q a6D;have yZ:=lG.o.tm lI.o;have aN3:=mE.o.tm lI.o;generalize qM xt.length xs xb.length=m at*;obtain⟨bV8,aKB,b1K,D7,TR,xE,bF5,JA,tL,AZ⟩:=aR hsx ZU bC7 mQ hx hv hxt hE vF yZ;clear hsx ZU bC7 mQ hx hv hxt hE vF yZ;by_cases U8:1≤m
   ·have e1:decide ((m:Int)<1)=false:=by simp;omega
    have e2:decide ((65535:Int)<m)=false:=by simp;omega
    go_wp2_with fail
    refine(JA.o _).mono ?_;rintro e w3 ⟨rfl,jQ⟩;have p0:=late jQ lC g0;have p1:=late jQ lC g1;have p2:=late jQ lC g2;clear g0 g1 g2;have qN:=aA jQ;clear jQ;go_wp2_with fail
    refine(JA.o _).mono ?_;rintro e w4 ⟨rfl,mF⟩;have sK:=qN.o.tm mF;have bF6:=lI.o.tm sK;have r0:=late mF (cK lC qN.o.size) p0;have bO7:b<w4.heap.size:=cK lC sK.size;have bF7:=A8.mono (aN3.tm sK);have qZ:=AZ.o.tm sK;have qJ:zs.length=xt.length:=A8.len;clear p0 p1 p2 A8 aN3 lC;obtain⟨yC,b1L,bF8,kW,rT,UO,KY⟩:=aO sK bF6 bF7 qZ mF kS lI;clear sK bF6 bF7 qZ mF kS lI;go_wp2_with fail
    go_loopw [6] (fun kv wx=>∃(k:Nat),k≤xt.length∧kv= .int .i64 k∧Hid (∀j (hj:j<xt.length),j<k→ZW xt[j]=true)∧Hid (Below w4.heap.size w4 wx)) (fun kv _=>xt.length - (intOf kv).toNat)
    case atStart=>exact⟨0,by omega,rfl,aA (fun j _ hj=>by omega),aA (aY _ _)⟩
    case round=>
     obtain⟨k,hkn,rfl,YQ,WV⟩:=hrel;have s0:=late WV.o bO7 r0;have yQ:=kW.o.tm WV.o;by_cases hk:k<xt.length
     ·have D6:(k:Int)<(xt.length:Int):=by omega
      have KW:IntKind.i64.wrap ((k:Int)+1)=k+1:=by rw[bF];omega
      obtain⟨b2,o2,rfl,bT5,f0,f1,f2,f3,rV⟩:=(bF8.o.mono WV.o).at hk;have hxk:xt[k]=l8 (zs.getD k yL):=by
       have:xt[k]=(zs.map l8)[k]'(by rw[bL,qJ];exact hk):=by simp only[←bF5.o]
       rw[this,dZ,←jO (by rw[qJ];exact hk) yL]
      obtain⟨⟨⟨y,t,kk,xa,xn,xc⟩,dd⟩,wO⟩:∃z,zs.getD k yL=z:=⟨_,rfl⟩;rw[wO]at f0 f1 f2 f3 rV hxk;simp only[l8]at f0 f1 f2 f3 hxk rV;have hM:=fun W (h:Below wr.heap.size wr W)=>JD t kk xa xn xc dd W (rV.mono h);have D5:ZW xt[k]=vH t kk dd:=by rw[hxk];rfl
      obtain⟨r,hr⟩:=aC (vH t kk dd);rw[hr]at hM D5;have hMM:=hM wr (aY _ _);clear hM hxk;obtain⟨b6E,ED,qX,NC,JF,oZ⟩:=aN hMM D5 hr wO rV yQ;clear hMM D5 hr wO rV yQ;go_wp2_with fail
      refine b6E.o.mono ?_;rintro e w7 ⟨rfl,rE⟩;have bF9:=oZ.o.tm rE;have bFA:=WV.o.tm rE;clear f0 f1 f2 f3 s0;obtain⟨a2E,bFB,bFC⟩:=aK rE bF9 bFA;clear rE bF9 bFA;cases r with
      |false=>
       have hf0:GD f ds=false:=b1K.o (by rw[aKB.o,aK9 hk ED.o,Bool.and_false]);go_wp2_with fail
       refine bodyPost_ret (results_tmp2 rfl _ _ _) rfl ?_;exact⟨.inr ⟨hf0,rfl⟩,bFB.o⟩
      |true=>
       go_wp2_with fail
       go_roundw
       case rel=>
        refine⟨k+1,by omega,by go_num,aA (fun j hj h1=>?_),bFC⟩;rcases dM j k with h2|h2
        ·exact YQ.o j hj h2
        ·obtain rfl:j=k:=by omega
         exact ED.o
       case measure=>simp[intOf];omega
     ·have bSN:okF (xt,xs,xb)=true:=by
       rw[aKB.o,decide_eq_true U8,aKA (fun j hj=>YQ.o j hj aG)];rfl
      have zM:=D7.o bSN;have bFD:=b1L.o.tm WV.o;obtain⟨I7,bFE,oZ⟩:=aK zM bFD yQ;clear zM bFD yQ;go_wp2_with fail
      go_roundw
      case rel=>exact⟨i+1,by omega,by go_num,I7,bFE⟩
      case measure=>simp[intOf];omega
   ·have e1:decide ((m:Int)<1)=true:=by simp;omega
    go_wp2_with fail
    refine(JA.o _).mono ?_;rintro e w3 ⟨rfl,jQ⟩;have jZ:=AZ.o.tm jQ;have hf0:GD f ds=false:=b1K.o (by rw[aKB.o,decide_eq_false U8];rfl);clear g0 g1 g2;obtain⟨qN,jM⟩:=aJ jQ jZ;clear jQ jZ;go_wp2_with fail
    refine bodyPost_ret (results_tmp2 rfl _ _ _) rfl ?_;exact⟨.inr ⟨hf0,rfl⟩,jM.o⟩
  ·obtain⟨wo,hwo⟩:∃wo,wo=wr:=⟨_,rfl⟩;subst hwo;have D5:QS f ds=true:=aKA (fun j hj=>kS.o j hj aG);have jZ:=lG.o.tm lI.o;have aN3:=mE.o.tm lI.o;have hP:=P5 wo.heap.size (.slice none 0 0) [] 1 (-1) 0 8 wo (kF _ _ _ _) (aZ _) aH aH aH;clear kS yJ;obtain⟨ED,jM,a2F,Q0,KY⟩:=aM D5 jZ aN3 hP lI;clear D5 jZ aN3 hP lI;go_wp2_with fail
   refine Q0.o.mono ?_;rintro e w3 ⟨v3,rfl,hp3,hm3⟩;have XE:=(U2.o.late a2F.o).gr hm3 (by intro h;cases h);have rZ:=a2F.o.trans (hm3.below (fun k e=>by cases e) a2F.o.size);obtain⟨a00,a9A,a9B,QT⟩:=aL hp3 hm3 XE rZ;clear hp3 hm3 XE rZ;go_wp2_with fail
   go_loopw [7,8,9] (fun r0 nv iv wx=>∃(i:Nat) (rv:Value),i≤sn∧iv= .int .i64 i∧nv= .int .i64 (l7 f ((D9 f ds).take i) (pG [] 1 (-1) 0 8,0)).2∧rv=r0∧Hid (Spr wo.heap.size wx rv (l7 f ((D9 f ds).take i) (pG [] 1 (-1) 0 8,0)).1)∧Hid (Gr (.slice none 0 0) rv wo wx)) (fun _ _ iv _=>sn - (intOf iv).toNat)
   case atStart=>exact⟨0,v3,by omega,rfl,rfl,rfl,aA (by simpa [l7] using a00.o),a9A⟩
   clear a00 a9A a9B QT
   case round=>
    obtain⟨i,rv,yJ,rfl,rfl,rfl,BQ,hmr⟩:=hrel;have ZT:=hmr.o.below (fun k e=>by cases e) (aZ _);have aRB:=a2F.o.tm ZT;have yA:=jM.o.tm ZT;have CY:=U2.o.late aRB;have q1:=CY.cell (i:=1) rfl;have sM:ds.length=sn:=by
     obtain⟨xC,oQ,nL,_⟩:=h'.o;rw[←oQ];exact nL.rP mP aH
    have he8:mM (pG [] 1 (-1) 0 8)=8:=rfl;have BP:(D9 f ds).length=sn:=by unfold D9;rw[bL];exact sM
    have a6H:∀x∈D9 f ds,lN f x.2:=fun x hx=>by
     obtain⟨d,hd,rfl⟩:=dG.1 hx;exact pX.o d hd
    have tQ:=vP f (L8 f) ((D9 f ds).take i) (pG [] 1 (-1) 0 8,0) (fun x hx=>a6H x (eT hx)) aH;have a9F:lH f (D9 f ds)=lK f ds:=P6 f ds;have RQ:=oO f (D9 f ds) i;have a2G:(pG [] 1 (-1) 0 8).length=1:=rfl;simp only[he8,a2G]at tQ;by_cases hi:i<sn
    ·have I4:(i:Int)<(sn:Int):=by omega
     obtain⟨xC,oQ,nL,nR⟩:=h'.o;have LX:=nL.max;have hml:=nL.le;have hw5:IntKind.i64.wrap ((i:Int)+1)=i+1:=by rw[bF];omega
     have hid:i<ds.length:=by omega
     have nV:i<xC.length:=by omega
     have hip:i<(D9 f ds).length:=by omega
     have hpi:=aK7 f ds hip hid;obtain⟨b,o',rfl,lC,fe⟩:=nL.elem mP aH dzz hi;rw[jO nV]at fe;have nD:=nR i nV hid;obtain⟨ua,un,uc,pa,pn,pc,ra,rn,rc,hv⟩:=nD.v;have k0:=fe 0 _ rfl;have k1:=fe 1 _ rfl;have k2:=fe 2 _ rfl;clear fe;rw[hv]at nD k0 k1 k2;simp only[bU]at k0 k1 k2;have g0:=late yA lC k0;have g1:=late yA lC k1;have g2:=late yA lC k2;have vI:=DX f (D9 f ds) (pG [] 1 (-1) 0 8,0) hip;have UC:=z8 f (D9 f ds) hip;have aRC:=oO f (D9 f ds) (i+1);rw[hpi]at vI UC;have tH:lN f ds[i]:=pX.o _ (bJ hid);rw[a9F]at RQ aRC;generalize ds[i]=dd at vI UC tH nD;generalize l7 f ((D9 f ds).take i) (pG [] 1 (-1) 0 8,0)=R at vI tQ BQ ⊢;obtain⟨Ls,ns⟩:=R;simp only at tQ BQ vI ⊢;have KW:=aB (ns+(kQ f dd).length) aG;have hI:=aN1 f wo.heap.size ns rv Ls w wr dd _ nD yA jM.o.size ZT.size BQ.o tH aG aG tQ.1 aG aG;have hW:=fun W (h:Below w.heap.size w W)=>NS f w W dd _ nD h aG;simp only at hI hW;clear nL nR hv oQ;obtain⟨b6F,bFF,NT,JR,wI,bFG,YG,aRD,a2B,aRE,b1M,bO8⟩:=aT ZT aRB yA CY sM he8 BP a6H tQ a9F a2G hpi;obtain⟨zH,k0',k1',k2',zN,a6E,yG,MR,I5⟩:=aQ nD k0 k1 k2 vI UC tH hI hW;clear ZT aRB yA CY sM he8 BP a6H tQ a9F a2G hpi nD k0 k1 k2 vI UC tH hI hW;go_wp2_with fail
     refine MR.o.mono ?_;rintro e w7 ⟨v7,rfl,hp7,hm7⟩;have hm7:=hmr.o.trans hm7;have aYH:=hm7.below (fun k e=>by cases e) (aZ _);have Q9:=jM.o.tm aYH;have bk7:=U2.o.late (a2F.o.tm aYH);clear q1 g0 g1 g2;have q1:=bk7.cell (i:=1) rfl;have g0:=late Q9 lC k0'.o;have g1:=late Q9 lC k1'.o;have g2:=late Q9 lC k2'.o;have hWW:=I5.o w7 Q9;obtain⟨aGP,aGQ,aRA,aK6,b6D,bT6⟩:=aN hp7 hm7 bk7 Q9 hWW aYH;clear hp7 hm7 bk7 Q9 hWW aYH;go_wp2_with fail
     refine b6D.o.mono ?_;rintro e w8 ⟨a8,c8,us,rfl,ho8,a2A,J4⟩;have YN:=aGP.o.later J4;have U3:=aGQ.o.trans (Gr.of_below J4);clear q1 g0 g1 g2 ho8 a2A;obtain⟨XF,a6F,a96⟩:=aK YN U3 J4;clear YN U3 J4;go_wp2_with fail
     go_roundw
     case rel=>exact⟨i+1,v7,by omega,by go_num,by rw[zN.o],rfl,by rw[zN.o];exact XF,a6F⟩
     case measure=>simp[intOf];omega
    ·obtain rfl:i=sn:=by omega
     have rY:(D9 f ds).take i=D9 f ds:=bK aG;rw[rY]at BQ tQ;have hLe:(l7 f (D9 f ds) (pG [] 1 (-1) 0 8,0)).1=jX f ds:=rfl;rw[a9F]at tQ;rw[hLe]at BQ tQ;obtain⟨xa,xc,rfl⟩:=JN BQ.o;have nL:=(Sl.jU BQ.o).1;have hE:=UW xa _ xc (jX f ds) wr nL tQ.1 aG;have OP:GD f ds=decide (mM (jX f ds)≤4294967295):=by unfold GD;rw[ED.o,dD]
     have aRF:=BQ.o;obtain⟨b6F,bFF,NT,JR,wI,bFG,YG,aRD,a2B,aRE,b1M,JA⟩:=aT ZT aRB yA CY sM he8 BP a6H tQ a9F a2G hE;obtain⟨QU,tX,aRG⟩:=aK OP nL aRF;clear ZT aRB yA CY sM he8 BP a6H tQ a9F a2G hE OP nL aRF;rw[rY];go_wp2_with fail
     refine JA.o.mono ?_;rintro e w7 ⟨rfl,rE⟩;have a6I:=NT.o.tm rE;have a9G:Spr w.heap.size w7 (.slice xa (jX f ds).length xc) (jX f ds):=kI (kC aRG.o rE) jM.o.size;clear q1;obtain⟨a2E,aCG,b1N⟩:=aK rE a6I a9G;clear rE a6I a9G;by_cases hfi:mM (jX f ds)≤4294967295
     ·have hdc:decide ((4294967295:Int)<mM (jX f ds))=false:=by simp;omega
      rw[decide_eq_true hfi]at QU;go_wp2_with fail
      refine bodyPost_ret (results_tmp2 rfl _ _ _) rfl ?_;exact⟨.inl ⟨QU.o,.slice xa (jX f ds).length xc,rfl,b1N.o⟩,aCG.o⟩
     ·have hdc:decide ((4294967295:Int)<mM (jX f ds))=true:=by simp;omega
      rw[decide_eq_false hfi]at QU;go_wp2_with fail
      refine bodyPost_ret (results_tmp2 rfl _ _ _) rfl ?_;exact⟨.inr ⟨QU.o,rfl⟩,aCG.o⟩
theorem YV (f:Nat) (ds:List (jR f)) (hs:∀d∈ds,lN f d) (hN:(lK f ds).length<1000):0≤mM (jX f ds)∧mM (jX f ds)<1000000000000:=by
 have a6H:∀x∈D9 f ds,lN f x.2:=fun x hx=>by
  obtain⟨d,hd,rfl⟩:=dG.1 hx;exact hs d hd
 have tQ:=vP f (L8 f) (D9 f ds) (pG [] 1 (-1) 0 8,0) a6H aH;have he8:mM (pG [] 1 (-1) 0 8)=8:=rfl;rw[P6]at tQ;simp only[he8]at tQ;unfold jX;omega
theorem aCH (f:Nat) (o:Int) (sa:Option Addr) (sn sc:Nat) (ds:List (jR f)) (w:World) (h:yP f w sa sn sc ds) (hs:∀d∈ds,lN f d) (hN:(lK f ds).length<1000):
  Calls Tryz.prog 126 #[.agg #[.int .i64 o,.slice sa sn sc]] w fun e w'=>e= .returned (.int .i64 (nS f ds))∧Below w.heap.size w w':=by
 have tQ:=YV f ds hs hN;have jY:=aD w (.cells #[.int .i64 o,.slice sa sn sc] 39);have hO:=aCF f o sa sn sc ds _ (h.mono jY) hs hN;have hx1:GD f ds=true→nS f ds=mM (jX f ds):=fun e=>by unfold nS;rw[if_pos e]
 have TU:GD f ds=false→nS f ds=0:=fun e=>by unfold nS;rw[if_neg (by rw[e];decide)]
 generalize nS f ds=x at*;obtain⟨kR,zZ,pX,h',QA,QB⟩:=aN jY hO hs h hx1 TU;clear jY hO hs h hx1 TU;go_enter Tryz.func126,Tryz.ntmps126;go_wp2_with fail
 refine zZ.o.mono ?_;rintro e w2 ⟨hc,jT⟩;have jZ:=kR.o.tm jT;rcases hc with ⟨hf,v,rfl,WW⟩|⟨hf,rfl⟩
 ·obtain⟨xa,xc,rfl⟩:=JN WW;have hE:=UW xa _ xc (jX f ds) w2 (Sl.jU WW).1 tQ.1 aG;obtain rfl:=QA.o hf;clear QA QB;obtain⟨JA,jM,NQ,mE⟩:=aL hE jZ WW jT;clear hE jZ WW jT;go_wp2_with fail
  refine JA.o.mono ?_;rintro e w3 ⟨rfl,jQ⟩;have sD:=jM.o.tm jQ;obtain⟨nX,qN⟩:=aJ sD jQ;clear sD jQ;go_wp2_with fail
  go_ret;exact⟨rfl,nX.o⟩
 ·have hE:=UW none 0 0 [] w2 (Sl.nil w2 5) aH aH;obtain rfl:=QB.o hf;clear QA QB;obtain⟨JA,jM,mE⟩:=aK hE jZ jT;clear hE jZ jT;go_wp2_with fail
  refine JA.o.mono ?_;rintro e w3 ⟨rfl,jQ⟩;have sD:=jM.o.tm jQ;obtain⟨nX,qN⟩:=aJ sD jQ;clear sD jQ;go_wp2_with fail
  go_ret;exact⟨rfl,nX.o⟩
theorem aRH (y t k:Int) (xa:Option Addr) (xn xc:Nat) (d:List Int) (w:World) (hs:Sl w xa xn xc 1 (ints .u8 d)) (hd:tV d):
  Calls Tryz.prog 101 #[.agg #[.int .i64 y,.int .i64 t,.int .i64 k,.slice xa xn xc]] w fun e w'=>e= .returned (.bool (!vH t k d))∧Below w.heap.size w w':=by
 have jY:=aD w (.cells #[.int .i64 y,.int .i64 t,.int .i64 k,.slice xa xn xc] 74);have hM:=a0L t k xa xn xc d _ (hs.mono jY) hd;generalize vH t k d=r at*;obtain⟨kR,hM',pX,UB⟩:=aL jY hM hs hd;clear jY hM hs hd;go_enter Tryz.func101,Tryz.ntmps101;go_wp2_with fail
 refine hM'.o.mono ?_;rintro e w2 ⟨rfl,jT⟩;have hb:=kR.o.tm jT;clear jT;have mO:=aA hb;clear hb;go_wp2_with fail
 go_ret;exact⟨rfl,mO.o⟩
def aGV (x:rM):Bool:= !ZW x
theorem aRI (a:Option Addr) (n c:Nat) (zs:List Tz) (w:World) (hs:Tgr w a n c zs) (oU:∀z∈zs,tV z.2):
  Calls Tryz.prog 158 #[.slice a n c,.func (.func 101) #[] #[]] w fun e w'=>e= .returned (.int .i64 (fst aGV (zs.map l8)))∧Below w.heap.size w w':=by
 have hl:(zs.map l8).length=n:=by rw[bL];exact hs.len
 have qJ:=hs.len;have hm:=hs.row.max;have BX:=hs.row.le;obtain⟨pX,yI,a2H⟩:=aK hs hl oU;clear hs hl oU;go_enter Tryz.func158,Tryz.ntmps158;go_wp2;go_loopw [8] (fun iv wr=>∃k:Nat,k≤n∧iv= .int .i64 k∧Hid (∀i (hi:i<(zs.map l8).length),i<k→aGV (zs.map l8)[i]=false)∧Hid (Below w.heap.size w wr)) (fun iv _=>n - (intOf iv).toNat)
 case atStart=>exact⟨0,by omega,rfl,aA (fun j _ hj=>by omega),aA (aY _ _)⟩
 case round=>
  obtain⟨i,hk,rfl,kS,hb⟩:=hrel;by_cases kD:i<n
  ·have hww:IntKind.i64.wrap ((i:Int)+1)=i+1:=by rw[bF];omega
   have I4:(i:Int)<(n:Int):=by omega
   have D6:i<(zs.map l8).length:=by rw[yI.o];exact kD
   have hkz:i<zs.length:=by omega
   obtain⟨b,o,rfl,yZ,f0,f1,f2,f3,rV⟩:=(pX.o.mono hb.o).at kD;have hxk:(zs.map l8)[i]=l8 (zs.getD i yL):=by rw[dZ,jO hkz]
   have tQ:tV (zs.getD i yL).2:=by rw[jO hkz];exact a2H.o _ (bJ hkz)
   obtain⟨⟨⟨y,t,kk,xa,xn,xc⟩,dd⟩,wO⟩:∃z,zs.getD i yL=z:=⟨_,rfl⟩;rw[wO]at f0 f1 f2 f3 rV hxk tQ;simp only[l8]at f0 f1 f2 f3 hxk rV tQ;have HC:=aRH y t kk xa xn xc dd wr rV tQ;have xI:aGV (zs.map l8)[i]= !vH t kk dd:=by rw[hxk];rfl
   obtain⟨r,hr⟩:=aC (!vH t kk dd);rw[hr]at HC xI;clear hxk;obtain⟨HC',qX,a2I,JF,a2B,NC⟩:=aN HC hr xI rV tQ wO;clear HC hr xI rV tQ wO;go_wp2_with fail
   refine HC'.o.mono ?_;rintro e w2 ⟨rfl,jT⟩;have jZ:=hb.o.tm jT;clear jT f0 f1 f2 f3;cases r with
   |true=>
    have jM:=aA jZ;clear jZ;go_wp2;go_ret;exact⟨by rw[RL D6 a2I.o (fun j hj=>kS.o j aG hj)];rfl,jM.o⟩
   |false=>
    have nP:∀j (hj:j<(zs.map l8).length),j<i+1→aGV (zs.map l8)[j]=false:=fun j hj h=>by
     rcases dM j i with h1|h1
     ·exact kS.o j hj h1
     ·obtain rfl:j=i:=by omega
      exact a2I.o
    obtain⟨jM,lW⟩:=aJ jZ nP;clear jZ nP;go_wp2;go_roundw
    case rel=>exact⟨i+1,by omega,by go_num,lW,jM⟩
    case measure=>simp[intOf];omega
  ·obtain rfl:i=n:=by omega
   go_wp2;go_ret;exact⟨by rw[X8 (fun j hj=>kS.o j hj (by rw[yI.o]at hj;exact hj))];rfl,hb.o⟩
theorem aRJ (a:Option Addr) (n c:Nat) (zs:List Tz) (w:World) (hs:Tgr w a n c zs) (oU:∀z∈zs,tV z.2):
  Calls Tryz.prog 100 #[.slice a n c,.func (.func 101) #[] #[]] w fun e w'=>e= .returned (.bool (!(zs.map l8).all ZW))∧Below w.heap.size w w':=by
 have hI:=aRI a n c zs w hs oU;have e1:(!(zs.map l8).all ZW)=decide (0≤fst aGV (zs.map l8)):=by
  rw[BU];generalize zs.map l8=l;induction l with
  |nil=>rfl
  |cons x l ih=>simp only[List.all_cons,List.any_cons,aGV]at ih ⊢;rw[←ih];cases ZW x <;> rfl
 rw[e1];generalize fst aGV (zs.map l8)=q at*;obtain⟨MR,pX,a2H⟩:=aK hI hs oU;clear hI hs oU;go_enter Tryz.func100,Tryz.ntmps100;go_wp2_with fail
 refine MR.o.mono ?_;rintro e w2 ⟨rfl,jT⟩;have mE:=aA jT;clear jT;go_wp2_with fail
 go_ret;exact⟨by congr 2,mE.o⟩
theorem XG (fid:Nat) (hf:fid=228∨fid=108) (cap:Value) (a:Option Addr) (n c:Nat) (ls:List Lk) (p:Lk→Bool) (w:World) (hs:Sl w a n c 2 (fl lkc ls))
  (hc:∀W (x:Lk),Below w.heap.size w W→Calls Tryz.prog fid #[.agg #[.int .i64 x.1,.int .i64 x.2],cap] W fun e W'=>e= .returned (.bool (p x))∧Below W.heap.size W W'):
  Calls Tryz.prog 91 #[.slice a n c,.func (.func fid) #[] #[cap]] w fun e w'=>e= .returned (.int .i64 (fst p ls))∧Below w.heap.size w w':=by
 have hl:=hs.rP pJ aH;have hm:=hs.max;have BX:=hs.le;obtain⟨pX,hc',yI⟩:=aK hs hc hl;clear hs hc hl;rcases hf with rfl|rfl
 all_goals
  go_enter Tryz.func91,Tryz.ntmps91;go_wp2;go_loopw [8] (fun iv wr=>∃k:Nat,k≤n∧iv= .int .i64 k∧Hid (∀i (hi:i<ls.length),i<k→p ls[i]=false)∧Hid (Below w.heap.size w wr)) (fun iv _=>n - (intOf iv).toNat)
  case atStart=>exact⟨0,by omega,rfl,aA (fun j _ hj=>by omega),aA (aY _ _)⟩
  case round=>
   obtain⟨k,hk,rfl,kS,hb⟩:=hrel;by_cases kD:k<n
   ·have hww:IntKind.i64.wrap ((k:Int)+1)=k+1:=by rw[bF];omega
    have D6:k<ls.length:=by rw[yI.o];exact kD
    obtain⟨b,o,rfl,yZ,f⟩:=(pX.o.mono hb.o).elem pJ aH (0,0) kD;rw[jO D6]at f;have f0:=f 0 _ rfl;have f1:=f 1 _ rfl;clear f;rw[bU]at f0;obtain⟨r,hr⟩:=aC (p (ls[k]'D6));have HC:=hc'.o wr (ls[k]'D6) hb.o;rw[hr]at HC;generalize (ls[k]'D6).1=x1 at*;generalize (ls[k]'D6).2=x2 at*;obtain⟨HC',qX⟩:=aJ HC hr;clear HC hr;go_wp2_with fail
    refine HC'.o.mono ?_;rintro e w2 ⟨rfl,jT⟩;have jZ:=hb.o.tm jT;clear jT;cases r with
    |true=>
     have jM:=aA jZ;clear jZ;go_wp2;go_ret;exact⟨by rw[RL D6 qX.o (fun i hi=>kS.o i aG hi)];rfl,jM.o⟩
    |false=>
     have nP:∀i (hi:i<ls.length),i<k+1→p ls[i]=false:=fun i hi h=>by
      rcases dM i k with h1|h1
      ·exact kS.o i hi h1
      ·obtain rfl:i=k:=by omega
       exact qX.o
     obtain⟨jM,lW⟩:=aJ jZ nP;clear jZ nP;go_wp2;go_roundw
     case rel=>exact⟨k+1,by omega,by go_num,lW,jM⟩
     case measure=>simp[intOf];omega
   ·obtain rfl:k=n:=by omega
    go_wp2;go_ret;exact⟨by rw[X8 (fun i hi=>kS.o i hi (by rw[yI.o]at hi;exact hi))];rfl,hb.o⟩
theorem aN4 (fid:Nat) (hf:fid=228∨fid=108) (cap:Value) (a:Option Addr) (n c:Nat) (ls:List Lk) (p:Lk→Bool) (w:World) (hs:Sl w a n c 2 (fl lkc ls))
  (hc:∀W (x:Lk),Below w.heap.size w W→Calls Tryz.prog fid #[.agg #[.int .i64 x.1,.int .i64 x.2],cap] W fun e W'=>e= .returned (.bool (p x))∧Below W.heap.size W W'):
  Calls Tryz.prog 227 #[.slice a n c,.func (.func fid) #[] #[cap]] w fun e w'=>e= .returned (.bool (ls.any p))∧Below w.heap.size w w':=by
 have HX:=XG fid hf cap a n c ls p w hs hc;obtain⟨r,hr⟩:=aC (fst p ls);have ha:=BU (p:=p) (l:=ls);rw[hr]at HX ha;obtain⟨q,hq⟩:=aC (ls.any p);rw[hq]at ha ⊢;clear hs hc;obtain⟨HX',qX,hq'⟩:=aK HX hr hq;clear HX hr hq;rcases hf with rfl|rfl
 all_goals
  go_enter Tryz.func227,Tryz.ntmps227;go_wp2_with fail
  refine HX'.o.mono ?_;rintro e w2 ⟨rfl,jT⟩;have mE:=aA jT;clear jT;go_wp2;go_ret;exact⟨rfl,mE.o⟩
theorem aGW (g:Nat) (tag u v:Int) (w:World) (h:w.cell? ⟨g,0,none⟩=some (.int .i64 tag)) (hg:g<w.heap.size):
  Calls Tryz.prog 228 #[.agg #[.int .i64 u,.int .i64 v],.pointer (some ⟨g,0,none⟩)] w fun e w'=>e= .returned (.bool (u==tag))∧Below w.heap.size w w':=by
 have hb:=aD w (.cells #[.int .i64 u,.int .i64 v] 32);have mO:=aA hb;clear hb;go_enter Tryz.func228,Tryz.ntmps228;go_wp2_with fail
 go_ret;exact⟨rfl,mO.o⟩
theorem aN5 (la:Option Addr) (ln lc:Nat) (lS:List Lk) (sat jG lV tag:Int) (w:World) (hl:Sl w la ln lc 2 (fl lkc lS)):
  Calls Tryz.prog 162 #[.agg #[.slice la ln lc,.int .i64 sat,.int .i64 jG,.int .i64 lV],.int .i64 tag] w fun e w'=>e= .returned (.bool ((decide (0<sat)&&(tag==sat||tag==jG))||lS.any fun y=>y.1==tag))∧Below w.heap.size w w':=by
 have jY:=(aD w (.cells #[.slice la ln lc,.int .i64 sat,.int .i64 jG,.int .i64 lV] 35)).alloc (by simp) (.cells #[.int .i64 tag] 3);obtain⟨W1,pR⟩:∃W1,(w.alloc (.cells #[.slice la ln lc,.int .i64 sat,.int .i64 jG,.int .i64 lV] 35)).alloc (.cells #[.int .i64 tag] 3)=W1:=⟨_,rfl⟩;have nK:W1.cell? ⟨w.heap.size+1,0,none⟩=some (.int .i64 tag):=by rw[←pR];simp
 have rX:w.heap.size+1<W1.heap.size:=by rw[←pR];simp
 rw[pR]at jY;have hH:=aN4 228 (.inl rfl) (.pointer (some ⟨w.heap.size+1,0,none⟩)) la ln lc lS (fun y=>y.1==tag) W1 (hl.mono jY) (fun W x hb=>aGW _ tag x.1 x.2 W (late hb rX nK) (cK rX hb.size));rw[←pR]at hH jY;clear nK rX pR;generalize (lS.any fun y=>y.1==tag)=r at*;obtain⟨yI,kR,hH'⟩:=aK hl jY hH;clear hl jY hH;obtain⟨p,hp⟩:=aC (decide (0<sat));obtain⟨q,hq⟩:=aC (tag==sat);obtain⟨s,hs⟩:=aC (tag==jG);rw[hp,hq,hs];cases p with
 |false=>
  go_enter Tryz.func162,Tryz.ntmps162;go_wp2_with fail
  refine hH'.o.mono ?_;rintro e w2 ⟨rfl,jT⟩;have hb:=kR.o.tm jT;obtain⟨mO,mE⟩:=aJ hb jT;clear hb jT;go_wp2_with fail
  go_ret;exact⟨rfl,mO.o⟩
 |true=>
  cases q with
  |true=>
   go_enter Tryz.func162,Tryz.ntmps162;go_wp2_with fail
   go_ret;exact⟨rfl,kR.o⟩
  |false=>
   cases s with
   |true=>
    go_enter Tryz.func162,Tryz.ntmps162;go_wp2_with fail
    go_ret;exact⟨rfl,kR.o⟩
   |false=>
    go_enter Tryz.func162,Tryz.ntmps162;go_wp2_with fail
    refine hH'.o.mono ?_;rintro e w2 ⟨rfl,jT⟩;have hb:=kR.o.tm jT;obtain⟨mO,mE⟩:=aJ hb jT;clear hb jT;go_wp2_with fail
    go_ret;exact⟨rfl,mO.o⟩
theorem aCI (f:Nat) (o:Int) (sa:Option Addr) (sn sc:Nat) (ds:List (jR f)) (w:World) (h:yP f w sa sn sc ds) (hs:∀d∈ds,lN f d) (hN:(lK f ds).length<1000)
  (KH:∀W,Below w.heap.size w W→Calls Tryz.prog 44 #[.agg #[.int .i64 o,.slice sa sn sc]] W fun e W'=>e= .returned (.bool (QS f ds))∧Below W.heap.size W W'):
  Calls Tryz.prog 11 #[.agg #[.int .i64 o,.slice sa sn sc]] w fun e w'=>((GD f ds=true∧∃v,e= .returned (.tuple #[v,.bool true])∧Spr w.heap.size w' v (jX f ds))∨(GD f ds=false∧e= .returned (.tuple #[.slice none 0 0,.bool false])))∧Below w.heap.size w w':=by
 have jY:=aD w (.cells #[.int .i64 o,.slice sa sn sc] 39);have bk:=jW.new w 39 #[.int .i64 o,.slice sa sn sc];obtain⟨W1,pR⟩:=aC (w.alloc (.cells #[.int .i64 o,.slice sa sn sc] 39));rw[pR]at jY bk;have hM:=KH W1 jY;have d0:=bk.cell (i:=0) rfl;have d1:=bk.cell (i:=1) rfl;have sM:ds.length=sn:=by
  obtain⟨xC,oQ,nL,_⟩:=h;rw[←oQ];exact nL.rP mP aH
 have BP:(D9 f ds).length=sn:=by unfold D9;rw[bL];exact sM
 have a6H:∀x∈D9 f ds,lN f x.2:=fun x hx=>by
  obtain⟨d,hd,rfl⟩:=dG.1 hx;exact hs d hd
 have a9F:lH f (D9 f ds)=lK f ds:=P6 f ds;obtain⟨q,hq⟩:=aC (QS f ds);rw[hq]at hM;have OP:GD f ds=(q&&decide (mM (jX f ds)≤4294967295)):=by unfold GD;rw[hq]
 clear KH hq;obtain⟨h',kR,U2,hM',pX,QU,wI,YG,aRD,aRE⟩:=aR h jY bk hM hs OP sM BP a6H a9F;clear h jY bk hM hs OP sM BP a6H a9F;go_enter Tryz.func11,Tryz.ntmps11;go_wp2_with fail
 refine hM'.o.mono ?_;rintro e w2 ⟨rfl,jT⟩;have bk2:=U2.o.late jT;have lJ:=kR.o.tm jT;have QH:=bk2.lt;clear d0 d1;cases q with
 |false=>
  obtain⟨mE,JO,lG⟩:=aK jT bk2 lJ;clear jT bk2 lJ;go_wp2_with fail
  refine bodyPost_ret (results_tmp2 rfl _ _ _) rfl ?_;exact⟨.inr ⟨QU.o,rfl⟩,lG.o⟩
 |true=>
  have l9:=aD w2 (.cells #[.int .i64 0,.int .i64 0,.slice none 0 0] 98);have hpn:Pln w2.heap.size (w2.alloc (.cells #[.int .i64 0,.int .i64 0,.slice none 0 0] 98)) 0 (.slice none 0 0) []:=⟨jW.new w2 98 #[.int .i64 0,.int .i64 0,.slice none 0 0],kF _ _ _ _⟩;have hP:=UY w2.heap.size 0 (.slice none 0 0) [] 1 (-1) 0 8 _ hpn aH aH aH aH aH;obtain⟨mE,JO,lG,oL,aN6,Q0⟩:=aN jT bk2 lJ l9 hpn hP;clear jT bk2 lJ l9 hpn hP;go_wp2_with fail
  refine Q0.o.mono ?_;rintro e w3 ⟨v3,rfl,hp3,hm3⟩;have XE:=(JO.o.late oL.o).mv hm3 aG aG (by intro h;cases h);have d1:=XE.cell (i:=1) rfl;obtain⟨a00,a9A,a9B⟩:=aK hp3 hm3 XE;clear hp3 hm3 XE;go_wp2_with fail
  obtain⟨g,hg⟩:∃g,g=w2.heap.size:=⟨_,rfl⟩;rw[←hg]at a00 a9A ⊢;have UA:Hid (Mv g g (.slice none 0 0) v3 w2 w3):=aA ((Mv.of_below oL.o).trans a9A.o);have hwg:w.heap.size≤g:=by rw[hg];exact lG.o.size
  have WO:w2.heap.size≤g:=by omega
  clear a9A a9B Q0 aN6 hg;go_loopw [17] (fun iv wx=>∃(i:Nat) (v':Value),i≤sn∧iv= .int .i64 i∧Hid (Pln g wx (l7 f ((D9 f ds).take i) (pG [] 1 (-1) 0 8,0)).2 v' (l7 f ((D9 f ds).take i) (pG [] 1 (-1) 0 8,0)).1)∧Hid (Mv g g (.slice none 0 0) v' w2 wx)) (fun iv _=>sn - (intOf iv).toNat)
  case atStart=>exact⟨0,v3,by omega,rfl,aA (by simpa [l7] using a00.o),UA⟩
  clear a00 UA
  case round=>
   obtain⟨i,v',yJ,rfl,BQ,hmr⟩:=hrel;have ZT:=hmr.o.below WO WO (fun k e=>by cases e) (aZ _);have yA:=lG.o.tm ZT;have he8:mM (pG [] 1 (-1) 0 8)=8:=rfl;have tQ:=vP f (L8 f) ((D9 f ds).take i) (pG [] 1 (-1) 0 8,0) (fun x hx=>aRD.o x (eT hx)) aH;have RQ:=oO f (D9 f ds) i;have a2G:(pG [] 1 (-1) 0 8).length=1:=rfl;simp only[he8,a2G]at tQ;by_cases hi:i<sn
   ·have I4:(i:Int)<(sn:Int):=by omega
    obtain⟨xC,oQ,nL,nR⟩:=h'.o;have LX:=nL.max;have hml:=nL.le;have hw5:IntKind.i64.wrap ((i:Int)+1)=i+1:=by rw[bF];omega
    have hid:i<ds.length:=by rw[wI.o];exact hi
    have nV:i<xC.length:=by omega
    have hip:i<(D9 f ds).length:=by rw[YG.o];exact hi
    have hpi:=aK7 f ds hip hid;obtain⟨b,o',rfl,lC,fe⟩:=nL.elem mP aH dzz hi;rw[jO nV]at fe;have nD:=nR i nV hid;obtain⟨ua,un,uc,pa,pn,pc,ra,rn,rc,hv⟩:=nD.v;have k0:=fe 0 _ rfl;have k1:=fe 1 _ rfl;have k2:=fe 2 _ rfl;clear fe;rw[hv]at nD k0 k1 k2;simp only[bU]at k0 k1 k2;have g0:=late yA lC k0;have g1:=late yA lC k1;have g2:=late yA lC k2;have vI:=DX f (D9 f ds) (pG [] 1 (-1) 0 8,0) hip;have UC:=z8 f (D9 f ds) hip;have aRC:=oO f (D9 f ds) (i+1);rw[hpi]at vI UC;have tH:lN f ds[i]:=pX.o _ (bJ hid);rw[aRE.o]at RQ aRC;generalize ds[i]=dd at vI UC tH nD;generalize l7 f ((D9 f ds).take i) (pG [] 1 (-1) 0 8,0)=R at vI tQ BQ;obtain⟨Ls,ns⟩:=R;simp only at tQ BQ vI;have KZ:=aD wr (.cells #[.slice ua un uc,.slice pa pn pc,.slice ra rn rc] 26);have hI:=aR0 f g ns v' Ls w _ dd _ nD (yA.tm KZ) hwg (BQ.o.later KZ) tH aG aG tQ.1 aG aG;simp only at hI;clear nL nR hv oQ k0 k1 k2;obtain⟨b6F,NT,bFG,a2B,b1M,bO8,zH,zN,a6E,yG,MR,YT⟩:=aT ZT yA he8 tQ a2G hpi nD vI UC tH hI KZ;clear ZT yA he8 tQ a2G hpi nD vI UC tH hI KZ;go_wp2_with fail
    refine MR.o.mono ?_;rintro e w7 ⟨v7,rfl,hp7,hm7⟩;have hm7:=(hmr.o.later YT.o).trans hm7;clear g0 g1 g2;obtain⟨aGP,aGQ⟩:=aJ hp7 hm7;clear hp7 hm7;go_wp2_with fail
    go_roundw
    case rel=>exact⟨i+1,v7,by omega,by go_num,by rw[zN.o];exact aGP,aGQ⟩
    case measure=>simp[intOf];omega
   ·obtain rfl:i=sn:=by omega
    have rY:(D9 f ds).take i=D9 f ds:=bK (by rw[YG.o];omega);rw[rY]at BQ;have hLe:(l7 f (D9 f ds) (pG [] 1 (-1) 0 8,0)).1=jX f ds:=rfl;rw[hLe]at BQ;have q0:=BQ.o.blk.cell (i:=0) rfl;have q2:=BQ.o.blk.cell (i:=2) rfl;have aRF:Spr w.heap.size wr v' (jX f ds):=kI BQ.o.JK aG;obtain⟨NT,b6F,aRG,a2B⟩:=aL yA ZT aRF tQ;clear yA ZT aRF tQ;by_cases hfi:mM (jX f ds)≤4294967295
    ·have hdc:decide ((4294967295:Int)<mM (jX f ds))=false:=by simp;omega
     rw[decide_eq_true hfi]at QU;go_wp2_with fail
     refine bodyPost_ret (results_tmp2 rfl _ _ _) rfl ?_;exact⟨.inl ⟨QU.o,v',rfl,aRG.o⟩,NT.o⟩
    ·have hdc:decide ((4294967295:Int)<mM (jX f ds))=true:=by simp;omega
     rw[decide_eq_false hfi]at QU;go_wp2_with fail
     refine bodyPost_ret (results_tmp2 rfl _ _ _) rfl ?_;exact⟨.inr ⟨QU.o,rfl⟩,NT.o⟩
