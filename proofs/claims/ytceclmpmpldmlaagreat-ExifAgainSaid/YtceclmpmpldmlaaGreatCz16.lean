import Derived.Test.YtceclmpmpldmlaaGreatCz15
import Derived.Lib.BufferWrite
import Derived.Test.YtceclmpmpldmlaaGreatCz14
set_option linter.unusedSimpArgs false
set_option linter.unusedVariables false
namespace Go.Proofs.YtceclmpmpldmlaaGreat
open Go.RowKit Tt
theorem aOR (f:Nat) (o:Int) (sa:Option Addr) (sn sc:Nat) (ds:List (jD f)) (w:World) (h:DJ f w sa sn sc ds) (hs:∀d∈ds,lC f d) (hby:∀d∈ds,pU f d) (hN:(lX f ds).length<1000):
  Calls Tryz.prog 11 #[.agg #[.int .i64 o,.slice sa sn sc]] w fun e w'=>((IL f ds=true∧∃v,e= .returned (.tuple #[v,.bool true])∧Spr w.heap.size w' v (jV f ds))∨(IL f ds=false∧e= .returned (.tuple #[.slice none 0 0,.bool false])))∧Below w.heap.size w w':=
 a8W f o sa sn sc ds w h hs hN fun W hW=>a9K f o sa sn sc ds W (h.mono hW) hs hby
theorem YO (f:Nat) (o:Int) (sa:Option Addr) (sn sc:Nat) (ds:List (jD f)) (w:World) (h:DJ f w sa sn sc ds) (hs:∀d∈ds,lC f d) (hby:∀d∈ds,pU f d) (hN:(lX f ds).length<1000):
  Calls Tryz.prog 12 #[.agg #[.int .i64 o,.slice sa sn sc]] w fun e w'=>e= .returned (.int .i64 (mX f ds))∧Below w.heap.size w w':=
 aNN f o sa sn sc ds w h hs hN fun W hW=>a9K f o sa sn sc ds W (h.mono hW) hs hby
theorem aX6:(Tryz.prog.info? 3).map (fun i=>(i.zero,i.size,i.bytes))=some (some (.int .i64 0),1,8):=by kernel_rfl
def aX7:Value→Nat
 | .slice _ n _=>n
 |_=>0
def YP (L:List lV) (n:Nat):List Int:=(List.range n).map (mI L)
theorem a2S (L:List lV) (n:Nat):YP L (n+1)=YP L n++ [mI L n]:=by unfold YP;rw[gM,dL];rfl
theorem a9L (L:List lV) (n:Nat):(YP L n).length=n:=by unfold YP;simp
set_option maxRecDepth 20000 in
set_option maxHeartbeats 8000000 in
theorem YQ (f:Nat) (o:Int) (sa:Option Addr) (sn sc:Nat) (ds:List (jD f)) (a:Option Addr) (n c:Nat) (zs:List VQ) (w:World) (h:DJ f w sa sn sc ds) (hz:ShR w a n c zs) (hs:∀d∈ds,lC f d) (hby:∀d∈ds,pU f d) (hN:(lX f ds).length<1000) (hsn:sn≤500):
  Calls Tryz.prog 13 #[.agg #[.int .i64 o,.slice sa sn sc],.slice a n c] w fun e w'=>e= .returned (.int .i64 (mJ f o ds (jN zs)))∧Below w.heap.size w w':=by
 have hb1:=aD w (.cells #[.int .i64 o,.slice sa sn sc] 39);have bk:=jJ.new w 39 #[.int .i64 o,.slice sa sn sc];obtain⟨W1,hW1⟩:=aC (w.alloc (.cells #[.int .i64 o,.slice sa sn sc] 39));rw[hW1]at hb1 bk;have hSh:=XV a n c zs W1 (hz.mono hb1);have hzl:=hz.len;have bUM:=hz.row.le;have bUN:=hz.row.max;obtain⟨R,hR⟩:=aC (mJ f o ds (jN zs));rw[hR];unfold mJ at hR;have hdn:ds.length=sn:=by
  obtain⟨FW,hdl,hsl,_⟩:=h;rw[←hdl];exact hsl.uY qA (by decide)
 obtain⟨shb,aEB⟩:∃b,l9 (jN zs)=b:=⟨_,rfl⟩;rw[aEB]at hSh hR;rw[hdn]at hR;obtain⟨i0,hi0,hz0,hz1,hz2⟩:=info_parts aX6;obtain⟨h',hz',hs',rZ⟩:=aH h hz hs hby;obtain⟨hN',bk',hb1',hW1',aX8,mV,hR',zT,NC⟩:=aM hN bk hb1 hW1 hSh hzl hR hdn aEB;clear h hz hs hby hN bk hb1 hW1 hSh hzl hR hdn aEB;go_enter Tryz.func13,Tryz.ntmps13;go_wp2_with fail
 refine((by rw[hW1'.o];exact aX8.o):Calls Tryz.prog 47 _ _ _).mono ?_;rintro e w2 ⟨rfl,hb2⟩;have bk2:=bk'.o.late hb2;have hbw2:=hb1'.o.tm hb2;cases shb with
 |false=>
  obtain rfl:R=1:=by rw[←hR'.o];rfl
  obtain⟨hb2',TA,lU⟩:=aG hb2 bk2 hbw2;clear hb2 bk2 hbw2;go_wp2_with fail
  go_ret;exact⟨rfl,lU.o⟩
 |true=>
 have c0:w2.cell? ⟨w.heap.size,0,none⟩=some (.int .i64 o):=bk2.cell rfl;have c1:w2.cell? ⟨w.heap.size,1,none⟩=some (.slice sa sn sc):=bk2.cell rfl;rw[dH]at hR';by_cases ho:o=1∨o=2
 case neg=>
  have h1:(o != 1)=true:=by simp;omega
  have h2:(o != 2)=true:=by simp;omega
  obtain rfl:R=1:=by rw[←hR'.o,decide_eq_false (show ¬o=1 by omega),decide_eq_false (show ¬o=2 by omega)];rfl
  clear ho;obtain⟨hb2',TA,lU⟩:=aG hb2 bk2 hbw2;clear hb2 bk2 hbw2;go_wp2_with fail
  go_ret;exact⟨rfl,lU.o⟩
 case pos=>
 have hoB:(decide (o=1)||decide (o=2))=true:=by simpa using ho
 rw[hoB,dH]at hR';clear hoB;rcases ho with rfl|rfl
 ·have h1:((1:Int) != 1)=false:=by simp
  have h2:True:=trivial;by_cases hs0:sn=0
  ·have h3:((sn:Int)==0)=true:=by simp[hs0]
   have h4:(sn==0)=true:=by simp[hs0]
   obtain rfl:R=1:=by rw[←hR'.o,decide_eq_true hs0];rfl
   clear hs0;obtain⟨hb2',TA,lU⟩:=aG hb2 bk2 hbw2;clear hb2 bk2 hbw2;go_wp2_with fail
   go_ret;exact⟨rfl,lU.o⟩
  ·have h3:((sn:Int)==0)=false:=by simp;omega
   have h4:(sn==0)=false:=by simp;omega
   rw[decide_eq_false hs0,if_pos (by rfl)]at hR';obtain⟨hb2',TA,lU⟩:=aG hb2 bk2 hbw2;clear hb2 bk2 hbw2;go_wp2_with fail
   clear h1 h2 h3 h4 c0 c1;go_loopw [5,6] (fun v iv wr=>∃(k:Nat) (xa:Option Addr) (xc:Nat),k≤sn∧v= .slice xa k xc∧iv= .int .i64 (mI (jN zs) k)∧Hid (wr.ownsRow w2.heap.size 3 1 (.slice xa k xc) k (ints .i64 (YP (jN zs) k)))∧Hid (chainB (jN zs) k=true)∧Hid (Below w2.heap.size w2 wr)) (fun v _ _=>sn - aX7 v)
   case atStart=>exact⟨0,none,0,by omega,rfl,rfl,aA (kC _ _ _ _),aA rfl,aA (aW _ _)⟩
   case round=>
    obtain⟨k,xa,xc,hk,rfl,rfl,hown,hch,hb⟩:=hrel;have bkr:=TA.o.late hb.o;have c1:wr.cell? ⟨w.heap.size,1,none⟩=some (.slice sa sn sc):=bkr.cell rfl;have hnx:=BO NC.o k;have aOS:(jN zs).length=n:=by unfold jN;rw[bX];exact mV.o
    rw[aOS]at hnx;have hst:=UY (L:=jN zs) (n:=k);rw[hch.o,dH]at hst;have hno:=fun(hlt:k<sn) hh=>a2J (L:=jN zs) (n:=sn) (k:=k) hlt hh;have hnS:mI (jN zs) (k+1)=((jN zs).getD (mI (jN zs) k).toNat jM).2.2.2:=rfl;have hxs:=a2S (jN zs) k;obtain⟨at_,hat⟩:∃x,mI (jN zs) k=x:=⟨_,rfl⟩;rw[hat]at hnx hst hno hnS hxs ⊢;obtain⟨aDM,hst',hno',aOT,hxs',hat'⟩:=aJ bkr hst hno hnS hxs hat;clear bkr hst hno hnS hxs hat;go_upto_region 5 with fail
    go_cut [37]from 28 to 37 (fun v wx=>v= .bool (decide (0≤at_)&&decide (k<sn))∧wr=wx)
    case first=>
     by_cases ha:0≤at_
     ·have ha1:decide (0≤at_)=true:=by simp;omega
      by_cases hks:k<sn
      ·have hk3:decide ((k:Int)<(sn:Int))=true:=by simp;omega
       have hk4:decide (k<sn)=true:=by simp;omega
       go_wp2_with fail
       go_meet
       exact⟨by rw[ha1,hk4];rfl,rfl⟩
      ·have hk3:decide ((k:Int)<(sn:Int))=false:=by simp;omega
       have hk4:decide (k<sn)=false:=by simp;omega
       go_wp2_with fail
       go_meet
       exact⟨by rw[ha1,hk4];rfl,rfl⟩
     ·have ha1:decide (0≤at_)=false:=by simp;omega
      go_wp2_with fail
      go_meet
      exact⟨by rw[ha1];rfl,rfl⟩
    case rest=>
    obtain⟨rfl,rfl⟩:=hcut;clear c1;by_cases hgo:0≤at_∧k<sn
    ·obtain⟨ha,hks⟩:=hgo;rw[decide_eq_true ha,decide_eq_true hks];obtain⟨ai,rfl⟩:∃ai:Nat,at_=ai:=⟨at_.toNat,by omega⟩;have hin:(ai:Int)<n:=by omega
     have hin2:ai<n:=by omega
     have hbw0:=lU.o.tm hb.o;have hzr:=hz'.o.mono hbw0;obtain⟨b,o2,rfl,hblt,fe⟩:=hzr.row.elem vN (by decide) wR hin2;rw[bU,tZ (by rw[mV.o];exact hin2)]at aOT;have f3:=fe 3 _ rfl;rw[←aOT.o]at f3;clear fe;have hnew:=Sl.new' wr 3 1 1 (ints .i64 [(ai:Int)]).toArray (0,0) (by first|rfl|simp) (by omega) rfl;have MQ:chainB (jN zs) (k+1)=true:=hst'.o.trans (decide_eq_true (by omega));have hal:=aD wr (.cells #[.int .i64 ai] 3);have a9M:b<w2.heap.size:=by
      obtain⟨b',o',e,hb',_⟩:=(hz'.o.mono lU.o).row.elem vN (by decide) wR hin2;injection e with e;injection e with e1 e2;omega
     obtain⟨Y7,bMA,I9,V4,oM⟩:=aI hbw0 hzr hnew MQ hal;clear hbw0 hzr hnew MQ hal;go_wp2_with (at_builtin;refine o5 rfl _ _ 102 rfl w2.heap.size 3 i0 _ 1 8 Tryz.underlying102 hi0 hz0 hz1 hz2 rfl (by decide) _ k _ rfl (World.ownsRow.alloc hown.o _) _ 1 1 (ints .i64 [(ai:Int)]) rfl I9.o sM (by omega) (by decide) (by have:=hb.o.size;simp;omega) ?_;intro a5 c5 w5 ob hb5 hg5;obtain⟨Ob,Hb5⟩:=aF ob ((hb.o.tm oM.o).trans hb5);have f5:w5.cell? ⟨b,o2+ai*4+3,none⟩=some (.int .i64 (mI (jN zs) (k+1))):=(hb5.cell a9M).trans ((oM.o.cell (cO a9M hb.o.size)).trans f3);clear ob hb5 hg5)
     go_roundw
     case rel=>exact⟨k+1,a5,c5,by omega,rfl,rfl,aA (by rw[hxs'.o,rR];exact Ob.o),V4,Hb5⟩
     case measure=>simp[aX7];omega
    ·have hgB:(decide (0≤at_)&&decide (k<sn))=false:=by
      by_cases ha:0≤at_
      ·rw[decide_eq_true ha,decide_eq_false (show ¬k<sn by omega)];rfl
      ·rw[decide_eq_false ha];rfl
     rw[hgB];have c1:wr.cell? ⟨w.heap.size,1,none⟩=some (.slice sa sn sc):=aDM.o.cell rfl;have a5I:=lU.o.tm hb.o;by_cases hks:k<sn
     ·obtain rfl:R=1:=by
       have hcn:=hno'.o hks (by omega);rw[←hR'.o,hcn];rfl
      have bMB:(k:Int)<sn:=by omega
      have hk3:decide ((k:Int)<(sn:Int))=true:=by simp;omega
      have EZ:=aA a5I;clear a5I;go_wp2_with fail
      go_ret;exact⟨rfl,EZ.o⟩
     ·obtain rfl:k=sn:=by omega
      have hcr:=hch.o;rw[hch.o,if_pos (by rfl)]at hR';have hk3:decide ((k:Int)<(k:Int))=false:=by simp
      have hk5:¬(k:Int)<(k:Int):=by omega
      have aOU:=(Sl.jX hown.o).1;obtain⟨EZ,b5V,aOV⟩:=aG a5I hcr aOU;clear a5I hcr aOU;clear hgo hgB hk hks hnx;go_wp2_with fail
      clear c1;go_loopw [56] (fun iv wx=>∃i:Nat,i≤k∧iv= .int .i64 i∧Hid (∀j,j<i→lQ (jN zs) f (ds.getD j (jS f)) (mI (jN zs) j)=true)∧Hid (Below wr.heap.size wr wx)) (fun iv _=>k - (intOf iv).toNat)
      case atStart=>exact⟨0,by omega,rfl,aA (fun j hj=>by omega),aA (aW _ _)⟩
      case round=>
       obtain⟨i,hi,rfl,hall,hbx⟩:=hrel;have a5J:=EZ.o.tm hbx.o;by_cases hlt:i<k
       ·obtain⟨FW,hdl,hsl,hsub⟩:=h'.o;have hid:i<ds.length:=by rw[zT.o];exact hlt
        have p9:i<FW.length:=by rw[hdl];exact hid
        obtain⟨b,o2,rfl,hblt,fe⟩:=(hsl.mono a5J).elem qA (by decide) dzz hlt;rw[jI p9]at fe;have hq2:=hsub i p9 hid;obtain⟨ua,un,uc,ra,rn,rc,ya,yn,yc,hv⟩:=hq2.v;have g0:=fe 0 _ rfl;have g1:=fe 1 _ rfl;have g2:=fe 2 _ rfl;clear fe hsl hsub;rw[hv]at hq2 g0 g1 g2;simp only[cK]at g0 g1 g2;have hw1:IntKind.i64.wrap ((i:Int)+1)=i+1:=by rw[aY];omega
        have hil:(i:Int)<(k:Int):=by omega
        have bMC:(0:Int)≤(i:Int):=by omega
        have hni:=BO NC.o i;rw[aOS]at hni;have bMD:0≤mI (jN zs) i:=by
         have:=cZ.1 b5V.o i (bW.2 hlt);simpa using this
        obtain⟨si,hsi⟩:∃si:Nat,mI (jN zs) i=si:=⟨(mI (jN zs) i).toNat,by omega⟩;have hgi:ds.getD i (jS f)=ds[i]:=by rw[jI hid]
        have JF:lQ (jN zs) f ds[i] si=false→R=6:=fun hh=>by
         have:hasAll (jN zs) f ds=false:=TD (k:=i) (by rw[zT.o];exact hlt) (by rw[hgi,hsi];exact hh);rw[←hR'.o,this];rfl
        have nK:lQ (jN zs) f ds[i] si=true→∀j,j<i+1→lQ (jN zs) f (ds.getD j (jS f)) (mI (jN zs) j)=true:=fun hv j hj=>by
         by_cases hjk:j=i
         ·subst hjk;rw[hgi,hsi];exact hv
         ·exact hall.o j (by omega)
        have hal:=aD wr (.cells #[.slice ua un uc,.slice ra rn rc,.slice ya yn yc] 26);have bd:=jJ.new wr 26 #[.slice ua un uc,.slice ra rn rc,.slice ya yn yc];have hb3:=hbx.o.tm hal;have xL:=EZ.o.tm hb3;have a5K:=aOV.o.mono hb3;have hsm:=hs'.o _ (bL hid);have JL:=rZ.o _ (bL hid);generalize ds[i]=dd at*;obtain⟨AQ,EQ,hv',hni',pR,lW,oM,bd',sO,sP,QB,aKI⟩:=aP hdl hq2 hv hni JF nK hal bd hb3 xL a5K hsi;obtain⟨hgi',NS,Q0⟩:=aG hgi hsm JL;clear hdl hq2 hv hni JF nK hal bd hb3 xL a5K hsi hgi hsm JL;go_wp2_with fail
        obtain⟨w3,hw3⟩:=aC (wr.alloc (.cells #[.slice ua un uc,.slice ra rn rc,.slice ya yn yc] 26));rw[hw3]at bd' sO sP QB ⊢;clear g0 g1 g2;obtain⟨g3,hg3⟩:=aC wr.heap.size;rw[hg3]at bd' ⊢;obtain⟨xb,xo,rfl,a9N,hxc⟩:=QB.o.at hlt;have hx1:=hxc i _ (oW (by rw[a9L];exact hlt));have hxe:(YP (jN zs) k).getD i 0=si:=by
         unfold YP;rw[aV,List.getElem?_map,List.getElem?_range hlt];exact aKI.o
        rw[hxe]at hx1;clear hxc;obtain⟨Ty,ff,hne,hbel,jH⟩:=jR w3;have HS:=aA (jH _ ((aW _ _).drew));have q0:∀s,(ff s).cell? ⟨g3,0,none⟩=some (.slice ua un uc):=fun s=>(bd'.o.late (hbel s)).cell rfl;have q1:∀s,(ff s).cell? ⟨g3,1,none⟩=some (.slice ra rn rc):=fun s=>(bd'.o.late (hbel s)).cell rfl;have q2:∀s,(ff s).cell? ⟨g3,2,none⟩=some (.slice ya yn yc):=fun s=>(bd'.o.late (hbel s)).cell rfl;have q3:∀s,(ff s).cell? ⟨xb,xo+i,none⟩=some (.int .i64 si):=fun s=>late (hbel s) a9N hx1;have hHS:=fun s=>aHH zs a n c f w (ff s) dd (.slice ua un uc,.slice ra rn rc,.slice ya yn yc) si hz'.o (sP.o.trans ((hbel s).mono sP.o.size)) EQ.o NS.o Q0.o NC.o (by have:=hni'.o;have:=aKI.o;omega);simp only at hHS;obtain⟨hb,hhb⟩:=aC (lQ (jN zs) f dd si);rw[hhb]at hHS pR lW;clear hx1 hxe;obtain⟨jG,jA,GH,bME,bCS,WE,hg3'⟩:=aK hbel jH hHS hhb a9N hw3 hg3;clear hbel jH hHS hhb a9N hw3 hg3;cases hb with
        |false=>
         refine jO ff (by kernel_rfl) (by kernel_rfl) HS.o ?_;iterate 9 (go_big_quiet_step ((go_at_call 48;refine(GH.o _).mono ?_;rintro e w3 ⟨rfl,hb3⟩;exact⟨rfl,jA.o _ ((jG.o _).trans (hb3.mono (jG.o _).size))⟩)))
         refine wpQuiet_nil ?_;intro s;have hbs:=jG.o s;have tY:=sP.o.tm hbs;obtain rfl:=pR.o rfl;obtain⟨qG,lG⟩:=aF hbs tY;clear hbs tY;go_wp2_with fail
         go_ret;exact⟨rfl,lG.o⟩
        |true=>
         refine jO ff (by kernel_rfl) (by kernel_rfl) HS.o ?_;iterate 9 (go_big_quiet_step ((go_at_call 48;refine(GH.o _).mono ?_;rintro e w3 ⟨rfl,hb3⟩;exact⟨rfl,jA.o _ ((jG.o _).trans (hb3.mono (jG.o _).size))⟩)))
         refine wpQuiet_nil ?_;intro s;have hbs:=jG.o s;have hb4:=sO.o.tm hbs;obtain⟨qG,tC⟩:=aF hbs hb4;clear hbs hb4;go_wp2_with fail
         go_roundw
         case rel=>exact⟨i+1,by omega,by go_num,aA (lW.o rfl),tC⟩
         case measure=>simp[intOf];omega
       ·obtain rfl:i=k:=by omega
        have hA:hasAll (jN zs) f ds=true:=wW (fun j hj=>hall.o j (by rw[zT.o]at hj;exact hj));rw[hA,if_pos (by rfl)]at hR';have bkx:=aDM.o.late hbx.o;have o0:=bkx.cell (i:=0) rfl;have o1:=bkx.cell (i:=1) rfl;have hL:=fun oo=>YO f oo sa i sc ds wr (h'.o.mono a5J) hs'.o rZ.o hN'.o;obtain⟨lg,hlg⟩:∃x,mX f ds=x:=⟨_,rfl⟩;simp only[hlg]at hL hR';obtain⟨bMF,hL',bMG,a9O⟩:=aH bkx hL hlg a5J;clear bkx hL hlg a5J;go_wp2_with fail
        refine(hL'.o _).mono ?_;rintro e w5 ⟨rfl,hb5⟩;have vD:=a9O.o.tm hb5;by_cases hl0:lg=0
        ·have hz1:(lg==0)=true:=by simp[hl0]
         obtain rfl:R=7:=by rw[←hR'.o,if_pos hl0]
         obtain⟨nQ,EW⟩:=aF vD hb5;clear vD hb5;go_wp2_with fail
         go_ret;exact⟨rfl,nQ.o⟩
        ·have hz1:(lg==0)=false:=by simp[hl0]
         obtain rfl:R=0:=by rw[←hR'.o,if_neg hl0]
         obtain⟨nQ,EW⟩:=aF vD hb5;clear vD hb5;go_wp2_with fail
         go_ret;exact⟨rfl,nQ.o⟩
 ·have h1:((2:Int) != 1)=true:=by simp
  have h2:((2:Int) != 2)=false:=by simp
  by_cases hs0:sn=0
  ·have h3:((sn:Int)==0)=true:=by simp[hs0]
   have h4:(sn==0)=true:=by simp[hs0]
   obtain rfl:R=1:=by rw[←hR'.o,decide_eq_true hs0];rfl
   clear hs0;obtain⟨hb2',TA,lU⟩:=aG hb2 bk2 hbw2;clear hb2 bk2 hbw2;go_wp2_with fail
   go_ret;exact⟨rfl,lU.o⟩
  ·have h3:((sn:Int)==0)=false:=by simp;omega
   have h4:(sn==0)=false:=by simp;omega
   rw[decide_eq_false hs0,if_pos (by rfl)]at hR';obtain⟨hb2',TA,lU⟩:=aG hb2 bk2 hbw2;clear hb2 bk2 hbw2;go_wp2_with fail
   clear h1 h2 h3 h4 c0 c1;go_loopw [5,6] (fun v iv wr=>∃(k:Nat) (xa:Option Addr) (xc:Nat),k≤sn∧v= .slice xa k xc∧iv= .int .i64 (mI (jN zs) k)∧Hid (wr.ownsRow w2.heap.size 3 1 (.slice xa k xc) k (ints .i64 (YP (jN zs) k)))∧Hid (chainB (jN zs) k=true)∧Hid (Below w2.heap.size w2 wr)) (fun v _ _=>sn - aX7 v)
   case atStart=>exact⟨0,none,0,by omega,rfl,rfl,aA (kC _ _ _ _),aA rfl,aA (aW _ _)⟩
   case round=>
    obtain⟨k,xa,xc,hk,rfl,rfl,hown,hch,hb⟩:=hrel;have bkr:=TA.o.late hb.o;have c1:wr.cell? ⟨w.heap.size,1,none⟩=some (.slice sa sn sc):=bkr.cell rfl;have hnx:=BO NC.o k;have aOS:(jN zs).length=n:=by unfold jN;rw[bX];exact mV.o
    rw[aOS]at hnx;have hst:=UY (L:=jN zs) (n:=k);rw[hch.o,dH]at hst;have hno:=fun(hlt:k<sn) hh=>a2J (L:=jN zs) (n:=sn) (k:=k) hlt hh;have hnS:mI (jN zs) (k+1)=((jN zs).getD (mI (jN zs) k).toNat jM).2.2.2:=rfl;have hxs:=a2S (jN zs) k;obtain⟨at_,hat⟩:∃x,mI (jN zs) k=x:=⟨_,rfl⟩;rw[hat]at hnx hst hno hnS hxs ⊢;obtain⟨aDM,hst',hno',aOT,hxs',hat'⟩:=aJ bkr hst hno hnS hxs hat;clear bkr hst hno hnS hxs hat;go_upto_region 5 with fail
    go_cut [37]from 28 to 37 (fun v wx=>v= .bool (decide (0≤at_)&&decide (k<sn))∧wr=wx)
    case first=>
     by_cases ha:0≤at_
     ·have ha1:decide (0≤at_)=true:=by simp;omega
      by_cases hks:k<sn
      ·have hk3:decide ((k:Int)<(sn:Int))=true:=by simp;omega
       have hk4:decide (k<sn)=true:=by simp;omega
       go_wp2_with fail
       go_meet
       exact⟨by rw[ha1,hk4];rfl,rfl⟩
      ·have hk3:decide ((k:Int)<(sn:Int))=false:=by simp;omega
       have hk4:decide (k<sn)=false:=by simp;omega
       go_wp2_with fail
       go_meet
       exact⟨by rw[ha1,hk4];rfl,rfl⟩
     ·have ha1:decide (0≤at_)=false:=by simp;omega
      go_wp2_with fail
      go_meet
      exact⟨by rw[ha1];rfl,rfl⟩
    case rest=>
    obtain⟨rfl,rfl⟩:=hcut;clear c1;by_cases hgo:0≤at_∧k<sn
    ·obtain⟨ha,hks⟩:=hgo;rw[decide_eq_true ha,decide_eq_true hks];obtain⟨ai,rfl⟩:∃ai:Nat,at_=ai:=⟨at_.toNat,by omega⟩;have hin:(ai:Int)<n:=by omega
     have hin2:ai<n:=by omega
     have hbw0:=lU.o.tm hb.o;have hzr:=hz'.o.mono hbw0;obtain⟨b,o2,rfl,hblt,fe⟩:=hzr.row.elem vN (by decide) wR hin2;rw[bU,tZ (by rw[mV.o];exact hin2)]at aOT;have f3:=fe 3 _ rfl;rw[←aOT.o]at f3;clear fe;have hnew:=Sl.new' wr 3 1 1 (ints .i64 [(ai:Int)]).toArray (0,0) (by first|rfl|simp) (by omega) rfl;have MQ:chainB (jN zs) (k+1)=true:=hst'.o.trans (decide_eq_true (by omega));have hal:=aD wr (.cells #[.int .i64 ai] 3);have a9M:b<w2.heap.size:=by
      obtain⟨b',o',e,hb',_⟩:=(hz'.o.mono lU.o).row.elem vN (by decide) wR hin2;injection e with e;injection e with e1 e2;omega
     obtain⟨Y7,bMA,I9,V4,oM⟩:=aI hbw0 hzr hnew MQ hal;clear hbw0 hzr hnew MQ hal;go_wp2_with (at_builtin;refine o5 rfl _ _ 102 rfl w2.heap.size 3 i0 _ 1 8 Tryz.underlying102 hi0 hz0 hz1 hz2 rfl (by decide) _ k _ rfl (World.ownsRow.alloc hown.o _) _ 1 1 (ints .i64 [(ai:Int)]) rfl I9.o sM (by omega) (by decide) (by have:=hb.o.size;simp;omega) ?_;intro a5 c5 w5 ob hb5 hg5;obtain⟨Ob,Hb5⟩:=aF ob ((hb.o.tm oM.o).trans hb5);have f5:w5.cell? ⟨b,o2+ai*4+3,none⟩=some (.int .i64 (mI (jN zs) (k+1))):=(hb5.cell a9M).trans ((oM.o.cell (cO a9M hb.o.size)).trans f3);clear ob hb5 hg5)
     go_roundw
     case rel=>exact⟨k+1,a5,c5,by omega,rfl,rfl,aA (by rw[hxs'.o,rR];exact Ob.o),V4,Hb5⟩
     case measure=>simp[aX7];omega
    ·have hgB:(decide (0≤at_)&&decide (k<sn))=false:=by
      by_cases ha:0≤at_
      ·rw[decide_eq_true ha,decide_eq_false (show ¬k<sn by omega)];rfl
      ·rw[decide_eq_false ha];rfl
     rw[hgB];have c1:wr.cell? ⟨w.heap.size,1,none⟩=some (.slice sa sn sc):=aDM.o.cell rfl;have a5I:=lU.o.tm hb.o;by_cases hks:k<sn
     ·obtain rfl:R=1:=by
       have hcn:=hno'.o hks (by omega);rw[←hR'.o,hcn];rfl
      have bMB:(k:Int)<sn:=by omega
      have hk3:decide ((k:Int)<(sn:Int))=true:=by simp;omega
      have EZ:=aA a5I;clear a5I;go_wp2_with fail
      go_ret;exact⟨rfl,EZ.o⟩
     ·obtain rfl:k=sn:=by omega
      have hcr:=hch.o;rw[hch.o,if_pos (by rfl)]at hR';have hk3:decide ((k:Int)<(k:Int))=false:=by simp
      have hk5:¬(k:Int)<(k:Int):=by omega
      have aOU:=(Sl.jX hown.o).1;obtain⟨EZ,b5V,aOV⟩:=aG a5I hcr aOU;clear a5I hcr aOU;clear hgo hgB hk hks hnx;go_wp2_with fail
      clear c1;go_loopw [56] (fun iv wx=>∃i:Nat,i≤k∧iv= .int .i64 i∧Hid (∀j,j<i→lQ (jN zs) f (ds.getD j (jS f)) (mI (jN zs) j)=true)∧Hid (Below wr.heap.size wr wx)) (fun iv _=>k - (intOf iv).toNat)
      case atStart=>exact⟨0,by omega,rfl,aA (fun j hj=>by omega),aA (aW _ _)⟩
      case round=>
       obtain⟨i,hi,rfl,hall,hbx⟩:=hrel;have a5J:=EZ.o.tm hbx.o;by_cases hlt:i<k
       ·obtain⟨FW,hdl,hsl,hsub⟩:=h'.o;have hid:i<ds.length:=by rw[zT.o];exact hlt
        have p9:i<FW.length:=by rw[hdl];exact hid
        obtain⟨b,o2,rfl,hblt,fe⟩:=(hsl.mono a5J).elem qA (by decide) dzz hlt;rw[jI p9]at fe;have hq2:=hsub i p9 hid;obtain⟨ua,un,uc,ra,rn,rc,ya,yn,yc,hv⟩:=hq2.v;have g0:=fe 0 _ rfl;have g1:=fe 1 _ rfl;have g2:=fe 2 _ rfl;clear fe hsl hsub;rw[hv]at hq2 g0 g1 g2;simp only[cK]at g0 g1 g2;have hw1:IntKind.i64.wrap ((i:Int)+1)=i+1:=by rw[aY];omega
        have hil:(i:Int)<(k:Int):=by omega
        have bMC:(0:Int)≤(i:Int):=by omega
        have hni:=BO NC.o i;rw[aOS]at hni;have bMD:0≤mI (jN zs) i:=by
         have:=cZ.1 b5V.o i (bW.2 hlt);simpa using this
        obtain⟨si,hsi⟩:∃si:Nat,mI (jN zs) i=si:=⟨(mI (jN zs) i).toNat,by omega⟩;have hgi:ds.getD i (jS f)=ds[i]:=by rw[jI hid]
        have JF:lQ (jN zs) f ds[i] si=false→R=6:=fun hh=>by
         have:hasAll (jN zs) f ds=false:=TD (k:=i) (by rw[zT.o];exact hlt) (by rw[hgi,hsi];exact hh);rw[←hR'.o,this];rfl
        have nK:lQ (jN zs) f ds[i] si=true→∀j,j<i+1→lQ (jN zs) f (ds.getD j (jS f)) (mI (jN zs) j)=true:=fun hv j hj=>by
         by_cases hjk:j=i
         ·subst hjk;rw[hgi,hsi];exact hv
         ·exact hall.o j (by omega)
        have hal:=aD wr (.cells #[.slice ua un uc,.slice ra rn rc,.slice ya yn yc] 26);have bd:=jJ.new wr 26 #[.slice ua un uc,.slice ra rn rc,.slice ya yn yc];have hb3:=hbx.o.tm hal;have xL:=EZ.o.tm hb3;have a5K:=aOV.o.mono hb3;have hsm:=hs'.o _ (bL hid);have JL:=rZ.o _ (bL hid);generalize ds[i]=dd at*;obtain⟨AQ,EQ,hv',hni',pR,lW,oM,bd',sO,sP,QB,aKI⟩:=aP hdl hq2 hv hni JF nK hal bd hb3 xL a5K hsi;obtain⟨hgi',NS,Q0⟩:=aG hgi hsm JL;clear hdl hq2 hv hni JF nK hal bd hb3 xL a5K hsi hgi hsm JL;go_wp2_with fail
        obtain⟨w3,hw3⟩:=aC (wr.alloc (.cells #[.slice ua un uc,.slice ra rn rc,.slice ya yn yc] 26));rw[hw3]at bd' sO sP QB ⊢;clear g0 g1 g2;obtain⟨g3,hg3⟩:=aC wr.heap.size;rw[hg3]at bd' ⊢;obtain⟨xb,xo,rfl,a9N,hxc⟩:=QB.o.at hlt;have hx1:=hxc i _ (oW (by rw[a9L];exact hlt));have hxe:(YP (jN zs) k).getD i 0=si:=by
         unfold YP;rw[aV,List.getElem?_map,List.getElem?_range hlt];exact aKI.o
        rw[hxe]at hx1;clear hxc;obtain⟨Ty,ff,hne,hbel,jH⟩:=jR w3;have HS:=aA (jH _ ((aW _ _).drew));have q0:∀s,(ff s).cell? ⟨g3,0,none⟩=some (.slice ua un uc):=fun s=>(bd'.o.late (hbel s)).cell rfl;have q1:∀s,(ff s).cell? ⟨g3,1,none⟩=some (.slice ra rn rc):=fun s=>(bd'.o.late (hbel s)).cell rfl;have q2:∀s,(ff s).cell? ⟨g3,2,none⟩=some (.slice ya yn yc):=fun s=>(bd'.o.late (hbel s)).cell rfl;have q3:∀s,(ff s).cell? ⟨xb,xo+i,none⟩=some (.int .i64 si):=fun s=>late (hbel s) a9N hx1;have hHS:=fun s=>aHH zs a n c f w (ff s) dd (.slice ua un uc,.slice ra rn rc,.slice ya yn yc) si hz'.o (sP.o.trans ((hbel s).mono sP.o.size)) EQ.o NS.o Q0.o NC.o (by have:=hni'.o;have:=aKI.o;omega);simp only at hHS;obtain⟨hb,hhb⟩:=aC (lQ (jN zs) f dd si);rw[hhb]at hHS pR lW;clear hx1 hxe;obtain⟨jG,jA,GH,bME,bCS,WE,hg3'⟩:=aK hbel jH hHS hhb a9N hw3 hg3;clear hbel jH hHS hhb a9N hw3 hg3;cases hb with
        |false=>
         refine jO ff (by kernel_rfl) (by kernel_rfl) HS.o ?_;iterate 9 (go_big_quiet_step ((go_at_call 48;refine(GH.o _).mono ?_;rintro e w3 ⟨rfl,hb3⟩;exact⟨rfl,jA.o _ ((jG.o _).trans (hb3.mono (jG.o _).size))⟩)))
         refine wpQuiet_nil ?_;intro s;have hbs:=jG.o s;have tY:=sP.o.tm hbs;obtain rfl:=pR.o rfl;obtain⟨qG,lG⟩:=aF hbs tY;clear hbs tY;go_wp2_with fail
         go_ret;exact⟨rfl,lG.o⟩
        |true=>
         refine jO ff (by kernel_rfl) (by kernel_rfl) HS.o ?_;iterate 9 (go_big_quiet_step ((go_at_call 48;refine(GH.o _).mono ?_;rintro e w3 ⟨rfl,hb3⟩;exact⟨rfl,jA.o _ ((jG.o _).trans (hb3.mono (jG.o _).size))⟩)))
         refine wpQuiet_nil ?_;intro s;have hbs:=jG.o s;have hb4:=sO.o.tm hbs;obtain⟨qG,tC⟩:=aF hbs hb4;clear hbs hb4;go_wp2_with fail
         go_roundw
         case rel=>exact⟨i+1,by omega,by go_num,aA (lW.o rfl),tC⟩
         case measure=>simp[intOf];omega
       ·obtain rfl:i=k:=by omega
        have hA:hasAll (jN zs) f ds=true:=wW (fun j hj=>hall.o j (by rw[zT.o]at hj;exact hj));rw[hA,if_pos (by rfl)]at hR';have bkx:=aDM.o.late hbx.o;have o0:=bkx.cell (i:=0) rfl;have o1:=bkx.cell (i:=1) rfl;have hL:=fun oo=>YO f oo sa i sc ds wr (h'.o.mono a5J) hs'.o rZ.o hN'.o;obtain⟨lg,hlg⟩:∃x,mX f ds=x:=⟨_,rfl⟩;simp only[hlg]at hL hR';obtain⟨bMF,hL',bMG,a9O⟩:=aH bkx hL hlg a5J;clear bkx hL hlg a5J;go_wp2_with fail
        refine(hL'.o _).mono ?_;rintro e w5 ⟨rfl,hb5⟩;have vD:=a9O.o.tm hb5;by_cases hl0:lg=0
        ·have hz1:(lg==0)=true:=by simp[hl0]
         obtain rfl:R=7:=by rw[←hR'.o,if_pos hl0]
         obtain⟨nQ,EW⟩:=aF vD hb5;clear vD hb5;go_wp2_with fail
         go_ret;exact⟨rfl,nQ.o⟩
        ·have hz1:(lg==0)=false:=by simp[hl0]
         obtain rfl:R=0:=by rw[←hR'.o,if_neg hl0]
         obtain⟨nQ,EW⟩:=aF vD hb5;clear vD hb5;go_wp2_with fail
         go_ret;exact⟨rfl,nQ.o⟩
def WG:(f:Nat)→jD f→Nat
 |0,_=>0
 |f+1,d=>mQ d.1.length d.2.1.length d.2.2.length
def noT (f:Nat) (ds:List (jD f)) (k:Nat):Int:=(lX f (ds.take k)).length
def QC (l:List lK) (f:Nat) (ds:List (jD f)):Nat→Int
 |0=>4
 |k+1=>oG l 2 (noT f ds k) 0+2+12*(WG f (ds.getD k (jS f)):Nat)
def chW (L:List lV) (l:List lK) (o:Int) (f:Nat) (ds:List (jD f)) (n:Nat):List Pt:=
 (List.range n).flatMap fun k=>IQ L l o f (ds.getD k (jS f)) (noT f ds k) (mI L k)++ [((QC l f ds k).toNat,kL (oG l 2 (noT f ds k) 0) 4 o)]
def QD (o:Int):List Pt:=(0, [77,77])::if o=1 then [(0, [73,73])]else []
def aOW (f:Nat) (o:Int) (ds:List (jD f)) (L:List lV):List Pt:=QD o++(2,kL 42 2 o)::chW L (jV f ds) o f ds ds.length
def uG (f:Nat) (o:Int) (ds:List (jD f)) (L:List lV):List Int:=zQ (aOW f o ds L) (List.replicate (mX f ds).toNat 0)
structure OKT (f:Nat) (o:Int) (ds:List (jD f)) (L:List lV):Prop where
 vH:l9 L=true
 ord:o=1∨o=2
 n8:8≤mX f ds
 n1:mX f ds≤1000000000000
 fit:IL f ds=true
 nx:∀k,k<ds.length→0≤mI L k
 dir:∀k,k<ds.length→okW L (jV f ds) (mX f ds).toNat o f (ds.getD k (jS f)) (noT f ds k) (mI L k)
 lnk:∀k,k<ds.length→0≤QC (jV f ds) f ds k∧(QC (jV f ds) f ds k).toNat+4≤(mX f ds).toNat
 pk:∀k,k<ds.length→kX (oG (jV f ds) 2 (noT f ds k) 0) 4 o=true
def aEC (f:Nat) (o:Int) (ds:List (jD f)) (L:List lV):List Int:=if mJ f o ds L=0 then uG f o ds L else []
theorem a9P (f:Nat) (o:Int) (ds:List (jD f)) (L:List lV):uG f o ds L=zQ (chW L (jV f ds) o f ds ds.length) (splice (zQ (QD o) (List.replicate (mX f ds).toNat 0)) 2 (kL 42 2 o)):=by
 unfold uG aOW;rw[o8];rfl
theorem BX (f:Nat) (ds:List (jD f)) {k:Nat} (h:k<ds.length):noT f ds (k+1)=noT f ds k+(jT f (ds.getD k (jS f))).length:=by
 unfold noT lX;rw[dN,aX h,fG,dW,bO,jI h];simp
theorem JM (f:Nat) (ds:List (jD f)) (k:Nat):0≤noT f ds k∧noT f ds k≤(lX f ds).length:=by
 have h:(lX f ds).length=(lX f (ds.take k)).length+(lX f (ds.drop k)).length:=by
  conv=>lhs;rw[←eY k ds]
  unfold lX;rw[dW,bO]
 unfold noT;omega
theorem a9Q (L:List lV) (l:List lK) (o:Int) (f:Nat) (ds:List (jD f)) (k:Nat):chW L l o f ds (k+1)=chW L l o f ds k++(IQ L l o f (ds.getD k (jS f)) (noT f ds k) (mI L k)++ [((QC l f ds k).toNat,kL (oG l 2 (noT f ds k) 0) 4 o)]):=by
 unfold chW;rw[gM,dW];simp
theorem a9R {w:World}:∀{f:Nat} {d:jD f} {ta:Option Addr} {tn tc:Nat} {sa:Option Addr} {sn sc:Nat} {ba:Option Addr} {bn bc:Nat},zS w f d (.slice ta tn tc,.slice sa sn sc,.slice ba bn bc)→lC f d→WG f d=mQ tn sn bn∧tn≤500∧sn≤500∧bn≤1000000
 |0,_,_,_,_,_,_,_,_,_,_,h,_=>h.elim
 |f+1,d,ta,tn,tc,sa,sn,sc,ba,bn,bc,h,hs=>by
  obtain⟨ta',tn',tc',zs,sa',sn',sc',ds,ba',bn',bc',hv,WV,hdt,hsl,hdl,_,hbl⟩:=h;obtain⟨h1,h2,h3,_⟩:=hs;simp only[Prod.mk.injEq,Value.slice.injEq]at hv;obtain⟨⟨_,rfl,_⟩,⟨_,rfl,_⟩,_,rfl,_⟩:=hv;have htn:d.1.length=tn:=by rw[hdt,bX];exact WV.len
  have hsn:d.2.1.length=sn:=by rw[←hdl];exact hsl.uY oO (by decide)
  have hbn:d.2.2.length=bn:=hbl.nV;refine⟨?_,by omega,by omega,by omega⟩;show mQ d.1.length d.2.1.length d.2.2.length=_
  rw[htn,hsn,hbn]
theorem a9S {K:Wc} {w:World} {no:Int} {P:List Int} (h:LP K w no P) (s:ByteArray) (FV:List Int) (hb:Go.Lib.byteCells s.data.toList=ints .u8 FV) (hl:FV.length=s.size) (hn:s.size≤K.n) (sT ty:TypeId):
  ∃w',(Builtin.copy_ #[24,sT] ty #[.slice (some ⟨K.gb,0,none⟩) K.n K.n,.string s]).run Tryz.prog w= .ok (goInt s.size) w'∧LP K w' no (splice P 0 FV)∧Mv K.gw K.gb sD sD w w':=by
 have hsz:(Tryz.prog.info? 5).map (·.size)=some 1:=by kernel_rfl
 have hr:=Go.Lib.run_copy_row_string (P:=Tryz.prog) w 24 sT ty 5 K.gb 0 K.n K.n s (ints .u8 P).toArray 5 Tryz.underlying24 hsz h.row hn (by simp[oH,h.len];exact hn);have e:(((ints .u8 P).toArray.toList.take 0++Go.Lib.byteCells s.data.toList++(ints .u8 P).toArray.toList.drop (0+s.size)).toArray)=(ints .u8 (splice P 0 FV)).toArray:=by
  rw[hb,←J3];unfold splice;simp[oH,hl]
 rw[e]at hr;refine⟨_,hr,?_,⟨rfl,rfl,rfl,by simp[World.setRow],fun k hk h2 h3 _=>setRow_other w K.gb k _ h3,fun _ h=> .inl h⟩⟩;have ho:∀k,k≠K.gb→(w.setRow K.gb (ints .u8 (splice P 0 FV)).toArray).heap[k]? =w.heap[k]? :=fun k hk=>setRow_other w K.gb k _ hk;refine⟨(ho _ h.ne).trans h.blk,setRow_heap w K.gb (ints .u8 P).toArray (ints .u8 (splice P 0 FV)).toArray 5 (0,0) h.row,by rw[o9 (by rw[hl,h.len];omega)];exact h.len,?_,h.a4V,h.ne,h.a95,by simp[World.setRow];exact h.a96⟩;exact TF h.sp (by simp[World.setRow]) (fun x e hx=>ho _ (h.a4V x e).2)
def AU (x:nC):Int:=oL x.2.1 x.2.2.1
theorem QE (x:nC):0≤AU x:=by
 unfold AU oL;have:=P7 x.2.1 x.2.2.1;split <;> omega
def wY (no:Int) (ts:List nC):List DN:=(ts.filter fun x=>decide (0<AU x)).map fun x=>(3,no,x.1,AU x)
def D8 (no:Int) (b:List Int):List DN:=if 0<b.length then [(4,no,0,(b.length:Int))]else []
def nA {f:Nat} (rec:jD f→Int→List DN):List (Int×jD f)→Int→List DN
 | [],_=> []
 |s::ss,no=>rec s.2 no++nA rec ss (no+(jT f s.2).length)
def mU:(f:Nat)→jD f→Int→List DN
 |0,_,_=> []
 |f+1,d,no=>(2,no,0,6+12*((mQ d.1.length d.2.1.length d.2.2.length:Nat):Int))::(wY no d.1++(nA (mU f) d.2.1 (no+1)++D8 no d.2.2))
theorem nN (f:Nat) (d:jD (f+1)) (no:Int):mU (f+1) d no=
  (2,no,0,6+12*((mQ d.1.length d.2.1.length d.2.2.length:Nat):Int))::(wY no d.1++(nA (mU f) d.2.1 (no+1)++D8 no d.2.2)):=rfl
def tH (f:Nat) (ds:List (jD f)):List DN:=(1, -1,0,8)::nA (mU f) (wL f ds) 0
theorem LW (no:Int):∀(ts:List nC) (l:List lK),lY no ts l=(wY no ts).foldl IB l
 | [],l=>rfl
 |x::ts,l=>by
  have ih:=LW no ts;unfold lY at ih ⊢;unfold wY at ih ⊢;rw[iU,List.filter_cons];by_cases h:0<AU x
  ·rw[if_pos (by simpa [AU] using h),if_pos (by simpa using h),aS,iU];exact ih _
  ·rw[if_neg (by simpa [AU] using h),if_neg (by simpa using h)];exact ih _
theorem TI (f:Nat) (ih:∀(d:jD f) (no:Int) (l:List lK),vB f d no l=(mU f d no).foldl IB l):∀(ss:List (Int×jD f)) (no:Int) (l:List lK),(jZ f ss (l,no)).1=(nA (mU f) ss no).foldl IB l
 | [],_,_=>rfl
 |s::ss,no,l=>by
  rw[uP];show(jZ f ss (vB f s.2 no l,no+(jT f s.2).length)).1=_
  rw[TI f ih ss,ih,←fM];rfl
theorem QF:∀(f:Nat) (d:jD f) (no:Int) (l:List lK),vB f d no l=(mU f d no).foldl IB l
 |0,_,_,_=>rfl
 |f+1,d,no,l=>by
  rw[EP,nN,iU,fM,fM,←LW];have hs:=TI f (QF f) d.2.1 (no+1) (lY no d.1 (mZ l 2 no 0 (6+12*(mQ d.1.length d.2.1.length d.2.2.length:Nat))));rw[hs];unfold D8;split <;> rfl
theorem vO (f:Nat) (ds:List (jD f)):jV f ds=placed 0 (tH f ds)∧lS (jV f ds)=endP 0 (tH f ds):=by
 have h:=Y9 (tH f ds) [];have e:jV f ds=(tH f ds).foldl IB []:=by
  unfold jV;rw[TI f (QF f)];rfl
 rw[e,h.2,h.1];exact⟨rfl,rfl⟩
theorem yD {f:Nat} {rec:jD f→Int→List DN}:∀{ss:List (Int×jD f)} {no:Int} {x:DN},x∈nA rec ss no→∃j,j<ss.length∧x∈rec (ss.getD j (0,jS f)).2 (no+(kD f (ss.take j)).length)
 | [],_,_,h=>by cases h
 |s::ss,no,x,h=>by
  rcases bH.1 h with h|h
  ·exact⟨0,by simp,by simpa [kD] using h⟩
  ·obtain⟨j,hj,hx⟩:=yD h;refine⟨j+1,by simpa using hj,?_⟩;have e:no+(jT f s.2).length+(kD f (ss.take j)).length=no+(kD f ((s::ss).take (j+1))).length:=by
    rw[gX];unfold kD;rw[dO,bO];omega
   rw[e]at hx;simpa using hx
theorem LX {f:Nat} {rec:jD f→Int→List DN}:∀{ss:List (Int×jD f)} {no:Int} {j:Nat},j<ss.length→∀x∈rec (ss.getD j (0,jS f)).2 (no+(kD f (ss.take j)).length),x∈nA rec ss no
 | [],_,_,h,_,_=>by simp at h
 |s::ss,no,0,_,x,hx=>bH.2 (.inl (by simpa [kD] using hx))
 |s::ss,no,j+1,h,x,hx=>by
  refine bH.2 (.inr (LX (j:=j) (by simpa using h) x ?_));have e:no+(jT f s.2).length+(kD f (ss.take j)).length=no+(kD f ((s::ss).take (j+1))).length:=by
   rw[gX];unfold kD;rw[dO,bO];omega
  rw[e];simpa using hx
theorem a5L (f:Nat) (ss:List (Int×jD f)) {j:Nat} (h:j<ss.length):(kD f (ss.take j)).length+(jT f (ss.getD j (0,jS f)).2).length≤(kD f ss).length:=by
 have:=sZ f ss (j+1);rw[G8 f ss h]at this;rw[jI h];exact this
theorem DT:∀(f:Nat) (d:jD f) (no:Int) (x:DN),x∈mU f d no→no≤x.2.1∧x.2.1<no+(jT f d).length∧0≤x.2.2.2∧2≤x.1∧x.1≤4
 |0,_,_,_,h=>by cases h
 |f+1,d,no,x,h=>by
  have e:(jT (f+1) d).length=(kD f d.2.1).length+1:=by rw[lN];rfl
  rw[nN]at h;rw[e];rcases bQ.1 h with rfl|h
  ·simp;omega
  rcases bH.1 h with h|h
  ·obtain⟨t,ht,rfl⟩:=cB.1 h;have:=QE t;simp;omega
  rcases bH.1 h with h|h
  ·obtain⟨j,hj,hx⟩:=yD h;have h1:=DT f _ _ _ hx;have h2:=a5L f d.2.1 hj;omega
  ·unfold D8 at h;split at h
   ·obtain rfl:x=_:=by simpa using h
    simp;omega
   ·cases h
def YR:(f:Nat)→jD f→Prop
 |0,_=>True
 |f+1,d=>(d.1.Pairwise fun x y=>x.1≠y.1)∧∀s∈d.2.1,YR f s.2
theorem GJ {α β:Type} {g:α→β} {l:List α} (h:l.Pairwise fun x y=>g x≠g y):(l.map g).Nodup:=by
 unfold List.Nodup;rw[fK];exact h
theorem O8 {f:Nat} (ih:∀(d:jD f) (no:Int),YR f d→((mU f d no).map YA).Nodup):∀(ss:List (Int×jD f)) (no:Int),(∀s∈ss,YR f s.2)→((nA (mU f) ss no).map YA).Nodup
 | [],_,_=>List.nodup_nil
 |s::ss,no,h=>by
  show((mU f s.2 no++nA (mU f) ss (no+(jT f s.2).length)).map YA).Nodup
  rw[dL,iW];refine⟨ih s.2 no (h s (bJ ..)),O8 ih ss _ (fun x hx=>h x (aZ _ hx)),?_⟩;intro a ha b hb e;obtain⟨x,hx,rfl⟩:=cB.1 ha;obtain⟨y,hy,rfl⟩:=cB.1 hb;obtain⟨j,hj,hy⟩:=yD hy;have h1:=DT _ _ _ _ hx;have h2:=DT _ _ _ _ hy;have h3:x.2.1=y.2.1:=congrArg (fun k=>k.2.1) e;omega
theorem a2T:∀(f:Nat) (d:jD f) (no:Int),YR f d→((mU f d no).map YA).Nodup
 |0,_,_,_=>List.nodup_nil
 |f+1,d,no,h=>by
  obtain⟨h1,h2⟩:=h;have hV:∀x∈wY no d.1,x.1=3∧x.2.1=no:=fun x hx=>by
   obtain⟨t,ht,rfl⟩:=cB.1 hx;exact⟨rfl,rfl⟩
  have hB:∀x∈D8 no d.2.2,x.1=4∧x.2.1=no:=fun x hx=>by
   unfold D8 at hx;split at hx
   ·obtain rfl:x=_:=by simpa using hx
    exact⟨rfl,rfl⟩
   ·cases hx
  have hS:∀x∈nA (mU f) d.2.1 (no+1),no<x.2.1:=fun x hx=>by
   obtain⟨j,hj,hx⟩:=yD hx;have:=DT _ _ _ _ hx;omega
  rw[nN,aS,iT,dL,iW,dL,iW];refine⟨?_,?_,⟨O8 (a2T f) _ _ h2,?_,?_⟩,?_⟩
  ·intro hm;rw[←dL,←dL]at hm;obtain⟨x,hx,e⟩:=cB.1 hm;have e1:x.1=2:=congrArg (fun k=>k.1) e;have e2:x.2.1=no:=congrArg (fun k=>k.2.1) e;rcases bH.1 hx with hx|hx
   ·have:=hV x hx;omega
   rcases bH.1 hx with hx|hx
   ·have:=hS x hx;omega
   ·have:=hB x hx;omega
  ·unfold wY;rw[List.map_map];refine GJ ((List.Pairwise.filter _ h1).imp fun {a b} hab e=>hab ?_);exact congrArg (fun k=>k.2.2) e
  ·unfold D8;split <;> simp
  ·intro a ha b hb e;obtain⟨x,hx,rfl⟩:=cB.1 ha;obtain⟨y,hy,rfl⟩:=cB.1 hb;have e2:x.2.1=y.2.1:=congrArg (fun k=>k.2.1) e;have:=hS x hx;have:=hB y hy;omega
  ·intro a ha b hb e;obtain⟨x,hx,rfl⟩:=cB.1 ha;have h3:=hV x hx;rw[←dL]at hb;obtain⟨y,hy,rfl⟩:=cB.1 hb;have e1:x.1=y.1:=congrArg (fun k=>k.1) e;have e2:x.2.1=y.2.1:=congrArg (fun k=>k.2.1) e;rcases bH.1 hy with hy|hy
   ·have:=hS y hy;omega
   ·have:=hB y hy;omega
theorem GK (f:Nat) (ds:List (jD f)):∀x∈tH f ds,0≤x.2.2.2:=fun x hx=>by
 rcases bQ.1 hx with rfl|hx
 ·decide
 ·obtain⟨j,_,hx⟩:=yD hx;exact(DT _ _ _ _ hx).2.2.1
theorem aKM (f:Nat) (ds:List (jD f)) (h:∀d∈ds,YR f d):((tH f ds).map YA).Nodup:=by
 unfold tH;rw[aS,iT];refine⟨fun hm=>?_,O8 (a2T f) _ _ fun s hs=>?_⟩
 ·obtain⟨x,hx,e⟩:=cB.1 hm;obtain⟨j,_,hx⟩:=yD hx;have h1:=DT _ _ _ _ hx;have e1:x.1=1:=congrArg (fun k=>k.1) e;omega
 ·obtain⟨d,hd,rfl⟩:=cB.1 hs;exact h d hd
theorem F5 (f:Nat) (ds:List (jD f)) (h:∀d∈ds,YR f d):((jV f ds).map BP).Nodup:=by
 rw[(vO f ds).1,UZ];exact aKM f ds h
theorem BZ (f:Nat) (ds:List (jD f)):(jV f ds).Pairwise Ahead:=by
 rw[(vO f ds).1];exact PS _ _ (fP _) (GK f ds)
theorem F6 {f:Nat} {ds:List (jD f)} (h:∀d∈ds,YR f d) {x:DN} (hx:x∈tH f ds):∃s∈jV f ds,BP s=YA x∧s.2.2.2.2=x.2.2.2∧s.2.2.2.1=oG (jV f ds) x.1 x.2.1 x.2.2.1∧(jV f ds).any (atP x.1 x.2.1 x.2.2.1)=true∧0≤s.2.2.2.1∧s.2.2.2.1 % 2=0∧s.2.2.2.1+x.2.2.2≤lS (jV f ds):=by
 have he:=vO f ds;obtain⟨s,h1,h2,h3⟩:=YB (tH f ds) 0 x hx;have h4:=ET (tH f ds) 0 (fP _) (GK f ds) s h1;rw[←he.1]at h1;rw[←he.2]at h4;have h5:=aHE (F5 f ds h) h1;have e1:s.1=x.1:=congrArg (fun k=>k.1) h2;have e2:s.2.1=x.2.1:=congrArg (fun k=>k.2.1) h2;have e3:s.2.2.1=x.2.2.1:=congrArg (fun k=>k.2.2) h2;rw[e1,e2,e3]at h5;exact⟨s,h1,h2,h3,h5.2.symm,h5.1,h4.1,h4.2.1,by rw[←h3];exact h4.2.2.2⟩
theorem aX9 {f:Nat} {ds:List (jD f)} (h:∀d∈ds,YR f d) {a b c:Int} {m:Int} (hx:((a,b,c,m):DN)∈tH f ds) {n k:Nat} (hn:lS (jV f ds)≤n) (hk:(k:Int)≤m):Fits (jV f ds) n a b c k:=by
 obtain⟨s,h1,h2,h3,h4,h5,h6,h7,h8⟩:=F6 h hx;simp only at h4 h5 h8;refine⟨h5,by rw[←h4];exact h6,?_⟩;rw[←h4];omega
