import Derived.Test.YtceclmpmpldmlaaGreatCw09
set_option linter.unusedSimpArgs false
set_option linter.unusedVariables false
namespace Tt
open Go Go.RowKit
theorem rU {P:Program} {fn:Func} {p u v:Tmp} {ty:TypeId} (h:fn.results=#[.cell p ty,.tmp u,.tmp v]) (tmps:Array Value) (w:World) (g:Nat) (t:TypeId) (cs:Array Value) (d:TypeDesc)
  (hp:tmps.getD p undef= .pointer (some ⟨g,0,none⟩)) (hg:kG w g t cs)
  (hu:P.underlying ty=some d) (hd:(match d with| .struct _| .array _ _=>true|_=>false)=true) (hi:(P.info? ty).map (·.size)=some cs.size):
  (results fn tmps).run P w= .ok (.tuple #[.agg cs,tmps.getD u undef,tmps.getD v undef]) w:=by
 have e:(results fn tmps).run P w=((asAddr (tmps.getD p undef)).run P w).andThen fun a w₁=>((loadVar ty a).run P w₁).andThen fun x w₂=> .ok (.tuple #[x,tmps.getD u undef,tmps.getD v undef]) w₂:=by
  simp only[results,h];simp[gZ,Result.andThen]
 rw[e,hp];simp[asAddr,Result.andThen,run_loadVar_row w g t ty cs (0,0) d hg hu hd hi]
theorem kG.sP {w:World} {g:Nat} {T:TypeId} {cs:Array Value} (h:kG w g T cs) {i:Nat} {v:Value} (hv:cs[i]? =some v):w.setCell ⟨g,i,none⟩ v=w:=by
 have e:(w.setCell ⟨g,i,none⟩ v).heap=w.heap:=by
  apply Array.ext_getElem?;intro k;simp only[World.setCell,iD];by_cases hk:g=k
  ·subst hk;rw[if_pos rfl,h];have hi:=(dA.1 hv).1;have:cs.setIfInBounds i v=cs:=by
    apply Array.ext_getElem?;intro j;by_cases hj:i=j
    ·subst hj;rw[Array.getElem?_setIfInBounds_self_of_lt hi,hv]
    ·rw[dZ hj]
   simp[this]
  ·rw[if_neg hk]
 cases w
 simp only[World.setCell]at e ⊢;rw[e]
theorem kG.ZR {w:World} {g:Nat} {T:TypeId} {x y z:Value} (h:kG w g T #[x,y,z]):((w.setCell ⟨g,0,none⟩ x).setCell ⟨g,1,none⟩ y).setCell ⟨g,2,none⟩ z=w:=by
 rw[h.sP rfl,h.sP rfl,h.sP rfl]
end Tt
namespace Go.Proofs.YtceclmpmpldmlaaGreat
open Go.RowKit Tt
def aB6 (l:List Int):Bool:= !l.any (fun x=>x != 0)
def inS (x:oJ) (o:Int):Option (List Int×Bool):=
 if(mH x.2.2.2 4 o&&aIZ x.2.1 x.2.2.1)=true then(ofS x.2.1 x.2.2.1 (lQ x.2.2.2 4 o) o).map (fun d=>(d,aB6 ((lQ x.2.2.2 4 o).drop d.length)))else none
theorem aTD {n o:Int} (h:mH n 4 o=true):(lQ n 4 o).length=4:=by
 unfold lQ;rw[if_pos h];split <;> simp[RS]
theorem BI (n s o:Int):pF (lQ n s o):=by
 unfold lQ;split
 ·split
  ·exact aAU _ _
  ·intro x hx;exact aAU _ _ _ (List.mem_reverse.1 hx)
 ·intro x hx;cases hx
abbrev bCB (w:World) (ty cnt:Int) (R:Option (List Int×Bool)) (e:Ending) (w':World):Prop:=
 ∃ty' cnt' a2 m c2 cl,e= .returned (.tuple #[.agg #[.int .i64 ty',.int .i64 cnt',.slice a2 m c2],.bool cl,.bool R.isSome])∧Below w.heap.size w w'∧
  ∀d,R=some d→ty'=ty∧cnt'=cnt∧cl=d.2∧w'.ownsRow w.heap.size 5 1 (.slice a2 m c2) m (ints .u8 d.1)
theorem aTE (x:Int) (w:World):Calls Tryz.prog 114 #[.int .u8 x] w fun e w'=>e= .returned (.bool (x != 0))∧Below w.heap.size w w':=by
 go_enter Tryz.func114,Tryz.ntmps114;go_wp2;go_ret;exact⟨rfl,bF _ _⟩
set_option maxRecDepth 20000 in
set_option maxHeartbeats 4000000 in
theorem aPA (x:oJ) (o:Int) (w:World):Calls Tryz.prog 51 #[aB3 x,.int .i64 o] w (bCB w x.2.1 x.2.2.1 (inS x o)):=by
 obtain⟨tg,ty,cnt,sl⟩:=x;unfold aB3;simp only;obtain⟨R,hR⟩:=aC (inS (tg,ty,cnt,sl) o);rw[hR];unfold inS at hR;simp only at hR;have HP:=fun W=>JV sl 4 o W;have HI:=fun W=>b2W ty cnt W;have GY:=aTD (n:=sl) (o:=o);have hpb:=BI sl 4 o;generalize mH sl 4 o=pk at*;obtain⟨il,hil⟩:=aC (aIZ ty cnt);rw[hil]at hR HI;have bUM:=aA hil;clear hil;generalize lQ sl 4 o=D at*;obtain⟨W,hW⟩:∃W,(w.alloc (.cells #[.int .i64 tg,.int .i64 ty,.int .i64 cnt,.int .i64 sl] 55)).alloc (.cells #[.int .i64 0,.int .i64 0,.slice none 0 0] 72)=W:=⟨_,rfl⟩;have bx:kG W w.heap.size 55 #[.int .i64 tg,.int .i64 ty,.int .i64 cnt,.int .i64 sl]:=by rw[←hW];exact(kG.new w _ _).alloc _
 have b0:kG W (w.heap.size+1) 72 #[.int .i64 0,.int .i64 0,.slice none 0 0]:=by rw[←hW];exact wZ _ _ (by simp)
 have hbW:Below w.heap.size w W:=by rw[←hW];exact((aD w _).alloc (by simp) _)
 have bIG:=b0.lt;have c3:=bx.cell (i:=3) rfl;obtain⟨HP',HI',a7Y,bUN,bx',b0',KI,qM⟩:=aP HP HI GY hpb bx b0 hbW hR;clear HP HI GY hpb bx b0 hbW hR;go_enter Tryz.func51,Tryz.ntmps51;go_upto_region 1 with fail
 try rw[hW]
 clear hW;go_wp2_with fail
 refine(HP'.o _).mono ?_;rintro e w1 ⟨a1,m1,c1,rfl,NM,kV⟩;obtain rfl:m1=D.length:=by have:=(Sl.kZ NM).1.p9;omega
 have bx1:=bx'.o.late kV;have b01:=b0'.o.late kV;have a4B:=KI.o.tm kV;have aIE:=b01.lt;have k1:=bx1.cell (i:=1) rfl;have k2:=bx1.cell (i:=2) rfl;have p0:=b01.cell (i:=0) rfl;have p1:=b01.cell (i:=1) rfl;have p2:=b01.cell (i:=2) rfl;have y0:=b01.frozen 0;have y1:=b01.frozen 1;have y2:=b01.frozen 2;clear kV c3;obtain⟨bx1',aE5,DC,aDT⟩:=aL bx1 b01 a4B NM;clear bx1 b01 a4B NM;cases pk
 ·obtain rfl:R=none:=by rw[←qM.o];rfl
  go_wp2_with fail
  refine bodyPost_ret (rU rfl _ _ (w.heap.size+1) 72 #[.int .i64 0,.int .i64 0,.slice none 0 0] _ rfl (aE5.o.D5 _ _ _) Tryz.underlying72 rfl aF) rfl ?_;exact⟨0,0,none,0,0,false,rfl,lT DC.o (eD _) _ _ _,fun d h=>by cases h⟩
 clear p0 p1 p2 y0 y1 y2;go_wp2_with fail
 refine(HI'.o _).mono ?_;rintro e w2 ⟨rfl,kP⟩;have bx2:=bx1'.o.late kP;have b02:=aE5.o.late kP;have rG:=DC.o.tm kP;have C9:=l6 aDT.o kP;have aS2:=b02.lt;clear k1 k2;have k1:=bx2.cell (i:=1) rfl;have k2:=bx2.cell (i:=2) rfl;have p0:=b02.cell (i:=0) rfl;have p1:=b02.cell (i:=1) rfl;have p2:=b02.cell (i:=2) rfl;have y0:=b02.frozen 0;have y1:=b02.frozen 1;have y2:=b02.frozen 2;clear kP;obtain⟨aB7,UZ,nD,KH⟩:=aL bx2 b02 rG C9;clear bx2 b02 rG C9;cases il
 ·obtain rfl:R=none:=by rw[←qM.o];rfl
  go_wp2_with fail
  refine bodyPost_ret (rU rfl _ _ (w.heap.size+1) 72 #[.int .i64 0,.int .i64 0,.slice none 0 0] _ rfl (UZ.o.D5 _ _ _) Tryz.underlying72 rfl aF) rfl ?_;exact⟨0,0,none,0,0,false,rfl,lT nD.o (eD _) _ _ _,fun d h=>by cases h⟩
 clear p0 p1 p2 y0 y1 y2;have OD:=qM.o;simp only[Bool.and_self,if_true]at OD;have HO:=aTA ty cnt a1 D.length c1 D o w2 (Sl.kZ KH.o).1 bUN.o;have hD4:=a7Y.o trivial;have hol:=fun d (h:ofS ty cnt D o=some d)=>aMP h;have xM:∀d,ofS ty cnt D o=some d→d.length≤4:=fun d h=>by
  have h1:=bUM.o;unfold aIZ G6 at h1;have h2:=aMP h;split at h1 <;> simp at h1 <;> omega
 generalize ofS ty cnt D o=S at*;obtain⟨HO',BJ,bUO,aAF,aTF⟩:=aM HO OD hol xM hD4;clear HO OD hol xM hD4;go_wp2_with fail
 refine HO'.o.mono ?_;rintro e w3 ⟨ty',cnt',a3,m3,c3,rfl,kT,hd3⟩;have b03:=UZ.o.late kT;have D6:=nD.o.tm kT;have ho3:=l6 KH.o kT;have bIH:=b03.lt;clear k1 k2;have p0:=b03.cell (i:=0) rfl;have p1:=b03.cell (i:=1) rfl;have p2:=b03.cell (i:=2) rfl;have y0:=b03.frozen 0;have y1:=b03.frozen 1;have y2:=b03.frozen 2;clear kT;obtain⟨aB4,wT,KX,b2X⟩:=aL b03 D6 ho3 hd3;clear b03 D6 ho3 hd3;go_upto_region 5 with fail
 have b04:=aB4.o.D5 (.int .i64 ty') (.int .i64 cnt') (.slice a3 m3 c3);have y8:=lT wT.o (eD w.heap.size) (.int .i64 ty') (.int .i64 cnt') (.slice a3 m3 c3);have Z9:=mV KX.o ((((But.refl (w.heap.size+1) w3).set 0 (.int .i64 ty')).set 1 (.int .i64 cnt')).set 2 (.slice a3 m3 c3)) (fun hx=>by have:=(KX.o.lt _ hx).1;omega);have hd4:=fun d h=>(b2X.o d h).2.2;have hd5:=fun d h=>mV (hd4 d h) ((((But.refl (w.heap.size+1) w3).set 0 (.int .i64 ty')).set 1 (.int .i64 cnt')).set 2 (.slice a3 m3 c3)) (fun hx=>by have:=((hd4 d h).lt _ hx).1;omega);have hd6:=fun d h=>(⟨(b2X.o d h).1,(b2X.o d h).2.1,hd5 d h⟩:_∧_∧_);clear hd4 hd5 p0 p1 p2 y0 y1 y2 b2X;generalize ((w3.setCell ⟨w.heap.size+1,0,none⟩ (.int .i64 ty')).setCell ⟨w.heap.size+1,1,none⟩ (.int .i64 cnt')).setCell ⟨w.heap.size+1,2,none⟩ (.slice a3 m3 c3)=w4 at*;have p0:=b04.cell (i:=0) rfl;have p1:=b04.cell (i:=1) rfl;have p2:=b04.cell (i:=2) rfl;have y0:=b04.frozen 0;have y1:=b04.frozen 1;have y2:=b04.frozen 2;clear aB4 wT KX;have bCC:=b04.lt;obtain⟨a1U,mP,aB1,WV⟩:=aL b04 y8 Z9 hd6;clear b04 y8 Z9 hd6;cases S with
 |none=>
  obtain rfl:R=none:=by rw[←BJ.o];rfl
  simp only[Option.isSome_none]at*;go_wp2_with fail
  refine bodyPost_ret (rU rfl _ _ (w.heap.size+1) 72 #[.int .i64 0,.int .i64 0,.slice none 0 0] _ rfl (a1U.o.D5 _ _ _) Tryz.underlying72 rfl aF) rfl ?_;exact⟨0,0,none,0,0,false,rfl,lT mP.o (eD _) _ _ _,fun d h=>by cases h⟩
 |some d=>
  obtain⟨rfl,rfl,hod⟩:=WV.o d rfl;have hRd:R=some (d,aB6 (D.drop d.length)):=by rw[←BJ.o];rfl
  subst hRd;have RU:=(Sl.kZ hod).1.p9;have wG:=bUO.o d rfl;obtain rfl:m3=d.length:=by omega
  have bTH:=aAF.o d rfl;simp only[Option.isSome_some]at*;go_upto_region 8 with fail
  clear p0 p1 p2 y0 y1 y2 RU;obtain⟨Ty,f,pQ,kI,kE⟩:=kM w4;have q0:=fun s=>(kG.late a1U.o (kI s)).cell (i:=0) rfl;have q1:=fun s=>(kG.late a1U.o (kI s)).cell (i:=1) rfl;have q2:=fun s=>(kG.late a1U.o (kI s)).cell (i:=2) rfl;obtain⟨HS,HD⟩:=aJ (kE _ ((bF _ _).drew)) ((bF w4.heap.size w4).drew);have c4F:=(Sl.kZ aB1.o).1.le;have hD4:=aTF.o;obtain⟨a7,qU,hs7,EY⟩:=aMF (P:=Tryz.prog) (T:=24) (E:=5) (sz:=1) Tryz.underlying24 (fun W=>by kernel_rfl) (Sl.kZ aB1.o).1 (d.length:Int) aG aG (D.length - d.length) (c1 - d.length) aG aG;rw[iH,cB,show(ints .u8 D).drop d.length=ints .u8 (D.drop d.length) by simp[ints]]at hs7;have HC:=fun W (h:Below w4.heap.size w4 W)=>aT9 114 rfl a7 (D.length - d.length) (c1 - d.length) (D.drop d.length) (fun x=>x != 0) W (hs7.mono h) (fun W2 x _=>aTE x W2);have hz:aB6 (D.drop d.length)= !(D.drop d.length).any (fun x=>x != 0):=rfl;generalize (D.drop d.length).any (fun x=>x != 0)=r at*;clear wG bTH;obtain⟨kD,jV,bUP,PE,WO,aTF,PG⟩:=aO kI kE hs7 EY HC hD4 hod;clear kI kE hs7 EY HC hD4 hod;go_wp2_with fail
  refine kR (S:=fun W=>∃s,W=f s) aF 12 rfl ?_;refine jZ [0,1,2,3,4,5,6] 5 aF aI aF aF aF HS.o ?_;simp only[jW,aW,aX,aU,aV];iterate 7 (go_big_quiet_step (fail))
  refine wpQuiet_nil ?_;refine jX 7 4 aF aF ?_;simp only[jW,aW,aX,aU,aV];go_wp2_with fail
  refine(WO.o _ HD.o).mono ?_;rintro e w5 ⟨rfl,nV⟩;have BK:=HD.o.tm nV;have HS:=aA (jV.o _ BK);have b05:=a1U.o.late BK;have zA:=mP.o.tm BK;have bJT:=l6 PG.o BK;have p0:=b05.cell (i:=0) rfl;have p1:=b05.cell (i:=1) rfl;have p2:=b05.cell (i:=2) rfl;have y0:=b05.frozen 0;have y1:=b05.frozen 1;have y2:=b05.frozen 2;clear nV;obtain⟨aB5,pJ,bJU,IJ⟩:=aL b05 zA bJT BK;clear b05 zA bJT BK;go_wp2_with fail
  first|refine Mid.mk ⟨HS.o,?_⟩|refine Mid.mk ?_
  refine jZ [8] 3 aF aI aF aF aF HS.o ?_;simp only[jW,aW,aX,aU,aV];iterate 1 (go_big_quiet_step (fail))
  refine wpQuiet_nil ?_;refine jX 9 2 aF aF ?_;simp only[jW,aW,aX,aU,aV];clear q0 q1 q2;go_wp2_with fail
  first|rw[aB5.o.ZR]|skip
  first|refine Mid.mk ⟨HS.o,?_⟩|refine Mid.mk ?_
  have q0:=fun s=>(kG.late a1U.o (kD.o s)).cell (i:=0) rfl;refine jZ [10,11] 0 aF aI aF aF aF HS.o ?_;simp only[jW,aW,aX,aU,aV];iterate 2 (go_big_quiet_step (fail))
  refine wpQuiet_nil ?_;refine kH aF ?_;go_wp2_with fail
  refine bodyPost_ret (rU rfl _ _ (w.heap.size+1) 72 #[.int .i64 ty',.int .i64 cnt',.slice a3 d.length c3] _ rfl aB5.o Tryz.underlying72 rfl aF) rfl ?_;exact⟨ty',cnt',a3,d.length,c3,!r,rfl,pJ.o,fun d' h=>by
   obtain rfl:_=d':=by simpa using h
   exact⟨rfl,rfl,hz.symm,lN bJU.o nD.o.size⟩⟩
abbrev nP:=List Lk×Int×Int×Int
abbrev kQ:nP:=([],0,0,0)
def DY (x:Int):Bool:=decide (0≤x)&&decide (x<65536)
def NN (n i:Nat) (x:Int):Bool:=decide ((i:Int)<x)&&decide (x<n)
def tQ (n i:Nat) (s:nP) (k:Nat):Bool:=
 DY (s.1.getD k (0,0)).1&&(decide (k=0)||decide ((s.1.getD (k - 1) (0,0)).1<(s.1.getD k (0,0)).1))&&NN n i (s.1.getD k (0,0)).2&& !(decide (0<s.2.1)&&(decide ((s.1.getD k (0,0)).1=s.2.1)||decide ((s.1.getD k (0,0)).1=s.2.2.1)))
def a4C (n i:Nat) (s:nP):Bool:=decide (s.2.2.2= -1)||NN n i s.2.2.2
def a9D (s:nP):Bool:=(decide (s.2.1=0)&&decide (s.2.2.1=0))||(decide (1≤s.2.1)&&decide (s.2.1<s.2.2.1)&&DY s.2.2.1)
def mR (n i:Nat) (s:nP):Bool:=(List.range s.1.length).all (tQ n i s)&&a4C n i s&&a9D s
def mW (l:List nP):Bool:=decide (1≤l.length)&&decide (l.length≤16)&&(List.range l.length).all (fun i=>mR l.length i (l.getD i kQ))
abbrev Shz:=(Option Addr×Nat×Nat)×nP
abbrev BL:Shz:=((none,0,0),kQ)
def shc (z:Shz):List Value:= [.slice z.1.1 z.1.2.1 z.1.2.2,.int .i64 z.2.2.1,.int .i64 z.2.2.2.1,.int .i64 z.2.2.2.2]
theorem zQ (z:Shz):(shc z).length=4:=rfl
structure ShR (W:World) (a:Option Addr) (n c:Nat) (zs:List Shz):Prop where
 row:Sl W a n c 4 (fl shc zs)
 each:∀z∈zs,Sl W z.1.1 z.1.2.1 z.1.2.2 2 (fl lkc z.2.1)
theorem ShR.len {W:World} {a:Option Addr} {n c:Nat} {zs:List Shz} (h:ShR W a n c zs):zs.length=n:=h.row.xZ zQ aH
theorem ShR.mono {W W':World} {a:Option Addr} {n c:Nat} {zs:List Shz} (h:ShR W a n c zs) (hb:Below W.heap.size W W'):ShR W' a n c zs:=⟨h.row.mono hb,fun z hz=>(h.each z hz).mono hb⟩
theorem ShR.at {W:World} {a:Option Addr} {n c:Nat} {zs:List Shz} (h:ShR W a n c zs) {i:Nat} (hi:i<n):
  Sl W (zs.getD i BL).1.1 (zs.getD i BL).1.2.1 (zs.getD i BL).1.2.2 2 (fl lkc (zs.getD i BL).2.1):=
 h.each _ (by rw[kF (by rw[h.len];exact hi)];exact bP _)
def kK (zs:List Shz):List nP:=zs.map (·.2)
theorem y9 {zs:List Shz} {i:Nat} (hi:i<zs.length):(kK zs).getD i kQ=(zs.getD i BL).2:=by
 rw[kF (by simpa [kK] using hi),kF hi];simp[kK]
theorem aMR (x:Int) (w:World):Calls Tryz.prog 105 #[.int .i64 x] w fun e w'=>e= .returned (.bool (DY x))∧Below w.heap.size w w':=by
 have hP:=fun W=>JV x 2 2 W;have hk:mH x 2 2=DY x:=by unfold mH DY wS;simp
 rw[hk]at hP;generalize DY x=b at*;have hP':=aA hP;clear hP;go_enter Tryz.func105,Tryz.ntmps105;go_wp2_with fail
 refine(hP'.o _).mono ?_;rintro e w1 ⟨a1,m1,c1,rfl,NM,kV⟩;clear NM;have lZ:=aA kV;clear kV;go_wp2_with fail
 go_ret;exact⟨rfl,lZ.o⟩
theorem aPB (a:Option Addr) (n c i:Nat) (x:Int) (w:World):Calls Tryz.prog 106 #[.slice a n c,.int .i64 i,.int .i64 x] w fun e w'=>e= .returned (.bool (NN n i x))∧w=w':=by
 unfold NN;by_cases h:(i:Int)<x
 ·simp only[h,decide_true,dL];go_enter Tryz.func106,Tryz.ntmps106;go_wp2;go_ret;exact⟨rfl,rfl⟩
 ·simp only[h,decide_false,jN];go_enter Tryz.func106,Tryz.ntmps106;go_wp2;go_ret;exact⟨rfl,rfl⟩
abbrev oZ:=Int×Int×Int×List Int
abbrev mZ:=Int×Int×Int×Int×Int
structure St where
 o5:List mZ
 no:Int
 xH:Int
def ZT (k:Int) (x:mZ):Bool:=decide (x.2.2.2.1≤k)&&decide (k<x.2.2.2.1+x.2.2.2.2)
def nH (s:St) (k:Int):Bool:=s.o5.any (ZT k)
def WW (s:St) (at_:Int) (long:Nat):Bool:=(List.range long).all fun i=> !nH s (at_+i)
def WX (n:Nat) (x:mZ):Bool:=decide (x.2.2.2.1 % 2=0)&&zZ x.2.2.2.1 x.2.2.2.2 n
def oG (n:Nat) (x:mZ) (s:St):Except Int St:=
 if WX n x=true then if WW s x.2.2.2.1 x.2.2.2.2.toNat=true then .ok {s with o5:=s.o5++ [x]}else .error 5 else .error 4
def BM (z:List Int) (o p:Int) (k:Nat):List oJ:=(List.range k).map fun(i:Nat)=>WT z o (p+2+12*(i:Int))
def IK:List oJ→Bool
 |x::y::r=>decide (x.1<y.1)&&IK (y::r)
 |_=>true
def nU (z:List Int) (o p no:Int) (s:St):Except Int (List oJ×St):=
 if(decide (p % 2=0)&&zZ p 2 z.length)=true then
  if 0<mM z p 2 o then
   match oG z.length (2,no,0,p,6+12*mM z p 2 o) s with
   | .error e=> .error e
   | .ok s'=>if IK (BM z o p (mM z p 2 o).toNat)=true then .ok (BM z o p (mM z p 2 o).toNat,s')else .error 2
  else .error 2
 else .error 4
def rY (z:List Int) (o:Int) (x:oJ) (no:Int) (s:St):Except Int (oZ×St):=
 if 0<(lI x.2.1).1∧1≤x.2.2.1∧x.2.2.1≤65536 then
  if 0<rT x.2.1 x.2.2.1 then
   match oG z.length (3,no,x.1,x.2.2.2,rT x.2.1 x.2.2.1) s with
   | .error e=> .error e
   | .ok s'=>match ofS x.2.1 x.2.2.1 (z.drop x.2.2.2.toNat) o with
    |none=> .error 6
    |some d=> .ok ((x.1,x.2.1,x.2.2.1,d),s')
  else match inS x o with
   |none=> .error 6
   |some d=> .ok ((x.1,x.2.1,x.2.2.1,d.1),{s with xH:=if d.2=true then s.xH else IntKind.i64.wrap (s.xH+1)})
 else .error 6
def nQ (s:nP) (t:Int):Bool:=s.1.any fun y=>y.1==t
def yT (s:nP) (t:Int):Bool:=decide (0<s.2.1)&&(decide (t=s.2.1)||decide (t=s.2.2.1))
def xI (s:nP) (t:Int):Bool:=nQ s t||yT s t
def stepT (z:List Int) (o:Int) (sh:nP) (no:Int) (acc:List oZ×St) (x:oJ):Except Int (List oZ×St):=
 if xI sh x.1=true then(if x.2.1=4∧x.2.2.1=1 then .ok acc else .error 6)
 else match rY z o x no acc.2 with
  | .error e=> .error e
  | .ok (v,s')=> .ok (acc.1++ [v],s')
def jY:Nat→Type
 |0=>Unit
 |f+1=>List oZ×List (Int×jY f)×List Int
def vF {f:Nat} (rec:Int→Int→St→Except Int ((jY f×Int)×St)) (sh:nP) (acc:List (Int×jY f)×St) (x:oJ):Except Int (List (Int×jY f)×St):=
 if nQ sh x.1=true then
  match rec x.2.2.2 (sh.1.getD (fst (fun y=>y.1==x.1) sh.1).toNat (0,0)).2 acc.2 with
  | .error e=> .error e
  | .ok ((d,next),s')=>if next=0 then .ok (acc.1++ [(x.1,d)],s')else .error 2
 else .ok acc
def loopS {α σ:Type} (step:σ→α→Except Int σ):List α→σ→Except Int σ
 | [],s=> .ok s
 |x::r,s=>match step s x with
  | .error e=> .error e
  | .ok s'=>loopS step r s'
def zB (z:List Int) (sh:nP) (l:List oJ) (no:Int) (s:St):Except Int (List Int×St):=
 match l.filter (fun x=> !nQ sh x.1&&yT sh x.1)with
 | [x,y]=>if 0<y.2.2.2 then
   match oG z.length (4,no,0,x.2.2.2,y.2.2.2) s with
   | .error e=> .error e
   | .ok s'=> .ok ((z.drop x.2.2.2.toNat).take y.2.2.2.toNat,s')
  else .error 6
 |_=> .ok ([],s)
def rV (z:List Int) (o:Int) (L:List nP):(f:Nat)→Int→Int→St→Except Int ((jY f×Int)×St)
 |0,_,_,_=> .error 2
 |f+1,p,sh,s=>
  match nU z o p s.no {s with no:=IntKind.i64.wrap (s.no+1)}with
  | .error e=> .error e
  | .ok (l,s1)=>
   match loopS (stepT z o (L.getD sh.toNat kQ) s.no) l ([],s1)with
   | .error e=> .error e
   | .ok (tags,s2)=>
    if(l.filter (fun x=> !nQ (L.getD sh.toNat kQ) x.1&&yT (L.getD sh.toNat kQ) x.1)).length=1 then .error 6 else
    match loopS (vF (rV z o L f) (L.getD sh.toNat kQ)) l ([],s2)with
    | .error e=> .error e
    | .ok (subs,s3)=>
     match zB z (L.getD sh.toNat kQ) l s.no s3 with
     | .error e=> .error e
     | .ok (blob,s4)=> .ok (((tags,subs,blob),mM z (p+2+12*l.length) 4 o),s4)
def mI (z:List Int):Int:=if z.getD 0 0=73∧z.getD 1 0=73 then 1 else if z.getD 0 0=77∧z.getD 1 0=77 then 2 else 0
def EZ (z:List Int):Except Int St:=
 if 8≤z.length then
  if 0<mI z∧mM z 2 2 (mI z)=42 then oG z.length (1, -1,0,0,8) ⟨[],0,0⟩else .error 2
 else .error 3
def PI (z:List Int) (o:Int) (L:List nP):Nat→List (jY 16)→Int→Int→St→Except Int (List (jY 16)×St)
 |0,_,_,_,_=> .error 2
 |f+1,acc,p,sh,s=>
  if 0<p∨acc.length=0 then
   if 0≤sh then
    match rV z o L 16 p sh s with
    | .error e=> .error e
    | .ok ((d,next),s')=>PI z o L f (acc++ [d]) next (L.getD sh.toNat kQ).2.2.2 s'
   else .error 2
  else .ok (acc,s)
def sQ (z:List Int) (L:List nP):Except Int (List (jY 16)×St):=
 if mW L=true then
  match EZ z with
  | .error e=> .error e
  | .ok s=>PI z (mI z) L 18 [] (mM z 4 4 (mI z)) 0 s
 else .error 1
def aTG (r:Except Int (List (jY 16)×St)):Int:=match r with| .error e=>e| .ok _=>0
def DZ (z:List Int) (L:List nP):Bool:=match sQ z L with
 | .error _=>false
 | .ok (_,s)=>decide (s.xH≤0)&&(List.range z.length).all fun k=>decide (z.getD k 0=0)||nH s k
def ofL (l:List Int):List Int:= [73,73,42,0,8,0,0,0]++l
def aE6:List nP:= [([],0,0, -1)]
theorem ex3:aTG (sQ (ofL [1,0,0,1,5,0,1,0,0,0,8,0,0,0,0,0,0,0]) aE6)=5:=by decide+kernel
theorem ex4:aTG (sQ (ofL [1,0,0,1,5,0,1,0,0,0,9,0,0,0,0,0,0,0]) aE6)=4:=by decide+kernel
theorem ex5:aTG (sQ (ofL [1,0,0,1,5,0,1,0,0,0,232,3,0,0,0,0,0,0]) aE6)=4:=by decide+kernel
theorem ex6:aTG (sQ (ofL [1,0,0,1,2,0,2,0,0,0,97,98,0,0,0,0,0,0]) aE6)=6:=by decide+kernel
theorem ex7:aTG (sQ [] aE6)=3:=by decide+kernel
abbrev Flt:=List oZ×Nat×List Int
def pU (t s b:Nat):Nat:=t+s+if 0<b then 2 else 0
def lD:(f:Nat)→jY f→List Flt
 |0,_=> []
 |f+1,d=>(d.1,d.2.1.length,d.2.2)::d.2.1.flatMap fun s=>lD f s.2
theorem pK (f:Nat) (d:jY (f+1)):lD (f+1) d=(d.1,d.2.1.length,d.2.2)::d.2.1.flatMap fun s=>lD f s.2:=rfl
def WA (x:oZ):Bool:=wH x.2.1 x.2.2.1 x.2.2.2
def okF (x:Flt):Bool:=decide (1≤pU x.1.length x.2.1 x.2.2.length)&&decide (pU x.1.length x.2.1 x.2.2.length≤65535)&&x.1.all WA
def qQ (n:Int):Int:=n+n % 2
def nI (l:List mZ):Int:=match l.getLast? with|none=>0|some x=>x.2.2.2.1+x.2.2.2.2
def oH (l:List mZ) (what no tag long:Int):List mZ:=l++ [(what,no,tag,qQ (nI l),long)]
def nK (no:Int) (ts:List oZ) (l:List mZ):List mZ:=ts.foldl (fun l x=>if 0<rT x.2.1 x.2.2.1 then oH l 3 no x.1 (rT x.2.1 x.2.2.1)else l) l
def yX:(f:Nat)→jY f→Int→List mZ→List mZ
 |0,_,_,l=>l
 |f+1,d,no,l=>
  let l1:=nK no d.1 (oH l 2 no 0 (6+12*(pU d.1.length d.2.1.length d.2.2.length:Nat)))
  let r:=d.2.1.foldl (fun(r:List mZ×Int) s=>(yX f s.2 r.2 r.1,r.2+(lD f s.2).length)) (l1,no+1)
  if 0<d.2.2.length then oH r.1 4 no 0 (d.2.2.length:Nat)else r.1
theorem PK (l:List mZ) (a b c e:Int):nI (oH l a b c e)=qQ (nI l)+e:=by simp[nI,oH]
theorem BN {n:Int} (h:0≤n):n≤qQ n∧qQ n≤n+1:=by unfold qQ;omega
theorem F5 (l:List mZ) (a b c e:Int):(oH l a b c e).length=l.length+1:=by simp[oH]
