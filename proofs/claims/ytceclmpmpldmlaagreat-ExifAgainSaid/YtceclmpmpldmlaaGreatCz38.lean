import Derived.Test.YtceclmpmpldmlaaGreatCz37
set_option linter.unusedSimpArgs false
set_option linter.unusedVariables false
namespace Go.Proofs.YtceclmpmpldmlaaGreat
open Go.RowKit Tt
theorem sK (X:Nat→Prop) (B:Nat) (w:World):kR X B w (.slice none 0 0) []:=⟨[],rfl,⟨kC _ _ _ _,fun k e=>by cases e⟩,fun z hz=>by cases hz⟩
theorem GY.zero (B:Nat) (w:World):GY B w exZ a6L:=⟨sK _ _ _,sK _ _ _,sK _ _ _,sK _ _ _,sK _ _ _,kC _ _ _ _,kC _ _ _ _⟩
theorem zS.subs {w:World} {f:Nat} {d:jD (f+1)} {a1 a2 a3:Option Addr} {n1 n2 n3 c1 c2 c3:Nat} (h:zS w (f+1) d (.slice a1 n1 c1,.slice a2 n2 c2,.slice a3 n3 c3)):
  ∃ds:List (Int×Dz),Sl w a2 n2 c2 4 (fl sbC ds)∧ds.length=d.2.1.length∧∀i (h:i<ds.length) (h':i<d.2.1.length),ds[i].1=d.2.1[i].1∧zS w f d.2.1[i].2 ds[i].2:=by
 obtain⟨ta,tn,tc,zs,sa,sn,sc,ds,ba,bn,bc,e,hT,hd,hs,hl,hr,_⟩:=h;injection e with e1 e2;injection e2 with e2 e3;injection e2 with e2 e4 e5;subst e2 e4 e5;exact⟨ds,hs,hl,hr⟩
theorem zS.blob {w:World} {f:Nat} {d:jD (f+1)} {a1 a2 a3:Option Addr} {n1 n2 n3 c1 c2 c3:Nat} (h:zS w (f+1) d (.slice a1 n1 c1,.slice a2 n2 c2,.slice a3 n3 c3)):Sl w a3 n3 c3 1 (ints .u8 d.2.2):=by
 obtain⟨ta,tn,tc,zs,sa,sn,sc,ds,ba,bn,bc,e,hT,hd,hs,hl,hr,hb⟩:=h;injection e with e1 e2;injection e2 with e2 e3;injection e3 with e3 e4 e5;subst e3 e4 e5;exact hb
theorem aYM (x:oN) (s:Int×jD 15):(IG x s).o=x.o:=by unfold IG;split <;> rfl
theorem b1J (o:Int) (ds:List (jD 16)) (k:Nat):(xkO o ds k).o=o:=by
 unfold xkO;generalize (pK ds).take k=l;have:∀(l:List (Int×jD 15)) (x:oN),(l.foldl IG x).o=x.o:=by
  intro l;induction l with
  |nil=>intro x;rfl
  |cons s r ih=>intro x;rw[iU,ih,aYM]
 rw[this];rfl
theorem aYN (x:oN) (s:Int×jD 15):(IG x s).f=x.f∧(IG x s).th=x.th:=by unfold IG;split <;> exact⟨rfl,rfl⟩
theorem bGC (o:Int) (ds:List (jD 16)) (k:Nat):(xkO o ds k).f= []∧(xkO o ds k).th= []:=by
 unfold xkO;generalize (pK ds).take k=l;have:∀(l:List (Int×jD 15)) (x:oN),(l.foldl IG x).f=x.f∧(l.foldl IG x).th=x.th:=by
  intro l;induction l with
  |nil=>intro x;exact⟨rfl,rfl⟩
  |cons s r ih=>intro x;rw[iU,(ih _).1,(ih _).2];exact aYN x s
 exact this l _
theorem aM8 {X:oN} {o:Int} {ds:List (jD 16)} (hl:ds.length=1) (hX:X.f= []∧X.th= []) (h:rY 16 o ds={X with f:=rX 16 (ds.getD 1 (jS 16)),th:=aB3 16 (ds.getD 1 (jS 16))}):rY 16 o ds=X:=by
 rw[h,aV,fZ (by omega)];obtain⟨x1,x2,x3,x4,x5,x6,x7,x8⟩:=X;obtain⟨rfl,rfl⟩:=hX;rfl
def NoB (ds:List (jD 16)) (j:Nat):Prop:=((pK ds).getD j (0,jS 15)).1=34853∨uS (nO (rX 15 ((pK ds).getD j (0,jS 15)).2) 37500)=false
set_option maxRecDepth 20000 in
set_option maxHeartbeats 16000000 in
theorem aM9 (o:Int) (da:Option Addr) (dn dc:Nat) (ds:List (jD 16)) (w:World) (h:DJ 16 w da dn dc ds) (hby:∀d∈ds,pU 16 d) (hsm:∀d∈ds,lC 16 d) (hN:(lX 16 ds).length<1000) (hsn:dn≤500):
  Calls Tryz.prog 34 #[.agg #[.int .i64 o,.slice da dn dc]] w fun e w'=>∃A,e= .returned (.tuple #[exV (ofE 16 o ds).o A,.int .i64 (ZP 16 o ds)])∧GY w.heap.size w' (ofE 16 o ds) A∧Below w.heap.size w w':=by
 have hCk:=fun W zs a (hb:Below w.heap.size w W) hsh=>YQ 16 o da dn dc ds a 5 5 zs W (h.mono hb) hsh hsm hby hN hsn;obtain⟨tF,hzl,hrow,aQV⟩:=h;have hdn:tF.length=dn:=hrow.uY qA (by decide);obtain⟨W,hW,bT,bR,hb,hsz⟩:=qZ w 39 #[.int .i64 o,.slice da dn dc] 61 #[.int .i64 0,.slice none 0 0,.slice none 0 0,.slice none 0 0,.slice none 0 0,.slice none 0 0,.slice none 0 0,.slice none 0 0];obtain⟨Ty,ff,hne,hbel,jH⟩:=jR W;have HD:=aA ((aW W.heap.size W).drew);have HS:=aA (jH W.drew HD.o);have k0:∀s,(ff s).cell? ⟨w.heap.size,0,none⟩=some (.int .i64 o):=fun s=>(bT.late (hbel s)).cell rfl;have k1:∀s,(ff s).cell? ⟨w.heap.size,1,none⟩=some (.slice da dn dc):=fun s=>(bT.late (hbel s)).cell rfl;obtain⟨aY0,mV,hrow',b1K,zT,hW',bT',bR',hb',hsz',jG,jA⟩:=aP hCk hzl hrow aQV hdn hW bT bR hb hsz hbel jH;have rZ:=aA hby;clear hCk hzl hrow aQV hdn hW bT bR hb hsz hbel jH hby;go_enter Tryz.func34,Tryz.ntmps34;go_upto_region 1 with fail
 rw[hW'.o];refine jU (S:=fun W=>∃s,W=ff s) (by kernel_rfl) 4 rfl ?_;obtain⟨wD,tQ⟩:∃X,W.drew=X:=⟨_,rfl⟩;rw[tQ]at HS HD ⊢;clear tQ;refine jF [0] 3 (by kernel_rfl) (fun d _ _ _ _ h=>by cases d <;> exact h) (by kernel_rfl) (by kernel_rfl) (by kernel_rfl) HS.o ?_;simp only[jB,aS,aT,aQ,aR];iterate 1 (go_big_quiet_step (fail))
 refine wpQuiet_nil ?_;refine jC 1 2 (by kernel_rfl) (by kernel_rfl) ?_;simp only[jB,aS,aT,aQ,aR];go_wp2_with fail
 refine(DW wD).mono ?_;rintro e w3 ⟨a3,zs3,rfl,hsh,hzs,hb3⟩;have EF:=hb'.o.trans ((HD.o.tm hb3).mono hb'.o.size);have AV:=HD.o.tm hb3;have HS:=aA (jA.o _ AV);have hC3:=aY0.o w3 zs3 a3 EF hsh;rw[hzs]at hC3;clear hsh hzs hb3;obtain⟨vZ,QX,aE2⟩:=aG EF AV hC3;clear EF AV hC3;go_wp2_with fail
 refine Mid.mk ⟨HS.o,?_⟩;refine jC 2 1 (by kernel_rfl) (by kernel_rfl) ?_;simp only[jB,aS,aT,aQ,aR];go_wp2_with fail
 refine aE2.o.mono ?_;rintro e w4 ⟨rfl,hb4⟩;have VZ:=QX.o.tm hb4;have JJ:=hb'.o.tm VZ;have HS:=aA (jA.o _ VZ);have bT4:=bT'.o.late VZ;have bR4:=bR'.o.late VZ;clear hb4;obtain⟨YG,oP,aYO,KL⟩:=aH VZ JJ bT4 bR4;clear VZ JJ bT4 bR4;go_wp2_with fail
 refine Mid.mk ⟨HS.o,?_⟩;refine jC 3 0 (by kernel_rfl) (by kernel_rfl) ?_;simp only[jB,aS,aT,aQ,aR];go_wp2_with fail
 refine Mid.mk ⟨HS.o,?_⟩;refine jK (by kernel_rfl) ?_;clear k0 k1 HS HD hne jG jA YG QX vZ aE2 bT' bR' hb';by_cases hck:mJ 16 o ds qW=0
 case neg=>
  have e1:(mJ 16 o ds qW != 0)=true:=by simpa using hck
  have hc:=aYK hck;have hc':=aA hc;clear hc;clear hck;go_wp2_with (refine wpList_store_row rfl 61 (.tmp 2) (.tmp 13) rfl (w.heap.size+1) #[.int .i64 0,.slice none 0 0,.slice none 0 0,.slice none 0 0,.slice none 0 0,.slice none 0 0,.slice none 0 0,.slice none 0 0] rfl rfl 61 _ KL.o (by kernel_rfl) rfl (by kernel_rfl) ?_)
  refine bodyPost_ret (jL rfl _ _ (w.heap.size+1) 61 #[.int .i64 0,.slice none 0 0,.slice none 0 0,.slice none 0 0,.slice none 0 0,.slice none 0 0,.slice none 0 0,.slice none 0 0] _ rfl (KL.o.row _) Tryz.underlying61 rfl (by kernel_rfl)) rfl ?_;refine⟨a6L,?_,?_,jP oP.o (dV _ 1) _⟩
  ·rw[hc'.o.2,hc'.o.1];rfl
  ·rw[hc'.o.2];exact GY.zero _ _
 case pos=>
  have hk:=aSC hck;have e1:(mJ 16 o ds qW != 0)=false:=by rw[hck];rfl
  have hd1:1≤dn:=by have:=hk.len;have:=mV.o;have:=zT.o;omega
  have aMA:=b1K.o 0 (by have:=zT.o;omega) (by have:=hk.len;omega);obtain⟨za,zn,zc,sa,sn,sc,ba,bn,bc,hv⟩:=aMA.v;have hz0:tF.getD 0 dzz=tF[0]'(by have:=zT.o;omega):=jI _ _;have hds0:ds.getD 0 (jS 16)=ds[0]'(by have:=hk.len;omega):=jI _ _;rw[hv]at aMA hz0;rw[←hds0]at aMA;have hrz:=aMA.row;have hlz:=RX hk.h0;have hdz:=KX hk.h0;have hk0:=hk.h0;have hsO:(ds.getD 0 (jS 16)).2.1=pK ds:=rfl;have bGD:rX 16 (ds.getD 0 (jS 16))=(ds.getD 0 (jS 16)).1:=rfl;obtain⟨b0,o0,rfl,hb0,fe⟩:=(hrow'.o.mono oP.o).elem qA (by decide) dzz (show 0<dn by omega);have fe1:=fe;rw[hz0]at fe;obtain⟨Ty,ff,hne,hbel,jH⟩:=jR w4;have HD:=aA ((aW w4.heap.size w4).drew);have HS:=aA (jH w4.drew HD.o);have x0:=fe 0 _ rfl;have x1:=fe 1 _ rfl;simp only[fJ,cK]at x0 x1;have k0:∀s,(ff s).cell? ⟨w.heap.size,0,none⟩=some (.int .i64 o):=fun s=>(aYO.o.late (hbel s)).cell rfl;have k1:∀s,(ff s).cell? ⟨w.heap.size,1,none⟩=some (.slice (some ⟨b0,o0,none⟩) dn dc):=fun s=>(aYO.o.late (hbel s)).cell rfl;have k2:∀s,(ff s).cell? ⟨b0,o0,none⟩=some (.slice za zn zc):=fun s=>late (hbel s) hb0 x0;have bVB:(0:Int)<dn:=by omega
  have bVC:dn≤9223372036854775807:=bK hrow'.o.le hrow'.o.max;have hOz:=fun W (hb:Below w.heap.size w W)=>vJ za zn zc (ds.getD 0 (jS 16)).1 W (hrz.mono hb) (by have:=hrz.len;omega) hdz;clear fe fe1 x0 hdz hlz hk0 hv hds0;obtain⟨a1R,hk',b1L,bVD,hz0',hsO',bSS,oU,x1',jG,jA,aY1⟩:=aP hck hk aMA hrz hz0 hsO bGD hb0 x1 hbel jH hOz;clear hck hk aMA hrz hz0 hsO bGD hb0 x1 hbel jH hOz;go_upto_region 3 with fail
  refine jU (S:=fun W=>∃s,W=ff s) (by kernel_rfl) 12 rfl ?_;obtain⟨wD,tQ⟩:∃X,w4.drew=X:=⟨_,rfl⟩;rw[tQ]at HS HD ⊢;clear tQ;refine jF [0,1,2,3,4,5,6] 5 (by kernel_rfl) (fun d _ _ _ _ h=>by cases d <;> exact h) (by kernel_rfl) (by kernel_rfl) (by kernel_rfl) HS.o ?_;simp only[jB,aS,aT,aQ,aR];iterate 7 (go_big_quiet_step (fail))
  refine wpQuiet_nil ?_;refine jC 7 4 (by kernel_rfl) (by kernel_rfl) ?_;simp only[jB,aS,aT,aQ,aR];go_wp2_with fail
  refine(aY1.o wD (oP.o.tm HD.o)).mono ?_;rintro e w5 ⟨a5,c5,rfl,hT5,hb5⟩;have wQ:=HD.o.tm hb5;have aSU:=hT5.mono (bK oP.o.size HD.o.size);have HS:=aA (jA.o _ wQ);clear hT5 hb5;have hT5:=aSU;clear aSU;obtain⟨BN,aSU⟩:=aF wQ hT5;clear wQ hT5;go_wp2_with fail
  refine Mid.mk ⟨HS.o,?_⟩;refine jF [8,9] 2 (by kernel_rfl) (fun d _ _ _ _ h=>by cases d <;> exact h) (by kernel_rfl) (by kernel_rfl) (by kernel_rfl) HS.o ?_;simp only[jB,aS,aT,aQ,aR];iterate 2 (go_big_quiet_step (fail))
  refine wpQuiet_nil ?_;refine jC 10 1 (by kernel_rfl) (by kernel_rfl) ?_;simp only[jB,aS,aT,aQ,aR];go_wp2_with fail
  have bG:=jJ.new w5 134 #[.int .i64 o,.slice a5 zn c5,.slice none 0 0,.slice none 0 0,.slice none 0 0,.slice none 0 0,.slice none 0 0,.slice none 0 0];have hal:=aD w5 (.cells #[.int .i64 o,.slice a5 zn c5,.slice none 0 0,.slice none 0 0,.slice none 0 0,.slice none 0 0,.slice none 0 0,.slice none 0 0] 134);obtain⟨w6,hw6⟩:∃X,w5.alloc (.cells #[.int .i64 o,.slice a5 zn c5,.slice none 0 0,.slice none 0 0,.slice none 0 0,.slice none 0 0,.slice none 0 0,.slice none 0 0] 134)=X:=⟨_,rfl⟩;rw[hw6]at bG hal;rw[hw6];have h46:=BN.o.tm hal;have hT6:=aSU.o.keep (Kp.later hal);have bT6:=aYO.o.late h46;have bR6:=KL.o.late h46;have O1:=oP.o.tm h46;have hgr:w.heap.size+2≤w5.heap.size:=by have:=KL.o.lt;have:=BN.o.size;omega
  obtain⟨gr,b85⟩:∃k,w5.heap.size=k:=⟨_,rfl⟩;rw[b85]at bG hgr;try rw[b85]
  have HS:=aA (jA.o _ h46);have hE6:GY w.heap.size w6 (xkO o ds 0) ⟨a5,zn,c5,none,0,0,none,0,0,none,0,0,none,0,0,none,0,0,none,0,0⟩:=
   ⟨hT6,sK _ _ _,sK _ _ _,sK _ _ _,sK _ _ _,kC _ _ _ _,kC _ _ _ _⟩
  have x6:=late h46 oU.o x1'.o;have m6:w6.cell? ⟨w.heap.size,1,none⟩=some (.slice (some ⟨b0,o0,none⟩) dn dc):=bT6.cell rfl;clear hT6 hal h46 hw6 b85;obtain⟨VY,aLQ,U5,xU,MN,aXZ⟩:=aJ bG bT6 bR6 O1 hgr hE6;clear bG bT6 bR6 O1 hgr hE6;refine Mid.mk ⟨HS.o,?_⟩;refine jC 11 0 (by kernel_rfl) (by kernel_rfl) ?_;simp only[jB,aS,aT,aQ,aR];go_wp2_with fail
  refine Mid.mk ⟨HS.o,?_⟩;refine jK (by kernel_rfl) ?_;clear k0 k1 k2 HD hne jG jA aYO KL oP aSU BN x1' oU e1;obtain⟨dsz,hS,hsl,hDs⟩:=b1L.o.subs;have a6U:=hS.uY oO (by decide);clear b1L;obtain⟨hS',uE,aYI,aB9⟩:=aH hS hsl hDs a6U;clear hS hsl hDs a6U;go_wp2_with fail
  clear x6 m6;go_loopw [31] (fun iv wr=>∃(i:Nat) (Ai:ExA),i≤sn∧iv= .int .i64 i∧Hid (jJ wr gr 134 (OI o Ai))∧Hid (GY w.heap.size wr (xkO o ds i) Ai)∧Hid (jJ wr w.heap.size 39 #[.int .i64 o,.slice (some ⟨b0,o0,none⟩) dn dc])∧
   Hid (jJ wr (w.heap.size+1) 61 #[.int .i64 0,.slice none 0 0,.slice none 0 0,.slice none 0 0,.slice none 0 0,.slice none 0 0,.slice none 0 0,.slice none 0 0])∧Hid (Below w.heap.size w wr)∧Hid (∀j,j<i→NoB ds j)) (fun iv _=>sn - (intOf iv).toNat)
  case atStart=>exact⟨0,_,by omega,rfl,VY,aXZ,aLQ,U5,xU,aA (fun j hj=>by omega)⟩
  case round=>
   clear VY aXZ aLQ U5 xU;obtain⟨i,Ai,hi,rfl,hBr,hEr,bTr,bRr,h0r,hnb⟩:=hrel;obtain⟨z1,z2,z3,p1,p2,p3,g1,g2,g3,i1,i2,i3,f1,f2,f3,m1,m2,m3,t1,t2,t3⟩:=Ai;have hmx:sn≤9223372036854775807:=bK hS'.o.le hS'.o.max;by_cases hlt:i<sn
   ·have hin:(i:Int)<sn:=by omega
    have hww:IntKind.i64.wrap ((i:Int)+1)=i+1:=by rw[aY];omega
    have p9:i<dsz.length:=by rw[aB9.o];exact hlt
    have hid:i<(ds.getD 0 (jS 16)).2.1.length:=by rw[←uE.o];exact p9
    obtain⟨xb,xo,rfl,hblt,fe⟩:=(hS'.o.mono h0r.o).elem oO (by decide) (0,dzz) hlt;rw[jI p9]at fe;obtain⟨hq1,hq2⟩:=aYI.o i p9 hid;obtain⟨ua,un,uc,ra,rn,rc,xa,xn,xc,hv⟩:=hq2.v;have g0':=fe 0 _ rfl;have g1':=fe 1 _ rfl;have g2':=fe 2 _ rfl;have g3':=fe 3 _ rfl;simp only[cK]at g0' g1' g2' g3';clear fe;rw[hv]at hq2 g1' g2' g3';rw[hq1]at g0';simp only at g0' g1' g2' g3';obtain⟨su,hsu⟩:∃s,(pK ds).getD i (0,jS 15)=s:=⟨_,rfl⟩;have KW:(ds.getD 0 (jS 16)).2.1[i]=su:=by rw[←hsu];exact(jI hid _).symm
    rw[KW]at g0' hq2;have hmem:su∈pK ds:=by rw[←KW];exact bL _
    have hkind:=MF hk'.o.h0 su hmem;have bGE:i<(pK ds).length:=hid;have hrow2:=hq2.row;obtain⟨yt,hyt⟩:∃y,su.1=y:=⟨_,rfl⟩;rw[hyt]at g0';have bS:=jJ.new wr 28 #[.int .i64 yt,.slice ua un uc,.slice ra rn rc,.slice xa xn xc];have hal:=aD wr (.cells #[.int .i64 yt,.slice ua un uc,.slice ra rn rc,.slice xa xn xc] 28);obtain⟨ws,hws⟩:∃X,wr.alloc (.cells #[.int .i64 yt,.slice ua un uc,.slice ra rn rc,.slice xa xn xc] 28)=X:=⟨_,rfl⟩;rw[hws]at bS hal;obtain⟨gs,hgs⟩:∃k,wr.heap.size=k:=⟨_,rfl⟩;rw[hgs]at bS;have s0:ws.cell? ⟨gs,0,none⟩=some (.int .i64 yt):=bS.cell rfl;have s1:ws.cell? ⟨gs,1,none⟩=some (.slice ua un uc):=bS.cell rfl;have s2:ws.cell? ⟨gs,2,none⟩=some (.slice ra rn rc):=bS.cell rfl;have s3:ws.cell? ⟨gs,3,none⟩=some (.slice xa xn xc):=bS.cell rfl;have h0s:=h0r.o.tm hal;have hBs:=hBr.o.late hal;have BV:=hEr.o.later hal;have bTs:=bTr.o.late hal;have bRs:=bRr.o.late hal;clear hq1 hv hblt hal bS hBr hEr bTr bRr h0r KW;obtain⟨aYP,aG7,hgs',D9,aBW,TH,bGF,aYQ,b1I,aYJ,hmem',b1M⟩:=aP hsu hws hgs h0s hBs BV bTs bRs p9 hid hmem bGE;obtain⟨aSV,bGG,EQ⟩:=aG hrow2 hyt hq2;clear hsu hws hgs h0s hBs BV bTs bRs p9 hid hmem bGE hrow2 hyt hq2;go_upto_region 7 with fail
    try rw[hgs'.o]
    try rw[aG7.o]
    clear g0' g1' g2' g3';rcases hkind with ⟨hy,hK⟩|⟨hy,hK⟩
    ·have hy2:yt=34665:=bGG.o.symm.trans hy;subst hy2;have hP:=aG4 w ws gr (xkO o ds i) ⟨z1,z2,z3,p1,p2,p3,g1,g2,g3,i1,i2,i3,f1,f2,f3,m1,m2,m3,t1,t2,t3⟩ su.2 (.slice ua un uc,.slice ra rn rc,.slice xa xn xc) D9.o (show w.heap.size≤gr by have:=MN.o;omega) (by rw[b1J];exact aBW.o) TH.o EQ.o hK.rt (RX hK) (KX hK) (fun s hs=>⟨RX (HZ hK s hs).2,KX (HZ hK s hs).2⟩);rw[b1J]at hP;obtain⟨hy',hK',hP'⟩:=aG hy hK hP;clear hy hK hP;go_wp2_with fail
     refine hP'.o.mono ?_;rintro e w8 ⟨h08,a7J,hpost⟩;have bT8:=bGF.o.but a7J (show w.heap.size≠gr by have:=MN.o;omega);have bR8:=aYQ.o.but a7J (show w.heap.size+1≠gr by have:=MN.o;omega);obtain⟨nb,aGA⟩:∃q,uS (nO su.2.1 37500)=q:=⟨_,rfl⟩;rw[aGA]at hpost;clear a7J s0 s1 s2 s3;cases nb with
     |true=>
      rw[if_pos rfl]at hpost;subst hpost;have hc:=aYL a1R.o (by rw[a3Q hk'.o hmem'.o hy'.o];exact aGA);obtain⟨hc',WK,aSW,bGH,b7L⟩:=aI hc bR8 h08 aGA bT8;clear hc bR8 h08 aGA bT8;go_wp2_with (refine wpList_store_row rfl 61 (.tmp 2) (.tmp 51) rfl (w.heap.size+1) #[.int .i64 0,.slice none 0 0,.slice none 0 0,.slice none 0 0,.slice none 0 0,.slice none 0 0,.slice none 0 0,.slice none 0 0] rfl rfl 61 _ WK.o (by kernel_rfl) rfl (by kernel_rfl) ?_)
      refine bodyPost_ret (jL rfl _ _ (w.heap.size+1) 61 #[.int .i64 0,.slice none 0 0,.slice none 0 0,.slice none 0 0,.slice none 0 0,.slice none 0 0,.slice none 0 0,.slice none 0 0] _ rfl (WK.o.row _) Tryz.underlying61 rfl (by kernel_rfl)) rfl ?_;refine⟨a6L,?_,?_,jP aSW.o (dV _ 1) _⟩
      ·rw[hc'.o.2,hc'.o.1];rfl
      ·rw[hc'.o.2];exact GY.zero _ _
     |false=>
      rw[if_neg (by decide)]at hpost;obtain⟨rfl,A8,VE,hE8⟩:=hpost;have a0P:GY w.heap.size w8 (xkO o ds (i+1)) A8:=by
       rw[aBT b1M.o,aYP.o];unfold IG;rw[if_neg (by rw[hy'.o];decide)];exact hE8
      have aSX:∀j,j<i+1→NoB ds j:=fun j hj=>by
       by_cases hji:j=i
       ·subst hji;right;rw[aYP.o];exact aGA
       ·exact hnb.o j (by omega)
      clear hE8;obtain⟨b86,a0Q,WK,aSW,bGH,b7L,aSY⟩:=aK VE a0P bR8 h08 aGA bT8 aSX;clear VE a0P bR8 h08 aGA bT8 aSX;go_wp2_with fail
      go_roundw
      case rel=>exact⟨i+1,A8,by omega,by go_num,b86,a0Q,b7L,WK,aSW,aSY⟩
      case measure=>simp[intOf];omega
    ·have hy2:yt=34853:=bGG.o.symm.trans hy;subst hy2;have hOw:=vJ ua un uc su.2.1 ws (aSV.o.mono D9.o) (by have:=aSV.o.len;have:=RX hK;omega) (KX hK);obtain⟨hy',hK',aG8⟩:=aG hy hK hOw;clear hy hK hOw;go_wp2_with fail
     refine aG8.o.mono ?_;rintro e w8 ⟨a8,c8,rfl,hT8,oV⟩;have VE:jJ w8 gr 134 #[.int .i64 o,.slice z1 z2 z3,.slice p1 p2 p3,.slice g1 g2 g3,.slice i1 i2 i3,.slice f1 f2 f3,.slice m1 m2 m3,.slice t1 t2 t3]:=aBW.o.late oV;have hE8:=TH.o.later oV;have h08:=D9.o.tm oV;have hT8:=hT8.mono D9.o.size;have p3':=VE.cell (i:=3) rfl;have u3':=VE.frozen 3;have hB9:jJ (w8.setCell ⟨gr,3,none⟩ (.slice a8 un c8)) gr 134 #[.int .i64 o,.slice z1 z2 z3,.slice p1 p2 p3,.slice a8 un c8,.slice i1 i2 i3,.slice f1 f2 f3,.slice m1 m2 m3,.slice t1 t2 t3]:=VE.set 3 _;have OV:=(But.refl gr w8).set 3 (.slice a8 un c8);have VF:=hE8.but OV VE (by decide) (by decide);have hT9:=rF hT8 OV VE (by decide) (by decide);have a0P:GY w.heap.size (w8.setCell ⟨gr,3,none⟩ (.slice a8 un c8)) (xkO o ds (i+1)) ⟨z1,z2,z3,p1,p2,p3,a8,un,c8,i1,i2,i3,f1,f2,f3,m1,m2,m3,t1,t2,t3⟩:=by
      rw[aBT b1M.o,aYP.o];unfold IG;rw[if_pos hy'.o];exact⟨VF.z,VF.p,hT9,VF.i,VF.f,VF.mr,VF.th⟩
     have h09:=h08.setCell (p:=⟨gr,3,none⟩) (show w.heap.size≤gr by have:=MN.o;omega) (.slice a8 un c8);have bT9:=(bGF.o.late oV).but OV (show w.heap.size≠gr by have:=MN.o;omega);have bR9:=(aYQ.o.late oV).but OV (show w.heap.size+1≠gr by have:=MN.o;omega);have aSX:∀j,j<i+1→NoB ds j:=fun j hj=>by
      by_cases hji:j=i
      ·subst hji;left;rw[aYP.o];exact hy'.o
      ·exact hnb.o j (by omega)
     clear hE8 VF hT9 hT8 oV VE h08 OV;obtain⟨aSQ,a0Q,aSR,a6V,a6S,aSY⟩:=aJ hB9 a0P h09 bT9 bR9 aSX;clear hB9 a0P h09 bT9 bR9 aSX;go_wp2_with fail
     go_roundw
     case rel=>exact⟨i+1,⟨z1,z2,z3,p1,p2,p3,a8,un,c8,i1,i2,i3,f1,f2,f3,m1,m2,m3,t1,t2,t3⟩,by omega,by go_num,aSQ,a0Q,a6V,a6S,aSR,aSY⟩
     case measure=>simp[intOf];omega
   ·obtain rfl:i=sn:=by omega
    have hdi:decide ((i:Int)<(i:Int))=false:=by simp
    have hlO:(pK ds).length=i:=by rw[←aB9.o,uE.o,hsO'.o]
    have bGI:=bGA hk'.o (fun s hs=>by
     obtain⟨j,hj,e⟩:=qJ hs (0,jS 15);rw[←e];exact hnb.o j (by omega))
    have hte:=aSE hk'.o;rw[hlO]at hte;obtain⟨X,hX⟩:=aC (xkO o ds i);have hXf:X.f= []∧X.th= []:=by rw[←hX];exact bGC o ds i
    rw[hX]at hte hEr;have m1':wr.cell? ⟨w.heap.size,1,none⟩=some (.slice (some ⟨b0,o0,none⟩) dn dc):=bTr.o.cell rfl;have aY5:(1:Int)≤dn:=by omega
    have bVE:dn≤dc:=hrow'.o.le;have bVF:(1:Int)≤dc:=by omega
    have bVG:(dn:Int)≤dc:=by omega
    have bGJ:ds.length=dn:=by rw[←mV.o];exact zT.o
    clear hlO hnb hX;obtain⟨aSZ,bGK,bOD,a3S⟩:=aH bGI hte hXf bGJ;clear bGI hte hXf bGJ;go_upto_region 12 with fail
    rcases(by have:=hk'.o.len;have:=a3S.o;omega:dn=1∨dn=2)with rfl|rfl
    ·have hA1:=aM8 a3S.o bOD.o bGK.o;rw[←hA1]at hEr;clear hA1;by_cases hdc:dc=1
     ·subst hdc;go_wp2_with fail
      go_loopw [57] (fun iv wx=>iv= .int .i64 0∧wx=wr) (fun _ _=>0)
      case atStart=>exact⟨rfl,rfl⟩
      case round=>
       obtain⟨rfl,rfl⟩:=hrel;have KZ:=uJ (rY 16 o ds) ⟨z1,z2,z3,p1,p2,p3,g1,g2,g3,i1,i2,i3,f1,f2,f3,m1,m2,m3,t1,t2,t3⟩ wr hEr.o.rd (aIC hk'.o rZ.o).wf;have hto:(rY 16 o ds).o=o:=rfl;rw[hto]at KZ;simp only[exV,OI]at KZ;obtain⟨ck,hce⟩:∃c,kY (rY 16 o ds)=c:=⟨_,rfl⟩;rw[hce]at KZ;have hBa:jJ wr gr 134 #[.int .i64 o,.slice z1 z2 z3,.slice p1 p2 p3,.slice g1 g2 g3,.slice i1 i2 i3,.slice f1 f2 f3,.slice m1 m2 m3,.slice t1 t2 t3]:=hBr.o;have q0:wr.cell? ⟨gr,0,none⟩=some (.int .i64 o):=hBa.cell rfl;have q1:wr.cell? ⟨gr,1,none⟩=some (.slice z1 z2 z3):=hBa.cell rfl;have q2:wr.cell? ⟨gr,2,none⟩=some (.slice p1 p2 p3):=hBa.cell rfl;have q3:wr.cell? ⟨gr,3,none⟩=some (.slice g1 g2 g3):=hBa.cell rfl;have q4:wr.cell? ⟨gr,4,none⟩=some (.slice i1 i2 i3):=hBa.cell rfl;have q5:wr.cell? ⟨gr,5,none⟩=some (.slice f1 f2 f3):=hBa.cell rfl;have q6:wr.cell? ⟨gr,6,none⟩=some (.slice m1 m2 m3):=hBa.cell rfl;have q7:wr.cell? ⟨gr,7,none⟩=some (.slice t1 t2 t3):=hBa.cell rfl;obtain⟨aBY,aBZ⟩:=aF KZ hce;clear KZ hce;go_wp2_with fail
       refine aBY.o.mono ?_;rintro e wc ⟨rfl,hbc⟩;have hRc:=bRr.o.late hbc;have h0c:=h0r.o.tm hbc;have hEc:=hEr.o.later hbc;have L6:=hBa.late hbc;clear q0 q1 q2 q3 q4 q5 q6 q7 hbc hBa hto;by_cases hc0:ck=0
       ·subst hc0;have e9:((0:Int) != 0)=false:=rfl;have hz:=a0R a1R.o aSZ.o aBZ.o;have q0:wc.cell? ⟨gr,0,none⟩=some (.int .i64 o):=L6.cell rfl;have q1:wc.cell? ⟨gr,1,none⟩=some (.slice z1 z2 z3):=L6.cell rfl;have q2:wc.cell? ⟨gr,2,none⟩=some (.slice p1 p2 p3):=L6.cell rfl;have q3:wc.cell? ⟨gr,3,none⟩=some (.slice g1 g2 g3):=L6.cell rfl;have q4:wc.cell? ⟨gr,4,none⟩=some (.slice i1 i2 i3):=L6.cell rfl;have q5:wc.cell? ⟨gr,5,none⟩=some (.slice f1 f2 f3):=L6.cell rfl;have q6:wc.cell? ⟨gr,6,none⟩=some (.slice m1 m2 m3):=L6.cell rfl;have q7:wc.cell? ⟨gr,7,none⟩=some (.slice t1 t2 t3):=L6.cell rfl;obtain⟨FR,a0U,aT0,bGL,hz'⟩:=aI hRc h0c hEc L6 hz;clear hRc h0c hEc L6 hz;go_wp2_with (refine wpList_store_row rfl 61 (.tmp 2) (.tmp 86) rfl (w.heap.size+1) #[.int .i64 o,.slice z1 z2 z3,.slice p1 p2 p3,.slice g1 g2 g3,.slice i1 i2 i3,.slice f1 f2 f3,.slice m1 m2 m3,.slice t1 t2 t3] rfl rfl 61 _ FR.o (by kernel_rfl) rfl (by kernel_rfl) ?_)
        refine bodyPost_ret (jL rfl _ _ (w.heap.size+1) 61 #[.int .i64 o,.slice z1 z2 z3,.slice p1 p2 p3,.slice g1 g2 g3,.slice i1 i2 i3,.slice f1 f2 f3,.slice m1 m2 m3,.slice t1 t2 t3] _ rfl (FR.o.row _) Tryz.underlying61 rfl (by kernel_rfl)) rfl ?_;refine⟨⟨z1,z2,z3,p1,p2,p3,g1,g2,g3,i1,i2,i3,f1,f2,f3,m1,m2,m3,t1,t2,t3⟩,?_,?_,jP a0U.o (dV _ 1) _⟩
        ·rw[hz'.o.2,hz'.o.1];rfl
        ·rw[hz'.o.2];exact GY.but aT0.o (X7 wc _) FR.o (by decide) (by decide)
       ·have e9:(ck != 0)=true:=by simpa using hc0
        have hc:=a7K a1R.o (by rw[aBZ.o];exact hc0);clear hc0 L6 hEc;obtain⟨FR,a0U,hc'⟩:=aG hRc h0c hc;clear hRc h0c hc;go_wp2_with (refine wpList_store_row rfl 61 (.tmp 2) (.tmp 82) rfl (w.heap.size+1) #[.int .i64 0,.slice none 0 0,.slice none 0 0,.slice none 0 0,.slice none 0 0,.slice none 0 0,.slice none 0 0,.slice none 0 0] rfl rfl 61 _ FR.o (by kernel_rfl) rfl (by kernel_rfl) ?_)
        refine bodyPost_ret (jL rfl _ _ (w.heap.size+1) 61 #[.int .i64 0,.slice none 0 0,.slice none 0 0,.slice none 0 0,.slice none 0 0,.slice none 0 0,.slice none 0 0,.slice none 0 0] _ rfl (FR.o.row _) Tryz.underlying61 rfl (by kernel_rfl)) rfl ?_;refine⟨a6L,?_,?_,jP a0U.o (dV _ 1) _⟩
        ·rw[hc'.o.2,hc'.o.1];rfl
        ·rw[hc'.o.2];exact GY.zero _ _
     ·skip
      go_wp2_with fail
      go_loopw [57] (fun iv wx=>iv= .int .i64 0∧wx=wr) (fun _ _=>0)
      case atStart=>exact⟨rfl,rfl⟩
      case round=>
       obtain⟨rfl,rfl⟩:=hrel;have KZ:=uJ (rY 16 o ds) ⟨z1,z2,z3,p1,p2,p3,g1,g2,g3,i1,i2,i3,f1,f2,f3,m1,m2,m3,t1,t2,t3⟩ wr hEr.o.rd (aIC hk'.o rZ.o).wf;have hto:(rY 16 o ds).o=o:=rfl;rw[hto]at KZ;simp only[exV,OI]at KZ;obtain⟨ck,hce⟩:∃c,kY (rY 16 o ds)=c:=⟨_,rfl⟩;rw[hce]at KZ;have hBa:jJ wr gr 134 #[.int .i64 o,.slice z1 z2 z3,.slice p1 p2 p3,.slice g1 g2 g3,.slice i1 i2 i3,.slice f1 f2 f3,.slice m1 m2 m3,.slice t1 t2 t3]:=hBr.o;have q0:wr.cell? ⟨gr,0,none⟩=some (.int .i64 o):=hBa.cell rfl;have q1:wr.cell? ⟨gr,1,none⟩=some (.slice z1 z2 z3):=hBa.cell rfl;have q2:wr.cell? ⟨gr,2,none⟩=some (.slice p1 p2 p3):=hBa.cell rfl;have q3:wr.cell? ⟨gr,3,none⟩=some (.slice g1 g2 g3):=hBa.cell rfl;have q4:wr.cell? ⟨gr,4,none⟩=some (.slice i1 i2 i3):=hBa.cell rfl;have q5:wr.cell? ⟨gr,5,none⟩=some (.slice f1 f2 f3):=hBa.cell rfl;have q6:wr.cell? ⟨gr,6,none⟩=some (.slice m1 m2 m3):=hBa.cell rfl;have q7:wr.cell? ⟨gr,7,none⟩=some (.slice t1 t2 t3):=hBa.cell rfl;obtain⟨aBY,aBZ⟩:=aF KZ hce;clear KZ hce;go_wp2_with fail
       refine aBY.o.mono ?_;rintro e wc ⟨rfl,hbc⟩;have hRc:=bRr.o.late hbc;have h0c:=h0r.o.tm hbc;have hEc:=hEr.o.later hbc;have L6:=hBa.late hbc;clear q0 q1 q2 q3 q4 q5 q6 q7 hbc hBa hto;by_cases hc0:ck=0
       ·subst hc0;have e9:((0:Int) != 0)=false:=rfl;have hz:=a0R a1R.o aSZ.o aBZ.o;have q0:wc.cell? ⟨gr,0,none⟩=some (.int .i64 o):=L6.cell rfl;have q1:wc.cell? ⟨gr,1,none⟩=some (.slice z1 z2 z3):=L6.cell rfl;have q2:wc.cell? ⟨gr,2,none⟩=some (.slice p1 p2 p3):=L6.cell rfl;have q3:wc.cell? ⟨gr,3,none⟩=some (.slice g1 g2 g3):=L6.cell rfl;have q4:wc.cell? ⟨gr,4,none⟩=some (.slice i1 i2 i3):=L6.cell rfl;have q5:wc.cell? ⟨gr,5,none⟩=some (.slice f1 f2 f3):=L6.cell rfl;have q6:wc.cell? ⟨gr,6,none⟩=some (.slice m1 m2 m3):=L6.cell rfl;have q7:wc.cell? ⟨gr,7,none⟩=some (.slice t1 t2 t3):=L6.cell rfl;obtain⟨FR,a0U,aT0,bGL,hz'⟩:=aI hRc h0c hEc L6 hz;clear hRc h0c hEc L6 hz;go_wp2_with (refine wpList_store_row rfl 61 (.tmp 2) (.tmp 86) rfl (w.heap.size+1) #[.int .i64 o,.slice z1 z2 z3,.slice p1 p2 p3,.slice g1 g2 g3,.slice i1 i2 i3,.slice f1 f2 f3,.slice m1 m2 m3,.slice t1 t2 t3] rfl rfl 61 _ FR.o (by kernel_rfl) rfl (by kernel_rfl) ?_)
        refine bodyPost_ret (jL rfl _ _ (w.heap.size+1) 61 #[.int .i64 o,.slice z1 z2 z3,.slice p1 p2 p3,.slice g1 g2 g3,.slice i1 i2 i3,.slice f1 f2 f3,.slice m1 m2 m3,.slice t1 t2 t3] _ rfl (FR.o.row _) Tryz.underlying61 rfl (by kernel_rfl)) rfl ?_;refine⟨⟨z1,z2,z3,p1,p2,p3,g1,g2,g3,i1,i2,i3,f1,f2,f3,m1,m2,m3,t1,t2,t3⟩,?_,?_,jP a0U.o (dV _ 1) _⟩
        ·rw[hz'.o.2,hz'.o.1];rfl
        ·rw[hz'.o.2];exact GY.but aT0.o (X7 wc _) FR.o (by decide) (by decide)
       ·have e9:(ck != 0)=true:=by simpa using hc0
        have hc:=a7K a1R.o (by rw[aBZ.o];exact hc0);clear hc0 L6 hEc;obtain⟨FR,a0U,hc'⟩:=aG hRc h0c hc;clear hRc h0c hc;go_wp2_with (refine wpList_store_row rfl 61 (.tmp 2) (.tmp 82) rfl (w.heap.size+1) #[.int .i64 0,.slice none 0 0,.slice none 0 0,.slice none 0 0,.slice none 0 0,.slice none 0 0,.slice none 0 0,.slice none 0 0] rfl rfl 61 _ FR.o (by kernel_rfl) rfl (by kernel_rfl) ?_)
        refine bodyPost_ret (jL rfl _ _ (w.heap.size+1) 61 #[.int .i64 0,.slice none 0 0,.slice none 0 0,.slice none 0 0,.slice none 0 0,.slice none 0 0,.slice none 0 0,.slice none 0 0] _ rfl (FR.o.row _) Tryz.underlying61 rfl (by kernel_rfl)) rfl ?_;refine⟨a6L,?_,?_,jP a0U.o (dV _ 1) _⟩
        ·rw[hc'.o.2,hc'.o.1];rfl
        ·rw[hc'.o.2];exact GY.zero _ _
    ·have hdc:¬dc=1:=by omega
     have hd2:=hk'.o.h1 a3S.o;have hD1:=b1K.o 1 (by have:=zT.o;omega) (by have:=a3S.o;omega);obtain⟨va,vn,vc,qa,qn,qc,ea,en,ec,hv1⟩:=hD1.v;have hz1:tF.getD 1 dzz=tF[1]'(by have:=zT.o;omega):=jI _ _;have aC0:ds.getD 1 (jS 16)=ds[1]'(by have:=a3S.o;omega):=jI _ _;have aG2:=hsm (ds[1]'(by have:=a3S.o;omega)) (bL _);rw[hv1]at hD1 hz1;rw[←aC0]at hD1 aG2;obtain⟨b0',o0',hbe,aAN,fe⟩:=(hrow'.o.mono h0r.o).elem qA (by decide) dzz (show 1<2 by omega);injection hbe with hbe;injection hbe with e1' e2' e3';subst e1' e2';rw[hz1]at fe;have y0:=fe 0 _ rfl;have y1:=fe 1 _ rfl;have y2:=fe 2 _ rfl;simp only[Nat.one_mul,cK,Nat.add_assoc,Nat.reduceAdd]at y0 y1 y2;have aT1:=hD1.row;have b87:=hD1.blob;have hen:en≤1000000:=by have h1:=aG2.2.1;have:=b87.nV;omega
     have hvn:vn≤1000000:=by have h1:=aG2.1;have:=aT1.len;omega
     have bGM:=KX hd2;clear fe hv1 hz1 aC0 aG2 hD1 hd2;obtain⟨b8A,bGN,hen',bOE,bGO,bST⟩:=aJ aT1 b87 hen hvn bGM aAN;clear aT1 b87 hen hvn bGM aAN;go_wp2_with fail
     go_loopw [57] (fun iv wx=>(iv= .int .i64 0∧wx=wr)∨(iv= .int .i64 1∧∃(x1:Option Addr) (x2 x3:Nat) (x4:Option Addr) (x5 x6:Nat),Hid (jJ wx gr 134 #[.int .i64 o,.slice z1 z2 z3,.slice p1 p2 p3,.slice g1 g2 g3,.slice i1 i2 i3,.slice x1 x2 x3,.slice m1 m2 m3,.slice x4 x5 x6])∧
      Hid (GY w.heap.size wx (rY 16 o ds) ⟨z1,z2,z3,p1,p2,p3,g1,g2,g3,i1,i2,i3,x1,x2,x3,m1,m2,m3,x4,x5,x6⟩)∧Hid (jJ wx (w.heap.size+1) 61 #[.int .i64 0,.slice none 0 0,.slice none 0 0,.slice none 0 0,.slice none 0 0,.slice none 0 0,.slice none 0 0,.slice none 0 0])∧Hid (Below w.heap.size w wx))) (fun iv _=>1 - (intOf iv).toNat)
     case atStart=>exact .inl ⟨rfl,rfl⟩
     case round=>
      rcases hrel with ⟨rfl,rfl⟩|⟨rfl,x1,x2,x3,x4,x5,x6,hBz,hEz,hRz,h0z⟩
      ·have bD:=jJ.new wr 26 #[.slice va vn vc,.slice qa qn qc,.slice ea en ec];have hal:=aD wr (.cells #[.slice va vn vc,.slice qa qn qc,.slice ea en ec] 26);obtain⟨ws,hws⟩:∃Y,wr.alloc (.cells #[.slice va vn vc,.slice qa qn qc,.slice ea en ec] 26)=Y:=⟨_,rfl⟩;rw[hws]at bD hal;have hgw:gr<wr.heap.size:=hBr.o.lt;obtain⟨gd,hgd⟩:∃k,wr.heap.size=k:=⟨_,rfl⟩;rw[hgd]at bD hgw;have h0s:=h0r.o.tm hal;have hBs:jJ ws gr 134 #[.int .i64 o,.slice z1 z2 z3,.slice p1 p2 p3,.slice g1 g2 g3,.slice i1 i2 i3,.slice f1 f2 f3,.slice m1 m2 m3,.slice t1 t2 t3]:=hBr.o.late hal;have BV:=hEr.o.later hal;have bRs:=bRr.o.late hal;have hOw:=fun W (hb:Below w.heap.size w W)=>vJ va vn vc (ds.getD 1 (jS 16)).1 W (b8A.o.mono hb) bOE.o bGO.o;have hCl:=fun W (hb:Below w.heap.size w W)=>yY ea en ec (ds.getD 1 (jS 16)).2.2 W (bGN.o.mono hb) (by have:=hen'.o;omega);obtain⟨Ty,ff,hne,tX,jH⟩:=NV gr ws;have HD:=aA ((aW ws.heap.size ws).drew);have HS:=aA (jH _ (But.of_below HD.o));have hne1:gd≠gr:=by omega
       have k0:∀s,(ff s).cell? ⟨gd,0,none⟩=some (.slice va vn vc):=fun s=>(bD.but (tX s) hne1).cell rfl;have k2:∀s,(ff s).cell? ⟨gd,2,none⟩=some (.slice ea en ec):=fun s=>(bD.but (tX s) hne1).cell rfl;clear hal;obtain⟨WZ,aG7,bVH,hgd',D9,aBW,TH,aYQ,aG8,bOF,aHA,jA⟩:=aP bD hws hgw hgd h0s hBs BV bRs hOw hCl tX jH;have b0N:=aA hne1;clear bD hws hgw hgd h0s hBs BV bRs hOw hCl tX jH hne1;go_upto_region 15 with fail
       try rw[hgd'.o]
       try rw[aG7.o]
       clear y0 y1 y2;refine jU (S:=fun W=>∃s,W=ff s) (by kernel_rfl) 16 rfl ?_;obtain⟨wD,tQ⟩:∃Y,ws.drew=Y:=⟨_,rfl⟩;rw[tQ]at HS HD ⊢;clear tQ;refine jF [0,1,2,3,5,6] 10 (by kernel_rfl) (fun d _ _ _ _ h=>by cases d <;> exact h) (by kernel_rfl) (by kernel_rfl) (by kernel_rfl) HS.o ?_;simp only[jB,aS,aT,aQ,aR];iterate 6 (go_big_quiet_step (fail))
       refine wpQuiet_nil ?_;refine jC 4 9 (by kernel_rfl) (by kernel_rfl) ?_;simp only[jB,aS,aT,aQ,aR];go_wp2_with fail
       refine(aG8.o _ (D9.o.tm HD.o)).mono ?_;rintro e v5 ⟨a5',c5',rfl,bGP,bGQ⟩;have h5s:=HD.o.tm bGQ;have bGR:=bGP.mono (bK D9.o.size HD.o.size);have HS5:=aA (jA.o _ (But.of_below h5s));clear bGP bGQ;obtain⟨aYR,bGS⟩:=aF h5s bGR;clear h5s bGR;go_wp2_with fail
       refine Mid.mk ⟨HS5.o,?_⟩;refine jC 7 8 (by kernel_rfl) (by kernel_rfl) ?_;simp only[jB,aS,aT,aQ,aR];go_wp2_with fail
       refine(bOF.o _ (D9.o.tm aYR.o)).mono ?_;rintro e v6 ⟨a6',c6',rfl,bGT,b8B⟩;have h6s:=aYR.o.tm b8B;have HS6:=aA (jA.o _ (But.of_below h6s));have hT6:=bGS.o.keep (Kp.later b8B);have aT2:=kK bGT (bK D9.o.size aYR.o.size);have SH:=aBW.o.late h6s;have hE6:=TH.o.later h6s;have bR6:=aYQ.o.late h6s;have h06:=D9.o.tm h6s;have hB7:=SH.set 5 (.slice a5' vn c5');have VE:jJ ((v6.setCell ⟨gr,5,none⟩ (.slice a5' vn c5')).setCell ⟨gr,7,none⟩ (.slice a6' en c6')) gr 134 #[.int .i64 o,.slice z1 z2 z3,.slice p1 p2 p3,.slice g1 g2 g3,.slice i1 i2 i3,.slice a5' vn c5',.slice m1 m2 m3,.slice a6' en c6']:=hB7.set 7 _;have I4:=(But.refl gr v6).set 5 (.slice a5' vn c5');have aMB:=I4.set 7 (.slice a6' en c6');obtain⟨HS7,HS8⟩:=aF (jA.o _ ((But.of_below h6s).trans I4)) (jA.o _ ((But.of_below h6s).trans aMB));have hE8:=hE6.but aMB SH (by decide) (by decide);have hT8:=rF hT6 aMB SH (by decide) (by decide);have bGU:=lJ aT2 aMB (kE aT2 SH (by decide));have bR8:=bR6.but aMB (show w.heap.size+1≠gr by have:=MN.o;omega);have hwg:w.heap.size≤gr:=by have:=MN.o;omega
       have h08:=(h06.setCell (p:=⟨gr,5,none⟩) hwg (.slice a5' vn c5')).setCell (p:=⟨gr,7,none⟩) hwg (.slice a6' en c6');have VF:GY w.heap.size ((v6.setCell ⟨gr,5,none⟩ (.slice a5' vn c5')).setCell ⟨gr,7,none⟩ (.slice a6' en c6')) (rY 16 o ds) ⟨z1,z2,z3,p1,p2,p3,g1,g2,g3,i1,i2,i3,a5',vn,c5',m1,m2,m3,a6',en,c6'⟩:=by
        rw[bGK.o];exact⟨hE8.z,hE8.p,hE8.g,hE8.i,hT8,hE8.mr,bGU⟩
       have l5:=SH.cell (i:=5) rfl;have w5':=SH.frozen 5;have l7:=hB7.cell (i:=7) rfl;have w7':=hB7.frozen 7;clear hT6 bGT aT2 SH hE6 bR6 h06 hB7 I4 aMB hE8 hT8 bGU hwg b8B h6s;obtain⟨b86,bOG,WK,aSW⟩:=aH VE VF bR8 h08;clear VE VF bR8 h08;go_wp2_with fail
       refine Mid.mk ⟨HS6.o,?_⟩;have HS:=HS6;refine jF [8,9,10] 5 (by kernel_rfl) (fun d _ _ _ _ h=>by cases d <;> exact h) (by kernel_rfl) (by kernel_rfl) (by kernel_rfl) HS.o ?_;simp only[jB,aS,aT,aQ,aR];iterate 3 (go_big_quiet_step (fail))
       refine wpQuiet_nil ?_;refine jC 11 4 (by kernel_rfl) (by kernel_rfl) ?_;simp only[jB,aS,aT,aQ,aR];go_wp2_with fail
       refine Mid.mk ⟨HS7.o,?_⟩;have HS:=HS7;refine jF [12,13,14] 1 (by kernel_rfl) (fun d _ _ _ _ h=>by cases d <;> exact h) (by kernel_rfl) (by kernel_rfl) (by kernel_rfl) HS.o ?_;simp only[jB,aS,aT,aQ,aR];iterate 3 (go_big_quiet_step (fail))
       refine wpQuiet_nil ?_;refine jC 15 0 (by kernel_rfl) (by kernel_rfl) ?_;simp only[jB,aS,aT,aQ,aR];go_wp2_with fail
       refine Mid.mk ⟨HS8.o,?_⟩;refine jK (by kernel_rfl) ?_;clear k0 k2 l5 w5' l7 w7' HD HS HS5 HS6 HS7 HS8;generalize (v6.setCell ⟨gr,5,none⟩ (.slice a5' vn c5')).setCell ⟨gr,7,none⟩ (.slice a6' en c6')=v8 at*;go_wp2_with fail
       go_roundw
       case rel=>exact .inr ⟨by go_num,a5',vn,c5',a6',en,c6',b86,bOG,WK,aSW⟩
       case measure=>simp[intOf]
      ·clear y0 y1 y2;rename World=>wz
       have KZ:=uJ (rY 16 o ds) ⟨z1,z2,z3,p1,p2,p3,g1,g2,g3,i1,i2,i3,x1,x2,x3,m1,m2,m3,x4,x5,x6⟩ wz hEz.o.rd (aIC hk'.o rZ.o).wf;have hto:(rY 16 o ds).o=o:=rfl;rw[hto]at KZ;simp only[exV,OI]at KZ;obtain⟨ck,hce⟩:∃c,kY (rY 16 o ds)=c:=⟨_,rfl⟩;rw[hce]at KZ;have hBa:jJ wz gr 134 #[.int .i64 o,.slice z1 z2 z3,.slice p1 p2 p3,.slice g1 g2 g3,.slice i1 i2 i3,.slice x1 x2 x3,.slice m1 m2 m3,.slice x4 x5 x6]:=hBz.o;have q0:wz.cell? ⟨gr,0,none⟩=some (.int .i64 o):=hBa.cell rfl;have q1:wz.cell? ⟨gr,1,none⟩=some (.slice z1 z2 z3):=hBa.cell rfl;have q2:wz.cell? ⟨gr,2,none⟩=some (.slice p1 p2 p3):=hBa.cell rfl;have q3:wz.cell? ⟨gr,3,none⟩=some (.slice g1 g2 g3):=hBa.cell rfl;have q4:wz.cell? ⟨gr,4,none⟩=some (.slice i1 i2 i3):=hBa.cell rfl;have q5:wz.cell? ⟨gr,5,none⟩=some (.slice x1 x2 x3):=hBa.cell rfl;have q6:wz.cell? ⟨gr,6,none⟩=some (.slice m1 m2 m3):=hBa.cell rfl;have q7:wz.cell? ⟨gr,7,none⟩=some (.slice x4 x5 x6):=hBa.cell rfl;obtain⟨aBY,aBZ⟩:=aF KZ hce;clear KZ hce;go_wp2_with fail
       refine aBY.o.mono ?_;rintro e wc ⟨rfl,hbc⟩;have hRc:=hRz.o.late hbc;have h0c:=h0z.o.tm hbc;have hEc:=hEz.o.later hbc;have L6:=hBa.late hbc;clear q0 q1 q2 q3 q4 q5 q6 q7 hbc hBa hto;by_cases hc0:ck=0
       ·subst hc0;have e9:((0:Int) != 0)=false:=rfl;have hz:=a0R a1R.o aSZ.o aBZ.o;have q0:wc.cell? ⟨gr,0,none⟩=some (.int .i64 o):=L6.cell rfl;have q1:wc.cell? ⟨gr,1,none⟩=some (.slice z1 z2 z3):=L6.cell rfl;have q2:wc.cell? ⟨gr,2,none⟩=some (.slice p1 p2 p3):=L6.cell rfl;have q3:wc.cell? ⟨gr,3,none⟩=some (.slice g1 g2 g3):=L6.cell rfl;have q4:wc.cell? ⟨gr,4,none⟩=some (.slice i1 i2 i3):=L6.cell rfl;have q5:wc.cell? ⟨gr,5,none⟩=some (.slice x1 x2 x3):=L6.cell rfl;have q6:wc.cell? ⟨gr,6,none⟩=some (.slice m1 m2 m3):=L6.cell rfl;have q7:wc.cell? ⟨gr,7,none⟩=some (.slice x4 x5 x6):=L6.cell rfl;obtain⟨FR,a0U,aT0,bGL,hz'⟩:=aI hRc h0c hEc L6 hz;clear hRc h0c hEc L6 hz;go_wp2_with (refine wpList_store_row rfl 61 (.tmp 2) (.tmp 86) rfl (w.heap.size+1) #[.int .i64 o,.slice z1 z2 z3,.slice p1 p2 p3,.slice g1 g2 g3,.slice i1 i2 i3,.slice x1 x2 x3,.slice m1 m2 m3,.slice x4 x5 x6] rfl rfl 61 _ FR.o (by kernel_rfl) rfl (by kernel_rfl) ?_)
        refine bodyPost_ret (jL rfl _ _ (w.heap.size+1) 61 #[.int .i64 o,.slice z1 z2 z3,.slice p1 p2 p3,.slice g1 g2 g3,.slice i1 i2 i3,.slice x1 x2 x3,.slice m1 m2 m3,.slice x4 x5 x6] _ rfl (FR.o.row _) Tryz.underlying61 rfl (by kernel_rfl)) rfl ?_;refine⟨⟨z1,z2,z3,p1,p2,p3,g1,g2,g3,i1,i2,i3,x1,x2,x3,m1,m2,m3,x4,x5,x6⟩,?_,?_,jP a0U.o (dV _ 1) _⟩
        ·rw[hz'.o.2,hz'.o.1];rfl
        ·rw[hz'.o.2];exact GY.but aT0.o (X7 wc _) FR.o (by decide) (by decide)
       ·have e9:(ck != 0)=true:=by simpa using hc0
        have hc:=a7K a1R.o (by rw[aBZ.o];exact hc0);clear hc0 L6 hEc;obtain⟨FR,a0U,hc'⟩:=aG hRc h0c hc;clear hRc h0c hc;go_wp2_with (refine wpList_store_row rfl 61 (.tmp 2) (.tmp 82) rfl (w.heap.size+1) #[.int .i64 0,.slice none 0 0,.slice none 0 0,.slice none 0 0,.slice none 0 0,.slice none 0 0,.slice none 0 0,.slice none 0 0] rfl rfl 61 _ FR.o (by kernel_rfl) rfl (by kernel_rfl) ?_)
        refine bodyPost_ret (jL rfl _ _ (w.heap.size+1) 61 #[.int .i64 0,.slice none 0 0,.slice none 0 0,.slice none 0 0,.slice none 0 0,.slice none 0 0,.slice none 0 0,.slice none 0 0] _ rfl (FR.o.row _) Tryz.underlying61 rfl (by kernel_rfl)) rfl ?_;refine⟨a6L,?_,?_,jP a0U.o (dV _ 1) _⟩
        ·rw[hc'.o.2,hc'.o.1];rfl
        ·rw[hc'.o.2];exact GY.zero _ _
