import Derived.Test.YtceclmpmpldmlaaGreatCz38
import Derived.Test.YtceclmpmpldmlaaGreatCz39
set_option linter.unusedSimpArgs false
set_option linter.unusedVariables false
namespace Go.Proofs.YtceclmpmpldmlaaGreat
open Go.RowKit Tt
structure b8P (ds:List (jD 16)):Prop where
 SI:∀d∈ds,pU 16 d
 small:∀d∈ds,lC 16 d
 flat:(lX 16 ds).length<1000
 len:ds.length≤500
theorem vU.rdl {X:Nat→Prop} {B:Nat} {w:World} {a:Option Addr} {m c:Nat} {ds:List (jD 16)} (h:vU X B w (.slice a m c) ds):DJ 16 w a m c ds∧m=ds.length:=by
 obtain⟨tF,h1,h2,h3⟩:=h;have hs:=Ck.sl h2;have hm:=hs.uY qA (by decide);exact⟨⟨tF,h1,hs,fun i hi hi'=>(h3 i hi hi').rd⟩,by omega⟩
set_option maxRecDepth 20000 in
set_option maxHeartbeats 4000000 in
theorem VI (hD:aC3) (a:Option Addr) (n c:Nat) (z:List Int) (w:World) (hs:Sl w a n c 1 (ints .u8 z)) (hby:mW z) (hn:n≤1000000000) (hok:∀ds s,qF z qW= .ok (ds,s)→b8P ds):
  Calls Tryz.prog 36 #[.slice a n c] w fun e w'=>∃A,e= .returned (.tuple #[exV (E5 z).o A,.int .i64 (FQ z)])∧GY w.heap.size w' (E5 z) A∧Below w.heap.size w w':=by
 obtain⟨R,hR⟩:=aC (qF z qW);have hRC:FQ z=bFV (kN z) R:=by unfold FQ;rw[hR]
 have hRE:E5 z=bFW (kN z) R:=by unfold E5;rw[hR]
 have hx:∀x,qF z qW= .error x→x≠0:=fun x e=>aC7 e;have bHP:=fun W a3 zs3 (hb:Below w.heap.size w W) hsh (hzs:jN zs3=qW)=>aYY hD a n c z a3 5 5 zs3 W (hs.mono hb) hsh hby hn (by rw[hzs];exact hx);rw[hR]at hok hx;obtain⟨oo,hoo⟩:=aC (kN z);rw[hoo]at hRC hRE;have bR:=jJ.new w 61 #[.int .i64 0,.slice none 0 0,.slice none 0 0,.slice none 0 0,.slice none 0 0,.slice none 0 0,.slice none 0 0,.slice none 0 0];have hb:=aD w (.cells #[.int .i64 0,.slice none 0 0,.slice none 0 0,.slice none 0 0,.slice none 0 0,.slice none 0 0,.slice none 0 0,.slice none 0 0] 61);obtain⟨W,hW⟩:∃X,w.alloc (.cells #[.int .i64 0,.slice none 0 0,.slice none 0 0,.slice none 0 0,.slice none 0 0,.slice none 0 0,.slice none 0 0,.slice none 0 0] 61)=X:=⟨_,rfl⟩;rw[hW]at bR hb;obtain⟨hs',rZ⟩:=aF hs hby;obtain⟨hok',hx',b1Z,bHQ,bHR,hR',aYZ,bR',hb',hW'⟩:=aN hok hx bHP hRC hRE hR hoo bR hb hW;clear hs hby hok hx bHP hRC hRE hR hoo bR hb hW;go_enter Tryz.func36,Tryz.ntmps36;go_upto_region 1 with fail
 rw[hW'.o];go_wp2_with fail
 refine(DW W).mono ?_;rintro e w1 ⟨a3,zs3,rfl,hsh,hzs,hb1⟩;have wI:=hb'.o.tm hb1;have hW1:=b1Z.o w1 a3 zs3 wI hsh hzs;have bR1:=bR'.o.late hb1;rw[hzs,hR'.o,aYZ.o]at hW1;clear hsh hzs hb1 bR' hb' b1Z hR' aYZ;obtain⟨qC,hW1',KI⟩:=aG wI hW1 bR1;clear wI hW1 bR1;go_wp2_with fail
 refine hW1'.o.mono ?_;rintro e w2 hpost;cases R with
 |error x=>
  obtain⟨rfl,hb2⟩:=hpost;have hal:=aD w2 (.cells #[.int .i64 0,.slice none 0 0] 39);obtain⟨w3,hw3⟩:∃X,w2.alloc (.cells #[.int .i64 0,.slice none 0 0] 39)=X:=⟨_,rfl⟩;rw[hw3]at hal;have h13:=hb2.tm hal;have bR3:=KI.o.late h13;have EF:=qC.o.tm h13;have hx0:(x != 0)=true:=by have:=hx'.o x rfl;simpa using this
  have hc:FQ z=x∧E5 z=exZ:=⟨bHQ.o,bHR.o⟩;clear hb2 hal h13;obtain⟨WE,aFJ,vZ,hc'⟩:=aH hw3 bR3 EF hc;clear hw3 bR3 EF hc;go_upto_region 2 with fail
  try rw[WE.o]
  go_wp2_with (refine wpList_store_row rfl 61 (.tmp 2) (.tmp 16) rfl w.heap.size #[.int .i64 0,.slice none 0 0,.slice none 0 0,.slice none 0 0,.slice none 0 0,.slice none 0 0,.slice none 0 0,.slice none 0 0] rfl rfl 61 _ aFJ.o (by kernel_rfl) rfl (by kernel_rfl) ?_)
  refine bodyPost_ret (jL rfl _ _ w.heap.size 61 #[.int .i64 0,.slice none 0 0,.slice none 0 0,.slice none 0 0,.slice none 0 0,.slice none 0 0,.slice none 0 0,.slice none 0 0] _ rfl (aFJ.o.row _) Tryz.underlying61 rfl (by kernel_rfl)) rfl ?_;refine⟨a6L,?_,?_,jP vZ.o (aU _) _⟩
  ·rw[hc'.o.2,hc'.o.1];rfl
  ·rw[hc'.o.2];exact GY.zero _ _
 |ok r=>
  obtain⟨ds,s⟩:=r;obtain⟨am,m,cm,bk,kk,dk,rfl,hb2,hD,_⟩:=hpost;obtain⟨hDR,hml⟩:=hD.rdl;have ht:=hok'.o ds s rfl;have bT:=jJ.new w2 39 #[.int .i64 oo,.slice am m cm];have hal:=aD w2 (.cells #[.int .i64 oo,.slice am m cm] 39);obtain⟨w3,hw3⟩:∃X,w2.alloc (.cells #[.int .i64 oo,.slice am m cm] 39)=X:=⟨_,rfl⟩;rw[hw3]at hal bT;have h13:=hb2.tm hal;have bR3:=KI.o.late h13;have EF:=qC.o.tm h13;obtain⟨gt,hgt⟩:∃k,w2.heap.size=k:=⟨_,rfl⟩;rw[hgt]at bT;have k0:w3.cell? ⟨gt,0,none⟩=some (.int .i64 oo):=bT.cell rfl;have k1:w3.cell? ⟨gt,1,none⟩=some (.slice am m cm):=bT.cell rfl;have hOf:=aM9 oo am m cm ds w3 (hDR.mono (by rw[←hw3];exact aD w2 _)) ht.SI ht.small ht.flat (by rw[hml];exact ht.len);have hc:FQ z=ZP 16 oo ds∧E5 z=ofE 16 oo ds:=⟨bHQ.o,bHR.o⟩;clear hb2 hal h13 hD hDR hml bT;obtain⟨WE,NZ,aFJ,vZ,hc',b7D,ht'⟩:=aK hw3 hgt bR3 EF hc hOf ht;clear hw3 hgt bR3 EF hc hOf ht;go_upto_region 2 with fail
  try rw[NZ.o]
  try rw[WE.o]
  go_wp2_with fail
  refine b7D.o.mono ?_;rintro e w4 ⟨⟨z1,z2,z3,p1,p2,p3,g1,g2,g3,i1,i2,i3,f1,f2,f3,m1,m2,m3,t1,t2,t3⟩,rfl,hO4,hb4⟩;have bR4:=aFJ.o.late hb4;have JJ:=vZ.o.tm hb4;have hO5:=hO4.mono vZ.o.size;obtain⟨X,hX⟩:=aC (ofE 16 oo ds);rw[hX]at hO5;have hXo:(ofE 16 oo ds).o=X.o:=by rw[hX]
  clear hb4 hO4;obtain⟨KL,oP,bP5,hX'⟩:=aH bR4 JJ hO5 hX;clear bR4 JJ hO5 hX;simp only[exV,OI,hXo];clear hXo k0 k1;go_wp2_with (refine wpList_store_row rfl 61 (.tmp 2) (.tmp 20) rfl w.heap.size #[.int .i64 X.o,.slice z1 z2 z3,.slice p1 p2 p3,.slice g1 g2 g3,.slice i1 i2 i3,.slice f1 f2 f3,.slice m1 m2 m3,.slice t1 t2 t3] rfl rfl 61 _ KL.o (by kernel_rfl) rfl (by kernel_rfl) ?_)
  refine bodyPost_ret (jL rfl _ _ w.heap.size 61 #[.int .i64 X.o,.slice z1 z2 z3,.slice p1 p2 p3,.slice g1 g2 g3,.slice i1 i2 i3,.slice f1 f2 f3,.slice m1 m2 m3,.slice t1 t2 t3] _ rfl (KL.o.row _) Tryz.underlying61 rfl (by kernel_rfl)) rfl ?_;refine⟨⟨z1,z2,z3,p1,p2,p3,g1,g2,g3,i1,i2,i3,f1,f2,f3,m1,m2,m3,t1,t2,t3⟩,?_,?_,jP oP.o (aU _) _⟩
  ·rw[hc'.o.2,hc'.o.1,hX'.o];rfl
  ·rw[hc'.o.2,hX'.o];exact GY.but bP5.o (X7 w4 _) KL.o (by decide) (by decide)
theorem aTN {z:List Int} (hb:mW z) (hz:z.length≤6000) {L:List lV} {ds:List (jD 16)} {s:St} (h:qF z L= .ok (ds,s)):∀x∈tH 16 ds,x.2.2.2≤z.length:=by
 rw[←QT]at h;have k1:=yU (a3O z.length) h (fun x hx=>by cases hx);have k3:=yU (a3N z.length) h (by show(0:Int)≤_;omega);have k4:=a7D z.length (fun k=>lD s k);have k5:=a7F s.jQ fun x hx=>(k1 x hx).1;have bFT:s.jQ.length≤z.length:=by omega
 have hh:=h;unfold C9 at hh;split at hh
 ·rename_i hL;cases hd:u7 z with
  |error e=>rw[hd]at hh;cases hh
  |ok s0=>
   rw[hd]at hh;simp only at hh;have hd':=hd;unfold u7 at hd;split at hd
   ·split at hd
    ·rename_i Z6;obtain⟨_,_,hs0⟩:=pX hd;have ho:kN z=1∨kN z=2:=by
      rcases GV z with e|e
      ·rw[e]at Z6;omega
      ·exact e
     obtain⟨us,e1,e2,e3,e4,e5⟩:=KU hb ho hL hz 18 [] _ 0 s0 ds s hh rfl (by rw[hs0];decide) (by rw[hs0];simp) (by omega);rw[eG]at e1;subst e1;have hit:s.jQ.map uV=tH 16 ds:=by rw[e2,hs0];rfl
     intro x hx;rw[←hit]at hx;obtain⟨y,hy,rfl⟩:=cB.1 hx;have:=k1 y hy;show y.2.2.2.2≤_
     omega
    ·cases hd
   ·cases hd
 ·cases hh
def a1X (ts:List nC):Prop:=ts.length≤200∧∀t∈ts,t.2.2.2.length≤2000
def S9:(f:Nat)→jD f→Prop
 |0,_=>True
 |f+1,d=>a1X d.1∧d.2.2.length≤2000∧∀s∈d.2.1,S9 f s.2
theorem a0Z {f:Nat} (ih:∀(d:jD f) (no:Int),(∀x∈mU f d no,x.2.2.2≤2000)→(∀x∈jT f d,x.1.all II=true)→S9 f d):∀(ss:List (Int×jD f)) (n:Int),(∀x∈nA (mU f) ss n,x.2.2.2≤2000)→(∀s∈ss,∀x∈jT f s.2,x.1.all II=true)→∀s∈ss,S9 f s.2
 | [],_,_,_,s,hs=>by cases hs
 |a::ss,n,h1,h2,s,hs=>by
  have e:nA (mU f) (a::ss) n=mU f a.2 n++nA (mU f) ss (n+(jT f a.2).length):=rfl;rw[e]at h1;rcases bQ.1 hs with rfl|hs
  ·exact ih s.2 n (fun x hx=>h1 x (List.mem_append_left _ hx)) (h2 s bJ)
  ·exact a0Z ih ss _ (fun x hx=>h1 x (List.mem_append_right _ hx)) (fun t ht=>h2 t (aZ _ ht)) s hs
theorem aTO:∀(f:Nat) (d:jD f) (no:Int),(∀x∈mU f d no,x.2.2.2≤2000)→(∀x∈jT f d,x.1.all II=true)→S9 f d
 |0,_,_,_,_=>trivial
 |f+1,d,no,hi,hk=>by
  rw[nN]at hi;have hkd:=hk (d.1,d.2.1.length,d.2.2) (by rw[lN];exact bJ ..);have hks:∀s∈d.2.1,∀x∈jT f s.2,x.1.all II=true:=fun s hs x hx=>hk x (by rw[lN];exact aZ _ (dK.2 ⟨s,hs,hx⟩));have he:(6:Int)+12*((mQ d.1.length d.2.1.length d.2.2.length:Nat):Int)≤2000:=hi _ bJ;have hen:d.1.length≤mQ d.1.length d.2.1.length d.2.2.length:=by unfold mQ;split <;> omega
  refine⟨⟨by omega,fun t ht=>?_⟩,?_,a0Z (aTO f) d.2.1 (no+1) (fun x hx=>hi x (aZ _ (List.mem_append_right _ (List.mem_append_left _ hx)))) hks⟩
  ·have hm:=a1N (cZ.1 hkd t ht) (o:=1) (.inl rfl);have hl:=hm.long;by_cases hp:0<AU t
   ·have h1:AU t≤2000:=hi (3,no,t.1,AU t) (aZ _ (List.mem_append_left _ (by
     unfold wY;exact cB.2 ⟨t,eZ.2 ⟨ht,by simpa using hp⟩,rfl⟩)))
    unfold AU oL at h1 hp;rw[hl]at h1 hp;split at hp
    ·rename_i hc;rw[if_pos hc]at h1;omega
    ·omega
   ·unfold AU oL at hp;rw[hl]at hp;split at hp
    ·omega
    ·omega
  ·by_cases hp:0<d.2.2.length
   ·have h1:((d.2.2.length:Nat):Int)≤2000:=hi (4,no,0,(d.2.2.length:Int)) (aZ _ (List.mem_append_right _ (List.mem_append_right _ (by
     unfold D8;rw[if_pos hp];exact bJ ..))))
    omega
   ·omega
theorem aTP {z:List Int} (hb:mW z) (hz:z.length≤2000) {L:List lV} {ds:List (jD 16)} {s:St} (h:qF z L= .ok (ds,s)):∀d∈ds,S9 16 d:=by
 have hi:=aTN hb (by omega) h;have hk:=a7H hb (by omega) h;have hok:=(GQ hk.chk hk.SI).fit;unfold IL ER at hok;simp only[bF]at hok;have hall:∀x∈lX 16 ds,x.1.all II=true:=fun x hx=>by
  have:=cZ.1 hok.1 x hx;unfold okF at this;simp only[bF]at this;exact this.2
 have e1:tH 16 ds=(1, -1,0,8)::nA (mU 16) (wL 16 ds) 0:=rfl;rw[e1]at hi;have h2:=a0Z (aTO 16) (wL 16 ds) 0 (fun x hx=>by have:=hi x (aZ _ hx);omega) (fun s hs x hx=>by
  obtain⟨d,hd,rfl⟩:=cB.1 hs;exact hall x (dK.2 ⟨d,hd,hx⟩))
 exact fun d hd=>h2 (0,d) (cB.2 ⟨d,hd,rfl⟩)
theorem MG:a1X []:=⟨by simp,fun t ht=>by cases ht⟩
theorem aTQ:∀f,S9 f (jS f)
 |0=>trivial
 |f+1=>⟨MG,by show(0:Nat)≤2000;omega,fun s hs=>by cases hs⟩
theorem aC8 {f:Nat} {ds:List (jD f)} (h:∀d∈ds,S9 f d) (i:Nat):S9 f (ds.getD i (jS f)):=by
 rw[aV];cases hi:ds[i]? with
 |none=>exact aTQ f
 |some d=>exact h d (List.mem_of_getElem? hi)
theorem UJ:∀{f:Nat} {d:jD f},S9 f d→a1X (rX f d)
 |0,_,_=>MG
 |_+1,_,h=>h.1
theorem aC9 {f:Nat} {d:jD (f+1)} (h:S9 (f+1) d) {t:Int} {s:Int×jD f} (hs:d.2.1.find? (fun s=>s.1==t)=some s):S9 f s.2:=h.2.2 s (List.mem_of_find?_eq_some hs)
theorem MH:∀{f:Nat} {d:jD f} (t:Int),S9 f d→a1X (rE f d t)
 |0,_,_,_=>MG
 |f+1,d,t,h=>by
  show a1X (RB f (d.2.1.find? (fun s=>s.1==t)))
  cases hs:d.2.1.find? (fun s=>s.1==t)with
  |none=>exact MG
  |some s=>exact UJ (aC9 h hs)
theorem aGG:∀{f:Nat} {d:jD f} (t u:Int),S9 f d→a1X (KH f d t u)
 |0,_,_,_,_=>MG
 |f+1,d,t,u,h=>by
  show a1X (U1 f u (d.2.1.find? (fun s=>s.1==t)))
  cases hs:d.2.1.find? (fun s=>s.1==t)with
  |none=>exact MG
  |some s=>exact MH u (aC9 h hs)
theorem aTR:∀{f:Nat} {d:jD f},S9 f d→(aB3 f d).length≤2000
 |0,_,_=>by show(0:Nat)≤2000;omega
 |_+1,_,h=>h.2.1
theorem aTS {ts:List nC} (h:a1X ts) (t:Int):a1X (qL ts t):=by
 unfold qL;exact⟨bK (List.length_filter_le _ _) h.1,fun x hx=>h.2 x (eZ.1 hx).1⟩
theorem aME {ts:List nC} (h:a1X ts) (t:Int):(nO ts t).2.2.2.length≤2000:=by
 unfold nO;split
 ·rename_i y hy;exact h.2 y (List.mem_of_find?_eq_some hy)
 ·show(0:Nat)≤2000;omega
structure AgE (x:oN):Prop where
 chk:kY x=0
 sml:tJ x
 dt2:b80 x
 wf:WfE x
 SI:a1Q x
 dat:aQO x
theorem b8Q {z:List Int} (hb:mW z) (hz:z.length≤2000) (h:FQ z=0):AgE (E5 z):=by
 unfold FQ at h;unfold E5;cases hr:qF z qW with
 |error e=>
  rw[hr]at h;exact absurd h (aC7 hr)
 |ok r=>
  obtain⟨ds,s⟩:=r;rw[hr]at h;have h:ZP 16 (kN z) ds=0:=h;show AgE (ofE 16 (kN z) ds)
  have hl:=aTP hb hz hr;unfold ofE;rw[if_pos h];have hc:kY (rY 16 (kN z) ds)=0:=by
   unfold ZP at h;split at h
   ·split at h
    ·cases h
    ·split at h
     ·assumption
     ·cases h
   ·cases h
  have l0:=aC8 hl 0;have l1:=aC8 hl 1;have qz:=UJ l0;have qp:=aTS (MH 34665 l0) 37500;have qg:=MH 34853 l0;have qi:=aGG 34665 40965 l0;have qf:=UJ l1;have qm:=aME (MH 34665 l0) 37500;have qt:=aTR l1;have hk:=a7H hb (by omega) hr;obtain⟨fw,fb,fd⟩:=aIC (aSC hk.chk) hk.SI;exact⟨hc,⟨bK qz.1 (by decide),bK qp.1 (by decide),bK qg.1 (by decide),bK qi.1 (by decide),bK qf.1 (by decide),bK qm (by decide),bK qt (by decide)⟩,
   ⟨qz.2,qp.2,qg.2,qi.2,qf.2,qm⟩,fw,fb,fd⟩
theorem aGH {z:List Int} (h:FQ z≠0):E5 z=exZ:=by
 unfold FQ at h;unfold E5;cases hr:qF z qW with
 |error e=>rfl
 |ok r=>
  obtain⟨ds,s⟩:=r;rw[hr]at h;have h:ZP 16 (kN z) ds≠0:=h;show ofE 16 (kN z) ds=exZ
  unfold ofE;rw[if_neg h]
