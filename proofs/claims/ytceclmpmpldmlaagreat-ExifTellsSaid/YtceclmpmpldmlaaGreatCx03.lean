import Derived.Test.YtceclmpmpldmlaaGreatCx02
set_option linter.unusedSimpArgs false
set_option linter.unusedVariables false
set_option maxRecDepth 100000
set_option maxHeartbeats 8000000
namespace Go.Proofs.YtceclmpmpldmlaaGreat
open Go.RowKit Tt
theorem aPA (b:Nat) (dir:Int) (l:List EQ) (w:World) (hr:Rules w b l) (hd:(Lit.int .i64 dir).wf=true) (hl:∀x∈l,x.1.1≠dir):
  Calls Tryz.prog 196 #[.func (.func 193) #[.agg #[.map (some b),.int .i64 dir]] #[]] w fun e w'=>e= .returned (.tuple #[])∧Rules w' b (l++qO dir sI)∧kN b w w':=by
 have R0:Hid (Rules w b (l++qO dir (sI.take 0))):=aA (by simpa [qO] using hr);have B0:Hid (kN b w w):=aA (kN.refl _ _);obtain⟨Hl,Hd⟩:=aJ hl hd;clear hr hl hd;go_enter Tryz.func196,Tryz.ntmps196;go_wp2_with fail
 refine(kT b dir sI vJ l Hd.o Hl.o 0 _ _ [7] rfl aH _ _ _ _ (R0.o.mono ((aY _ _).alloc (aZ _) _)) (Sl.new w 3 1 1 #[.int .i64 7] (0,0) aH rfl)).mono ?_;rintro e x1 ⟨rfl,rx1,bx1⟩;have Rx1:=aA rx1;have Bx1:Hid (kN b w x1):=aA ((B0.o.alloc _).trans bx1);clear rx1 bx1;go_wp2;go_loopw [12] (fun i wr=>∃(k:Nat) (ki:Int),k≤3∧ki=k∧i= .int .i64 ki∧Hid (Rules wr b (l++qO dir (sI.take (1+k))))∧Hid (kN b w wr)) (fun i _=>3 - (intOf i).toNat)
 case atStart=>exact⟨0,0,by omega,rfl,rfl,Rx1,Bx1⟩
 case round=>
  obtain⟨k,ki,hk,rC,rfl,hR,hB⟩:=hrel;rename World=>v2
  by_cases kD:k<3
  ·rcases(by omega:k=0∨k=1∨k=2)with rfl|rfl|rfl
   ·obtain rfl:ki=0:=by omega
    clear hk kD rC;have pQ:∀W,(Instr.index 48 (.agg #[.int .i64 45313,.int .i64 45569,.int .i64 45570]) (.int .i64 0)).run Tryz.prog W= .ok (.int .i64 45313) W:=fun W=>by kernel_rfl
    go_wp2_with fail
    refine(kT b dir sI vJ l Hd.o Hl.o 1 _ _ [4] rfl aH _ _ _ _ (hR.o.mono ((aY _ _).alloc (aZ _) _)) (Sl.new v2 3 1 1 #[.int .i64 4] (0,0) aH rfl)).mono ?_;rintro e yy ⟨rfl,o9,oC⟩;have tJ:=aA o9;have tK:Hid (kN b w yy):=aA ((hB.o.alloc _).trans oC);clear o9 oC;go_wp2;go_roundw
    case rel=>exact⟨1,1,by omega,rfl,rfl,tJ,tK⟩
    case measure=>simp[intOf]
   ·obtain rfl:ki=1:=by omega
    clear hk kD rC;have pQ:∀W,(Instr.index 48 (.agg #[.int .i64 45313,.int .i64 45569,.int .i64 45570]) (.int .i64 1)).run Tryz.prog W= .ok (.int .i64 45569) W:=fun W=>by kernel_rfl
    go_wp2_with fail
    refine(kT b dir sI vJ l Hd.o Hl.o 2 _ _ [4] rfl aH _ _ _ _ (hR.o.mono ((aY _ _).alloc (aZ _) _)) (Sl.new v2 3 1 1 #[.int .i64 4] (0,0) aH rfl)).mono ?_;rintro e yy ⟨rfl,o9,oC⟩;have tJ:=aA o9;have tK:Hid (kN b w yy):=aA ((hB.o.alloc _).trans oC);clear o9 oC;go_wp2;go_roundw
    case rel=>exact⟨2,2,by omega,rfl,rfl,tJ,tK⟩
    case measure=>simp[intOf]
   ·obtain rfl:ki=2:=by omega
    clear hk kD rC;have pQ:∀W,(Instr.index 48 (.agg #[.int .i64 45313,.int .i64 45569,.int .i64 45570]) (.int .i64 2)).run Tryz.prog W= .ok (.int .i64 45570) W:=fun W=>by kernel_rfl
    go_wp2_with fail
    refine(kT b dir sI vJ l Hd.o Hl.o 3 _ _ [4] rfl aH _ _ _ _ (hR.o.mono ((aY _ _).alloc (aZ _) _)) (Sl.new v2 3 1 1 #[.int .i64 4] (0,0) aH rfl)).mono ?_;rintro e yy ⟨rfl,o9,oC⟩;have tJ:=aA o9;have tK:Hid (kN b w yy):=aA ((hB.o.alloc _).trans oC);clear o9 oC;go_wp2;go_roundw
    case rel=>exact⟨3,3,by omega,rfl,rfl,tJ,tK⟩
    case measure=>simp[intOf]
  ·obtain rfl:k=3:=by omega
   obtain rfl:ki=3:=by omega
   clear hk kD rC;have R2:=hR;have B2:=hB;clear hR hB;go_wp2;go_loopw [21] (fun i wr=>∃(k:Nat) (ki:Int),k≤2∧ki=k∧i= .int .i64 ki∧Hid (Rules wr b (l++qO dir (sI.take (4+k))))∧Hid (kN b w wr)) (fun i _=>2 - (intOf i).toNat)
   case atStart=>exact⟨0,0,by omega,rfl,rfl,R2,B2⟩
   case round=>
    obtain⟨k,ki,hk,rC,rfl,hR,hB⟩:=hrel;rename World=>v3
    by_cases kD:k<2
    ·rcases(by omega:k=0∨k=1)with rfl|rfl
     ·obtain rfl:ki=0:=by omega
      clear hk kD rC;have pQ:∀W,(Instr.index 288 (.agg #[.int .i64 45572,.int .i64 45574]) (.int .i64 0)).run Tryz.prog W= .ok (.int .i64 45572) W:=fun W=>by kernel_rfl
      go_wp2_with fail
      refine(kT b dir sI vJ l Hd.o Hl.o 4 _ _ [5] rfl aH _ _ _ _ (hR.o.mono ((aY _ _).alloc (aZ _) _)) (Sl.new v3 3 1 1 #[.int .i64 5] (0,0) aH rfl)).mono ?_;rintro e yy ⟨rfl,o9,oC⟩;have tJ:=aA o9;have tK:Hid (kN b w yy):=aA ((hB.o.alloc _).trans oC);clear o9 oC;go_wp2;go_roundw
      case rel=>exact⟨1,1,by omega,rfl,rfl,tJ,tK⟩
      case measure=>simp[intOf]
     ·obtain rfl:ki=1:=by omega
      clear hk kD rC;have pQ:∀W,(Instr.index 288 (.agg #[.int .i64 45572,.int .i64 45574]) (.int .i64 1)).run Tryz.prog W= .ok (.int .i64 45574) W:=fun W=>by kernel_rfl
      go_wp2_with fail
      refine(kT b dir sI vJ l Hd.o Hl.o 5 _ _ [5] rfl aH _ _ _ _ (hR.o.mono ((aY _ _).alloc (aZ _) _)) (Sl.new v3 3 1 1 #[.int .i64 5] (0,0) aH rfl)).mono ?_;rintro e yy ⟨rfl,o9,oC⟩;have tJ:=aA o9;have tK:Hid (kN b w yy):=aA ((hB.o.alloc _).trans oC);clear o9 oC;go_wp2;go_roundw
      case rel=>exact⟨2,2,by omega,rfl,rfl,tJ,tK⟩
      case measure=>simp[intOf]
    ·obtain rfl:k=2:=by omega
     obtain rfl:ki=2:=by omega
     clear hk kD rC;have R3:=hR;have B3:=hB;clear hR hB;go_wp2;go_loopw [30] (fun i wr=>∃(k:Nat) (ki:Int),k≤2∧ki=k∧i= .int .i64 ki∧Hid (Rules wr b (l++qO dir (sI.take (6+k))))∧Hid (kN b w wr)) (fun i _=>2 - (intOf i).toNat)
     case atStart=>exact⟨0,0,by omega,rfl,rfl,R3,B3⟩
     case round=>
      obtain⟨k,ki,hk,rC,rfl,hR,hB⟩:=hrel;rename World=>v4
      by_cases kD:k<2
      ·rcases(by omega:k=0∨k=1)with rfl|rfl
       ·obtain rfl:ki=0:=by omega
        clear hk kD rC;have pQ:∀W,(Instr.index 288 (.agg #[.int .i64 45573,.int .i64 45576]) (.int .i64 0)).run Tryz.prog W= .ok (.int .i64 45573) W:=fun W=>by kernel_rfl
        go_wp2_with fail
        refine(kT b dir sI vJ l Hd.o Hl.o 6 _ _ [10] rfl aH _ _ _ _ (hR.o.mono ((aY _ _).alloc (aZ _) _)) (Sl.new v4 3 1 1 #[.int .i64 10] (0,0) aH rfl)).mono ?_;rintro e yy ⟨rfl,o9,oC⟩;have tJ:=aA o9;have tK:Hid (kN b w yy):=aA ((hB.o.alloc _).trans oC);clear o9 oC;go_wp2;go_roundw
        case rel=>exact⟨1,1,by omega,rfl,rfl,tJ,tK⟩
        case measure=>simp[intOf]
       ·obtain rfl:ki=1:=by omega
        clear hk kD rC;have pQ:∀W,(Instr.index 288 (.agg #[.int .i64 45573,.int .i64 45576]) (.int .i64 1)).run Tryz.prog W= .ok (.int .i64 45576) W:=fun W=>by kernel_rfl
        go_wp2_with fail
        refine(kT b dir sI vJ l Hd.o Hl.o 7 _ _ [10] rfl aH _ _ _ _ (hR.o.mono ((aY _ _).alloc (aZ _) _)) (Sl.new v4 3 1 1 #[.int .i64 10] (0,0) aH rfl)).mono ?_;rintro e yy ⟨rfl,o9,oC⟩;have tJ:=aA o9;have tK:Hid (kN b w yy):=aA ((hB.o.alloc _).trans oC);clear o9 oC;go_wp2;go_roundw
        case rel=>exact⟨2,2,by omega,rfl,rfl,tJ,tK⟩
        case measure=>simp[intOf]
      ·obtain rfl:k=2:=by omega
       obtain rfl:ki=2:=by omega
       clear hk kD rC;have R4:=hR;have B4:=hB;clear hR hB;go_wp2;go_end0
       exact⟨rfl,R4.o,B4.o⟩
def AX:List (Int×List Int×Int):= [(1, [2],4),(2, [7],4)]
theorem UJ:(AX.map (·.1)).Nodup:=by decide
def Q5:List EQ:= []++qO 0 lQ++qO 1 lQ++qO 2 kL++qO 3 yE++qO 4 AX++qO 5 sI
theorem aPB {d:Int} {ts:List (Int×List Int×Int)} {x:EQ} (h:x∈qO d ts):x.1.1=d:=by
 unfold qO at h;obtain⟨y,_,rfl⟩:=dG.1 h;rfl
theorem KS (box m:Nat) (dir:Int) (w:World) (hc:w.cell? ⟨box,0,none⟩=some (.map (some m))):
  Calls Tryz.prog 191 #[.int .i64 dir,.pointer (some ⟨box,0,none⟩)] w fun e w'=>e= .returned (.agg #[.map (some m),.int .i64 dir])∧Below w.heap.size w w':=by
 have kD:box<w.heap.size:=World.block_lt_of_cell? w ⟨box,0,none⟩ hc;go_enter Tryz.func191,Tryz.ntmps191;go_wp2;refine bodyPost_ret (results_cell_row rfl _ _ w.heap.size 253 #[.map (some m),.int .i64 dir] (0,0) _ rfl (mZ w _) Tryz.underlying253 rfl aF) rfl ?_;exact⟨rfl,(aY _ _).alloc (aZ _) _⟩
theorem qP {l:List EQ} {d d':Int} {ts:List (Int×List Int×Int)} (hl:∀x∈l,x.1.1≠d) (oJ:d'≠d):∀x∈l++qO d' ts,x.1.1≠d:=by
 intro x hx;rcases bP.1 hx with h|h
 ·exact hl x h
 ·rw[aPB h];exact oJ
theorem aM6 (w:World):
  Calls Tryz.prog 132 #[] w fun e w'=>∃b,e= .returned (.map (some b))∧w.heap.size≤b∧Rules w' b Q5∧Below w.heap.size w w':=by
 have UA:= @run_makeMap Tryz.prog;go_enter Tryz.func132,Tryz.ntmps132;go_wp2_with fail
 have r0:Rules ((w.alloc (.map #[] 0)).alloc (.cells #[.map (some w.heap.size)] 198)) w.heap.size []:=(Rules.made w).mono ((aY _ _).alloc (aZ _) _);have c0:((w.alloc (.map #[] 0)).alloc (.cells #[.map (some w.heap.size)] 198)).cell? ⟨w.heap.size+1,0,none⟩=some (.map (some w.heap.size)):=by
  have h:=mZ (w.alloc (.map #[] 0)) (.cells #[.map (some w.heap.size)] 198);have e:(w.alloc (.map #[] 0)).heap.size=w.heap.size+1:=by simp
  rw[e]at h;unfold World.cell?;rw[h];rfl
 have b0:Below w.heap.size w ((w.alloc (.map #[] 0)).alloc (.cells #[.map (some w.heap.size)] 198)):=((aY _ _).alloc (aZ _) _).alloc (by simp) _;have s0:w.heap.size+1<((w.alloc (.map #[] 0)).alloc (.cells #[.map (some w.heap.size)] 198)).heap.size:=by simp
 generalize ((w.alloc (.map #[] 0)).alloc (.cells #[.map (some w.heap.size)] 198))=w0 at*;have aJK:∀d:Int,∀x∈([]:List EQ),x.1.1≠d:=fun d x hx=>by cases hx
 obtain⟨N,hN⟩:∃N,N=w.heap.size:=⟨_,rfl⟩;rw[←hN]at r0 c0 b0 s0 ⊢;obtain⟨HN,HB0⟩:=aJ hN b0;clear hN UA b0;have bb0:kN N w0 w0:=kN.refl _ _;have wC:N+1<w0.heap.size:=by have:=bb0.size;omega
 have hc0:w0.cell? ⟨N+1,0,none⟩=some (.map (some N)):=by rw[bb0.cell (p:=⟨N+1,0,none⟩) s0 (by simp)];exact c0
 go_wp2_with fail
 refine(KS (N+1) N 0 w0 hc0).mono ?_;rintro e v0 ⟨rfl,q0⟩;have m0:=r0.mono q0;have bq0:kN N w0 v0:=bb0.trans (kN.of_below q0);clear q0 hc0 wC;go_wp2_with fail
 refine(a7D N 0 _ v0 m0 aH (aJK 0)).mono ?_;rintro e u0 ⟨rfl,r1,x0⟩;have bb1:kN N w0 u0:=bq0.trans x0;clear m0 bq0 x0;have IY:N+1<u0.heap.size:=by have:=bb1.size;omega
 have hc1:u0.cell? ⟨N+1,0,none⟩=some (.map (some N)):=by rw[bb1.cell (p:=⟨N+1,0,none⟩) s0 (by simp)];exact c0
 go_wp2_with fail
 refine(KS (N+1) N 1 u0 hc1).mono ?_;rintro e v1 ⟨rfl,q1⟩;have m1:=r1.mono q1;have bq1:kN N w0 v1:=bb1.trans (kN.of_below q1);clear q1 hc1 IY;go_wp2_with fail
 refine(a7D N 1 _ v1 m1 aH (qP (aJK 1) aH)).mono ?_;rintro e u1 ⟨rfl,r2,x1⟩;have bb2:kN N w0 u1:=bq1.trans x1;clear m1 bq1 x1;have BO:N+1<u1.heap.size:=by have:=bb2.size;omega
 have hc2:u1.cell? ⟨N+1,0,none⟩=some (.map (some N)):=by rw[bb2.cell (p:=⟨N+1,0,none⟩) s0 (by simp)];exact c0
 go_wp2_with fail
 refine(KS (N+1) N 2 u1 hc2).mono ?_;rintro e v2 ⟨rfl,q2⟩;have m2:=r2.mono q2;have bq2:kN N w0 v2:=bb2.trans (kN.of_below q2);clear q2 hc2 BO;go_wp2_with fail
 refine(aM5 N 2 _ v2 m2 aH (qP (qP (aJK 2) aH) aH)).mono ?_;rintro e u2 ⟨rfl,r3,x2⟩;have bb3:kN N w0 u2:=bq2.trans x2;clear m2 bq2 x2;have hs3:N+1<u2.heap.size:=by have:=bb3.size;omega
 have hc3:u2.cell? ⟨N+1,0,none⟩=some (.map (some N)):=by rw[bb3.cell (p:=⟨N+1,0,none⟩) s0 (by simp)];exact c0
 go_wp2_with fail
 refine(KS (N+1) N 3 u2 hc3).mono ?_;rintro e v3 ⟨rfl,q3⟩;have m3:=r3.mono q3;have bq3:kN N w0 v3:=bb3.trans (kN.of_below q3);clear q3 hc3 hs3;go_wp2_with fail
 refine(aXR N 3 _ v3 m3 aH (qP (qP (qP (aJK 3) aH) aH) aH)).mono ?_;rintro e u3 ⟨rfl,r4,x3⟩;have bb4:kN N w0 u3:=bq3.trans x3;clear m3 bq3 x3;have hs4:N+1<u3.heap.size:=by have:=bb4.size;omega
 have hc4:u3.cell? ⟨N+1,0,none⟩=some (.map (some N)):=by rw[bb4.cell (p:=⟨N+1,0,none⟩) s0 (by simp)];exact c0
 go_wp2_with fail
 refine(KS (N+1) N 4 u3 hc4).mono ?_;rintro e v4 ⟨rfl,q4⟩;have m4:Rules v4 N (([]++qO 0 lQ++qO 1 lQ++qO 2 kL++qO 3 yE)++qO 4 (AX.take 0)):=by simpa [qO] using (r4.mono q4)
 have bq4:kN N w0 v4:=bb4.trans (kN.of_below q4);clear q4 hc4 hs4;go_wp2_with fail
 refine(kT N 4 AX UJ _ aH (qP (qP (qP (qP (aJK 4) aH) aH) aH) aH) 0 _ _ [2] rfl aH _ _ _ _ (m4.mono ((aY _ _).alloc (aZ _) _)) (Sl.new v4 3 1 1 #[.int .i64 2] (0,0) aH rfl)).mono ?_;rintro e u4 ⟨rfl,r5,x4⟩;have bb5:kN N w0 u4:=(bq4.alloc _).trans x4;clear m4 bq4 x4;have hs5:N+1<u4.heap.size:=by have:=bb5.size;omega
 have hc5:u4.cell? ⟨N+1,0,none⟩=some (.map (some N)):=by rw[bb5.cell (p:=⟨N+1,0,none⟩) s0 (by simp)];exact c0
 go_wp2_with fail
 refine(KS (N+1) N 4 u4 hc5).mono ?_;rintro e v5 ⟨rfl,q5⟩;have m5:=r5.mono q5;have bq5:kN N w0 v5:=bb5.trans (kN.of_below q5);clear q5 hc5 hs5;go_wp2_with fail
 refine(kT N 4 AX UJ _ aH (qP (qP (qP (qP (aJK 4) aH) aH) aH) aH) 1 _ _ [7] rfl aH _ _ _ _ (m5.mono ((aY _ _).alloc (aZ _) _)) (Sl.new v5 3 1 1 #[.int .i64 7] (0,0) aH rfl)).mono ?_;rintro e u5 ⟨rfl,r6,x5⟩;have bb6:kN N w0 u5:=(bq5.alloc _).trans x5;clear m5 bq5 x5;have hs6:N+1<u5.heap.size:=by have:=bb6.size;omega
 have RG:u5.cell? ⟨N+1,0,none⟩=some (.map (some N)):=by rw[bb6.cell (p:=⟨N+1,0,none⟩) s0 (by simp)];exact c0
 go_wp2_with fail
 refine(KS (N+1) N 5 u5 RG).mono ?_;rintro e v6 ⟨rfl,q6⟩;have m6:=r6.mono q6;have bq6:kN N w0 v6:=bb6.trans (kN.of_below q6);clear q6 RG hs6;go_wp2_with fail
 refine(aPA N 5 _ v6 m6 aH (qP (qP (qP (qP (qP (aJK 5) aH) aH) aH) aH) aH)).mono ?_;rintro e u6 ⟨rfl,r7,x6⟩;have bb7:kN N w0 u6:=bq6.trans x6;clear m6 bq6 x6;have hs7:N+1<u6.heap.size:=by have:=bb7.size;omega
 have hc7:u6.cell? ⟨N+1,0,none⟩=some (.map (some N)):=by rw[bb7.cell (p:=⟨N+1,0,none⟩) s0 (by simp)];exact c0
 go_wp2;go_ret;exact⟨N,rfl,by rw[HN.o];exact aZ _,r7,by rw[←HN.o];exact HB0.o.trans (bb7.below (aZ _) aG)⟩
def look (T:List (Int×List Int×Int)) (tag:Int):List Int×Int:=match T.find? (fun r=>r.1==tag)with|some r=>r.2|none=>([], -1)
theorem JB {T:List (Int×List Int×Int)} {tag:Int} (h:∀r∈T,r.1≠tag):look T tag=([], -1):=by
 unfold look;rw[List.find?_eq_none.2 (fun r hr=>by simpa using h r hr)]
theorem aM7 {T:List (Int×List Int×Int)} {tag:Int} (h:look T tag≠([], -1)):∃r∈T,r.1=tag:=by
 unfold look at h;cases hf:T.find? (fun r=>r.1==tag)with
 |none=>rw[hf]at h;exact absurd rfl h
 |some r=>exact⟨r,List.mem_of_find?_eq_some hf,by simpa using List.find?_some hf⟩
def tab (dir:Int):List (Int×List Int×Int):=
 if dir=0 then lQ else if dir=1 then lQ else if dir=2 then kL else if dir=3 then yE else if dir=4 then AX else if dir=5 then sI else []
def qG (dir tag:Int):List Int×Int:=look (tab dir) tag
theorem aFU:∀x∈Q5,qG x.1.1 x.1.2=x.2:=by decide+kernel
theorem aM8 {d t:Int} (h:∀x∈Q5,x.1≠(d,t)):qG d t=([], -1):=by
 rcases Classical.em (qG d t=([], -1))with h0|h0
 ·exact h0
 ·exfalso
  obtain⟨r,hr,rfl⟩:=aM7 h0;have key:∀d':Int,d=d'→r∈tab d'→qO d' (tab d') ⊆ Q5→False:=fun d' hd qX hs=>by
   subst hd;exact h ((d,r.1),(r.2.1,r.2.2)) (hs (dG.2 ⟨r,qX,rfl⟩)) rfl
  by_cases h0:d=0
  ·exact key 0 h0 (h0▸hr) (fun x hx=>by unfold Q5;simp only[bP];exact .inl (.inl (.inl (.inl (.inl (.inr hx))))))
  by_cases h1:d=1
  ·exact key 1 h1 (h1▸hr) (fun x hx=>by unfold Q5;simp only[bP];exact .inl (.inl (.inl (.inl (.inr hx)))))
  by_cases h2:d=2
  ·exact key 2 h2 (h2▸hr) (fun x hx=>by unfold Q5;simp only[bP];exact .inl (.inl (.inl (.inr hx))))
  by_cases h3:d=3
  ·exact key 3 h3 (h3▸hr) (fun x hx=>by unfold Q5;simp only[bP];exact .inl (.inl (.inr hx)))
  by_cases h4:d=4
  ·exact key 4 h4 (h4▸hr) (fun x hx=>by unfold Q5;simp only[bP];exact .inl (.inr hx))
  by_cases h5:d=5
  ·exact key 5 h5 (h5▸hr) (fun x hx=>by unfold Q5;simp only[bP];exact .inr hx)
  ·unfold tab at hr;rw[if_neg h0,if_neg h1,if_neg h2,if_neg h3,if_neg h4,if_neg h5]at hr;cases hr
theorem aPC (W:World) (a b c d:Int):(binOp .eql 261 (WT a b) (WT c d)).run Tryz.prog W= .ok (.bool (a==c&&b==d)) W:=by
 have hs:Tryz.prog.stoodInHeld 261=false:=by kernel_rfl
 unfold WT;rw[run_eql_struct,run_equalIn_agg (ht:=by unfold Program.fieldsOf;rw[Tryz.underlying261]) (hp:=hs)];unfold Program.fieldsOf;rw[Tryz.underlying261];have e1:∀(x y:Int) (W:World),(Op.equalIn 9999 3 (.int .i64 x) (.int .i64 y)).run Tryz.prog W= .ok (x==y) W:=fun x y W=>run_equalIn_int W 9998 _ _ _ x y Tryz.underlying3;have p0:∀(x y:Int) (W:World),(part 3 #[.int .i64 x,.int .i64 y] 0).run Tryz.prog W= .ok (.int .i64 x) W:=fun x y W=>by kernel_rfl
 have p1:∀(x y:Int) (W:World),(part 3 #[.int .i64 x,.int .i64 y] 1).run Tryz.prog W= .ok (.int .i64 y) W:=fun x y W=>by kernel_rfl
 simp[Op.eqFields,e1,p0,p1,Result.andThen];cases h:a==c <;> cases h2:b==d <;> simp_all
theorem a0W (W:World) (a b c d:Int):(binOp .eql 288 (.agg #[.int .i64 a,.int .i64 b]) (.agg #[.int .i64 c,.int .i64 d])).run Tryz.prog W= .ok (.bool (a==c&&b==d)) W:=by
 have e1:∀(x y:Int) (W:World),(Op.equalIn 9999 3 (.int .i64 x) (.int .i64 y)).run Tryz.prog W= .ok (x==y) W:=fun x y W=>run_equalIn_int W 9998 _ _ _ x y Tryz.underlying3;have p0:∀(x y:Int) (W:World),(part 3 #[.int .i64 x,.int .i64 y] 0).run Tryz.prog W= .ok (.int .i64 x) W:=fun x y W=>by kernel_rfl
 have p1:∀(x y:Int) (W:World),(part 3 #[.int .i64 x,.int .i64 y] 1).run Tryz.prog W= .ok (.int .i64 y) W:=fun x y W=>by kernel_rfl
 have hc:Tryz.prog.cellsOf 3=1:=by kernel_rfl
 have hi:∃i,Tryz.prog.info? 3=some i:=by
  cases h:Tryz.prog.info? 3 with
  |none=>
   have:(Tryz.prog.info? 3).isSome=true:=by kernel_rfl
   rw[h]at this;cases this
  |some i=>exact⟨i,rfl⟩
 obtain⟨i,hi⟩:=hi;rw[run_eql_struct,run_equalIn_array (w:=W) 9999 _ _ Tryz.underlying288 hi,hc];have hr:List.range 2= [0,1]:=by decide
 rw[hr];simp[Op.eqItems,e1,p0,p1,Result.andThen];cases h:a==c <;> cases h2:b==d <;> simp_all
attribute [-go_sem] run_eql_struct
theorem a0X (tag:Int) (w:World):Calls Tryz.prog 247 #[.int .i64 tag] w fun e w'=>∃a n c,e= .returned (.tuple #[.slice a n c,.int .i64 (look lQ tag).2])∧Sl w' a n c 1 (ints .i64 (look lQ tag).1)∧Below w.heap.size w w':=by
 by_cases bN1:tag=256
 ·subst bN1;have e:look lQ 256=([3,4],1):=by decide
  rw[e];go_enter Tryz.func247,Tryz.ntmps247;go_wp2;go_ret2;exact⟨_,_,_,rfl,Sl.new w 3 1 2 #[.int .i64 3,.int .i64 4] (0,0) aH rfl,(aY _ _).alloc (aZ _) _⟩
 by_cases bN2:tag=257
 ·subst bN2;have e:look lQ 257=([3,4],1):=by decide
  rw[e];go_enter Tryz.func247,Tryz.ntmps247;go_wp2;go_ret2;exact⟨_,_,_,rfl,Sl.new w 3 1 2 #[.int .i64 3,.int .i64 4] (0,0) aH rfl,(aY _ _).alloc (aZ _) _⟩
 by_cases bN3:tag=259
 ·subst bN3;have e:look lQ 259=([3],1):=by decide
  rw[e];go_enter Tryz.func247,Tryz.ntmps247;go_wp2;go_ret2;exact⟨_,_,_,rfl,Sl.new w 3 1 1 #[.int .i64 3] (0,0) aH rfl,(aY _ _).alloc (aZ _) _⟩
 by_cases bN4:tag=274
 ·subst bN4;have e:look lQ 274=([3],1):=by decide
  rw[e];go_enter Tryz.func247,Tryz.ntmps247;go_wp2;go_ret2;exact⟨_,_,_,rfl,Sl.new w 3 1 1 #[.int .i64 3] (0,0) aH rfl,(aY _ _).alloc (aZ _) _⟩
 by_cases bN5:tag=296
 ·subst bN5;have e:look lQ 296=([3],1):=by decide
  rw[e];go_enter Tryz.func247,Tryz.ntmps247;go_wp2;go_ret2;exact⟨_,_,_,rfl,Sl.new w 3 1 1 #[.int .i64 3] (0,0) aH rfl,(aY _ _).alloc (aZ _) _⟩
 by_cases bN6:tag=531
 ·subst bN6;have e:look lQ 531=([3],1):=by decide
  rw[e];go_enter Tryz.func247,Tryz.ntmps247;go_wp2;go_ret2;exact⟨_,_,_,rfl,Sl.new w 3 1 1 #[.int .i64 3] (0,0) aH rfl,(aY _ _).alloc (aZ _) _⟩
 by_cases bN7:tag=270
 ·subst bN7;have e:look lQ 270=([2],0):=by decide
  rw[e];go_enter Tryz.func247,Tryz.ntmps247;go_wp2;go_ret2;exact⟨_,_,_,rfl,Sl.new w 3 1 1 #[.int .i64 2] (0,0) aH rfl,(aY _ _).alloc (aZ _) _⟩
 by_cases bN8:tag=271
 ·subst bN8;have e:look lQ 271=([2],0):=by decide
  rw[e];go_enter Tryz.func247,Tryz.ntmps247;go_wp2;go_ret2;exact⟨_,_,_,rfl,Sl.new w 3 1 1 #[.int .i64 2] (0,0) aH rfl,(aY _ _).alloc (aZ _) _⟩
 by_cases bN9:tag=272
 ·subst bN9;have e:look lQ 272=([2],0):=by decide
  rw[e];go_enter Tryz.func247,Tryz.ntmps247;go_wp2;go_ret2;exact⟨_,_,_,rfl,Sl.new w 3 1 1 #[.int .i64 2] (0,0) aH rfl,(aY _ _).alloc (aZ _) _⟩
 by_cases bNA:tag=305
 ·subst bNA;have e:look lQ 305=([2],0):=by decide
  rw[e];go_enter Tryz.func247,Tryz.ntmps247;go_wp2;go_ret2;exact⟨_,_,_,rfl,Sl.new w 3 1 1 #[.int .i64 2] (0,0) aH rfl,(aY _ _).alloc (aZ _) _⟩
 by_cases bNB:tag=315
 ·subst bNB;have e:look lQ 315=([2],0):=by decide
  rw[e];go_enter Tryz.func247,Tryz.ntmps247;go_wp2;go_ret2;exact⟨_,_,_,rfl,Sl.new w 3 1 1 #[.int .i64 2] (0,0) aH rfl,(aY _ _).alloc (aZ _) _⟩
 by_cases b4M:tag=33432
 ·subst b4M;have e:look lQ 33432=([2],0):=by decide
  rw[e];go_enter Tryz.func247,Tryz.ntmps247;go_wp2;go_ret2;exact⟨_,_,_,rfl,Sl.new w 3 1 1 #[.int .i64 2] (0,0) aH rfl,(aY _ _).alloc (aZ _) _⟩
 by_cases bNC:tag=306
 ·subst bNC;have e:look lQ 306=([2],20):=by decide
  rw[e];go_enter Tryz.func247,Tryz.ntmps247;go_wp2;go_ret2;exact⟨_,_,_,rfl,Sl.new w 3 1 1 #[.int .i64 2] (0,0) aH rfl,(aY _ _).alloc (aZ _) _⟩
 by_cases bND:tag=282
 ·subst bND;have e:look lQ 282=([5],1):=by decide
  rw[e];go_enter Tryz.func247,Tryz.ntmps247;go_wp2;go_ret2;exact⟨_,_,_,rfl,Sl.new w 3 1 1 #[.int .i64 5] (0,0) aH rfl,(aY _ _).alloc (aZ _) _⟩
 by_cases bNE:tag=283
 ·subst bNE;have e:look lQ 283=([5],1):=by decide
  rw[e];go_enter Tryz.func247,Tryz.ntmps247;go_wp2;go_ret2;exact⟨_,_,_,rfl,Sl.new w 3 1 1 #[.int .i64 5] (0,0) aH rfl,(aY _ _).alloc (aZ _) _⟩
 have e:look lQ tag=([], -1):=JB (by intro r hr;simp only[lQ,cB,dK,or_false]at hr;rcases hr with rfl|rfl|rfl|rfl|rfl|rfl|rfl|rfl|rfl|rfl|rfl|rfl|rfl|rfl|rfl <;> (intro he;simp at he;omega));rw[e];go_enter Tryz.func247,Tryz.ntmps247;go_wp2;go_ret2;exact⟨_,_,_,rfl,Sl.nil _ _,aY _ _⟩
end Go.Proofs.YtceclmpmpldmlaaGreat
namespace Go.Proofs.YtceclmpmpldmlaaGreat
open Go.RowKit Tt
attribute [-go_sem] run_eql_struct
theorem aFV (tag:Int) (w:World):Calls Tryz.prog 248 #[.int .i64 tag] w fun e w'=>∃a n c,e= .returned (.tuple #[.slice a n c,.int .i64 (look kL tag).2])∧Sl w' a n c 1 (ints .i64 (look kL tag).1)∧Below w.heap.size w w':=by
 by_cases b4N:tag=33434
 ·subst b4N;have e:look kL 33434=([5],1):=by decide
  rw[e];go_enter Tryz.func248,Tryz.ntmps248;go_wp2;go_ret2;exact⟨_,_,_,rfl,Sl.new w 3 1 1 #[.int .i64 5] (0,0) aH rfl,(aY _ _).alloc (aZ _) _⟩
 by_cases b4O:tag=33437
 ·subst b4O;have e:look kL 33437=([5],1):=by decide
  rw[e];go_enter Tryz.func248,Tryz.ntmps248;go_wp2;go_ret2;exact⟨_,_,_,rfl,Sl.new w 3 1 1 #[.int .i64 5] (0,0) aH rfl,(aY _ _).alloc (aZ _) _⟩
 by_cases b4P:tag=37378
 ·subst b4P;have e:look kL 37378=([5],1):=by decide
  rw[e];go_enter Tryz.func248,Tryz.ntmps248;go_wp2;go_ret2;exact⟨_,_,_,rfl,Sl.new w 3 1 1 #[.int .i64 5] (0,0) aH rfl,(aY _ _).alloc (aZ _) _⟩
 by_cases b4Q:tag=37386
 ·subst b4Q;have e:look kL 37386=([5],1):=by decide
  rw[e];go_enter Tryz.func248,Tryz.ntmps248;go_wp2;go_ret2;exact⟨_,_,_,rfl,Sl.new w 3 1 1 #[.int .i64 5] (0,0) aH rfl,(aY _ _).alloc (aZ _) _⟩
 by_cases b4R:tag=34850
 ·subst b4R;have e:look kL 34850=([3],1):=by decide
  rw[e];go_enter Tryz.func248,Tryz.ntmps248;go_wp2;go_ret2;exact⟨_,_,_,rfl,Sl.new w 3 1 1 #[.int .i64 3] (0,0) aH rfl,(aY _ _).alloc (aZ _) _⟩
 by_cases b4S:tag=37383
 ·subst b4S;have e:look kL 37383=([3],1):=by decide
  rw[e];go_enter Tryz.func248,Tryz.ntmps248;go_wp2;go_ret2;exact⟨_,_,_,rfl,Sl.new w 3 1 1 #[.int .i64 3] (0,0) aH rfl,(aY _ _).alloc (aZ _) _⟩
 by_cases b4T:tag=37384
 ·subst b4T;have e:look kL 37384=([3],1):=by decide
  rw[e];go_enter Tryz.func248,Tryz.ntmps248;go_wp2;go_ret2;exact⟨_,_,_,rfl,Sl.new w 3 1 1 #[.int .i64 3] (0,0) aH rfl,(aY _ _).alloc (aZ _) _⟩
 by_cases b4U:tag=37385
 ·subst b4U;have e:look kL 37385=([3],1):=by decide
  rw[e];go_enter Tryz.func248,Tryz.ntmps248;go_wp2;go_ret2;exact⟨_,_,_,rfl,Sl.new w 3 1 1 #[.int .i64 3] (0,0) aH rfl,(aY _ _).alloc (aZ _) _⟩
 by_cases b4V:tag=40961
 ·subst b4V;have e:look kL 40961=([3],1):=by decide
  rw[e];go_enter Tryz.func248,Tryz.ntmps248;go_wp2;go_ret2;exact⟨_,_,_,rfl,Sl.new w 3 1 1 #[.int .i64 3] (0,0) aH rfl,(aY _ _).alloc (aZ _) _⟩
 by_cases b4W:tag=41986
 ·subst b4W;have e:look kL 41986=([3],1):=by decide
  rw[e];go_enter Tryz.func248,Tryz.ntmps248;go_wp2;go_ret2;exact⟨_,_,_,rfl,Sl.new w 3 1 1 #[.int .i64 3] (0,0) aH rfl,(aY _ _).alloc (aZ _) _⟩
 by_cases b4X:tag=36864
 ·subst b4X;have e:look kL 36864=([7],4):=by decide
  rw[e];go_enter Tryz.func248,Tryz.ntmps248;go_wp2;go_ret2;exact⟨_,_,_,rfl,Sl.new w 3 1 1 #[.int .i64 7] (0,0) aH rfl,(aY _ _).alloc (aZ _) _⟩
 by_cases b4Y:tag=37121
 ·subst b4Y;have e:look kL 37121=([7],4):=by decide
  rw[e];go_enter Tryz.func248,Tryz.ntmps248;go_wp2;go_ret2;exact⟨_,_,_,rfl,Sl.new w 3 1 1 #[.int .i64 7] (0,0) aH rfl,(aY _ _).alloc (aZ _) _⟩
 by_cases b4Z:tag=40960
 ·subst b4Z;have e:look kL 40960=([7],4):=by decide
  rw[e];go_enter Tryz.func248,Tryz.ntmps248;go_wp2;go_ret2;exact⟨_,_,_,rfl,Sl.new w 3 1 1 #[.int .i64 7] (0,0) aH rfl,(aY _ _).alloc (aZ _) _⟩
 by_cases b50:tag=37377
 ·subst b50;have e:look kL 37377=([10],1):=by decide
  rw[e];go_enter Tryz.func248,Tryz.ntmps248;go_wp2;go_ret2;exact⟨_,_,_,rfl,Sl.new w 3 1 1 #[.int .i64 10] (0,0) aH rfl,(aY _ _).alloc (aZ _) _⟩
 by_cases b51:tag=37380
 ·subst b51;have e:look kL 37380=([10],1):=by decide
  rw[e];go_enter Tryz.func248,Tryz.ntmps248;go_wp2;go_ret2;exact⟨_,_,_,rfl,Sl.new w 3 1 1 #[.int .i64 10] (0,0) aH rfl,(aY _ _).alloc (aZ _) _⟩
 by_cases b53:tag=36867
 ·subst b53;have e:look kL 36867=([2],20):=by decide
  rw[e];go_enter Tryz.func248,Tryz.ntmps248;go_wp2;go_ret2;exact⟨_,_,_,rfl,Sl.new w 3 1 1 #[.int .i64 2] (0,0) aH rfl,(aY _ _).alloc (aZ _) _⟩
 by_cases b54:tag=36868
 ·subst b54;have e:look kL 36868=([2],20):=by decide
  rw[e];go_enter Tryz.func248,Tryz.ntmps248;go_wp2;go_ret2;exact⟨_,_,_,rfl,Sl.new w 3 1 1 #[.int .i64 2] (0,0) aH rfl,(aY _ _).alloc (aZ _) _⟩
 by_cases b55:tag=40962
 ·subst b55;have e:look kL 40962=([3,4],1):=by decide
  rw[e];go_enter Tryz.func248,Tryz.ntmps248;go_wp2;go_ret2;exact⟨_,_,_,rfl,Sl.new w 3 1 2 #[.int .i64 3,.int .i64 4] (0,0) aH rfl,(aY _ _).alloc (aZ _) _⟩
 by_cases b5A:tag=40963
 ·subst b5A;have e:look kL 40963=([3,4],1):=by decide
  rw[e];go_enter Tryz.func248,Tryz.ntmps248;go_wp2;go_ret2;exact⟨_,_,_,rfl,Sl.new w 3 1 2 #[.int .i64 3,.int .i64 4] (0,0) aH rfl,(aY _ _).alloc (aZ _) _⟩
 by_cases b5B:tag=34855
 ·subst b5B;have e:look kL 34855=([3],0):=by decide
  rw[e];go_enter Tryz.func248,Tryz.ntmps248;go_wp2;go_ret2;exact⟨_,_,_,rfl,Sl.new w 3 1 1 #[.int .i64 3] (0,0) aH rfl,(aY _ _).alloc (aZ _) _⟩
 by_cases b5C:tag=37510
 ·subst b5C;have e:look kL 37510=([7],0):=by decide
  rw[e];go_enter Tryz.func248,Tryz.ntmps248;go_wp2;go_ret2;exact⟨_,_,_,rfl,Sl.new w 3 1 1 #[.int .i64 7] (0,0) aH rfl,(aY _ _).alloc (aZ _) _⟩
 by_cases b5D:tag=37520
 ·subst b5D;have e:look kL 37520=([2],0):=by decide
  rw[e];go_enter Tryz.func248,Tryz.ntmps248;go_wp2;go_ret2;exact⟨_,_,_,rfl,Sl.new w 3 1 1 #[.int .i64 2] (0,0) aH rfl,(aY _ _).alloc (aZ _) _⟩
 by_cases b5E:tag=41728
 ·subst b5E;have e:look kL 41728=([7],1):=by decide
  rw[e];go_enter Tryz.func248,Tryz.ntmps248;go_wp2;go_ret2;exact⟨_,_,_,rfl,Sl.new w 3 1 1 #[.int .i64 7] (0,0) aH rfl,(aY _ _).alloc (aZ _) _⟩
 by_cases b5F:tag=42016
 ·subst b5F;have e:look kL 42016=([2],33):=by decide
  rw[e];go_enter Tryz.func248,Tryz.ntmps248;go_wp2;go_ret2;exact⟨_,_,_,rfl,Sl.new w 3 1 1 #[.int .i64 2] (0,0) aH rfl,(aY _ _).alloc (aZ _) _⟩
 by_cases b5G:tag=42034
 ·subst b5G;have e:look kL 42034=([5],4):=by decide
  rw[e];go_enter Tryz.func248,Tryz.ntmps248;go_wp2;go_ret2;exact⟨_,_,_,rfl,Sl.new w 3 1 1 #[.int .i64 5] (0,0) aH rfl,(aY _ _).alloc (aZ _) _⟩
 have e:look kL tag=([], -1):=JB (by intro r hr;simp only[kL,cB,dK,or_false]at hr;rcases hr with rfl|rfl|rfl|rfl|rfl|rfl|rfl|rfl|rfl|rfl|rfl|rfl|rfl|rfl|rfl|rfl|rfl|rfl|rfl|rfl|rfl|rfl|rfl|rfl|rfl <;> (intro he;simp at he;omega));rw[e];go_enter Tryz.func248,Tryz.ntmps248;go_wp2;go_ret2;exact⟨_,_,_,rfl,Sl.nil _ _,aY _ _⟩
end Go.Proofs.YtceclmpmpldmlaaGreat
namespace Go.Proofs.YtceclmpmpldmlaaGreat
open Go.RowKit Tt
attribute [-go_sem] run_eql_struct
theorem aM9 (tag:Int) (w:World):Calls Tryz.prog 249 #[.int .i64 3,.int .i64 tag] w fun e w'=>∃a n c,e= .returned (.tuple #[.slice a n c,.int .i64 (look yE tag).2])∧Sl w' a n c 1 (ints .i64 (look yE tag).1)∧Below w.heap.size w w':=by
 have E:=a0W;by_cases h0:tag=0
 ·subst h0;have e:look yE 0=([1],4):=by decide
  rw[e];go_enter Tryz.func249,Tryz.ntmps249;go_wp2;go_ret2;exact⟨_,_,_,rfl,Sl.new w 3 1 1 #[.int .i64 1] (0,0) aH rfl,(aY _ _).alloc (aZ _) _⟩
 by_cases h5:tag=5
 ·subst h5;have e:look yE 5=([1],1):=by decide
  rw[e];go_enter Tryz.func249,Tryz.ntmps249;go_wp2;go_ret2;exact⟨_,_,_,rfl,Sl.new w 3 1 1 #[.int .i64 1] (0,0) aH rfl,(aY _ _).alloc (aZ _) _⟩
 by_cases h6:tag=6
 ·subst h6;have e:look yE 6=([5],1):=by decide
  rw[e];go_enter Tryz.func249,Tryz.ntmps249;go_wp2;go_ret2;exact⟨_,_,_,rfl,Sl.new w 3 1 1 #[.int .i64 5] (0,0) aH rfl,(aY _ _).alloc (aZ _) _⟩
 by_cases h1:tag=1
 ·subst h1;have e:look yE 1=([2],2):=by decide
  rw[e];go_enter Tryz.func249,Tryz.ntmps249;go_wp2;go_ret2;exact⟨_,_,_,rfl,Sl.new w 3 1 1 #[.int .i64 2] (0,0) aH rfl,(aY _ _).alloc (aZ _) _⟩
 by_cases h3:tag=3
 ·subst h3;have e:look yE 3=([2],2):=by decide
  rw[e];go_enter Tryz.func249,Tryz.ntmps249;go_wp2;go_ret2;exact⟨_,_,_,rfl,Sl.new w 3 1 1 #[.int .i64 2] (0,0) aH rfl,(aY _ _).alloc (aZ _) _⟩
 by_cases h2:tag=2
 ·subst h2;have e:look yE 2=([5],3):=by decide
  rw[e];go_enter Tryz.func249,Tryz.ntmps249;go_wp2;go_ret2;exact⟨_,_,_,rfl,Sl.new w 3 1 1 #[.int .i64 5] (0,0) aH rfl,(aY _ _).alloc (aZ _) _⟩
 by_cases h4:tag=4
 ·subst h4;have e:look yE 4=([5],3):=by decide
  rw[e];go_enter Tryz.func249,Tryz.ntmps249;go_wp2;go_ret2;exact⟨_,_,_,rfl,Sl.new w 3 1 1 #[.int .i64 5] (0,0) aH rfl,(aY _ _).alloc (aZ _) _⟩
 by_cases h7:tag=7
 ·subst h7;have e:look yE 7=([5],3):=by decide
  rw[e];go_enter Tryz.func249,Tryz.ntmps249;go_wp2;go_ret2;exact⟨_,_,_,rfl,Sl.new w 3 1 1 #[.int .i64 5] (0,0) aH rfl,(aY _ _).alloc (aZ _) _⟩
 by_cases h18:tag=18
 ·subst h18;have e:look yE 18=([2],0):=by decide
  rw[e];go_enter Tryz.func249,Tryz.ntmps249;go_wp2;go_ret2;exact⟨_,_,_,rfl,Sl.new w 3 1 1 #[.int .i64 2] (0,0) aH rfl,(aY _ _).alloc (aZ _) _⟩
 by_cases h29:tag=29
 ·subst h29;have e:look yE 29=([2],11):=by decide
  rw[e];go_enter Tryz.func249,Tryz.ntmps249;go_wp2;go_ret2;exact⟨_,_,_,rfl,Sl.new w 3 1 1 #[.int .i64 2] (0,0) aH rfl,(aY _ _).alloc (aZ _) _⟩
 have f0:(tag==0)=false:=by simp[h0]
 have f5:(tag==5)=false:=by simp[h5]
 have f6:(tag==6)=false:=by simp[h6]
 have f1:(tag==1)=false:=by simp[h1]
 have f3:(tag==3)=false:=by simp[h3]
 have f2:(tag==2)=false:=by simp[h2]
 have f4:(tag==4)=false:=by simp[h4]
 have f7:(tag==7)=false:=by simp[h7]
 have f18:(tag==18)=false:=by simp[h18]
 have f29:(tag==29)=false:=by simp[h29]
 have e:look yE tag=([], -1):=JB (by intro r hr;simp only[yE,cB,dK,or_false]at hr;rcases hr with rfl|rfl|rfl|rfl|rfl|rfl|rfl|rfl|rfl|rfl <;> (intro he;simp at he;omega));rw[e];go_enter Tryz.func249,Tryz.ntmps249;go_wp2;go_ret2;exact⟨_,_,_,rfl,Sl.nil _ _,aY _ _⟩
theorem aMA (tag:Int) (w:World):Calls Tryz.prog 249 #[.int .i64 4,.int .i64 tag] w fun e w'=>∃a n c,e= .returned (.tuple #[.slice a n c,.int .i64 (look AX tag).2])∧Sl w' a n c 1 (ints .i64 (look AX tag).1)∧Below w.heap.size w w':=by
 have E:=a0W;by_cases h1:tag=1
 ·subst h1;have e:look AX 1=([2],4):=by decide
  rw[e];go_enter Tryz.func249,Tryz.ntmps249;go_wp2;go_ret2;exact⟨_,_,_,rfl,Sl.new w 3 1 1 #[.int .i64 2] (0,0) aH rfl,(aY _ _).alloc (aZ _) _⟩
 by_cases h2:tag=2
 ·subst h2;have e:look AX 2=([7],4):=by decide
  rw[e];go_enter Tryz.func249,Tryz.ntmps249;go_wp2;go_ret2;exact⟨_,_,_,rfl,Sl.new w 3 1 1 #[.int .i64 7] (0,0) aH rfl,(aY _ _).alloc (aZ _) _⟩
 have f1:(tag==1)=false:=by simp[h1]
 have f2:(tag==2)=false:=by simp[h2]
 have e:look AX tag=([], -1):=JB (by intro r hr;simp only[AX,cB,dK,or_false]at hr;rcases hr with rfl|rfl <;> (intro he;simp at he;omega));rw[e];go_enter Tryz.func249,Tryz.ntmps249;go_wp2;go_ret2;exact⟨_,_,_,rfl,Sl.nil _ _,aY _ _⟩
theorem aMB (tag:Int) (w:World):Calls Tryz.prog 249 #[.int .i64 5,.int .i64 tag] w fun e w'=>∃a n c,e= .returned (.tuple #[.slice a n c,.int .i64 (look sI tag).2])∧Sl w' a n c 1 (ints .i64 (look sI tag).1)∧Below w.heap.size w w':=by
 have E:=a0W;by_cases aPD:tag=45056
 ·subst aPD;have e:look sI 45056=([7],4):=by decide
  rw[e];go_enter Tryz.func249,Tryz.ntmps249;go_wp2;go_ret2;exact⟨_,_,_,rfl,Sl.new w 3 1 1 #[.int .i64 7] (0,0) aH rfl,(aY _ _).alloc (aZ _) _⟩
 by_cases aPE:tag=45313
 ·subst aPE;have e:look sI 45313=([4],1):=by decide
  rw[e];go_enter Tryz.func249,Tryz.ntmps249;go_wp2;go_ret2;exact⟨_,_,_,rfl,Sl.new w 3 1 1 #[.int .i64 4] (0,0) aH rfl,(aY _ _).alloc (aZ _) _⟩
 by_cases aPF:tag=45569
 ·subst aPF;have e:look sI 45569=([4],1):=by decide
  rw[e];go_enter Tryz.func249,Tryz.ntmps249;go_wp2;go_ret2;exact⟨_,_,_,rfl,Sl.new w 3 1 1 #[.int .i64 4] (0,0) aH rfl,(aY _ _).alloc (aZ _) _⟩
 by_cases aPG:tag=45570
 ·subst aPG;have e:look sI 45570=([4],1):=by decide
  rw[e];go_enter Tryz.func249,Tryz.ntmps249;go_wp2;go_ret2;exact⟨_,_,_,rfl,Sl.new w 3 1 1 #[.int .i64 4] (0,0) aH rfl,(aY _ _).alloc (aZ _) _⟩
 by_cases aPH:tag=45572
 ·subst aPH;have e:look sI 45572=([5],1):=by decide
  rw[e];go_enter Tryz.func249,Tryz.ntmps249;go_wp2;go_ret2;exact⟨_,_,_,rfl,Sl.new w 3 1 1 #[.int .i64 5] (0,0) aH rfl,(aY _ _).alloc (aZ _) _⟩
 by_cases aPI:tag=45574
 ·subst aPI;have e:look sI 45574=([5],1):=by decide
  rw[e];go_enter Tryz.func249,Tryz.ntmps249;go_wp2;go_ret2;exact⟨_,_,_,rfl,Sl.new w 3 1 1 #[.int .i64 5] (0,0) aH rfl,(aY _ _).alloc (aZ _) _⟩
 by_cases aPJ:tag=45573
 ·subst aPJ;have e:look sI 45573=([10],1):=by decide
  rw[e];go_enter Tryz.func249,Tryz.ntmps249;go_wp2;go_ret2;exact⟨_,_,_,rfl,Sl.new w 3 1 1 #[.int .i64 10] (0,0) aH rfl,(aY _ _).alloc (aZ _) _⟩
 by_cases aPK:tag=45576
 ·subst aPK;have e:look sI 45576=([10],1):=by decide
  rw[e];go_enter Tryz.func249,Tryz.ntmps249;go_wp2;go_ret2;exact⟨_,_,_,rfl,Sl.new w 3 1 1 #[.int .i64 10] (0,0) aH rfl,(aY _ _).alloc (aZ _) _⟩
 have bNF:(tag==45056)=false:=by simp[aPD]
 have bNG:(tag==45313)=false:=by simp[aPE]
 have bNH:(tag==45569)=false:=by simp[aPF]
 have bNI:(tag==45570)=false:=by simp[aPG]
 have bNJ:(tag==45572)=false:=by simp[aPH]
 have bNK:(tag==45574)=false:=by simp[aPI]
 have bNL:(tag==45573)=false:=by simp[aPJ]
 have bNM:(tag==45576)=false:=by simp[aPK]
 have e:look sI tag=([], -1):=JB (by intro r hr;simp only[sI,cB,dK,or_false]at hr;rcases hr with rfl|rfl|rfl|rfl|rfl|rfl|rfl|rfl <;> (intro he;simp at he;omega));rw[e];go_enter Tryz.func249,Tryz.ntmps249;go_wp2;go_ret2;exact⟨_,_,_,rfl,Sl.nil _ _,aY _ _⟩
theorem aPL (dir tag:Int) (w:World) (h3:dir≠3) (h4:dir≠4) (h5:dir≠5):Calls Tryz.prog 249 #[.int .i64 dir,.int .i64 tag] w fun e w'=>e= .returned (.tuple #[.slice none 0 0,.int .i64 (-1)])∧w=w':=by
 have E:=a0W;have f3:(dir==3)=false:=by simp[h3]
 have f4:(dir==4)=false:=by simp[h4]
 have f5:(dir==5)=false:=by simp[h5]
 go_enter Tryz.func249,Tryz.ntmps249;go_wp2;go_ret2;exact⟨rfl,rfl⟩
end Go.Proofs.YtceclmpmpldmlaaGreat
namespace Go.Proofs.YtceclmpmpldmlaaGreat
open Go.RowKit Tt
theorem aFW (dir tag:Int) (w:World):
  Calls Tryz.prog 200 #[.int .i64 dir,.int .i64 tag] w fun e w'=>∃a n c,e= .returned (.tuple #[.slice a n c,.int .i64 (qG dir tag).2])∧Sl w' a n c 1 (ints .i64 (qG dir tag).1)∧Below w.heap.size w w':=by
 by_cases h0:dir=0
 ·subst h0;have e:qG 0 tag=look lQ tag:=rfl;rw[e];go_enter Tryz.func200,Tryz.ntmps200;go_wp2_with fail
  refine(a0X tag w).mono ?_;rintro e w1 ⟨a,n,c,rfl,hs,hb⟩;go_wp2;go_ret2;exact⟨a,n,c,rfl,hs,hb⟩
 by_cases h1:dir=1
 ·subst h1;have e:qG 1 tag=look lQ tag:=rfl;rw[e];go_enter Tryz.func200,Tryz.ntmps200;go_wp2_with fail
  refine(a0X tag w).mono ?_;rintro e w1 ⟨a,n,c,rfl,hs,hb⟩;go_wp2;go_ret2;exact⟨a,n,c,rfl,hs,hb⟩
 by_cases h2:dir=2
 ·subst h2;have e:qG 2 tag=look kL tag:=rfl;rw[e];go_enter Tryz.func200,Tryz.ntmps200;go_wp2_with fail
  refine(aFV tag w).mono ?_;rintro e w1 ⟨a,n,c,rfl,hs,hb⟩;go_wp2;go_ret2;exact⟨a,n,c,rfl,hs,hb⟩
 have f0:(dir==0)=false:=by simp[h0]
 have f1:(dir==1)=false:=by simp[h1]
 have f2:(dir==2)=false:=by simp[h2]
 by_cases h3:dir=3
 ·subst h3;have e:qG 3 tag=look yE tag:=rfl;rw[e];go_enter Tryz.func200,Tryz.ntmps200;go_wp2_with fail
  refine(aM9 tag w).mono ?_;rintro e w1 ⟨a,n,c,rfl,hs,hb⟩;go_wp2;go_ret2;exact⟨a,n,c,rfl,hs,hb⟩
 by_cases h4:dir=4
 ·subst h4;have e:qG 4 tag=look AX tag:=rfl;rw[e];go_enter Tryz.func200,Tryz.ntmps200;go_wp2_with fail
  refine(aMA tag w).mono ?_;rintro e w1 ⟨a,n,c,rfl,hs,hb⟩;go_wp2;go_ret2;exact⟨a,n,c,rfl,hs,hb⟩
 by_cases h5:dir=5
 ·subst h5;have e:qG 5 tag=look sI tag:=rfl;rw[e];go_enter Tryz.func200,Tryz.ntmps200;go_wp2_with fail
  refine(aMB tag w).mono ?_;rintro e w1 ⟨a,n,c,rfl,hs,hb⟩;go_wp2;go_ret2;exact⟨a,n,c,rfl,hs,hb⟩
 have e:qG dir tag=([], -1):=by unfold qG tab;rw[if_neg h0,if_neg h1,if_neg h2,if_neg h3,if_neg h4,if_neg h5];rfl
 rw[e];go_enter Tryz.func200,Tryz.ntmps200;go_wp2_with fail
 refine(aPL dir tag w h3 h4 h5).mono ?_;rintro e w1 ⟨rfl,rfl⟩;go_wp2;go_ret2;exact⟨none,0,0,rfl,Sl.nil _ _,aY _ _⟩
theorem a8Q:∀x∈Q5,0≤x.2.2∧x.2.2≤100:=by decide+kernel
