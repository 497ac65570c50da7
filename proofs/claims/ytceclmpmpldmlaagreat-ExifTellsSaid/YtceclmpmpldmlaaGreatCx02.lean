import Derived.Test.YtceclmpmpldmlaaGreatCx01
set_option linter.unusedSimpArgs false
set_option linter.unusedVariables false
set_option maxRecDepth 100000
set_option maxHeartbeats 8000000
namespace Go.Proofs.YtceclmpmpldmlaaGreat
open Go.RowKit Tt
theorem a7D (b:Nat) (dir:Int) (l:List EQ) (w:World) (hr:Rules w b l) (hd:(Lit.int .i64 dir).wf=true) (hl:∀x∈l,x.1.1≠dir):
  Calls Tryz.prog 192 #[.func (.func 193) #[.agg #[.map (some b),.int .i64 dir]] #[]] w fun e w'=>e= .returned (.tuple #[])∧Rules w' b (l++qO dir lQ)∧kN b w w':=by
 have R0:Hid (Rules w b (l++qO dir (lQ.take 0))):=aA (by simpa [qO] using hr);have B0:Hid (kN b w w):=aA (kN.refl _ _);obtain⟨Hl,Hd⟩:=aJ hl hd;clear hr hl hd;go_enter Tryz.func192,Tryz.ntmps192;go_wp2;go_loopw [9] (fun i wr=>∃(k:Nat) (ki:Int),k≤2∧ki=k∧i= .int .i64 ki∧Hid (Rules wr b (l++qO dir (lQ.take (0+k))))∧Hid (kN b w wr)) (fun i _=>2 - (intOf i).toNat)
 case atStart=>exact⟨0,0,by omega,rfl,rfl,R0,B0⟩
 case round=>
  obtain⟨k,ki,hk,rC,rfl,hR,hB⟩:=hrel;rename World=>v1
  by_cases kD:k<2
  ·rcases(by omega:k=0∨k=1)with rfl|rfl
   ·obtain rfl:ki=0:=by omega
    clear hk kD rC;have pQ:∀W,(Instr.index 288 (.agg #[.int .i64 256,.int .i64 257]) (.int .i64 0)).run Tryz.prog W= .ok (.int .i64 256) W:=fun W=>by kernel_rfl
    go_wp2_with fail
    refine(kT b dir lQ mW l Hd.o Hl.o 0 _ _ [3,4] rfl aH _ _ _ _ (hR.o.mono ((aY _ _).alloc (aZ _) _)) (Sl.new v1 3 1 2 #[.int .i64 3,.int .i64 4] (0,0) aH rfl)).mono ?_;rintro e yy ⟨rfl,o9,oC⟩;have tJ:=aA o9;have tK:Hid (kN b w yy):=aA ((hB.o.alloc _).trans oC);clear o9 oC;go_wp2;go_roundw
    case rel=>exact⟨1,1,by omega,rfl,rfl,tJ,tK⟩
    case measure=>simp[intOf]
   ·obtain rfl:ki=1:=by omega
    clear hk kD rC;have pQ:∀W,(Instr.index 288 (.agg #[.int .i64 256,.int .i64 257]) (.int .i64 1)).run Tryz.prog W= .ok (.int .i64 257) W:=fun W=>by kernel_rfl
    go_wp2_with fail
    refine(kT b dir lQ mW l Hd.o Hl.o 1 _ _ [3,4] rfl aH _ _ _ _ (hR.o.mono ((aY _ _).alloc (aZ _) _)) (Sl.new v1 3 1 2 #[.int .i64 3,.int .i64 4] (0,0) aH rfl)).mono ?_;rintro e yy ⟨rfl,o9,oC⟩;have tJ:=aA o9;have tK:Hid (kN b w yy):=aA ((hB.o.alloc _).trans oC);clear o9 oC;go_wp2;go_roundw
    case rel=>exact⟨2,2,by omega,rfl,rfl,tJ,tK⟩
    case measure=>simp[intOf]
  ·obtain rfl:k=2:=by omega
   obtain rfl:ki=2:=by omega
   clear hk kD rC;have R1:=hR;have B1:=hB;clear hR hB;go_wp2;go_loopw [18] (fun i wr=>∃(k:Nat) (ki:Int),k≤4∧ki=k∧i= .int .i64 ki∧Hid (Rules wr b (l++qO dir (lQ.take (2+k))))∧Hid (kN b w wr)) (fun i _=>4 - (intOf i).toNat)
   case atStart=>exact⟨0,0,by omega,rfl,rfl,R1,B1⟩
   case round=>
    obtain⟨k,ki,hk,rC,rfl,hR,hB⟩:=hrel;rename World=>v2
    by_cases kD:k<4
    ·rcases(by omega:k=0∨k=1∨k=2∨k=3)with rfl|rfl|rfl|rfl
     ·obtain rfl:ki=0:=by omega
      clear hk kD rC;have pQ:∀W,(Instr.index 222 (.agg #[.int .i64 259,.int .i64 274,.int .i64 296,.int .i64 531]) (.int .i64 0)).run Tryz.prog W= .ok (.int .i64 259) W:=fun W=>by kernel_rfl
      go_wp2_with fail
      refine(kT b dir lQ mW l Hd.o Hl.o 2 _ _ [3] rfl aH _ _ _ _ (hR.o.mono ((aY _ _).alloc (aZ _) _)) (Sl.new v2 3 1 1 #[.int .i64 3] (0,0) aH rfl)).mono ?_;rintro e yy ⟨rfl,o9,oC⟩;have tJ:=aA o9;have tK:Hid (kN b w yy):=aA ((hB.o.alloc _).trans oC);clear o9 oC;go_wp2;go_roundw
      case rel=>exact⟨1,1,by omega,rfl,rfl,tJ,tK⟩
      case measure=>simp[intOf]
     ·obtain rfl:ki=1:=by omega
      clear hk kD rC;have pQ:∀W,(Instr.index 222 (.agg #[.int .i64 259,.int .i64 274,.int .i64 296,.int .i64 531]) (.int .i64 1)).run Tryz.prog W= .ok (.int .i64 274) W:=fun W=>by kernel_rfl
      go_wp2_with fail
      refine(kT b dir lQ mW l Hd.o Hl.o 3 _ _ [3] rfl aH _ _ _ _ (hR.o.mono ((aY _ _).alloc (aZ _) _)) (Sl.new v2 3 1 1 #[.int .i64 3] (0,0) aH rfl)).mono ?_;rintro e yy ⟨rfl,o9,oC⟩;have tJ:=aA o9;have tK:Hid (kN b w yy):=aA ((hB.o.alloc _).trans oC);clear o9 oC;go_wp2;go_roundw
      case rel=>exact⟨2,2,by omega,rfl,rfl,tJ,tK⟩
      case measure=>simp[intOf]
     ·obtain rfl:ki=2:=by omega
      clear hk kD rC;have pQ:∀W,(Instr.index 222 (.agg #[.int .i64 259,.int .i64 274,.int .i64 296,.int .i64 531]) (.int .i64 2)).run Tryz.prog W= .ok (.int .i64 296) W:=fun W=>by kernel_rfl
      go_wp2_with fail
      refine(kT b dir lQ mW l Hd.o Hl.o 4 _ _ [3] rfl aH _ _ _ _ (hR.o.mono ((aY _ _).alloc (aZ _) _)) (Sl.new v2 3 1 1 #[.int .i64 3] (0,0) aH rfl)).mono ?_;rintro e yy ⟨rfl,o9,oC⟩;have tJ:=aA o9;have tK:Hid (kN b w yy):=aA ((hB.o.alloc _).trans oC);clear o9 oC;go_wp2;go_roundw
      case rel=>exact⟨3,3,by omega,rfl,rfl,tJ,tK⟩
      case measure=>simp[intOf]
     ·obtain rfl:ki=3:=by omega
      clear hk kD rC;have pQ:∀W,(Instr.index 222 (.agg #[.int .i64 259,.int .i64 274,.int .i64 296,.int .i64 531]) (.int .i64 3)).run Tryz.prog W= .ok (.int .i64 531) W:=fun W=>by kernel_rfl
      go_wp2_with fail
      refine(kT b dir lQ mW l Hd.o Hl.o 5 _ _ [3] rfl aH _ _ _ _ (hR.o.mono ((aY _ _).alloc (aZ _) _)) (Sl.new v2 3 1 1 #[.int .i64 3] (0,0) aH rfl)).mono ?_;rintro e yy ⟨rfl,o9,oC⟩;have tJ:=aA o9;have tK:Hid (kN b w yy):=aA ((hB.o.alloc _).trans oC);clear o9 oC;go_wp2;go_roundw
      case rel=>exact⟨4,4,by omega,rfl,rfl,tJ,tK⟩
      case measure=>simp[intOf]
    ·obtain rfl:k=4:=by omega
     obtain rfl:ki=4:=by omega
     clear hk kD rC;have R2:=hR;have B2:=hB;clear hR hB;go_wp2;go_loopw [27] (fun i wr=>∃(k:Nat) (ki:Int),k≤6∧ki=k∧i= .int .i64 ki∧Hid (Rules wr b (l++qO dir (lQ.take (6+k))))∧Hid (kN b w wr)) (fun i _=>6 - (intOf i).toNat)
     case atStart=>exact⟨0,0,by omega,rfl,rfl,R2,B2⟩
     case round=>
      obtain⟨k,ki,hk,rC,rfl,hR,hB⟩:=hrel;rename World=>v3
      by_cases kD:k<6
      ·rcases(by omega:k=0∨k=1∨k=2∨k=3∨k=4∨k=5)with rfl|rfl|rfl|rfl|rfl|rfl
       ·obtain rfl:ki=0:=by omega
        clear hk kD rC;have pQ:∀W,(Instr.index 289 (.agg #[.int .i64 270,.int .i64 271,.int .i64 272,.int .i64 305,.int .i64 315,.int .i64 33432]) (.int .i64 0)).run Tryz.prog W= .ok (.int .i64 270) W:=fun W=>by kernel_rfl
        go_wp2_with fail
        refine(kT b dir lQ mW l Hd.o Hl.o 6 _ _ [2] rfl aH _ _ _ _ (hR.o.mono ((aY _ _).alloc (aZ _) _)) (Sl.new v3 3 1 1 #[.int .i64 2] (0,0) aH rfl)).mono ?_;rintro e yy ⟨rfl,o9,oC⟩;have tJ:=aA o9;have tK:Hid (kN b w yy):=aA ((hB.o.alloc _).trans oC);clear o9 oC;go_wp2;go_roundw
        case rel=>exact⟨1,1,by omega,rfl,rfl,tJ,tK⟩
        case measure=>simp[intOf]
       ·obtain rfl:ki=1:=by omega
        clear hk kD rC;have pQ:∀W,(Instr.index 289 (.agg #[.int .i64 270,.int .i64 271,.int .i64 272,.int .i64 305,.int .i64 315,.int .i64 33432]) (.int .i64 1)).run Tryz.prog W= .ok (.int .i64 271) W:=fun W=>by kernel_rfl
        go_wp2_with fail
        refine(kT b dir lQ mW l Hd.o Hl.o 7 _ _ [2] rfl aH _ _ _ _ (hR.o.mono ((aY _ _).alloc (aZ _) _)) (Sl.new v3 3 1 1 #[.int .i64 2] (0,0) aH rfl)).mono ?_;rintro e yy ⟨rfl,o9,oC⟩;have tJ:=aA o9;have tK:Hid (kN b w yy):=aA ((hB.o.alloc _).trans oC);clear o9 oC;go_wp2;go_roundw
        case rel=>exact⟨2,2,by omega,rfl,rfl,tJ,tK⟩
        case measure=>simp[intOf]
       ·obtain rfl:ki=2:=by omega
        clear hk kD rC;have pQ:∀W,(Instr.index 289 (.agg #[.int .i64 270,.int .i64 271,.int .i64 272,.int .i64 305,.int .i64 315,.int .i64 33432]) (.int .i64 2)).run Tryz.prog W= .ok (.int .i64 272) W:=fun W=>by kernel_rfl
        go_wp2_with fail
        refine(kT b dir lQ mW l Hd.o Hl.o 8 _ _ [2] rfl aH _ _ _ _ (hR.o.mono ((aY _ _).alloc (aZ _) _)) (Sl.new v3 3 1 1 #[.int .i64 2] (0,0) aH rfl)).mono ?_;rintro e yy ⟨rfl,o9,oC⟩;have tJ:=aA o9;have tK:Hid (kN b w yy):=aA ((hB.o.alloc _).trans oC);clear o9 oC;go_wp2;go_roundw
        case rel=>exact⟨3,3,by omega,rfl,rfl,tJ,tK⟩
        case measure=>simp[intOf]
       ·obtain rfl:ki=3:=by omega
        clear hk kD rC;have pQ:∀W,(Instr.index 289 (.agg #[.int .i64 270,.int .i64 271,.int .i64 272,.int .i64 305,.int .i64 315,.int .i64 33432]) (.int .i64 3)).run Tryz.prog W= .ok (.int .i64 305) W:=fun W=>by kernel_rfl
        go_wp2_with fail
        refine(kT b dir lQ mW l Hd.o Hl.o 9 _ _ [2] rfl aH _ _ _ _ (hR.o.mono ((aY _ _).alloc (aZ _) _)) (Sl.new v3 3 1 1 #[.int .i64 2] (0,0) aH rfl)).mono ?_;rintro e yy ⟨rfl,o9,oC⟩;have tJ:=aA o9;have tK:Hid (kN b w yy):=aA ((hB.o.alloc _).trans oC);clear o9 oC;go_wp2;go_roundw
        case rel=>exact⟨4,4,by omega,rfl,rfl,tJ,tK⟩
        case measure=>simp[intOf]
       ·obtain rfl:ki=4:=by omega
        clear hk kD rC;have pQ:∀W,(Instr.index 289 (.agg #[.int .i64 270,.int .i64 271,.int .i64 272,.int .i64 305,.int .i64 315,.int .i64 33432]) (.int .i64 4)).run Tryz.prog W= .ok (.int .i64 315) W:=fun W=>by kernel_rfl
        go_wp2_with fail
        refine(kT b dir lQ mW l Hd.o Hl.o 10 _ _ [2] rfl aH _ _ _ _ (hR.o.mono ((aY _ _).alloc (aZ _) _)) (Sl.new v3 3 1 1 #[.int .i64 2] (0,0) aH rfl)).mono ?_;rintro e yy ⟨rfl,o9,oC⟩;have tJ:=aA o9;have tK:Hid (kN b w yy):=aA ((hB.o.alloc _).trans oC);clear o9 oC;go_wp2;go_roundw
        case rel=>exact⟨5,5,by omega,rfl,rfl,tJ,tK⟩
        case measure=>simp[intOf]
       ·obtain rfl:ki=5:=by omega
        clear hk kD rC;have pQ:∀W,(Instr.index 289 (.agg #[.int .i64 270,.int .i64 271,.int .i64 272,.int .i64 305,.int .i64 315,.int .i64 33432]) (.int .i64 5)).run Tryz.prog W= .ok (.int .i64 33432) W:=fun W=>by kernel_rfl
        go_wp2_with fail
        refine(kT b dir lQ mW l Hd.o Hl.o 11 _ _ [2] rfl aH _ _ _ _ (hR.o.mono ((aY _ _).alloc (aZ _) _)) (Sl.new v3 3 1 1 #[.int .i64 2] (0,0) aH rfl)).mono ?_;rintro e yy ⟨rfl,o9,oC⟩;have tJ:=aA o9;have tK:Hid (kN b w yy):=aA ((hB.o.alloc _).trans oC);clear o9 oC;go_wp2;go_roundw
        case rel=>exact⟨6,6,by omega,rfl,rfl,tJ,tK⟩
        case measure=>simp[intOf]
      ·obtain rfl:k=6:=by omega
       obtain rfl:ki=6:=by omega
       clear hk kD rC;have R3:=hR;have B3:=hB;clear hR hB;go_wp2_with fail
       refine(kT b dir lQ mW l Hd.o Hl.o 12 _ _ [2] rfl aH _ _ _ _ (R3.o.mono ((aY _ _).alloc (aZ _) _)) (Sl.new v3 3 1 1 #[.int .i64 2] (0,0) aH rfl)).mono ?_;rintro e x4 ⟨rfl,rx4,bx4⟩;have Rx4:=aA rx4;have Bx4:Hid (kN b w x4):=aA ((B3.o.alloc _).trans bx4);clear rx4 bx4;go_wp2_with fail
       refine(kT b dir lQ mW l Hd.o Hl.o 13 _ _ [5] rfl aH _ _ _ _ (Rx4.o.mono ((aY _ _).alloc (aZ _) _)) (Sl.new x4 3 1 1 #[.int .i64 5] (0,0) aH rfl)).mono ?_;rintro e x5 ⟨rfl,rx5,bx5⟩;have Rx5:=aA rx5;have Bx5:Hid (kN b w x5):=aA ((Bx4.o.alloc _).trans bx5);clear rx5 bx5;go_wp2_with fail
       refine(kT b dir lQ mW l Hd.o Hl.o 14 _ _ [5] rfl aH _ _ _ _ (Rx5.o.mono ((aY _ _).alloc (aZ _) _)) (Sl.new x5 3 1 1 #[.int .i64 5] (0,0) aH rfl)).mono ?_;rintro e x6 ⟨rfl,rx6,bx6⟩;have Rx6:=aA rx6;have Bx6:Hid (kN b w x6):=aA ((Bx5.o.alloc _).trans bx6);clear rx6 bx6;go_wp2;go_end0
       exact⟨rfl,Rx6.o,Bx6.o⟩
theorem aM5 (b:Nat) (dir:Int) (l:List EQ) (w:World) (hr:Rules w b l) (hd:(Lit.int .i64 dir).wf=true) (hl:∀x∈l,x.1.1≠dir):
  Calls Tryz.prog 194 #[.func (.func 193) #[.agg #[.map (some b),.int .i64 dir]] #[]] w fun e w'=>e= .returned (.tuple #[])∧Rules w' b (l++qO dir kL)∧kN b w w':=by
 have R0:Hid (Rules w b (l++qO dir (kL.take 0))):=aA (by simpa [qO] using hr);have B0:Hid (kN b w w):=aA (kN.refl _ _);obtain⟨Hl,Hd⟩:=aJ hl hd;clear hr hl hd;go_enter Tryz.func194,Tryz.ntmps194;go_wp2;go_loopw [15] (fun i wr=>∃(k:Nat) (ki:Int),k≤4∧ki=k∧i= .int .i64 ki∧Hid (Rules wr b (l++qO dir (kL.take (0+k))))∧Hid (kN b w wr)) (fun i _=>4 - (intOf i).toNat)
 case atStart=>exact⟨0,0,by omega,rfl,rfl,R0,B0⟩
 case round=>
  obtain⟨k,ki,hk,rC,rfl,hR,hB⟩:=hrel;rename World=>v1
  by_cases kD:k<4
  ·rcases(by omega:k=0∨k=1∨k=2∨k=3)with rfl|rfl|rfl|rfl
   ·obtain rfl:ki=0:=by omega
    clear hk kD rC;have pQ:∀W,(Instr.index 222 (.agg #[.int .i64 33434,.int .i64 33437,.int .i64 37378,.int .i64 37386]) (.int .i64 0)).run Tryz.prog W= .ok (.int .i64 33434) W:=fun W=>by kernel_rfl
    go_wp2_with fail
    refine(kT b dir kL kP l Hd.o Hl.o 0 _ _ [5] rfl aH _ _ _ _ (hR.o.mono ((aY _ _).alloc (aZ _) _)) (Sl.new v1 3 1 1 #[.int .i64 5] (0,0) aH rfl)).mono ?_;rintro e yy ⟨rfl,o9,oC⟩;have tJ:=aA o9;have tK:Hid (kN b w yy):=aA ((hB.o.alloc _).trans oC);clear o9 oC;go_wp2;go_roundw
    case rel=>exact⟨1,1,by omega,rfl,rfl,tJ,tK⟩
    case measure=>simp[intOf]
   ·obtain rfl:ki=1:=by omega
    clear hk kD rC;have pQ:∀W,(Instr.index 222 (.agg #[.int .i64 33434,.int .i64 33437,.int .i64 37378,.int .i64 37386]) (.int .i64 1)).run Tryz.prog W= .ok (.int .i64 33437) W:=fun W=>by kernel_rfl
    go_wp2_with fail
    refine(kT b dir kL kP l Hd.o Hl.o 1 _ _ [5] rfl aH _ _ _ _ (hR.o.mono ((aY _ _).alloc (aZ _) _)) (Sl.new v1 3 1 1 #[.int .i64 5] (0,0) aH rfl)).mono ?_;rintro e yy ⟨rfl,o9,oC⟩;have tJ:=aA o9;have tK:Hid (kN b w yy):=aA ((hB.o.alloc _).trans oC);clear o9 oC;go_wp2;go_roundw
    case rel=>exact⟨2,2,by omega,rfl,rfl,tJ,tK⟩
    case measure=>simp[intOf]
   ·obtain rfl:ki=2:=by omega
    clear hk kD rC;have pQ:∀W,(Instr.index 222 (.agg #[.int .i64 33434,.int .i64 33437,.int .i64 37378,.int .i64 37386]) (.int .i64 2)).run Tryz.prog W= .ok (.int .i64 37378) W:=fun W=>by kernel_rfl
    go_wp2_with fail
    refine(kT b dir kL kP l Hd.o Hl.o 2 _ _ [5] rfl aH _ _ _ _ (hR.o.mono ((aY _ _).alloc (aZ _) _)) (Sl.new v1 3 1 1 #[.int .i64 5] (0,0) aH rfl)).mono ?_;rintro e yy ⟨rfl,o9,oC⟩;have tJ:=aA o9;have tK:Hid (kN b w yy):=aA ((hB.o.alloc _).trans oC);clear o9 oC;go_wp2;go_roundw
    case rel=>exact⟨3,3,by omega,rfl,rfl,tJ,tK⟩
    case measure=>simp[intOf]
   ·obtain rfl:ki=3:=by omega
    clear hk kD rC;have pQ:∀W,(Instr.index 222 (.agg #[.int .i64 33434,.int .i64 33437,.int .i64 37378,.int .i64 37386]) (.int .i64 3)).run Tryz.prog W= .ok (.int .i64 37386) W:=fun W=>by kernel_rfl
    go_wp2_with fail
    refine(kT b dir kL kP l Hd.o Hl.o 3 _ _ [5] rfl aH _ _ _ _ (hR.o.mono ((aY _ _).alloc (aZ _) _)) (Sl.new v1 3 1 1 #[.int .i64 5] (0,0) aH rfl)).mono ?_;rintro e yy ⟨rfl,o9,oC⟩;have tJ:=aA o9;have tK:Hid (kN b w yy):=aA ((hB.o.alloc _).trans oC);clear o9 oC;go_wp2;go_roundw
    case rel=>exact⟨4,4,by omega,rfl,rfl,tJ,tK⟩
    case measure=>simp[intOf]
  ·obtain rfl:k=4:=by omega
   obtain rfl:ki=4:=by omega
   clear hk kD rC;have R1:=hR;have B1:=hB;clear hR hB;go_wp2;go_loopw [24] (fun i wr=>∃(k:Nat) (ki:Int),k≤6∧ki=k∧i= .int .i64 ki∧Hid (Rules wr b (l++qO dir (kL.take (4+k))))∧Hid (kN b w wr)) (fun i _=>6 - (intOf i).toNat)
   case atStart=>exact⟨0,0,by omega,rfl,rfl,R1,B1⟩
   case round=>
    obtain⟨k,ki,hk,rC,rfl,hR,hB⟩:=hrel;rename World=>v2
    by_cases kD:k<6
    ·rcases(by omega:k=0∨k=1∨k=2∨k=3∨k=4∨k=5)with rfl|rfl|rfl|rfl|rfl|rfl
     ·obtain rfl:ki=0:=by omega
      clear hk kD rC;have pQ:∀W,(Instr.index 289 (.agg #[.int .i64 34850,.int .i64 37383,.int .i64 37384,.int .i64 37385,.int .i64 40961,.int .i64 41986]) (.int .i64 0)).run Tryz.prog W= .ok (.int .i64 34850) W:=fun W=>by kernel_rfl
      go_wp2_with fail
      refine(kT b dir kL kP l Hd.o Hl.o 4 _ _ [3] rfl aH _ _ _ _ (hR.o.mono ((aY _ _).alloc (aZ _) _)) (Sl.new v2 3 1 1 #[.int .i64 3] (0,0) aH rfl)).mono ?_;rintro e yy ⟨rfl,o9,oC⟩;have tJ:=aA o9;have tK:Hid (kN b w yy):=aA ((hB.o.alloc _).trans oC);clear o9 oC;go_wp2;go_roundw
      case rel=>exact⟨1,1,by omega,rfl,rfl,tJ,tK⟩
      case measure=>simp[intOf]
     ·obtain rfl:ki=1:=by omega
      clear hk kD rC;have pQ:∀W,(Instr.index 289 (.agg #[.int .i64 34850,.int .i64 37383,.int .i64 37384,.int .i64 37385,.int .i64 40961,.int .i64 41986]) (.int .i64 1)).run Tryz.prog W= .ok (.int .i64 37383) W:=fun W=>by kernel_rfl
      go_wp2_with fail
      refine(kT b dir kL kP l Hd.o Hl.o 5 _ _ [3] rfl aH _ _ _ _ (hR.o.mono ((aY _ _).alloc (aZ _) _)) (Sl.new v2 3 1 1 #[.int .i64 3] (0,0) aH rfl)).mono ?_;rintro e yy ⟨rfl,o9,oC⟩;have tJ:=aA o9;have tK:Hid (kN b w yy):=aA ((hB.o.alloc _).trans oC);clear o9 oC;go_wp2;go_roundw
      case rel=>exact⟨2,2,by omega,rfl,rfl,tJ,tK⟩
      case measure=>simp[intOf]
     ·obtain rfl:ki=2:=by omega
      clear hk kD rC;have pQ:∀W,(Instr.index 289 (.agg #[.int .i64 34850,.int .i64 37383,.int .i64 37384,.int .i64 37385,.int .i64 40961,.int .i64 41986]) (.int .i64 2)).run Tryz.prog W= .ok (.int .i64 37384) W:=fun W=>by kernel_rfl
      go_wp2_with fail
      refine(kT b dir kL kP l Hd.o Hl.o 6 _ _ [3] rfl aH _ _ _ _ (hR.o.mono ((aY _ _).alloc (aZ _) _)) (Sl.new v2 3 1 1 #[.int .i64 3] (0,0) aH rfl)).mono ?_;rintro e yy ⟨rfl,o9,oC⟩;have tJ:=aA o9;have tK:Hid (kN b w yy):=aA ((hB.o.alloc _).trans oC);clear o9 oC;go_wp2;go_roundw
      case rel=>exact⟨3,3,by omega,rfl,rfl,tJ,tK⟩
      case measure=>simp[intOf]
     ·obtain rfl:ki=3:=by omega
      clear hk kD rC;have pQ:∀W,(Instr.index 289 (.agg #[.int .i64 34850,.int .i64 37383,.int .i64 37384,.int .i64 37385,.int .i64 40961,.int .i64 41986]) (.int .i64 3)).run Tryz.prog W= .ok (.int .i64 37385) W:=fun W=>by kernel_rfl
      go_wp2_with fail
      refine(kT b dir kL kP l Hd.o Hl.o 7 _ _ [3] rfl aH _ _ _ _ (hR.o.mono ((aY _ _).alloc (aZ _) _)) (Sl.new v2 3 1 1 #[.int .i64 3] (0,0) aH rfl)).mono ?_;rintro e yy ⟨rfl,o9,oC⟩;have tJ:=aA o9;have tK:Hid (kN b w yy):=aA ((hB.o.alloc _).trans oC);clear o9 oC;go_wp2;go_roundw
      case rel=>exact⟨4,4,by omega,rfl,rfl,tJ,tK⟩
      case measure=>simp[intOf]
     ·obtain rfl:ki=4:=by omega
      clear hk kD rC;have pQ:∀W,(Instr.index 289 (.agg #[.int .i64 34850,.int .i64 37383,.int .i64 37384,.int .i64 37385,.int .i64 40961,.int .i64 41986]) (.int .i64 4)).run Tryz.prog W= .ok (.int .i64 40961) W:=fun W=>by kernel_rfl
      go_wp2_with fail
      refine(kT b dir kL kP l Hd.o Hl.o 8 _ _ [3] rfl aH _ _ _ _ (hR.o.mono ((aY _ _).alloc (aZ _) _)) (Sl.new v2 3 1 1 #[.int .i64 3] (0,0) aH rfl)).mono ?_;rintro e yy ⟨rfl,o9,oC⟩;have tJ:=aA o9;have tK:Hid (kN b w yy):=aA ((hB.o.alloc _).trans oC);clear o9 oC;go_wp2;go_roundw
      case rel=>exact⟨5,5,by omega,rfl,rfl,tJ,tK⟩
      case measure=>simp[intOf]
     ·obtain rfl:ki=5:=by omega
      clear hk kD rC;have pQ:∀W,(Instr.index 289 (.agg #[.int .i64 34850,.int .i64 37383,.int .i64 37384,.int .i64 37385,.int .i64 40961,.int .i64 41986]) (.int .i64 5)).run Tryz.prog W= .ok (.int .i64 41986) W:=fun W=>by kernel_rfl
      go_wp2_with fail
      refine(kT b dir kL kP l Hd.o Hl.o 9 _ _ [3] rfl aH _ _ _ _ (hR.o.mono ((aY _ _).alloc (aZ _) _)) (Sl.new v2 3 1 1 #[.int .i64 3] (0,0) aH rfl)).mono ?_;rintro e yy ⟨rfl,o9,oC⟩;have tJ:=aA o9;have tK:Hid (kN b w yy):=aA ((hB.o.alloc _).trans oC);clear o9 oC;go_wp2;go_roundw
      case rel=>exact⟨6,6,by omega,rfl,rfl,tJ,tK⟩
      case measure=>simp[intOf]
    ·obtain rfl:k=6:=by omega
     obtain rfl:ki=6:=by omega
     clear hk kD rC;have R2:=hR;have B2:=hB;clear hR hB;go_wp2;go_loopw [33] (fun i wr=>∃(k:Nat) (ki:Int),k≤3∧ki=k∧i= .int .i64 ki∧Hid (Rules wr b (l++qO dir (kL.take (10+k))))∧Hid (kN b w wr)) (fun i _=>3 - (intOf i).toNat)
     case atStart=>exact⟨0,0,by omega,rfl,rfl,R2,B2⟩
     case round=>
      obtain⟨k,ki,hk,rC,rfl,hR,hB⟩:=hrel;rename World=>v3
      by_cases kD:k<3
      ·rcases(by omega:k=0∨k=1∨k=2)with rfl|rfl|rfl
       ·obtain rfl:ki=0:=by omega
        clear hk kD rC;have pQ:∀W,(Instr.index 48 (.agg #[.int .i64 36864,.int .i64 37121,.int .i64 40960]) (.int .i64 0)).run Tryz.prog W= .ok (.int .i64 36864) W:=fun W=>by kernel_rfl
        go_wp2_with fail
        refine(kT b dir kL kP l Hd.o Hl.o 10 _ _ [7] rfl aH _ _ _ _ (hR.o.mono ((aY _ _).alloc (aZ _) _)) (Sl.new v3 3 1 1 #[.int .i64 7] (0,0) aH rfl)).mono ?_;rintro e yy ⟨rfl,o9,oC⟩;have tJ:=aA o9;have tK:Hid (kN b w yy):=aA ((hB.o.alloc _).trans oC);clear o9 oC;go_wp2;go_roundw
        case rel=>exact⟨1,1,by omega,rfl,rfl,tJ,tK⟩
        case measure=>simp[intOf]
       ·obtain rfl:ki=1:=by omega
        clear hk kD rC;have pQ:∀W,(Instr.index 48 (.agg #[.int .i64 36864,.int .i64 37121,.int .i64 40960]) (.int .i64 1)).run Tryz.prog W= .ok (.int .i64 37121) W:=fun W=>by kernel_rfl
        go_wp2_with fail
        refine(kT b dir kL kP l Hd.o Hl.o 11 _ _ [7] rfl aH _ _ _ _ (hR.o.mono ((aY _ _).alloc (aZ _) _)) (Sl.new v3 3 1 1 #[.int .i64 7] (0,0) aH rfl)).mono ?_;rintro e yy ⟨rfl,o9,oC⟩;have tJ:=aA o9;have tK:Hid (kN b w yy):=aA ((hB.o.alloc _).trans oC);clear o9 oC;go_wp2;go_roundw
        case rel=>exact⟨2,2,by omega,rfl,rfl,tJ,tK⟩
        case measure=>simp[intOf]
       ·obtain rfl:ki=2:=by omega
        clear hk kD rC;have pQ:∀W,(Instr.index 48 (.agg #[.int .i64 36864,.int .i64 37121,.int .i64 40960]) (.int .i64 2)).run Tryz.prog W= .ok (.int .i64 40960) W:=fun W=>by kernel_rfl
        go_wp2_with fail
        refine(kT b dir kL kP l Hd.o Hl.o 12 _ _ [7] rfl aH _ _ _ _ (hR.o.mono ((aY _ _).alloc (aZ _) _)) (Sl.new v3 3 1 1 #[.int .i64 7] (0,0) aH rfl)).mono ?_;rintro e yy ⟨rfl,o9,oC⟩;have tJ:=aA o9;have tK:Hid (kN b w yy):=aA ((hB.o.alloc _).trans oC);clear o9 oC;go_wp2;go_roundw
        case rel=>exact⟨3,3,by omega,rfl,rfl,tJ,tK⟩
        case measure=>simp[intOf]
      ·obtain rfl:k=3:=by omega
       obtain rfl:ki=3:=by omega
       clear hk kD rC;have R3:=hR;have B3:=hB;clear hR hB;go_wp2;go_loopw [42] (fun i wr=>∃(k:Nat) (ki:Int),k≤2∧ki=k∧i= .int .i64 ki∧Hid (Rules wr b (l++qO dir (kL.take (13+k))))∧Hid (kN b w wr)) (fun i _=>2 - (intOf i).toNat)
       case atStart=>exact⟨0,0,by omega,rfl,rfl,R3,B3⟩
       case round=>
        obtain⟨k,ki,hk,rC,rfl,hR,hB⟩:=hrel;rename World=>v4
        by_cases kD:k<2
        ·rcases(by omega:k=0∨k=1)with rfl|rfl
         ·obtain rfl:ki=0:=by omega
          clear hk kD rC;have pQ:∀W,(Instr.index 288 (.agg #[.int .i64 37377,.int .i64 37380]) (.int .i64 0)).run Tryz.prog W= .ok (.int .i64 37377) W:=fun W=>by kernel_rfl
          go_wp2_with fail
          refine(kT b dir kL kP l Hd.o Hl.o 13 _ _ [10] rfl aH _ _ _ _ (hR.o.mono ((aY _ _).alloc (aZ _) _)) (Sl.new v4 3 1 1 #[.int .i64 10] (0,0) aH rfl)).mono ?_;rintro e yy ⟨rfl,o9,oC⟩;have tJ:=aA o9;have tK:Hid (kN b w yy):=aA ((hB.o.alloc _).trans oC);clear o9 oC;go_wp2;go_roundw
          case rel=>exact⟨1,1,by omega,rfl,rfl,tJ,tK⟩
          case measure=>simp[intOf]
         ·obtain rfl:ki=1:=by omega
          clear hk kD rC;have pQ:∀W,(Instr.index 288 (.agg #[.int .i64 37377,.int .i64 37380]) (.int .i64 1)).run Tryz.prog W= .ok (.int .i64 37380) W:=fun W=>by kernel_rfl
          go_wp2_with fail
          refine(kT b dir kL kP l Hd.o Hl.o 14 _ _ [10] rfl aH _ _ _ _ (hR.o.mono ((aY _ _).alloc (aZ _) _)) (Sl.new v4 3 1 1 #[.int .i64 10] (0,0) aH rfl)).mono ?_;rintro e yy ⟨rfl,o9,oC⟩;have tJ:=aA o9;have tK:Hid (kN b w yy):=aA ((hB.o.alloc _).trans oC);clear o9 oC;go_wp2;go_roundw
          case rel=>exact⟨2,2,by omega,rfl,rfl,tJ,tK⟩
          case measure=>simp[intOf]
        ·obtain rfl:k=2:=by omega
         obtain rfl:ki=2:=by omega
         clear hk kD rC;have R4:=hR;have B4:=hB;clear hR hB;go_wp2;go_loopw [51] (fun i wr=>∃(k:Nat) (ki:Int),k≤2∧ki=k∧i= .int .i64 ki∧Hid (Rules wr b (l++qO dir (kL.take (15+k))))∧Hid (kN b w wr)) (fun i _=>2 - (intOf i).toNat)
         case atStart=>exact⟨0,0,by omega,rfl,rfl,R4,B4⟩
         case round=>
          obtain⟨k,ki,hk,rC,rfl,hR,hB⟩:=hrel;rename World=>v5
          by_cases kD:k<2
          ·rcases(by omega:k=0∨k=1)with rfl|rfl
           ·obtain rfl:ki=0:=by omega
            clear hk kD rC;have pQ:∀W,(Instr.index 288 (.agg #[.int .i64 36867,.int .i64 36868]) (.int .i64 0)).run Tryz.prog W= .ok (.int .i64 36867) W:=fun W=>by kernel_rfl
            go_wp2_with fail
            refine(kT b dir kL kP l Hd.o Hl.o 15 _ _ [2] rfl aH _ _ _ _ (hR.o.mono ((aY _ _).alloc (aZ _) _)) (Sl.new v5 3 1 1 #[.int .i64 2] (0,0) aH rfl)).mono ?_;rintro e yy ⟨rfl,o9,oC⟩;have tJ:=aA o9;have tK:Hid (kN b w yy):=aA ((hB.o.alloc _).trans oC);clear o9 oC;go_wp2;go_roundw
            case rel=>exact⟨1,1,by omega,rfl,rfl,tJ,tK⟩
            case measure=>simp[intOf]
           ·obtain rfl:ki=1:=by omega
            clear hk kD rC;have pQ:∀W,(Instr.index 288 (.agg #[.int .i64 36867,.int .i64 36868]) (.int .i64 1)).run Tryz.prog W= .ok (.int .i64 36868) W:=fun W=>by kernel_rfl
            go_wp2_with fail
            refine(kT b dir kL kP l Hd.o Hl.o 16 _ _ [2] rfl aH _ _ _ _ (hR.o.mono ((aY _ _).alloc (aZ _) _)) (Sl.new v5 3 1 1 #[.int .i64 2] (0,0) aH rfl)).mono ?_;rintro e yy ⟨rfl,o9,oC⟩;have tJ:=aA o9;have tK:Hid (kN b w yy):=aA ((hB.o.alloc _).trans oC);clear o9 oC;go_wp2;go_roundw
            case rel=>exact⟨2,2,by omega,rfl,rfl,tJ,tK⟩
            case measure=>simp[intOf]
          ·obtain rfl:k=2:=by omega
           obtain rfl:ki=2:=by omega
           clear hk kD rC;have R5:=hR;have B5:=hB;clear hR hB;go_wp2;go_loopw [60] (fun i wr=>∃(k:Nat) (ki:Int),k≤2∧ki=k∧i= .int .i64 ki∧Hid (Rules wr b (l++qO dir (kL.take (17+k))))∧Hid (kN b w wr)) (fun i _=>2 - (intOf i).toNat)
           case atStart=>exact⟨0,0,by omega,rfl,rfl,R5,B5⟩
           case round=>
            obtain⟨k,ki,hk,rC,rfl,hR,hB⟩:=hrel;rename World=>v6
            by_cases kD:k<2
            ·rcases(by omega:k=0∨k=1)with rfl|rfl
             ·obtain rfl:ki=0:=by omega
              clear hk kD rC;have pQ:∀W,(Instr.index 288 (.agg #[.int .i64 40962,.int .i64 40963]) (.int .i64 0)).run Tryz.prog W= .ok (.int .i64 40962) W:=fun W=>by kernel_rfl
              go_wp2_with fail
              refine(kT b dir kL kP l Hd.o Hl.o 17 _ _ [3,4] rfl aH _ _ _ _ (hR.o.mono ((aY _ _).alloc (aZ _) _)) (Sl.new v6 3 1 2 #[.int .i64 3,.int .i64 4] (0,0) aH rfl)).mono ?_;rintro e yy ⟨rfl,o9,oC⟩;have tJ:=aA o9;have tK:Hid (kN b w yy):=aA ((hB.o.alloc _).trans oC);clear o9 oC;go_wp2;go_roundw
              case rel=>exact⟨1,1,by omega,rfl,rfl,tJ,tK⟩
              case measure=>simp[intOf]
             ·obtain rfl:ki=1:=by omega
              clear hk kD rC;have pQ:∀W,(Instr.index 288 (.agg #[.int .i64 40962,.int .i64 40963]) (.int .i64 1)).run Tryz.prog W= .ok (.int .i64 40963) W:=fun W=>by kernel_rfl
              go_wp2_with fail
              refine(kT b dir kL kP l Hd.o Hl.o 18 _ _ [3,4] rfl aH _ _ _ _ (hR.o.mono ((aY _ _).alloc (aZ _) _)) (Sl.new v6 3 1 2 #[.int .i64 3,.int .i64 4] (0,0) aH rfl)).mono ?_;rintro e yy ⟨rfl,o9,oC⟩;have tJ:=aA o9;have tK:Hid (kN b w yy):=aA ((hB.o.alloc _).trans oC);clear o9 oC;go_wp2;go_roundw
              case rel=>exact⟨2,2,by omega,rfl,rfl,tJ,tK⟩
              case measure=>simp[intOf]
            ·obtain rfl:k=2:=by omega
             obtain rfl:ki=2:=by omega
             clear hk kD rC;have R6:=hR;have B6:=hB;clear hR hB;go_wp2_with fail
             refine(kT b dir kL kP l Hd.o Hl.o 19 _ _ [3] rfl aH _ _ _ _ (R6.o.mono ((aY _ _).alloc (aZ _) _)) (Sl.new v6 3 1 1 #[.int .i64 3] (0,0) aH rfl)).mono ?_;rintro e x7 ⟨rfl,rx7,bx7⟩;have Rx7:=aA rx7;have Bx7:Hid (kN b w x7):=aA ((B6.o.alloc _).trans bx7);clear rx7 bx7;go_wp2_with fail
             refine(kT b dir kL kP l Hd.o Hl.o 20 _ _ [7] rfl aH _ _ _ _ (Rx7.o.mono ((aY _ _).alloc (aZ _) _)) (Sl.new x7 3 1 1 #[.int .i64 7] (0,0) aH rfl)).mono ?_;rintro e x8 ⟨rfl,rx8,bx8⟩;have Rx8:=aA rx8;have Bx8:Hid (kN b w x8):=aA ((Bx7.o.alloc _).trans bx8);clear rx8 bx8;go_wp2_with fail
             refine(kT b dir kL kP l Hd.o Hl.o 21 _ _ [2] rfl aH _ _ _ _ (Rx8.o.mono ((aY _ _).alloc (aZ _) _)) (Sl.new x8 3 1 1 #[.int .i64 2] (0,0) aH rfl)).mono ?_;rintro e x9 ⟨rfl,rx9,bx9⟩;have Rx9:=aA rx9;have Bx9:Hid (kN b w x9):=aA ((Bx8.o.alloc _).trans bx9);clear rx9 bx9;go_wp2_with fail
             refine(kT b dir kL kP l Hd.o Hl.o 22 _ _ [7] rfl aH _ _ _ _ (Rx9.o.mono ((aY _ _).alloc (aZ _) _)) (Sl.new x9 3 1 1 #[.int .i64 7] (0,0) aH rfl)).mono ?_;rintro e x10 ⟨rfl,bCV,bCW⟩;have bMV:=aA bCV;have bMW:Hid (kN b w x10):=aA ((Bx9.o.alloc _).trans bCW);clear bCV bCW;go_wp2_with fail
             refine(kT b dir kL kP l Hd.o Hl.o 23 _ _ [2] rfl aH _ _ _ _ (bMV.o.mono ((aY _ _).alloc (aZ _) _)) (Sl.new x10 3 1 1 #[.int .i64 2] (0,0) aH rfl)).mono ?_;rintro e x11 ⟨rfl,bCX,bCY⟩;have bMX:=aA bCX;have bMY:Hid (kN b w x11):=aA ((bMW.o.alloc _).trans bCY);clear bCX bCY;go_wp2_with fail
             refine(kT b dir kL kP l Hd.o Hl.o 24 _ _ [5] rfl aH _ _ _ _ (bMX.o.mono ((aY _ _).alloc (aZ _) _)) (Sl.new x11 3 1 1 #[.int .i64 5] (0,0) aH rfl)).mono ?_;rintro e x12 ⟨rfl,bCZ,bD0⟩;have bMZ:=aA bCZ;have bN0:Hid (kN b w x12):=aA ((bMY.o.alloc _).trans bD0);clear bCZ bD0;go_wp2;go_end0
             exact⟨rfl,bMZ.o,bN0.o⟩
theorem aXR (b:Nat) (dir:Int) (l:List EQ) (w:World) (hr:Rules w b l) (hd:(Lit.int .i64 dir).wf=true) (hl:∀x∈l,x.1.1≠dir):
  Calls Tryz.prog 195 #[.func (.func 193) #[.agg #[.map (some b),.int .i64 dir]] #[]] w fun e w'=>e= .returned (.tuple #[])∧Rules w' b (l++qO dir yE)∧kN b w w':=by
 have R0:Hid (Rules w b (l++qO dir (yE.take 0))):=aA (by simpa [qO] using hr);have B0:Hid (kN b w w):=aA (kN.refl _ _);obtain⟨Hl,Hd⟩:=aJ hl hd;clear hr hl hd;go_enter Tryz.func195,Tryz.ntmps195;go_wp2_with fail
 refine(kT b dir yE sO l Hd.o Hl.o 0 _ _ [1] rfl aH _ _ _ _ (R0.o.mono ((aY _ _).alloc (aZ _) _)) (Sl.new w 3 1 1 #[.int .i64 1] (0,0) aH rfl)).mono ?_;rintro e x1 ⟨rfl,rx1,bx1⟩;have Rx1:=aA rx1;have Bx1:Hid (kN b w x1):=aA ((B0.o.alloc _).trans bx1);clear rx1 bx1;go_wp2_with fail
 refine(kT b dir yE sO l Hd.o Hl.o 1 _ _ [1] rfl aH _ _ _ _ (Rx1.o.mono ((aY _ _).alloc (aZ _) _)) (Sl.new x1 3 1 1 #[.int .i64 1] (0,0) aH rfl)).mono ?_;rintro e x2 ⟨rfl,rx2,bx2⟩;have Rx2:=aA rx2;have Bx2:Hid (kN b w x2):=aA ((Bx1.o.alloc _).trans bx2);clear rx2 bx2;go_wp2_with fail
 refine(kT b dir yE sO l Hd.o Hl.o 2 _ _ [5] rfl aH _ _ _ _ (Rx2.o.mono ((aY _ _).alloc (aZ _) _)) (Sl.new x2 3 1 1 #[.int .i64 5] (0,0) aH rfl)).mono ?_;rintro e x3 ⟨rfl,rx3,bx3⟩;have Rx3:=aA rx3;have Bx3:Hid (kN b w x3):=aA ((Bx2.o.alloc _).trans bx3);clear rx3 bx3;go_wp2;go_loopw [16] (fun i wr=>∃(k:Nat) (ki:Int),k≤2∧ki=k∧i= .int .i64 ki∧Hid (Rules wr b (l++qO dir (yE.take (3+k))))∧Hid (kN b w wr)) (fun i _=>2 - (intOf i).toNat)
 case atStart=>exact⟨0,0,by omega,rfl,rfl,Rx3,Bx3⟩
 case round=>
  obtain⟨k,ki,hk,rC,rfl,hR,hB⟩:=hrel;rename World=>v4
  by_cases kD:k<2
  ·rcases(by omega:k=0∨k=1)with rfl|rfl
   ·obtain rfl:ki=0:=by omega
    clear hk kD rC;have pQ:∀W,(Instr.index 288 (.agg #[.int .i64 1,.int .i64 3]) (.int .i64 0)).run Tryz.prog W= .ok (.int .i64 1) W:=fun W=>by kernel_rfl
    go_wp2_with fail
    refine(kT b dir yE sO l Hd.o Hl.o 3 _ _ [2] rfl aH _ _ _ _ (hR.o.mono ((aY _ _).alloc (aZ _) _)) (Sl.new v4 3 1 1 #[.int .i64 2] (0,0) aH rfl)).mono ?_;rintro e yy ⟨rfl,o9,oC⟩;have tJ:=aA o9;have tK:Hid (kN b w yy):=aA ((hB.o.alloc _).trans oC);clear o9 oC;go_wp2;go_roundw
    case rel=>exact⟨1,1,by omega,rfl,rfl,tJ,tK⟩
    case measure=>simp[intOf]
   ·obtain rfl:ki=1:=by omega
    clear hk kD rC;have pQ:∀W,(Instr.index 288 (.agg #[.int .i64 1,.int .i64 3]) (.int .i64 1)).run Tryz.prog W= .ok (.int .i64 3) W:=fun W=>by kernel_rfl
    go_wp2_with fail
    refine(kT b dir yE sO l Hd.o Hl.o 4 _ _ [2] rfl aH _ _ _ _ (hR.o.mono ((aY _ _).alloc (aZ _) _)) (Sl.new v4 3 1 1 #[.int .i64 2] (0,0) aH rfl)).mono ?_;rintro e yy ⟨rfl,o9,oC⟩;have tJ:=aA o9;have tK:Hid (kN b w yy):=aA ((hB.o.alloc _).trans oC);clear o9 oC;go_wp2;go_roundw
    case rel=>exact⟨2,2,by omega,rfl,rfl,tJ,tK⟩
    case measure=>simp[intOf]
  ·obtain rfl:k=2:=by omega
   obtain rfl:ki=2:=by omega
   clear hk kD rC;have R4:=hR;have B4:=hB;clear hR hB;go_wp2;go_loopw [25] (fun i wr=>∃(k:Nat) (ki:Int),k≤3∧ki=k∧i= .int .i64 ki∧Hid (Rules wr b (l++qO dir (yE.take (5+k))))∧Hid (kN b w wr)) (fun i _=>3 - (intOf i).toNat)
   case atStart=>exact⟨0,0,by omega,rfl,rfl,R4,B4⟩
   case round=>
    obtain⟨k,ki,hk,rC,rfl,hR,hB⟩:=hrel;rename World=>v5
    by_cases kD:k<3
    ·rcases(by omega:k=0∨k=1∨k=2)with rfl|rfl|rfl
     ·obtain rfl:ki=0:=by omega
      clear hk kD rC;have pQ:∀W,(Instr.index 48 (.agg #[.int .i64 2,.int .i64 4,.int .i64 7]) (.int .i64 0)).run Tryz.prog W= .ok (.int .i64 2) W:=fun W=>by kernel_rfl
      go_wp2_with fail
      refine(kT b dir yE sO l Hd.o Hl.o 5 _ _ [5] rfl aH _ _ _ _ (hR.o.mono ((aY _ _).alloc (aZ _) _)) (Sl.new v5 3 1 1 #[.int .i64 5] (0,0) aH rfl)).mono ?_;rintro e yy ⟨rfl,o9,oC⟩;have tJ:=aA o9;have tK:Hid (kN b w yy):=aA ((hB.o.alloc _).trans oC);clear o9 oC;go_wp2;go_roundw
      case rel=>exact⟨1,1,by omega,rfl,rfl,tJ,tK⟩
      case measure=>simp[intOf]
     ·obtain rfl:ki=1:=by omega
      clear hk kD rC;have pQ:∀W,(Instr.index 48 (.agg #[.int .i64 2,.int .i64 4,.int .i64 7]) (.int .i64 1)).run Tryz.prog W= .ok (.int .i64 4) W:=fun W=>by kernel_rfl
      go_wp2_with fail
      refine(kT b dir yE sO l Hd.o Hl.o 6 _ _ [5] rfl aH _ _ _ _ (hR.o.mono ((aY _ _).alloc (aZ _) _)) (Sl.new v5 3 1 1 #[.int .i64 5] (0,0) aH rfl)).mono ?_;rintro e yy ⟨rfl,o9,oC⟩;have tJ:=aA o9;have tK:Hid (kN b w yy):=aA ((hB.o.alloc _).trans oC);clear o9 oC;go_wp2;go_roundw
      case rel=>exact⟨2,2,by omega,rfl,rfl,tJ,tK⟩
      case measure=>simp[intOf]
     ·obtain rfl:ki=2:=by omega
      clear hk kD rC;have pQ:∀W,(Instr.index 48 (.agg #[.int .i64 2,.int .i64 4,.int .i64 7]) (.int .i64 2)).run Tryz.prog W= .ok (.int .i64 7) W:=fun W=>by kernel_rfl
      go_wp2_with fail
      refine(kT b dir yE sO l Hd.o Hl.o 7 _ _ [5] rfl aH _ _ _ _ (hR.o.mono ((aY _ _).alloc (aZ _) _)) (Sl.new v5 3 1 1 #[.int .i64 5] (0,0) aH rfl)).mono ?_;rintro e yy ⟨rfl,o9,oC⟩;have tJ:=aA o9;have tK:Hid (kN b w yy):=aA ((hB.o.alloc _).trans oC);clear o9 oC;go_wp2;go_roundw
      case rel=>exact⟨3,3,by omega,rfl,rfl,tJ,tK⟩
      case measure=>simp[intOf]
    ·obtain rfl:k=3:=by omega
     obtain rfl:ki=3:=by omega
     clear hk kD rC;have R5:=hR;have B5:=hB;clear hR hB;go_wp2_with fail
     refine(kT b dir yE sO l Hd.o Hl.o 8 _ _ [2] rfl aH _ _ _ _ (R5.o.mono ((aY _ _).alloc (aZ _) _)) (Sl.new v5 3 1 1 #[.int .i64 2] (0,0) aH rfl)).mono ?_;rintro e x6 ⟨rfl,rx6,bx6⟩;have Rx6:=aA rx6;have Bx6:Hid (kN b w x6):=aA ((B5.o.alloc _).trans bx6);clear rx6 bx6;go_wp2_with fail
     refine(kT b dir yE sO l Hd.o Hl.o 9 _ _ [2] rfl aH _ _ _ _ (Rx6.o.mono ((aY _ _).alloc (aZ _) _)) (Sl.new x6 3 1 1 #[.int .i64 2] (0,0) aH rfl)).mono ?_;rintro e x7 ⟨rfl,rx7,bx7⟩;have Rx7:=aA rx7;have Bx7:Hid (kN b w x7):=aA ((Bx6.o.alloc _).trans bx7);clear rx7 bx7;go_wp2;go_end0
     exact⟨rfl,Rx7.o,Bx7.o⟩
