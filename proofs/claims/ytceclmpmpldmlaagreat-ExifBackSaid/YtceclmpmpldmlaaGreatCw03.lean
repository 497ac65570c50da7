import Derived.Test.YtceclmpmpldmlaaGreatCw02
set_option linter.unusedSimpArgs false
set_option linter.unusedVariables false
set_option maxRecDepth 100000
set_option maxHeartbeats 8000000
namespace Go.Proofs.YtceclmpmpldmlaaGreat
open Go.RowKit Tt
theorem aOO (b:Nat) (dir:Int) (l:List IE) (w:World) (hr:Rules w b l) (hd:(Lit.int .i64 dir).wf=true) (hl:∀x∈l,x.1.1≠dir):
  Calls Tryz.prog 194 #[.func (.func 193) #[.agg #[.map (some b),.int .i64 dir]] #[]] w fun e w'=>e= .returned (.tuple #[])∧Rules w' b (l++rJ dir nM)∧lG b w w':=by
 have R0:Hid (Rules w b (l++rJ dir (nM.take 0))):=aA (by simpa [rJ] using hr);have B0:Hid (lG b w w):=aA (lG.refl _ _);obtain⟨Hl,Hd⟩:=aJ hl hd;clear hr hl hd;go_enter Tryz.func194,Tryz.ntmps194;go_wp2;go_loopw [15] (fun i wr=>∃(k:Nat) (ki:Int),k≤4∧ki=k∧i= .int .i64 ki∧Hid (Rules wr b (l++rJ dir (nM.take (0+k))))∧Hid (lG b w wr)) (fun i _=>4 - (intOf i).toNat)
 case atStart=>exact⟨0,0,by omega,rfl,rfl,R0,B0⟩
 case round=>
  obtain⟨k,ki,hk,rF,rfl,hR,hB⟩:=hrel;rename World=>v1
  by_cases kY:k<4
  ·rcases(by omega:k=0∨k=1∨k=2∨k=3)with rfl|rfl|rfl|rfl
   ·obtain rfl:ki=0:=by omega
    clear hk kY rF;have qJ:∀W,(Instr.index 222 (.agg #[.int .i64 33434,.int .i64 33437,.int .i64 37378,.int .i64 37386]) (.int .i64 0)).run Tryz.prog W= .ok (.int .i64 33434) W:=fun W=>by kernel_rfl
    go_wp2_with fail
    refine(lM b dir nM lH l Hd.o Hl.o 0 _ _ [5] rfl aH _ _ _ _ (hR.o.mono ((bF _ _).alloc (aY _) _)) (Sl.new v1 3 1 1 #[.int .i64 5] (0,0) aH rfl)).mono ?_;rintro e yy ⟨rfl,oK,oL⟩;have tV:=aA oK;have tX:Hid (lG b w yy):=aA ((hB.o.alloc _).trans oL);clear oK oL;go_wp2;go_roundw
    case rel=>exact⟨1,1,by omega,rfl,rfl,tV,tX⟩
    case measure=>simp[intOf]
   ·obtain rfl:ki=1:=by omega
    clear hk kY rF;have qJ:∀W,(Instr.index 222 (.agg #[.int .i64 33434,.int .i64 33437,.int .i64 37378,.int .i64 37386]) (.int .i64 1)).run Tryz.prog W= .ok (.int .i64 33437) W:=fun W=>by kernel_rfl
    go_wp2_with fail
    refine(lM b dir nM lH l Hd.o Hl.o 1 _ _ [5] rfl aH _ _ _ _ (hR.o.mono ((bF _ _).alloc (aY _) _)) (Sl.new v1 3 1 1 #[.int .i64 5] (0,0) aH rfl)).mono ?_;rintro e yy ⟨rfl,oK,oL⟩;have tV:=aA oK;have tX:Hid (lG b w yy):=aA ((hB.o.alloc _).trans oL);clear oK oL;go_wp2;go_roundw
    case rel=>exact⟨2,2,by omega,rfl,rfl,tV,tX⟩
    case measure=>simp[intOf]
   ·obtain rfl:ki=2:=by omega
    clear hk kY rF;have qJ:∀W,(Instr.index 222 (.agg #[.int .i64 33434,.int .i64 33437,.int .i64 37378,.int .i64 37386]) (.int .i64 2)).run Tryz.prog W= .ok (.int .i64 37378) W:=fun W=>by kernel_rfl
    go_wp2_with fail
    refine(lM b dir nM lH l Hd.o Hl.o 2 _ _ [5] rfl aH _ _ _ _ (hR.o.mono ((bF _ _).alloc (aY _) _)) (Sl.new v1 3 1 1 #[.int .i64 5] (0,0) aH rfl)).mono ?_;rintro e yy ⟨rfl,oK,oL⟩;have tV:=aA oK;have tX:Hid (lG b w yy):=aA ((hB.o.alloc _).trans oL);clear oK oL;go_wp2;go_roundw
    case rel=>exact⟨3,3,by omega,rfl,rfl,tV,tX⟩
    case measure=>simp[intOf]
   ·obtain rfl:ki=3:=by omega
    clear hk kY rF;have qJ:∀W,(Instr.index 222 (.agg #[.int .i64 33434,.int .i64 33437,.int .i64 37378,.int .i64 37386]) (.int .i64 3)).run Tryz.prog W= .ok (.int .i64 37386) W:=fun W=>by kernel_rfl
    go_wp2_with fail
    refine(lM b dir nM lH l Hd.o Hl.o 3 _ _ [5] rfl aH _ _ _ _ (hR.o.mono ((bF _ _).alloc (aY _) _)) (Sl.new v1 3 1 1 #[.int .i64 5] (0,0) aH rfl)).mono ?_;rintro e yy ⟨rfl,oK,oL⟩;have tV:=aA oK;have tX:Hid (lG b w yy):=aA ((hB.o.alloc _).trans oL);clear oK oL;go_wp2;go_roundw
    case rel=>exact⟨4,4,by omega,rfl,rfl,tV,tX⟩
    case measure=>simp[intOf]
  ·obtain rfl:k=4:=by omega
   obtain rfl:ki=4:=by omega
   clear hk kY rF;have R1:=hR;have B1:=hB;clear hR hB;go_wp2;go_loopw [24] (fun i wr=>∃(k:Nat) (ki:Int),k≤6∧ki=k∧i= .int .i64 ki∧Hid (Rules wr b (l++rJ dir (nM.take (4+k))))∧Hid (lG b w wr)) (fun i _=>6 - (intOf i).toNat)
   case atStart=>exact⟨0,0,by omega,rfl,rfl,R1,B1⟩
   case round=>
    obtain⟨k,ki,hk,rF,rfl,hR,hB⟩:=hrel;rename World=>v2
    by_cases kY:k<6
    ·rcases(by omega:k=0∨k=1∨k=2∨k=3∨k=4∨k=5)with rfl|rfl|rfl|rfl|rfl|rfl
     ·obtain rfl:ki=0:=by omega
      clear hk kY rF;have qJ:∀W,(Instr.index 289 (.agg #[.int .i64 34850,.int .i64 37383,.int .i64 37384,.int .i64 37385,.int .i64 40961,.int .i64 41986]) (.int .i64 0)).run Tryz.prog W= .ok (.int .i64 34850) W:=fun W=>by kernel_rfl
      go_wp2_with fail
      refine(lM b dir nM lH l Hd.o Hl.o 4 _ _ [3] rfl aH _ _ _ _ (hR.o.mono ((bF _ _).alloc (aY _) _)) (Sl.new v2 3 1 1 #[.int .i64 3] (0,0) aH rfl)).mono ?_;rintro e yy ⟨rfl,oK,oL⟩;have tV:=aA oK;have tX:Hid (lG b w yy):=aA ((hB.o.alloc _).trans oL);clear oK oL;go_wp2;go_roundw
      case rel=>exact⟨1,1,by omega,rfl,rfl,tV,tX⟩
      case measure=>simp[intOf]
     ·obtain rfl:ki=1:=by omega
      clear hk kY rF;have qJ:∀W,(Instr.index 289 (.agg #[.int .i64 34850,.int .i64 37383,.int .i64 37384,.int .i64 37385,.int .i64 40961,.int .i64 41986]) (.int .i64 1)).run Tryz.prog W= .ok (.int .i64 37383) W:=fun W=>by kernel_rfl
      go_wp2_with fail
      refine(lM b dir nM lH l Hd.o Hl.o 5 _ _ [3] rfl aH _ _ _ _ (hR.o.mono ((bF _ _).alloc (aY _) _)) (Sl.new v2 3 1 1 #[.int .i64 3] (0,0) aH rfl)).mono ?_;rintro e yy ⟨rfl,oK,oL⟩;have tV:=aA oK;have tX:Hid (lG b w yy):=aA ((hB.o.alloc _).trans oL);clear oK oL;go_wp2;go_roundw
      case rel=>exact⟨2,2,by omega,rfl,rfl,tV,tX⟩
      case measure=>simp[intOf]
     ·obtain rfl:ki=2:=by omega
      clear hk kY rF;have qJ:∀W,(Instr.index 289 (.agg #[.int .i64 34850,.int .i64 37383,.int .i64 37384,.int .i64 37385,.int .i64 40961,.int .i64 41986]) (.int .i64 2)).run Tryz.prog W= .ok (.int .i64 37384) W:=fun W=>by kernel_rfl
      go_wp2_with fail
      refine(lM b dir nM lH l Hd.o Hl.o 6 _ _ [3] rfl aH _ _ _ _ (hR.o.mono ((bF _ _).alloc (aY _) _)) (Sl.new v2 3 1 1 #[.int .i64 3] (0,0) aH rfl)).mono ?_;rintro e yy ⟨rfl,oK,oL⟩;have tV:=aA oK;have tX:Hid (lG b w yy):=aA ((hB.o.alloc _).trans oL);clear oK oL;go_wp2;go_roundw
      case rel=>exact⟨3,3,by omega,rfl,rfl,tV,tX⟩
      case measure=>simp[intOf]
     ·obtain rfl:ki=3:=by omega
      clear hk kY rF;have qJ:∀W,(Instr.index 289 (.agg #[.int .i64 34850,.int .i64 37383,.int .i64 37384,.int .i64 37385,.int .i64 40961,.int .i64 41986]) (.int .i64 3)).run Tryz.prog W= .ok (.int .i64 37385) W:=fun W=>by kernel_rfl
      go_wp2_with fail
      refine(lM b dir nM lH l Hd.o Hl.o 7 _ _ [3] rfl aH _ _ _ _ (hR.o.mono ((bF _ _).alloc (aY _) _)) (Sl.new v2 3 1 1 #[.int .i64 3] (0,0) aH rfl)).mono ?_;rintro e yy ⟨rfl,oK,oL⟩;have tV:=aA oK;have tX:Hid (lG b w yy):=aA ((hB.o.alloc _).trans oL);clear oK oL;go_wp2;go_roundw
      case rel=>exact⟨4,4,by omega,rfl,rfl,tV,tX⟩
      case measure=>simp[intOf]
     ·obtain rfl:ki=4:=by omega
      clear hk kY rF;have qJ:∀W,(Instr.index 289 (.agg #[.int .i64 34850,.int .i64 37383,.int .i64 37384,.int .i64 37385,.int .i64 40961,.int .i64 41986]) (.int .i64 4)).run Tryz.prog W= .ok (.int .i64 40961) W:=fun W=>by kernel_rfl
      go_wp2_with fail
      refine(lM b dir nM lH l Hd.o Hl.o 8 _ _ [3] rfl aH _ _ _ _ (hR.o.mono ((bF _ _).alloc (aY _) _)) (Sl.new v2 3 1 1 #[.int .i64 3] (0,0) aH rfl)).mono ?_;rintro e yy ⟨rfl,oK,oL⟩;have tV:=aA oK;have tX:Hid (lG b w yy):=aA ((hB.o.alloc _).trans oL);clear oK oL;go_wp2;go_roundw
      case rel=>exact⟨5,5,by omega,rfl,rfl,tV,tX⟩
      case measure=>simp[intOf]
     ·obtain rfl:ki=5:=by omega
      clear hk kY rF;have qJ:∀W,(Instr.index 289 (.agg #[.int .i64 34850,.int .i64 37383,.int .i64 37384,.int .i64 37385,.int .i64 40961,.int .i64 41986]) (.int .i64 5)).run Tryz.prog W= .ok (.int .i64 41986) W:=fun W=>by kernel_rfl
      go_wp2_with fail
      refine(lM b dir nM lH l Hd.o Hl.o 9 _ _ [3] rfl aH _ _ _ _ (hR.o.mono ((bF _ _).alloc (aY _) _)) (Sl.new v2 3 1 1 #[.int .i64 3] (0,0) aH rfl)).mono ?_;rintro e yy ⟨rfl,oK,oL⟩;have tV:=aA oK;have tX:Hid (lG b w yy):=aA ((hB.o.alloc _).trans oL);clear oK oL;go_wp2;go_roundw
      case rel=>exact⟨6,6,by omega,rfl,rfl,tV,tX⟩
      case measure=>simp[intOf]
    ·obtain rfl:k=6:=by omega
     obtain rfl:ki=6:=by omega
     clear hk kY rF;have R2:=hR;have B2:=hB;clear hR hB;go_wp2;go_loopw [33] (fun i wr=>∃(k:Nat) (ki:Int),k≤3∧ki=k∧i= .int .i64 ki∧Hid (Rules wr b (l++rJ dir (nM.take (10+k))))∧Hid (lG b w wr)) (fun i _=>3 - (intOf i).toNat)
     case atStart=>exact⟨0,0,by omega,rfl,rfl,R2,B2⟩
     case round=>
      obtain⟨k,ki,hk,rF,rfl,hR,hB⟩:=hrel;rename World=>v3
      by_cases kY:k<3
      ·rcases(by omega:k=0∨k=1∨k=2)with rfl|rfl|rfl
       ·obtain rfl:ki=0:=by omega
        clear hk kY rF;have qJ:∀W,(Instr.index 48 (.agg #[.int .i64 36864,.int .i64 37121,.int .i64 40960]) (.int .i64 0)).run Tryz.prog W= .ok (.int .i64 36864) W:=fun W=>by kernel_rfl
        go_wp2_with fail
        refine(lM b dir nM lH l Hd.o Hl.o 10 _ _ [7] rfl aH _ _ _ _ (hR.o.mono ((bF _ _).alloc (aY _) _)) (Sl.new v3 3 1 1 #[.int .i64 7] (0,0) aH rfl)).mono ?_;rintro e yy ⟨rfl,oK,oL⟩;have tV:=aA oK;have tX:Hid (lG b w yy):=aA ((hB.o.alloc _).trans oL);clear oK oL;go_wp2;go_roundw
        case rel=>exact⟨1,1,by omega,rfl,rfl,tV,tX⟩
        case measure=>simp[intOf]
       ·obtain rfl:ki=1:=by omega
        clear hk kY rF;have qJ:∀W,(Instr.index 48 (.agg #[.int .i64 36864,.int .i64 37121,.int .i64 40960]) (.int .i64 1)).run Tryz.prog W= .ok (.int .i64 37121) W:=fun W=>by kernel_rfl
        go_wp2_with fail
        refine(lM b dir nM lH l Hd.o Hl.o 11 _ _ [7] rfl aH _ _ _ _ (hR.o.mono ((bF _ _).alloc (aY _) _)) (Sl.new v3 3 1 1 #[.int .i64 7] (0,0) aH rfl)).mono ?_;rintro e yy ⟨rfl,oK,oL⟩;have tV:=aA oK;have tX:Hid (lG b w yy):=aA ((hB.o.alloc _).trans oL);clear oK oL;go_wp2;go_roundw
        case rel=>exact⟨2,2,by omega,rfl,rfl,tV,tX⟩
        case measure=>simp[intOf]
       ·obtain rfl:ki=2:=by omega
        clear hk kY rF;have qJ:∀W,(Instr.index 48 (.agg #[.int .i64 36864,.int .i64 37121,.int .i64 40960]) (.int .i64 2)).run Tryz.prog W= .ok (.int .i64 40960) W:=fun W=>by kernel_rfl
        go_wp2_with fail
        refine(lM b dir nM lH l Hd.o Hl.o 12 _ _ [7] rfl aH _ _ _ _ (hR.o.mono ((bF _ _).alloc (aY _) _)) (Sl.new v3 3 1 1 #[.int .i64 7] (0,0) aH rfl)).mono ?_;rintro e yy ⟨rfl,oK,oL⟩;have tV:=aA oK;have tX:Hid (lG b w yy):=aA ((hB.o.alloc _).trans oL);clear oK oL;go_wp2;go_roundw
        case rel=>exact⟨3,3,by omega,rfl,rfl,tV,tX⟩
        case measure=>simp[intOf]
      ·obtain rfl:k=3:=by omega
       obtain rfl:ki=3:=by omega
       clear hk kY rF;have R3:=hR;have B3:=hB;clear hR hB;go_wp2;go_loopw [42] (fun i wr=>∃(k:Nat) (ki:Int),k≤2∧ki=k∧i= .int .i64 ki∧Hid (Rules wr b (l++rJ dir (nM.take (13+k))))∧Hid (lG b w wr)) (fun i _=>2 - (intOf i).toNat)
       case atStart=>exact⟨0,0,by omega,rfl,rfl,R3,B3⟩
       case round=>
        obtain⟨k,ki,hk,rF,rfl,hR,hB⟩:=hrel;rename World=>v4
        by_cases kY:k<2
        ·rcases(by omega:k=0∨k=1)with rfl|rfl
         ·obtain rfl:ki=0:=by omega
          clear hk kY rF;have qJ:∀W,(Instr.index 288 (.agg #[.int .i64 37377,.int .i64 37380]) (.int .i64 0)).run Tryz.prog W= .ok (.int .i64 37377) W:=fun W=>by kernel_rfl
          go_wp2_with fail
          refine(lM b dir nM lH l Hd.o Hl.o 13 _ _ [10] rfl aH _ _ _ _ (hR.o.mono ((bF _ _).alloc (aY _) _)) (Sl.new v4 3 1 1 #[.int .i64 10] (0,0) aH rfl)).mono ?_;rintro e yy ⟨rfl,oK,oL⟩;have tV:=aA oK;have tX:Hid (lG b w yy):=aA ((hB.o.alloc _).trans oL);clear oK oL;go_wp2;go_roundw
          case rel=>exact⟨1,1,by omega,rfl,rfl,tV,tX⟩
          case measure=>simp[intOf]
         ·obtain rfl:ki=1:=by omega
          clear hk kY rF;have qJ:∀W,(Instr.index 288 (.agg #[.int .i64 37377,.int .i64 37380]) (.int .i64 1)).run Tryz.prog W= .ok (.int .i64 37380) W:=fun W=>by kernel_rfl
          go_wp2_with fail
          refine(lM b dir nM lH l Hd.o Hl.o 14 _ _ [10] rfl aH _ _ _ _ (hR.o.mono ((bF _ _).alloc (aY _) _)) (Sl.new v4 3 1 1 #[.int .i64 10] (0,0) aH rfl)).mono ?_;rintro e yy ⟨rfl,oK,oL⟩;have tV:=aA oK;have tX:Hid (lG b w yy):=aA ((hB.o.alloc _).trans oL);clear oK oL;go_wp2;go_roundw
          case rel=>exact⟨2,2,by omega,rfl,rfl,tV,tX⟩
          case measure=>simp[intOf]
        ·obtain rfl:k=2:=by omega
         obtain rfl:ki=2:=by omega
         clear hk kY rF;have R4:=hR;have B4:=hB;clear hR hB;go_wp2;go_loopw [51] (fun i wr=>∃(k:Nat) (ki:Int),k≤2∧ki=k∧i= .int .i64 ki∧Hid (Rules wr b (l++rJ dir (nM.take (15+k))))∧Hid (lG b w wr)) (fun i _=>2 - (intOf i).toNat)
         case atStart=>exact⟨0,0,by omega,rfl,rfl,R4,B4⟩
         case round=>
          obtain⟨k,ki,hk,rF,rfl,hR,hB⟩:=hrel;rename World=>v5
          by_cases kY:k<2
          ·rcases(by omega:k=0∨k=1)with rfl|rfl
           ·obtain rfl:ki=0:=by omega
            clear hk kY rF;have qJ:∀W,(Instr.index 288 (.agg #[.int .i64 36867,.int .i64 36868]) (.int .i64 0)).run Tryz.prog W= .ok (.int .i64 36867) W:=fun W=>by kernel_rfl
            go_wp2_with fail
            refine(lM b dir nM lH l Hd.o Hl.o 15 _ _ [2] rfl aH _ _ _ _ (hR.o.mono ((bF _ _).alloc (aY _) _)) (Sl.new v5 3 1 1 #[.int .i64 2] (0,0) aH rfl)).mono ?_;rintro e yy ⟨rfl,oK,oL⟩;have tV:=aA oK;have tX:Hid (lG b w yy):=aA ((hB.o.alloc _).trans oL);clear oK oL;go_wp2;go_roundw
            case rel=>exact⟨1,1,by omega,rfl,rfl,tV,tX⟩
            case measure=>simp[intOf]
           ·obtain rfl:ki=1:=by omega
            clear hk kY rF;have qJ:∀W,(Instr.index 288 (.agg #[.int .i64 36867,.int .i64 36868]) (.int .i64 1)).run Tryz.prog W= .ok (.int .i64 36868) W:=fun W=>by kernel_rfl
            go_wp2_with fail
            refine(lM b dir nM lH l Hd.o Hl.o 16 _ _ [2] rfl aH _ _ _ _ (hR.o.mono ((bF _ _).alloc (aY _) _)) (Sl.new v5 3 1 1 #[.int .i64 2] (0,0) aH rfl)).mono ?_;rintro e yy ⟨rfl,oK,oL⟩;have tV:=aA oK;have tX:Hid (lG b w yy):=aA ((hB.o.alloc _).trans oL);clear oK oL;go_wp2;go_roundw
            case rel=>exact⟨2,2,by omega,rfl,rfl,tV,tX⟩
            case measure=>simp[intOf]
          ·obtain rfl:k=2:=by omega
           obtain rfl:ki=2:=by omega
           clear hk kY rF;have R5:=hR;have B5:=hB;clear hR hB;go_wp2;go_loopw [60] (fun i wr=>∃(k:Nat) (ki:Int),k≤2∧ki=k∧i= .int .i64 ki∧Hid (Rules wr b (l++rJ dir (nM.take (17+k))))∧Hid (lG b w wr)) (fun i _=>2 - (intOf i).toNat)
           case atStart=>exact⟨0,0,by omega,rfl,rfl,R5,B5⟩
           case round=>
            obtain⟨k,ki,hk,rF,rfl,hR,hB⟩:=hrel;rename World=>v6
            by_cases kY:k<2
            ·rcases(by omega:k=0∨k=1)with rfl|rfl
             ·obtain rfl:ki=0:=by omega
              clear hk kY rF;have qJ:∀W,(Instr.index 288 (.agg #[.int .i64 40962,.int .i64 40963]) (.int .i64 0)).run Tryz.prog W= .ok (.int .i64 40962) W:=fun W=>by kernel_rfl
              go_wp2_with fail
              refine(lM b dir nM lH l Hd.o Hl.o 17 _ _ [3,4] rfl aH _ _ _ _ (hR.o.mono ((bF _ _).alloc (aY _) _)) (Sl.new v6 3 1 2 #[.int .i64 3,.int .i64 4] (0,0) aH rfl)).mono ?_;rintro e yy ⟨rfl,oK,oL⟩;have tV:=aA oK;have tX:Hid (lG b w yy):=aA ((hB.o.alloc _).trans oL);clear oK oL;go_wp2;go_roundw
              case rel=>exact⟨1,1,by omega,rfl,rfl,tV,tX⟩
              case measure=>simp[intOf]
             ·obtain rfl:ki=1:=by omega
              clear hk kY rF;have qJ:∀W,(Instr.index 288 (.agg #[.int .i64 40962,.int .i64 40963]) (.int .i64 1)).run Tryz.prog W= .ok (.int .i64 40963) W:=fun W=>by kernel_rfl
              go_wp2_with fail
              refine(lM b dir nM lH l Hd.o Hl.o 18 _ _ [3,4] rfl aH _ _ _ _ (hR.o.mono ((bF _ _).alloc (aY _) _)) (Sl.new v6 3 1 2 #[.int .i64 3,.int .i64 4] (0,0) aH rfl)).mono ?_;rintro e yy ⟨rfl,oK,oL⟩;have tV:=aA oK;have tX:Hid (lG b w yy):=aA ((hB.o.alloc _).trans oL);clear oK oL;go_wp2;go_roundw
              case rel=>exact⟨2,2,by omega,rfl,rfl,tV,tX⟩
              case measure=>simp[intOf]
            ·obtain rfl:k=2:=by omega
             obtain rfl:ki=2:=by omega
             clear hk kY rF;have R6:=hR;have B6:=hB;clear hR hB;go_wp2_with fail
             refine(lM b dir nM lH l Hd.o Hl.o 19 _ _ [3] rfl aH _ _ _ _ (R6.o.mono ((bF _ _).alloc (aY _) _)) (Sl.new v6 3 1 1 #[.int .i64 3] (0,0) aH rfl)).mono ?_;rintro e x7 ⟨rfl,rx7,bx7⟩;have Rx7:=aA rx7;have Bx7:Hid (lG b w x7):=aA ((B6.o.alloc _).trans bx7);clear rx7 bx7;go_wp2_with fail
             refine(lM b dir nM lH l Hd.o Hl.o 20 _ _ [7] rfl aH _ _ _ _ (Rx7.o.mono ((bF _ _).alloc (aY _) _)) (Sl.new x7 3 1 1 #[.int .i64 7] (0,0) aH rfl)).mono ?_;rintro e x8 ⟨rfl,rx8,TY⟩;have Rx8:=aA rx8;have Bx8:Hid (lG b w x8):=aA ((Bx7.o.alloc _).trans TY);clear rx8 TY;go_wp2_with fail
             refine(lM b dir nM lH l Hd.o Hl.o 21 _ _ [2] rfl aH _ _ _ _ (Rx8.o.mono ((bF _ _).alloc (aY _) _)) (Sl.new x8 3 1 1 #[.int .i64 2] (0,0) aH rfl)).mono ?_;rintro e x9 ⟨rfl,rx9,bx9⟩;have Rx9:=aA rx9;have Bx9:Hid (lG b w x9):=aA ((Bx8.o.alloc _).trans bx9);clear rx9 bx9;go_wp2_with fail
             refine(lM b dir nM lH l Hd.o Hl.o 22 _ _ [7] rfl aH _ _ _ _ (Rx9.o.mono ((bF _ _).alloc (aY _) _)) (Sl.new x9 3 1 1 #[.int .i64 7] (0,0) aH rfl)).mono ?_;rintro e x10 ⟨rfl,bJ6,bJ7⟩;have bU2:=aA bJ6;have bU3:Hid (lG b w x10):=aA ((Bx9.o.alloc _).trans bJ7);clear bJ6 bJ7;go_wp2_with fail
             refine(lM b dir nM lH l Hd.o Hl.o 23 _ _ [2] rfl aH _ _ _ _ (bU2.o.mono ((bF _ _).alloc (aY _) _)) (Sl.new x10 3 1 1 #[.int .i64 2] (0,0) aH rfl)).mono ?_;rintro e x11 ⟨rfl,bJ8,bJ9⟩;have bU4:=aA bJ8;have bU5:Hid (lG b w x11):=aA ((bU3.o.alloc _).trans bJ9);clear bJ8 bJ9;go_wp2_with fail
             refine(lM b dir nM lH l Hd.o Hl.o 24 _ _ [5] rfl aH _ _ _ _ (bU4.o.mono ((bF _ _).alloc (aY _) _)) (Sl.new x11 3 1 1 #[.int .i64 5] (0,0) aH rfl)).mono ?_;rintro e x12 ⟨rfl,bJA,bJB⟩;have bU6:=aA bJA;have bU7:Hid (lG b w x12):=aA ((bU5.o.alloc _).trans bJB);clear bJA bJB;go_wp2;go_end0
             exact⟨rfl,bU6.o,bU7.o⟩
theorem b2E (b:Nat) (dir:Int) (l:List IE) (w:World) (hr:Rules w b l) (hd:(Lit.int .i64 dir).wf=true) (hl:∀x∈l,x.1.1≠dir):
  Calls Tryz.prog 195 #[.func (.func 193) #[.agg #[.map (some b),.int .i64 dir]] #[]] w fun e w'=>e= .returned (.tuple #[])∧Rules w' b (l++rJ dir NY)∧lG b w w':=by
 have R0:Hid (Rules w b (l++rJ dir (NY.take 0))):=aA (by simpa [rJ] using hr);have B0:Hid (lG b w w):=aA (lG.refl _ _);obtain⟨Hl,Hd⟩:=aJ hl hd;clear hr hl hd;go_enter Tryz.func195,Tryz.ntmps195;go_wp2_with fail
 refine(lM b dir NY tH l Hd.o Hl.o 0 _ _ [1] rfl aH _ _ _ _ (R0.o.mono ((bF _ _).alloc (aY _) _)) (Sl.new w 3 1 1 #[.int .i64 1] (0,0) aH rfl)).mono ?_;rintro e x1 ⟨rfl,rx1,bx1⟩;have Rx1:=aA rx1;have Bx1:Hid (lG b w x1):=aA ((B0.o.alloc _).trans bx1);clear rx1 bx1;go_wp2_with fail
 refine(lM b dir NY tH l Hd.o Hl.o 1 _ _ [1] rfl aH _ _ _ _ (Rx1.o.mono ((bF _ _).alloc (aY _) _)) (Sl.new x1 3 1 1 #[.int .i64 1] (0,0) aH rfl)).mono ?_;rintro e x2 ⟨rfl,rx2,bx2⟩;have Rx2:=aA rx2;have Bx2:Hid (lG b w x2):=aA ((Bx1.o.alloc _).trans bx2);clear rx2 bx2;go_wp2_with fail
 refine(lM b dir NY tH l Hd.o Hl.o 2 _ _ [5] rfl aH _ _ _ _ (Rx2.o.mono ((bF _ _).alloc (aY _) _)) (Sl.new x2 3 1 1 #[.int .i64 5] (0,0) aH rfl)).mono ?_;rintro e x3 ⟨rfl,rx3,bx3⟩;have Rx3:=aA rx3;have Bx3:Hid (lG b w x3):=aA ((Bx2.o.alloc _).trans bx3);clear rx3 bx3;go_wp2;go_loopw [16] (fun i wr=>∃(k:Nat) (ki:Int),k≤2∧ki=k∧i= .int .i64 ki∧Hid (Rules wr b (l++rJ dir (NY.take (3+k))))∧Hid (lG b w wr)) (fun i _=>2 - (intOf i).toNat)
 case atStart=>exact⟨0,0,by omega,rfl,rfl,Rx3,Bx3⟩
 case round=>
  obtain⟨k,ki,hk,rF,rfl,hR,hB⟩:=hrel;rename World=>v4
  by_cases kY:k<2
  ·rcases(by omega:k=0∨k=1)with rfl|rfl
   ·obtain rfl:ki=0:=by omega
    clear hk kY rF;have qJ:∀W,(Instr.index 288 (.agg #[.int .i64 1,.int .i64 3]) (.int .i64 0)).run Tryz.prog W= .ok (.int .i64 1) W:=fun W=>by kernel_rfl
    go_wp2_with fail
    refine(lM b dir NY tH l Hd.o Hl.o 3 _ _ [2] rfl aH _ _ _ _ (hR.o.mono ((bF _ _).alloc (aY _) _)) (Sl.new v4 3 1 1 #[.int .i64 2] (0,0) aH rfl)).mono ?_;rintro e yy ⟨rfl,oK,oL⟩;have tV:=aA oK;have tX:Hid (lG b w yy):=aA ((hB.o.alloc _).trans oL);clear oK oL;go_wp2;go_roundw
    case rel=>exact⟨1,1,by omega,rfl,rfl,tV,tX⟩
    case measure=>simp[intOf]
   ·obtain rfl:ki=1:=by omega
    clear hk kY rF;have qJ:∀W,(Instr.index 288 (.agg #[.int .i64 1,.int .i64 3]) (.int .i64 1)).run Tryz.prog W= .ok (.int .i64 3) W:=fun W=>by kernel_rfl
    go_wp2_with fail
    refine(lM b dir NY tH l Hd.o Hl.o 4 _ _ [2] rfl aH _ _ _ _ (hR.o.mono ((bF _ _).alloc (aY _) _)) (Sl.new v4 3 1 1 #[.int .i64 2] (0,0) aH rfl)).mono ?_;rintro e yy ⟨rfl,oK,oL⟩;have tV:=aA oK;have tX:Hid (lG b w yy):=aA ((hB.o.alloc _).trans oL);clear oK oL;go_wp2;go_roundw
    case rel=>exact⟨2,2,by omega,rfl,rfl,tV,tX⟩
    case measure=>simp[intOf]
  ·obtain rfl:k=2:=by omega
   obtain rfl:ki=2:=by omega
   clear hk kY rF;have R4:=hR;have B4:=hB;clear hR hB;go_wp2;go_loopw [25] (fun i wr=>∃(k:Nat) (ki:Int),k≤3∧ki=k∧i= .int .i64 ki∧Hid (Rules wr b (l++rJ dir (NY.take (5+k))))∧Hid (lG b w wr)) (fun i _=>3 - (intOf i).toNat)
   case atStart=>exact⟨0,0,by omega,rfl,rfl,R4,B4⟩
   case round=>
    obtain⟨k,ki,hk,rF,rfl,hR,hB⟩:=hrel;rename World=>v5
    by_cases kY:k<3
    ·rcases(by omega:k=0∨k=1∨k=2)with rfl|rfl|rfl
     ·obtain rfl:ki=0:=by omega
      clear hk kY rF;have qJ:∀W,(Instr.index 48 (.agg #[.int .i64 2,.int .i64 4,.int .i64 7]) (.int .i64 0)).run Tryz.prog W= .ok (.int .i64 2) W:=fun W=>by kernel_rfl
      go_wp2_with fail
      refine(lM b dir NY tH l Hd.o Hl.o 5 _ _ [5] rfl aH _ _ _ _ (hR.o.mono ((bF _ _).alloc (aY _) _)) (Sl.new v5 3 1 1 #[.int .i64 5] (0,0) aH rfl)).mono ?_;rintro e yy ⟨rfl,oK,oL⟩;have tV:=aA oK;have tX:Hid (lG b w yy):=aA ((hB.o.alloc _).trans oL);clear oK oL;go_wp2;go_roundw
      case rel=>exact⟨1,1,by omega,rfl,rfl,tV,tX⟩
      case measure=>simp[intOf]
     ·obtain rfl:ki=1:=by omega
      clear hk kY rF;have qJ:∀W,(Instr.index 48 (.agg #[.int .i64 2,.int .i64 4,.int .i64 7]) (.int .i64 1)).run Tryz.prog W= .ok (.int .i64 4) W:=fun W=>by kernel_rfl
      go_wp2_with fail
      refine(lM b dir NY tH l Hd.o Hl.o 6 _ _ [5] rfl aH _ _ _ _ (hR.o.mono ((bF _ _).alloc (aY _) _)) (Sl.new v5 3 1 1 #[.int .i64 5] (0,0) aH rfl)).mono ?_;rintro e yy ⟨rfl,oK,oL⟩;have tV:=aA oK;have tX:Hid (lG b w yy):=aA ((hB.o.alloc _).trans oL);clear oK oL;go_wp2;go_roundw
      case rel=>exact⟨2,2,by omega,rfl,rfl,tV,tX⟩
      case measure=>simp[intOf]
     ·obtain rfl:ki=2:=by omega
      clear hk kY rF;have qJ:∀W,(Instr.index 48 (.agg #[.int .i64 2,.int .i64 4,.int .i64 7]) (.int .i64 2)).run Tryz.prog W= .ok (.int .i64 7) W:=fun W=>by kernel_rfl
      go_wp2_with fail
      refine(lM b dir NY tH l Hd.o Hl.o 7 _ _ [5] rfl aH _ _ _ _ (hR.o.mono ((bF _ _).alloc (aY _) _)) (Sl.new v5 3 1 1 #[.int .i64 5] (0,0) aH rfl)).mono ?_;rintro e yy ⟨rfl,oK,oL⟩;have tV:=aA oK;have tX:Hid (lG b w yy):=aA ((hB.o.alloc _).trans oL);clear oK oL;go_wp2;go_roundw
      case rel=>exact⟨3,3,by omega,rfl,rfl,tV,tX⟩
      case measure=>simp[intOf]
    ·obtain rfl:k=3:=by omega
     obtain rfl:ki=3:=by omega
     clear hk kY rF;have R5:=hR;have B5:=hB;clear hR hB;go_wp2_with fail
     refine(lM b dir NY tH l Hd.o Hl.o 8 _ _ [2] rfl aH _ _ _ _ (R5.o.mono ((bF _ _).alloc (aY _) _)) (Sl.new v5 3 1 1 #[.int .i64 2] (0,0) aH rfl)).mono ?_;rintro e x6 ⟨rfl,rx6,bx6⟩;have Rx6:=aA rx6;have Bx6:Hid (lG b w x6):=aA ((B5.o.alloc _).trans bx6);clear rx6 bx6;go_wp2_with fail
     refine(lM b dir NY tH l Hd.o Hl.o 9 _ _ [2] rfl aH _ _ _ _ (Rx6.o.mono ((bF _ _).alloc (aY _) _)) (Sl.new x6 3 1 1 #[.int .i64 2] (0,0) aH rfl)).mono ?_;rintro e x7 ⟨rfl,rx7,bx7⟩;have Rx7:=aA rx7;have Bx7:Hid (lG b w x7):=aA ((Bx6.o.alloc _).trans bx7);clear rx7 bx7;go_wp2;go_end0
     exact⟨rfl,Rx7.o,Bx7.o⟩
theorem aSK (b:Nat) (dir:Int) (l:List IE) (w:World) (hr:Rules w b l) (hd:(Lit.int .i64 dir).wf=true) (hl:∀x∈l,x.1.1≠dir):
  Calls Tryz.prog 196 #[.func (.func 193) #[.agg #[.map (some b),.int .i64 dir]] #[]] w fun e w'=>e= .returned (.tuple #[])∧Rules w' b (l++rJ dir G5)∧lG b w w':=by
 have R0:Hid (Rules w b (l++rJ dir (G5.take 0))):=aA (by simpa [rJ] using hr);have B0:Hid (lG b w w):=aA (lG.refl _ _);obtain⟨Hl,Hd⟩:=aJ hl hd;clear hr hl hd;go_enter Tryz.func196,Tryz.ntmps196;go_wp2_with fail
 refine(lM b dir G5 vX l Hd.o Hl.o 0 _ _ [7] rfl aH _ _ _ _ (R0.o.mono ((bF _ _).alloc (aY _) _)) (Sl.new w 3 1 1 #[.int .i64 7] (0,0) aH rfl)).mono ?_;rintro e x1 ⟨rfl,rx1,bx1⟩;have Rx1:=aA rx1;have Bx1:Hid (lG b w x1):=aA ((B0.o.alloc _).trans bx1);clear rx1 bx1;go_wp2;go_loopw [12] (fun i wr=>∃(k:Nat) (ki:Int),k≤3∧ki=k∧i= .int .i64 ki∧Hid (Rules wr b (l++rJ dir (G5.take (1+k))))∧Hid (lG b w wr)) (fun i _=>3 - (intOf i).toNat)
 case atStart=>exact⟨0,0,by omega,rfl,rfl,Rx1,Bx1⟩
 case round=>
  obtain⟨k,ki,hk,rF,rfl,hR,hB⟩:=hrel;rename World=>v2
  by_cases kY:k<3
  ·rcases(by omega:k=0∨k=1∨k=2)with rfl|rfl|rfl
   ·obtain rfl:ki=0:=by omega
    clear hk kY rF;have qJ:∀W,(Instr.index 48 (.agg #[.int .i64 45313,.int .i64 45569,.int .i64 45570]) (.int .i64 0)).run Tryz.prog W= .ok (.int .i64 45313) W:=fun W=>by kernel_rfl
    go_wp2_with fail
    refine(lM b dir G5 vX l Hd.o Hl.o 1 _ _ [4] rfl aH _ _ _ _ (hR.o.mono ((bF _ _).alloc (aY _) _)) (Sl.new v2 3 1 1 #[.int .i64 4] (0,0) aH rfl)).mono ?_;rintro e yy ⟨rfl,oK,oL⟩;have tV:=aA oK;have tX:Hid (lG b w yy):=aA ((hB.o.alloc _).trans oL);clear oK oL;go_wp2;go_roundw
    case rel=>exact⟨1,1,by omega,rfl,rfl,tV,tX⟩
    case measure=>simp[intOf]
   ·obtain rfl:ki=1:=by omega
    clear hk kY rF;have qJ:∀W,(Instr.index 48 (.agg #[.int .i64 45313,.int .i64 45569,.int .i64 45570]) (.int .i64 1)).run Tryz.prog W= .ok (.int .i64 45569) W:=fun W=>by kernel_rfl
    go_wp2_with fail
    refine(lM b dir G5 vX l Hd.o Hl.o 2 _ _ [4] rfl aH _ _ _ _ (hR.o.mono ((bF _ _).alloc (aY _) _)) (Sl.new v2 3 1 1 #[.int .i64 4] (0,0) aH rfl)).mono ?_;rintro e yy ⟨rfl,oK,oL⟩;have tV:=aA oK;have tX:Hid (lG b w yy):=aA ((hB.o.alloc _).trans oL);clear oK oL;go_wp2;go_roundw
    case rel=>exact⟨2,2,by omega,rfl,rfl,tV,tX⟩
    case measure=>simp[intOf]
   ·obtain rfl:ki=2:=by omega
    clear hk kY rF;have qJ:∀W,(Instr.index 48 (.agg #[.int .i64 45313,.int .i64 45569,.int .i64 45570]) (.int .i64 2)).run Tryz.prog W= .ok (.int .i64 45570) W:=fun W=>by kernel_rfl
    go_wp2_with fail
    refine(lM b dir G5 vX l Hd.o Hl.o 3 _ _ [4] rfl aH _ _ _ _ (hR.o.mono ((bF _ _).alloc (aY _) _)) (Sl.new v2 3 1 1 #[.int .i64 4] (0,0) aH rfl)).mono ?_;rintro e yy ⟨rfl,oK,oL⟩;have tV:=aA oK;have tX:Hid (lG b w yy):=aA ((hB.o.alloc _).trans oL);clear oK oL;go_wp2;go_roundw
    case rel=>exact⟨3,3,by omega,rfl,rfl,tV,tX⟩
    case measure=>simp[intOf]
  ·obtain rfl:k=3:=by omega
   obtain rfl:ki=3:=by omega
   clear hk kY rF;have R2:=hR;have B2:=hB;clear hR hB;go_wp2;go_loopw [21] (fun i wr=>∃(k:Nat) (ki:Int),k≤2∧ki=k∧i= .int .i64 ki∧Hid (Rules wr b (l++rJ dir (G5.take (4+k))))∧Hid (lG b w wr)) (fun i _=>2 - (intOf i).toNat)
   case atStart=>exact⟨0,0,by omega,rfl,rfl,R2,B2⟩
   case round=>
    obtain⟨k,ki,hk,rF,rfl,hR,hB⟩:=hrel;rename World=>v3
    by_cases kY:k<2
    ·rcases(by omega:k=0∨k=1)with rfl|rfl
     ·obtain rfl:ki=0:=by omega
      clear hk kY rF;have qJ:∀W,(Instr.index 288 (.agg #[.int .i64 45572,.int .i64 45574]) (.int .i64 0)).run Tryz.prog W= .ok (.int .i64 45572) W:=fun W=>by kernel_rfl
      go_wp2_with fail
      refine(lM b dir G5 vX l Hd.o Hl.o 4 _ _ [5] rfl aH _ _ _ _ (hR.o.mono ((bF _ _).alloc (aY _) _)) (Sl.new v3 3 1 1 #[.int .i64 5] (0,0) aH rfl)).mono ?_;rintro e yy ⟨rfl,oK,oL⟩;have tV:=aA oK;have tX:Hid (lG b w yy):=aA ((hB.o.alloc _).trans oL);clear oK oL;go_wp2;go_roundw
      case rel=>exact⟨1,1,by omega,rfl,rfl,tV,tX⟩
      case measure=>simp[intOf]
     ·obtain rfl:ki=1:=by omega
      clear hk kY rF;have qJ:∀W,(Instr.index 288 (.agg #[.int .i64 45572,.int .i64 45574]) (.int .i64 1)).run Tryz.prog W= .ok (.int .i64 45574) W:=fun W=>by kernel_rfl
      go_wp2_with fail
      refine(lM b dir G5 vX l Hd.o Hl.o 5 _ _ [5] rfl aH _ _ _ _ (hR.o.mono ((bF _ _).alloc (aY _) _)) (Sl.new v3 3 1 1 #[.int .i64 5] (0,0) aH rfl)).mono ?_;rintro e yy ⟨rfl,oK,oL⟩;have tV:=aA oK;have tX:Hid (lG b w yy):=aA ((hB.o.alloc _).trans oL);clear oK oL;go_wp2;go_roundw
      case rel=>exact⟨2,2,by omega,rfl,rfl,tV,tX⟩
      case measure=>simp[intOf]
    ·obtain rfl:k=2:=by omega
     obtain rfl:ki=2:=by omega
     clear hk kY rF;have R3:=hR;have B3:=hB;clear hR hB;go_wp2;go_loopw [30] (fun i wr=>∃(k:Nat) (ki:Int),k≤2∧ki=k∧i= .int .i64 ki∧Hid (Rules wr b (l++rJ dir (G5.take (6+k))))∧Hid (lG b w wr)) (fun i _=>2 - (intOf i).toNat)
     case atStart=>exact⟨0,0,by omega,rfl,rfl,R3,B3⟩
     case round=>
      obtain⟨k,ki,hk,rF,rfl,hR,hB⟩:=hrel;rename World=>v4
      by_cases kY:k<2
      ·rcases(by omega:k=0∨k=1)with rfl|rfl
       ·obtain rfl:ki=0:=by omega
        clear hk kY rF;have qJ:∀W,(Instr.index 288 (.agg #[.int .i64 45573,.int .i64 45576]) (.int .i64 0)).run Tryz.prog W= .ok (.int .i64 45573) W:=fun W=>by kernel_rfl
        go_wp2_with fail
        refine(lM b dir G5 vX l Hd.o Hl.o 6 _ _ [10] rfl aH _ _ _ _ (hR.o.mono ((bF _ _).alloc (aY _) _)) (Sl.new v4 3 1 1 #[.int .i64 10] (0,0) aH rfl)).mono ?_;rintro e yy ⟨rfl,oK,oL⟩;have tV:=aA oK;have tX:Hid (lG b w yy):=aA ((hB.o.alloc _).trans oL);clear oK oL;go_wp2;go_roundw
        case rel=>exact⟨1,1,by omega,rfl,rfl,tV,tX⟩
        case measure=>simp[intOf]
       ·obtain rfl:ki=1:=by omega
        clear hk kY rF;have qJ:∀W,(Instr.index 288 (.agg #[.int .i64 45573,.int .i64 45576]) (.int .i64 1)).run Tryz.prog W= .ok (.int .i64 45576) W:=fun W=>by kernel_rfl
        go_wp2_with fail
        refine(lM b dir G5 vX l Hd.o Hl.o 7 _ _ [10] rfl aH _ _ _ _ (hR.o.mono ((bF _ _).alloc (aY _) _)) (Sl.new v4 3 1 1 #[.int .i64 10] (0,0) aH rfl)).mono ?_;rintro e yy ⟨rfl,oK,oL⟩;have tV:=aA oK;have tX:Hid (lG b w yy):=aA ((hB.o.alloc _).trans oL);clear oK oL;go_wp2;go_roundw
        case rel=>exact⟨2,2,by omega,rfl,rfl,tV,tX⟩
        case measure=>simp[intOf]
      ·obtain rfl:k=2:=by omega
       obtain rfl:ki=2:=by omega
       clear hk kY rF;have R4:=hR;have B4:=hB;clear hR hB;go_wp2;go_end0
       exact⟨rfl,R4.o,B4.o⟩
def ZG:List (Int×List Int×Int):= [(1, [2],4),(2, [7],4)]
theorem WJ:(ZG.map (·.1)).Nodup:=by decide
def TH:List IE:= []++rJ 0 qE++rJ 1 qE++rJ 2 nM++rJ 3 NY++rJ 4 ZG++rJ 5 G5
theorem aSL {d:Int} {ts:List (Int×List Int×Int)} {x:IE} (h:x∈rJ d ts):x.1.1=d:=by
 unfold rJ at h;obtain⟨y,_,rfl⟩:=dH.1 h;rfl
theorem MG (box m:Nat) (dir:Int) (w:World) (hc:w.cell? ⟨box,0,none⟩=some (.map (some m))):
  Calls Tryz.prog 191 #[.int .i64 dir,.pointer (some ⟨box,0,none⟩)] w fun e w'=>e= .returned (.agg #[.map (some m),.int .i64 dir])∧Below w.heap.size w w':=by
 have kY:box<w.heap.size:=World.block_lt_of_cell? w ⟨box,0,none⟩ hc;go_enter Tryz.func191,Tryz.ntmps191;go_wp2;refine bodyPost_ret (results_cell_row rfl _ _ w.heap.size 253 #[.map (some m),.int .i64 dir] (0,0) _ rfl (nS w _) Tryz.underlying253 rfl aF) rfl ?_;exact⟨rfl,(bF _ _).alloc (aY _) _⟩
theorem rM {l:List IE} {d d':Int} {ts:List (Int×List Int×Int)} (hl:∀x∈l,x.1.1≠d) (pQ:d'≠d):∀x∈l++rJ d' ts,x.1.1≠d:=by
 intro x hx;rcases bO.1 hx with h|h
 ·exact hl x h
 ·rw[aSL h];exact pQ
theorem aOP (w:World):
  Calls Tryz.prog 132 #[] w fun e w'=>∃b,e= .returned (.map (some b))∧w.heap.size≤b∧Rules w' b TH∧Below w.heap.size w w':=by
 have hmm:= @run_makeMap Tryz.prog;go_enter Tryz.func132,Tryz.ntmps132;go_wp2_with fail
 have r0:Rules ((w.alloc (.map #[] 0)).alloc (.cells #[.map (some w.heap.size)] 198)) w.heap.size []:=(Rules.made w).mono ((bF _ _).alloc (aY _) _);have c0:((w.alloc (.map #[] 0)).alloc (.cells #[.map (some w.heap.size)] 198)).cell? ⟨w.heap.size+1,0,none⟩=some (.map (some w.heap.size)):=by
  have h:=nS (w.alloc (.map #[] 0)) (.cells #[.map (some w.heap.size)] 198);have e:(w.alloc (.map #[] 0)).heap.size=w.heap.size+1:=by simp
  rw[e]at h;unfold World.cell?;rw[h];rfl
 have b0:Below w.heap.size w ((w.alloc (.map #[] 0)).alloc (.cells #[.map (some w.heap.size)] 198)):=((bF _ _).alloc (aY _) _).alloc (by simp) _;have s0:w.heap.size+1<((w.alloc (.map #[] 0)).alloc (.cells #[.map (some w.heap.size)] 198)).heap.size:=by simp
 generalize ((w.alloc (.map #[] 0)).alloc (.cells #[.map (some w.heap.size)] 198))=w0 at*;have aM7:∀d:Int,∀x∈([]:List IE),x.1.1≠d:=fun d x hx=>by cases hx
 obtain⟨N,hN⟩:∃N,N=w.heap.size:=⟨_,rfl⟩;rw[←hN]at r0 c0 b0 s0 ⊢;obtain⟨HN,HB0⟩:=aJ hN b0;clear hN hmm b0;have bb0:lG N w0 w0:=lG.refl _ _;have KD:N+1<w0.heap.size:=by have:=bb0.size;omega
 have UD:w0.cell? ⟨N+1,0,none⟩=some (.map (some N)):=by rw[bb0.cell (p:=⟨N+1,0,none⟩) s0 (by simp)];exact c0
 go_wp2_with fail
 refine(MG (N+1) N 0 w0 UD).mono ?_;rintro e v0 ⟨rfl,q0⟩;have m0:=r0.mono q0;have bq0:lG N w0 v0:=bb0.trans (lG.of_below q0);clear q0 UD KD;go_wp2_with fail
 refine(a92 N 0 _ v0 m0 aH (aM7 0)).mono ?_;rintro e u0 ⟨rfl,r1,x0⟩;have bb1:lG N w0 u0:=bq0.trans x0;clear m0 bq0 x0;have NW:N+1<u0.heap.size:=by have:=bb1.size;omega
 have hc1:u0.cell? ⟨N+1,0,none⟩=some (.map (some N)):=by rw[bb1.cell (p:=⟨N+1,0,none⟩) s0 (by simp)];exact c0
 go_wp2_with fail
 refine(MG (N+1) N 1 u0 hc1).mono ?_;rintro e v1 ⟨rfl,q1⟩;have m1:=r1.mono q1;have bq1:lG N w0 v1:=bb1.trans (lG.of_below q1);clear q1 hc1 NW;go_wp2_with fail
 refine(a92 N 1 _ v1 m1 aH (rM (aM7 1) aH)).mono ?_;rintro e u1 ⟨rfl,r2,x1⟩;have bb2:lG N w0 u1:=bq1.trans x1;clear m1 bq1 x1;have xV:N+1<u1.heap.size:=by have:=bb2.size;omega
 have hc2:u1.cell? ⟨N+1,0,none⟩=some (.map (some N)):=by rw[bb2.cell (p:=⟨N+1,0,none⟩) s0 (by simp)];exact c0
 go_wp2_with fail
 refine(MG (N+1) N 2 u1 hc2).mono ?_;rintro e v2 ⟨rfl,q2⟩;have m2:=r2.mono q2;have bq2:lG N w0 v2:=bb2.trans (lG.of_below q2);clear q2 hc2 xV;go_wp2_with fail
 refine(aOO N 2 _ v2 m2 aH (rM (rM (aM7 2) aH) aH)).mono ?_;rintro e u2 ⟨rfl,r3,x2⟩;have bb3:lG N w0 u2:=bq2.trans x2;clear m2 bq2 x2;have hs3:N+1<u2.heap.size:=by have:=bb3.size;omega
 have hc3:u2.cell? ⟨N+1,0,none⟩=some (.map (some N)):=by rw[bb3.cell (p:=⟨N+1,0,none⟩) s0 (by simp)];exact c0
 go_wp2_with fail
 refine(MG (N+1) N 3 u2 hc3).mono ?_;rintro e v3 ⟨rfl,q3⟩;have m3:=r3.mono q3;have bq3:lG N w0 v3:=bb3.trans (lG.of_below q3);clear q3 hc3 hs3;go_wp2_with fail
 refine(b2E N 3 _ v3 m3 aH (rM (rM (rM (aM7 3) aH) aH) aH)).mono ?_;rintro e u3 ⟨rfl,r4,x3⟩;have bb4:lG N w0 u3:=bq3.trans x3;clear m3 bq3 x3;have hs4:N+1<u3.heap.size:=by have:=bb4.size;omega
 have hc4:u3.cell? ⟨N+1,0,none⟩=some (.map (some N)):=by rw[bb4.cell (p:=⟨N+1,0,none⟩) s0 (by simp)];exact c0
 go_wp2_with fail
 refine(MG (N+1) N 4 u3 hc4).mono ?_;rintro e v4 ⟨rfl,q4⟩;have m4:Rules v4 N (([]++rJ 0 qE++rJ 1 qE++rJ 2 nM++rJ 3 NY)++rJ 4 (ZG.take 0)):=by simpa [rJ] using (r4.mono q4)
 have bq4:lG N w0 v4:=bb4.trans (lG.of_below q4);clear q4 hc4 hs4;go_wp2_with fail
 refine(lM N 4 ZG WJ _ aH (rM (rM (rM (rM (aM7 4) aH) aH) aH) aH) 0 _ _ [2] rfl aH _ _ _ _ (m4.mono ((bF _ _).alloc (aY _) _)) (Sl.new v4 3 1 1 #[.int .i64 2] (0,0) aH rfl)).mono ?_;rintro e u4 ⟨rfl,r5,x4⟩;have bb5:lG N w0 u4:=(bq4.alloc _).trans x4;clear m4 bq4 x4;have hs5:N+1<u4.heap.size:=by have:=bb5.size;omega
 have hc5:u4.cell? ⟨N+1,0,none⟩=some (.map (some N)):=by rw[bb5.cell (p:=⟨N+1,0,none⟩) s0 (by simp)];exact c0
 go_wp2_with fail
 refine(MG (N+1) N 4 u4 hc5).mono ?_;rintro e v5 ⟨rfl,q5⟩;have m5:=r5.mono q5;have bq5:lG N w0 v5:=bb5.trans (lG.of_below q5);clear q5 hc5 hs5;go_wp2_with fail
 refine(lM N 4 ZG WJ _ aH (rM (rM (rM (rM (aM7 4) aH) aH) aH) aH) 1 _ _ [7] rfl aH _ _ _ _ (m5.mono ((bF _ _).alloc (aY _) _)) (Sl.new v5 3 1 1 #[.int .i64 7] (0,0) aH rfl)).mono ?_;rintro e u5 ⟨rfl,r6,x5⟩;have bb6:lG N w0 u5:=(bq5.alloc _).trans x5;clear m5 bq5 x5;have hs6:N+1<u5.heap.size:=by have:=bb6.size;omega
 have UE:u5.cell? ⟨N+1,0,none⟩=some (.map (some N)):=by rw[bb6.cell (p:=⟨N+1,0,none⟩) s0 (by simp)];exact c0
 go_wp2_with fail
 refine(MG (N+1) N 5 u5 UE).mono ?_;rintro e v6 ⟨rfl,q6⟩;have m6:=r6.mono q6;have bq6:lG N w0 v6:=bb6.trans (lG.of_below q6);clear q6 UE hs6;go_wp2_with fail
 refine(aSK N 5 _ v6 m6 aH (rM (rM (rM (rM (rM (aM7 5) aH) aH) aH) aH) aH)).mono ?_;rintro e u6 ⟨rfl,r7,x6⟩;have bb7:lG N w0 u6:=bq6.trans x6;clear m6 bq6 x6;have hs7:N+1<u6.heap.size:=by have:=bb7.size;omega
 have hc7:u6.cell? ⟨N+1,0,none⟩=some (.map (some N)):=by rw[bb7.cell (p:=⟨N+1,0,none⟩) s0 (by simp)];exact c0
 go_wp2;go_ret;exact⟨N,rfl,by rw[HN.o];exact aY _,r7,by rw[←HN.o];exact HB0.o.trans (bb7.below (aY _) aG)⟩
def look (T:List (Int×List Int×Int)) (tag:Int):List Int×Int:=match T.find? (fun r=>r.1==tag)with|some r=>r.2|none=>([], -1)
theorem aOQ {T:List (Int×List Int×Int)} {tag:Int} (h:look T tag≠([], -1)):∃r∈T,r.1=tag:=by
 unfold look at h;cases hf:T.find? (fun r=>r.1==tag)with
 |none=>rw[hf]at h;exact absurd rfl h
 |some r=>exact⟨r,List.mem_of_find?_eq_some hf,by simpa using List.find?_some hf⟩
def tab (dir:Int):List (Int×List Int×Int):=
 if dir=0 then qE else if dir=1 then qE else if dir=2 then nM else if dir=3 then NY else if dir=4 then ZG else if dir=5 then G5 else []
def BF (dir tag:Int):List Int×Int:=look (tab dir) tag
theorem aIN:∀x∈TH,BF x.1.1 x.1.2=x.2:=by decide+kernel
theorem aOR {d t:Int} (h:∀x∈TH,x.1≠(d,t)):BF d t=([], -1):=by
 rcases Classical.em (BF d t=([], -1))with h0|h0
 ·exact h0
 ·exfalso
  obtain⟨r,hr,rfl⟩:=aOQ h0;have key:∀d':Int,d=d'→r∈tab d'→rJ d' (tab d') ⊆ TH→False:=fun d' hd sH hs=>by
   subst hd;exact h ((d,r.1),(r.2.1,r.2.2)) (hs (dH.2 ⟨r,sH,rfl⟩)) rfl
  by_cases h0:d=0
  ·exact key 0 h0 (h0▸hr) (fun x hx=>by unfold TH;simp only[bO];exact .inl (.inl (.inl (.inl (.inl (.inr hx))))))
  by_cases h1:d=1
  ·exact key 1 h1 (h1▸hr) (fun x hx=>by unfold TH;simp only[bO];exact .inl (.inl (.inl (.inl (.inr hx)))))
  by_cases h2:d=2
  ·exact key 2 h2 (h2▸hr) (fun x hx=>by unfold TH;simp only[bO];exact .inl (.inl (.inl (.inr hx))))
  by_cases h3:d=3
  ·exact key 3 h3 (h3▸hr) (fun x hx=>by unfold TH;simp only[bO];exact .inl (.inl (.inr hx)))
  by_cases h4:d=4
  ·exact key 4 h4 (h4▸hr) (fun x hx=>by unfold TH;simp only[bO];exact .inl (.inr hx))
  by_cases h5:d=5
  ·exact key 5 h5 (h5▸hr) (fun x hx=>by unfold TH;simp only[bO];exact .inr hx)
  ·unfold tab at hr;rw[if_neg h0,if_neg h1,if_neg h2,if_neg h3,if_neg h4,if_neg h5]at hr;cases hr
theorem aSM (W:World) (a b c d:Int):(binOp .eql 261 (Z7 a b) (Z7 c d)).run Tryz.prog W= .ok (.bool (a==c&&b==d)) W:=by
 have hs:Tryz.prog.stoodInHeld 261=false:=by kernel_rfl
 unfold Z7;rw[run_eql_struct,run_equalIn_agg (ht:=by unfold Program.fieldsOf;rw[Tryz.underlying261]) (hp:=hs)];unfold Program.fieldsOf;rw[Tryz.underlying261];have e1:∀(x y:Int) (W:World),(Op.equalIn 9999 3 (.int .i64 x) (.int .i64 y)).run Tryz.prog W= .ok (x==y) W:=fun x y W=>run_equalIn_int W 9998 _ _ _ x y Tryz.underlying3;have p0:∀(x y:Int) (W:World),(part 3 #[.int .i64 x,.int .i64 y] 0).run Tryz.prog W= .ok (.int .i64 x) W:=fun x y W=>by kernel_rfl
 have p1:∀(x y:Int) (W:World),(part 3 #[.int .i64 x,.int .i64 y] 1).run Tryz.prog W= .ok (.int .i64 y) W:=fun x y W=>by kernel_rfl
 simp[Op.eqFields,e1,p0,p1,Result.andThen];cases h:a==c <;> cases h2:b==d <;> simp_all
theorem aAL:∀x∈TH,0≤x.2.2∧x.2.2≤100:=by decide+kernel
