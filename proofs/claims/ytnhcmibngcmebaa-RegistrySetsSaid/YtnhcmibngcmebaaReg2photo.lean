import Derived.Test.YtnhcmibngcmebaaReg2
namespace Go.Proofs.Ytnhcmibngcmebaa
open Go.RowKit Tt
set_option linter.unusedVariables false

set_option maxRecDepth 100000 in
set_option maxHeartbeats 4000000 in
theorem photo_any (b : Nat) (dir : Int) (l : List Ent) (w : World) (hr : Rules w b l) (hd : (Lit.int .i64 dir).wf = true) (hl : ∀ x ∈ l, x.1.1 ≠ dir) :
    Calls Try.prog 58 #[.func (.func 57) #[.agg #[.map (some b), .int .i64 dir]] #[]] w fun e w' => e = .returned (.tuple #[]) ∧ Rules w' b (l ++ ents dir photoT) ∧ But b w w' := by
  have R0 : Hid (Rules w b (l ++ ents dir (photoT.take 0))) := Lib.hid (by simpa [ents] using hr)
  have B0 : Hid (But b w w) := Lib.hid (But.refl _ _)
  have Hl := Lib.hid hl
  have Hd := Lib.hid hd
  clear hr hl hd
  go_enter Try.func58, Try.ntmps58
  go_wp2
  go_loopw [15] (fun i wr => ∃ (k : Nat) (ki : Int), k ≤ 4 ∧ ki = k ∧ i = .int .i64 ki ∧ Hid (Rules wr b (l ++ ents dir (photoT.take (0 + k)))) ∧ Hid (But b w wr)) (fun i _ => 4 - (intOf i).toNat)
  case atStart => exact ⟨0, 0, by omega, rfl, rfl, R0, B0⟩
  case round =>
    obtain ⟨k, ki, hk, hki, rfl, hR, hB⟩ := hrel
    rename World => v1
    by_cases hlt : k < 4
    · rcases (by omega : k = 0 ∨ k = 1 ∨ k = 2 ∨ k = 3) with rfl | rfl | rfl | rfl
      · obtain rfl : ki = 0 := by omega
        clear hk hlt hki
        have hidx : ∀ W, (Instr.index 104 (.agg #[.int .i64 33434, .int .i64 33437, .int .i64 37378, .int .i64 37386]) (.int .i64 0)).run Try.prog W = .ok (.int .i64 33434) W := fun W => by kernel_rfl
        go_wp2_with fail
        refine (put_at b dir photoT photoT_nodup l Hd.out Hl.out 0 _ _ [5] rfl (by decide) _ _ _ _ (hR.out.mono ((Below.refl _ _).alloc (Nat.le_refl _) _)) (Sl.new v1 3 1 1 #[.int .i64 5] (0, 0) (by decide) rfl)).mono ?_
        rintro e yy ⟨rfl, ryy, byy⟩
        have Ryy := Lib.hid ryy
        have Byy : Hid (But b w yy) := Lib.hid ((hB.out.alloc _).trans byy)
        clear ryy byy
        go_wp2
        go_roundw
        case rel => exact ⟨1, 1, by omega, rfl, rfl, Ryy, Byy⟩
        case measure => simp [intOf]
      · obtain rfl : ki = 1 := by omega
        clear hk hlt hki
        have hidx : ∀ W, (Instr.index 104 (.agg #[.int .i64 33434, .int .i64 33437, .int .i64 37378, .int .i64 37386]) (.int .i64 1)).run Try.prog W = .ok (.int .i64 33437) W := fun W => by kernel_rfl
        go_wp2_with fail
        refine (put_at b dir photoT photoT_nodup l Hd.out Hl.out 1 _ _ [5] rfl (by decide) _ _ _ _ (hR.out.mono ((Below.refl _ _).alloc (Nat.le_refl _) _)) (Sl.new v1 3 1 1 #[.int .i64 5] (0, 0) (by decide) rfl)).mono ?_
        rintro e yy ⟨rfl, ryy, byy⟩
        have Ryy := Lib.hid ryy
        have Byy : Hid (But b w yy) := Lib.hid ((hB.out.alloc _).trans byy)
        clear ryy byy
        go_wp2
        go_roundw
        case rel => exact ⟨2, 2, by omega, rfl, rfl, Ryy, Byy⟩
        case measure => simp [intOf]
      · obtain rfl : ki = 2 := by omega
        clear hk hlt hki
        have hidx : ∀ W, (Instr.index 104 (.agg #[.int .i64 33434, .int .i64 33437, .int .i64 37378, .int .i64 37386]) (.int .i64 2)).run Try.prog W = .ok (.int .i64 37378) W := fun W => by kernel_rfl
        go_wp2_with fail
        refine (put_at b dir photoT photoT_nodup l Hd.out Hl.out 2 _ _ [5] rfl (by decide) _ _ _ _ (hR.out.mono ((Below.refl _ _).alloc (Nat.le_refl _) _)) (Sl.new v1 3 1 1 #[.int .i64 5] (0, 0) (by decide) rfl)).mono ?_
        rintro e yy ⟨rfl, ryy, byy⟩
        have Ryy := Lib.hid ryy
        have Byy : Hid (But b w yy) := Lib.hid ((hB.out.alloc _).trans byy)
        clear ryy byy
        go_wp2
        go_roundw
        case rel => exact ⟨3, 3, by omega, rfl, rfl, Ryy, Byy⟩
        case measure => simp [intOf]
      · obtain rfl : ki = 3 := by omega
        clear hk hlt hki
        have hidx : ∀ W, (Instr.index 104 (.agg #[.int .i64 33434, .int .i64 33437, .int .i64 37378, .int .i64 37386]) (.int .i64 3)).run Try.prog W = .ok (.int .i64 37386) W := fun W => by kernel_rfl
        go_wp2_with fail
        refine (put_at b dir photoT photoT_nodup l Hd.out Hl.out 3 _ _ [5] rfl (by decide) _ _ _ _ (hR.out.mono ((Below.refl _ _).alloc (Nat.le_refl _) _)) (Sl.new v1 3 1 1 #[.int .i64 5] (0, 0) (by decide) rfl)).mono ?_
        rintro e yy ⟨rfl, ryy, byy⟩
        have Ryy := Lib.hid ryy
        have Byy : Hid (But b w yy) := Lib.hid ((hB.out.alloc _).trans byy)
        clear ryy byy
        go_wp2
        go_roundw
        case rel => exact ⟨4, 4, by omega, rfl, rfl, Ryy, Byy⟩
        case measure => simp [intOf]
    · obtain rfl : k = 4 := by omega
      obtain rfl : ki = 4 := by omega
      clear hk hlt hki
      have R1 := hR
      have B1 := hB
      clear hR hB
      go_wp2
      go_loopw [24] (fun i wr => ∃ (k : Nat) (ki : Int), k ≤ 6 ∧ ki = k ∧ i = .int .i64 ki ∧ Hid (Rules wr b (l ++ ents dir (photoT.take (4 + k)))) ∧ Hid (But b w wr)) (fun i _ => 6 - (intOf i).toNat)
      case atStart => exact ⟨0, 0, by omega, rfl, rfl, R1, B1⟩
      case round =>
        obtain ⟨k, ki, hk, hki, rfl, hR, hB⟩ := hrel
        rename World => v2
        by_cases hlt : k < 6
        · rcases (by omega : k = 0 ∨ k = 1 ∨ k = 2 ∨ k = 3 ∨ k = 4 ∨ k = 5) with rfl | rfl | rfl | rfl | rfl | rfl
          · obtain rfl : ki = 0 := by omega
            clear hk hlt hki
            have hidx : ∀ W, (Instr.index 105 (.agg #[.int .i64 34850, .int .i64 37383, .int .i64 37384, .int .i64 37385, .int .i64 40961, .int .i64 41986]) (.int .i64 0)).run Try.prog W = .ok (.int .i64 34850) W := fun W => by kernel_rfl
            go_wp2_with fail
            refine (put_at b dir photoT photoT_nodup l Hd.out Hl.out 4 _ _ [3] rfl (by decide) _ _ _ _ (hR.out.mono ((Below.refl _ _).alloc (Nat.le_refl _) _)) (Sl.new v2 3 1 1 #[.int .i64 3] (0, 0) (by decide) rfl)).mono ?_
            rintro e yy ⟨rfl, ryy, byy⟩
            have Ryy := Lib.hid ryy
            have Byy : Hid (But b w yy) := Lib.hid ((hB.out.alloc _).trans byy)
            clear ryy byy
            go_wp2
            go_roundw
            case rel => exact ⟨1, 1, by omega, rfl, rfl, Ryy, Byy⟩
            case measure => simp [intOf]
          · obtain rfl : ki = 1 := by omega
            clear hk hlt hki
            have hidx : ∀ W, (Instr.index 105 (.agg #[.int .i64 34850, .int .i64 37383, .int .i64 37384, .int .i64 37385, .int .i64 40961, .int .i64 41986]) (.int .i64 1)).run Try.prog W = .ok (.int .i64 37383) W := fun W => by kernel_rfl
            go_wp2_with fail
            refine (put_at b dir photoT photoT_nodup l Hd.out Hl.out 5 _ _ [3] rfl (by decide) _ _ _ _ (hR.out.mono ((Below.refl _ _).alloc (Nat.le_refl _) _)) (Sl.new v2 3 1 1 #[.int .i64 3] (0, 0) (by decide) rfl)).mono ?_
            rintro e yy ⟨rfl, ryy, byy⟩
            have Ryy := Lib.hid ryy
            have Byy : Hid (But b w yy) := Lib.hid ((hB.out.alloc _).trans byy)
            clear ryy byy
            go_wp2
            go_roundw
            case rel => exact ⟨2, 2, by omega, rfl, rfl, Ryy, Byy⟩
            case measure => simp [intOf]
          · obtain rfl : ki = 2 := by omega
            clear hk hlt hki
            have hidx : ∀ W, (Instr.index 105 (.agg #[.int .i64 34850, .int .i64 37383, .int .i64 37384, .int .i64 37385, .int .i64 40961, .int .i64 41986]) (.int .i64 2)).run Try.prog W = .ok (.int .i64 37384) W := fun W => by kernel_rfl
            go_wp2_with fail
            refine (put_at b dir photoT photoT_nodup l Hd.out Hl.out 6 _ _ [3] rfl (by decide) _ _ _ _ (hR.out.mono ((Below.refl _ _).alloc (Nat.le_refl _) _)) (Sl.new v2 3 1 1 #[.int .i64 3] (0, 0) (by decide) rfl)).mono ?_
            rintro e yy ⟨rfl, ryy, byy⟩
            have Ryy := Lib.hid ryy
            have Byy : Hid (But b w yy) := Lib.hid ((hB.out.alloc _).trans byy)
            clear ryy byy
            go_wp2
            go_roundw
            case rel => exact ⟨3, 3, by omega, rfl, rfl, Ryy, Byy⟩
            case measure => simp [intOf]
          · obtain rfl : ki = 3 := by omega
            clear hk hlt hki
            have hidx : ∀ W, (Instr.index 105 (.agg #[.int .i64 34850, .int .i64 37383, .int .i64 37384, .int .i64 37385, .int .i64 40961, .int .i64 41986]) (.int .i64 3)).run Try.prog W = .ok (.int .i64 37385) W := fun W => by kernel_rfl
            go_wp2_with fail
            refine (put_at b dir photoT photoT_nodup l Hd.out Hl.out 7 _ _ [3] rfl (by decide) _ _ _ _ (hR.out.mono ((Below.refl _ _).alloc (Nat.le_refl _) _)) (Sl.new v2 3 1 1 #[.int .i64 3] (0, 0) (by decide) rfl)).mono ?_
            rintro e yy ⟨rfl, ryy, byy⟩
            have Ryy := Lib.hid ryy
            have Byy : Hid (But b w yy) := Lib.hid ((hB.out.alloc _).trans byy)
            clear ryy byy
            go_wp2
            go_roundw
            case rel => exact ⟨4, 4, by omega, rfl, rfl, Ryy, Byy⟩
            case measure => simp [intOf]
          · obtain rfl : ki = 4 := by omega
            clear hk hlt hki
            have hidx : ∀ W, (Instr.index 105 (.agg #[.int .i64 34850, .int .i64 37383, .int .i64 37384, .int .i64 37385, .int .i64 40961, .int .i64 41986]) (.int .i64 4)).run Try.prog W = .ok (.int .i64 40961) W := fun W => by kernel_rfl
            go_wp2_with fail
            refine (put_at b dir photoT photoT_nodup l Hd.out Hl.out 8 _ _ [3] rfl (by decide) _ _ _ _ (hR.out.mono ((Below.refl _ _).alloc (Nat.le_refl _) _)) (Sl.new v2 3 1 1 #[.int .i64 3] (0, 0) (by decide) rfl)).mono ?_
            rintro e yy ⟨rfl, ryy, byy⟩
            have Ryy := Lib.hid ryy
            have Byy : Hid (But b w yy) := Lib.hid ((hB.out.alloc _).trans byy)
            clear ryy byy
            go_wp2
            go_roundw
            case rel => exact ⟨5, 5, by omega, rfl, rfl, Ryy, Byy⟩
            case measure => simp [intOf]
          · obtain rfl : ki = 5 := by omega
            clear hk hlt hki
            have hidx : ∀ W, (Instr.index 105 (.agg #[.int .i64 34850, .int .i64 37383, .int .i64 37384, .int .i64 37385, .int .i64 40961, .int .i64 41986]) (.int .i64 5)).run Try.prog W = .ok (.int .i64 41986) W := fun W => by kernel_rfl
            go_wp2_with fail
            refine (put_at b dir photoT photoT_nodup l Hd.out Hl.out 9 _ _ [3] rfl (by decide) _ _ _ _ (hR.out.mono ((Below.refl _ _).alloc (Nat.le_refl _) _)) (Sl.new v2 3 1 1 #[.int .i64 3] (0, 0) (by decide) rfl)).mono ?_
            rintro e yy ⟨rfl, ryy, byy⟩
            have Ryy := Lib.hid ryy
            have Byy : Hid (But b w yy) := Lib.hid ((hB.out.alloc _).trans byy)
            clear ryy byy
            go_wp2
            go_roundw
            case rel => exact ⟨6, 6, by omega, rfl, rfl, Ryy, Byy⟩
            case measure => simp [intOf]
        · obtain rfl : k = 6 := by omega
          obtain rfl : ki = 6 := by omega
          clear hk hlt hki
          have R2 := hR
          have B2 := hB
          clear hR hB
          go_wp2
          go_loopw [33] (fun i wr => ∃ (k : Nat) (ki : Int), k ≤ 3 ∧ ki = k ∧ i = .int .i64 ki ∧ Hid (Rules wr b (l ++ ents dir (photoT.take (10 + k)))) ∧ Hid (But b w wr)) (fun i _ => 3 - (intOf i).toNat)
          case atStart => exact ⟨0, 0, by omega, rfl, rfl, R2, B2⟩
          case round =>
            obtain ⟨k, ki, hk, hki, rfl, hR, hB⟩ := hrel
            rename World => v3
            by_cases hlt : k < 3
            · rcases (by omega : k = 0 ∨ k = 1 ∨ k = 2) with rfl | rfl | rfl
              · obtain rfl : ki = 0 := by omega
                clear hk hlt hki
                have hidx : ∀ W, (Instr.index 106 (.agg #[.int .i64 36864, .int .i64 37121, .int .i64 40960]) (.int .i64 0)).run Try.prog W = .ok (.int .i64 36864) W := fun W => by kernel_rfl
                go_wp2_with fail
                refine (put_at b dir photoT photoT_nodup l Hd.out Hl.out 10 _ _ [7] rfl (by decide) _ _ _ _ (hR.out.mono ((Below.refl _ _).alloc (Nat.le_refl _) _)) (Sl.new v3 3 1 1 #[.int .i64 7] (0, 0) (by decide) rfl)).mono ?_
                rintro e yy ⟨rfl, ryy, byy⟩
                have Ryy := Lib.hid ryy
                have Byy : Hid (But b w yy) := Lib.hid ((hB.out.alloc _).trans byy)
                clear ryy byy
                go_wp2
                go_roundw
                case rel => exact ⟨1, 1, by omega, rfl, rfl, Ryy, Byy⟩
                case measure => simp [intOf]
              · obtain rfl : ki = 1 := by omega
                clear hk hlt hki
                have hidx : ∀ W, (Instr.index 106 (.agg #[.int .i64 36864, .int .i64 37121, .int .i64 40960]) (.int .i64 1)).run Try.prog W = .ok (.int .i64 37121) W := fun W => by kernel_rfl
                go_wp2_with fail
                refine (put_at b dir photoT photoT_nodup l Hd.out Hl.out 11 _ _ [7] rfl (by decide) _ _ _ _ (hR.out.mono ((Below.refl _ _).alloc (Nat.le_refl _) _)) (Sl.new v3 3 1 1 #[.int .i64 7] (0, 0) (by decide) rfl)).mono ?_
                rintro e yy ⟨rfl, ryy, byy⟩
                have Ryy := Lib.hid ryy
                have Byy : Hid (But b w yy) := Lib.hid ((hB.out.alloc _).trans byy)
                clear ryy byy
                go_wp2
                go_roundw
                case rel => exact ⟨2, 2, by omega, rfl, rfl, Ryy, Byy⟩
                case measure => simp [intOf]
              · obtain rfl : ki = 2 := by omega
                clear hk hlt hki
                have hidx : ∀ W, (Instr.index 106 (.agg #[.int .i64 36864, .int .i64 37121, .int .i64 40960]) (.int .i64 2)).run Try.prog W = .ok (.int .i64 40960) W := fun W => by kernel_rfl
                go_wp2_with fail
                refine (put_at b dir photoT photoT_nodup l Hd.out Hl.out 12 _ _ [7] rfl (by decide) _ _ _ _ (hR.out.mono ((Below.refl _ _).alloc (Nat.le_refl _) _)) (Sl.new v3 3 1 1 #[.int .i64 7] (0, 0) (by decide) rfl)).mono ?_
                rintro e yy ⟨rfl, ryy, byy⟩
                have Ryy := Lib.hid ryy
                have Byy : Hid (But b w yy) := Lib.hid ((hB.out.alloc _).trans byy)
                clear ryy byy
                go_wp2
                go_roundw
                case rel => exact ⟨3, 3, by omega, rfl, rfl, Ryy, Byy⟩
                case measure => simp [intOf]
            · obtain rfl : k = 3 := by omega
              obtain rfl : ki = 3 := by omega
              clear hk hlt hki
              have R3 := hR
              have B3 := hB
              clear hR hB
              go_wp2
              go_loopw [42] (fun i wr => ∃ (k : Nat) (ki : Int), k ≤ 2 ∧ ki = k ∧ i = .int .i64 ki ∧ Hid (Rules wr b (l ++ ents dir (photoT.take (13 + k)))) ∧ Hid (But b w wr)) (fun i _ => 2 - (intOf i).toNat)
              case atStart => exact ⟨0, 0, by omega, rfl, rfl, R3, B3⟩
              case round =>
                obtain ⟨k, ki, hk, hki, rfl, hR, hB⟩ := hrel
                rename World => v4
                by_cases hlt : k < 2
                · rcases (by omega : k = 0 ∨ k = 1) with rfl | rfl
                  · obtain rfl : ki = 0 := by omega
                    clear hk hlt hki
                    have hidx : ∀ W, (Instr.index 65 (.agg #[.int .i64 37377, .int .i64 37380]) (.int .i64 0)).run Try.prog W = .ok (.int .i64 37377) W := fun W => by kernel_rfl
                    go_wp2_with fail
                    refine (put_at b dir photoT photoT_nodup l Hd.out Hl.out 13 _ _ [10] rfl (by decide) _ _ _ _ (hR.out.mono ((Below.refl _ _).alloc (Nat.le_refl _) _)) (Sl.new v4 3 1 1 #[.int .i64 10] (0, 0) (by decide) rfl)).mono ?_
                    rintro e yy ⟨rfl, ryy, byy⟩
                    have Ryy := Lib.hid ryy
                    have Byy : Hid (But b w yy) := Lib.hid ((hB.out.alloc _).trans byy)
                    clear ryy byy
                    go_wp2
                    go_roundw
                    case rel => exact ⟨1, 1, by omega, rfl, rfl, Ryy, Byy⟩
                    case measure => simp [intOf]
                  · obtain rfl : ki = 1 := by omega
                    clear hk hlt hki
                    have hidx : ∀ W, (Instr.index 65 (.agg #[.int .i64 37377, .int .i64 37380]) (.int .i64 1)).run Try.prog W = .ok (.int .i64 37380) W := fun W => by kernel_rfl
                    go_wp2_with fail
                    refine (put_at b dir photoT photoT_nodup l Hd.out Hl.out 14 _ _ [10] rfl (by decide) _ _ _ _ (hR.out.mono ((Below.refl _ _).alloc (Nat.le_refl _) _)) (Sl.new v4 3 1 1 #[.int .i64 10] (0, 0) (by decide) rfl)).mono ?_
                    rintro e yy ⟨rfl, ryy, byy⟩
                    have Ryy := Lib.hid ryy
                    have Byy : Hid (But b w yy) := Lib.hid ((hB.out.alloc _).trans byy)
                    clear ryy byy
                    go_wp2
                    go_roundw
                    case rel => exact ⟨2, 2, by omega, rfl, rfl, Ryy, Byy⟩
                    case measure => simp [intOf]
                · obtain rfl : k = 2 := by omega
                  obtain rfl : ki = 2 := by omega
                  clear hk hlt hki
                  have R4 := hR
                  have B4 := hB
                  clear hR hB
                  go_wp2
                  go_loopw [51] (fun i wr => ∃ (k : Nat) (ki : Int), k ≤ 2 ∧ ki = k ∧ i = .int .i64 ki ∧ Hid (Rules wr b (l ++ ents dir (photoT.take (15 + k)))) ∧ Hid (But b w wr)) (fun i _ => 2 - (intOf i).toNat)
                  case atStart => exact ⟨0, 0, by omega, rfl, rfl, R4, B4⟩
                  case round =>
                    obtain ⟨k, ki, hk, hki, rfl, hR, hB⟩ := hrel
                    rename World => v5
                    by_cases hlt : k < 2
                    · rcases (by omega : k = 0 ∨ k = 1) with rfl | rfl
                      · obtain rfl : ki = 0 := by omega
                        clear hk hlt hki
                        have hidx : ∀ W, (Instr.index 65 (.agg #[.int .i64 36867, .int .i64 36868]) (.int .i64 0)).run Try.prog W = .ok (.int .i64 36867) W := fun W => by kernel_rfl
                        go_wp2_with fail
                        refine (put_at b dir photoT photoT_nodup l Hd.out Hl.out 15 _ _ [2] rfl (by decide) _ _ _ _ (hR.out.mono ((Below.refl _ _).alloc (Nat.le_refl _) _)) (Sl.new v5 3 1 1 #[.int .i64 2] (0, 0) (by decide) rfl)).mono ?_
                        rintro e yy ⟨rfl, ryy, byy⟩
                        have Ryy := Lib.hid ryy
                        have Byy : Hid (But b w yy) := Lib.hid ((hB.out.alloc _).trans byy)
                        clear ryy byy
                        go_wp2
                        go_roundw
                        case rel => exact ⟨1, 1, by omega, rfl, rfl, Ryy, Byy⟩
                        case measure => simp [intOf]
                      · obtain rfl : ki = 1 := by omega
                        clear hk hlt hki
                        have hidx : ∀ W, (Instr.index 65 (.agg #[.int .i64 36867, .int .i64 36868]) (.int .i64 1)).run Try.prog W = .ok (.int .i64 36868) W := fun W => by kernel_rfl
                        go_wp2_with fail
                        refine (put_at b dir photoT photoT_nodup l Hd.out Hl.out 16 _ _ [2] rfl (by decide) _ _ _ _ (hR.out.mono ((Below.refl _ _).alloc (Nat.le_refl _) _)) (Sl.new v5 3 1 1 #[.int .i64 2] (0, 0) (by decide) rfl)).mono ?_
                        rintro e yy ⟨rfl, ryy, byy⟩
                        have Ryy := Lib.hid ryy
                        have Byy : Hid (But b w yy) := Lib.hid ((hB.out.alloc _).trans byy)
                        clear ryy byy
                        go_wp2
                        go_roundw
                        case rel => exact ⟨2, 2, by omega, rfl, rfl, Ryy, Byy⟩
                        case measure => simp [intOf]
                    · obtain rfl : k = 2 := by omega
                      obtain rfl : ki = 2 := by omega
                      clear hk hlt hki
                      have R5 := hR
                      have B5 := hB
                      clear hR hB
                      go_wp2
                      go_loopw [60] (fun i wr => ∃ (k : Nat) (ki : Int), k ≤ 2 ∧ ki = k ∧ i = .int .i64 ki ∧ Hid (Rules wr b (l ++ ents dir (photoT.take (17 + k)))) ∧ Hid (But b w wr)) (fun i _ => 2 - (intOf i).toNat)
                      case atStart => exact ⟨0, 0, by omega, rfl, rfl, R5, B5⟩
                      case round =>
                        obtain ⟨k, ki, hk, hki, rfl, hR, hB⟩ := hrel
                        rename World => v6
                        by_cases hlt : k < 2
                        · rcases (by omega : k = 0 ∨ k = 1) with rfl | rfl
                          · obtain rfl : ki = 0 := by omega
                            clear hk hlt hki
                            have hidx : ∀ W, (Instr.index 65 (.agg #[.int .i64 40962, .int .i64 40963]) (.int .i64 0)).run Try.prog W = .ok (.int .i64 40962) W := fun W => by kernel_rfl
                            go_wp2_with fail
                            refine (put_at b dir photoT photoT_nodup l Hd.out Hl.out 17 _ _ [3, 4] rfl (by decide) _ _ _ _ (hR.out.mono ((Below.refl _ _).alloc (Nat.le_refl _) _)) (Sl.new v6 3 1 2 #[.int .i64 3, .int .i64 4] (0, 0) (by decide) rfl)).mono ?_
                            rintro e yy ⟨rfl, ryy, byy⟩
                            have Ryy := Lib.hid ryy
                            have Byy : Hid (But b w yy) := Lib.hid ((hB.out.alloc _).trans byy)
                            clear ryy byy
                            go_wp2
                            go_roundw
                            case rel => exact ⟨1, 1, by omega, rfl, rfl, Ryy, Byy⟩
                            case measure => simp [intOf]
                          · obtain rfl : ki = 1 := by omega
                            clear hk hlt hki
                            have hidx : ∀ W, (Instr.index 65 (.agg #[.int .i64 40962, .int .i64 40963]) (.int .i64 1)).run Try.prog W = .ok (.int .i64 40963) W := fun W => by kernel_rfl
                            go_wp2_with fail
                            refine (put_at b dir photoT photoT_nodup l Hd.out Hl.out 18 _ _ [3, 4] rfl (by decide) _ _ _ _ (hR.out.mono ((Below.refl _ _).alloc (Nat.le_refl _) _)) (Sl.new v6 3 1 2 #[.int .i64 3, .int .i64 4] (0, 0) (by decide) rfl)).mono ?_
                            rintro e yy ⟨rfl, ryy, byy⟩
                            have Ryy := Lib.hid ryy
                            have Byy : Hid (But b w yy) := Lib.hid ((hB.out.alloc _).trans byy)
                            clear ryy byy
                            go_wp2
                            go_roundw
                            case rel => exact ⟨2, 2, by omega, rfl, rfl, Ryy, Byy⟩
                            case measure => simp [intOf]
                        · obtain rfl : k = 2 := by omega
                          obtain rfl : ki = 2 := by omega
                          clear hk hlt hki
                          have R6 := hR
                          have B6 := hB
                          clear hR hB
                          go_wp2_with fail
                          refine (put_at b dir photoT photoT_nodup l Hd.out Hl.out 19 _ _ [3] rfl (by decide) _ _ _ _ (R6.out.mono ((Below.refl _ _).alloc (Nat.le_refl _) _)) (Sl.new v6 3 1 1 #[.int .i64 3] (0, 0) (by decide) rfl)).mono ?_
                          rintro e x7 ⟨rfl, rx7, bx7⟩
                          have Rx7 := Lib.hid rx7
                          have Bx7 : Hid (But b w x7) := Lib.hid ((B6.out.alloc _).trans bx7)
                          clear rx7 bx7
                          go_wp2_with fail
                          refine (put_at b dir photoT photoT_nodup l Hd.out Hl.out 20 _ _ [7] rfl (by decide) _ _ _ _ (Rx7.out.mono ((Below.refl _ _).alloc (Nat.le_refl _) _)) (Sl.new x7 3 1 1 #[.int .i64 7] (0, 0) (by decide) rfl)).mono ?_
                          rintro e x8 ⟨rfl, rx8, bx8⟩
                          have Rx8 := Lib.hid rx8
                          have Bx8 : Hid (But b w x8) := Lib.hid ((Bx7.out.alloc _).trans bx8)
                          clear rx8 bx8
                          go_wp2_with fail
                          refine (put_at b dir photoT photoT_nodup l Hd.out Hl.out 21 _ _ [2] rfl (by decide) _ _ _ _ (Rx8.out.mono ((Below.refl _ _).alloc (Nat.le_refl _) _)) (Sl.new x8 3 1 1 #[.int .i64 2] (0, 0) (by decide) rfl)).mono ?_
                          rintro e x9 ⟨rfl, rx9, bx9⟩
                          have Rx9 := Lib.hid rx9
                          have Bx9 : Hid (But b w x9) := Lib.hid ((Bx8.out.alloc _).trans bx9)
                          clear rx9 bx9
                          go_wp2_with fail
                          refine (put_at b dir photoT photoT_nodup l Hd.out Hl.out 22 _ _ [7] rfl (by decide) _ _ _ _ (Rx9.out.mono ((Below.refl _ _).alloc (Nat.le_refl _) _)) (Sl.new x9 3 1 1 #[.int .i64 7] (0, 0) (by decide) rfl)).mono ?_
                          rintro e x10 ⟨rfl, rx10, bx10⟩
                          have Rx10 := Lib.hid rx10
                          have Bx10 : Hid (But b w x10) := Lib.hid ((Bx9.out.alloc _).trans bx10)
                          clear rx10 bx10
                          go_wp2_with fail
                          refine (put_at b dir photoT photoT_nodup l Hd.out Hl.out 23 _ _ [2] rfl (by decide) _ _ _ _ (Rx10.out.mono ((Below.refl _ _).alloc (Nat.le_refl _) _)) (Sl.new x10 3 1 1 #[.int .i64 2] (0, 0) (by decide) rfl)).mono ?_
                          rintro e x11 ⟨rfl, rx11, bx11⟩
                          have Rx11 := Lib.hid rx11
                          have Bx11 : Hid (But b w x11) := Lib.hid ((Bx10.out.alloc _).trans bx11)
                          clear rx11 bx11
                          go_wp2_with fail
                          refine (put_at b dir photoT photoT_nodup l Hd.out Hl.out 24 _ _ [5] rfl (by decide) _ _ _ _ (Rx11.out.mono ((Below.refl _ _).alloc (Nat.le_refl _) _)) (Sl.new x11 3 1 1 #[.int .i64 5] (0, 0) (by decide) rfl)).mono ?_
                          rintro e x12 ⟨rfl, rx12, bx12⟩
                          have Rx12 := Lib.hid rx12
                          have Bx12 : Hid (But b w x12) := Lib.hid ((Bx11.out.alloc _).trans bx12)
                          clear rx12 bx12
                          go_wp2
                          go_end0
                          exact ⟨rfl, Rx12.out, Bx12.out⟩
end Go.Proofs.Ytnhcmibngcmebaa
