import Derived.Test.YtnhcmibngcmebaaReg2
namespace Go.Proofs.Ytnhcmibngcmebaa
open Go.RowKit Tt
set_option linter.unusedVariables false

set_option maxRecDepth 100000 in
set_option maxHeartbeats 4000000 in
theorem image_any (b : Nat) (dir : Int) (l : List Ent) (w : World) (hr : Rules w b l) (hd : (Lit.int .i64 dir).wf = true) (hl : ∀ x ∈ l, x.1.1 ≠ dir) :
    Calls Try.prog 56 #[.func (.func 57) #[.agg #[.map (some b), .int .i64 dir]] #[]] w fun e w' => e = .returned (.tuple #[]) ∧ Rules w' b (l ++ ents dir imageT) ∧ But b w w' := by
  have R0 : Hid (Rules w b (l ++ ents dir (imageT.take 0))) := Lib.hid (by simpa [ents] using hr)
  have B0 : Hid (But b w w) := Lib.hid (But.refl _ _)
  have Hl := Lib.hid hl
  have Hd := Lib.hid hd
  clear hr hl hd
  go_enter Try.func56, Try.ntmps56
  go_wp2
  go_loopw [9] (fun i wr => ∃ (k : Nat) (ki : Int), k ≤ 2 ∧ ki = k ∧ i = .int .i64 ki ∧ Hid (Rules wr b (l ++ ents dir (imageT.take (0 + k)))) ∧ Hid (But b w wr)) (fun i _ => 2 - (intOf i).toNat)
  case atStart => exact ⟨0, 0, by omega, rfl, rfl, R0, B0⟩
  case round =>
    obtain ⟨k, ki, hk, hki, rfl, hR, hB⟩ := hrel
    rename World => v1
    by_cases hlt : k < 2
    · rcases (by omega : k = 0 ∨ k = 1) with rfl | rfl
      · obtain rfl : ki = 0 := by omega
        clear hk hlt hki
        have hidx : ∀ W, (Instr.index 65 (.agg #[.int .i64 256, .int .i64 257]) (.int .i64 0)).run Try.prog W = .ok (.int .i64 256) W := fun W => by kernel_rfl
        go_wp2_with fail
        refine (put_at b dir imageT imageT_nodup l Hd.out Hl.out 0 _ _ [3, 4] rfl (by decide) _ _ _ _ (hR.out.mono ((Below.refl _ _).alloc (Nat.le_refl _) _)) (Sl.new v1 3 1 2 #[.int .i64 3, .int .i64 4] (0, 0) (by decide) rfl)).mono ?_
        rintro e yy ⟨rfl, ryy, byy⟩
        have Ryy := Lib.hid ryy
        have Byy : Hid (But b w yy) := Lib.hid ((hB.out.alloc _).trans byy)
        clear ryy byy
        go_wp2
        go_roundw
        case rel => exact ⟨1, 1, by omega, rfl, rfl, Ryy, Byy⟩
        case measure => simp [intOf]
      · obtain rfl : ki = 1 := by omega
        clear hk hlt hki
        have hidx : ∀ W, (Instr.index 65 (.agg #[.int .i64 256, .int .i64 257]) (.int .i64 1)).run Try.prog W = .ok (.int .i64 257) W := fun W => by kernel_rfl
        go_wp2_with fail
        refine (put_at b dir imageT imageT_nodup l Hd.out Hl.out 1 _ _ [3, 4] rfl (by decide) _ _ _ _ (hR.out.mono ((Below.refl _ _).alloc (Nat.le_refl _) _)) (Sl.new v1 3 1 2 #[.int .i64 3, .int .i64 4] (0, 0) (by decide) rfl)).mono ?_
        rintro e yy ⟨rfl, ryy, byy⟩
        have Ryy := Lib.hid ryy
        have Byy : Hid (But b w yy) := Lib.hid ((hB.out.alloc _).trans byy)
        clear ryy byy
        go_wp2
        go_roundw
        case rel => exact ⟨2, 2, by omega, rfl, rfl, Ryy, Byy⟩
        case measure => simp [intOf]
    · obtain rfl : k = 2 := by omega
      obtain rfl : ki = 2 := by omega
      clear hk hlt hki
      have R1 := hR
      have B1 := hB
      clear hR hB
      go_wp2
      go_loopw [18] (fun i wr => ∃ (k : Nat) (ki : Int), k ≤ 4 ∧ ki = k ∧ i = .int .i64 ki ∧ Hid (Rules wr b (l ++ ents dir (imageT.take (2 + k)))) ∧ Hid (But b w wr)) (fun i _ => 4 - (intOf i).toNat)
      case atStart => exact ⟨0, 0, by omega, rfl, rfl, R1, B1⟩
      case round =>
        obtain ⟨k, ki, hk, hki, rfl, hR, hB⟩ := hrel
        rename World => v2
        by_cases hlt : k < 4
        · rcases (by omega : k = 0 ∨ k = 1 ∨ k = 2 ∨ k = 3) with rfl | rfl | rfl | rfl
          · obtain rfl : ki = 0 := by omega
            clear hk hlt hki
            have hidx : ∀ W, (Instr.index 104 (.agg #[.int .i64 259, .int .i64 274, .int .i64 296, .int .i64 531]) (.int .i64 0)).run Try.prog W = .ok (.int .i64 259) W := fun W => by kernel_rfl
            go_wp2_with fail
            refine (put_at b dir imageT imageT_nodup l Hd.out Hl.out 2 _ _ [3] rfl (by decide) _ _ _ _ (hR.out.mono ((Below.refl _ _).alloc (Nat.le_refl _) _)) (Sl.new v2 3 1 1 #[.int .i64 3] (0, 0) (by decide) rfl)).mono ?_
            rintro e yy ⟨rfl, ryy, byy⟩
            have Ryy := Lib.hid ryy
            have Byy : Hid (But b w yy) := Lib.hid ((hB.out.alloc _).trans byy)
            clear ryy byy
            go_wp2
            go_roundw
            case rel => exact ⟨1, 1, by omega, rfl, rfl, Ryy, Byy⟩
            case measure => simp [intOf]
          · obtain rfl : ki = 1 := by omega
            clear hk hlt hki
            have hidx : ∀ W, (Instr.index 104 (.agg #[.int .i64 259, .int .i64 274, .int .i64 296, .int .i64 531]) (.int .i64 1)).run Try.prog W = .ok (.int .i64 274) W := fun W => by kernel_rfl
            go_wp2_with fail
            refine (put_at b dir imageT imageT_nodup l Hd.out Hl.out 3 _ _ [3] rfl (by decide) _ _ _ _ (hR.out.mono ((Below.refl _ _).alloc (Nat.le_refl _) _)) (Sl.new v2 3 1 1 #[.int .i64 3] (0, 0) (by decide) rfl)).mono ?_
            rintro e yy ⟨rfl, ryy, byy⟩
            have Ryy := Lib.hid ryy
            have Byy : Hid (But b w yy) := Lib.hid ((hB.out.alloc _).trans byy)
            clear ryy byy
            go_wp2
            go_roundw
            case rel => exact ⟨2, 2, by omega, rfl, rfl, Ryy, Byy⟩
            case measure => simp [intOf]
          · obtain rfl : ki = 2 := by omega
            clear hk hlt hki
            have hidx : ∀ W, (Instr.index 104 (.agg #[.int .i64 259, .int .i64 274, .int .i64 296, .int .i64 531]) (.int .i64 2)).run Try.prog W = .ok (.int .i64 296) W := fun W => by kernel_rfl
            go_wp2_with fail
            refine (put_at b dir imageT imageT_nodup l Hd.out Hl.out 4 _ _ [3] rfl (by decide) _ _ _ _ (hR.out.mono ((Below.refl _ _).alloc (Nat.le_refl _) _)) (Sl.new v2 3 1 1 #[.int .i64 3] (0, 0) (by decide) rfl)).mono ?_
            rintro e yy ⟨rfl, ryy, byy⟩
            have Ryy := Lib.hid ryy
            have Byy : Hid (But b w yy) := Lib.hid ((hB.out.alloc _).trans byy)
            clear ryy byy
            go_wp2
            go_roundw
            case rel => exact ⟨3, 3, by omega, rfl, rfl, Ryy, Byy⟩
            case measure => simp [intOf]
          · obtain rfl : ki = 3 := by omega
            clear hk hlt hki
            have hidx : ∀ W, (Instr.index 104 (.agg #[.int .i64 259, .int .i64 274, .int .i64 296, .int .i64 531]) (.int .i64 3)).run Try.prog W = .ok (.int .i64 531) W := fun W => by kernel_rfl
            go_wp2_with fail
            refine (put_at b dir imageT imageT_nodup l Hd.out Hl.out 5 _ _ [3] rfl (by decide) _ _ _ _ (hR.out.mono ((Below.refl _ _).alloc (Nat.le_refl _) _)) (Sl.new v2 3 1 1 #[.int .i64 3] (0, 0) (by decide) rfl)).mono ?_
            rintro e yy ⟨rfl, ryy, byy⟩
            have Ryy := Lib.hid ryy
            have Byy : Hid (But b w yy) := Lib.hid ((hB.out.alloc _).trans byy)
            clear ryy byy
            go_wp2
            go_roundw
            case rel => exact ⟨4, 4, by omega, rfl, rfl, Ryy, Byy⟩
            case measure => simp [intOf]
        · obtain rfl : k = 4 := by omega
          obtain rfl : ki = 4 := by omega
          clear hk hlt hki
          have R2 := hR
          have B2 := hB
          clear hR hB
          go_wp2
          go_loopw [27] (fun i wr => ∃ (k : Nat) (ki : Int), k ≤ 6 ∧ ki = k ∧ i = .int .i64 ki ∧ Hid (Rules wr b (l ++ ents dir (imageT.take (6 + k)))) ∧ Hid (But b w wr)) (fun i _ => 6 - (intOf i).toNat)
          case atStart => exact ⟨0, 0, by omega, rfl, rfl, R2, B2⟩
          case round =>
            obtain ⟨k, ki, hk, hki, rfl, hR, hB⟩ := hrel
            rename World => v3
            by_cases hlt : k < 6
            · rcases (by omega : k = 0 ∨ k = 1 ∨ k = 2 ∨ k = 3 ∨ k = 4 ∨ k = 5) with rfl | rfl | rfl | rfl | rfl | rfl
              · obtain rfl : ki = 0 := by omega
                clear hk hlt hki
                have hidx : ∀ W, (Instr.index 105 (.agg #[.int .i64 270, .int .i64 271, .int .i64 272, .int .i64 305, .int .i64 315, .int .i64 33432]) (.int .i64 0)).run Try.prog W = .ok (.int .i64 270) W := fun W => by kernel_rfl
                go_wp2_with fail
                refine (put_at b dir imageT imageT_nodup l Hd.out Hl.out 6 _ _ [2] rfl (by decide) _ _ _ _ (hR.out.mono ((Below.refl _ _).alloc (Nat.le_refl _) _)) (Sl.new v3 3 1 1 #[.int .i64 2] (0, 0) (by decide) rfl)).mono ?_
                rintro e yy ⟨rfl, ryy, byy⟩
                have Ryy := Lib.hid ryy
                have Byy : Hid (But b w yy) := Lib.hid ((hB.out.alloc _).trans byy)
                clear ryy byy
                go_wp2
                go_roundw
                case rel => exact ⟨1, 1, by omega, rfl, rfl, Ryy, Byy⟩
                case measure => simp [intOf]
              · obtain rfl : ki = 1 := by omega
                clear hk hlt hki
                have hidx : ∀ W, (Instr.index 105 (.agg #[.int .i64 270, .int .i64 271, .int .i64 272, .int .i64 305, .int .i64 315, .int .i64 33432]) (.int .i64 1)).run Try.prog W = .ok (.int .i64 271) W := fun W => by kernel_rfl
                go_wp2_with fail
                refine (put_at b dir imageT imageT_nodup l Hd.out Hl.out 7 _ _ [2] rfl (by decide) _ _ _ _ (hR.out.mono ((Below.refl _ _).alloc (Nat.le_refl _) _)) (Sl.new v3 3 1 1 #[.int .i64 2] (0, 0) (by decide) rfl)).mono ?_
                rintro e yy ⟨rfl, ryy, byy⟩
                have Ryy := Lib.hid ryy
                have Byy : Hid (But b w yy) := Lib.hid ((hB.out.alloc _).trans byy)
                clear ryy byy
                go_wp2
                go_roundw
                case rel => exact ⟨2, 2, by omega, rfl, rfl, Ryy, Byy⟩
                case measure => simp [intOf]
              · obtain rfl : ki = 2 := by omega
                clear hk hlt hki
                have hidx : ∀ W, (Instr.index 105 (.agg #[.int .i64 270, .int .i64 271, .int .i64 272, .int .i64 305, .int .i64 315, .int .i64 33432]) (.int .i64 2)).run Try.prog W = .ok (.int .i64 272) W := fun W => by kernel_rfl
                go_wp2_with fail
                refine (put_at b dir imageT imageT_nodup l Hd.out Hl.out 8 _ _ [2] rfl (by decide) _ _ _ _ (hR.out.mono ((Below.refl _ _).alloc (Nat.le_refl _) _)) (Sl.new v3 3 1 1 #[.int .i64 2] (0, 0) (by decide) rfl)).mono ?_
                rintro e yy ⟨rfl, ryy, byy⟩
                have Ryy := Lib.hid ryy
                have Byy : Hid (But b w yy) := Lib.hid ((hB.out.alloc _).trans byy)
                clear ryy byy
                go_wp2
                go_roundw
                case rel => exact ⟨3, 3, by omega, rfl, rfl, Ryy, Byy⟩
                case measure => simp [intOf]
              · obtain rfl : ki = 3 := by omega
                clear hk hlt hki
                have hidx : ∀ W, (Instr.index 105 (.agg #[.int .i64 270, .int .i64 271, .int .i64 272, .int .i64 305, .int .i64 315, .int .i64 33432]) (.int .i64 3)).run Try.prog W = .ok (.int .i64 305) W := fun W => by kernel_rfl
                go_wp2_with fail
                refine (put_at b dir imageT imageT_nodup l Hd.out Hl.out 9 _ _ [2] rfl (by decide) _ _ _ _ (hR.out.mono ((Below.refl _ _).alloc (Nat.le_refl _) _)) (Sl.new v3 3 1 1 #[.int .i64 2] (0, 0) (by decide) rfl)).mono ?_
                rintro e yy ⟨rfl, ryy, byy⟩
                have Ryy := Lib.hid ryy
                have Byy : Hid (But b w yy) := Lib.hid ((hB.out.alloc _).trans byy)
                clear ryy byy
                go_wp2
                go_roundw
                case rel => exact ⟨4, 4, by omega, rfl, rfl, Ryy, Byy⟩
                case measure => simp [intOf]
              · obtain rfl : ki = 4 := by omega
                clear hk hlt hki
                have hidx : ∀ W, (Instr.index 105 (.agg #[.int .i64 270, .int .i64 271, .int .i64 272, .int .i64 305, .int .i64 315, .int .i64 33432]) (.int .i64 4)).run Try.prog W = .ok (.int .i64 315) W := fun W => by kernel_rfl
                go_wp2_with fail
                refine (put_at b dir imageT imageT_nodup l Hd.out Hl.out 10 _ _ [2] rfl (by decide) _ _ _ _ (hR.out.mono ((Below.refl _ _).alloc (Nat.le_refl _) _)) (Sl.new v3 3 1 1 #[.int .i64 2] (0, 0) (by decide) rfl)).mono ?_
                rintro e yy ⟨rfl, ryy, byy⟩
                have Ryy := Lib.hid ryy
                have Byy : Hid (But b w yy) := Lib.hid ((hB.out.alloc _).trans byy)
                clear ryy byy
                go_wp2
                go_roundw
                case rel => exact ⟨5, 5, by omega, rfl, rfl, Ryy, Byy⟩
                case measure => simp [intOf]
              · obtain rfl : ki = 5 := by omega
                clear hk hlt hki
                have hidx : ∀ W, (Instr.index 105 (.agg #[.int .i64 270, .int .i64 271, .int .i64 272, .int .i64 305, .int .i64 315, .int .i64 33432]) (.int .i64 5)).run Try.prog W = .ok (.int .i64 33432) W := fun W => by kernel_rfl
                go_wp2_with fail
                refine (put_at b dir imageT imageT_nodup l Hd.out Hl.out 11 _ _ [2] rfl (by decide) _ _ _ _ (hR.out.mono ((Below.refl _ _).alloc (Nat.le_refl _) _)) (Sl.new v3 3 1 1 #[.int .i64 2] (0, 0) (by decide) rfl)).mono ?_
                rintro e yy ⟨rfl, ryy, byy⟩
                have Ryy := Lib.hid ryy
                have Byy : Hid (But b w yy) := Lib.hid ((hB.out.alloc _).trans byy)
                clear ryy byy
                go_wp2
                go_roundw
                case rel => exact ⟨6, 6, by omega, rfl, rfl, Ryy, Byy⟩
                case measure => simp [intOf]
            · obtain rfl : k = 6 := by omega
              obtain rfl : ki = 6 := by omega
              clear hk hlt hki
              have R3 := hR
              have B3 := hB
              clear hR hB
              go_wp2_with fail
              refine (put_at b dir imageT imageT_nodup l Hd.out Hl.out 12 _ _ [2] rfl (by decide) _ _ _ _ (R3.out.mono ((Below.refl _ _).alloc (Nat.le_refl _) _)) (Sl.new v3 3 1 1 #[.int .i64 2] (0, 0) (by decide) rfl)).mono ?_
              rintro e x4 ⟨rfl, rx4, bx4⟩
              have Rx4 := Lib.hid rx4
              have Bx4 : Hid (But b w x4) := Lib.hid ((B3.out.alloc _).trans bx4)
              clear rx4 bx4
              go_wp2_with fail
              refine (put_at b dir imageT imageT_nodup l Hd.out Hl.out 13 _ _ [5] rfl (by decide) _ _ _ _ (Rx4.out.mono ((Below.refl _ _).alloc (Nat.le_refl _) _)) (Sl.new x4 3 1 1 #[.int .i64 5] (0, 0) (by decide) rfl)).mono ?_
              rintro e x5 ⟨rfl, rx5, bx5⟩
              have Rx5 := Lib.hid rx5
              have Bx5 : Hid (But b w x5) := Lib.hid ((Bx4.out.alloc _).trans bx5)
              clear rx5 bx5
              go_wp2_with fail
              refine (put_at b dir imageT imageT_nodup l Hd.out Hl.out 14 _ _ [5] rfl (by decide) _ _ _ _ (Rx5.out.mono ((Below.refl _ _).alloc (Nat.le_refl _) _)) (Sl.new x5 3 1 1 #[.int .i64 5] (0, 0) (by decide) rfl)).mono ?_
              rintro e x6 ⟨rfl, rx6, bx6⟩
              have Rx6 := Lib.hid rx6
              have Bx6 : Hid (But b w x6) := Lib.hid ((Bx5.out.alloc _).trans bx6)
              clear rx6 bx6
              go_wp2
              go_end0
              exact ⟨rfl, Rx6.out, Bx6.out⟩
end Go.Proofs.Ytnhcmibngcmebaa
