import Derived.Test.YtnhcmibngcmebaaReg2
namespace Go.Proofs.Ytnhcmibngcmebaa
open Go.RowKit Tt
set_option linter.unusedVariables false

set_option maxRecDepth 100000 in
set_option maxHeartbeats 4000000 in
theorem gps_any (b : Nat) (dir : Int) (l : List Ent) (w : World) (hr : Rules w b l) (hd : (Lit.int .i64 dir).wf = true) (hl : ∀ x ∈ l, x.1.1 ≠ dir) :
    Calls Try.prog 59 #[.func (.func 57) #[.agg #[.map (some b), .int .i64 dir]] #[]] w fun e w' => e = .returned (.tuple #[]) ∧ Rules w' b (l ++ ents dir gpsT) ∧ But b w w' := by
  have R0 : Hid (Rules w b (l ++ ents dir (gpsT.take 0))) := Lib.hid (by simpa [ents] using hr)
  have B0 : Hid (But b w w) := Lib.hid (But.refl _ _)
  have Hl := Lib.hid hl
  have Hd := Lib.hid hd
  clear hr hl hd
  go_enter Try.func59, Try.ntmps59
  go_wp2_with fail
  refine (put_at b dir gpsT gpsT_nodup l Hd.out Hl.out 0 _ _ [1] rfl (by decide) _ _ _ _ (R0.out.mono ((Below.refl _ _).alloc (Nat.le_refl _) _)) (Sl.new w 3 1 1 #[.int .i64 1] (0, 0) (by decide) rfl)).mono ?_
  rintro e x1 ⟨rfl, rx1, bx1⟩
  have Rx1 := Lib.hid rx1
  have Bx1 : Hid (But b w x1) := Lib.hid ((B0.out.alloc _).trans bx1)
  clear rx1 bx1
  go_wp2_with fail
  refine (put_at b dir gpsT gpsT_nodup l Hd.out Hl.out 1 _ _ [1] rfl (by decide) _ _ _ _ (Rx1.out.mono ((Below.refl _ _).alloc (Nat.le_refl _) _)) (Sl.new x1 3 1 1 #[.int .i64 1] (0, 0) (by decide) rfl)).mono ?_
  rintro e x2 ⟨rfl, rx2, bx2⟩
  have Rx2 := Lib.hid rx2
  have Bx2 : Hid (But b w x2) := Lib.hid ((Bx1.out.alloc _).trans bx2)
  clear rx2 bx2
  go_wp2_with fail
  refine (put_at b dir gpsT gpsT_nodup l Hd.out Hl.out 2 _ _ [5] rfl (by decide) _ _ _ _ (Rx2.out.mono ((Below.refl _ _).alloc (Nat.le_refl _) _)) (Sl.new x2 3 1 1 #[.int .i64 5] (0, 0) (by decide) rfl)).mono ?_
  rintro e x3 ⟨rfl, rx3, bx3⟩
  have Rx3 := Lib.hid rx3
  have Bx3 : Hid (But b w x3) := Lib.hid ((Bx2.out.alloc _).trans bx3)
  clear rx3 bx3
  go_wp2
  go_loopw [16] (fun i wr => ∃ (k : Nat) (ki : Int), k ≤ 2 ∧ ki = k ∧ i = .int .i64 ki ∧ Hid (Rules wr b (l ++ ents dir (gpsT.take (3 + k)))) ∧ Hid (But b w wr)) (fun i _ => 2 - (intOf i).toNat)
  case atStart => exact ⟨0, 0, by omega, rfl, rfl, Rx3, Bx3⟩
  case round =>
    obtain ⟨k, ki, hk, hki, rfl, hR, hB⟩ := hrel
    rename World => v4
    by_cases hlt : k < 2
    · rcases (by omega : k = 0 ∨ k = 1) with rfl | rfl
      · obtain rfl : ki = 0 := by omega
        clear hk hlt hki
        have hidx : ∀ W, (Instr.index 65 (.agg #[.int .i64 1, .int .i64 3]) (.int .i64 0)).run Try.prog W = .ok (.int .i64 1) W := fun W => by kernel_rfl
        go_wp2_with fail
        refine (put_at b dir gpsT gpsT_nodup l Hd.out Hl.out 3 _ _ [2] rfl (by decide) _ _ _ _ (hR.out.mono ((Below.refl _ _).alloc (Nat.le_refl _) _)) (Sl.new v4 3 1 1 #[.int .i64 2] (0, 0) (by decide) rfl)).mono ?_
        rintro e yy ⟨rfl, ryy, byy⟩
        have Ryy := Lib.hid ryy
        have Byy : Hid (But b w yy) := Lib.hid ((hB.out.alloc _).trans byy)
        clear ryy byy
        go_wp2
        go_roundw
        case rel => exact ⟨1, 1, by omega, rfl, rfl, Ryy, Byy⟩
        case measure => simp [intOf]
      · obtain rfl : ki = 1 := by omega
        clear hk hlt hki
        have hidx : ∀ W, (Instr.index 65 (.agg #[.int .i64 1, .int .i64 3]) (.int .i64 1)).run Try.prog W = .ok (.int .i64 3) W := fun W => by kernel_rfl
        go_wp2_with fail
        refine (put_at b dir gpsT gpsT_nodup l Hd.out Hl.out 4 _ _ [2] rfl (by decide) _ _ _ _ (hR.out.mono ((Below.refl _ _).alloc (Nat.le_refl _) _)) (Sl.new v4 3 1 1 #[.int .i64 2] (0, 0) (by decide) rfl)).mono ?_
        rintro e yy ⟨rfl, ryy, byy⟩
        have Ryy := Lib.hid ryy
        have Byy : Hid (But b w yy) := Lib.hid ((hB.out.alloc _).trans byy)
        clear ryy byy
        go_wp2
        go_roundw
        case rel => exact ⟨2, 2, by omega, rfl, rfl, Ryy, Byy⟩
        case measure => simp [intOf]
    · obtain rfl : k = 2 := by omega
      obtain rfl : ki = 2 := by omega
      clear hk hlt hki
      have R4 := hR
      have B4 := hB
      clear hR hB
      go_wp2
      go_loopw [25] (fun i wr => ∃ (k : Nat) (ki : Int), k ≤ 3 ∧ ki = k ∧ i = .int .i64 ki ∧ Hid (Rules wr b (l ++ ents dir (gpsT.take (5 + k)))) ∧ Hid (But b w wr)) (fun i _ => 3 - (intOf i).toNat)
      case atStart => exact ⟨0, 0, by omega, rfl, rfl, R4, B4⟩
      case round =>
        obtain ⟨k, ki, hk, hki, rfl, hR, hB⟩ := hrel
        rename World => v5
        by_cases hlt : k < 3
        · rcases (by omega : k = 0 ∨ k = 1 ∨ k = 2) with rfl | rfl | rfl
          · obtain rfl : ki = 0 := by omega
            clear hk hlt hki
            have hidx : ∀ W, (Instr.index 106 (.agg #[.int .i64 2, .int .i64 4, .int .i64 7]) (.int .i64 0)).run Try.prog W = .ok (.int .i64 2) W := fun W => by kernel_rfl
            go_wp2_with fail
            refine (put_at b dir gpsT gpsT_nodup l Hd.out Hl.out 5 _ _ [5] rfl (by decide) _ _ _ _ (hR.out.mono ((Below.refl _ _).alloc (Nat.le_refl _) _)) (Sl.new v5 3 1 1 #[.int .i64 5] (0, 0) (by decide) rfl)).mono ?_
            rintro e yy ⟨rfl, ryy, byy⟩
            have Ryy := Lib.hid ryy
            have Byy : Hid (But b w yy) := Lib.hid ((hB.out.alloc _).trans byy)
            clear ryy byy
            go_wp2
            go_roundw
            case rel => exact ⟨1, 1, by omega, rfl, rfl, Ryy, Byy⟩
            case measure => simp [intOf]
          · obtain rfl : ki = 1 := by omega
            clear hk hlt hki
            have hidx : ∀ W, (Instr.index 106 (.agg #[.int .i64 2, .int .i64 4, .int .i64 7]) (.int .i64 1)).run Try.prog W = .ok (.int .i64 4) W := fun W => by kernel_rfl
            go_wp2_with fail
            refine (put_at b dir gpsT gpsT_nodup l Hd.out Hl.out 6 _ _ [5] rfl (by decide) _ _ _ _ (hR.out.mono ((Below.refl _ _).alloc (Nat.le_refl _) _)) (Sl.new v5 3 1 1 #[.int .i64 5] (0, 0) (by decide) rfl)).mono ?_
            rintro e yy ⟨rfl, ryy, byy⟩
            have Ryy := Lib.hid ryy
            have Byy : Hid (But b w yy) := Lib.hid ((hB.out.alloc _).trans byy)
            clear ryy byy
            go_wp2
            go_roundw
            case rel => exact ⟨2, 2, by omega, rfl, rfl, Ryy, Byy⟩
            case measure => simp [intOf]
          · obtain rfl : ki = 2 := by omega
            clear hk hlt hki
            have hidx : ∀ W, (Instr.index 106 (.agg #[.int .i64 2, .int .i64 4, .int .i64 7]) (.int .i64 2)).run Try.prog W = .ok (.int .i64 7) W := fun W => by kernel_rfl
            go_wp2_with fail
            refine (put_at b dir gpsT gpsT_nodup l Hd.out Hl.out 7 _ _ [5] rfl (by decide) _ _ _ _ (hR.out.mono ((Below.refl _ _).alloc (Nat.le_refl _) _)) (Sl.new v5 3 1 1 #[.int .i64 5] (0, 0) (by decide) rfl)).mono ?_
            rintro e yy ⟨rfl, ryy, byy⟩
            have Ryy := Lib.hid ryy
            have Byy : Hid (But b w yy) := Lib.hid ((hB.out.alloc _).trans byy)
            clear ryy byy
            go_wp2
            go_roundw
            case rel => exact ⟨3, 3, by omega, rfl, rfl, Ryy, Byy⟩
            case measure => simp [intOf]
        · obtain rfl : k = 3 := by omega
          obtain rfl : ki = 3 := by omega
          clear hk hlt hki
          have R5 := hR
          have B5 := hB
          clear hR hB
          go_wp2_with fail
          refine (put_at b dir gpsT gpsT_nodup l Hd.out Hl.out 8 _ _ [2] rfl (by decide) _ _ _ _ (R5.out.mono ((Below.refl _ _).alloc (Nat.le_refl _) _)) (Sl.new v5 3 1 1 #[.int .i64 2] (0, 0) (by decide) rfl)).mono ?_
          rintro e x6 ⟨rfl, rx6, bx6⟩
          have Rx6 := Lib.hid rx6
          have Bx6 : Hid (But b w x6) := Lib.hid ((B5.out.alloc _).trans bx6)
          clear rx6 bx6
          go_wp2_with fail
          refine (put_at b dir gpsT gpsT_nodup l Hd.out Hl.out 9 _ _ [2] rfl (by decide) _ _ _ _ (Rx6.out.mono ((Below.refl _ _).alloc (Nat.le_refl _) _)) (Sl.new x6 3 1 1 #[.int .i64 2] (0, 0) (by decide) rfl)).mono ?_
          rintro e x7 ⟨rfl, rx7, bx7⟩
          have Rx7 := Lib.hid rx7
          have Bx7 : Hid (But b w x7) := Lib.hid ((Bx6.out.alloc _).trans bx7)
          clear rx7 bx7
          go_wp2
          go_end0
          exact ⟨rfl, Rx7.out, Bx7.out⟩
end Go.Proofs.Ytnhcmibngcmebaa
