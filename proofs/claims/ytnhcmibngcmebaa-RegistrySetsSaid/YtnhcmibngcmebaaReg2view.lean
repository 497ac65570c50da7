import Derived.Test.YtnhcmibngcmebaaReg2
namespace Go.Proofs.Ytnhcmibngcmebaa
open Go.RowKit Tt
set_option linter.unusedVariables false

set_option maxRecDepth 100000 in
set_option maxHeartbeats 4000000 in
theorem view_any (b : Nat) (dir : Int) (l : List Ent) (w : World) (hr : Rules w b l) (hd : (Lit.int .i64 dir).wf = true) (hl : ∀ x ∈ l, x.1.1 ≠ dir) :
    Calls Try.prog 60 #[.func (.func 57) #[.agg #[.map (some b), .int .i64 dir]] #[]] w fun e w' => e = .returned (.tuple #[]) ∧ Rules w' b (l ++ ents dir viewT) ∧ But b w w' := by
  have R0 : Hid (Rules w b (l ++ ents dir (viewT.take 0))) := Lib.hid (by simpa [ents] using hr)
  have B0 : Hid (But b w w) := Lib.hid (But.refl _ _)
  have Hl := Lib.hid hl
  have Hd := Lib.hid hd
  clear hr hl hd
  go_enter Try.func60, Try.ntmps60
  go_wp2_with fail
  refine (put_at b dir viewT viewT_nodup l Hd.out Hl.out 0 _ _ [7] rfl (by decide) _ _ _ _ (R0.out.mono ((Below.refl _ _).alloc (Nat.le_refl _) _)) (Sl.new w 3 1 1 #[.int .i64 7] (0, 0) (by decide) rfl)).mono ?_
  rintro e x1 ⟨rfl, rx1, bx1⟩
  have Rx1 := Lib.hid rx1
  have Bx1 : Hid (But b w x1) := Lib.hid ((B0.out.alloc _).trans bx1)
  clear rx1 bx1
  go_wp2
  go_loopw [12] (fun i wr => ∃ (k : Nat) (ki : Int), k ≤ 3 ∧ ki = k ∧ i = .int .i64 ki ∧ Hid (Rules wr b (l ++ ents dir (viewT.take (1 + k)))) ∧ Hid (But b w wr)) (fun i _ => 3 - (intOf i).toNat)
  case atStart => exact ⟨0, 0, by omega, rfl, rfl, Rx1, Bx1⟩
  case round =>
    obtain ⟨k, ki, hk, hki, rfl, hR, hB⟩ := hrel
    rename World => v2
    by_cases hlt : k < 3
    · rcases (by omega : k = 0 ∨ k = 1 ∨ k = 2) with rfl | rfl | rfl
      · obtain rfl : ki = 0 := by omega
        clear hk hlt hki
        have hidx : ∀ W, (Instr.index 106 (.agg #[.int .i64 45313, .int .i64 45569, .int .i64 45570]) (.int .i64 0)).run Try.prog W = .ok (.int .i64 45313) W := fun W => by kernel_rfl
        go_wp2_with fail
        refine (put_at b dir viewT viewT_nodup l Hd.out Hl.out 1 _ _ [4] rfl (by decide) _ _ _ _ (hR.out.mono ((Below.refl _ _).alloc (Nat.le_refl _) _)) (Sl.new v2 3 1 1 #[.int .i64 4] (0, 0) (by decide) rfl)).mono ?_
        rintro e yy ⟨rfl, ryy, byy⟩
        have Ryy := Lib.hid ryy
        have Byy : Hid (But b w yy) := Lib.hid ((hB.out.alloc _).trans byy)
        clear ryy byy
        go_wp2
        go_roundw
        case rel => exact ⟨1, 1, by omega, rfl, rfl, Ryy, Byy⟩
        case measure => simp [intOf]
      · obtain rfl : ki = 1 := by omega
        clear hk hlt hki
        have hidx : ∀ W, (Instr.index 106 (.agg #[.int .i64 45313, .int .i64 45569, .int .i64 45570]) (.int .i64 1)).run Try.prog W = .ok (.int .i64 45569) W := fun W => by kernel_rfl
        go_wp2_with fail
        refine (put_at b dir viewT viewT_nodup l Hd.out Hl.out 2 _ _ [4] rfl (by decide) _ _ _ _ (hR.out.mono ((Below.refl _ _).alloc (Nat.le_refl _) _)) (Sl.new v2 3 1 1 #[.int .i64 4] (0, 0) (by decide) rfl)).mono ?_
        rintro e yy ⟨rfl, ryy, byy⟩
        have Ryy := Lib.hid ryy
        have Byy : Hid (But b w yy) := Lib.hid ((hB.out.alloc _).trans byy)
        clear ryy byy
        go_wp2
        go_roundw
        case rel => exact ⟨2, 2, by omega, rfl, rfl, Ryy, Byy⟩
        case measure => simp [intOf]
      · obtain rfl : ki = 2 := by omega
        clear hk hlt hki
        have hidx : ∀ W, (Instr.index 106 (.agg #[.int .i64 45313, .int .i64 45569, .int .i64 45570]) (.int .i64 2)).run Try.prog W = .ok (.int .i64 45570) W := fun W => by kernel_rfl
        go_wp2_with fail
        refine (put_at b dir viewT viewT_nodup l Hd.out Hl.out 3 _ _ [4] rfl (by decide) _ _ _ _ (hR.out.mono ((Below.refl _ _).alloc (Nat.le_refl _) _)) (Sl.new v2 3 1 1 #[.int .i64 4] (0, 0) (by decide) rfl)).mono ?_
        rintro e yy ⟨rfl, ryy, byy⟩
        have Ryy := Lib.hid ryy
        have Byy : Hid (But b w yy) := Lib.hid ((hB.out.alloc _).trans byy)
        clear ryy byy
        go_wp2
        go_roundw
        case rel => exact ⟨3, 3, by omega, rfl, rfl, Ryy, Byy⟩
        case measure => simp [intOf]
    · obtain rfl : k = 3 := by omega
      obtain rfl : ki = 3 := by omega
      clear hk hlt hki
      have R2 := hR
      have B2 := hB
      clear hR hB
      go_wp2
      go_loopw [21] (fun i wr => ∃ (k : Nat) (ki : Int), k ≤ 2 ∧ ki = k ∧ i = .int .i64 ki ∧ Hid (Rules wr b (l ++ ents dir (viewT.take (4 + k)))) ∧ Hid (But b w wr)) (fun i _ => 2 - (intOf i).toNat)
      case atStart => exact ⟨0, 0, by omega, rfl, rfl, R2, B2⟩
      case round =>
        obtain ⟨k, ki, hk, hki, rfl, hR, hB⟩ := hrel
        rename World => v3
        by_cases hlt : k < 2
        · rcases (by omega : k = 0 ∨ k = 1) with rfl | rfl
          · obtain rfl : ki = 0 := by omega
            clear hk hlt hki
            have hidx : ∀ W, (Instr.index 65 (.agg #[.int .i64 45572, .int .i64 45574]) (.int .i64 0)).run Try.prog W = .ok (.int .i64 45572) W := fun W => by kernel_rfl
            go_wp2_with fail
            refine (put_at b dir viewT viewT_nodup l Hd.out Hl.out 4 _ _ [5] rfl (by decide) _ _ _ _ (hR.out.mono ((Below.refl _ _).alloc (Nat.le_refl _) _)) (Sl.new v3 3 1 1 #[.int .i64 5] (0, 0) (by decide) rfl)).mono ?_
            rintro e yy ⟨rfl, ryy, byy⟩
            have Ryy := Lib.hid ryy
            have Byy : Hid (But b w yy) := Lib.hid ((hB.out.alloc _).trans byy)
            clear ryy byy
            go_wp2
            go_roundw
            case rel => exact ⟨1, 1, by omega, rfl, rfl, Ryy, Byy⟩
            case measure => simp [intOf]
          · obtain rfl : ki = 1 := by omega
            clear hk hlt hki
            have hidx : ∀ W, (Instr.index 65 (.agg #[.int .i64 45572, .int .i64 45574]) (.int .i64 1)).run Try.prog W = .ok (.int .i64 45574) W := fun W => by kernel_rfl
            go_wp2_with fail
            refine (put_at b dir viewT viewT_nodup l Hd.out Hl.out 5 _ _ [5] rfl (by decide) _ _ _ _ (hR.out.mono ((Below.refl _ _).alloc (Nat.le_refl _) _)) (Sl.new v3 3 1 1 #[.int .i64 5] (0, 0) (by decide) rfl)).mono ?_
            rintro e yy ⟨rfl, ryy, byy⟩
            have Ryy := Lib.hid ryy
            have Byy : Hid (But b w yy) := Lib.hid ((hB.out.alloc _).trans byy)
            clear ryy byy
            go_wp2
            go_roundw
            case rel => exact ⟨2, 2, by omega, rfl, rfl, Ryy, Byy⟩
            case measure => simp [intOf]
        · obtain rfl : k = 2 := by omega
          obtain rfl : ki = 2 := by omega
          clear hk hlt hki
          have R3 := hR
          have B3 := hB
          clear hR hB
          go_wp2
          go_loopw [30] (fun i wr => ∃ (k : Nat) (ki : Int), k ≤ 2 ∧ ki = k ∧ i = .int .i64 ki ∧ Hid (Rules wr b (l ++ ents dir (viewT.take (6 + k)))) ∧ Hid (But b w wr)) (fun i _ => 2 - (intOf i).toNat)
          case atStart => exact ⟨0, 0, by omega, rfl, rfl, R3, B3⟩
          case round =>
            obtain ⟨k, ki, hk, hki, rfl, hR, hB⟩ := hrel
            rename World => v4
            by_cases hlt : k < 2
            · rcases (by omega : k = 0 ∨ k = 1) with rfl | rfl
              · obtain rfl : ki = 0 := by omega
                clear hk hlt hki
                have hidx : ∀ W, (Instr.index 65 (.agg #[.int .i64 45573, .int .i64 45576]) (.int .i64 0)).run Try.prog W = .ok (.int .i64 45573) W := fun W => by kernel_rfl
                go_wp2_with fail
                refine (put_at b dir viewT viewT_nodup l Hd.out Hl.out 6 _ _ [10] rfl (by decide) _ _ _ _ (hR.out.mono ((Below.refl _ _).alloc (Nat.le_refl _) _)) (Sl.new v4 3 1 1 #[.int .i64 10] (0, 0) (by decide) rfl)).mono ?_
                rintro e yy ⟨rfl, ryy, byy⟩
                have Ryy := Lib.hid ryy
                have Byy : Hid (But b w yy) := Lib.hid ((hB.out.alloc _).trans byy)
                clear ryy byy
                go_wp2
                go_roundw
                case rel => exact ⟨1, 1, by omega, rfl, rfl, Ryy, Byy⟩
                case measure => simp [intOf]
              · obtain rfl : ki = 1 := by omega
                clear hk hlt hki
                have hidx : ∀ W, (Instr.index 65 (.agg #[.int .i64 45573, .int .i64 45576]) (.int .i64 1)).run Try.prog W = .ok (.int .i64 45576) W := fun W => by kernel_rfl
                go_wp2_with fail
                refine (put_at b dir viewT viewT_nodup l Hd.out Hl.out 7 _ _ [10] rfl (by decide) _ _ _ _ (hR.out.mono ((Below.refl _ _).alloc (Nat.le_refl _) _)) (Sl.new v4 3 1 1 #[.int .i64 10] (0, 0) (by decide) rfl)).mono ?_
                rintro e yy ⟨rfl, ryy, byy⟩
                have Ryy := Lib.hid ryy
                have Byy : Hid (But b w yy) := Lib.hid ((hB.out.alloc _).trans byy)
                clear ryy byy
                go_wp2
                go_roundw
                case rel => exact ⟨2, 2, by omega, rfl, rfl, Ryy, Byy⟩
                case measure => simp [intOf]
            · obtain rfl : k = 2 := by omega
              obtain rfl : ki = 2 := by omega
              clear hk hlt hki
              have R4 := hR
              have B4 := hB
              clear hR hB
              go_wp2
              go_end0
              exact ⟨rfl, R4.out, B4.out⟩
end Go.Proofs.Ytnhcmibngcmebaa
