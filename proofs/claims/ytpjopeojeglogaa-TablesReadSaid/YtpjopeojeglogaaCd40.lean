/- Chapter 14: frames read: the document. -/
import Derived.Test.YtpjopeojeglogaaCd38
namespace Go.Proofs.Ytpjopeojeglogaa
open Go.RowKit Tt
set_option linter.unusedVariables false
set_option linter.unusedSimpArgs false

set_option maxRecDepth 20000 in
set_option maxHeartbeats 4000000 in
theorem rreadFrame_any (a : Option Addr) (n c : Nat) (z : List Int) (w : World) (hs : Sl w a n c 1 (ints .u8 z)) (hz : Byt z) (hn : n ≤ 100000) :
    Calls Try.prog 53 #[.slice a n c] w (FrameR (rfS z) w) := by
  obtain ⟨i0, zq, hi, hiz, hq1, hq2, hq3⟩ := info_ofz infoM2 infoM3; have hzl := hs.ilen; obtain ⟨T, hT⟩ : ∃ T, rfS z = T := ⟨_, rfl⟩; rw [hT]; have bF := Blk.new w 56 #[.int .i64 0, .int .i64 0, .slice none 0 0]; have hb1 := (Below.refl w.heap.size w).alloc (Nat.le_refl _) (.cells #[.int .i64 0, .int .i64 0, .slice none 0 0] 56); obtain ⟨W1, hW1⟩ : ∃ W1, w.alloc (.cells #[.int .i64 0, .int .i64 0, .slice none 0 0] 56) = W1 := ⟨_, rfl⟩; rw [hW1] at bF hb1
  by_cases hn6 : n < 6
  · obtain rfl : T = (3, 0, 0, []) := by rw [← hT]; unfold rfS; rw [if_pos (by omega)]
    have d1 : decide ((n : Int) < 6) = true := by simp; omega
    have hs' := Lib.hid hs; have hz' := Lib.hid hz; have hzl' := Lib.hid hzl; have hT' := Lib.hid hT; have hW1' := Lib.hid hW1; clear hs hz hzl hT hW1
    go_enter Try.func53, Try.ntmps53
    go_upto_region 1 with fail
    rw [hW1'.out]; have bz : Blk (W1.setRow w.heap.size #[.int .i64 0, .int .i64 0, .slice none 0 0]) w.heap.size 56 #[.int .i64 0, .int .i64 0, .slice none 0 0] := setRow_heap _ _ _ _ _ _ bF; have hbz := rowBelow hb1 (Nat.le_refl w.heap.size) #[.int .i64 0, .int .i64 0, .slice none 0 0]; have hBB := bF; have bz' := Lib.hid bz; have hbz' := Lib.hid hbz; have hBB' := Lib.hid hBB; clear bz hbz hBB
    go_wp2_with (refine wpList_store_row rfl 56 (.tmp 2) (.tmp 11) rfl w.heap.size #[.int .i64 0, .int .i64 0, .slice none 0 0] rfl rfl 56 _ hBB'.out infoFr rfl zeroF_one ?_)
    refine bodyPost_ret (results_blk_tmp rfl _ _ w.heap.size 56 #[.int .i64 0, .int .i64 0, .slice none 0 0] _ rfl bz'.out Try.underlying56 rfl infoFr) rfl ?_; exact frame_no hbz'.out
  have d1 : decide ((n : Int) < 6) = false := by simp; omega
  have hTe : T = (if z.getD 0 0 ≠ 8 then (2, 0, 0, []) else if z.length < 6 + 3 * nB z 5 then (3, 0, 0, []) else if 6 + 3 * nB z 5 < z.length then (2, 0, 0, []) else if frmE (256 * z.getD 3 0 + z.getD 4 0) (256 * z.getD 1 0 + z.getD 2 0) (cmpsOf (nB z 5) (z.drop 6)) = 0 then (0, 256 * z.getD 3 0 + z.getD 4 0, 256 * z.getD 1 0 + z.getD 2 0, cmpsOf (nB z 5) (z.drop 6)) else (frmE (256 * z.getD 3 0 + z.getD 4 0) (256 * z.getD 1 0 + z.getD 2 0) (cmpsOf (nB z 5) (z.drop 6)), 0, 0, [])) := by
    rw [← hT]; unfold rfS; rw [if_neg (by omega)]
  obtain ⟨bb, o, rfl, hbb, fc⟩ := hs.at (show 0 < n by omega); have hcz : ∀ W, Below w.heap.size w W → ∀ k, k < n → W.cell? ⟨bb, o + k, none⟩ = some (.int .u8 (z.getD k 0)) := fun W hW k hk => (hW.cell (p := ⟨bb, o + k, none⟩) hbb).trans (fc k _ (ints_get (by rw [hzl]; exact hk))); obtain ⟨y0, hy0⟩ : ∃ y, z.getD 0 0 = y := ⟨_, rfl⟩; obtain ⟨y5, hy5⟩ : ∃ y, z.getD 5 0 = y := ⟨_, rfl⟩; have g0 : W1.cell? ⟨bb, o, none⟩ = some (.int .u8 y0) := by have h := hcz W1 hb1 0 (by omega); rw [hy0] at h; exact h
  rw [hy0] at hTe
  by_cases h8 : y0 = 8
  case neg =>
    obtain rfl : T = (2, 0, 0, []) := by rw [hTe, if_pos h8]
    have hnb : (y0 != 8) = true := by simpa using h8
    clear h8 hTe fc; have hs' := Lib.hid hs; have hz' := Lib.hid hz; have hzl' := Lib.hid hzl; have hT' := Lib.hid hT; have hW1' := Lib.hid hW1; have hcz' := Lib.hid hcz; have hy0' := Lib.hid hy0; have hy5' := Lib.hid hy5; clear hs hz hzl hT hW1 hcz hy0 hy5
    go_enter Try.func53, Try.ntmps53
    go_upto_region 1 with fail
    rw [hW1'.out]; have bz : Blk (W1.setRow w.heap.size #[.int .i64 0, .int .i64 0, .slice none 0 0]) w.heap.size 56 #[.int .i64 0, .int .i64 0, .slice none 0 0] := setRow_heap _ _ _ _ _ _ bF; have hbz := rowBelow hb1 (Nat.le_refl w.heap.size) #[.int .i64 0, .int .i64 0, .slice none 0 0]; have hBB := bF; have bz' := Lib.hid bz; have hbz' := Lib.hid hbz; have hBB' := Lib.hid hBB; clear bz hbz hBB
    go_wp2_with (refine wpList_store_row rfl 56 (.tmp 2) (.tmp 16) rfl w.heap.size #[.int .i64 0, .int .i64 0, .slice none 0 0] rfl rfl 56 _ hBB'.out infoFr rfl zeroF_one ?_)
    refine bodyPost_ret (results_blk_tmp rfl _ _ w.heap.size 56 #[.int .i64 0, .int .i64 0, .slice none 0 0] _ rfl bz'.out Try.underlying56 rfl infoFr) rfl ?_; exact frame_no hbz'.out
  case pos =>
  subst h8; rw [if_neg (by omega)] at hTe; have hnb : ((8 : Int) != 8) = false := by decide
  have hy5b := hz.get 5; rw [hy5] at hy5b; obtain ⟨N, rfl⟩ : ∃ N : Nat, y5 = N := ⟨y5.toNat, by omega⟩; have hnB : nB z 5 = N := by unfold nB; rw [hy5]; exact Int.toNat_natCast N
  rw [hnB] at hTe; have g5 : W1.cell? ⟨bb, o + 5, none⟩ = some (.int .u8 N) := by have h := hcz W1 hb1 5 (by omega); rw [hy5] at h; exact h
  have hw1 : IntKind.i64.wrap (3 * (N : Int)) = 3 * N := by rw [IntKind.wrap_i64]; omega
  have hw2 : IntKind.i64.wrap (6 + 3 * (N : Int)) = 6 + 3 * N := by rw [IntKind.wrap_i64]; omega
  rw [hzl] at hTe
  by_cases hn3 : n < 6 + 3 * N
  · rw [if_pos hn3] at hTe
    obtain rfl := hTe; have d2 : decide ((n : Int) < 6 + 3 * N) = true := by simp; omega
    clear fc; have hs' := Lib.hid hs; have hz' := Lib.hid hz; have hzl' := Lib.hid hzl; have hT' := Lib.hid hT; have hW1' := Lib.hid hW1; have hcz' := Lib.hid hcz; have hy0' := Lib.hid hy0; have hy5' := Lib.hid hy5; have hnB' := Lib.hid hnB; clear hs hz hzl hT hW1 hcz hy0 hy5 hnB
    go_enter Try.func53, Try.ntmps53
    go_upto_region 1 with fail
    rw [hW1'.out]; have bz : Blk (W1.setRow w.heap.size #[.int .i64 0, .int .i64 0, .slice none 0 0]) w.heap.size 56 #[.int .i64 0, .int .i64 0, .slice none 0 0] := setRow_heap _ _ _ _ _ _ bF; have hbz := rowBelow hb1 (Nat.le_refl w.heap.size) #[.int .i64 0, .int .i64 0, .slice none 0 0]; have hBB := bF; have bz' := Lib.hid bz; have hbz' := Lib.hid hbz; have hBB' := Lib.hid hBB; clear bz hbz hBB
    go_wp2_with (refine wpList_store_row rfl 56 (.tmp 2) (.tmp 27) rfl w.heap.size #[.int .i64 0, .int .i64 0, .slice none 0 0] rfl rfl 56 _ hBB'.out infoFr rfl zeroF_one ?_)
    refine bodyPost_ret (results_blk_tmp rfl _ _ w.heap.size 56 #[.int .i64 0, .int .i64 0, .slice none 0 0] _ rfl bz'.out Try.underlying56 rfl infoFr) rfl ?_; exact frame_no hbz'.out
  rw [if_neg hn3] at hTe; have d2 : decide ((n : Int) < 6 + 3 * N) = false := by simp; omega
  by_cases hn4 : 6 + 3 * N < n
  · rw [if_pos hn4] at hTe
    obtain rfl := hTe; have d3 : decide (6 + 3 * (N : Int) < n) = true := by simp; omega
    clear fc; have hs' := Lib.hid hs; have hz' := Lib.hid hz; have hzl' := Lib.hid hzl; have hT' := Lib.hid hT; have hW1' := Lib.hid hW1; have hcz' := Lib.hid hcz; have hy0' := Lib.hid hy0; have hy5' := Lib.hid hy5; have hnB' := Lib.hid hnB; clear hs hz hzl hT hW1 hcz hy0 hy5 hnB
    go_enter Try.func53, Try.ntmps53
    go_upto_region 1 with fail
    rw [hW1'.out]; have bz : Blk (W1.setRow w.heap.size #[.int .i64 0, .int .i64 0, .slice none 0 0]) w.heap.size 56 #[.int .i64 0, .int .i64 0, .slice none 0 0] := setRow_heap _ _ _ _ _ _ bF; have hbz := rowBelow hb1 (Nat.le_refl w.heap.size) #[.int .i64 0, .int .i64 0, .slice none 0 0]; have hBB := bF; have bz' := Lib.hid bz; have hbz' := Lib.hid hbz; have hBB' := Lib.hid hBB; clear bz hbz hBB
    go_wp2_with (refine wpList_store_row rfl 56 (.tmp 2) (.tmp 34) rfl w.heap.size #[.int .i64 0, .int .i64 0, .slice none 0 0] rfl rfl 56 _ hBB'.out infoFr rfl zeroF_one ?_)
    refine bodyPost_ret (results_blk_tmp rfl _ _ w.heap.size 56 #[.int .i64 0, .int .i64 0, .slice none 0 0] _ rfl bz'.out Try.underlying56 rfl infoFr) rfl ?_; exact frame_no hbz'.out
  rw [if_neg hn4] at hTe; have d3 : decide (6 + 3 * (N : Int) < n) = false := by simp; omega
  have hnN : n = 6 + 3 * N := by omega
  obtain ⟨y1, hy1⟩ : ∃ y, z.getD 1 0 = y := ⟨_, rfl⟩; obtain ⟨y2, hy2⟩ : ∃ y, z.getD 2 0 = y := ⟨_, rfl⟩; obtain ⟨y3, hy3⟩ : ∃ y, z.getD 3 0 = y := ⟨_, rfl⟩; obtain ⟨y4, hy4⟩ : ∃ y, z.getD 4 0 = y := ⟨_, rfl⟩; have v1 := hz.get 1; have v2 := hz.get 2; have v3 := hz.get 3; have v4 := hz.get 4; rw [hy1] at v1; rw [hy2] at v2; rw [hy3] at v3; rw [hy4] at v4; rw [hy1, hy2, hy3, hy4] at hTe; obtain ⟨v1a, v1b⟩ := v1; obtain ⟨v2a, v2b⟩ := v2; obtain ⟨v3a, v3b⟩ := v3; obtain ⟨v4a, v4b⟩ := v4; have x1 : IntKind.i64.wrap (256 * y3) = 256 * y3 := by rw [IntKind.wrap_i64]; omega
  have x2 : IntKind.i64.wrap (256 * y1) = 256 * y1 := by rw [IntKind.wrap_i64]; omega
  obtain ⟨WW, hWW⟩ : ∃ x, 256 * y3 + y4 = x := ⟨_, rfl⟩; obtain ⟨HH, hHH⟩ : ∃ x, 256 * y1 + y2 = x := ⟨_, rfl⟩; have x3 : IntKind.i64.wrap (256 * y3 + y4) = WW := by rw [IntKind.wrap_i64]; omega
  have x4 : IntKind.i64.wrap (256 * y1 + y2) = HH := by rw [IntKind.wrap_i64]; omega
  rw [hWW, hHH] at hTe; obtain ⟨cs, hcs⟩ : ∃ cs, cmpsOf N (z.drop 6) = cs := ⟨_, rfl⟩; rw [hcs] at hTe; obtain ⟨wD, hwD⟩ : ∃ wD, W1.drew = wD := ⟨_, rfl⟩; have hd := (Below.refl W1.heap.size W1).drew; rw [hwD] at hd; have hbD := hb1.trans (hd.mono hb1.size); have bFD := bF.late hd; obtain ⟨Ty, ff, hne, qq, hsurj⟩ := pr_worlds (fun W => Below w.heap.size w W) wD hbD; have HS := Lib.hid (hsurj _ hbD); have q1 : ∀ s, (ff s).cell? ⟨bb, o + 1, none⟩ = some (.int .u8 y1) := fun s => by have h := hcz _ (qq s) 1 (by omega); rw [hy1] at h; exact h
  have q2 : ∀ s, (ff s).cell? ⟨bb, o + 2, none⟩ = some (.int .u8 y2) := fun s => by have h := hcz _ (qq s) 2 (by omega); rw [hy2] at h; exact h
  have q3 : ∀ s, (ff s).cell? ⟨bb, o + 3, none⟩ = some (.int .u8 y3) := fun s => by have h := hcz _ (qq s) 3 (by omega); rw [hy3] at h; exact h
  have q4 : ∀ s, (ff s).cell? ⟨bb, o + 4, none⟩ = some (.int .u8 y4) := fun s => by have h := hcz _ (qq s) 4 (by omega); rw [hy4] at h; exact h
  have bA := Blk.new wD 56 #[.int .i64 0, .int .i64 0, .slice none 0 0]; have hal := (Below.refl wD.heap.size wD).alloc (Nat.le_refl _) (.cells #[.int .i64 0, .int .i64 0, .slice none 0 0] 56); obtain ⟨w6, hw6⟩ : ∃ w6, wD.alloc (.cells #[.int .i64 0, .int .i64 0, .slice none 0 0] 56) = w6 := ⟨_, rfl⟩; rw [hw6] at bA hal; have hone : (#[.int .i64 WW, .int .i64 HH, .slice none 0 0] : Array Value).all (·.oneCell') = true := by simp [Value.oneCell']
  have hb7 := rowBelow hal (Nat.le_refl _) #[.int .i64 WW, .int .i64 HH, .slice none 0 0]; have bB : Blk (w6.setRow wD.heap.size #[.int .i64 WW, .int .i64 HH, .slice none 0 0]) wD.heap.size 56 #[.int .i64 WW, .int .i64 HH, .slice none 0 0] := setRow_heap _ _ _ _ _ _ bA; have HS6 := Lib.hid (hsurj _ (hbD.trans (hal.mono hbD.size))); have HS7 := Lib.hid (hsurj _ (hbD.trans (hb7.mono hbD.size))); have hlt0 : w.heap.size < wD.heap.size := bFD.lt; clear fc qq hd hal bF; have hnN' := Lib.hid hnN; have hs' := Lib.hid hs; have hz' := Lib.hid hz; have hzl' := Lib.hid hzl; have hT' := Lib.hid hT; have hW1' := Lib.hid hW1; have hcz' := Lib.hid hcz; have hy0' := Lib.hid hy0; have hy1' := Lib.hid hy1; have hy2' := Lib.hid hy2; have hy3' := Lib.hid hy3; have hy4' := Lib.hid hy4; have hy5' := Lib.hid hy5; have hnB' := Lib.hid hnB; have hTe' := Lib.hid hTe; have hcs' := Lib.hid hcs; have hWW' := Lib.hid hWW; have hHH' := Lib.hid hHH; have hwD' := Lib.hid hwD; have hbD' := Lib.hid hbD; have bFD' := Lib.hid bFD; have hsurj' := Lib.hid hsurj; have bA' := Lib.hid bA; have hw6' := Lib.hid hw6; have hone' := Lib.hid hone; have hb7' := Lib.hid hb7; have bB' := Lib.hid bB; have hb1' := Lib.hid hb1; have hlt0' := Lib.hid hlt0; clear hnN hs hz hzl hT hW1 hcz hy0 hy1 hy2 hy3 hy4 hy5 hnB hTe hcs hWW hHH hwD hbD bFD hsurj bA hw6 hone hb7 bB hb1 hlt0
  go_enter Try.func53, Try.ntmps53
  go_upto_region 1 with fail
  rw [hW1'.out]
  go_upto_region 10 with fail
  go_cut [5] from 8 (fun v wx => ∃ g, v = .pointer (some ⟨g, 0, none⟩) ∧ wD.heap.size ≤ g ∧ Hid (Blk wx g 56 #[.int .i64 WW, .int .i64 HH, .slice none 0 0]) ∧ Hid (Below wD.heap.size wD wx))
  case first =>
    refine held_begin (S := fun W => ∃ s, W = ff s) (by kernel_rfl) 23 rfl ?_; rw [hwD'.out]; refine held_take [0, 1, 2, 3, 4, 5, 6, 7, 8, 9, 10, 11, 12, 13, 14, 15, 16, 17, 18, 19] 3 (by kernel_rfl) (fun d _ _ _ _ h => by cases d <;> exact h) (by kernel_rfl) (by kernel_rfl) (by kernel_rfl) HS.out ?_; simp only [pickL, List.map_cons, List.map_nil, List.getD_cons_succ, List.getD_cons_zero]
    iterate 20 (go_big_quiet_step (fail))
    refine wpQuiet_nil ?_; clear q1 q2 q3 q4 hne; refine held_two 20 21 2 (by kernel_rfl) (by kernel_rfl) ?_ ?_
    all_goals simp only [pickL, List.map_cons, List.map_nil, List.getD_cons_succ, List.getD_cons_zero]
    · go_wp2_with fail
      first | refine Mid.mk ⟨HS.out, ?_⟩ | refine Mid.mk ?_
      refine held_one 21 1 (by kernel_rfl) (by kernel_rfl) ?_; simp only [pickL, List.map_cons, List.map_nil, List.getD_cons_succ, List.getD_cons_zero]
      go_wp2_with fail
      rw [hw6'.out]
      first | refine Mid.mk ⟨HS6.out, ?_⟩ | refine Mid.mk ?_
      refine held_one 22 0 (by kernel_rfl) (by kernel_rfl) ?_; simp only [pickL, List.map_cons, List.map_nil, List.getD_cons_succ, List.getD_cons_zero]
      go_wp2_with (refine wpList_store_row rfl 56 (.tmp 5) (.tmp 55) rfl wD.heap.size #[.int .i64 WW, .int .i64 HH, .slice none 0 0] rfl rfl 56 #[.int .i64 0, .int .i64 0, .slice none 0 0] bA'.out infoFr rfl hone'.out ?_)
      first | refine Mid.mk ⟨HS7.out, ?_⟩ | refine Mid.mk ?_
      refine held_last (by kernel_rfl) ?_
      go_wp2_with fail
      go_meet
      case rel => exact ⟨_, rfl, Nat.le_refl _, bB', hb7'⟩
    · go_wp2_with fail
      rw [hw6'.out]
      first | refine Mid.mk ⟨HS6.out, ?_⟩ | refine Mid.mk ?_
      refine held_one 20 1 (by kernel_rfl) (by kernel_rfl) ?_; simp only [pickL, List.map_cons, List.map_nil, List.getD_cons_succ, List.getD_cons_zero]
      go_wp2_with fail
      first | refine Mid.mk ⟨HS6.out, ?_⟩ | refine Mid.mk ?_
      refine held_one 22 0 (by kernel_rfl) (by kernel_rfl) ?_; simp only [pickL, List.map_cons, List.map_nil, List.getD_cons_succ, List.getD_cons_zero]
      go_wp2_with (refine wpList_store_row rfl 56 (.tmp 5) (.tmp 55) rfl wD.heap.size #[.int .i64 WW, .int .i64 HH, .slice none 0 0] rfl rfl 56 #[.int .i64 0, .int .i64 0, .slice none 0 0] bA'.out infoFr rfl hone'.out ?_)
      first | refine Mid.mk ⟨HS7.out, ?_⟩ | refine Mid.mk ?_
      refine held_last (by kernel_rfl) ?_
      go_wp2_with fail
      go_meet
      case rel => exact ⟨_, rfl, Nat.le_refl _, bB', hb7'⟩
  case rest =>
    obtain ⟨g7, rfl, hgw, bG, hbc⟩ := hcut; clear HS HS6 HS7 bA' bB' hb7' hw6' hsurj' hwD' hne q1 q2 q3 q4 x1 x2 x3 x4 g0 g5 hnb hw1 hw2 hone'; have hbW := hbD'.out.trans (hbc.out.mono hbD'.out.size); have bFW := bFD'.out.late hbc.out; have hgb : w.heap.size + 1 ≤ g7 := by have := hlt0'.out; omega
    clear hgw; have hbW' := Lib.hid hbW; have bFW' := Lib.hid bFW; clear hbW bFW
    go_wp2
    go_loopw [6] (fun iv wr => ∃ (k : Nat) (a3 : Option Addr) (c3 : Nat), k ≤ N ∧ iv = .int .i64 (6 + 3 * (k : Int)) ∧ Hid (Blk wr g7 56 #[.int .i64 WW, .int .i64 HH, .slice a3 k c3]) ∧ Hid (wr.ownsRow (g7 + 1) 167 4 (.slice a3 k c3) k (((cs.take k).map cmpC).flatten)) ∧ Hid (Blk wr w.heap.size 56 #[.int .i64 0, .int .i64 0, .slice none 0 0]) ∧ Hid (Below w.heap.size w wr)) (fun iv _ => 6 + 3 * N - (intOf iv).toNat)
    case atStart => exact ⟨0, none, 0, by omega, rfl, bG, Lib.hid (own_nil _ _ _ _), bFW', hbW'⟩
    case round =>
      obtain ⟨k, a3, c3, hk, rfl, bX, Ob, bF, hbel⟩ := hrel
      by_cases hlt : k < N
      · obtain ⟨e1, he1⟩ : ∃ y, z.getD (6 + 3 * k) 0 = y := ⟨_, rfl⟩
        obtain ⟨e2, he2⟩ : ∃ y, z.getD (6 + 3 * k + 1) 0 = y := ⟨_, rfl⟩; obtain ⟨e3, he3⟩ : ∃ y, z.getD (6 + 3 * k + 2) 0 = y := ⟨_, rfl⟩; have v1 := hz'.out.get (6 + 3 * k); have v2 := hz'.out.get (6 + 3 * k + 1); have v3 := hz'.out.get (6 + 3 * k + 2); rw [he1] at v1; rw [he2] at v2; rw [he3] at v3; obtain ⟨v1a, v1b⟩ := v1; obtain ⟨v2a, v2b⟩ := v2; obtain ⟨v3a, v3b⟩ := v3; obtain ⟨u1, u2, u3⟩ := quo16 v2a v2b
        have hck : cs[k]? = some (e1, e2 / 16, e2 % 16, e3) := by
          rw [← hcs'.out, cmpsOf_get N k _ hlt]; simp only [List.getD_eq_getElem?_getD, List.getElem?_drop]; rw [← he1, ← he2, ← he3]; simp only [List.getD_eq_getElem?_getD, Nat.add_assoc]
        have hsn := map_take_snoc (f := cmpC) hck; have dlt : decide (6 + 3 * (k : Int) < n) = true := by have := hnN'.out; simp; omega
        have w1 : IntKind.i64.wrap (6 + 3 * (k : Int) + 1) = 6 + 3 * k + 1 := by rw [IntKind.wrap_i64]; omega
        have w2 : IntKind.i64.wrap (6 + 3 * (k : Int) + 2) = 6 + 3 * k + 2 := by rw [IntKind.wrap_i64]; omega
        have w3 : IntKind.i64.wrap (6 + 3 * (k : Int) + 3) = 6 + 3 * ((k + 1 : Nat) : Int) := by rw [IntKind.wrap_i64]; omega
        have t1 : (6 + 3 * (k : Int)).toNat = 6 + 3 * k := by omega
        have t2 : (6 + 3 * (k : Int) + 1).toNat = 6 + 3 * k + 1 := by omega
        have t3 : (6 + 3 * (k : Int) + 2).toNat = 6 + 3 * k + 2 := by omega
        have i1 : 6 + 3 * (k : Int) < n := by have := hnN'.out; omega
        have i2 : 6 + 3 * (k : Int) + 1 < n := by have := hnN'.out; omega
        have i3 : 6 + 3 * (k : Int) + 2 < n := by have := hnN'.out; omega
        have hcl : ∀ W, Below w.heap.size w W → W.cell? ⟨bb, o + (6 + 3 * k), none⟩ = some (.int .u8 e1) ∧ W.cell? ⟨bb, o + (6 + 3 * k + 1), none⟩ = some (.int .u8 e2) ∧ W.cell? ⟨bb, o + (6 + 3 * k + 2), none⟩ = some (.int .u8 e3) := fun W hW => by
          have hn2 := hnN'.out; have h1 := hcz'.out W hW (6 + 3 * k) (by omega); have h2 := hcz'.out W hW (6 + 3 * k + 1) (by omega); have h3 := hcz'.out W hW (6 + 3 * k + 2) (by omega); rw [he1] at h1; rw [he2] at h2; rw [he3] at h3; exact ⟨h1, h2, h3⟩
        obtain ⟨wD, hwD⟩ : ∃ wD, wr.drew = wD := ⟨_, rfl⟩; have hd := (Below.refl wr.heap.size wr).drew; rw [hwD] at hd; have bXD := bX.out.late hd; have bFD := bF.out.late hd; have ObD := own_later Ob.out hd; have hbD := hbel.out.trans (hd.mono hbel.out.size); have p2 : wD.cell? ⟨g7, 2, none⟩ = some (.slice a3 k c3) := bXD.cell rfl; obtain ⟨Ty, ff, hne, qq, hsurj⟩ := pr_worlds (fun W => (W.cell? ⟨bb, o + (6 + 3 * k), none⟩ = some (.int .u8 e1) ∧ W.cell? ⟨bb, o + (6 + 3 * k + 1), none⟩ = some (.int .u8 e2) ∧ W.cell? ⟨bb, o + (6 + 3 * k + 2), none⟩ = some (.int .u8 e3)) ∧ W.cell? ⟨g7, 2, none⟩ = some (.slice a3 k c3)) wD ⟨hcl wD hbD, p2⟩; have q0 := fun s => (qq s).1.1; have q1 := fun s => (qq s).1.2.1; have q2 := fun s => (qq s).1.2.2; have q3 := fun s => (qq s).2; have HS := Lib.hid (hsurj _ ⟨hcl wD hbD, p2⟩); have hal := (Below.refl wD.heap.size wD).alloc (Nat.le_refl _) (.cells #[.int .i64 e1, .int .i64 (e2 / 16), .int .i64 (e2 % 16), .int .i64 e3] 167); have sA : Sl (wD.alloc (.cells #[.int .i64 e1, .int .i64 (e2 / 16), .int .i64 (e2 % 16), .int .i64 e3] 167)) (some ⟨wD.heap.size, 0, none⟩) 1 1 4 (cmpC (e1, e2 / 16, e2 % 16, e3)) := Sl.new wD 167 4 1 #[.int .i64 e1, .int .i64 (e2 / 16), .int .i64 (e2 % 16), .int .i64 e3] (0, 0) (by omega) rfl; obtain ⟨wA, hwA⟩ : ∃ wA, wD.alloc (.cells #[.int .i64 e1, .int .i64 (e2 / 16), .int .i64 (e2 % 16), .int .i64 e3] 167) = wA := ⟨_, rfl⟩; rw [hwA] at hal sA; have bXA := bXD.late hal; have bFA := bFD.late hal; have ObA := own_later ObD hal; have hbA := hbD.trans (hal.mono hbD.size); have HSA := Lib.hid (hsurj _ ⟨hcl wA hbA, bXA.cell rfl⟩); have hszA : g7 + 1 ≤ wA.heap.size := bXA.lt; clear qq p2 hd hal; have bXD' := Lib.hid bXD; have bFD' := Lib.hid bFD; have ObD' := Lib.hid ObD; have hbD' := Lib.hid hbD; have hcl' := Lib.hid hcl; have hsurj' := Lib.hid hsurj; have sA' := Lib.hid sA; have hwA' := Lib.hid hwA; have hwD' := Lib.hid hwD; have bXA' := Lib.hid bXA; have bFA' := Lib.hid bFA; have ObA' := Lib.hid ObA; have hbA' := Lib.hid hbA; have hck' := Lib.hid hck; have hsn' := Lib.hid hsn; have he1' := Lib.hid he1; have he2' := Lib.hid he2; have he3' := Lib.hid he3; clear bXD bFD ObD hbD hcl hsurj sA hwA hwD bXA bFA ObA hbA hck hsn he1 he2 he3
        go_wp2_with fail
        refine till_begin (t := 31) (C := fun W => ∃ s, W = ff s) (by kernel_rfl) 32 rfl ?_; rw [hwD'.out]; refine till_take [0, 1, 2, 3, 4, 5, 6, 7, 8, 9, 10, 11, 12, 13, 14, 15, 16, 17, 18, 19, 20, 21, 22, 23, 24, 25, 26] 5 (by kernel_rfl) (fun d _ _ _ _ h => by cases d <;> exact h) (by kernel_rfl) (by kernel_rfl) (by kernel_rfl) HS.out ?_; simp only [pickL, List.map_cons, List.map_nil, List.getD_cons_succ, List.getD_cons_zero]
        iterate 27 (go_big_quiet_step (fail))
        refine wpQuiet_nil ?_; refine till_one 27 4 (by kernel_rfl) (by kernel_rfl) ?_; simp only [pickL, List.map_cons, List.map_nil, List.getD_cons_succ, List.getD_cons_zero]
        go_wp2_with fail
        first | refine Mid.mk ⟨fun _ => HS.out, ?_⟩ | refine Mid.mk ?_
        refine till_one 28 3 (by kernel_rfl) (by kernel_rfl) ?_; simp only [pickL, List.map_cons, List.map_nil, List.getD_cons_succ, List.getD_cons_zero]
        go_wp2_with fail
        rw [hwA'.out]
        first | refine Mid.mk ⟨fun _ => HSA.out, ?_⟩ | refine Mid.mk ?_
        clear q0 q1 q2 q3 hne; refine till_one 29 2 (by kernel_rfl) (by kernel_rfl) ?_; simp only [pickL, List.map_cons, List.map_nil, List.getD_cons_succ, List.getD_cons_zero]
        go_wp2_with (at_builtin; refine wpList_app rfl _ _ 54 rfl (g7 + 1) 167 i0 _ 4 32 Try.underlying54 hi hiz hq1 hq2 hq3 (by decide) _ k _ rfl ObA'.out _ 1 1 _ rfl sA'.out ints_one (by omega) (by decide) hszA ?_; intro a5 c5 w9 ob9 hb9 hg9; have Ob9 := Lib.hid ob9; have Hb9 := Lib.hid hb9; clear ob9 hb9 hg9)
        have bX9 := bXA'.out.mono Hb9.out (Nat.lt_succ_self _); have bF9 := bFA'.out.mono Hb9.out (by omega); have hb9 := hbA'.out.trans (Hb9.out.mono (by omega)); have HS9 := Lib.hid (hsurj'.out _ ⟨hcl'.out w9 hb9, bX9.cell rfl⟩)
        first | refine Mid.mk ⟨fun _ => HS9.out, ?_⟩ | refine Mid.mk ?_
        refine till_one 30 1 (by kernel_rfl) (by kernel_rfl) ?_; simp only [pickL, List.map_cons, List.map_nil, List.getD_cons_succ, List.getD_cons_zero]
        go_wp2_with fail
        first | refine Mid.mk ⟨fun _ => HS9.out, ?_⟩ | refine Mid.mk ?_
        have p4 : w9.cell? ⟨g7, 2, none⟩ = some (.slice a3 k c3) := bX9.cell rfl; have y4 := bX9.frozen 2; have bX10 : Blk (w9.setCell ⟨g7, 2, none⟩ (.slice a5 (k + 1) c5)) g7 56 #[.int .i64 WW, .int .i64 HH, .slice a5 (k + 1) c5] := bX9.set 2 _; have hb10 := hb9.setCell (p := ⟨g7, 2, none⟩) (by show w.heap.size ≤ g7; omega) (.slice a5 (k + 1) c5); have bF10 : Blk (w9.setCell ⟨g7, 2, none⟩ (.slice a5 (k + 1) c5)) w.heap.size 56 #[.int .i64 0, .int .i64 0, .slice none 0 0] := bF9.set_other (g' := g7) (by omega) 2 (.slice a5 (k + 1) c5); have hbtX : But g7 w9 (w9.setCell ⟨g7, 2, none⟩ (.slice a5 (k + 1) c5)) := (But.refl g7 w9).set 2 _; have Ob10 := own_but Ob9.out hbtX (own_neB Ob9.out bX9 (by decide))
        have Ob11 : (w9.setCell ⟨g7, 2, none⟩ (.slice a5 (k + 1) c5)).ownsRow (g7 + 1) 167 4 (.slice a5 (k + 1) c5) (k + 1) (((cs.take (k + 1)).map cmpC).flatten) := by
          rw [hsn'.out, List.flatten_append]
          simpa using Ob10
        clear Ob10 hbtX bX9 bF9 hb9; have bX10' := Lib.hid bX10; have hb10' := Lib.hid hb10; have bF10' := Lib.hid bF10; have Ob11' := Lib.hid Ob11; clear bX10 hb10 bF10 Ob11; refine till_one 31 0 (by kernel_rfl) (by kernel_rfl) ?_; simp only [pickL, List.map_cons, List.map_nil, List.getD_cons_succ, List.getD_cons_zero]
        go_wp2_with fail
        first | refine Mid.mk ⟨fun h => (by simp [segL] at h), ?_⟩ | refine Mid.mk ?_
        refine till_last (by kernel_rfl) ?_; clear p4 y4 HS HSA HS9 u1 u2 u3 w1 w2 t1 t2 t3 i1 i2 i3 dlt
        go_wp2
        go_roundw
        case rel => exact ⟨k + 1, a5, c5, by omega, by go_num, bX10', Ob11', bF10', hb10'⟩
        case measure => simp [intOf]; omega
      · have hkN : k = N := by omega
        have dlt : decide (6 + 3 * (k : Int) < n) = false := by have := hnN'.out; simp; omega
        have Ob2 := Ob.out; rw [hkN, List.take_of_length_le (by rw [← hcs'.out, cmpsOf_len]; exact Nat.le_refl _)] at Ob2; have bX2 := bX.out; rw [hkN] at bX2; have hTe := hTe'.out; have hcsl : cs.length = N := by rw [← hcs'.out, cmpsOf_len]
        have hStr : StR cmpL 4 wr a3 N c3 cs := ⟨by rw [ints_flat]; exact (Sl.of_own Ob2).1, hcsl⟩; have HC := rcheck_any WW HH a3 N c3 cs wr hStr (by omega); obtain ⟨K, hK⟩ : ∃ K, frmE WW HH cs = K := ⟨_, rfl⟩; rw [hK] at HC hTe; have x0 : wr.cell? ⟨g7, 0, none⟩ = some (.int .i64 WW) := bX2.cell rfl; have x1 : wr.cell? ⟨g7, 1, none⟩ = some (.int .i64 HH) := bX2.cell rfl; have x2 : wr.cell? ⟨g7, 2, none⟩ = some (.slice a3 N c3) := bX2.cell rfl; clear hkN; have HC' := Lib.hid HC; have hTe' := Lib.hid hTe; have Ob2' := Lib.hid Ob2; have bX2' := Lib.hid bX2; have hStr' := Lib.hid hStr; have hK' := Lib.hid hK; have hcsl' := Lib.hid hcsl; clear HC hTe Ob2 bX2 hStr hK hcsl
        go_wp2_with fail
        clear x0 x1 x2; refine HC'.out.mono ?_; rintro e w8 ⟨rfl, hb8⟩; have bX8 := bX2'.out.late hb8; have bF8 := bF.out.late hb8; have Ob8 := own_later Ob2'.out hb8; have hbw8 := hbel.out.trans (hb8.mono hbel.out.size); clear hb8
        by_cases hK0 : K = 0
        · subst hK0
          have hT0 : T = (0, WW, HH, cs) := by rw [hTe'.out]; rfl
          obtain rfl := hT0; have x0 : w8.cell? ⟨g7, 0, none⟩ = some (.int .i64 WW) := bX8.cell rfl; have x1 : w8.cell? ⟨g7, 1, none⟩ = some (.int .i64 HH) := bX8.cell rfl; have x2 : w8.cell? ⟨g7, 2, none⟩ = some (.slice a3 N c3) := bX8.cell rfl; have hone : (#[.int .i64 WW, .int .i64 HH, .slice a3 N c3] : Array Value).all (·.oneCell') = true := by simp [Value.oneCell']
          have bz : Blk (w8.setRow w.heap.size #[.int .i64 WW, .int .i64 HH, .slice a3 N c3]) w.heap.size 56 #[.int .i64 WW, .int .i64 HH, .slice a3 N c3] := setRow_heap _ _ _ _ _ _ bF8; have hbz := rowBelow hbw8 (Nat.le_refl w.heap.size) #[.int .i64 WW, .int .i64 HH, .slice a3 N c3]; have hoz2 := own_mono (own_but Ob8 (but_row w.heap.size #[.int .i64 WW, .int .i64 HH, .slice a3 N c3]) (own_neB Ob8 bF8 (by decide))) (show w.heap.size ≤ g7 + 1 by omega); clear Ob8; have bz' := Lib.hid bz; have hbz' := Lib.hid hbz; have bF8' := Lib.hid bF8; have bX8' := Lib.hid bX8; have hoz2' := Lib.hid hoz2; have hone' := Lib.hid hone; clear bz hbz bF8 bX8 hoz2 hone
          go_wp2_with (refine wpList_store_row rfl 56 (.tmp 2) (.tmp 99) rfl w.heap.size #[.int .i64 WW, .int .i64 HH, .slice a3 N c3] rfl rfl 56 _ bF8'.out infoFr rfl hone'.out ?_)
          refine bodyPost_ret (results_blk_tmp rfl _ _ w.heap.size 56 #[.int .i64 WW, .int .i64 HH, .slice a3 N c3] _ rfl bz'.out Try.underlying56 rfl infoFr) rfl ?_; exact ⟨hbz'.out, a3, N, c3, rfl, hoz2'.out, hcsl'.out.symm⟩
        · have hT0 : T = (K, 0, 0, []) := by rw [hTe'.out, if_neg hK0]
          obtain rfl := hT0; have hnbK : (K != 0) = true := by simpa using hK0
          clear hK0 Ob8; have bz : Blk (w8.setRow w.heap.size #[.int .i64 0, .int .i64 0, .slice none 0 0]) w.heap.size 56 #[.int .i64 0, .int .i64 0, .slice none 0 0] := setRow_heap _ _ _ _ _ _ bF8; have hbz := rowBelow hbw8 (Nat.le_refl w.heap.size) #[.int .i64 0, .int .i64 0, .slice none 0 0]; have hBB := bF8; have bz' := Lib.hid bz; have hbz' := Lib.hid hbz; have hBB' := Lib.hid hBB; clear bz hbz hBB
          go_wp2_with (refine wpList_store_row rfl 56 (.tmp 2) (.tmp 97) rfl w.heap.size #[.int .i64 0, .int .i64 0, .slice none 0 0] rfl rfl 56 _ hBB'.out infoFr rfl zeroF_one ?_)
          refine bodyPost_ret (results_blk_tmp rfl _ _ w.heap.size 56 #[.int .i64 0, .int .i64 0, .slice none 0 0] _ rfl bz'.out Try.underlying56 rfl infoFr) rfl ?_; exact frame_no hbz'.out
end Go.Proofs.Ytpjopeojeglogaa
