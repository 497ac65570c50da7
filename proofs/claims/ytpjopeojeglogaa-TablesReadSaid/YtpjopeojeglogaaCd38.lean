/- Chapter 14: heads of scans read: the document. -/
import Derived.Test.YtpjopeojeglogaaCd34
namespace Go.Proofs.Ytpjopeojeglogaa
open Go.RowKit Tt
set_option linter.unusedVariables false
set_option linter.unusedSimpArgs false

theorem quo16 {x : Int} (h0 : 0 ≤ x) (h1 : x < 256) : Int.tdiv x 16 = x / 16 ∧ Int.tmod x 16 = x % 16 ∧ IntKind.i64.wrap (x / 16) = x / 16 :=
  ⟨Int.tdiv_eq_ediv_of_nonneg h0, Int.tmod_eq_emod_of_nonneg h0, by rw [IntKind.wrap_i64]; omega⟩
theorem drop3 {z : List Int} {i : Nat} (h : z.length = i + 3) : z.drop i = [z.getD i 0, z.getD (i + 1) 0, z.getD (i + 2) 0] := by
  have hl : (z.drop i).length = 3 := by rw [List.length_drop]; omega
  have g : ∀ j, z.getD (i + j) 0 = (z.drop i).getD j 0 := fun j => by
    rw [List.getD_eq_getElem?_getD, List.getD_eq_getElem?_getD, List.getElem?_drop]
  have g0 := g 0; rw [Nat.add_zero] at g0; rw [g0, g 1, g 2]
  generalize z.drop i = l at hl
  match l, hl with
  | [a, b, c], _ => rfl
set_option maxRecDepth 20000 in
set_option maxHeartbeats 4000000 in
theorem rreadHead_any (a : Option Addr) (n c : Nat) (z : List Int) (w : World) (hs : Sl w a n c 1 (ints .u8 z)) (hz : Byt z) (hn : n ≤ 100000) :
    Calls Try.prog 56 #[.slice a n c] w (Read0 169 3 useC (rhS z) w) := by
  obtain ⟨i0, zq, hi, hiz, hq1, hq2, hq3⟩ := info_ofz infoU2 infoU3; have hzl := hs.ilen; have hbe := Below.refl w.heap.size w; obtain ⟨T, hT⟩ : ∃ T, rhS z = T := ⟨_, rfl⟩; rw [hT]
  by_cases hn0 : n = 0
  · obtain rfl : T = (3, []) := by rw [← hT]; unfold rhS; rw [if_pos (by left; omega)]
    subst hn0; have hs' := Lib.hid hs; have hz' := Lib.hid hz; have hzl' := Lib.hid hzl; have hbe' := Lib.hid hbe; have hT' := Lib.hid hT; clear hs hz hzl hbe hT
    go_enter Try.func56, Try.ntmps56
    go_wp2
    go_ret2
    exact ⟨hbe'.out, none, 0, 0, rfl, own_nil _ _ _ _, rfl⟩
  have hnb0 : ((n : Int) == 0) = false := by simp; omega
  obtain ⟨bb, o, rfl, hbb, fw⟩ := hs.at (show 0 < n by omega); have hz0 := hz.get 0; obtain ⟨x0, hx0⟩ : ∃ x, z.getD 0 0 = x := ⟨_, rfl⟩; have f0 : w.cell? ⟨bb, o, none⟩ = some (.int .u8 x0) := fw 0 _ (by rw [ints_get (by omega), hx0]); rw [hx0] at hz0; obtain ⟨hz0a, hz0b⟩ := hz0; obtain ⟨N, rfl⟩ : ∃ N : Nat, x0 = N := ⟨x0.toNat, by omega⟩; have hnB : nB z 0 = N := by unfold nB; rw [hx0]; exact Int.toNat_natCast N
  have hw1 : IntKind.i64.wrap (2 * (N : Int)) = 2 * N := by rw [IntKind.wrap_i64]; omega
  have hw2 : IntKind.i64.wrap (4 + 2 * (N : Int)) = 4 + 2 * N := by rw [IntKind.wrap_i64]; omega
  have hw3 : IntKind.i64.wrap (1 + 2 * (N : Int)) = 1 + 2 * N := by rw [IntKind.wrap_i64]; omega
  by_cases hn1 : n < 4 + 2 * N
  · obtain rfl : T = (3, []) := by rw [← hT]; unfold rhS; rw [hnB, if_pos (by right; omega)]
    have d1 : decide ((n : Int) < 4 + 2 * N) = true := by simp; omega
    have hs' := Lib.hid hs; have hz' := Lib.hid hz; have hzl' := Lib.hid hzl; have hbe' := Lib.hid hbe; have hT' := Lib.hid hT; have hnB' := Lib.hid hnB; have hx0' := Lib.hid hx0; have fw' := Lib.hid fw; clear hs hz hzl hbe hT hnB hx0 fw
    go_enter Try.func56, Try.ntmps56
    go_wp2
    go_ret2
    exact ⟨hbe'.out, none, 0, 0, rfl, own_nil _ _ _ _, rfl⟩
  have d1 : decide ((n : Int) < 4 + 2 * N) = false := by simp; omega
  have hTe : T = if (usesOk (usesOf N (z.drop 1)) && (z.drop (1 + 2 * N) == [0, 63, 0])) = true then (0, usesOf N (z.drop 1)) else (2, []) := by
    rw [← hT]; unfold rhS; rw [hnB, if_neg (by omega)]
  obtain ⟨us, hus⟩ : ∃ us, usesOf N (z.drop 1) = us := ⟨_, rfl⟩; have hul : us.length = N := by rw [← hus]; exact usesOf_len _ _
  rw [hus] at hTe
  have hget : ∀ k, k < N → us[k]? = some (z.getD (1 + 2 * k) 0, z.getD (2 + 2 * k) 0 / 16, z.getD (2 + 2 * k) 0 % 16) := fun k hk => by
    rw [← hus, usesOf_get N k _ hk]; simp only [List.getD_eq_getElem?_getD, List.getElem?_drop]; rw [show 1 + (2 * k + 1) = 2 + 2 * k by omega]
  have hs' := Lib.hid hs; have hz' := Lib.hid hz; have hzl' := Lib.hid hzl; have hbe' := Lib.hid hbe; have hT' := Lib.hid hT; have hnB' := Lib.hid hnB; have hx0' := Lib.hid hx0; have fw' := Lib.hid fw; have hTe' := Lib.hid hTe; have hus' := Lib.hid hus; have hul' := Lib.hid hul; have hget' := Lib.hid hget; clear hs hz hzl hbe hT hnB hx0 fw hTe hus hul hget
  go_enter Try.func56, Try.ntmps56
  go_wp2
  go_loopw [5, 6] (fun bv iv wr => ∃ (k : Nat) (a3 : Option Addr) (c3 : Nat), k ≤ N ∧ iv = .int .i64 k ∧ bv = .slice a3 k c3 ∧ Hid (wr.ownsRow w.heap.size 169 3 (.slice a3 k c3) k (((us.take k).map useC).flatten)) ∧ Hid (Below w.heap.size w wr)) (fun _ iv _ => N - (intOf iv).toNat)
  case atStart => exact ⟨0, none, 0, by omega, rfl, rfl, Lib.hid (own_nil _ _ _ _), hbe'⟩
  case round =>
    obtain ⟨k, a3, c3, hk, rfl, rfl, Ob, hbel⟩ := hrel
    by_cases hlt : k < N
    · have hu := hget'.out k hlt
      have hy1 := hz'.out.get (1 + 2 * k); have hy2 := hz'.out.get (2 + 2 * k); obtain ⟨y1, hy1e⟩ : ∃ y, z.getD (1 + 2 * k) 0 = y := ⟨_, rfl⟩; obtain ⟨y2, hy2e⟩ : ∃ y, z.getD (2 + 2 * k) 0 = y := ⟨_, rfl⟩
      have hcl : ∀ W, Below w.heap.size w W → W.cell? ⟨bb, o + (1 + 2 * k), none⟩ = some (.int .u8 y1) ∧ W.cell? ⟨bb, o + (2 + 2 * k), none⟩ = some (.int .u8 y2) := fun W hW =>
        ⟨(hW.cell (p := ⟨bb, o + (1 + 2 * k), none⟩) hbb).trans (fw'.out (1 + 2 * k) _ (by rw [ints_get (by have := hzl'.out; omega), hy1e])), (hW.cell (p := ⟨bb, o + (2 + 2 * k), none⟩) hbb).trans (fw'.out (2 + 2 * k) _ (by rw [ints_get (by have := hzl'.out; omega), hy2e]))⟩
      rw [hy1e, hy2e] at hu; rw [hy1e] at hy1; rw [hy2e] at hy2; obtain ⟨p1, p2⟩ := hy1; obtain ⟨p3, p4⟩ := hy2; obtain ⟨u1, u2, u3⟩ := quo16 p3 p4; have hsn := map_take_snoc (f := useC) hu; obtain ⟨w3, hw3⟩ : ∃ w3, wr.drew = w3 := ⟨_, rfl⟩; have hd3 := (Below.refl wr.heap.size wr).drew; rw [hw3] at hd3; have hbw3 := hbel.out.trans (hd3.mono hbel.out.size); have Ob3 := own_later Ob.out hd3; have hsz3 := hbw3.size; obtain ⟨Ty, ff, hne, qq, hsurj⟩ := pr_worlds (fun W => W.cell? ⟨bb, o + (1 + 2 * k), none⟩ = some (.int .u8 y1) ∧ W.cell? ⟨bb, o + (2 + 2 * k), none⟩ = some (.int .u8 y2)) w3 (hcl w3 hbw3); have q0 := fun s => (qq s).1; have q1 := fun s => (qq s).2; have hal4 := (Below.refl w3.heap.size w3).alloc (Nat.le_refl _) (.cells #[.int .i64 y1, .int .i64 (y2 / 16), .int .i64 (y2 % 16)] 169); have hbw4 := hbw3.trans (hal4.mono hsz3); have Ob4 := own_later Ob3 hal4; have s4 : Sl (w3.alloc (.cells #[.int .i64 y1, .int .i64 (y2 / 16), .int .i64 (y2 % 16)] 169)) (some ⟨w3.heap.size, 0, none⟩) 1 1 3 (useC (y1, y2 / 16, y2 % 16)) := Sl.new w3 169 3 1 #[.int .i64 y1, .int .i64 (y2 / 16), .int .i64 (y2 % 16)] (0, 0) (by omega) rfl; obtain ⟨w4, hw4⟩ : ∃ w4, w3.alloc (.cells #[.int .i64 y1, .int .i64 (y2 / 16), .int .i64 (y2 % 16)] 169) = w4 := ⟨_, rfl⟩; rw [hw4] at hbw4 Ob4 s4; have hsz4 := hbw4.size; have HS := Lib.hid (hsurj _ (hcl w3 hbw3)); have HS4 := Lib.hid (hsurj _ (hcl w4 hbw4)); have v1 : IntKind.i64.wrap (2 * (k : Int)) = 2 * k := by rw [IntKind.wrap_i64]; omega
      have v2 : IntKind.i64.wrap (1 + 2 * (k : Int)) = 1 + 2 * k := by rw [IntKind.wrap_i64]; omega
      have v3 : IntKind.i64.wrap (2 + 2 * (k : Int)) = 2 + 2 * k := by rw [IntKind.wrap_i64]; omega
      have t2 : (1 + 2 * (k : Int)).toNat = 1 + 2 * k := by omega
      have t3 : (2 + 2 * (k : Int)).toNat = 2 + 2 * k := by omega
      clear qq hal4; have hu' := Lib.hid hu; have hy1e' := Lib.hid hy1e; have hy2e' := Lib.hid hy2e; have hsn' := Lib.hid hsn; have hw3' := Lib.hid hw3; have hd3' := Lib.hid hd3; have hbw3' := Lib.hid hbw3; have Ob3' := Lib.hid Ob3; have hsz3' := Lib.hid hsz3; have hcl' := Lib.hid hcl; have hsurj' := Lib.hid hsurj; have hbw4' := Lib.hid hbw4; have Ob4' := Lib.hid Ob4; have s4' := Lib.hid s4; have hw4' := Lib.hid hw4; have hsz4' := Lib.hid hsz4; clear hu hy1e hy2e hsn hw3 hd3 hbw3 Ob3 hsz3 hcl hsurj hbw4 Ob4 s4 hw4 hsz4
      go_wp2
      refine held_begin (S := fun W => ∃ s, W = ff s) (by kernel_rfl) 28 rfl ?_; rw [hw3'.out]; refine held_take [0, 1, 2, 3, 4, 5, 6, 7, 8, 9, 10, 11, 12, 13, 14, 15, 16, 17, 18, 19, 20, 21, 22, 23] 4 (by kernel_rfl) (fun d _ _ _ _ h => by cases d <;> exact h) (by kernel_rfl) (by kernel_rfl) (by kernel_rfl) HS.out ?_; simp only [pickL, List.map_cons, List.map_nil, List.getD_cons_succ, List.getD_cons_zero]
      iterate 24 (go_big_quiet_step (fail))
      refine wpQuiet_nil ?_; refine held_one 24 3 (by kernel_rfl) (by kernel_rfl) ?_; simp only [pickL, List.map_cons, List.map_nil, List.getD_cons_succ, List.getD_cons_zero]
      go_wp2_with fail
      first | refine Mid.mk ⟨HS.out, ?_⟩ | refine Mid.mk ?_
      refine held_one 25 2 (by kernel_rfl) (by kernel_rfl) ?_; simp only [pickL, List.map_cons, List.map_nil, List.getD_cons_succ, List.getD_cons_zero]
      go_wp2_with fail
      rw [hw4'.out]
      first | refine Mid.mk ⟨HS4.out, ?_⟩ | refine Mid.mk ?_
      clear q0 q1 hne; refine held_one 26 1 (by kernel_rfl) (by kernel_rfl) ?_; simp only [pickL, List.map_cons, List.map_nil, List.getD_cons_succ, List.getD_cons_zero]
      go_wp2_with (at_builtin; refine wpList_app rfl _ _ 57 rfl w.heap.size 169 i0 _ 3 24 Try.underlying57 hi hiz hq1 hq2 hq3 (by decide) _ k _ rfl Ob4'.out _ 1 1 _ rfl s4'.out ints_one (by omega) (by decide) hsz4'.out ?_; intro a5 c5 w5 ob5 hb5 hg5; have Ob5 := Lib.hid ob5; have Hb5 := Lib.hid (hbw4'.out.trans hb5); have HS5 := Lib.hid (hsurj'.out _ (hcl'.out w5 (hbw4'.out.trans hb5))); clear ob5 hb5 hg5)
      first | refine Mid.mk ⟨HS5.out, ?_⟩ | refine Mid.mk ?_
      refine held_one 27 0 (by kernel_rfl) (by kernel_rfl) ?_; simp only [pickL, List.map_cons, List.map_nil, List.getD_cons_succ, List.getD_cons_zero]
      go_wp2_with fail
      first | refine Mid.mk ⟨HS5.out, ?_⟩ | refine Mid.mk ?_
      refine held_last (by kernel_rfl) ?_; clear HS HS4 HS5 v1 v2 v3 t2 t3 u1 u2 u3
      go_wp2
      go_roundw
      case rel => exact ⟨k + 1, a5, c5, by omega, by go_num, rfl, Lib.hid (by rw [hsn'.out, List.flatten_append]; simpa using Ob5.out), Hb5⟩
      case measure => simp [intOf]; omega
    · have hkN : k = N := by omega
      have Ob2 := Ob.out; rw [hkN, List.take_of_length_le (by rw [hul'.out]; exact Nat.le_refl _)] at Ob2; rw [hkN]; have hU : StR useL 3 wr a3 N c3 us := ⟨by rw [ints_flat]; exact (Sl.of_own Ob2).1, hul'.out⟩; have hTe := hTe'.out
      by_cases h4 : 4 + 2 * N < n
      · have d2 : decide (4 + 2 * (N : Int) < n) = true := by simp; omega
        have hne : (z.drop (1 + 2 * N) == [0, 63, 0]) = false := by
          rw [beq_eq_false_iff_ne]; intro h; have := congrArg List.length h; rw [List.length_drop, hzl'.out] at this
          simp at this
          omega
        rw [hne, Bool.and_false] at hTe; obtain rfl : T = (2, []) := hTe; clear hne; have Ob2' := Lib.hid Ob2; have hkN' := Lib.hid hkN; have hU' := Lib.hid hU; clear Ob2 hkN hU
        go_wp2
        go_ret2
        exact ⟨hbel.out, none, 0, 0, rfl, own_nil _ _ _ _, rfl⟩
      have d2 : decide (4 + 2 * (N : Int) < n) = false := by simp; omega
      have HU := ruses_any a3 N c3 us wr hU (by omega); obtain ⟨r, hr⟩ : ∃ r, usesOk us = r := ⟨_, rfl⟩; rw [hr] at HU hTe; rw [drop3 (i := 1 + 2 * N) (by rw [hzl'.out]; omega)] at hTe; have g1 := hz'.out.get (1 + 2 * N); have g2 := hz'.out.get (1 + 2 * N + 1); have g3 := hz'.out.get (1 + 2 * N + 2); obtain ⟨y1, hy1⟩ : ∃ y, z.getD (1 + 2 * N) 0 = y := ⟨_, rfl⟩; obtain ⟨y2, hy2⟩ : ∃ y, z.getD (1 + 2 * N + 1) 0 = y := ⟨_, rfl⟩; obtain ⟨y3, hy3⟩ : ∃ y, z.getD (1 + 2 * N + 2) 0 = y := ⟨_, rfl⟩; rw [hy1, hy2, hy3] at hTe
      have hcl : ∀ W, Below w.heap.size w W → W.cell? ⟨bb, o + (1 + 2 * N), none⟩ = some (.int .u8 y1) ∧ W.cell? ⟨bb, o + (1 + 2 * N + 1), none⟩ = some (.int .u8 y2) ∧ W.cell? ⟨bb, o + (1 + 2 * N + 2), none⟩ = some (.int .u8 y3) := fun W hW =>
        ⟨(hW.cell (p := ⟨bb, o + (1 + 2 * N), none⟩) hbb).trans (fw'.out (1 + 2 * N) _ (by rw [ints_get (by have := hzl'.out; omega), hy1])), (hW.cell (p := ⟨bb, o + (1 + 2 * N + 1), none⟩) hbb).trans (fw'.out (1 + 2 * N + 1) _ (by rw [ints_get (by have := hzl'.out; omega), hy2])), (hW.cell (p := ⟨bb, o + (1 + 2 * N + 2), none⟩) hbb).trans (fw'.out (1 + 2 * N + 2) _ (by rw [ints_get (by have := hzl'.out; omega), hy3]))⟩
      have v1 : IntKind.i64.wrap (1 + 2 * (N : Int) + 1) = 1 + 2 * N + 1 := by rw [IntKind.wrap_i64]; omega
      have v2 : IntKind.i64.wrap (1 + 2 * (N : Int) + 2) = 1 + 2 * N + 2 := by rw [IntKind.wrap_i64]; omega
      have t1 : (1 + 2 * (N : Int)).toNat = 1 + 2 * N := by omega
      have t2 : (1 + 2 * (N : Int) + 1).toNat = 1 + 2 * N + 1 := by omega
      have t3 : (1 + 2 * (N : Int) + 2).toNat = 1 + 2 * N + 2 := by omega
      have Ob2' := Lib.hid Ob2; have HU' := Lib.hid HU; have hr' := Lib.hid hr; have hTe' := Lib.hid hTe; have hkN' := Lib.hid hkN; have hU' := Lib.hid hU; have hcl' := Lib.hid hcl; have hy1' := Lib.hid hy1; have hy2' := Lib.hid hy2; have hy3' := Lib.hid hy3; clear Ob2 HU hr hTe hkN hU hcl hy1 hy2 hy3
      go_wp2_with fail
      refine HU'.out.mono ?_; rintro e w2 ⟨rfl, hb2⟩; have hbw2 := hbel.out.trans (hb2.mono hbel.out.size); have Ob3 := own_later Ob2'.out hb2; have hTe := hTe'.out; obtain ⟨c1, c2, c3x⟩ := hcl'.out w2 hbw2; clear hb2
      cases r with
      | false =>
        obtain rfl : T = (2, []) := hTe; have hbw2' := Lib.hid hbw2; have Ob3' := Lib.hid Ob3; clear hbw2 Ob3
        go_wp2
        go_ret2
        exact ⟨hbw2'.out, none, 0, 0, rfl, own_nil _ _ _ _, rfl⟩
      | true =>
        rw [Bool.true_and] at hTe
        by_cases e1 : y1 = 0
        · by_cases e2 : y2 = 63
          · by_cases e3 : y3 = 0
            · obtain rfl : T = (0, us) := by rw [hTe, e1, e2, e3]; rfl
              have n1 : (y1 != 0) = false := by simp [e1]
              have n2 : (y2 != 63) = false := by simp [e2]
              have n3 : (y3 != 0) = false := by simp [e3]
              clear hTe e1 e2 e3; have hbw2' := Lib.hid hbw2; have Ob3' := Lib.hid Ob3; clear hbw2 Ob3
              go_wp2
              go_ret2
              exact ⟨hbw2'.out, a3, N, c3, rfl, Ob3'.out, hul'.out.symm⟩
            · obtain rfl : T = (2, []) := by rw [hTe, if_neg]; rw [beq_iff_eq]; intro h; simp at h; exact e3 h.2.2
              have n1 : (y1 != 0) = false := by simp [e1]
              have n2 : (y2 != 63) = false := by simp [e2]
              have n3 : (y3 != 0) = true := by simpa using e3
              clear hTe e1 e2 e3; have hbw2' := Lib.hid hbw2; have Ob3' := Lib.hid Ob3; clear hbw2 Ob3
              go_wp2
              go_ret2
              exact ⟨hbw2'.out, none, 0, 0, rfl, own_nil _ _ _ _, rfl⟩
          · obtain rfl : T = (2, []) := by rw [hTe, if_neg]; rw [beq_iff_eq]; intro h; simp at h; exact e2 h.2.1
            have n1 : (y1 != 0) = false := by simp [e1]
            have n2 : (y2 != 63) = true := by simpa using e2
            clear hTe e1 e2; have hbw2' := Lib.hid hbw2; have Ob3' := Lib.hid Ob3; clear hbw2 Ob3
            go_wp2
            go_ret2
            exact ⟨hbw2'.out, none, 0, 0, rfl, own_nil _ _ _ _, rfl⟩
        · obtain rfl : T = (2, []) := by rw [hTe, if_neg]; rw [beq_iff_eq]; intro h; simp at h; exact e1 h.1
          have n1 : (y1 != 0) = true := by simpa using e1
          clear hTe e1; have hbw2' := Lib.hid hbw2; have Ob3' := Lib.hid Ob3; clear hbw2 Ob3
          go_wp2
          go_ret2
          exact ⟨hbw2'.out, none, 0, 0, rfl, own_nil _ _ _ _, rfl⟩
end Go.Proofs.Ytpjopeojeglogaa
