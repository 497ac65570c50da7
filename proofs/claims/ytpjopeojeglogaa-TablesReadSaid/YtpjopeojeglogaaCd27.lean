/- Chapter 14: a scan's head read: the program. -/
import Derived.Test.YtpjopeojeglogaaCd26
import Derived.Test.YtpjopeojeglogaaCd20
namespace Go.Proofs.Ytpjopeojeglogaa
open Go.RowKit Tt
set_option linter.unusedVariables false
set_option linter.unusedSimpArgs false

theorem and15_fin : ∀ a : Fin 256, bits BinOp.and IntKind.u8 (a.val : Int) 15 = (a.val : Int) % 16 := by decide +kernel
theorem and15 {a : Int} (h1 : 0 ≤ a) (h2 : a < 256) : bits BinOp.and IntKind.u8 a 15 = a % 16 := by
  have h := and15_fin ⟨a.toNat, by omega⟩
  simpa [Int.toNat_of_nonneg h1] using h
theorem usesOf_get : ∀ (n k : Nat) (b : List Int), k < n → (usesOf n b)[k]? = some (b.getD (2 * k) 0, b.getD (2 * k + 1) 0 / 16, b.getD (2 * k + 1) 0 % 16)
  | 0, _, _, h => by omega
  | n + 1, 0, b, _ => rfl
  | n + 1, k + 1, b, h => by
    show (usesOf n (b.drop 2))[k]? = _
    rw [usesOf_get n k (b.drop 2) (by omega)]; simp only [List.getD_eq_getElem?_getD, List.getElem?_drop]; rw [show 2 + 2 * k = 2 * (k + 1) by omega, show 2 + (2 * k + 1) = 2 * (k + 1) + 1 by omega]
def Read0 {α : Type} (E : TypeId) (sz : Nat) (C : α → List Value) (t : Int × List α) (w : World) (e : Ending) (w' : World) : Prop :=
  Below w.heap.size w w' ∧ ∃ a m c, e = .returned (.tuple #[.slice a m c, .int .i64 t.1]) ∧ w'.ownsRow w.heap.size E sz (.slice a m c) m ((t.2.map C).flatten) ∧ m = t.2.length
def useC (u : Use3) : List Value := ints .i64 (useL u)
theorem infoU2 : (Try.prog.info? 169).map (fun i => (i.size, i.bytes)) = some (3, 24) := by kernel_rfl
theorem infoU3 : (Try.prog.info? 169).map (fun i => i.zero.map (fun z => z.cells.size)) = some (some 3) := by kernel_rfl
set_option maxRecDepth 20000 in
set_option maxHeartbeats 4000000 in
theorem readHead_any (a : Option Addr) (n c : Nat) (z : List Int) (w : World) (hs : Sl w a n c 1 (ints .u8 z)) (hz : Byt z) (hn : n ≤ 100000) :
    Calls Try.prog 55 #[.slice a n c] w (Read0 169 3 useC (rhS z) w) := by
  obtain ⟨i0, zq, hi, hiz, hq1, hq2, hq3⟩ := info_ofz infoU2 infoU3; have hzl := hs.ilen; have hbe := Below.refl w.heap.size w; obtain ⟨T, hT⟩ : ∃ T, rhS z = T := ⟨_, rfl⟩; rw [hT]
  by_cases hn0 : n < 1
  · obtain rfl : T = (3, []) := by rw [← hT]; unfold rhS; rw [if_pos (by left; omega)]
    have hs' := Lib.hid hs; have hz' := Lib.hid hz; have hzl' := Lib.hid hzl; have hbe' := Lib.hid hbe; have hT' := Lib.hid hT; clear hs hz hzl hbe hT
    go_enter Try.func55, Try.ntmps55
    go_wp2
    go_ret2
    exact ⟨hbe'.out, none, 0, 0, rfl, own_nil _ _ _ _, rfl⟩
  obtain ⟨bb, o, rfl, hbb, fw⟩ := hs.at (show 0 < n by omega); have hz0 := hz.get 0; obtain ⟨x0, hx0⟩ : ∃ x, z.getD 0 0 = x := ⟨_, rfl⟩; have f0 : w.cell? ⟨bb, o, none⟩ = some (.int .u8 x0) := fw 0 _ (by rw [ints_get (by omega), hx0]); rw [hx0] at hz0; obtain ⟨hz0a, hz0b⟩ := hz0; obtain ⟨N, rfl⟩ : ∃ N : Nat, x0 = N := ⟨x0.toNat, by omega⟩; have hnB : nB z 0 = N := by unfold nB; rw [hx0]; exact Int.toNat_natCast N
  have hw1 : IntKind.i64.wrap (2 * (N : Int)) = 2 * N := by rw [IntKind.wrap_i64]; omega
  have hw2 : IntKind.i64.wrap (4 + 2 * (N : Int)) = 4 + 2 * N := by rw [IntKind.wrap_i64]; omega
  by_cases hn1 : n < 4 + 2 * N
  · obtain rfl : T = (3, []) := by rw [← hT]; unfold rhS; rw [hnB, if_pos (by right; omega)]
    have d1 : decide ((n : Int) < 4 + 2 * N) = true := by simp; omega
    have hs' := Lib.hid hs; have hz' := Lib.hid hz; have hzl' := Lib.hid hzl; have hbe' := Lib.hid hbe; have hT' := Lib.hid hT; have hnB' := Lib.hid hnB; have hx0' := Lib.hid hx0; have fw' := Lib.hid fw; clear hs hz hzl hbe hT hnB hx0 fw
    go_enter Try.func55, Try.ntmps55
    go_wp2
    go_ret2
    exact ⟨hbe'.out, none, 0, 0, rfl, own_nil _ _ _ _, rfl⟩
  have d1 : decide ((n : Int) < 4 + 2 * N) = false := by simp; omega
  have hTe : T = if (usesOk (usesOf N (z.drop 1)) && (z.drop (1 + 2 * N) == [0, 63, 0])) = true then (0, usesOf N (z.drop 1)) else (2, []) := by
    rw [← hT]; unfold rhS; rw [hnB, if_neg (by omega)]
  obtain ⟨us, hus⟩ : ∃ us, usesOf N (z.drop 1) = us := ⟨_, rfl⟩; have hul : us.length = N := by rw [← hus]; exact usesOf_len _ _
  rw [hus] at hTe
  have hget : ∀ k, k < N → us[k]? = some (z.getD (1 + 2 * k) 0, z.getD (2 + 2 * k) 0 / 16, z.getD (2 + 2 * k) 0 % 16) := fun k hk => by
    rw [← hus, usesOf_get N k _ hk]; simp only [List.getD_eq_getElem?_getD, List.getElem?_drop]; rw [show 1 + (2 * k + 1) = 2 + 2 * k by omega]
  have hs' := Lib.hid hs; have hz' := Lib.hid hz; have hzl' := Lib.hid hzl; have hbe' := Lib.hid hbe; have hT' := Lib.hid hT; have hnB' := Lib.hid hnB; have hx0' := Lib.hid hx0; have fw' := Lib.hid fw; have hTe' := Lib.hid hTe; have hus' := Lib.hid hus; have hul' := Lib.hid hul; have hget' := Lib.hid hget; clear hs hz hzl hbe hT hnB hx0 fw hTe hus hul hget
  go_enter Try.func55, Try.ntmps55
  go_wp2
  go_loopw [4, 5, 24] (fun bv _ iv wr => ∃ (k : Nat) (a3 : Option Addr) (c3 : Nat), k ≤ N ∧ iv = .int .i64 k ∧ bv = .slice a3 k c3 ∧ Hid (wr.ownsRow w.heap.size 169 3 (.slice a3 k c3) k (((us.take k).map useC).flatten)) ∧ Hid (Below w.heap.size w wr)) (fun _ _ iv _ => N - (intOf iv).toNat)
  case atStart => exact ⟨0, none, 0, by omega, rfl, rfl, Lib.hid (own_nil _ _ _ _), hbe'⟩
  case round =>
    obtain ⟨k, a3, c3, hk, rfl, rfl, Ob, hbel⟩ := hrel
    by_cases hlt : k < N
    · have hu := hget'.out k hlt
      have hy1 := hz'.out.get (1 + 2 * k); have hy2 := hz'.out.get (2 + 2 * k); obtain ⟨y1, hy1e⟩ : ∃ y, z.getD (1 + 2 * k) 0 = y := ⟨_, rfl⟩; obtain ⟨y2, hy2e⟩ : ∃ y, z.getD (2 + 2 * k) 0 = y := ⟨_, rfl⟩
      have hcl : ∀ W, Below w.heap.size w W → W.cell? ⟨bb, o + (1 + 2 * k), none⟩ = some (.int .u8 y1) ∧ W.cell? ⟨bb, o + (2 + 2 * k), none⟩ = some (.int .u8 y2) := fun W hW =>
        ⟨(hW.cell (p := ⟨bb, o + (1 + 2 * k), none⟩) hbb).trans (fw'.out (1 + 2 * k) _ (by rw [ints_get (by have := hzl'.out; omega), hy1e])), (hW.cell (p := ⟨bb, o + (2 + 2 * k), none⟩) hbb).trans (fw'.out (2 + 2 * k) _ (by rw [ints_get (by have := hzl'.out; omega), hy2e]))⟩
      rw [hy1e, hy2e] at hu; rw [hy1e] at hy1; rw [hy2e] at hy2; obtain ⟨p1, p2⟩ := hy1; obtain ⟨p3, p4⟩ := hy2; have ha := and15 p3 p4; have hsn := map_take_snoc (f := useC) hu; obtain ⟨w3, hw3⟩ : ∃ w3, wr.drew = w3 := ⟨_, rfl⟩; have hd3 := (Below.refl wr.heap.size wr).drew; rw [hw3] at hd3; have hbw3 := hbel.out.trans (hd3.mono hbel.out.size); have Ob3 := own_later Ob.out hd3; have hsz3 := hbw3.size; obtain ⟨Ty, ff, hne, qq, hsurj⟩ := pr_worlds (fun W => W.cell? ⟨bb, o + (1 + 2 * k), none⟩ = some (.int .u8 y1) ∧ W.cell? ⟨bb, o + (2 + 2 * k), none⟩ = some (.int .u8 y2)) w3 (hcl w3 hbw3); have q0 := fun s => (qq s).1; have q1 := fun s => (qq s).2; have hal4 := (Below.refl w3.heap.size w3).alloc (Nat.le_refl _) (.cells #[.int .i64 y1, .int .i64 (y2 / 16), .int .i64 (y2 % 16)] 169); have hbw4 := hbw3.trans (hal4.mono hsz3); have Ob4 := own_later Ob3 hal4; have s4 : Sl (w3.alloc (.cells #[.int .i64 y1, .int .i64 (y2 / 16), .int .i64 (y2 % 16)] 169)) (some ⟨w3.heap.size, 0, none⟩) 1 1 3 (useC (y1, y2 / 16, y2 % 16)) := Sl.new w3 169 3 1 #[.int .i64 y1, .int .i64 (y2 / 16), .int .i64 (y2 % 16)] (0, 0) (by omega) rfl; obtain ⟨w4, hw4⟩ : ∃ w4, w3.alloc (.cells #[.int .i64 y1, .int .i64 (y2 / 16), .int .i64 (y2 % 16)] 169) = w4 := ⟨_, rfl⟩; rw [hw4] at hbw4 Ob4 s4; have hsz4 := hbw4.size; have HS := Lib.hid (hsurj _ (hcl w3 hbw3)); have HS4 := Lib.hid (hsurj _ (hcl w4 hbw4)); have v1 : IntKind.i64.wrap (2 * (k : Int)) = 2 * k := by rw [IntKind.wrap_i64]; omega
      have v2 : IntKind.i64.wrap (1 + 2 * (k : Int)) = 1 + 2 * k := by rw [IntKind.wrap_i64]; omega
      have v3 : IntKind.i64.wrap (2 + 2 * (k : Int)) = 2 + 2 * k := by rw [IntKind.wrap_i64]; omega
      have t2 : (1 + 2 * (k : Int)).toNat = 1 + 2 * k := by omega
      have t3 : (2 + 2 * (k : Int)).toNat = 2 + 2 * k := by omega
      clear qq hal4; have hu' := Lib.hid hu; have hy1e' := Lib.hid hy1e; have hy2e' := Lib.hid hy2e; have hsn' := Lib.hid hsn; have hw3' := Lib.hid hw3; have hd3' := Lib.hid hd3; have hbw3' := Lib.hid hbw3; have Ob3' := Lib.hid Ob3; have hsz3' := Lib.hid hsz3; have hcl' := Lib.hid hcl; have hsurj' := Lib.hid hsurj; have hbw4' := Lib.hid hbw4; have Ob4' := Lib.hid Ob4; have s4' := Lib.hid s4; have hw4' := Lib.hid hw4; have hsz4' := Lib.hid hsz4; clear hu hy1e hy2e hsn hw3 hd3 hbw3 Ob3 hsz3 hcl hsurj hbw4 Ob4 s4 hw4 hsz4
      go_wp2
      refine held_begin (S := fun W => ∃ s, W = ff s) (by kernel_rfl) 28 rfl ?_; rw [hw3'.out]; refine held_take [0, 1, 2, 3, 4, 5, 6, 7, 8, 9, 10, 11, 12, 13, 14, 15, 16, 17, 18, 19, 20, 21, 22, 23] 4 (by kernel_rfl) (fun d _ _ _ _ h => by cases d <;> exact h) (by kernel_rfl) (by kernel_rfl) (by kernel_rfl) HS.out ?_; simp only [pickL, List.map_cons, List.map_nil, List.getD_cons_succ, List.getD_cons_zero]
      iterate 24 (go_big_quiet_step (fail))
      refine wpQuiet_nil ?_; refine held_one 24 3 (by kernel_rfl) (by kernel_rfl) ?_; simp only [pickL, List.map_cons, List.map_nil, List.getD_cons_succ, List.getD_cons_zero]
      go_wp2_with fail
      first | refine Mid.mk ⟨HS.out, ?_⟩ | refine Mid.mk ?_
      refine held_one 25 2 (by kernel_rfl) (by kernel_rfl) ?_; simp only [pickL, List.map_cons, List.map_nil, List.getD_cons_succ, List.getD_cons_zero]
      go_wp2_with fail
      rw [hw4'.out]
      first | refine Mid.mk ⟨HS4.out, ?_⟩ | refine Mid.mk ?_
      clear q0 q1 hne; refine held_one 26 1 (by kernel_rfl) (by kernel_rfl) ?_; simp only [pickL, List.map_cons, List.map_nil, List.getD_cons_succ, List.getD_cons_zero]
      go_wp2_with (at_builtin; refine wpList_app rfl _ _ 57 rfl w.heap.size 169 i0 _ 3 24 Try.underlying57 hi hiz hq1 hq2 hq3 (by decide) _ k _ rfl Ob4'.out _ 1 1 _ rfl s4'.out ints_one (by omega) (by decide) hsz4'.out ?_; intro a5 c5 w5 ob5 hb5 hg5; have Ob5 := Lib.hid ob5; have Hb5 := Lib.hid (hbw4'.out.trans hb5); have HS5 := Lib.hid (hsurj'.out _ (hcl'.out w5 (hbw4'.out.trans hb5))); clear ob5 hb5 hg5)
      first | refine Mid.mk ⟨HS5.out, ?_⟩ | refine Mid.mk ?_
      refine held_one 27 0 (by kernel_rfl) (by kernel_rfl) ?_; simp only [pickL, List.map_cons, List.map_nil, List.getD_cons_succ, List.getD_cons_zero]
      go_wp2_with fail
      first | refine Mid.mk ⟨HS5.out, ?_⟩ | refine Mid.mk ?_
      refine held_last (by kernel_rfl) ?_; clear HS HS4 HS5 v1 v2 v3 t2 t3 ha
      go_wp2
      go_roundw
      case rel => exact ⟨k + 1, a5, c5, by omega, by go_num, rfl, Lib.hid (by rw [hsn'.out, List.flatten_append]; simpa using Ob5.out), Hb5⟩
      case measure => simp [intOf]; omega
    · have hkN : k = N := by omega
      have Ob2 := Ob.out; rw [hkN, List.take_of_length_le (by rw [hul'.out]; exact Nat.le_refl _)] at Ob2; rw [hkN]; have hU : StR useL 3 wr a3 N c3 us := ⟨by rw [ints_flat]; exact (Sl.of_own Ob2).1, hul'.out⟩; have HU := uses_any a3 N c3 us wr hU (by omega); obtain ⟨r, hr⟩ : ∃ r, usesOk us = r := ⟨_, rfl⟩; rw [hr] at HU; have hTe := hTe'.out; rw [hr] at hTe; have hNb : N ≤ 255 := by omega
      have Ob2' := Lib.hid Ob2; have HU' := Lib.hid HU; have hr' := Lib.hid hr; have hTe' := Lib.hid hTe; have hkN' := Lib.hid hkN; have hU' := Lib.hid hU; clear Ob2 HU hr hTe hkN hU
      go_wp2_with fail
      refine HU'.out.mono ?_; rintro e w2 ⟨rfl, hb2⟩; have hbw2 := hbel.out.trans (hb2.mono hbel.out.size); have Ob3 := own_later Ob2'.out hb2
      cases r with
      | false =>
        obtain rfl : T = (2, []) := hTe'.out; have hbw2' := Lib.hid hbw2; have Ob3' := Lib.hid Ob3; have hb2' := Lib.hid hb2; clear hbw2 Ob3 hb2
        go_wp2
        go_ret2
        exact ⟨hbw2'.out, none, 0, 0, rfl, own_nil _ _ _ _, rfl⟩
      | true =>
        have hTe2 := hTe'.out; rw [Bool.true_and] at hTe2; have s2 := (hs'.out.mono hbw2); have hnl := hzl'.out; have hcc := s2.le; obtain ⟨a18, hcut, s18, i18⟩ := sub_l (P := Try.prog) Try.underlying30 sizeU8 s2 (1 + 2 * (N : Int)) (by omega) (by omega) (n - (1 + 2 * N)) (c - (1 + 2 * N)) (by omega) (by omega)
        have e18 : (ints .u8 z).drop ((1 + 2 * (N : Int)).toNat * 1) = ints .u8 (z.drop (1 + 2 * N)) := by
          unfold ints; rw [← List.map_drop, show (1 + 2 * (N : Int)).toNat * 1 = 1 + 2 * N by omega]
        rw [e18] at s18; have hal := (Below.refl w2.heap.size w2).alloc (Nat.le_refl _) (.cells #[.int .u8 0, .int .u8 63, .int .u8 0] 5); have sN : Sl (w2.alloc (.cells #[.int .u8 0, .int .u8 63, .int .u8 0] 5)) (some ⟨w2.heap.size, 0, none⟩) 3 3 1 (ints .u8 [0, 63, 0]) := Sl.new w2 5 1 3 #[.int .u8 0, .int .u8 63, .int .u8 0] (0, 0) (by omega) rfl; obtain ⟨w3, hw3⟩ : ∃ w3, w2.alloc (.cells #[.int .u8 0, .int .u8 63, .int .u8 0] 5) = w3 := ⟨_, rfl⟩; rw [hw3] at hal sN; have HE := bsame_any a18 (some ⟨w2.heap.size, 0, none⟩) (n - (1 + 2 * N)) (c - (1 + 2 * N)) 3 3 (z.drop (1 + 2 * N)) [0, 63, 0] w3 (s18.mono hal) sN
        have hbq : (z.drop (1 + 2 * N) == [0, 63, 0]) = decide (z.drop (1 + 2 * N) = [0, 63, 0]) := by
          rw [Bool.eq_iff_iff, beq_iff_eq, decide_eq_true_eq]
        rw [hbq] at hTe2; obtain ⟨r2, hr2⟩ : ∃ r, decide (z.drop (1 + 2 * N) = [0, 63, 0]) = r := ⟨_, rfl⟩; rw [hr2] at hTe2 HE; have hbw3 := hbw2.trans (hal.mono hbw2.size); have Ob4 := own_later Ob3 hal; have hv1 : IntKind.i64.wrap (1 + 2 * (N : Int)) = 1 + 2 * N := by rw [IntKind.wrap_i64]; omega
        generalize n - (1 + 2 * N) = n18 at *
        generalize c - (1 + 2 * N) = c18 at *
        clear hb2 hbw2 Ob3 s2 hnl hcc s18 e18 sN hbq hal i18; have hTe2' := Lib.hid hTe2; have HE' := Lib.hid HE; have hw3' := Lib.hid hw3; have hr2' := Lib.hid hr2; have hbw3' := Lib.hid hbw3; have Ob4' := Lib.hid Ob4; clear hTe2 HE hw3 hr2 hbw3 Ob4
        go_wp2_with fail
        rw [hw3'.out]; refine HE'.out.mono ?_; rintro e w4 ⟨rfl, hq4⟩; have hb4 := hq4.below (B := w3.heap.size); have hbw4 := hbw3'.out.trans (hb4.mono hbw3'.out.size); have Ob5 := own_later Ob4'.out hb4; clear hb4 hcut hq4
        cases r2 with
        | false =>
          obtain rfl : T = (2, []) := hTe2'.out; have hbw4' := Lib.hid hbw4; have Ob5' := Lib.hid Ob5; clear hbw4 Ob5
          go_wp2
          go_ret2
          exact ⟨hbw4'.out, none, 0, 0, rfl, own_nil _ _ _ _, rfl⟩
        | true =>
          obtain rfl : T = (0, us) := hTe2'.out; have hbw4' := Lib.hid hbw4; have Ob5' := Lib.hid Ob5; clear hbw4 Ob5
          go_wp2
          go_ret2
          exact ⟨hbw4'.out, a3, N, c3, rfl, Ob5'.out, hul'.out.symm⟩
end Go.Proofs.Ytpjopeojeglogaa
