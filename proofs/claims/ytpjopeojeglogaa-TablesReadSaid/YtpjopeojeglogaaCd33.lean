/- Chapter 14: which error a frame has, may planes of a scan be: the document. -/
import Derived.Test.YtpjopeojeglogaaCd32
namespace Go.Proofs.Ytpjopeojeglogaa
open Go.RowKit Tt
set_option linter.unusedVariables false
set_option linter.unusedSimpArgs false

theorem rsize9_any (x : Int) (w : World) : Calls Try.prog 122 #[.int .i64 x] w fun e w' => e = .returned (.bool (decide (1 ≤ x ∧ x ≤ 4096))) ∧ Below w.heap.size w w' := by
  have hb := Below.refl w.heap.size w
  by_cases h1 : x < 1
  · rw [decide_eq_false (by omega)]
    have hb' := Lib.hid hb; clear hb
    go_enter Try.func122, Try.ntmps122
    go_wp2
    go_ret
    exact ⟨rfl, hb'.out⟩
  by_cases h2 : 4096 < x
  · rw [decide_eq_false (by omega)]
    have h3 : decide (x ≤ 4096) = false := by simp; omega
    have hb' := Lib.hid hb; clear hb
    go_enter Try.func122, Try.ntmps122
    go_wp2
    go_ret
    exact ⟨rfl, hb'.out⟩
  rw [decide_eq_true (by omega)]; have h3 : decide (x ≤ 4096) = true := by simp; omega
  have hb' := Lib.hid hb; clear hb
  go_enter Try.func122, Try.ntmps122
  go_wp2
  go_ret
  exact ⟨rfl, hb'.out⟩
set_option maxRecDepth 20000 in
set_option maxHeartbeats 4000000 in
theorem rcheck_any (fw fh : Int) (a : Option Addr) (n c : Nat) (l : List Cmp4) (w : World) (hs : StR cmpL 4 w a n c l) (hn : n ≤ 100000) :
    Calls Try.prog 40 #[.agg #[.int .i64 fw, .int .i64 fh, .slice a n c]] w fun e w' => e = .returned (.int .i64 (frmE fw fh l)) ∧ Below w.heap.size w w' := by
  obtain ⟨i0, hi, hz0, hz1, hz2⟩ := info_parts infoI; have hl := hs.len; obtain ⟨R, hR⟩ : ∃ R, frmE fw fh l = R := ⟨_, rfl⟩; rw [hR]; have b1 := Blk.new w 56 #[.int .i64 fw, .int .i64 fh, .slice a n c]; have hb1 := (Below.refl w.heap.size w).alloc (Nat.le_refl _) (.cells #[.int .i64 fw, .int .i64 fh, .slice a n c] 56); obtain ⟨W1, hW1⟩ : ∃ W1, w.alloc (.cells #[.int .i64 fw, .int .i64 fh, .slice a n c] 56) = W1 := ⟨_, rfl⟩; rw [hW1] at b1 hb1; have hs' := Lib.hid hs; have hl' := Lib.hid hl; have hR' := Lib.hid hR; have b1' := Lib.hid b1; have hb1' := Lib.hid hb1; have hW1' := Lib.hid hW1; clear hs hl hR b1 hb1 hW1
  go_enter Try.func40, Try.ntmps40
  go_upto_region 1 with fail
  rw [hW1'.out]
  go_wp2
  go_loopw [3, 4, 5] (fun bv iv _ wr => ∃ (k : Nat) (a3 : Option Addr) (c3 : Nat), k ≤ n ∧ iv = .int .i64 k ∧ bv = .slice a3 k c3 ∧ Hid (∀ (j : Nat) (x : Cmp4), j < k → l[j]? = some x → cmpOk x = true) ∧ Hid (wr.ownsRow (w.heap.size + 1) 3 1 (.slice a3 k c3) k (ints .i64 ((l.take k).map (·.1)))) ∧ Hid (Blk wr w.heap.size 56 #[.int .i64 fw, .int .i64 fh, .slice a n c]) ∧ Hid (Below w.heap.size w wr)) (fun _ iv _ _ => n - (intOf iv).toNat)
  case atStart => exact ⟨0, none, 0, by omega, rfl, rfl, Lib.hid (fun j x h => by omega), Lib.hid (own_nil _ _ _ _), b1', hb1'⟩
  case round =>
    obtain ⟨k, a3, c3, hk, rfl, rfl, hall, Ob, hbk, hbel⟩ := hrel; have k2 : wr.cell? ⟨w.heap.size, 2, none⟩ = some (.slice a n c) := hbk.out.cell rfl
    by_cases hlt : k < n
    · obtain ⟨x, hx⟩ : ∃ x, l[k]? = some x := ⟨_, List.getElem?_eq_getElem (by rw [hl'.out]; exact hlt)⟩
      obtain ⟨bb, o, rfl, hbb, f⟩ := (hs'.out.mono hbel.out).elem cmpL_len hx; have hsn := map_take_snoc (f := fun u : Cmp4 => u.1) hx; have hno : cmpOk x = false → R = 2 := fun h => by rw [← hR'.out]; exact frmE_no hx h
      obtain ⟨x0, x1, x2, x3⟩ := x; simp only at hsn; have hno : ¬ (1 ≤ x1 ∧ x1 ≤ 4 ∧ 1 ≤ x2 ∧ x2 ≤ 4 ∧ 0 ≤ x3 ∧ x3 ≤ 3) → R = 2 := fun h => hno (by unfold cmpOk; exact decide_eq_false h); have f0 : wr.cell? ⟨bb, o + k * 4, none⟩ = some (.int .i64 x0) := f 0 _ rfl; have f1 : wr.cell? ⟨bb, o + k * 4 + 1, none⟩ = some (.int .i64 x1) := f 1 _ rfl; have f2 : wr.cell? ⟨bb, o + k * 4 + 2, none⟩ = some (.int .i64 x2) := f 2 _ rfl; have f3 : wr.cell? ⟨bb, o + k * 4 + 3, none⟩ = some (.int .i64 x3) := f 3 _ rfl; have bA := Blk.new wr 167 #[.int .i64 x0, .int .i64 x1, .int .i64 x2, .int .i64 x3]; have hal := (Below.refl wr.heap.size wr).alloc (Nat.le_refl _) (.cells #[.int .i64 x0, .int .i64 x1, .int .i64 x2, .int .i64 x3] 167); obtain ⟨W2, hW2⟩ : ∃ W2, wr.alloc (.cells #[.int .i64 x0, .int .i64 x1, .int .i64 x2, .int .i64 x3] 167) = W2 := ⟨_, rfl⟩; rw [hW2] at bA hal; have hbw2 := hbel.out.trans (hal.mono hbel.out.size); have Ob2 := own_later Ob.out hal; have hbk2 := hbk.out.late hal; clear f hal; have hx' := Lib.hid hx; have hsn' := Lib.hid hsn; have bA' := Lib.hid bA; have hW2' := Lib.hid hW2; have hbw2' := Lib.hid hbw2; have Ob2' := Lib.hid Ob2; have hbk2' := Lib.hid hbk2; have hno' := Lib.hid hno; clear hx hsn bA hW2 hbw2 Ob2 hbk2 hno
      go_upto_region 6 with fail
      rw [hW2'.out]; clear f0 f1 f2 f3 k2; have g0 : W2.cell? ⟨wr.heap.size, 0, none⟩ = some (.int .i64 x0) := bA'.out.cell rfl; have g1 : W2.cell? ⟨wr.heap.size, 1, none⟩ = some (.int .i64 x1) := bA'.out.cell rfl; have g2 : W2.cell? ⟨wr.heap.size, 2, none⟩ = some (.int .i64 x2) := bA'.out.cell rfl; have g3 : W2.cell? ⟨wr.heap.size, 3, none⟩ = some (.int .i64 x3) := bA'.out.cell rfl
      by_cases c1 : x1 < 1
      · obtain rfl : R = 2 := hno'.out (by omega)
        go_wp2
        go_ret
        exact ⟨rfl, hbw2'.out⟩
      by_cases c2 : 4 < x1
      · obtain rfl : R = 2 := hno'.out (by omega)
        go_wp2
        go_ret
        exact ⟨rfl, hbw2'.out⟩
      by_cases c3 : x2 < 1
      · obtain rfl : R = 2 := hno'.out (by omega)
        go_wp2
        go_ret
        exact ⟨rfl, hbw2'.out⟩
      by_cases c4 : 4 < x2
      · obtain rfl : R = 2 := hno'.out (by omega)
        go_wp2
        go_ret
        exact ⟨rfl, hbw2'.out⟩
      by_cases c5 : x3 < 0
      · obtain rfl : R = 2 := hno'.out (by omega)
        go_wp2
        go_ret
        exact ⟨rfl, hbw2'.out⟩
      by_cases c6 : 3 < x3
      · obtain rfl : R = 2 := hno'.out (by omega)
        go_wp2
        go_ret
        exact ⟨rfl, hbw2'.out⟩
      have hok : cmpOk (x0, x1, x2, x3) = true := by unfold cmpOk; exact decide_eq_true (by simp only; omega)
      have hall2 : ∀ (j : Nat) (x : Cmp4), j < k + 1 → l[j]? = some x → cmpOk x = true := fun j x hj hxx => by
        rcases Nat.lt_or_ge j k with h | h
        · exact hall.out j x h hxx
        · obtain rfl : j = k := by omega
          rw [hx'.out] at hxx; injection hxx with hxx; rw [← hxx]; exact hok
      have hsz4 : w.heap.size + 1 ≤ W2.heap.size := hbk2'.out.lt; clear hok; have hall2' := Lib.hid hall2; clear hall2
      go_wp2_with (at_builtin; refine wpList_app rfl _ _ 35 rfl (w.heap.size + 1) 3 i0 _ 1 8 Try.underlying35 hi hz0 hz1 hz2 rfl (by decide) _ k _ rfl (World.ownsRow.alloc Ob2'.out _) _ 1 1 _ rfl (Sl.new W2 3 1 1 #[.int .i64 x0] (0, 0) (by omega) rfl) (by simp [Value.oneCell']) (by omega) (by decide) (by simp; omega) ?_; intro a6 c6 w6 ob6 hb6 hg6; have Ob6 := Lib.hid ob6; have Hb6 := Lib.hid (((Below.refl (w.heap.size + 1) W2).alloc hsz4 (.cells #[.int .i64 x0] 3)).trans hb6); clear ob6 hb6 hg6)
      have hbk6 := hbk2'.out.mono Hb6.out (by omega); have hbw6 := hbw2'.out.trans (Hb6.out.mono (by omega)); have hbk6' := Lib.hid hbk6; have hbw6' := Lib.hid hbw6; clear hbk6 hbw6
      go_roundw
      case rel => exact ⟨k + 1, a6, c6, by omega, by go_num, rfl, hall2', Lib.hid (by rw [hsn'.out, ints_append]; exact Ob6.out), hbk6', hbw6'⟩
      case measure => simp [intOf]; omega
    · have hkn : k = n := by omega
      have Ob2 := Ob.out; have hl2 : (l.take k).map (·.1) = l.map (·.1) := by rw [List.take_of_length_le (by rw [hl'.out]; omega)]
      rw [hl2] at Ob2; have HU := rplanes_any a3 k c3 (l.map (·.1)) wr (Sl.of_own Ob2).1 (by omega)
      have hRU : R = if idOk (l.map (·.1)) = true then (if decide (1 ≤ fw ∧ fw ≤ 4096) && decide (1 ≤ fh ∧ fh ≤ 4096) then 0 else 7) else 2 := by
        rw [← hR'.out]; unfold frmE; rw [all_of_get (fun j x hx => hall.out j x (by rw [hkn, ← hl'.out]; exact (List.getElem?_eq_some_iff.1 hx).1) hx), Bool.true_and]
        by_cases h1 : 1 ≤ fw ∧ fw ≤ 4096
        · by_cases h2 : 1 ≤ fh ∧ fh ≤ 4096
          · simp [h1, h2]
          · simp [h1, h2]
        · have : ¬ (1 ≤ fw ∧ fw ≤ 4096 ∧ 1 ≤ fh ∧ fh ≤ 4096) := fun h => h1 ⟨h.1, h.2.1⟩
          rw [if_neg this, decide_eq_false h1]
          rfl
      obtain ⟨r, hr⟩ : ∃ r, idOk (l.map (·.1)) = r := ⟨_, rfl⟩; rw [hr] at HU hRU; clear hl2; have Ob2' := Lib.hid Ob2; have HU' := Lib.hid HU; have hkn' := Lib.hid hkn; have hRU' := Lib.hid hRU; have hr' := Lib.hid hr; clear Ob2 HU hkn hRU hr
      go_wp2_with fail
      clear k2; refine HU'.out.mono ?_; rintro e w3 ⟨rfl, hb3⟩; have hb3 := hb3.below (B := wr.heap.size); have hbw3 := hbel.out.trans (hb3.mono hbel.out.size); have hbk3 := hbk.out.late hb3; clear hb3
      cases r with
      | false =>
        obtain rfl : R = 2 := by rw [hRU'.out]; rfl
        have hbw3' := Lib.hid hbw3; have hbk3' := Lib.hid hbk3; clear hbw3 hbk3
        go_wp2
        go_ret
        exact ⟨rfl, hbw3'.out⟩
      | true =>
        have hRV := hRU'.out; rw [if_pos rfl] at hRV; have g0 : w3.cell? ⟨w.heap.size, 0, none⟩ = some (.int .i64 fw) := hbk3.cell rfl; have HS1 := rsize9_any fw w3; obtain ⟨r4, hr4⟩ : ∃ r, decide (1 ≤ fw ∧ fw ≤ 4096) = r := ⟨_, rfl⟩; rw [hr4] at HS1 hRV; have hbw3' := Lib.hid hbw3; have hbk3' := Lib.hid hbk3; have HS1' := Lib.hid HS1; have hRV' := Lib.hid hRV; have hr4' := Lib.hid hr4; clear hbw3 hbk3 HS1 hRV hr4
        go_wp2_with fail
        clear g0; refine HS1'.out.mono ?_; rintro e w5 ⟨rfl, hb5⟩; have hbw5 := hbw3'.out.trans (hb5.mono hbw3'.out.size); have hbk5 := hbk3'.out.late hb5; clear hb5
        cases r4 with
        | false =>
          obtain rfl : R = 7 := by rw [hRV'.out]; rfl
          have hbw5' := Lib.hid hbw5; have hbk5' := Lib.hid hbk5; clear hbw5 hbk5
          go_wp2
          go_ret
          exact ⟨rfl, hbw5'.out⟩
        | true =>
          have hRW := hRV'.out; rw [Bool.true_and] at hRW; have g1 : w5.cell? ⟨w.heap.size, 1, none⟩ = some (.int .i64 fh) := hbk5.cell rfl; have HS2 := rsize9_any fh w5; obtain ⟨r5, hr5⟩ : ∃ r, decide (1 ≤ fh ∧ fh ≤ 4096) = r := ⟨_, rfl⟩; rw [hr5] at HS2 hRW; have hbw5' := Lib.hid hbw5; have hbk5' := Lib.hid hbk5; have HS2' := Lib.hid HS2; have hRW' := Lib.hid hRW; have hr5' := Lib.hid hr5; clear hbw5 hbk5 HS2 hRW hr5
          go_wp2_with fail
          clear g1; refine HS2'.out.mono ?_; rintro e w7 ⟨rfl, hb7⟩; have hbw7 := hbw5'.out.trans (hb7.mono hbw5'.out.size); clear hb7
          cases r5 with
          | false =>
            obtain rfl : R = 7 := by rw [hRW'.out]; rfl
            have hbw7' := Lib.hid hbw7; clear hbw7
            go_wp2
            go_ret
            exact ⟨rfl, hbw7'.out⟩
          | true =>
            obtain rfl : R = 0 := by rw [hRW'.out]; rfl
            have hbw7' := Lib.hid hbw7; clear hbw7
            go_wp2
            go_ret
            exact ⟨rfl, hbw7'.out⟩
set_option maxRecDepth 20000 in
set_option maxHeartbeats 2000000 in
theorem ruses_any (a : Option Addr) (n c : Nat) (l : List Use3) (w : World) (hs : StR useL 3 w a n c l) (hn : n ≤ 100000) :
    Calls Try.prog 43 #[.slice a n c] w fun e w' => e = .returned (.bool (usesOk l)) ∧ Below w.heap.size w w' := by
  obtain ⟨i0, hi, hz0, hz1, hz2⟩ := info_parts infoI; have hl := hs.len; obtain ⟨R, hR⟩ : ∃ R, usesOk l = R := ⟨_, rfl⟩; rw [hR]; have hs' := Lib.hid hs; have hl' := Lib.hid hl; have hR' := Lib.hid hR; clear hs hl hR
  go_enter Try.func43, Try.ntmps43
  go_wp2
  go_loopw [3, 4] (fun bv iv wr => ∃ (k : Nat) (a3 : Option Addr) (c3 : Nat), k ≤ n ∧ iv = .int .i64 k ∧ bv = .slice a3 k c3 ∧ Hid (∀ (j : Nat) (x : Use3), j < k → l[j]? = some x → useOk x = true) ∧ Hid (wr.ownsRow w.heap.size 3 1 (.slice a3 k c3) k (ints .i64 ((l.take k).map (·.1)))) ∧ Hid (Below w.heap.size w wr)) (fun _ iv _ => n - (intOf iv).toNat)
  case atStart => exact ⟨0, none, 0, by omega, rfl, rfl, Lib.hid (fun j x h => by omega), Lib.hid (own_nil _ _ _ _), Lib.hid (Below.refl _ _)⟩
  case round =>
    obtain ⟨k, a3, c3, hk, rfl, rfl, hall, Ob, hbel⟩ := hrel
    by_cases hlt : k < n
    · obtain ⟨x, hx⟩ : ∃ x, l[k]? = some x := ⟨_, List.getElem?_eq_getElem (by rw [hl'.out]; exact hlt)⟩
      obtain ⟨bb, o, rfl, hbb, f⟩ := (hs'.out.mono hbel.out).elem useL_len hx; have hsn := map_take_snoc (f := fun u : Use3 => u.1) hx; have hno : useOk x = false → R = false := fun h => by rw [← hR'.out]; exact usesOk_no hx h
      obtain ⟨x0, x1, x2⟩ := x; simp only at hsn; have hno : ¬ (0 ≤ x1 ∧ x1 ≤ 3 ∧ 0 ≤ x2 ∧ x2 ≤ 3) → R = false := fun h => hno (by unfold useOk; exact decide_eq_false h); have f0 : wr.cell? ⟨bb, o + k * 3, none⟩ = some (.int .i64 x0) := f 0 _ rfl; have f1 : wr.cell? ⟨bb, o + k * 3 + 1, none⟩ = some (.int .i64 x1) := f 1 _ rfl; have f2 : wr.cell? ⟨bb, o + k * 3 + 2, none⟩ = some (.int .i64 x2) := f 2 _ rfl; have hsz := hbel.out.size; clear f; have hx' := Lib.hid hx; have hsn' := Lib.hid hsn; have hno' := Lib.hid hno; clear hx hsn hno
      by_cases c1 : x1 < 0
      · obtain rfl : R = false := hno'.out (by omega)
        go_wp2
        go_ret
        exact ⟨rfl, hbel.out⟩
      by_cases c2 : 3 < x1
      · obtain rfl : R = false := hno'.out (by omega)
        go_wp2
        go_ret
        exact ⟨rfl, hbel.out⟩
      by_cases c3 : x2 < 0
      · obtain rfl : R = false := hno'.out (by omega)
        go_wp2
        go_ret
        exact ⟨rfl, hbel.out⟩
      by_cases c4 : 3 < x2
      · obtain rfl : R = false := hno'.out (by omega)
        go_wp2
        go_ret
        exact ⟨rfl, hbel.out⟩
      have hok : useOk (x0, x1, x2) = true := by unfold useOk; exact decide_eq_true (by simp only; omega)
      have hall2 : ∀ (j : Nat) (x : Use3), j < k + 1 → l[j]? = some x → useOk x = true := fun j x hj hxx => by
        rcases Nat.lt_or_ge j k with h | h
        · exact hall.out j x h hxx
        · obtain rfl : j = k := by omega
          rw [hx'.out] at hxx; injection hxx with hxx; rw [← hxx]; exact hok
      clear hok; have hall2' := Lib.hid hall2; clear hall2
      go_wp2_with (at_builtin; refine wpList_app rfl _ _ 35 rfl w.heap.size 3 i0 _ 1 8 Try.underlying35 hi hz0 hz1 hz2 rfl (by decide) _ k _ rfl (World.ownsRow.alloc Ob.out _) _ 1 1 _ rfl (Sl.new wr 3 1 1 #[.int .i64 x0] (0, 0) (by omega) rfl) (by simp [Value.oneCell']) (by omega) (by decide) (by simp; omega) ?_; intro a6 c6 w6 ob6 hb6 hg6; have Ob6 := Lib.hid ob6; have Hb6 := Lib.hid ((hbel.out.alloc hsz (.cells #[.int .i64 x0] 3)).trans hb6); clear ob6 hb6 hg6)
      go_roundw
      case rel => exact ⟨k + 1, a6, c6, by omega, by go_num, rfl, hall2', Lib.hid (by rw [hsn'.out, ints_append]; exact Ob6.out), Hb6⟩
      case measure => simp [intOf]; omega
    · have hkn : k = n := by omega
      have Ob2 := Ob.out; have hl2 : (l.take k).map (·.1) = l.map (·.1) := by rw [List.take_of_length_le (by rw [hl'.out]; omega)]
      rw [hl2] at Ob2; have HU := rplanes_any a3 k c3 (l.map (·.1)) wr (Sl.of_own Ob2).1 (by omega)
      have hRU : R = idOk (l.map (·.1)) := by
        rw [← hR'.out]; unfold usesOk; rw [all_of_get (fun j x hx => hall.out j x (by rw [hkn, ← hl'.out]; exact (List.getElem?_eq_some_iff.1 hx).1) hx)]
        rfl
      rw [← hRU] at HU; clear hRU hl2; have Ob2' := Lib.hid Ob2; have HU' := Lib.hid HU; have hkn' := Lib.hid hkn; clear Ob2 HU hkn
      go_wp2_with fail
      refine HU'.out.mono ?_; rintro e w3 ⟨rfl, hb3⟩; have hbw3 := hbel.out.trans (hb3.below (B := w.heap.size)); clear hb3; have hbw3' := Lib.hid hbw3; clear hbw3
      go_wp2
      go_ret
      exact ⟨rfl, hbw3'.out⟩
end Go.Proofs.Ytpjopeojeglogaa
