/- Chapter 14: a frame, whether it may be, its bytes; an interval: the program. -/
import Derived.Test.YtpjopeojeglogaaCd20
namespace Go.Proofs.Ytpjopeojeglogaa
open Go.RowKit Tt
set_option linter.unusedVariables false
set_option linter.unusedSimpArgs false

def cmpL (c : Cmp4) : List Int := [c.1, c.2.1, c.2.2.1, c.2.2.2]
theorem cmpL_len (u : Cmp4) : (cmpL u).length = 4 := rfl
def Wf (x : Int) : Prop := -9223372036854775808 ≤ x ∧ x ≤ 9223372036854775807
def CmpWf (c : Cmp4) : Prop := Wf c.2.1 ∧ Wf c.2.2.1
theorem sub1 {x e : Int} (h : Wf x) (he : 1 ≤ e) (he2 : e ≤ 100000) : decide (0 ≤ IntKind.i64.wrap (x - 1) ∧ IntKind.i64.wrap (x - 1) < e) = decide (1 ≤ x ∧ x ≤ e) := by
  unfold Wf at h; rw [IntKind.wrap_i64]; exact decide_eq_decide.2 (by omega)
theorem frmE_no {w h : Int} {l : List Cmp4} {k : Nat} {x : Cmp4} (hx : l[k]? = some x) (hn : cmpOk x = false) : frmE w h l = 2 := by
  unfold frmE; rw [List.all_eq_false.2 ⟨x, List.mem_of_getElem? hx, by rw [hn]; simp⟩]
  rfl
/-- two numbers as a row of the call's own -/
theorem two_sl {w : World} {g : Nat} {x y : Int} (h : Blk w g 3 #[.int .i64 x, .int .i64 y]) : Sl w (some ⟨g, 0, none⟩) 2 2 1 (ints .i64 [x, y]) :=
  ⟨by rfl, Nat.le_refl _, by omega, fun i hi => ⟨g, 0, rfl, h.lt, fun j v hj => h.cell (by rw [Nat.zero_add]; simpa [ints] using hj)⟩, fun h => by cases h⟩
set_option maxRecDepth 20000 in
set_option maxHeartbeats 4000000 in
theorem check_any (fw fh : Int) (a : Option Addr) (n c : Nat) (l : List Cmp4) (w : World) (hs : StR cmpL 4 w a n c l) (hn : n ≤ 100000) (hwf : ∀ x ∈ l, CmpWf x) (hfw : Wf fw) (hfh : Wf fh) :
    Calls Try.prog 118 #[.agg #[.int .i64 fw, .int .i64 fh, .slice a n c]] w fun e w' => e = .returned (.int .i64 (frmE fw fh l)) ∧ Below w.heap.size w w' := by
  obtain ⟨i0, hi, hz0, hz1, hz2⟩ := info_parts infoI; have hl := hs.len; obtain ⟨R, hR⟩ : ∃ R, frmE fw fh l = R := ⟨_, rfl⟩; rw [hR]; have b1 := Blk.new w 56 #[.int .i64 fw, .int .i64 fh, .slice a n c]; have hb1 := (Below.refl w.heap.size w).alloc (Nat.le_refl _) (.cells #[.int .i64 fw, .int .i64 fh, .slice a n c] 56); obtain ⟨W1, hW1⟩ : ∃ W1, w.alloc (.cells #[.int .i64 fw, .int .i64 fh, .slice a n c] 56) = W1 := ⟨_, rfl⟩; rw [hW1] at b1 hb1; have k2 : W1.cell? ⟨w.heap.size, 2, none⟩ = some (.slice a n c) := b1.cell rfl; have hs' := Lib.hid hs; have hl' := Lib.hid hl; have hR' := Lib.hid hR; have b1' := Lib.hid b1; have hb1' := Lib.hid hb1; have hW1' := Lib.hid hW1; have hwf' := Lib.hid hwf; have hfw' := Lib.hid hfw; have hfh' := Lib.hid hfh; clear hs hl hR b1 hb1 hW1 hwf hfw hfh
  go_enter Try.func118, Try.ntmps118
  go_upto_region 2 with fail
  rw [hW1'.out]
  go_wp2
  clear k2
  go_loopw [3, 5, 9] (fun bv _ iv wr => ∃ (k : Nat) (a3 : Option Addr) (c3 : Nat), k ≤ n ∧ iv = .int .i64 k ∧ bv = .slice a3 k c3 ∧ Hid (∀ (j : Nat) (x : Cmp4), j < k → l[j]? = some x → cmpOk x = true) ∧ Hid (wr.ownsRow (w.heap.size + 1) 3 1 (.slice a3 k c3) k (ints .i64 ((l.take k).map (·.1)))) ∧ Hid (Blk wr w.heap.size 56 #[.int .i64 fw, .int .i64 fh, .slice a n c]) ∧ Hid (Below w.heap.size w wr)) (fun _ _ iv _ => n - (intOf iv).toNat)
  case atStart => exact ⟨0, none, 0, by omega, rfl, rfl, Lib.hid (fun j x h => by omega), Lib.hid (own_nil _ _ _ _), b1', hb1'⟩
  case round =>
    obtain ⟨k, a3, c3, hk, rfl, rfl, hall, Ob, hbk, hbel⟩ := hrel
    by_cases hlt : k < n
    · obtain ⟨x, hx⟩ : ∃ x, l[k]? = some x := ⟨_, List.getElem?_eq_getElem (by rw [hl'.out]; exact hlt)⟩
      obtain ⟨bb, o, rfl, hbb, f⟩ := (hs'.out.mono hbel.out).elem cmpL_len hx; have hsn := map_take_snoc (f := fun u : Cmp4 => u.1) hx; have hxw := hwf'.out x (List.mem_of_getElem? hx)
      have hok : cmpOk x = ((decide (1 ≤ x.2.1 ∧ x.2.1 ≤ 4) && decide (1 ≤ x.2.2.1 ∧ x.2.2.1 ≤ 4)) && decide (0 ≤ x.2.2.2 ∧ x.2.2.2 < 4)) := by
        unfold cmpOk; rw [← Bool.decide_and, ← Bool.decide_and]; exact decide_eq_decide.2 (by omega)
      rw [← sub1 hxw.1 (by omega) (by omega), ← sub1 hxw.2 (by omega) (by omega)] at hok; obtain ⟨x0, x1, x2, x3⟩ := x; simp only at hok hsn; obtain ⟨y1, hy1⟩ : ∃ y, IntKind.i64.wrap (x1 - 1) = y := ⟨_, rfl⟩; obtain ⟨y2, hy2⟩ : ∃ y, IntKind.i64.wrap (x2 - 1) = y := ⟨_, rfl⟩; rw [hy1, hy2] at hok; have f0 : wr.cell? ⟨bb, o + k * 4, none⟩ = some (.int .i64 x0) := f 0 _ rfl; have f1 : wr.cell? ⟨bb, o + k * 4 + 1, none⟩ = some (.int .i64 x1) := f 1 _ rfl; have f2 : wr.cell? ⟨bb, o + k * 4 + 2, none⟩ = some (.int .i64 x2) := f 2 _ rfl; have f3 : wr.cell? ⟨bb, o + k * 4 + 3, none⟩ = some (.int .i64 x3) := f 3 _ rfl; obtain ⟨W2, hW2, bA, bB, hb2, s2⟩ := two_boxes wr 167 #[.int .i64 x0, .int .i64 x1, .int .i64 x2, .int .i64 x3] 3 #[.int .i64 y1, .int .i64 y2]; have HB := below_any 4 (some ⟨wr.heap.size + 1, 0, none⟩) 2 2 [y1, y2] W2 (two_sl bB); rw [belowS_two] at HB; obtain ⟨r, hr⟩ : ∃ r, (decide (0 ≤ y1 ∧ y1 < 4) && decide (0 ≤ y2 ∧ y2 < 4)) = r := ⟨_, rfl⟩; rw [hr] at HB hok; obtain ⟨r2, hr2⟩ : ∃ r, decide (0 ≤ x3 ∧ x3 < 4) = r := ⟨_, rfl⟩; rw [hr2] at hok; have hbw2 := hbel.out.trans (hb2.mono hbel.out.size); have Ob2 := own_later Ob.out hb2; have hbk2 := hbk.out.late hb2; clear f hxw; have hx' := Lib.hid hx; have hsn' := Lib.hid hsn; have HB' := Lib.hid HB; have hb2' := Lib.hid hb2; have s2' := Lib.hid s2; have hW2' := Lib.hid hW2; have bA' := Lib.hid bA; have bB' := Lib.hid bB; have hr' := Lib.hid hr; have hbw2' := Lib.hid hbw2; have Ob2' := Lib.hid Ob2; have hbk2' := Lib.hid hbk2; have hr2' := Lib.hid hr2; have hok' := Lib.hid hok; clear hx hsn HB hb2 s2 hW2 bA bB hr hbw2 Ob2 hbk2 hr2 hok
      go_wp2_with fail
      rw [hW2'.out]; clear hy1 hy2; refine HB'.out.mono ?_; rintro e w3 ⟨rfl, hb3⟩; have hbw3 := hbw2'.out.trans (hb3.mono hbw2'.out.size); have Ob3 := own_later Ob2'.out hb3; have bA3 := bA'.out.late hb3; have hbk3 := hbk2'.out.late hb3; clear hb3
      cases r with
      | false =>
        obtain rfl : R = 2 := by rw [← hR'.out]; exact frmE_no hx'.out hok'.out
        have hbw3' := Lib.hid hbw3; have Ob3' := Lib.hid Ob3; have bA3' := Lib.hid bA3; have hbk3' := Lib.hid hbk3; clear hbw3 Ob3 bA3 hbk3
        go_wp2
        go_ret
        exact ⟨rfl, hbw3'.out⟩
      | true =>
        have hok2 := hok'.out; rw [Bool.true_and] at hok2; have g3 : w3.cell? ⟨wr.heap.size, 3, none⟩ = some (.int .i64 x3) := bA3.cell rfl; have hal4 := (Below.refl w3.heap.size w3).alloc (Nat.le_refl _) (.cells #[.int .i64 x3] 3); have HB4 := below_any 4 _ 1 1 [x3] (w3.alloc (.cells #[.int .i64 x3] 3)) (Sl.new w3 3 1 1 #[.int .i64 x3] (0, 0) (by omega) rfl); rw [below_one, hr2'.out] at HB4; have hbw4 := hbw3.trans (hal4.mono hbw3.size); have Ob4 := own_later Ob3 hal4; have bA4 := bA3.late hal4; have hbk4 := hbk3.late hal4; clear hal4; have hbw3' := Lib.hid hbw3; have Ob3' := Lib.hid Ob3; have bA3' := Lib.hid bA3; have hbk3' := Lib.hid hbk3; have hok2' := Lib.hid hok2; have HB4' := Lib.hid HB4; have hbw4' := Lib.hid hbw4; have Ob4' := Lib.hid Ob4; have bA4' := Lib.hid bA4; have hbk4' := Lib.hid hbk4; clear hbw3 Ob3 bA3 hbk3 hok2 HB4 hbw4 Ob4 bA4 hbk4
        go_wp2_with fail
        refine HB4'.out.mono ?_; rintro e w5 ⟨rfl, hb5⟩; have hbw5 := hbw4'.out.trans (hb5.mono hbw4'.out.size); have Ob5 := own_later Ob4'.out hb5; have bA5 := bA4'.out.late hb5; have hbk5 := hbk4'.out.late hb5; clear hb5 g3
        cases r2 with
        | false =>
          obtain rfl : R = 2 := by rw [← hR'.out]; exact frmE_no hx'.out hok2'.out
          have hbw5' := Lib.hid hbw5; have Ob5' := Lib.hid Ob5; have bA5' := Lib.hid bA5; have hbk5' := Lib.hid hbk5; clear hbw5 Ob5 bA5 hbk5
          go_wp2
          go_ret
          exact ⟨rfl, hbw5'.out⟩
        | true =>
          have hall2 : ∀ (j : Nat) (x : Cmp4), j < k + 1 → l[j]? = some x → cmpOk x = true := fun j x hj hxx => by
            rcases Nat.lt_or_ge j k with h | h
            · exact hall.out j x h hxx
            · obtain rfl : j = k := by omega
              rw [hx'.out] at hxx; injection hxx with hxx; rw [← hxx]; exact hok2'.out
          have g0 : w5.cell? ⟨wr.heap.size, 0, none⟩ = some (.int .i64 x0) := bA5.cell rfl; have hsz3 := hbw5.size; have hsz4 : w.heap.size + 1 ≤ w5.heap.size := hbk5.lt; have hbw5' := Lib.hid hbw5; have Ob5' := Lib.hid Ob5; have bA5' := Lib.hid bA5; have hbk5' := Lib.hid hbk5; have hall2' := Lib.hid hall2; have hsz3' := Lib.hid hsz3; clear hbw5 Ob5 bA5 hbk5 hall2 hsz3
          go_wp2_with (at_builtin; refine wpList_app rfl _ _ 35 rfl (w.heap.size + 1) 3 i0 _ 1 8 Try.underlying35 hi hz0 hz1 hz2 rfl (by decide) _ k _ rfl (World.ownsRow.alloc Ob5'.out _) _ 1 1 _ rfl (Sl.new w5 3 1 1 #[.int .i64 x0] (0, 0) (by omega) rfl) (by simp [Value.oneCell']) (by omega) (by decide) (by simp; omega) ?_; intro a6 c6 w6 ob6 hb6 hg6; have Ob6 := Lib.hid ob6; have Hb6 := Lib.hid (((Below.refl (w.heap.size + 1) w5).alloc hsz4 (.cells #[.int .i64 x0] 3)).trans hb6); clear ob6 hb6 hg6)
          have hbk6 := hbk5'.out.mono Hb6.out (by omega); have hbw6 := hbw5'.out.trans (Hb6.out.mono (by omega)); have hbk6' := Lib.hid hbk6; have hbw6' := Lib.hid hbw6; clear hbk6 hbw6
          go_roundw
          case rel => exact ⟨k + 1, a6, c6, by omega, by go_num, rfl, hall2', Lib.hid (by rw [hsn'.out, ints_append]; exact Ob6.out), hbk6', hbw6'⟩
          case measure => simp [intOf]; omega
    · have hkn : k = n := by omega
      have Ob2 := Ob.out; have hl2 : (l.take k).map (·.1) = l.map (·.1) := by rw [List.take_of_length_le (by rw [hl'.out]; omega)]
      rw [hl2] at Ob2; have HU := unlike_any a3 k c3 (l.map (·.1)) wr (Sl.of_own Ob2).1 (by omega)
      have hRU : R = if idOk (l.map (·.1)) = true then (if decide (1 ≤ fw ∧ fw ≤ 4096) && decide (1 ≤ fh ∧ fh ≤ 4096) then 0 else 7) else 2 := by
        rw [← hR'.out]; unfold frmE; rw [all_of_get (fun j x hx => hall.out j x (by rw [hkn, ← hl'.out]; exact (List.getElem?_eq_some_iff.1 hx).1) hx), Bool.true_and]
        by_cases h1 : 1 ≤ fw ∧ fw ≤ 4096
        · by_cases h2 : 1 ≤ fh ∧ fh ≤ 4096
          · simp [h1, h2]
          · simp [h1, h2]
        · have : ¬ (1 ≤ fw ∧ fw ≤ 4096 ∧ 1 ≤ fh ∧ fh ≤ 4096) := fun h => h1 ⟨h.1, h.2.1⟩
          rw [if_neg this, decide_eq_false h1]
          rfl
      obtain ⟨r, hr⟩ : ∃ r, idOk (l.map (·.1)) = r := ⟨_, rfl⟩; rw [hr] at HU hRU; clear hl2; have Ob2' := Lib.hid Ob2; have HU' := Lib.hid HU; have hkn' := Lib.hid hkn; have hRU' := Lib.hid hRU; have hr' := Lib.hid hr; clear Ob2 HU hkn hRU hr
      go_wp2_with fail
      refine HU'.out.mono ?_; rintro e w3 ⟨rfl, hb3⟩; have hbw3 := hbel.out.trans (hb3.mono hbel.out.size); have hbk3 := hbk.out.late hb3; clear hb3
      cases r with
      | false =>
        obtain rfl : R = 2 := by rw [hRU'.out]; rfl
        have hbw3' := Lib.hid hbw3; have hbk3' := Lib.hid hbk3; clear hbw3 hbk3
        go_wp2
        go_ret
        exact ⟨rfl, hbw3'.out⟩
      | true =>
        have hRV := hRU'.out; rw [if_pos rfl, ← sub1 hfw'.out (by omega) (by omega), ← sub1 hfh'.out (by omega) (by omega)] at hRV; obtain ⟨y1, hy1⟩ : ∃ y, IntKind.i64.wrap (fw - 1) = y := ⟨_, rfl⟩; obtain ⟨y2, hy2⟩ : ∃ y, IntKind.i64.wrap (fh - 1) = y := ⟨_, rfl⟩; rw [hy1, hy2] at hRV; have g0 : w3.cell? ⟨w.heap.size, 0, none⟩ = some (.int .i64 fw) := hbk3.cell rfl; have g1 : w3.cell? ⟨w.heap.size, 1, none⟩ = some (.int .i64 fh) := hbk3.cell rfl; have hal4 := (Below.refl w3.heap.size w3).alloc (Nat.le_refl _) (.cells #[.int .i64 y1, .int .i64 y2] 3); have HB4 := below_any 4096 _ 2 2 [y1, y2] _ (two_sl (Blk.new w3 3 #[.int .i64 y1, .int .i64 y2])); rw [belowS_two] at HB4; obtain ⟨r4, hr4⟩ : ∃ r, (decide (0 ≤ y1 ∧ y1 < 4096) && decide (0 ≤ y2 ∧ y2 < 4096)) = r := ⟨_, rfl⟩; rw [hr4] at HB4 hRV; have hbw4 := hbw3.trans (hal4.mono hbw3.size); clear hal4; have hbw3' := Lib.hid hbw3; have hbk3' := Lib.hid hbk3; have HB4' := Lib.hid HB4; have hbw4' := Lib.hid hbw4; have hRV' := Lib.hid hRV; have hr4' := Lib.hid hr4; clear hbw3 hbk3 HB4 hbw4 hRV hr4
        go_wp2_with fail
        clear hy1 hy2; refine HB4'.out.mono ?_; rintro e w5 ⟨rfl, hb5⟩; have hbw5 := hbw4'.out.trans (hb5.mono hbw4'.out.size); clear hb5
        cases r4 with
        | false =>
          obtain rfl : R = 7 := by rw [hRV'.out]; rfl
          have hbw5' := Lib.hid hbw5; clear hbw5
          go_wp2
          go_ret
          exact ⟨rfl, hbw5'.out⟩
        | true =>
          obtain rfl : R = 0 := by rw [hRV'.out]; rfl
          have hbw5' := Lib.hid hbw5; clear hbw5
          go_wp2
          go_ret
          exact ⟨rfl, hbw5'.out⟩
end Go.Proofs.Ytpjopeojeglogaa
