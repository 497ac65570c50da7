/- Chapters 18, 19: a value's bytes, an entry of a value, an entry's bytes: the document. | Chapter 20: how a tree is laid: its items, one behind the other; no two have the same name. Plain. -/
import Derived.Test.YtilennmeiaehnaaGreatCw34
import Derived.Test.YtilennmeiaehnaaGreatCw17
import Derived.Test.YtilennmeiaehnaaGreatCw05
import Derived.Test.YtilennmeiaehnaaGreatCw26
namespace Go.Proofs.YtilennmeiaehnaaGreat
open Go.RowKit Tt
set_option linter.unusedVariables false
set_option linter.unusedSimpArgs false

set_option maxHeartbeats 2000000 in
theorem rbytes_any (t y k : Int) (a : Option Addr) (n c : Nat) (d : List Int) (o : Int) (w : World) (hs : Sl w a n c 1 (ints .u8 d)) (hn : n ≤ 1000000000) :
    Calls Tryz.prog 139 #[.agg #[.int .i64 y, .int .i64 k, .slice a n c], .int .i64 o] w fun e w' => ∃ a2 m c2, e = .returned (.slice a2 m c2) ∧ w'.ownsRow w.heap.size 5 1 (.slice a2 m c2) m (ints .u8 (bytesV (t, y, k, d) o)) ∧ Below w.heap.size w w' := by
  have hb1 := (Below.refl w.heap.size w).alloc (Nat.le_refl _) (.cells #[.int .i64 y, .int .i64 k, .slice a n c] 76)
  have b1 := Blk.new w 76 #[.int .i64 y, .int .i64 k, .slice a n c]
  obtain ⟨W1, hW1⟩ : ∃ W1, w.alloc (.cells #[.int .i64 y, .int .i64 k, .slice a n c] 76) = W1 := ⟨_, rfl⟩
  rw [hW1] at hb1 b1
  have hM := rmay_any y k a n c d W1 (hs.mono hb1)
  have hbv : bytesV (t, y, k, d) o = if mayS y k d = true then turnS d (kindS y).2.1 o else [] := rfl
  obtain ⟨R, hR⟩ : ∃ R, bytesV (t, y, k, d) o = R := ⟨_, rfl⟩
  rw [hR] at hbv ⊢
  obtain ⟨r, hr⟩ : ∃ r, mayS y k d = r := ⟨_, rfl⟩
  rw [hr] at hM hbv
  rw [← hW1] at hM
  clear hR
  have hb1' := Lib.hid hb1
  have b1' := Lib.hid b1
  have hM' := Lib.hid hM
  have hs' := Lib.hid hs
  have hr' := Lib.hid hr
  have hW1' := Lib.hid hW1
  have hbv' := Lib.hid hbv
  clear hb1 b1 hM hs hr hW1 hbv
  go_enter Tryz.func139, Tryz.ntmps139
  go_wp2_with fail
  refine hM'.out.mono ?_
  rintro e w2 ⟨rfl, hb2⟩
  rw [hW1'.out] at hb2
  have hbw := hb1'.out.trans (hb2.mono hb1'.out.size)
  have b2 := b1'.out.late hb2
  cases r with
  | false =>
    obtain rfl : R = [] := hbv'.out
    have hbw' := Lib.hid hbw
    have b2' := Lib.hid b2
    have hb2' := Lib.hid hb2
    clear hbw b2 hb2
    go_wp2_with fail
    go_ret
    exact ⟨none, 0, 0, rfl, own_nil _ _ _ _, hbw'.out⟩
  | true =>
    obtain rfl : R = turnS d (kindS y).2.1 o := hbv'.out
    have hK := fun W => rpart_any y W
    clear hbv'
    generalize hpt : (kindS y).2.1 = pt at *
    obtain ⟨Ty, ff, hne, hbel, hsurj⟩ := later_worlds w2
    have HS := Lib.hid (hsurj _ ((Below.refl _ _).drew))
    have HD := Lib.hid ((Below.refl w2.heap.size w2).drew)
    have q0 : ∀ s, (ff s).cell? ⟨w.heap.size, 0, none⟩ = some (.int .i64 y) := fun s => (b2.late (hbel s)).cell rfl
    have q2 : ∀ s, (ff s).cell? ⟨w.heap.size, 2, none⟩ = some (.slice a n c) := fun s => (b2.late (hbel s)).cell rfl
    have hbw' := Lib.hid hbw
    have b2' := Lib.hid b2
    have hb2' := Lib.hid hb2
    have hK' := Lib.hid hK
    have hpt' := Lib.hid hpt
    have hbel' := Lib.hid hbel
    have hsurj' := Lib.hid hsurj
    clear hbw b2 hb2 hK hpt hbel hsurj
    go_wp2_with fail
    refine held_begin (S := fun W => ∃ s, W = ff s) (by kernel_rfl) 8 rfl ?_
    obtain ⟨wD, hwD⟩ : ∃ wD, w2.drew = wD := ⟨_, rfl⟩
    rw [hwD] at HS HD ⊢
    clear hwD
    refine held_take [0, 1, 2, 3, 5] 3 (by kernel_rfl) (fun d _ _ _ _ h => by cases d <;> exact h) (by kernel_rfl) (by kernel_rfl) (by kernel_rfl) HS.out ?_
    simp only [pickL, List.map_cons, List.map_nil, List.getD_cons_succ, List.getD_cons_zero]
    iterate 5 (go_big_quiet_step (fail))
    refine wpQuiet_nil ?_
    refine held_one 4 2 (by kernel_rfl) (by kernel_rfl) ?_
    simp only [pickL, List.map_cons, List.map_nil, List.getD_cons_succ, List.getD_cons_zero]
    go_wp2_with fail
    refine (hK'.out wD).mono ?_
    rintro e w3 ⟨rfl, rfl⟩
    go_wp2_with fail
    first | refine Mid.mk ⟨HS.out, ?_⟩ | refine Mid.mk ?_
    refine held_one 6 1 (by kernel_rfl) (by kernel_rfl) ?_
    simp only [pickL, List.map_cons, List.map_nil, List.getD_cons_succ, List.getD_cons_zero]
    go_wp2_with fail
    refine (rturn_any a n c d pt o wD (hs'.out.mono (hbw'.out.trans (HD.out.mono hbw'.out.size))) hn).mono ?_
    rintro e w4 ⟨a4, m4, c4, rfl, ho4, hb4⟩
    have hb24 := HD.out.trans (hb4.mono HD.out.size)
    have hbw4 := hbw'.out.trans (hb24.mono hbw'.out.size)
    have ho5 := own_mono ho4 (show w.heap.size ≤ _ from Nat.le_trans hbw'.out.size HD.out.size)
    have HS := Lib.hid (hsurj'.out _ hb24)
    clear ho4
    have hb4' := Lib.hid hb4
    have hb24' := Lib.hid hb24
    have hbw4' := Lib.hid hbw4
    have ho5' := Lib.hid ho5
    clear hb4 hb24 hbw4 ho5
    go_wp2_with fail
    first | refine Mid.mk ⟨HS.out, ?_⟩ | refine Mid.mk ?_
    refine held_one 7 0 (by kernel_rfl) (by kernel_rfl) ?_
    simp only [pickL, List.map_cons, List.map_nil, List.getD_cons_succ, List.getD_cons_zero]
    go_wp2_with fail
    first | refine Mid.mk ⟨HS.out, ?_⟩ | refine Mid.mk ?_
    refine held_last (by kernel_rfl) ?_
    go_wp2_with fail
    go_ret
    exact ⟨a4, m4, c4, rfl, by rw [hpt'.out]; exact ho5'.out, hbw4'.out⟩
theorem padR {b : List Int} {j : Nat} (h : b.length + j = 4) : b ++ List.replicate j 0 = padB b := by unfold padB; rw [show 4 - b.length = j by omega]
def lenV : Value → Nat
  | .slice _ n _ => n
  | _ => 0
set_option maxHeartbeats 4000000 in
theorem reof_any (tag y k : Int) (a : Option Addr) (n c : Nat) (d : List Int) (o : Int) (w : World) (hs : Sl w a n c 1 (ints .u8 d)) (hd : Byt d) (hn : n ≤ 1000000000) (ht : tagB tag = true) (ho : o = 1 ∨ o = 2) (hm : mayS y k d = true) :
    Calls Tryz.prog 138 #[.int .i64 tag, .agg #[.int .i64 y, .int .i64 k, .slice a n c], .int .i64 o] w fun e w' => ∃ x0 x1 x2 x3, e = .returned (.tuple #[.agg #[.int .i64 x0, .int .i64 x1, .int .i64 x2, .int .i64 x3], .bool (inlB y k)]) ∧ Below w.heap.size w w' ∧
      (inlB y k = true → x0 = tag ∧ x1 = y ∧ x2 = k ∧ x3 = getV (padB (bytesV (tag, y, k, d) o)) 0 4 o) := by
  obtain ⟨i0, hi, hz0, hz1, hz2⟩ := info_parts infoB
  obtain ⟨W1, hW1, bA, bB, hb1, s1⟩ := two_boxes w 76 #[.int .i64 y, .int .i64 k, .slice a n c] 62 #[.int .i64 0, .int .i64 0, .int .i64 0, .int .i64 0]
  unfold tagB at ht
  simp at ht
  have d1 : decide (tag < 0) = false := by simp; omega
  have d2 : decide (65535 < tag) = false := by simp; omega
  have d3 : decide (o < 1) = false := by simp; omega
  have d4 : decide (2 < o) = false := by simp; omega
  have hM := rmay_any y k a n c d W1 (hs.mono hb1)
  rw [hm, ← hW1] at hM
  have hI := fun W => rinl_any y k W
  have hil : inlB y k = true → (bytesV (tag, y, k, d) o).length ≤ 4 := fun h => by
    rw [bytesV_len (x := (tag, y, k, d)) hm ho]
    have := (mayF hm ho).long
    unfold inlB at h
    simp at h
    show d.length ≤ 4
    omega
  have hby := byt_bytesV (x := (tag, y, k, d)) (o := o) hd
  obtain ⟨b, hb⟩ : ∃ b, bytesV (tag, y, k, d) o = b := ⟨_, rfl⟩
  rw [hb] at hil hby ⊢
  generalize inlB y k = r at *
  clear ht
  have hb1' := Lib.hid hb1
  have bA' := Lib.hid bA
  have bB' := Lib.hid bB
  have hM' := Lib.hid hM
  have hI' := Lib.hid hI
  have hs' := Lib.hid hs
  have hW1' := Lib.hid hW1
  have hd' := Lib.hid hd
  have hil' := Lib.hid hil
  have hby' := Lib.hid hby
  have hm' := Lib.hid hm
  have hb' := Lib.hid hb
  clear hb1 bA bB hM hI hs hW1 hd hil hby hm hb
  go_enter Tryz.func138, Tryz.ntmps138
  go_wp2_with fail
  refine hM'.out.mono ?_
  rw [hW1'.out]
  rintro e w2 ⟨rfl, hb2⟩
  have b0w2 := bA'.out.late hb2
  have b1w2 := bB'.out.late hb2
  have hbw2 := hb1'.out.trans (hb2.mono hb1'.out.size)
  have b0w2' := Lib.hid b0w2
  have b1w2' := Lib.hid b1w2
  have hbw2' := Lib.hid hbw2
  have hb2' := Lib.hid hb2
  clear b0w2 b1w2 hbw2 hb2
  have v0 : w2.cell? ⟨w.heap.size, 0, none⟩ = some (.int .i64 y) := b0w2'.out.cell rfl
  have v1 : w2.cell? ⟨w.heap.size, 1, none⟩ = some (.int .i64 k) := b0w2'.out.cell rfl
  have v2 : w2.cell? ⟨w.heap.size, 2, none⟩ = some (.slice a n c) := b0w2'.out.cell rfl
  go_wp2_with fail
  refine (hI'.out _).mono ?_
  rintro e w3 ⟨rfl, hb3⟩
  have b0w3 := b0w2'.out.late hb3
  have b1w3 := b1w2'.out.late hb3
  have hbw3 := hbw2'.out.trans (hb3.mono hbw2'.out.size)
  clear v0 v1 v2
  have b0w3' := Lib.hid b0w3
  have b1w3' := Lib.hid b1w3
  have hbw3' := Lib.hid hbw3
  have hb3' := Lib.hid hb3
  clear b0w3 b1w3 hbw3 hb3
  cases r with
  | false =>
    have p0 : w3.cell? ⟨w.heap.size + 1, 0, none⟩ = some (.int .i64 0) := b1w3'.out.cell rfl
    have p1 : w3.cell? ⟨w.heap.size + 1, 1, none⟩ = some (.int .i64 0) := b1w3'.out.cell rfl
    have p2 : w3.cell? ⟨w.heap.size + 1, 2, none⟩ = some (.int .i64 0) := b1w3'.out.cell rfl
    have p3 : w3.cell? ⟨w.heap.size + 1, 3, none⟩ = some (.int .i64 0) := b1w3'.out.cell rfl
    have y0 := b1w3'.out.frozen 0
    have y1 := b1w3'.out.frozen 1
    have y2 := b1w3'.out.frozen 2
    have y3 := b1w3'.out.frozen 3
    have bN := (((b1w3'.out.set 0 (.int .i64 0)).set 1 (.int .i64 0)).set 2 (.int .i64 0)).set 3 (.int .i64 0)
    have hbN := (((hbw3'.out.setCell (p := ⟨w.heap.size + 1, 0, none⟩) (by show w.heap.size ≤ w.heap.size + 1; omega) (.int .i64 0)).setCell (p := ⟨w.heap.size + 1, 1, none⟩) (by show w.heap.size ≤ w.heap.size + 1; omega) (.int .i64 0)).setCell (p := ⟨w.heap.size + 1, 2, none⟩) (by show w.heap.size ≤ w.heap.size + 1; omega) (.int .i64 0)).setCell (p := ⟨w.heap.size + 1, 3, none⟩) (by show w.heap.size ≤ w.heap.size + 1; omega) (.int .i64 0)
    have bN' := Lib.hid bN
    have hbN' := Lib.hid hbN
    clear bN hbN
    go_wp2_with fail
    refine bodyPost_ret (results_blk_tmp rfl _ _ (w.heap.size + 1) 62 #[.int .i64 0, .int .i64 0, .int .i64 0, .int .i64 0] _ rfl bN'.out Tryz.underlying62 rfl (by kernel_rfl)) rfl ?_
    exact ⟨0, 0, 0, 0, rfl, hbN'.out, fun h => by cases h⟩
  | true =>
    have v0 : w3.cell? ⟨w.heap.size, 0, none⟩ = some (.int .i64 y) := b0w3'.out.cell rfl
    have v1 : w3.cell? ⟨w.heap.size, 1, none⟩ = some (.int .i64 k) := b0w3'.out.cell rfl
    have v2 : w3.cell? ⟨w.heap.size, 2, none⟩ = some (.slice a n c) := b0w3'.out.cell rfl
    go_wp2_with fail
    refine (rbytes_any tag y k a n c d o w3 (hs'.out.mono hbw3'.out) hn).mono ?_
    rintro e w4 ⟨a4, m4, c4, rfl, ho4, hb4⟩
    rw [hb'.out] at ho4
    have hbl := (Sl.of_own ho4).1.ilen
    have hm4 := hil'.out (by simp)
    rw [hbl] at hm4
    have ho5 := own_mono ho4 hbw3'.out.size
    have hbw4 := hbw3'.out.trans (hb4.mono hbw3'.out.size)
    have b0w4 := b0w3'.out.late hb4
    have b1w4 := b1w3'.out.late hb4
    clear v0 v1 v2 ho4
    have b0w4' := Lib.hid b0w4
    have b1w4' := Lib.hid b1w4
    have hbw4' := Lib.hid hbw4
    have hb4' := Lib.hid hb4
    have ho5' := Lib.hid ho5
    have hbl' := Lib.hid hbl
    clear b0w4 b1w4 hbw4 hb4 ho5 hbl
    go_wp2_with fail
    go_loopw [8] (fun bv wr => ∃ (q : Nat) (a5 : Option Addr) (c5 : Nat) (R : List Int), q ≤ 4 ∧ bv = .slice a5 q c5 ∧ Hid (m4 ≤ q ∧ R = b ++ List.replicate (q - m4) 0) ∧ Hid (wr.ownsRow w.heap.size 5 1 (.slice a5 q c5) q (ints .u8 R)) ∧ Hid (Blk wr w.heap.size 76 #[.int .i64 y, .int .i64 k, .slice a n c]) ∧ Hid (Blk wr (w.heap.size + 1) 62 #[.int .i64 0, .int .i64 0, .int .i64 0, .int .i64 0]) ∧ Hid (Below w.heap.size w wr)) (fun bv _ => 4 - lenV bv)
    case atStart => exact ⟨m4, a4, c4, b, hm4, rfl, Lib.hid ⟨Nat.le_refl _, by simp⟩, ho5', b0w4', b1w4', hbw4'⟩
    case round =>
      obtain ⟨q, a5, c5, R, hq, rfl, HR, Ob, b0wr', b1wr', hbwr'⟩ := hrel
      by_cases hlt : q < 4
      · have hlt2 : (q : Int) < 4 := by omega
        have e1 : m4 ≤ q + 1 ∧ R ++ [0] = b ++ List.replicate (q + 1 - m4) 0 := by
          obtain ⟨h1, h2⟩ := HR.out
          exact ⟨by omega, by rw [h2, show q + 1 - m4 = (q - m4) + 1 by omega, List.replicate_succ', List.append_assoc]⟩
        have hal := (Below.refl wr.heap.size wr).alloc (Nat.le_refl _) (.cells #[.int .u8 0] 5)
        have ob0 := Ob.out.alloc (.cells #[.int .u8 0] 5)
        have g0 := b0wr'.out.late hal
        have g1 := b1wr'.out.late hal
        have e1' := Lib.hid e1
        have hal' := Lib.hid hal
        have ob0' := Lib.hid ob0
        have g0' := Lib.hid g0
        have g1' := Lib.hid g1
        clear e1 hal ob0 g0 g1
        go_wp2_with (at_builtin; refine wpList_app rfl _ _ 30 rfl w.heap.size 5 i0 _ 1 1 Tryz.underlying30 hi hz0 hz1 hz2 rfl (by decide) _ q _ rfl ob0'.out _ 1 1 _ rfl (Sl.new wr 5 1 1 _ (0, 0) (by omega) rfl) (by simp [Value.oneCell']) (by omega) (by decide) (by have := hbwr'.out.size; simp; omega) ?_; intro a6 c6 w6 ob6 hb6 hg6; have G0 := Lib.hid (g0'.out.grown hg6 (own_ne_blk0 ob0'.out g0'.out (by decide))); have G1 := Lib.hid (g1'.out.grown hg6 (own_ne_blk0 ob0'.out g1'.out (by decide))); have Ob6 := Lib.hid ob6; have Hb6 := Lib.hid (((hbwr'.out).alloc hbwr'.out.size _).trans hb6); clear ob6 hb6 hg6)
        go_roundw
        case rel => exact ⟨q + 1, a6, c6, R ++ [0], by omega, rfl, e1', Lib.hid (by rw [ints_append]; exact Ob6.out), G0, G1, Hb6⟩
        case measure => simp [lenV]; omega
      · obtain rfl : q = 4 := by omega
        have ho6 := Ob.out
        rw [HR.out.2, padR (by rw [hbl'.out]; have := HR.out.1; omega)] at ho6
        have hG := rget_any a5 4 c5 (padB b) 0 4 o wr (Sl.of_own ho6).1 (byt_pad hby'.out)
        obtain ⟨gv, hgv⟩ : ∃ v, getV (padB b) 0 4 o = v := ⟨_, rfl⟩
        rw [hgv] at hG
        clear ho6
        have hG' := Lib.hid hG
        have hgv' := Lib.hid hgv
        clear hG hgv
        go_wp2_with fail
        refine hG'.out.mono ?_
        rintro e w7 ⟨rfl, hb7⟩
        have b0w7 := b0wr'.out.late hb7
        have b1w7 := b1wr'.out.late hb7
        have hbw7 := hbwr'.out.trans (hb7.mono hbwr'.out.size)
        have b0w7' := Lib.hid b0w7
        have b1w7' := Lib.hid b1w7
        have hbw7' := Lib.hid hbw7
        have hb7' := Lib.hid hb7
        clear b0w7 b1w7 hbw7 hb7
        have v0 : w7.cell? ⟨w.heap.size, 0, none⟩ = some (.int .i64 y) := b0w7'.out.cell rfl
        have v1 : w7.cell? ⟨w.heap.size, 1, none⟩ = some (.int .i64 k) := b0w7'.out.cell rfl
        have v2 : w7.cell? ⟨w.heap.size, 2, none⟩ = some (.slice a n c) := b0w7'.out.cell rfl
        have p0 : w7.cell? ⟨w.heap.size + 1, 0, none⟩ = some (.int .i64 0) := b1w7'.out.cell rfl
        have p1 : w7.cell? ⟨w.heap.size + 1, 1, none⟩ = some (.int .i64 0) := b1w7'.out.cell rfl
        have p2 : w7.cell? ⟨w.heap.size + 1, 2, none⟩ = some (.int .i64 0) := b1w7'.out.cell rfl
        have p3 : w7.cell? ⟨w.heap.size + 1, 3, none⟩ = some (.int .i64 0) := b1w7'.out.cell rfl
        have y0 := b1w7'.out.frozen 0
        have y1 := b1w7'.out.frozen 1
        have y2 := b1w7'.out.frozen 2
        have y3 := b1w7'.out.frozen 3
        have bN := (((b1w7'.out.set 0 (.int .i64 tag)).set 1 (.int .i64 y)).set 2 (.int .i64 k)).set 3 (.int .i64 gv)
        have hbN := (((hbw7'.out.setCell (p := ⟨w.heap.size + 1, 0, none⟩) (by show w.heap.size ≤ w.heap.size + 1; omega) (.int .i64 tag)).setCell (p := ⟨w.heap.size + 1, 1, none⟩) (by show w.heap.size ≤ w.heap.size + 1; omega) (.int .i64 y)).setCell (p := ⟨w.heap.size + 1, 2, none⟩) (by show w.heap.size ≤ w.heap.size + 1; omega) (.int .i64 k)).setCell (p := ⟨w.heap.size + 1, 3, none⟩) (by show w.heap.size ≤ w.heap.size + 1; omega) (.int .i64 gv)
        have bN' := Lib.hid bN
        have hbN' := Lib.hid hbN
        clear bN hbN
        go_wp2_with fail
        refine bodyPost_ret (results_blk_tmp rfl _ _ (w.heap.size + 1) 62 #[.int .i64 tag, .int .i64 y, .int .i64 k, .int .i64 gv] _ rfl bN'.out Tryz.underlying62 rfl (by kernel_rfl)) rfl ?_
        exact ⟨tag, y, k, gv, rfl, hbN'.out, by simp [hgv'.out]⟩
set_option maxHeartbeats 4000000 in
theorem rewrite_any (x0 x1 x2 x3 o : Int) (w : World) (hok : entOk (x0, x1, x2, x3) o = true) :
    Calls Tryz.prog 140 #[.agg #[.int .i64 x0, .int .i64 x1, .int .i64 x2, .int .i64 x3], .int .i64 o] w fun e w' => ∃ a c, e = .returned (.tuple #[.slice a 12 c, .bool true]) ∧ w'.ownsRow w.heap.size 5 1 (.slice a 12 c) 12 (ints .u8 (entW (x0, x1, x2, x3) o)) ∧ Below w.heap.size w w' := by
  obtain ⟨i0, hi, hz0, hz1, hz2⟩ := info_parts infoB
  unfold entOk at hok
  simp only [Bool.and_eq_true] at hok
  obtain ⟨⟨⟨h0, h1⟩, h2⟩, h3⟩ := hok
  have hP0 := fun W => r1put_any x0 2 o W
  have hP1 := fun W => r1put_any x1 2 o W
  have hP2 := fun W => r1put_any x2 4 o W
  have hP3 := fun W => r1put_any x3 4 o W
  have hl0 := putS_length h0
  have hl1 := putS_length h1
  have hl2 := putS_length h2
  have hl3 := putS_length h3
  simp only [h0] at hP0
  simp only [h1] at hP1
  simp only [h2] at hP2
  simp only [h3] at hP3
  have he : entW (x0, x1, x2, x3) o = putS x0 2 o ++ putS x1 2 o ++ putS x2 4 o ++ putS x3 4 o := rfl
  rw [he]
  generalize putS x0 2 o = l0 at *
  generalize putS x1 2 o = l1 at *
  generalize putS x2 4 o = l2 at *
  generalize putS x3 4 o = l3 at *
  clear he h0 h1 h2 h3
  have hbW1 := (Below.refl w.heap.size w).alloc (Nat.le_refl _) (.cells #[.int .i64 x0, .int .i64 x1, .int .i64 x2, .int .i64 x3] 62)
  have b1W1 := Blk.new w 62 #[.int .i64 x0, .int .i64 x1, .int .i64 x2, .int .i64 x3]
  obtain ⟨W1, hW1⟩ : ∃ W1, w.alloc (.cells #[.int .i64 x0, .int .i64 x1, .int .i64 x2, .int .i64 x3] 62) = W1 := ⟨_, rfl⟩
  rw [hW1] at hbW1 b1W1
  have hP0' := Lib.hid hP0
  have hP1' := Lib.hid hP1
  have hP2' := Lib.hid hP2
  have hP3' := Lib.hid hP3
  have hl0' := Lib.hid hl0
  have hl1' := Lib.hid hl1
  have hl2' := Lib.hid hl2
  have hl3' := Lib.hid hl3
  have hbW1' := Lib.hid hbW1
  have b1W1' := Lib.hid b1W1
  clear hP0 hP1 hP2 hP3 hl0 hl1 hl2 hl3 hbW1 b1W1
  go_enter Tryz.func140, Tryz.ntmps140
  go_upto_region 1 with fail
  try rw [hW1]
  clear hW1
  have c0 : W1.cell? ⟨w.heap.size, 0, none⟩ = some (.int .i64 x0) := b1W1'.out.cell rfl
  go_wp2_with fail
  refine (hP0'.out _).mono ?_
  rintro e w2 ⟨q2, m2, k2, rfl, hp2, hb2⟩
  obtain rfl : m2 = 2 := by have := (Sl.of_own hp2).1.ilen; rw [hl0'.out] at this; exact this.symm
  have hs2 := (Sl.of_own hp2).1
  have b1w2 := b1W1'.out.late hb2
  have hbw2 := hbW1'.out.trans (hb2.mono hbW1'.out.size)
  clear c0 hp2
  have hs2' := Lib.hid hs2
  have b1w2' := Lib.hid b1w2
  have hbw2' := Lib.hid hbw2
  have hb2' := Lib.hid hb2
  clear hs2 b1w2 hbw2 hb2
  have c1 : w2.cell? ⟨w.heap.size, 1, none⟩ = some (.int .i64 x1) := b1w2'.out.cell rfl
  go_wp2_with fail
  refine (hP1'.out _).mono ?_
  rintro e w3 ⟨q3, m3, k3, rfl, hp3, hb3⟩
  obtain rfl : m3 = 2 := by have := (Sl.of_own hp3).1.ilen; rw [hl1'.out] at this; exact this.symm
  have hs3 := (Sl.of_own hp3).1
  have b1w3 := b1w2'.out.late hb3
  have hbw3 := hbw2'.out.trans (hb3.mono hbw2'.out.size)
  clear c1 hp3
  have hs3' := Lib.hid hs3
  have b1w3' := Lib.hid b1w3
  have hbw3' := Lib.hid hbw3
  have hb3' := Lib.hid hb3
  clear hs3 b1w3 hbw3 hb3
  have c2 : w3.cell? ⟨w.heap.size, 2, none⟩ = some (.int .i64 x2) := b1w3'.out.cell rfl
  go_wp2_with fail
  refine (hP2'.out _).mono ?_
  rintro e w4 ⟨q4, m4, k4, rfl, hp4, hb4⟩
  obtain rfl : m4 = 4 := by have := (Sl.of_own hp4).1.ilen; rw [hl2'.out] at this; exact this.symm
  have hs4 := (Sl.of_own hp4).1
  have b1w4 := b1w3'.out.late hb4
  have hbw4 := hbw3'.out.trans (hb4.mono hbw3'.out.size)
  clear c2 hp4
  have hs4' := Lib.hid hs4
  have b1w4' := Lib.hid b1w4
  have hbw4' := Lib.hid hbw4
  have hb4' := Lib.hid hb4
  clear hs4 b1w4 hbw4 hb4
  have c3 : w4.cell? ⟨w.heap.size, 3, none⟩ = some (.int .i64 x3) := b1w4'.out.cell rfl
  go_wp2_with fail
  refine (hP3'.out _).mono ?_
  rintro e w5 ⟨q5, m5, k5, rfl, hp5, hb5⟩
  obtain rfl : m5 = 4 := by have := (Sl.of_own hp5).1.ilen; rw [hl3'.out] at this; exact this.symm
  have hs5 := (Sl.of_own hp5).1
  have b1w5 := b1w4'.out.late hb5
  have hbw5 := hbw4'.out.trans (hb5.mono hbw4'.out.size)
  clear c3 hp5
  have hs5' := Lib.hid hs5
  have b1w5' := Lib.hid b1w5
  have hbw5' := Lib.hid hbw5
  have hb5' := Lib.hid hb5
  clear hs5 b1w5 hbw5 hb5
  have hr2 := hs2'.out.mono ((hb3'.out.trans (hb4'.out.mono hb3'.out.size)).trans (hb5'.out.mono (hb3'.out.trans (hb4'.out.mono hb3'.out.size)).size))
  have hr3 := hs3'.out.mono (hb4'.out.trans (hb5'.out.mono hb4'.out.size))
  have hr4 := hs4'.out.mono hb5'.out
  have hr2' := Lib.hid hr2
  have hr3' := Lib.hid hr3
  have hr4' := Lib.hid hr4
  clear hr2 hr3 hr4
  go_wp2_with (at_builtin; first
    | (refine wpList_app rfl _ _ 30 rfl w5.heap.size 5 i0 _ 1 1 Tryz.underlying30 hi hz0 hz1 hz2 rfl (by decide) _ 0 [] rfl (own_new w5 w5.heap.size 5 1 0 #[] (Nat.le_refl _) (by unfold maxLen; omega) rfl) q2 2 k2 _ rfl (sl_alloc hr2'.out _) ints_one (by omega) (by decide) (by simp) ?_; intro e1 f1 v1 ob1 hg1 hx1; rw [Nat.zero_add, List.nil_append] at ob1; have Ob1 := Lib.hid ob1; have Hb1 := Lib.hid (((Below.refl w5.heap.size w5).alloc (Nat.le_refl _) (.cells #[] 5)).trans hg1); clear ob1 hg1 hx1)
    | (refine wpList_app rfl _ _ 30 rfl w5.heap.size 5 i0 _ 1 1 Tryz.underlying30 hi hz0 hz1 hz2 rfl (by decide) _ 2 _ rfl Ob1.out q3 2 k3 _ rfl (hr3'.out.mono Hb1.out) ints_one (by omega) (by decide) Hb1.out.size ?_; intro e2 f2 v2 ob2 hg2 hx2; have Ob2 := Lib.hid ob2; have Hb2 := Lib.hid (Hb1.out.trans hg2); clear ob2 hg2 hx2)
    | (refine wpList_app rfl _ _ 30 rfl w5.heap.size 5 i0 _ 1 1 Tryz.underlying30 hi hz0 hz1 hz2 rfl (by decide) _ 4 _ rfl Ob2.out q4 4 k4 _ rfl (hr4'.out.mono Hb2.out) ints_one (by omega) (by decide) Hb2.out.size ?_; intro e3 f3 v3 ob3 hg3 hx3; have Ob3 := Lib.hid ob3; have Hb3 := Lib.hid (Hb2.out.trans hg3); clear ob3 hg3 hx3)
    | (refine wpList_app rfl _ _ 30 rfl w5.heap.size 5 i0 _ 1 1 Tryz.underlying30 hi hz0 hz1 hz2 rfl (by decide) _ 8 _ rfl Ob3.out q5 4 k5 _ rfl (hs5'.out.mono Hb3.out) ints_one (by omega) (by decide) Hb3.out.size ?_; intro e4 f4 v4 ob4 hg4 hx4; have Ob4 := Lib.hid ob4; have Hb4 := Lib.hid (Hb3.out.trans hg4); clear ob4 hg4 hx4)
    | fail)
  go_ret2
  refine ⟨e4, f4, rfl, ?_, hbw5'.out.trans (Hb4.out.mono hbw5'.out.size)⟩
  have := own_mono Ob4.out hbw5'.out.size
  rw [← ints_append, ← ints_append, ← ints_append] at this
  exact this
end Go.Proofs.YtilennmeiaehnaaGreat

namespace Go.Proofs.YtilennmeiaehnaaGreat
open Go.RowKit Tt
set_option linter.unusedVariables false
set_option linter.unusedSimpArgs false

def outV (x : Tgs) : Int := outS x.2.1 x.2.2.1
theorem outV_nn (x : Tgs) : 0 ≤ outV x := by
  unfold outV outS
  have := longS_le x.2.1 x.2.2.1
  split <;> omega
def itmV (no : Int) (ts : List Tgs) : List Itm := (ts.filter fun x => decide (0 < outV x)).map fun x => (3, no, x.1, outV x)
def itmB (no : Int) (b : List Int) : List Itm := if 0 < b.length then [(4, no, 0, (b.length : Int))] else []
def itmSs {f : Nat} (rec : DirT f → Int → List Itm) : List (Int × DirT f) → Int → List Itm
  | [], _ => []
  | s :: ss, no => rec s.2 no ++ itmSs rec ss (no + (flatS f s.2).length)
/-- what is laid of a directory and all within it -/
def itmD : (f : Nat) → DirT f → Int → List Itm
  | 0, _, _ => []
  | f + 1, d, no => (2, no, 0, 6 + 12 * ((entN d.1.length d.2.1.length d.2.2.length : Nat) : Int)) :: (itmV no d.1 ++ (itmSs (itmD f) d.2.1 (no + 1) ++ itmB no d.2.2))
theorem itmD_succ (f : Nat) (d : DirT (f + 1)) (no : Int) : itmD (f + 1) d no =
    (2, no, 0, 6 + 12 * ((entN d.1.length d.2.1.length d.2.2.length : Nat) : Int)) :: (itmV no d.1 ++ (itmSs (itmD f) d.2.1 (no + 1) ++ itmB no d.2.2)) := rfl
def itmT (f : Nat) (ds : List (DirT f)) : List Itm := (1, -1, 0, 8) :: itmSs (itmD f) (prs f ds) 0
theorem vals_push (no : Int) : ∀ (ts : List Tgs) (l : List Spt), valsS no ts l = (itmV no ts).foldl pushI l
  | [], l => rfl
  | x :: ts, l => by
    have ih := vals_push no ts
    unfold valsS at ih ⊢
    unfold itmV at ih ⊢
    rw [List.foldl_cons, List.filter_cons]
    by_cases h : 0 < outV x
    · rw [if_pos (by simpa [outV] using h), if_pos (by simpa using h), List.map_cons, List.foldl_cons]
      exact ih _
    · rw [if_neg (by simpa [outV] using h), if_neg (by simpa using h)]
      exact ih _
theorem subs_push (f : Nat) (ih : ∀ (d : DirT f) (no : Int) (l : List Spt), layS f d no l = (itmD f d no).foldl pushI l) : ∀ (ss : List (Int × DirT f)) (no : Int) (l : List Spt), (laySubs f ss (l, no)).1 = (itmSs (itmD f) ss no).foldl pushI l
  | [], _, _ => rfl
  | s :: ss, no, l => by
    rw [laySubs_cons]
    show (laySubs f ss (layS f s.2 no l, no + (flatS f s.2).length)).1 = _
    rw [subs_push f ih ss, ih, ← List.foldl_append]
    rfl
theorem lay_push : ∀ (f : Nat) (d : DirT f) (no : Int) (l : List Spt), layS f d no l = (itmD f d no).foldl pushI l
  | 0, _, _, _ => rfl
  | f + 1, d, no, l => by
    rw [layS_succ, itmD_succ, List.foldl_cons, List.foldl_append, List.foldl_append, ← vals_push]
    have hs := subs_push f (lay_push f) d.2.1 (no + 1) (valsS no d.1 (addS l 2 no 0 (6 + 12 * (entN d.1.length d.2.1.length d.2.2.length : Nat))))
    rw [hs]
    unfold itmB
    split <;> rfl
theorem layT_eq (f : Nat) (ds : List (DirT f)) : layT f ds = placed 0 (itmT f ds) ∧ endS (layT f ds) = endP 0 (itmT f ds) := by
  have h := push_all (itmT f ds) []
  have e : layT f ds = (itmT f ds).foldl pushI [] := by
    unfold layT
    rw [subs_push f (lay_push f)]
    rfl
  rw [e, h.2, h.1]
  exact ⟨rfl, rfl⟩
theorem itmSs_mem {f : Nat} {rec : DirT f → Int → List Itm} : ∀ {ss : List (Int × DirT f)} {no : Int} {x : Itm}, x ∈ itmSs rec ss no → ∃ j, j < ss.length ∧ x ∈ rec (ss.getD j (0, dirZ f)).2 (no + (flats f (ss.take j)).length)
  | [], _, _, h => by cases h
  | s :: ss, no, x, h => by
    rcases List.mem_append.1 h with h | h
    · exact ⟨0, by simp, by simpa [flats] using h⟩
    · obtain ⟨j, hj, hx⟩ := itmSs_mem h
      refine ⟨j + 1, by simpa using hj, ?_⟩
      have e : no + (flatS f s.2).length + (flats f (ss.take j)).length = no + (flats f ((s :: ss).take (j + 1))).length := by
        rw [List.take_succ_cons]
        unfold flats
        rw [List.flatMap_cons, List.length_append]
        omega
      rw [e] at hx
      simpa using hx
theorem itmSs_get {f : Nat} {rec : DirT f → Int → List Itm} : ∀ {ss : List (Int × DirT f)} {no : Int} {j : Nat}, j < ss.length → ∀ x ∈ rec (ss.getD j (0, dirZ f)).2 (no + (flats f (ss.take j)).length), x ∈ itmSs rec ss no
  | [], _, _, h, _, _ => by simp at h
  | s :: ss, no, 0, _, x, hx => List.mem_append.2 (.inl (by simpa [flats] using hx))
  | s :: ss, no, j + 1, h, x, hx => by
    refine List.mem_append.2 (.inr (itmSs_get (j := j) (by simpa using h) x ?_))
    have e : no + (flatS f s.2).length + (flats f (ss.take j)).length = no + (flats f ((s :: ss).take (j + 1))).length := by
      rw [List.take_succ_cons]
      unfold flats
      rw [List.flatMap_cons, List.length_append]
      omega
    rw [e]
    simpa using hx
theorem flats_get_le (f : Nat) (ss : List (Int × DirT f)) {j : Nat} (h : j < ss.length) : (flats f (ss.take j)).length + (flatS f (ss.getD j (0, dirZ f)).2).length ≤ (flats f ss).length := by
  have := flats_take_le f ss (j + 1)
  rw [flats_step f ss h] at this
  rw [getD_el h]
  exact this
/-- all items of a directory bear its number, or one of those behind -/
theorem itmD_no : ∀ (f : Nat) (d : DirT f) (no : Int) (x : Itm), x ∈ itmD f d no → no ≤ x.2.1 ∧ x.2.1 < no + (flatS f d).length ∧ 0 ≤ x.2.2.2 ∧ 2 ≤ x.1 ∧ x.1 ≤ 4
  | 0, _, _, _, h => by cases h
  | f + 1, d, no, x, h => by
    have e : (flatS (f + 1) d).length = (flats f d.2.1).length + 1 := by rw [flatS_succ]; rfl
    rw [itmD_succ] at h
    rw [e]
    rcases List.mem_cons.1 h with rfl | h
    · simp; omega
    rcases List.mem_append.1 h with h | h
    · obtain ⟨t, ht, rfl⟩ := List.mem_map.1 h
      have := outV_nn t
      simp; omega
    rcases List.mem_append.1 h with h | h
    · obtain ⟨j, hj, hx⟩ := itmSs_mem h
      have h1 := itmD_no f _ _ _ hx
      have h2 := flats_get_le f d.2.1 hj
      omega
    · unfold itmB at h
      split at h
      · obtain rfl : x = _ := by simpa using h
        simp; omega
      · cases h
/-- the tags of each directory are others -/
def DisD : (f : Nat) → DirT f → Prop
  | 0, _ => True
  | f + 1, d => (d.1.Pairwise fun x y => x.1 ≠ y.1) ∧ ∀ s ∈ d.2.1, DisD f s.2
theorem nodup_map_of {α β : Type} {g : α → β} {l : List α} (h : l.Pairwise fun x y => g x ≠ g y) : (l.map g).Nodup := by
  unfold List.Nodup
  rw [List.pairwise_map]
  exact h
theorem itmSs_keys {f : Nat} (ih : ∀ (d : DirT f) (no : Int), DisD f d → ((itmD f d no).map keyI).Nodup) : ∀ (ss : List (Int × DirT f)) (no : Int), (∀ s ∈ ss, DisD f s.2) → ((itmSs (itmD f) ss no).map keyI).Nodup
  | [], _, _ => List.nodup_nil
  | s :: ss, no, h => by
    show ((itmD f s.2 no ++ itmSs (itmD f) ss (no + (flatS f s.2).length)).map keyI).Nodup
    rw [List.map_append, List.nodup_append]
    refine ⟨ih s.2 no (h s (List.mem_cons_self ..)), itmSs_keys ih ss _ (fun x hx => h x (List.mem_cons_of_mem _ hx)), ?_⟩
    intro a ha b hb e
    obtain ⟨x, hx, rfl⟩ := List.mem_map.1 ha
    obtain ⟨y, hy, rfl⟩ := List.mem_map.1 hb
    obtain ⟨j, hj, hy⟩ := itmSs_mem hy
    have h1 := itmD_no _ _ _ _ hx
    have h2 := itmD_no _ _ _ _ hy
    have h3 : x.2.1 = y.2.1 := congrArg (fun k => k.2.1) e
    omega
theorem itmD_keys : ∀ (f : Nat) (d : DirT f) (no : Int), DisD f d → ((itmD f d no).map keyI).Nodup
  | 0, _, _, _ => List.nodup_nil
  | f + 1, d, no, h => by
    obtain ⟨h1, h2⟩ := h
    have hV : ∀ x ∈ itmV no d.1, x.1 = 3 ∧ x.2.1 = no := fun x hx => by
      obtain ⟨t, ht, rfl⟩ := List.mem_map.1 hx; exact ⟨rfl, rfl⟩
    have hB : ∀ x ∈ itmB no d.2.2, x.1 = 4 ∧ x.2.1 = no := fun x hx => by
      unfold itmB at hx
      split at hx
      · obtain rfl : x = _ := by simpa using hx
        exact ⟨rfl, rfl⟩
      · cases hx
    have hS : ∀ x ∈ itmSs (itmD f) d.2.1 (no + 1), no < x.2.1 := fun x hx => by
      obtain ⟨j, hj, hx⟩ := itmSs_mem hx
      have := itmD_no _ _ _ _ hx
      omega
    rw [itmD_succ, List.map_cons, List.nodup_cons, List.map_append, List.nodup_append, List.map_append, List.nodup_append]
    refine ⟨?_, ?_, ⟨itmSs_keys (itmD_keys f) _ _ h2, ?_, ?_⟩, ?_⟩
    · intro hm
      rw [← List.map_append, ← List.map_append] at hm
      obtain ⟨x, hx, e⟩ := List.mem_map.1 hm
      have e1 : x.1 = 2 := congrArg (fun k => k.1) e
      have e2 : x.2.1 = no := congrArg (fun k => k.2.1) e
      rcases List.mem_append.1 hx with hx | hx
      · have := hV x hx; omega
      rcases List.mem_append.1 hx with hx | hx
      · have := hS x hx; omega
      · have := hB x hx; omega
    · unfold itmV
      rw [List.map_map]
      refine nodup_map_of ((List.Pairwise.filter _ h1).imp fun {a b} hab e => hab ?_)
      exact congrArg (fun k => k.2.2) e
    · unfold itmB
      split <;> simp
    · intro a ha b hb e
      obtain ⟨x, hx, rfl⟩ := List.mem_map.1 ha
      obtain ⟨y, hy, rfl⟩ := List.mem_map.1 hb
      have e2 : x.2.1 = y.2.1 := congrArg (fun k => k.2.1) e
      have := hS x hx
      have := hB y hy
      omega
    · intro a ha b hb e
      obtain ⟨x, hx, rfl⟩ := List.mem_map.1 ha
      have h3 := hV x hx
      rw [← List.map_append] at hb
      obtain ⟨y, hy, rfl⟩ := List.mem_map.1 hb
      have e1 : x.1 = y.1 := congrArg (fun k => k.1) e
      have e2 : x.2.1 = y.2.1 := congrArg (fun k => k.2.1) e
      rcases List.mem_append.1 hy with hy | hy
      · have := hS y hy; omega
      · have := hB y hy; omega
theorem itmT_nn (f : Nat) (ds : List (DirT f)) : ∀ x ∈ itmT f ds, 0 ≤ x.2.2.2 := fun x hx => by
  rcases List.mem_cons.1 hx with rfl | hx
  · decide
  · obtain ⟨j, _, hx⟩ := itmSs_mem hx
    exact (itmD_no _ _ _ _ hx).2.2.1
theorem itmT_keys (f : Nat) (ds : List (DirT f)) (h : ∀ d ∈ ds, DisD f d) : ((itmT f ds).map keyI).Nodup := by
  unfold itmT
  rw [List.map_cons, List.nodup_cons]
  refine ⟨fun hm => ?_, itmSs_keys (itmD_keys f) _ _ fun s hs => ?_⟩
  · obtain ⟨x, hx, e⟩ := List.mem_map.1 hm
    obtain ⟨j, _, hx⟩ := itmSs_mem hx
    have h1 := itmD_no _ _ _ _ hx
    have e1 : x.1 = 1 := congrArg (fun k => k.1) e
    omega
  · obtain ⟨d, hd, rfl⟩ := List.mem_map.1 hs
    exact h d hd
theorem layT_keys (f : Nat) (ds : List (DirT f)) (h : ∀ d ∈ ds, DisD f d) : ((layT f ds).map keyS).Nodup := by
  rw [(layT_eq f ds).1, placed_keys]
  exact itmT_keys f ds h
theorem layT_ahead (f : Nat) (ds : List (DirT f)) : (layT f ds).Pairwise Ahead := by
  rw [(layT_eq f ds).1]
  exact placed_ahead _ _ (Int.le_refl _) (itmT_nn f ds)
/-- what is laid has its spot there -/
theorem layT_spot {f : Nat} {ds : List (DirT f)} (h : ∀ d ∈ ds, DisD f d) {x : Itm} (hx : x ∈ itmT f ds) : ∃ s ∈ layT f ds, keyS s = keyI x ∧ s.2.2.2.2 = x.2.2.2 ∧ s.2.2.2.1 = atS (layT f ds) x.1 x.2.1 x.2.2.1 ∧ (layT f ds).any (atP x.1 x.2.1 x.2.2.1) = true ∧ 0 ≤ s.2.2.2.1 ∧ s.2.2.2.1 % 2 = 0 ∧ s.2.2.2.1 + x.2.2.2 ≤ endS (layT f ds) := by
  have he := layT_eq f ds
  obtain ⟨s, h1, h2, h3⟩ := placed_mem (itmT f ds) 0 x hx
  have h4 := placed_in (itmT f ds) 0 (Int.le_refl _) (itmT_nn f ds) s h1
  rw [← he.1] at h1
  rw [← he.2] at h4
  have h5 := atS_key (layT_keys f ds h) h1
  have e1 : s.1 = x.1 := congrArg (fun k => k.1) h2
  have e2 : s.2.1 = x.2.1 := congrArg (fun k => k.2.1) h2
  have e3 : s.2.2.1 = x.2.2.1 := congrArg (fun k => k.2.2) h2
  rw [e1, e2, e3] at h5
  exact ⟨s, h1, h2, h3, h5.2.symm, h5.1, h4.1, h4.2.1, by rw [← h3]; exact h4.2.2.2⟩
theorem fits_of {f : Nat} {ds : List (DirT f)} (h : ∀ d ∈ ds, DisD f d) {a b c : Int} {m : Int} (hx : ((a, b, c, m) : Itm) ∈ itmT f ds) {n k : Nat} (hn : endS (layT f ds) ≤ n) (hk : (k : Int) ≤ m) : Fits (layT f ds) n a b c k := by
  obtain ⟨s, h1, h2, h3, h4, h5, h6, h7, h8⟩ := layT_spot h hx
  simp only at h4 h5 h8
  refine ⟨h5, by rw [← h4]; exact h6, ?_⟩
  rw [← h4]
  omega
end Go.Proofs.YtilennmeiaehnaaGreat
