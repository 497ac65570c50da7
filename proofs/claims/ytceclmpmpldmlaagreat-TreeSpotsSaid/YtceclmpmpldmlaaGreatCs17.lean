/- Chapter 21: the writer writes a value: the program. -/
import Derived.Test.YtceclmpmpldmlaaGreatCs15
import Derived.Test.YtceclmpmpldmlaaGreatCs16
namespace Go.Proofs.YtceclmpmpldmlaaGreat
open Go.RowKit Tt
set_option linter.unusedVariables false
set_option linter.unusedSimpArgs false

/-- a value that is outside has its place -/
def okV (l : List Spt) (n : Nat) (o no : Int) (x : Tgs) : Prop := inlV x o = true ∨ (1 ≤ (bytesV x o).length ∧ Fits l n 3 no x.1 (bytesV x o).length)
theorem apP_one (p : Pt) (P : List Int) : apP [p] P = splice P p.1 p.2 := rfl
set_option maxRecDepth 20000 in
set_option maxHeartbeats 8000000 in
theorem wvalue_any (K : Wc) (w : World) (no dir : Int) (P : List Int) (h : WrS K w no P) (t y k : Int) (a : Option Addr) (n c : Nat) (d : List Int) (w0 : World) (hs : Sl w0 a n c 1 (ints .u8 d)) (hb0 : Below w0.heap.size w0 w) (hgw : w0.heap.size ≤ K.gw) (hgb : w0.heap.size ≤ K.gb) (hd : Byt d) (hn : n ≤ 1000000000) (hok : okV K.l K.n K.o dir (t, y, k, d)) :
    Calls Tryz.prog 90 #[.pointer (some ⟨K.gw, 0, none⟩), .agg #[.int .i64 t, .int .i64 y, .int .i64 k, .slice a n c], .int .i64 dir] w fun e w' =>
      ∃ x0 x1 x2 x3, e = .returned (.agg #[.int .i64 x0, .int .i64 x1, .int .i64 x2, .int .i64 x3]) ∧ (x0, x1, x2, x3) = entT K.l K.o dir (t, y, k, d) ∧ WrS K w' no (apP (patV K.l K.o dir (t, y, k, d)) P) ∧ Mv K.gw K.gb nilV nilV w w' := by
  obtain ⟨W1, hW1, b0, b1, hb1, s1⟩ := two_boxes w 74 #[.int .i64 t, .int .i64 y, .int .i64 k, .slice a n c] 55 #[.int .i64 0, .int .i64 0, .int .i64 0, .int .i64 0]; have hlt := h.ne_of; have h1 := h.later hb1; have hb01 := hb0.trans (hb1.mono hb0.size); have hinl : inlV (t, y, k, d) K.o = eofB t (bytesV (t, y, k, d) K.o) K.o := rfl; obtain ⟨E, hE⟩ : ∃ E, eofB t (bytesV (t, y, k, d) K.o) K.o = E := ⟨_, rfl⟩; rw [hE] at hinl; have hs' := Lib.hid hs; have hb0' := Lib.hid hb0; have hd' := Lib.hid hd; have hok' := Lib.hid hok; have hW1' := Lib.hid hW1; have b0' := Lib.hid b0; have b1' := Lib.hid b1; have hb1' := Lib.hid hb1; have h' := Lib.hid h; have h1' := Lib.hid h1; have hb01' := Lib.hid hb01; have hinl' := Lib.hid hinl; have hE' := Lib.hid hE; clear hs hb0 hd hok hW1 b0 b1 hb1 h h1 hb01 hinl hE
  go_enter Tryz.func90, Tryz.ntmps90
  go_wp2_with fail
  rw [hW1'.out]
  go_cut [7, 8] from 10 to 22 (fun gv bv wx => ∃ (g : Nat) (e0 e1 e2 e3 : Int), gv = .pointer (some ⟨g, 0, none⟩) ∧ bv = .bool E ∧ Hid (Blk wx g 55 #[.int .i64 e0, .int .i64 e1, .int .i64 e2, .int .i64 e3]) ∧ Hid (w.heap.size + 2 ≤ g) ∧ Hid (E = true → e0 = t ∧ e1 = y ∧ e2 = k ∧ e3 = getV (padB (bytesV (t, y, k, d) K.o)) 0 4 K.o) ∧ Hid (Below W1.heap.size W1 wx))
  case first =>
    obtain ⟨Ty, ff, hne, hbel, hsurj⟩ := later_worlds W1; have HS := Lib.hid (hsurj _ ((Below.refl _ _).drew)); have HD := Lib.hid ((Below.refl W1.heap.size W1).drew); have q0 : ∀ s, (ff s).cell? ⟨w.heap.size, 0, none⟩ = some (.int .i64 t) := fun s => (b0'.out.late (hbel s)).cell rfl; have q1 : ∀ s, (ff s).cell? ⟨w.heap.size, 1, none⟩ = some (.int .i64 y) := fun s => (b0'.out.late (hbel s)).cell rfl; have q2 : ∀ s, (ff s).cell? ⟨w.heap.size, 2, none⟩ = some (.int .i64 k) := fun s => (b0'.out.late (hbel s)).cell rfl; have q3 : ∀ s, (ff s).cell? ⟨w.heap.size, 3, none⟩ = some (.slice a n c) := fun s => (b0'.out.late (hbel s)).cell rfl; have q4 : ∀ s, (ff s).cell? ⟨K.gw, 1, none⟩ = some (.int .i64 K.o) := fun s => (h1'.out.blk.late (hbel s)).cell rfl; have hbel' := Lib.hid hbel; have hsurj' := Lib.hid hsurj; clear hbel hsurj; refine held_begin (S := fun W => ∃ s, W = ff s) (by kernel_rfl) 16 rfl ?_; refine held_take [0, 1, 2, 3, 4, 5, 6, 7, 8] 7 (by kernel_rfl) (fun d _ _ _ _ h => by cases d <;> exact h) (by kernel_rfl) (by kernel_rfl) (by kernel_rfl) HS.out ?_; simp only [pickL, List.map_cons, List.map_nil, List.getD_cons_succ, List.getD_cons_zero]
    iterate 9 (go_big_quiet_step (fail))
    refine wpQuiet_nil ?_; obtain ⟨wD, hwD⟩ : ∃ wD, W1.drew = wD := ⟨_, rfl⟩; rw [hwD] at HS HD ⊢; clear hwD; refine held_two 9 13 6 (by kernel_rfl) (by kernel_rfl) ?_ ?_
    · simp only [pickL, List.map_cons, List.map_nil, List.getD_cons_succ, List.getD_cons_zero]
      go_wp2_with fail
      refine (eof_any t y k a n c d K.o wD (hs'.out.mono (hb01'.out.trans (HD.out.mono hb01'.out.size))) hd'.out hn).mono ?_; rintro e w3 ⟨e0, e1, e2, e3, rfl, hb3, hval⟩; have hx3 := HD.out.trans (hb3.mono HD.out.size); have HS := Lib.hid (hsurj'.out _ hx3); have hb3' := Lib.hid hb3; have hval' := Lib.hid hval; have hx3' := Lib.hid hx3; clear hb3 hval hx3
      go_wp2_with fail
      first | refine Mid.mk ⟨HS.out, ?_⟩ | refine Mid.mk ?_
      refine held_take [10, 11, 12] 3 (by kernel_rfl) (fun d _ _ _ _ h => by cases d <;> exact h) (by kernel_rfl) (by kernel_rfl) (by kernel_rfl) HS.out ?_; simp only [pickL, List.map_cons, List.map_nil, List.getD_cons_succ, List.getD_cons_zero]
      iterate 3 (go_big_quiet_step (fail))
      refine wpQuiet_nil ?_; refine held_one 13 2 (by kernel_rfl) (by kernel_rfl) ?_; simp only [pickL, List.map_cons, List.map_nil, List.getD_cons_succ, List.getD_cons_zero]
      go_wp2_with fail
      have bG := Blk.new w3 55 #[.int .i64 0, .int .i64 0, .int .i64 0, .int .i64 0]; have hal := (Below.refl w3.heap.size w3).alloc (Nat.le_refl _) (.cells #[.int .i64 0, .int .i64 0, .int .i64 0, .int .i64 0] 55); have hxA := hx3'.out.trans (hal.mono hx3'.out.size); have hgA : w.heap.size + 2 ≤ w3.heap.size := by rw [← s1]; exact hx3'.out.size
      obtain ⟨g, hg⟩ : ∃ g, w3.heap.size = g := ⟨_, rfl⟩; obtain ⟨wA, hwA⟩ : ∃ wA, w3.alloc (.cells #[.int .i64 0, .int .i64 0, .int .i64 0, .int .i64 0] 55) = wA := ⟨_, rfl⟩; rw [hwA] at bG hal hxA; rw [hwA]; rw [hg] at bG hgA
      try rw [hg]
      have HS := Lib.hid (hsurj'.out _ hxA); have hxL := hxA; have bG' := Lib.hid bG; have hal' := Lib.hid hal; have hxA' := Lib.hid hxA; have hxL' := Lib.hid hxL; have hwA' := Lib.hid hwA; have hg' := Lib.hid hg; clear bG hal hxA hxL hwA hg
      first | refine Mid.mk ⟨HS.out, ?_⟩ | refine Mid.mk ?_
      refine held_one 14 1 (by kernel_rfl) (by kernel_rfl) ?_; simp only [pickL, List.map_cons, List.map_nil, List.getD_cons_succ, List.getD_cons_zero]; have p0 : wA.cell? ⟨g, 0, none⟩ = some (.int .i64 0) := bG'.out.cell rfl; have p1 : wA.cell? ⟨g, 1, none⟩ = some (.int .i64 0) := bG'.out.cell rfl; have p2 : wA.cell? ⟨g, 2, none⟩ = some (.int .i64 0) := bG'.out.cell rfl; have p3 : wA.cell? ⟨g, 3, none⟩ = some (.int .i64 0) := bG'.out.cell rfl; have y0 := bG'.out.frozen 0; have y1 := bG'.out.frozen 1; have y2 := bG'.out.frozen 2; have y3 := bG'.out.frozen 3; have hWg : W1.heap.size ≤ g := by rw [s1]; exact hgA
      go_wp2_with fail
      have bZ := (((bG'.out.set 0 (.int .i64 e0)).set 1 (.int .i64 e1)).set 2 (.int .i64 e2)).set 3 (.int .i64 e3); have hxZ := (((hxL'.out.setCell (p := ⟨g, 0, none⟩) hWg (.int .i64 e0)).setCell (p := ⟨g, 1, none⟩) hWg (.int .i64 e1)).setCell (p := ⟨g, 2, none⟩) hWg (.int .i64 e2)).setCell (p := ⟨g, 3, none⟩) hWg (.int .i64 e3); have HS := Lib.hid (hsurj'.out _ hxZ); clear p0 p1 p2 p3 y0 y1 y2 y3; have bZ' := Lib.hid bZ; have hxZ' := Lib.hid hxZ; clear bZ hxZ
      first | refine Mid.mk ⟨HS.out, ?_⟩ | refine Mid.mk ?_
      refine held_one 15 0 (by kernel_rfl) (by kernel_rfl) ?_; simp only [pickL, List.map_cons, List.map_nil, List.getD_cons_succ, List.getD_cons_zero]
      go_wp2_with fail
      first | refine Mid.mk ⟨HS.out, ?_⟩ | refine Mid.mk ?_
      refine held_last (by kernel_rfl) ?_
      go_wp2_with fail
      go_meet
      exact ⟨g, e0, e1, e2, e3, rfl, by rw [hE'.out], bZ', Lib.hid hgA, Lib.hid (by rw [← hE'.out]; exact hval'.out), hxZ'⟩
    · simp only [pickL, List.map_cons, List.map_nil, List.getD_cons_succ, List.getD_cons_zero]
      go_wp2_with fail
      have bG := Blk.new wD 55 #[.int .i64 0, .int .i64 0, .int .i64 0, .int .i64 0]; have hal := (Below.refl wD.heap.size wD).alloc (Nat.le_refl _) (.cells #[.int .i64 0, .int .i64 0, .int .i64 0, .int .i64 0] 55); have hxA := HD.out.trans (hal.mono HD.out.size); have hgA : w.heap.size + 2 ≤ wD.heap.size := by rw [← s1]; exact HD.out.size
      obtain ⟨g, hg⟩ : ∃ g, wD.heap.size = g := ⟨_, rfl⟩; obtain ⟨wA, hwA⟩ : ∃ wA, wD.alloc (.cells #[.int .i64 0, .int .i64 0, .int .i64 0, .int .i64 0] 55) = wA := ⟨_, rfl⟩; rw [hwA] at bG hal hxA; rw [hwA]; rw [hg] at bG hgA
      try rw [hg]
      have HS := Lib.hid (hsurj'.out _ hxA); have bG' := Lib.hid bG; have hal' := Lib.hid hal; have hxA' := Lib.hid hxA; have hwA' := Lib.hid hwA; have hg' := Lib.hid hg; clear bG hal hxA hwA hg
      first | refine Mid.mk ⟨HS.out, ?_⟩ | refine Mid.mk ?_
      refine held_one 9 5 (by kernel_rfl) (by kernel_rfl) ?_; simp only [pickL, List.map_cons, List.map_nil, List.getD_cons_succ, List.getD_cons_zero]
      go_wp2_with fail
      refine (eof_any t y k a n c d K.o wA (hs'.out.mono (hb01'.out.trans (hxA'.out.mono hb01'.out.size))) hd'.out hn).mono ?_; rintro e w3 ⟨e0, e1, e2, e3, rfl, hb3, hval⟩; have hx3 := hxA'.out.trans (hb3.mono hxA'.out.size); have HS := Lib.hid (hsurj'.out _ hx3); have bG := bG'.out.late hb3; have hxL := hx3; clear bG'; have bG' := Lib.hid bG; have hb3' := Lib.hid hb3; have hval' := Lib.hid hval; have hx3' := Lib.hid hx3; have hxL' := Lib.hid hxL; clear bG hb3 hval hx3 hxL
      go_wp2_with fail
      first | refine Mid.mk ⟨HS.out, ?_⟩ | refine Mid.mk ?_
      refine held_take [10, 11, 12] 2 (by kernel_rfl) (fun d _ _ _ _ h => by cases d <;> exact h) (by kernel_rfl) (by kernel_rfl) (by kernel_rfl) HS.out ?_; simp only [pickL, List.map_cons, List.map_nil, List.getD_cons_succ, List.getD_cons_zero]
      iterate 3 (go_big_quiet_step (fail))
      refine wpQuiet_nil ?_; refine held_one 14 1 (by kernel_rfl) (by kernel_rfl) ?_; simp only [pickL, List.map_cons, List.map_nil, List.getD_cons_succ, List.getD_cons_zero]; have p0 : w3.cell? ⟨g, 0, none⟩ = some (.int .i64 0) := bG'.out.cell rfl; have p1 : w3.cell? ⟨g, 1, none⟩ = some (.int .i64 0) := bG'.out.cell rfl; have p2 : w3.cell? ⟨g, 2, none⟩ = some (.int .i64 0) := bG'.out.cell rfl; have p3 : w3.cell? ⟨g, 3, none⟩ = some (.int .i64 0) := bG'.out.cell rfl; have y0 := bG'.out.frozen 0; have y1 := bG'.out.frozen 1; have y2 := bG'.out.frozen 2; have y3 := bG'.out.frozen 3; have hWg : W1.heap.size ≤ g := by rw [s1]; exact hgA
      go_wp2_with fail
      have bZ := (((bG'.out.set 0 (.int .i64 e0)).set 1 (.int .i64 e1)).set 2 (.int .i64 e2)).set 3 (.int .i64 e3); have hxZ := (((hxL'.out.setCell (p := ⟨g, 0, none⟩) hWg (.int .i64 e0)).setCell (p := ⟨g, 1, none⟩) hWg (.int .i64 e1)).setCell (p := ⟨g, 2, none⟩) hWg (.int .i64 e2)).setCell (p := ⟨g, 3, none⟩) hWg (.int .i64 e3); have HS := Lib.hid (hsurj'.out _ hxZ); clear p0 p1 p2 p3 y0 y1 y2 y3; have bZ' := Lib.hid bZ; have hxZ' := Lib.hid hxZ; clear bZ hxZ
      first | refine Mid.mk ⟨HS.out, ?_⟩ | refine Mid.mk ?_
      refine held_one 15 0 (by kernel_rfl) (by kernel_rfl) ?_; simp only [pickL, List.map_cons, List.map_nil, List.getD_cons_succ, List.getD_cons_zero]
      go_wp2_with fail
      first | refine Mid.mk ⟨HS.out, ?_⟩ | refine Mid.mk ?_
      refine held_last (by kernel_rfl) ?_
      go_wp2_with fail
      go_meet
      exact ⟨g, e0, e1, e2, e3, rfl, by rw [hE'.out], bZ', Lib.hid hgA, Lib.hid (by rw [← hE'.out]; exact hval'.out), hxZ'⟩
  case rest =>
    obtain ⟨g, e0, e1, e2, e3, rfl, rfl, bG, hgN, hval, hbx⟩ := hcut
    rename World => wq
    have h2 := h1'.out.later hbx.out; have b02 := b0'.out.late hbx.out; have b12 := b1'.out.late hbx.out; have hbwq := hb1'.out.trans (hbx.out.mono hb1'.out.size); have hb0q := hb0'.out.trans (hbwq.mono hb0'.out.size); have p0 : wq.cell? ⟨w.heap.size + 1, 0, none⟩ = some (.int .i64 0) := b12.cell rfl; have p1 : wq.cell? ⟨w.heap.size + 1, 1, none⟩ = some (.int .i64 0) := b12.cell rfl; have p2 : wq.cell? ⟨w.heap.size + 1, 2, none⟩ = some (.int .i64 0) := b12.cell rfl; have p3 : wq.cell? ⟨w.heap.size + 1, 3, none⟩ = some (.int .i64 0) := b12.cell rfl; have y0 := b12.frozen 0; have y1 := b12.frozen 1; have y2 := b12.frozen 2; have y3 := b12.frozen 3
    cases E with
    | true =>
      obtain ⟨rfl, rfl, rfl, he3⟩ := hval.out rfl; have u0 : wq.cell? ⟨g, 0, none⟩ = some (.int .i64 e0) := bG.out.cell rfl; have u1 : wq.cell? ⟨g, 1, none⟩ = some (.int .i64 e1) := bG.out.cell rfl; have u2 : wq.cell? ⟨g, 2, none⟩ = some (.int .i64 e2) := bG.out.cell rfl; have u3 : wq.cell? ⟨g, 3, none⟩ = some (.int .i64 e3) := bG.out.cell rfl; have bN := (((b12.set 0 (.int .i64 e0)).set 1 (.int .i64 e1)).set 2 (.int .i64 e2)).set 3 (.int .i64 e3); have hbt := ((((But.refl (w.heap.size + 1) wq).set 0 (.int .i64 e0)).set 1 (.int .i64 e1)).set 2 (.int .i64 e2)).set 3 (.int .i64 e3); clear hval; have h2' := Lib.hid h2; have b02' := Lib.hid b02; have b12' := Lib.hid b12; have hbwq' := Lib.hid hbwq; have hb0q' := Lib.hid hb0q; have bN' := Lib.hid bN; have hbt' := Lib.hid hbt; have he3' := Lib.hid he3; clear h2 b02 b12 hbwq hb0q bN hbt he3
      go_wp2_with fail
      refine bodyPost_ret (results_cell_row rfl _ _ (w.heap.size + 1) 55 #[.int .i64 e0, .int .i64 e1, .int .i64 e2, .int .i64 e3] (0, 0) _ rfl bN'.out Tryz.underlying55 rfl (by kernel_rfl)) rfl ?_; have hbz := hbt'.out.below (B := w.heap.size) (by omega) hbwq'.out.size; have hbw := hbwq'.out.trans hbz; refine ⟨e0, e1, e2, e3, rfl, ?_, ?_, Mv.of_below hbw⟩
      · unfold entT; rw [if_pos hinl'.out, he3'.out]
      · unfold patV; rw [if_pos hinl'.out]; exact h'.out.later hbw
    | false =>
      clear hval bG hgN
      obtain ⟨hl1, hfa, hf0, hfn⟩ : 1 ≤ (bytesV (t, y, k, d) K.o).length ∧ Fits K.l K.n 3 dir t (bytesV (t, y, k, d) K.o).length := by
        rcases hok'.out with h | h
        · rw [hinl'.out] at h; cases h
        · exact h
      have hS := wspot_any K wq no P h2 3 dir t hfa; obtain ⟨q, hq⟩ : ∃ q : Nat, atS K.l 3 dir t = q := ⟨(atS K.l 3 dir t).toNat, by omega⟩; rw [hq] at hS hfn; rw [Int.toNat_natCast] at hfn; have v0 : wq.cell? ⟨w.heap.size, 0, none⟩ = some (.int .i64 t) := b02.cell rfl; clear p0 p1 p2 p3 y0 y1 y2 y3; have h2' := Lib.hid h2; have b02' := Lib.hid b02; have b12' := Lib.hid b12; have hbwq' := Lib.hid hbwq; have hb0q' := Lib.hid hb0q; have hS' := Lib.hid hS; have hfa' := Lib.hid hfa; have hq' := Lib.hid hq; clear h2 b02 b12 hbwq hb0q hS hfa hq
      go_wp2_with fail
      refine hS'.out.mono ?_; rintro e w4 ⟨rfl, hb4⟩; have h4 := h2'.out.later hb4; have b04 := b02'.out.late hb4; have b14 := b12'.out.late hb4; have hbw4 := hbwq'.out.trans (hb4.mono hbwq'.out.size); have hb04 := hb0q'.out.trans (hb4.mono hb0q'.out.size); have hlt4 := h4.ne_of; have hg0 : w.heap.size ≠ K.gb := by omega
      have hg1 : w.heap.size + 1 ≠ K.gb := by omega
      obtain ⟨Ty, ff, hne, hbut, hsurj⟩ := but_worlds K.gb w4; have HS := Lib.hid (hsurj _ (But.of_below ((Below.refl w4.heap.size w4).drew))); have HD := Lib.hid ((Below.refl w4.heap.size w4).drew); have q0 : ∀ s, (ff s).cell? ⟨K.gw, 0, none⟩ = some (.slice (some ⟨K.gb, 0, none⟩) K.n K.n) := fun s => (Blk.but_ (hbut s) h4.blk h4.ne).cell rfl; have q1 : ∀ s, (ff s).cell? ⟨K.gw, 1, none⟩ = some (.int .i64 K.o) := fun s => (Blk.but_ (hbut s) h4.blk h4.ne).cell rfl; have q2 : ∀ s, (ff s).cell? ⟨w.heap.size, 1, none⟩ = some (.int .i64 y) := fun s => (Blk.but_ (hbut s) b04 hg0).cell rfl; have q3 : ∀ s, (ff s).cell? ⟨w.heap.size, 2, none⟩ = some (.int .i64 k) := fun s => (Blk.but_ (hbut s) b04 hg0).cell rfl; have q4 : ∀ s, (ff s).cell? ⟨w.heap.size, 3, none⟩ = some (.slice a n c) := fun s => (Blk.but_ (hbut s) b04 hg0).cell rfl; have hlow := fun W => low_at (P := Tryz.prog) (T := 24) (E := 5) Tryz.underlying24 sizeB K.gb K.n q (by omega) W; clear v0; have h4' := Lib.hid h4; have b04' := Lib.hid b04; have b14' := Lib.hid b14; have hbw4' := Lib.hid hbw4; have hb04' := Lib.hid hb04; have hb4' := Lib.hid hb4; have hbut' := Lib.hid hbut; have hsurj' := Lib.hid hsurj; clear h4 b04 b14 hbw4 hb04 hb4 hbut hsurj
      go_wp2_with fail
      refine held_begin (S := fun W => ∃ s, W = ff s) (by kernel_rfl) 16 rfl ?_; obtain ⟨wD, hwD⟩ : ∃ wD, w4.drew = wD := ⟨_, rfl⟩; rw [hwD] at HS HD ⊢; clear hwD; refine held_take [0, 1, 2, 3, 4, 5, 6, 7, 8, 9, 10, 11, 12, 13] 2 (by kernel_rfl) (fun d _ _ _ _ h => by cases d <;> exact h) (by kernel_rfl) (by kernel_rfl) (by kernel_rfl) HS.out ?_; simp only [pickL, List.map_cons, List.map_nil, List.getD_cons_succ, List.getD_cons_zero]
      iterate 14 (go_big_quiet_step (fail))
      refine wpQuiet_nil ?_; refine held_one 14 1 (by kernel_rfl) (by kernel_rfl) ?_; simp only [pickL, List.map_cons, List.map_nil, List.getD_cons_succ, List.getD_cons_zero]
      go_wp2_with fail
      refine (tbytes_any t y k a n c d K.o wD (hs'.out.mono (hb04'.out.trans (HD.out.mono hb04'.out.size))) hd'.out hn).mono ?_; rintro e w5 ⟨a5, m5, rfl, ho5, hb5⟩; have hbl5 : (bytesV (t, y, k, d) K.o).length = m5 := (Sl.of_own ho5).1.ilen; have hb45 := HD.out.trans (hb5.mono HD.out.size); have h5 := h4'.out.later hb45; have HS := Lib.hid (hsurj'.out _ (But.of_below hb45)); rw [hbl5] at hl1 hfn; obtain ⟨w6, hr6, h6, hm6, hbt6⟩ := page_copy h5 a5 m5 m5 _ (Sl.of_own ho5).1 q hl1 hfn 3; have HS6 := Lib.hid (hsurj'.out _ ((But.of_below hb45).trans hbt6)); have hmv6 := (Mv.of_below (g := K.gw) (gt := K.gb) (sv := nilV) (hbw4'.out.trans (hb45.mono hbw4'.out.size))).trans hm6; have b06 := Blk.but_ hbt6 (b04'.out.late hb45) hg0; have b16 := Blk.but_ hbt6 (b14'.out.late hb45) hg1; have ho5' := Lib.hid ho5; have hb5' := Lib.hid hb5; have hbl5' := Lib.hid hbl5; have hb45' := Lib.hid hb45; have h5' := Lib.hid h5; have h6' := Lib.hid h6; have hm6' := Lib.hid hm6; have hbt6' := Lib.hid hbt6; have hmv6' := Lib.hid hmv6; have b06' := Lib.hid b06; have b16' := Lib.hid b16; clear ho5 hb5 hbl5 hb45 h5 h6 hm6 hbt6 hmv6 b06 b16
      go_wp2_with fail
      first | refine Mid.mk ⟨HS.out, ?_⟩ | refine Mid.mk ?_
      refine held_one 15 0 (by kernel_rfl) (by kernel_rfl) ?_; simp only [pickL, List.map_cons, List.map_nil, List.getD_cons_succ, List.getD_cons_zero]
      go_wp2_with (at_builtin; refine wpList_copy_run _ rfl _ _ _ _ rfl _ _ rfl rfl hr6 ?_)
      first | refine Mid.mk ⟨HS6.out, ?_⟩ | refine Mid.mk ?_
      refine held_last (by kernel_rfl) ?_; have v0 : w6.cell? ⟨w.heap.size, 0, none⟩ = some (.int .i64 t) := b06'.out.cell rfl; have v1 : w6.cell? ⟨w.heap.size, 1, none⟩ = some (.int .i64 y) := b06'.out.cell rfl; have v2 : w6.cell? ⟨w.heap.size, 2, none⟩ = some (.int .i64 k) := b06'.out.cell rfl; have p0 : w6.cell? ⟨w.heap.size + 1, 0, none⟩ = some (.int .i64 0) := b16'.out.cell rfl; have p1 : w6.cell? ⟨w.heap.size + 1, 1, none⟩ = some (.int .i64 0) := b16'.out.cell rfl; have p2 : w6.cell? ⟨w.heap.size + 1, 2, none⟩ = some (.int .i64 0) := b16'.out.cell rfl; have p3 : w6.cell? ⟨w.heap.size + 1, 3, none⟩ = some (.int .i64 0) := b16'.out.cell rfl; have y0 := b16'.out.frozen 0; have y1 := b16'.out.frozen 1; have y2 := b16'.out.frozen 2; have y3 := b16'.out.frozen 3; clear hr6 q0 q1 q2 q3 q4
      go_wp2_with fail
      have bN := (((b16'.out.set 0 (.int .i64 t)).set 1 (.int .i64 y)).set 2 (.int .i64 k)).set 3 (.int .i64 q); have hbt := ((((But.refl (w.heap.size + 1) w6).set 0 (.int .i64 t)).set 1 (.int .i64 y)).set 2 (.int .i64 k)).set 3 (.int .i64 q); refine bodyPost_ret (results_cell_row rfl _ _ (w.heap.size + 1) 55 #[.int .i64 t, .int .i64 y, .int .i64 k, .int .i64 q] (0, 0) _ rfl bN Tryz.underlying55 rfl (by kernel_rfl)) rfl ?_; refine ⟨t, y, k, q, rfl, ?_, ?_, ?_⟩
      · unfold entT; rw [if_neg (by rw [hinl'.out]; decide), hq'.out]
      · unfold patV
        rw [if_neg (by rw [hinl'.out]; decide), hq'.out, Int.toNat_natCast]; exact h6'.out.but hbt (by omega) (by omega) (by have := h'.out.sble; omega)
      · exact Mv.new hmv6'.out hbt (by omega)
end Go.Proofs.YtceclmpmpldmlaaGreat
