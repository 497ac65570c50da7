/- Chapter 21: the writer writes a value: the program. | Chapter 21: what is in writer.dir: its closures; the entries sorted: the program. -/
import Derived.Test.YtilennmeiaehnaaGreatCa13
import Derived.Test.YtilennmeiaehnaaGreatShelf
import Derived.Test.YtilennmeiaehnaaGreatCa11
import Derived.Test.YtilennmeiaehnaaGreatCa08
namespace Go.Proofs.YtilennmeiaehnaaGreat
open Go.RowKit Tt
set_option linter.unusedVariables false
set_option linter.unusedSimpArgs false

/-- a value that is outside has its place -/
def okV (l : List Spt) (n : Nat) (o no : Int) (x : Tgs) : Prop := inlV x o = true ∨ (1 ≤ (bytesV x o).length ∧ Fits l n 3 no x.1 (bytesV x o).length)
theorem apP_one (p : Pt) (P : List Int) : apP [p] P = splice P p.1 p.2 := rfl
set_option maxRecDepth 20000 in
set_option maxHeartbeats 8000000 in
theorem wvalue_any (K : Wc) (w : World) (no dir : Int) (P : List Int) (h : WrS K w no P) (t y k : Int) (a : Option Addr) (n c : Nat) (d : List Int) (w0 : World) (hs : Sl w0 a n c 1 (ints .u8 d)) (hb0 : Below w0.heap.size w0 w) (hgw : w0.heap.size ≤ K.gw) (hgb : w0.heap.size ≤ K.gb) (hd : Byt d) (hn : n ≤ 1000000000) (hok : okV K.l K.n K.o dir (t, y, k, d)) :
    Calls Tryz.prog 78 #[.pointer (some ⟨K.gw, 0, none⟩), .agg #[.int .i64 t, .int .i64 y, .int .i64 k, .slice a n c], .int .i64 dir] w fun e w' =>
      ∃ x0 x1 x2 x3, e = .returned (.agg #[.int .i64 x0, .int .i64 x1, .int .i64 x2, .int .i64 x3]) ∧ (x0, x1, x2, x3) = entT K.l K.o dir (t, y, k, d) ∧ WrS K w' no (apP (patV K.l K.o dir (t, y, k, d)) P) ∧ Mv K.gw K.gb nilV nilV w w' := by
  obtain ⟨W1, hW1, b0, b1, hb1, s1⟩ := two_boxes w 78 #[.int .i64 t, .int .i64 y, .int .i64 k, .slice a n c] 62 #[.int .i64 0, .int .i64 0, .int .i64 0, .int .i64 0]; have hlt := h.ne_of; have h1 := h.later hb1; have hb01 := hb0.trans (hb1.mono hb0.size); have hinl : inlV (t, y, k, d) K.o = eofB t (bytesV (t, y, k, d) K.o) K.o := rfl; obtain ⟨E, hE⟩ : ∃ E, eofB t (bytesV (t, y, k, d) K.o) K.o = E := ⟨_, rfl⟩; rw [hE] at hinl; have hs' := Lib.hid hs; have hb0' := Lib.hid hb0; have hd' := Lib.hid hd; have hok' := Lib.hid hok; have hW1' := Lib.hid hW1; have b0' := Lib.hid b0; have b1' := Lib.hid b1; have hb1' := Lib.hid hb1; have h' := Lib.hid h; have h1' := Lib.hid h1; have hb01' := Lib.hid hb01; have hinl' := Lib.hid hinl; have hE' := Lib.hid hE; clear hs hb0 hd hok hW1 b0 b1 hb1 h h1 hb01 hinl hE
  go_enter Tryz.func78, Tryz.ntmps78
  go_wp2_with fail
  rw [hW1'.out]
  go_cut [7, 8] from 10 to 22 (fun gv bv wx => ∃ (g : Nat) (e0 e1 e2 e3 : Int), gv = .pointer (some ⟨g, 0, none⟩) ∧ bv = .bool E ∧ Hid (Blk wx g 62 #[.int .i64 e0, .int .i64 e1, .int .i64 e2, .int .i64 e3]) ∧ Hid (w.heap.size + 2 ≤ g) ∧ Hid (E = true → e0 = t ∧ e1 = y ∧ e2 = k ∧ e3 = getV (padB (bytesV (t, y, k, d) K.o)) 0 4 K.o) ∧ Hid (Below W1.heap.size W1 wx))
  case first =>
    obtain ⟨Ty, ff, hne, hbel, hsurj⟩ := later_worlds W1; have HS := Lib.hid (hsurj _ ((Below.refl _ _).drew)); have HD := Lib.hid ((Below.refl W1.heap.size W1).drew); have q0 : ∀ s, (ff s).cell? ⟨w.heap.size, 0, none⟩ = some (.int .i64 t) := fun s => (b0'.out.late (hbel s)).cell rfl; have q1 : ∀ s, (ff s).cell? ⟨w.heap.size, 1, none⟩ = some (.int .i64 y) := fun s => (b0'.out.late (hbel s)).cell rfl; have q2 : ∀ s, (ff s).cell? ⟨w.heap.size, 2, none⟩ = some (.int .i64 k) := fun s => (b0'.out.late (hbel s)).cell rfl; have q3 : ∀ s, (ff s).cell? ⟨w.heap.size, 3, none⟩ = some (.slice a n c) := fun s => (b0'.out.late (hbel s)).cell rfl; have q4 : ∀ s, (ff s).cell? ⟨K.gw, 1, none⟩ = some (.int .i64 K.o) := fun s => (h1'.out.blk.late (hbel s)).cell rfl; have hbel' := Lib.hid hbel; have hsurj' := Lib.hid hsurj; clear hbel hsurj; refine held_begin (S := fun W => ∃ s, W = ff s) (by kernel_rfl) 16 rfl ?_; refine held_take [0, 1, 2, 3, 4, 5, 6, 7, 8] 7 (by kernel_rfl) (fun d _ _ _ _ h => by cases d <;> exact h) (by kernel_rfl) (by kernel_rfl) (by kernel_rfl) HS.out ?_; simp only [pickL, List.map_cons, List.map_nil, List.getD_cons_succ, List.getD_cons_zero]
    iterate 9 (go_big_quiet_step (fail))
    refine wpQuiet_nil ?_; obtain ⟨wD, hwD⟩ : ∃ wD, W1.drew = wD := ⟨_, rfl⟩; rw [hwD] at HS HD ⊢; clear hwD; refine held_two 9 13 6 (by kernel_rfl) (by kernel_rfl) ?_ ?_
    · simp only [pickL, List.map_cons, List.map_nil, List.getD_cons_succ, List.getD_cons_zero]
      go_wp2_with fail
      refine (eof_any t y k a n c d K.o wD (hs'.out.mono (hb01'.out.trans (HD.out.mono hb01'.out.size))) hd'.out hn).mono ?_; rintro e w3 ⟨e0, e1, e2, e3, rfl, hb3, hval⟩; have hx3 := HD.out.trans (hb3.mono HD.out.size); have HS := Lib.hid (hsurj'.out _ hx3); have hb3' := Lib.hid hb3; have hval' := Lib.hid hval; have hx3' := Lib.hid hx3; clear hb3 hval hx3
      go_wp2_with fail
      first | refine Mid.mk ⟨HS.out, ?_⟩ | refine Mid.mk ?_
      refine held_take [10, 11, 12] 3 (by kernel_rfl) (fun d _ _ _ _ h => by cases d <;> exact h) (by kernel_rfl) (by kernel_rfl) (by kernel_rfl) HS.out ?_; simp only [pickL, List.map_cons, List.map_nil, List.getD_cons_succ, List.getD_cons_zero]
      iterate 3 (go_big_quiet_step (fail))
      refine wpQuiet_nil ?_; refine held_one 13 2 (by kernel_rfl) (by kernel_rfl) ?_; simp only [pickL, List.map_cons, List.map_nil, List.getD_cons_succ, List.getD_cons_zero]
      go_wp2_with fail
      have bG := Blk.new w3 62 #[.int .i64 0, .int .i64 0, .int .i64 0, .int .i64 0]; have hal := (Below.refl w3.heap.size w3).alloc (Nat.le_refl _) (.cells #[.int .i64 0, .int .i64 0, .int .i64 0, .int .i64 0] 62); have hxA := hx3'.out.trans (hal.mono hx3'.out.size); have hgA : w.heap.size + 2 ≤ w3.heap.size := by rw [← s1]; exact hx3'.out.size
      obtain ⟨g, hg⟩ : ∃ g, w3.heap.size = g := ⟨_, rfl⟩; obtain ⟨wA, hwA⟩ : ∃ wA, w3.alloc (.cells #[.int .i64 0, .int .i64 0, .int .i64 0, .int .i64 0] 62) = wA := ⟨_, rfl⟩; rw [hwA] at bG hal hxA; rw [hwA]; rw [hg] at bG hgA
      try rw [hg]
      have HS := Lib.hid (hsurj'.out _ hxA); have hxL := hxA; have bG' := Lib.hid bG; have hal' := Lib.hid hal; have hxA' := Lib.hid hxA; have hxL' := Lib.hid hxL; have hwA' := Lib.hid hwA; have hg' := Lib.hid hg; clear bG hal hxA hxL hwA hg
      first | refine Mid.mk ⟨HS.out, ?_⟩ | refine Mid.mk ?_
      refine held_one 14 1 (by kernel_rfl) (by kernel_rfl) ?_; simp only [pickL, List.map_cons, List.map_nil, List.getD_cons_succ, List.getD_cons_zero]; have p0 : wA.cell? ⟨g, 0, none⟩ = some (.int .i64 0) := bG'.out.cell rfl; have p1 : wA.cell? ⟨g, 1, none⟩ = some (.int .i64 0) := bG'.out.cell rfl; have p2 : wA.cell? ⟨g, 2, none⟩ = some (.int .i64 0) := bG'.out.cell rfl; have p3 : wA.cell? ⟨g, 3, none⟩ = some (.int .i64 0) := bG'.out.cell rfl; have y0 := bG'.out.frozen 0; have y1 := bG'.out.frozen 1; have y2 := bG'.out.frozen 2; have y3 := bG'.out.frozen 3; have hWg : W1.heap.size ≤ g := by rw [s1]; exact hgA
      go_wp2_with fail
      have bZ := (((bG'.out.set 0 (.int .i64 e0)).set 1 (.int .i64 e1)).set 2 (.int .i64 e2)).set 3 (.int .i64 e3); have hxZ := (((hxL'.out.setCell (p := ⟨g, 0, none⟩) hWg (.int .i64 e0)).setCell (p := ⟨g, 1, none⟩) hWg (.int .i64 e1)).setCell (p := ⟨g, 2, none⟩) hWg (.int .i64 e2)).setCell (p := ⟨g, 3, none⟩) hWg (.int .i64 e3); have HS := Lib.hid (hsurj'.out _ hxZ); clear p0 p1 p2 p3 y0 y1 y2 y3; have bZ' := Lib.hid bZ; have hxZ' := Lib.hid hxZ; clear bZ hxZ
      first | refine Mid.mk ⟨HS.out, ?_⟩ | refine Mid.mk ?_
      refine held_one 15 0 (by kernel_rfl) (by kernel_rfl) ?_; simp only [pickL, List.map_cons, List.map_nil, List.getD_cons_succ, List.getD_cons_zero]
      go_wp2_with fail
      first | refine Mid.mk ⟨HS.out, ?_⟩ | refine Mid.mk ?_
      refine held_last (by kernel_rfl) ?_
      go_wp2_with fail
      go_meet
      exact ⟨g, e0, e1, e2, e3, rfl, by rw [hE'.out], bZ', Lib.hid hgA, Lib.hid (by rw [← hE'.out]; exact hval'.out), hxZ'⟩
    · simp only [pickL, List.map_cons, List.map_nil, List.getD_cons_succ, List.getD_cons_zero]
      go_wp2_with fail
      have bG := Blk.new wD 62 #[.int .i64 0, .int .i64 0, .int .i64 0, .int .i64 0]; have hal := (Below.refl wD.heap.size wD).alloc (Nat.le_refl _) (.cells #[.int .i64 0, .int .i64 0, .int .i64 0, .int .i64 0] 62); have hxA := HD.out.trans (hal.mono HD.out.size); have hgA : w.heap.size + 2 ≤ wD.heap.size := by rw [← s1]; exact HD.out.size
      obtain ⟨g, hg⟩ : ∃ g, wD.heap.size = g := ⟨_, rfl⟩; obtain ⟨wA, hwA⟩ : ∃ wA, wD.alloc (.cells #[.int .i64 0, .int .i64 0, .int .i64 0, .int .i64 0] 62) = wA := ⟨_, rfl⟩; rw [hwA] at bG hal hxA; rw [hwA]; rw [hg] at bG hgA
      try rw [hg]
      have HS := Lib.hid (hsurj'.out _ hxA); have bG' := Lib.hid bG; have hal' := Lib.hid hal; have hxA' := Lib.hid hxA; have hwA' := Lib.hid hwA; have hg' := Lib.hid hg; clear bG hal hxA hwA hg
      first | refine Mid.mk ⟨HS.out, ?_⟩ | refine Mid.mk ?_
      refine held_one 9 5 (by kernel_rfl) (by kernel_rfl) ?_; simp only [pickL, List.map_cons, List.map_nil, List.getD_cons_succ, List.getD_cons_zero]
      go_wp2_with fail
      refine (eof_any t y k a n c d K.o wA (hs'.out.mono (hb01'.out.trans (hxA'.out.mono hb01'.out.size))) hd'.out hn).mono ?_; rintro e w3 ⟨e0, e1, e2, e3, rfl, hb3, hval⟩; have hx3 := hxA'.out.trans (hb3.mono hxA'.out.size); have HS := Lib.hid (hsurj'.out _ hx3); have bG := bG'.out.late hb3; have hxL := hx3; clear bG'; have bG' := Lib.hid bG; have hb3' := Lib.hid hb3; have hval' := Lib.hid hval; have hx3' := Lib.hid hx3; have hxL' := Lib.hid hxL; clear bG hb3 hval hx3 hxL
      go_wp2_with fail
      first | refine Mid.mk ⟨HS.out, ?_⟩ | refine Mid.mk ?_
      refine held_take [10, 11, 12] 2 (by kernel_rfl) (fun d _ _ _ _ h => by cases d <;> exact h) (by kernel_rfl) (by kernel_rfl) (by kernel_rfl) HS.out ?_; simp only [pickL, List.map_cons, List.map_nil, List.getD_cons_succ, List.getD_cons_zero]
      iterate 3 (go_big_quiet_step (fail))
      refine wpQuiet_nil ?_; refine held_one 14 1 (by kernel_rfl) (by kernel_rfl) ?_; simp only [pickL, List.map_cons, List.map_nil, List.getD_cons_succ, List.getD_cons_zero]; have p0 : w3.cell? ⟨g, 0, none⟩ = some (.int .i64 0) := bG'.out.cell rfl; have p1 : w3.cell? ⟨g, 1, none⟩ = some (.int .i64 0) := bG'.out.cell rfl; have p2 : w3.cell? ⟨g, 2, none⟩ = some (.int .i64 0) := bG'.out.cell rfl; have p3 : w3.cell? ⟨g, 3, none⟩ = some (.int .i64 0) := bG'.out.cell rfl; have y0 := bG'.out.frozen 0; have y1 := bG'.out.frozen 1; have y2 := bG'.out.frozen 2; have y3 := bG'.out.frozen 3; have hWg : W1.heap.size ≤ g := by rw [s1]; exact hgA
      go_wp2_with fail
      have bZ := (((bG'.out.set 0 (.int .i64 e0)).set 1 (.int .i64 e1)).set 2 (.int .i64 e2)).set 3 (.int .i64 e3); have hxZ := (((hxL'.out.setCell (p := ⟨g, 0, none⟩) hWg (.int .i64 e0)).setCell (p := ⟨g, 1, none⟩) hWg (.int .i64 e1)).setCell (p := ⟨g, 2, none⟩) hWg (.int .i64 e2)).setCell (p := ⟨g, 3, none⟩) hWg (.int .i64 e3); have HS := Lib.hid (hsurj'.out _ hxZ); clear p0 p1 p2 p3 y0 y1 y2 y3; have bZ' := Lib.hid bZ; have hxZ' := Lib.hid hxZ; clear bZ hxZ
      first | refine Mid.mk ⟨HS.out, ?_⟩ | refine Mid.mk ?_
      refine held_one 15 0 (by kernel_rfl) (by kernel_rfl) ?_; simp only [pickL, List.map_cons, List.map_nil, List.getD_cons_succ, List.getD_cons_zero]
      go_wp2_with fail
      first | refine Mid.mk ⟨HS.out, ?_⟩ | refine Mid.mk ?_
      refine held_last (by kernel_rfl) ?_
      go_wp2_with fail
      go_meet
      exact ⟨g, e0, e1, e2, e3, rfl, by rw [hE'.out], bZ', Lib.hid hgA, Lib.hid (by rw [← hE'.out]; exact hval'.out), hxZ'⟩
  case rest =>
    obtain ⟨g, e0, e1, e2, e3, rfl, rfl, bG, hgN, hval, hbx⟩ := hcut
    rename World => wq
    have h2 := h1'.out.later hbx.out; have b02 := b0'.out.late hbx.out; have b12 := b1'.out.late hbx.out; have hbwq := hb1'.out.trans (hbx.out.mono hb1'.out.size); have hb0q := hb0'.out.trans (hbwq.mono hb0'.out.size); have p0 : wq.cell? ⟨w.heap.size + 1, 0, none⟩ = some (.int .i64 0) := b12.cell rfl; have p1 : wq.cell? ⟨w.heap.size + 1, 1, none⟩ = some (.int .i64 0) := b12.cell rfl; have p2 : wq.cell? ⟨w.heap.size + 1, 2, none⟩ = some (.int .i64 0) := b12.cell rfl; have p3 : wq.cell? ⟨w.heap.size + 1, 3, none⟩ = some (.int .i64 0) := b12.cell rfl; have y0 := b12.frozen 0; have y1 := b12.frozen 1; have y2 := b12.frozen 2; have y3 := b12.frozen 3
    cases E with
    | true =>
      obtain ⟨rfl, rfl, rfl, he3⟩ := hval.out rfl; have u0 : wq.cell? ⟨g, 0, none⟩ = some (.int .i64 e0) := bG.out.cell rfl; have u1 : wq.cell? ⟨g, 1, none⟩ = some (.int .i64 e1) := bG.out.cell rfl; have u2 : wq.cell? ⟨g, 2, none⟩ = some (.int .i64 e2) := bG.out.cell rfl; have u3 : wq.cell? ⟨g, 3, none⟩ = some (.int .i64 e3) := bG.out.cell rfl; have bN := (((b12.set 0 (.int .i64 e0)).set 1 (.int .i64 e1)).set 2 (.int .i64 e2)).set 3 (.int .i64 e3); have hbt := ((((But.refl (w.heap.size + 1) wq).set 0 (.int .i64 e0)).set 1 (.int .i64 e1)).set 2 (.int .i64 e2)).set 3 (.int .i64 e3); clear hval; have h2' := Lib.hid h2; have b02' := Lib.hid b02; have b12' := Lib.hid b12; have hbwq' := Lib.hid hbwq; have hb0q' := Lib.hid hb0q; have bN' := Lib.hid bN; have hbt' := Lib.hid hbt; have he3' := Lib.hid he3; clear h2 b02 b12 hbwq hb0q bN hbt he3
      go_wp2_with fail
      refine bodyPost_ret (results_cell_row rfl _ _ (w.heap.size + 1) 62 #[.int .i64 e0, .int .i64 e1, .int .i64 e2, .int .i64 e3] (0, 0) _ rfl bN'.out Tryz.underlying62 rfl (by kernel_rfl)) rfl ?_; have hbz := hbt'.out.below (B := w.heap.size) (by omega) hbwq'.out.size; have hbw := hbwq'.out.trans hbz; refine ⟨e0, e1, e2, e3, rfl, ?_, ?_, Mv.of_below hbw⟩
      · unfold entT; rw [if_pos hinl'.out, he3'.out]
      · unfold patV; rw [if_pos hinl'.out]; exact h'.out.later hbw
    | false =>
      clear hval bG hgN
      obtain ⟨hl1, hfa, hf0, hfn⟩ : 1 ≤ (bytesV (t, y, k, d) K.o).length ∧ Fits K.l K.n 3 dir t (bytesV (t, y, k, d) K.o).length := by
        rcases hok'.out with h | h
        · rw [hinl'.out] at h; cases h
        · exact h
      have hS := wspot_any K wq no P h2 3 dir t hfa; obtain ⟨q, hq⟩ : ∃ q : Nat, atS K.l 3 dir t = q := ⟨(atS K.l 3 dir t).toNat, by omega⟩; rw [hq] at hS hfn; rw [Int.toNat_natCast] at hfn; have v0 : wq.cell? ⟨w.heap.size, 0, none⟩ = some (.int .i64 t) := b02.cell rfl; clear p0 p1 p2 p3 y0 y1 y2 y3; have h2' := Lib.hid h2; have b02' := Lib.hid b02; have b12' := Lib.hid b12; have hbwq' := Lib.hid hbwq; have hb0q' := Lib.hid hb0q; have hS' := Lib.hid hS; have hfa' := Lib.hid hfa; have hq' := Lib.hid hq; clear h2 b02 b12 hbwq hb0q hS hfa hq
      go_wp2_with fail
      refine hS'.out.mono ?_; rintro e w4 ⟨rfl, hb4⟩; have h4 := h2'.out.later hb4; have b04 := b02'.out.late hb4; have b14 := b12'.out.late hb4; have hbw4 := hbwq'.out.trans (hb4.mono hbwq'.out.size); have hb04 := hb0q'.out.trans (hb4.mono hb0q'.out.size); have hlt4 := h4.ne_of; have hg0 : w.heap.size ≠ K.gb := by omega
      have hg1 : w.heap.size + 1 ≠ K.gb := by omega
      obtain ⟨Ty, ff, hne, hbut, hsurj⟩ := but_worlds K.gb w4; have HS := Lib.hid (hsurj _ (But.of_below ((Below.refl w4.heap.size w4).drew))); have HD := Lib.hid ((Below.refl w4.heap.size w4).drew); have q0 : ∀ s, (ff s).cell? ⟨K.gw, 0, none⟩ = some (.slice (some ⟨K.gb, 0, none⟩) K.n K.n) := fun s => (Blk.but_ (hbut s) h4.blk h4.ne).cell rfl; have q1 : ∀ s, (ff s).cell? ⟨K.gw, 1, none⟩ = some (.int .i64 K.o) := fun s => (Blk.but_ (hbut s) h4.blk h4.ne).cell rfl; have q2 : ∀ s, (ff s).cell? ⟨w.heap.size, 1, none⟩ = some (.int .i64 y) := fun s => (Blk.but_ (hbut s) b04 hg0).cell rfl; have q3 : ∀ s, (ff s).cell? ⟨w.heap.size, 2, none⟩ = some (.int .i64 k) := fun s => (Blk.but_ (hbut s) b04 hg0).cell rfl; have q4 : ∀ s, (ff s).cell? ⟨w.heap.size, 3, none⟩ = some (.slice a n c) := fun s => (Blk.but_ (hbut s) b04 hg0).cell rfl; have hlow := fun W => low_at (P := Tryz.prog) (T := 30) (E := 5) Tryz.underlying30 sizeB K.gb K.n q (by omega) W; clear v0; have h4' := Lib.hid h4; have b04' := Lib.hid b04; have b14' := Lib.hid b14; have hbw4' := Lib.hid hbw4; have hb04' := Lib.hid hb04; have hb4' := Lib.hid hb4; have hbut' := Lib.hid hbut; have hsurj' := Lib.hid hsurj; clear h4 b04 b14 hbw4 hb04 hb4 hbut hsurj
      go_wp2_with fail
      refine held_begin (S := fun W => ∃ s, W = ff s) (by kernel_rfl) 16 rfl ?_; obtain ⟨wD, hwD⟩ : ∃ wD, w4.drew = wD := ⟨_, rfl⟩; rw [hwD] at HS HD ⊢; clear hwD; refine held_take [0, 1, 2, 3, 4, 5, 6, 7, 8, 9, 10, 11, 12, 13] 2 (by kernel_rfl) (fun d _ _ _ _ h => by cases d <;> exact h) (by kernel_rfl) (by kernel_rfl) (by kernel_rfl) HS.out ?_; simp only [pickL, List.map_cons, List.map_nil, List.getD_cons_succ, List.getD_cons_zero]
      iterate 14 (go_big_quiet_step (fail))
      refine wpQuiet_nil ?_; refine held_one 14 1 (by kernel_rfl) (by kernel_rfl) ?_; simp only [pickL, List.map_cons, List.map_nil, List.getD_cons_succ, List.getD_cons_zero]
      go_wp2_with fail
      refine (tbytes_any t y k a n c d K.o wD (hs'.out.mono (hb04'.out.trans (HD.out.mono hb04'.out.size))) hd'.out hn).mono ?_; rintro e w5 ⟨a5, m5, rfl, ho5, hb5⟩; have hbl5 : (bytesV (t, y, k, d) K.o).length = m5 := (Sl.of_own ho5).1.ilen; have hb45 := HD.out.trans (hb5.mono HD.out.size); have h5 := h4'.out.later hb45; have HS := Lib.hid (hsurj'.out _ (But.of_below hb45)); rw [hbl5] at hl1 hfn; obtain ⟨w6, hr6, h6, hm6, hbt6⟩ := page_copy h5 a5 m5 m5 _ (Sl.of_own ho5).1 q hl1 hfn 3; have HS6 := Lib.hid (hsurj'.out _ ((But.of_below hb45).trans hbt6)); have hmv6 := (Mv.of_below (g := K.gw) (gt := K.gb) (sv := nilV) (hbw4'.out.trans (hb45.mono hbw4'.out.size))).trans hm6; have b06 := Blk.but_ hbt6 (b04'.out.late hb45) hg0; have b16 := Blk.but_ hbt6 (b14'.out.late hb45) hg1; have ho5' := Lib.hid ho5; have hb5' := Lib.hid hb5; have hbl5' := Lib.hid hbl5; have hb45' := Lib.hid hb45; have h5' := Lib.hid h5; have h6' := Lib.hid h6; have hm6' := Lib.hid hm6; have hbt6' := Lib.hid hbt6; have hmv6' := Lib.hid hmv6; have b06' := Lib.hid b06; have b16' := Lib.hid b16; clear ho5 hb5 hbl5 hb45 h5 h6 hm6 hbt6 hmv6 b06 b16
      go_wp2_with fail
      first | refine Mid.mk ⟨HS.out, ?_⟩ | refine Mid.mk ?_
      refine held_one 15 0 (by kernel_rfl) (by kernel_rfl) ?_; simp only [pickL, List.map_cons, List.map_nil, List.getD_cons_succ, List.getD_cons_zero]
      go_wp2_with (at_builtin; refine wpList_copy_run _ rfl _ _ _ _ rfl _ _ rfl rfl hr6 ?_)
      first | refine Mid.mk ⟨HS6.out, ?_⟩ | refine Mid.mk ?_
      refine held_last (by kernel_rfl) ?_; have v0 : w6.cell? ⟨w.heap.size, 0, none⟩ = some (.int .i64 t) := b06'.out.cell rfl; have v1 : w6.cell? ⟨w.heap.size, 1, none⟩ = some (.int .i64 y) := b06'.out.cell rfl; have v2 : w6.cell? ⟨w.heap.size, 2, none⟩ = some (.int .i64 k) := b06'.out.cell rfl; have p0 : w6.cell? ⟨w.heap.size + 1, 0, none⟩ = some (.int .i64 0) := b16'.out.cell rfl; have p1 : w6.cell? ⟨w.heap.size + 1, 1, none⟩ = some (.int .i64 0) := b16'.out.cell rfl; have p2 : w6.cell? ⟨w.heap.size + 1, 2, none⟩ = some (.int .i64 0) := b16'.out.cell rfl; have p3 : w6.cell? ⟨w.heap.size + 1, 3, none⟩ = some (.int .i64 0) := b16'.out.cell rfl; have y0 := b16'.out.frozen 0; have y1 := b16'.out.frozen 1; have y2 := b16'.out.frozen 2; have y3 := b16'.out.frozen 3; clear hr6 q0 q1 q2 q3 q4
      go_wp2_with fail
      have bN := (((b16'.out.set 0 (.int .i64 t)).set 1 (.int .i64 y)).set 2 (.int .i64 k)).set 3 (.int .i64 q); have hbt := ((((But.refl (w.heap.size + 1) w6).set 0 (.int .i64 t)).set 1 (.int .i64 y)).set 2 (.int .i64 k)).set 3 (.int .i64 q); refine bodyPost_ret (results_cell_row rfl _ _ (w.heap.size + 1) 62 #[.int .i64 t, .int .i64 y, .int .i64 k, .int .i64 q] (0, 0) _ rfl bN Tryz.underlying62 rfl (by kernel_rfl)) rfl ?_; refine ⟨t, y, k, q, rfl, ?_, ?_, ?_⟩
      · unfold entT; rw [if_neg (by rw [hinl'.out]; decide), hq'.out]
      · unfold patV
        rw [if_neg (by rw [hinl'.out]; decide), hq'.out, Int.toNat_natCast]; exact h6'.out.but hbt (by omega) (by omega) (by have := h'.out.sble; omega)
      · exact Mv.new hmv6'.out hbt (by omega)
end Go.Proofs.YtilennmeiaehnaaGreat

namespace Go.Proofs.YtilennmeiaehnaaGreat
open Go.RowKit Tt Go.Sort
set_option linter.unusedVariables false
set_option linter.unusedSimpArgs false

def cmpS (a b : Int) : Int := if a < b then -1 else if b < a then 1 else 0
theorem cmp_any (a b : Int) (w : World) : Calls Tryz.prog 85 #[.int .i64 a, .int .i64 b] w fun e w' => e = .returned (.int .i64 (cmpS a b)) ∧ w = w' := by
  have hn : ∀ (x : Int) (W : World), Calls Tryz.prog 134 #[.int .i64 x] W fun e w' => e = .returned (.bool false) ∧ W = w' := fun x W => by
    have hx : (x != x) = false := by simp
    go_enter Tryz.func134, Tryz.ntmps134
    go_wp2
    go_ret
    exact ⟨rfl, rfl⟩
  have hn' := Lib.hid hn; clear hn; unfold cmpS
  by_cases h1 : a < b
  · have d1 : decide (a < b) = true := by simp; omega
    rw [if_pos h1]
    go_enter Tryz.func85, Tryz.ntmps85
    go_wp2_with (go_at_call 134; refine (hn'.out _ _).mono ?_; rintro e w' ⟨rfl, rfl⟩)
    go_ret
    exact ⟨rfl, rfl⟩
  · have d1 : decide (a < b) = false := by simp; omega
    rw [if_neg h1]
    by_cases h2 : b < a
    · have d2 : decide (b < a) = true := by simp; omega
      rw [if_pos h2]
      go_enter Tryz.func85, Tryz.ntmps85
      go_wp2_with (go_at_call 134; refine (hn'.out _ _).mono ?_; rintro e w' ⟨rfl, rfl⟩)
      go_ret
      exact ⟨rfl, rfl⟩
    · have d2 : decide (b < a) = false := by simp; omega
      rw [if_neg h2]
      go_enter Tryz.func85, Tryz.ntmps85
      go_wp2_with (go_at_call 134; refine (hn'.out _ _).mono ?_; rintro e w' ⟨rfl, rfl⟩)
      go_ret
      exact ⟨rfl, rfl⟩
def cfE (x y : Ent) : Int := cmpS x.1 y.1
theorem wd3_any (x y : Ent) (w : World) : Calls Tryz.prog 84 #[.agg (entC x).toArray, .agg (entC y).toArray] w fun e w' => e = .returned (.int .i64 (cfE x y)) ∧ ∃ q os', w' = grow (w.drewN q) os' := by
  obtain ⟨x1, x2, x3, x4⟩ := x; obtain ⟨y1, y2, y3, y4⟩ := y; obtain ⟨W1, hW1, b0, b1, hb1, s1⟩ := two_boxes w 62 #[.int .i64 x1, .int .i64 x2, .int .i64 x3, .int .i64 x4] 62 #[.int .i64 y1, .int .i64 y2, .int .i64 y3, .int .i64 y4]; have hgr : ∃ q os', W1 = grow (w.drewN q) os' := ⟨0, #[_, _], by rw [← hW1, alloc_eq_grow, alloc_eq_grow, grow_grow]; rfl⟩; have p0 : W1.cell? ⟨w.heap.size, 0, none⟩ = some (.int .i64 x1) := b0.cell rfl; have p1 : W1.cell? ⟨w.heap.size + 1, 0, none⟩ = some (.int .i64 y1) := b1.cell rfl
  show Calls Tryz.prog 84 #[.agg #[.int .i64 x1, .int .i64 x2, .int .i64 x3, .int .i64 x4], .agg #[.int .i64 y1, .int .i64 y2, .int .i64 y3, .int .i64 y4]] w _
  have hW1' := Lib.hid hW1; have b0' := Lib.hid b0; have b1' := Lib.hid b1; have hb1' := Lib.hid hb1; have s1' := Lib.hid s1; have hgr' := Lib.hid hgr; clear hW1 b0 b1 hb1 s1 hgr
  go_enter Tryz.func84, Tryz.ntmps84
  go_wp2_with fail
  rw [hW1'.out]
  go_wp2_with (go_at_call 85; refine (cmp_any _ _ _).mono ?_; rintro e w' ⟨rfl, rfl⟩)
  go_ret
  exact ⟨rfl, hgr'.out⟩
theorem wd2_any (g : Nat) (tag : Int) (u v : Int) (w : World) (h : w.cell? ⟨g, 0, none⟩ = some (.int .i64 tag)) (hg : g < w.heap.size) :
    Calls Tryz.prog 80 #[.agg #[.int .i64 u, .int .i64 v], .pointer (some ⟨g, 0, none⟩)] w fun e w' => e = .returned (.bool (u == tag)) ∧ Below w.heap.size w w' := by
  have hb := (Below.refl w.heap.size w).alloc (Nat.le_refl _) (.cells #[.int .i64 u, .int .i64 v] 47); have hb' := Lib.hid hb; clear hb
  go_enter Tryz.func80, Tryz.ntmps80
  go_wp2_with fail
  go_ret
  exact ⟨rfl, hb'.out⟩

/-- the entries in order -/
def sortE (l : List Ent) : List Ent := l.mergeSort fun x y => !Go.Proofs.ltOf cfE y x
theorem ltE (x y : Ent) : Go.Proofs.ltOf cfE x y = decide (x.1 < y.1) := by
  unfold Go.Proofs.ltOf cfE cmpS; rw [Bool.eq_iff_iff, decide_eq_true_eq, decide_eq_true_eq]
  split
  · omega
  · split <;> omega
theorem swoE : SWO (Go.Proofs.ltOf cfE) := ⟨fun x => by rw [ltE]; simp, fun x y z h1 h2 => by rw [ltE, decide_eq_true_eq] at *; omega, fun x y z h1 h2 => by rw [ltE, decide_eq_false_iff_not] at *; omega⟩
theorem sortE_len (l : List Ent) : (sortE l).length = l.length := (List.mergeSort_perm _ _).length_eq
theorem sortE_one {l : List Ent} (hd : l.Pairwise fun x y => x.1 ≠ y.1) {d' : Array Ent} (hP : PermIn 0 l.length l.toArray d') (hS : SortedIn (Go.Proofs.ltOf cfE) 0 l.length d') : d'.toList = sortE l := by
  obtain ⟨hsz, _, hperm⟩ := hP; have hsz' : d'.size = l.length := by simpa using hsz
  have e1 : d'.extract 0 l.length = d' := by rw [← hsz']; exact Array.extract_size
  have e2 : l.toArray.extract 0 l.length = l.toArray := by simp
  rw [e1, e2] at hperm; have hpl : d'.toList.Perm l := hperm
  have hmem : ∀ a b, a ∈ l → b ∈ l → a.1 = b.1 → a = b := by
    intro a b ha hb hab; obtain ⟨i, hi, rfl⟩ := List.getElem_of_mem ha; obtain ⟨j, hj, rfl⟩ := List.getElem_of_mem hb
    rcases Nat.lt_trichotomy i j with h | h | h
    · exact absurd hab (List.pairwise_iff_getElem.1 hd i j hi hj h)
    · subst h; rfl
    · exact absurd hab.symm (List.pairwise_iff_getElem.1 hd j i hj hi h)
  refine List.Perm.eq_of_pairwise (le := fun x y => (!Go.Proofs.ltOf cfE y x) = true) ?_ ?_ ?_ (hpl.trans (List.mergeSort_perm _ _).symm)
  · intro a b ha hb h1 h2
    simp only [ltE, Bool.not_eq_true', decide_eq_false_iff_not] at h1 h2; exact hmem a b (hpl.subset ha) ((List.mergeSort_perm _ _).subset hb) (by omega)
  · rw [List.pairwise_iff_getElem]
    intro i j hi hj hij; have hi' : i < d'.size := by simpa using hi
    have hj' : j < d'.size := by simpa using hj
    have := hS i j (Nat.zero_le _) hij (by omega); rw [getElem!_pos d' j hj', getElem!_pos d' i hi'] at this
    simpa using this
  · refine List.pairwise_mergeSort ?_ ?_ _
    · intro a b c h1 h2
      simp only [ltE, Bool.not_eq_true', decide_eq_false_iff_not] at h1 h2 ⊢
      omega
    · intro a b
      simp only [ltE, Bool.or_eq_true, Bool.not_eq_true', decide_eq_false_iff_not]
      omega
theorem flatE (l : List Ent) : flatK entC 4 l.toArray = (fl entC l).toArray := by
  have hsz : (fl entC l).length = l.length * 4 := fl_len entC_len l; refine ext_get! (by simp [hsz]) fun t ht => ?_; have ht' : t < l.length * 4 := by simpa using ht
  rw [get_flatK _ _ _ t (by simpa using ht')]; have h1 : t / 4 < l.length := by omega
  have h2 : t % 4 < 4 := Nat.mod_lt _ (by decide); have := fl_get entC_len default h1 h2; rw [show t / 4 * 4 + t % 4 = t by omega] at this
  have e1 : l.toArray[t / 4]! = l.getD (t / 4) default := by
    rw [getElem!_pos _ _ (by simpa using h1)]
    simp [List.getD, List.getElem?_eq_getElem h1]
  rw [e1, getElem!_pos (fl entC l).toArray t (by simpa [hsz] using ht')]; have h3 : t < (fl entC l).length := by omega
  rw [List.getElem?_eq_getElem h3] at this; have h4 : t % 4 < (entC (l.getD (t / 4) default)).length := by rw [entC_len]; exact h2
  rw [List.getElem?_eq_getElem h4] at this; rw [getElem!_pos (entC (l.getD (t / 4) default)) (t % 4) h4]
  simpa using this.symm
theorem take_putV (cur : Array Value) (ts : List Value) (h : ts.length ≤ cur.size) : (putCells id 0 ts.toArray cur).toList.take ts.length = ts := by
  apply List.ext_getElem?
  intro j
  by_cases hj : j < ts.length
  · rw [List.getElem?_take_of_lt hj, Array.getElem?_toList]
    simp [putCells, hj, show j < cur.size by omega]
  · rw [List.getElem?_take_eq_none (by omega), List.getElem?_eq_none (by omega)]
set_option maxHeartbeats 2000000 in
theorem wsort_any (B : Nat) (l : List Ent) (v : Value) (w : World) (h : w.ownsRow B 62 4 v l.length (fl entC l)) (h1 : 1 ≤ l.length) (hn : l.length ≤ 1000000) (hd : l.Pairwise fun x y => x.1 ≠ y.1) :
    Calls Tryz.prog 83 #[v, .func (.func 84) #[] #[]] w fun e w' => e = .returned (.tuple #[]) ∧ w'.ownsRow B 62 4 v (sortE l).length (fl entC (sortE l)) ∧ w.grownBy w' v.ownBlock := by
  obtain ⟨hlen, hr⟩ := h
  rcases hr with ⟨_, h0⟩ | ⟨g, cap, cur, rfl, hB, hg, hc, hmx, hcs, htk⟩
  · omega
  have hH : HoldsK entC 4 w g 0 l.toArray := by
    unfold HoldsK; rw [flatE]; intro j hj; have hj' : j < (fl entC l).length := by simpa using hj
    refine ⟨?_, by simp [World.frozen?, hg]⟩; have h1 : (cur.toList.take (l.length * 4))[j]? = (fl entC l)[j]? := by rw [htk]
    rw [List.getElem?_take_of_lt (by rw [fl_len entC_len] at hj'; exact hj')] at h1; simp only [World.cell?, hg, Nat.zero_add]; simp only [Option.isSome_none, Bool.false_eq_true, if_false]; rw [← Array.getElem?_toList, h1]
    simp [hj']
  have hgl := (Array.getElem?_eq_some_iff.1 hg).1
  have hone : ∀ (x : Ent), ∀ v ∈ entC x, v.oneCell' = true := by
    intro x v hv; simp only [entC, List.mem_cons, List.not_mem_nil, or_false] at hv
    rcases hv with rfl | rfl | rfl | rfl <;> rfl
  refine (Go.Proofs.AnyQ.slices_SortFunc Tryz.sortE 4 Tryz.isAgg62 Tryz.sizeOf62 entC entC_len hone cfE swoE 84 #[] g 0 cap l.toArray w (fun args W => by kernel_rfl) (fun m os dk _ x y => wd3_any x y _) hH hgl (by simpa using Nat.lt_of_le_of_lt hn (by decide))).mono ?_; rintro e w' ⟨rfl, d', n, os, hP, hS, rfl⟩; have hd' := sortE_one hd (by simpa using hP) (by simpa using hS); obtain rfl : d' = (sortE l).toArray := by rw [← hd']
  refine ⟨rfl, ⟨fl_len entC_len _, .inr ⟨g, cap, putCells id 0 (fl entC (sortE l)).toArray cur, by rw [sortE_len], hB, ?_, by rw [sortE_len]; exact hc, hmx, by simp [putCells, hcs], ?_⟩⟩, ⟨rfl, rfl, rfl, ?_, ?_⟩⟩
  · unfold sortWorldK putRowK
    rw [flatE, heap_grow_old _ _ (by simpa using hgl)]
    simp [putRow, mapBlock, Sort.ahead, Array.getElem?_modify, hg, onCells]
  · rw [← fl_len entC_len (sortE l)]
    refine take_putV cur _ ?_; rw [fl_len entC_len, sortE_len, hcs]; exact Nat.mul_le_mul_right _ hc
  · unfold sortWorldK; simp [size_putRowK]
  · intro k hk hne
    unfold sortWorldK putRowK; rw [heap_grow_old _ _ (by simpa using hk)]; have : g ≠ k := fun e => hne (by rw [← e]; rfl)
    simp [putRow, mapBlock, Sort.ahead, Array.getElem?_modify, this]
theorem infoSz {T : TypeId} {sz by_ : Nat} (h1 : (Tryz.prog.info? T).map (fun i => (i.size, i.bytes)) = some (sz, by_)) (h2 : (Tryz.prog.info? T).map (fun i => i.zero.map (fun z => z.cells.size)) = some (some sz)) :
    ∃ (i : TypeInfo) (z : Value), Tryz.prog.info? T = some i ∧ i.zero = some z ∧ i.size = sz ∧ i.bytes = by_ ∧ z.cells.size = sz := by
  cases hi : Tryz.prog.info? T with
  | none => rw [hi] at h1; cases h1
  | some i =>
    rw [hi] at h1 h2; simp only [Option.map_some, Option.some.injEq, Prod.mk.injEq] at h1 h2
    cases hz : i.zero with
    | none => rw [hz] at h2; cases h2
    | some z =>
      rw [hz] at h2; simp only [Option.map_some, Option.some.injEq] at h2; exact ⟨i, z, rfl, hz, h1.1, h1.2, h2⟩
theorem infoE : (Tryz.prog.info? 62).map (fun i => (i.size, i.bytes)) = some (4, 32) := by kernel_rfl
theorem infoEz : (Tryz.prog.info? 62).map (fun i => i.zero.map (fun z => z.cells.size)) = some (some 4) := by kernel_rfl
theorem own_but0 {w w' : World} {B b : Nat} {E : TypeId} {sz n : Nat} {v : Value} {xs : List Value} (h : w.ownsRow B E sz v n xs) (hb : But b w w') (hne : v.ownBlock ≠ some b) : w'.ownsRow B E sz v n xs := by
  obtain ⟨hl, hr⟩ := h; refine ⟨hl, ?_⟩
  rcases hr with hn | ⟨g, cap, cur, rfl, hB, hg, r⟩
  · exact .inl hn
  · exact .inr ⟨g, cap, cur, rfl, hB, (hb.block g (Array.getElem?_eq_some_iff.1 hg).1 (fun e => hne (by rw [← e]; rfl))).trans hg, r⟩
set_option maxRecDepth 20000 in
/-- entries are put behind those that there are -/
theorem wd1_any (B gl : Nat) (l xs : List Ent) (v : Value) (a : Option Addr) (n c : Nat) (w : World) (hv : Blk w gl 136 #[v]) (h : w.ownsRow B 62 4 v l.length (fl entC l)) (hne : v.ownBlock ≠ some gl) (hB : B ≤ w.heap.size) (hs : Sl w a n c 4 (fl entC xs)) (h1 : 1 ≤ n) (hn : l.length + n ≤ 1000000) :
    Calls Tryz.prog 77 #[.slice a n c, .pointer (some ⟨gl, 0, none⟩)] w fun e w' => ∃ v', e = .returned (.tuple #[]) ∧ Blk w' gl 136 #[v'] ∧ w'.ownsRow B 62 4 v' (l ++ xs).length (fl entC (l ++ xs)) ∧ v'.ownBlock ≠ some gl ∧ Mv gl gl v v' w w' := by
  have hxl : xs.length = n := hs.flen entC_len (by decide); obtain ⟨b, off, rfl, hlt, _⟩ := hs.lies 0 (by omega); have hgl := hv.lt; have p0 : w.cell? ⟨gl, 0, none⟩ = some v := hv.cell rfl; have y0 := hv.frozen 0
  have hone : ∀ u ∈ fl entC xs, u.oneCell' = true := fl_one (fun x v hv => by
    simp only [entC, List.mem_cons, List.not_mem_nil, or_false] at hv
    rcases hv with rfl | rfl | rfl | rfl <;> rfl)
  obtain ⟨i0, z0, hi0, hz, hz1, hz2, hz3⟩ := infoSz infoE infoEz; have hv' := Lib.hid hv; have h' := Lib.hid h; have hne' := Lib.hid hne; have hs' := Lib.hid hs; have hone' := Lib.hid hone; clear hv h hne hs hone
  go_enter Tryz.func77, Tryz.ntmps77
  go_wp2_with (at_builtin; refine wpList_app2 rfl _ _ 136 rfl B 62 i0 z0 4 32 Tryz.underlying136 hi0 hz hz1 hz2 hz3 (by decide) v _ _ rfl h'.out ⟨b, off, none⟩ n c (fl entC xs) rfl hs'.out hone'.out (by omega) (by decide) hB ?_; intro a5 c5 wa ob hga hoa; have Ob := Lib.hid ob; have Hga := Lib.hid hga; have Hoa := Lib.hid hoa; clear p0 y0; have y0 := (hv'.out.grown hga hne'.out).frozen 0; have p0 := (hv'.out.grown hga hne'.out).cell (i := 0) rfl; clear ob hga hoa)
  refine bodyPost_end (results_none rfl _ _ _) rfl ?_; have hv1 := hv'.out.grown Hga.out hne'.out
  have hne1 : (Value.slice a5 (l.length + n) c5).ownBlock ≠ some gl := fun e => by
    rcases Hoa.out gl e with h | h
    · exact hne'.out h
    · omega
  refine ⟨_, rfl, hv1.set 0 _, ?_, hne1, ?_⟩
  · rw [fl_append, List.length_append, hxl]
    exact own_but0 Ob.out ((But.refl gl wa).set 0 _) hne1
  · exact (Mv.of_grown Hga.out Hoa.out).trans (Mv.of_but ((But.refl gl wa).set 0 _) (.inl rfl))
end Go.Proofs.YtilennmeiaehnaaGreat
