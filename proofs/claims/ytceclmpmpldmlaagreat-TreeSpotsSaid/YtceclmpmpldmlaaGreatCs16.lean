/- Chapters 18, 19: a value's bytes; a value within its entry: the program. | Chapter 21: a number into the page; an entry's bytes: the program. -/
import Derived.Lib.AppendZerosOnto
import Derived.Test.YtceclmpmpldmlaaGreatCs13
import Derived.Test.YtceclmpmpldmlaaGreatCs15
namespace Go.Proofs.YtceclmpmpldmlaaGreat
open Go.RowKit Tt
set_option linter.unusedVariables false
set_option linter.unusedSimpArgs false

set_option maxHeartbeats 2000000 in
theorem tbytes_any (t y k : Int) (a : Option Addr) (n c : Nat) (d : List Int) (o : Int) (w : World) (hs : Sl w a n c 1 (ints .u8 d)) (hd : Byt d) (hn : n ≤ 1000000000) :
    Calls Tryz.prog 151 #[.agg #[.int .i64 y, .int .i64 k, .slice a n c], .int .i64 o] w fun e w' => ∃ a2 m, e = .returned (.slice a2 m m) ∧ w'.ownsRow w.heap.size 5 1 (.slice a2 m m) m (ints .u8 (bytesV (t, y, k, d) o)) ∧ Below w.heap.size w w' := by
  have hb1 := (Below.refl w.heap.size w).alloc (Nat.le_refl _) (.cells #[.int .i64 y, .int .i64 k, .slice a n c] 72); have b1 := Blk.new w 72 #[.int .i64 y, .int .i64 k, .slice a n c]; obtain ⟨W1, hW1⟩ : ∃ W1, w.alloc (.cells #[.int .i64 y, .int .i64 k, .slice a n c] 72) = W1 := ⟨_, rfl⟩; rw [hW1] at hb1 b1; have hM := may_any y k a n c d W1 (hs.mono hb1) hd; have hbv : bytesV (t, y, k, d) o = if mayS y k d = true then turnS d (kindS y).2.1 o else [] := rfl; obtain ⟨R, hR⟩ : ∃ R, bytesV (t, y, k, d) o = R := ⟨_, rfl⟩; rw [hR] at hbv ⊢; obtain ⟨r, hr⟩ : ∃ r, mayS y k d = r := ⟨_, rfl⟩; rw [hr] at hM hbv; rw [← hW1] at hM; clear hR; have hb1' := Lib.hid hb1; have b1' := Lib.hid b1; have hM' := Lib.hid hM; have hs' := Lib.hid hs; have hd' := Lib.hid hd; have hr' := Lib.hid hr; have hW1' := Lib.hid hW1; have hbv' := Lib.hid hbv; clear hb1 b1 hM hs hd hr hW1 hbv
  go_enter Tryz.func151, Tryz.ntmps151
  go_wp2_with fail
  refine hM'.out.mono ?_; rintro e w2 ⟨rfl, hb2⟩; rw [hW1'.out] at hb2; have hbw := hb1'.out.trans (hb2.mono hb1'.out.size); have b2 := b1'.out.late hb2
  cases r with
  | false =>
    obtain rfl : R = [] := hbv'.out; have hbw' := Lib.hid hbw; have b2' := Lib.hid b2; have hb2' := Lib.hid hb2; clear hbw b2 hb2
    go_wp2_with fail
    go_ret
    exact ⟨none, 0, rfl, own_nil _ _ _ _, hbw'.out⟩
  | true =>
    obtain rfl : R = turnS d (kindS y).2.1 o := hbv'.out; have hK := fun W => kind_any y W; obtain ⟨z0, hz0⟩ : ∃ z, (kindS y).1 = z := ⟨_, rfl⟩; clear hbv'
    generalize hpt : (kindS y).2.1 = pt at *
    obtain ⟨z2, hz2⟩ : ∃ z, (kindS y).2.2 = z := ⟨_, rfl⟩; simp only [hz0, hpt, hz2] at hK; have hfld : ∀ W, (Instr.field 185 (.agg #[.int .i64 z0, .int .i64 pt, .int .i64 z2]) 1).run Tryz.prog W = .ok (.int .i64 pt) W := fun W => by kernel_rfl
    obtain ⟨Ty, ff, hne, hbel, hsurj⟩ := later_worlds w2; have HS := Lib.hid (hsurj _ ((Below.refl _ _).drew)); have HD := Lib.hid ((Below.refl w2.heap.size w2).drew); have q0 : ∀ s, (ff s).cell? ⟨w.heap.size, 0, none⟩ = some (.int .i64 y) := fun s => (b2.late (hbel s)).cell rfl; have q2 : ∀ s, (ff s).cell? ⟨w.heap.size, 2, none⟩ = some (.slice a n c) := fun s => (b2.late (hbel s)).cell rfl; have hbw' := Lib.hid hbw; have b2' := Lib.hid b2; have hb2' := Lib.hid hb2; have hK' := Lib.hid hK; have hz0' := Lib.hid hz0; have hpt' := Lib.hid hpt; have hz2' := Lib.hid hz2; have hbel' := Lib.hid hbel; have hsurj' := Lib.hid hsurj; clear hbw b2 hb2 hK hz0 hpt hz2 hbel hsurj
    go_wp2_with fail
    refine held_begin (S := fun W => ∃ s, W = ff s) (by kernel_rfl) 9 rfl ?_; obtain ⟨wD, hwD⟩ : ∃ wD, w2.drew = wD := ⟨_, rfl⟩; rw [hwD] at HS HD ⊢; clear hwD; refine held_take [0, 1, 2, 3, 6] 4 (by kernel_rfl) (fun d _ _ _ _ h => by cases d <;> exact h) (by kernel_rfl) (by kernel_rfl) (by kernel_rfl) HS.out ?_; simp only [pickL, List.map_cons, List.map_nil, List.getD_cons_succ, List.getD_cons_zero]
    iterate 5 (go_big_quiet_step (fail))
    refine wpQuiet_nil ?_; refine held_one 4 3 (by kernel_rfl) (by kernel_rfl) ?_; simp only [pickL, List.map_cons, List.map_nil, List.getD_cons_succ, List.getD_cons_zero]
    go_wp2_with fail
    refine (hK'.out wD).mono ?_; rintro e w3 ⟨rfl, hb3⟩; have hb23 := HD.out.trans (hb3.mono HD.out.size); have HS := Lib.hid (hsurj'.out _ hb23); have hb3' := Lib.hid hb3; have hb23' := Lib.hid hb23; clear hb3 hb23
    go_wp2_with fail
    first | refine Mid.mk ⟨HS.out, ?_⟩ | refine Mid.mk ?_
    refine held_take [5] 2 (by kernel_rfl) (fun d _ _ _ _ h => by cases d <;> exact h) (by kernel_rfl) (by kernel_rfl) (by kernel_rfl) HS.out ?_; simp only [pickL, List.map_cons, List.map_nil, List.getD_cons_succ, List.getD_cons_zero]
    iterate 1 (go_big_quiet_step (fail))
    refine wpQuiet_nil ?_; refine held_one 7 1 (by kernel_rfl) (by kernel_rfl) ?_; simp only [pickL, List.map_cons, List.map_nil, List.getD_cons_succ, List.getD_cons_zero]
    go_wp2_with fail
    refine (turn_cap a n c d pt o w3 (hs'.out.mono (hbw'.out.trans (hb23'.out.mono hbw'.out.size))) hn).mono ?_; rintro e w4 ⟨a4, m4, rfl, ho4, hb4⟩; have hb24 := hb23'.out.trans (hb4.mono hb23'.out.size); have hbw4 := hbw'.out.trans (hb24.mono hbw'.out.size); have ho5 := own_mono ho4 (show w.heap.size ≤ _ from Nat.le_trans hbw'.out.size hb23'.out.size); have HS := Lib.hid (hsurj'.out _ hb24); clear ho4; have hb4' := Lib.hid hb4; have hb24' := Lib.hid hb24; have hbw4' := Lib.hid hbw4; have ho5' := Lib.hid ho5; clear hb4 hb24 hbw4 ho5
    go_wp2_with fail
    first | refine Mid.mk ⟨HS.out, ?_⟩ | refine Mid.mk ?_
    refine held_one 8 0 (by kernel_rfl) (by kernel_rfl) ?_; simp only [pickL, List.map_cons, List.map_nil, List.getD_cons_succ, List.getD_cons_zero]
    go_wp2_with fail
    first | refine Mid.mk ⟨HS.out, ?_⟩ | refine Mid.mk ?_
    refine held_last (by kernel_rfl) ?_
    go_wp2_with fail
    go_ret
    exact ⟨a4, m4, rfl, by rw [hpt'.out]; exact ho5'.out, hbw4'.out⟩
theorem padB_len {b : List Int} (h : b.length ≤ 4) : (padB b).length = 4 := by unfold padB; simp; omega
theorem zeroB_list (n : Nat) : (Builtin.zeroCells #[.int .u8 0] n).toList = ints .u8 (List.replicate n 0) := by
  apply List.ext_getElem
  · simp [Builtin.zeroCells, ints]
  · intro i h1 h2
    simp [Builtin.zeroCells, ints, Nat.mod_one]
/-- zeros behind bytes, up to four -/
theorem app_zeros (w : World) (a2 : Option Addr) (m k : Nat) (b : List Int) (B : Nat) (ty : TypeId) (ho : w.ownsRow B 5 1 (.slice a2 m m) m (ints .u8 b)) (hm : 0 < m) (hk : 0 < k) (h4 : m + k = 4) :
    ∃ a' c' w', (Builtin.append_ #[24, 3] ty #[.slice a2 m m, .int .i64 (k : Int)]).run Tryz.prog w = .ok (.slice a' 4 c') w' ∧ Sl w' a' 4 c' 1 (ints .u8 (padB b)) ∧ Below w.heap.size w w' := by
  obtain ⟨i0, hi, hz0, hz1, hz2⟩ := info_parts infoB; have hsl := (Sl.of_own ho).1; have hbl : b.length = m := hsl.ilen; obtain ⟨g, off, e, hlt, hc⟩ := hsl.lies 0 hm; subst e
  have hold : (Builtin.firstCells i0.size m (.slice (some ⟨g, off, none⟩) m m)).run Tryz.prog w.drew = .ok (ints .u8 b).toArray w.drew := by
    refine run_firstCells_some (P := Tryz.prog) (w := w.drew) i0.size m ⟨g, off, none⟩ m m (ints .u8 b) (by rw [ints_len, hbl, hz1, Nat.mul_one]) (fun j v hv => ?_); rw [Addr.add_lit]; exact hc j v hv
  have hr := Lib.run_append_grow_zeros (P := Tryz.prog) w 24 3 ty 5 i0 (.int .u8 0) .i64 .i64 Tryz.underlying24 Tryz.underlying3 hi hz0 (some ⟨g, off, none⟩) m m (ints .u8 b) hold k hk (by omega) (by omega) (by omega) (by rw [hz2]; omega) (growslice_fits (by omega) (by rw [hz2]; omega)); rw [h4] at hr; have hge := grownCap_ge w 4 m 5; have hcm := grownCap_le_maxLen w 4 m 5 (by unfold maxLen; omega); refine ⟨_, _, _, hr, ?_, ?_⟩
  · have hnew : Blk (w.drew.alloc (.cells ((ints .u8 b).toArray ++ Builtin.zeroCells (Value.int .u8 0).cells k ++ Builtin.zeroCells (Value.int .u8 0).cells (grownCap w 4 m 5 - 4)) 5)) w.heap.size 5 ((ints .u8 b).toArray ++ Builtin.zeroCells (Value.int .u8 0).cells k ++ Builtin.zeroCells (Value.int .u8 0).cells (grownCap w 4 m 5 - 4)) := Blk.new w.drew _ _
    have e1 : (Value.int .u8 0).cells = #[.int .u8 0] := rfl; rw [e1] at hnew ⊢; have hpl := padB_len (b := b) (by omega); refine (Sl.of_own (own_of_block (B := 0) (xs := ints .u8 (padB b)) hnew (Nat.zero_le _) hge hcm ?_ ?_)).1
    · simp [size_zeroCells, ints_len, hbl]; omega
    · have e2 : ((ints .u8 b).toArray ++ Builtin.zeroCells #[.int .u8 0] k ++ Builtin.zeroCells #[.int .u8 0] (grownCap w 4 m 5 - 4)).toList = ints .u8 (padB b) ++ (Builtin.zeroCells #[.int .u8 0] (grownCap w 4 m 5 - 4)).toList := by
        simp only [Array.toList_append]; rw [zeroB_list k, ← ints_append]; unfold padB; rw [show 4 - b.length = k by omega]
      rw [e2, List.take_append_of_le_length (by rw [ints_len, hpl]; omega), List.take_of_length_le (by rw [ints_len, hpl]; omega)]
  · exact ((Below.refl w.heap.size w).drew).alloc (Nat.le_refl _) _
theorem padB_full {b : List Int} (h : b.length = 4) : padB b = b := by unfold padB; rw [h]; simp
theorem byt_pad {b : List Int} (h : Byt b) : Byt (padB b) := h.append (fun x hx => by rw [List.eq_of_mem_replicate hx]; decide)
theorem byt_bytesV {x : Tgs} {o : Int} (h : Byt x.2.2.2) : Byt (bytesV x o) := by
  unfold bytesV
  split
  · exact byt_turn h _ _
  · intro x hx; cases hx
set_option maxHeartbeats 4000000 in
theorem eof_any (tag y k : Int) (a : Option Addr) (n c : Nat) (d : List Int) (o : Int) (w : World) (hs : Sl w a n c 1 (ints .u8 d)) (hd : Byt d) (hn : n ≤ 1000000000) :
    Calls Tryz.prog 150 #[.int .i64 tag, .agg #[.int .i64 y, .int .i64 k, .slice a n c], .int .i64 o] w fun e w' => ∃ x0 x1 x2 x3, e = .returned (.tuple #[.agg #[.int .i64 x0, .int .i64 x1, .int .i64 x2, .int .i64 x3], .bool (eofB tag (bytesV (tag, y, k, d) o) o)]) ∧ Below w.heap.size w w' ∧
      (eofB tag (bytesV (tag, y, k, d) o) o = true → x0 = tag ∧ x1 = y ∧ x2 = k ∧ x3 = getV (padB (bytesV (tag, y, k, d) o)) 0 4 o) := by
  obtain ⟨W1, hW1, b0, b1, hb1, s1⟩ := two_boxes w 72 #[.int .i64 y, .int .i64 k, .slice a n c] 55 #[.int .i64 0, .int .i64 0, .int .i64 0, .int .i64 0]; have hB := tbytes_any tag y k a n c d o W1 (hs.mono hb1) hd hn; have hby : Byt (bytesV (tag, y, k, d) o) := byt_bytesV hd; obtain ⟨E, hE⟩ : ∃ E, eofB tag (bytesV (tag, y, k, d) o) o = E := ⟨_, rfl⟩; rw [hE]; unfold eofB at hE
  generalize bytesV (tag, y, k, d) o = b at *
  rw [← hW1] at hB; have hs' := Lib.hid hs; have hd' := Lib.hid hd; have b0' := Lib.hid b0; have b1' := Lib.hid b1; have hb1' := Lib.hid hb1; have hW1' := Lib.hid hW1; have hB' := Lib.hid hB; have hby' := Lib.hid hby
  have hE' := Lib.hid hE; clear hs hd b0 b1 hb1 hW1 hB hby hE
  go_enter Tryz.func150, Tryz.ntmps150
  go_wp2_with fail
  refine hB'.out.mono ?_; rw [hW1'.out]; rintro e w2 ⟨a2, m, rfl, ho2, hb2⟩; have hbl : b.length = m := (Sl.of_own ho2).1.ilen; have hm1 := (Sl.of_own ho2).1.max; have b02 := b0'.out.late hb2; have b12 := b1'.out.late hb2; have hbw2 := hb1'.out.trans (hb2.mono hb1'.out.size); have hP := fun W => put_any tag 2 o W; obtain ⟨pk, hpk⟩ : ∃ b, putOk tag 2 o = b := ⟨_, rfl⟩; simp only [hpk] at hP; rw [hpk, hbl] at hE'; have b02' := Lib.hid b02; have b12' := Lib.hid b12; have hbw2' := Lib.hid hbw2; have ho2' := Lib.hid ho2; have hb2' := Lib.hid hb2; have hP' := Lib.hid hP; have hpk' := Lib.hid hpk; have hbl' := Lib.hid hbl; clear b02 b12 hbw2 ho2 hb2 hP hpk hbl
  go_wp2_with fail
  refine (hP'.out _).mono ?_; rintro e w3 ⟨a3, m3, c3, rfl, ho3, hb3⟩; have b03 := b02'.out.late hb3; have b13 := b12'.out.late hb3; have hbw3 := hbw2'.out.trans (hb3.mono hbw2'.out.size); have ho23 := own_later ho2'.out hb3; have v0 : w3.cell? ⟨w.heap.size, 0, none⟩ = some (.int .i64 y) := b03.cell rfl; have v1 : w3.cell? ⟨w.heap.size, 1, none⟩ = some (.int .i64 k) := b03.cell rfl; have p0 : w3.cell? ⟨w.heap.size + 1, 0, none⟩ = some (.int .i64 0) := b13.cell rfl; have p1 : w3.cell? ⟨w.heap.size + 1, 1, none⟩ = some (.int .i64 0) := b13.cell rfl; have p2 : w3.cell? ⟨w.heap.size + 1, 2, none⟩ = some (.int .i64 0) := b13.cell rfl; have p3 : w3.cell? ⟨w.heap.size + 1, 3, none⟩ = some (.int .i64 0) := b13.cell rfl; have y0 := b13.frozen 0; have y1 := b13.frozen 1; have y2 := b13.frozen 2; have y3 := b13.frozen 3; have bN := (((b13.set 0 (.int .i64 0)).set 1 (.int .i64 0)).set 2 (.int .i64 0)).set 3 (.int .i64 0); have hbN := (((hbw3.setCell (p := ⟨w.heap.size + 1, 0, none⟩) (by show w.heap.size ≤ w.heap.size + 1; omega) (.int .i64 0)).setCell (p := ⟨w.heap.size + 1, 1, none⟩) (by show w.heap.size ≤ w.heap.size + 1; omega) (.int .i64 0)).setCell (p := ⟨w.heap.size + 1, 2, none⟩) (by show w.heap.size ≤ w.heap.size + 1; omega) (.int .i64 0)).setCell (p := ⟨w.heap.size + 1, 3, none⟩) (by show w.heap.size ≤ w.heap.size + 1; omega) (.int .i64 0)
  cases pk with
  | false =>
    obtain rfl : E = false := hE'.out.symm; have b03' := Lib.hid b03; have b13' := Lib.hid b13; have hbw3' := Lib.hid hbw3; have ho23' := Lib.hid ho23; have hb3' := Lib.hid hb3; have ho3' := Lib.hid ho3; clear b03 b13 hbw3 ho23 hb3 ho3
    go_wp2_with fail
    refine bodyPost_ret (results_blk_tmp rfl _ _ (w.heap.size + 1) 55 #[.int .i64 0, .int .i64 0, .int .i64 0, .int .i64 0] _ rfl bN Tryz.underlying55 rfl (by kernel_rfl)) rfl ?_; exact ⟨0, 0, 0, 0, rfl, hbN, fun h => by cases h⟩
  | true =>
  by_cases hm0 : m = 0
  · have d1 : ((m : Int) == 0) = true := by simp [hm0]
    have d2 : (m == 0) = true := by simp [hm0]
    obtain rfl : E = false := by rw [← hE'.out, hm0]; rfl
    clear hm0; have b03' := Lib.hid b03; have b13' := Lib.hid b13; have hbw3' := Lib.hid hbw3; have ho23' := Lib.hid ho23; have hb3' := Lib.hid hb3; have ho3' := Lib.hid ho3; clear b03 b13 hbw3 ho23 hb3 ho3
    go_wp2_with fail
    refine bodyPost_ret (results_blk_tmp rfl _ _ (w.heap.size + 1) 55 #[.int .i64 0, .int .i64 0, .int .i64 0, .int .i64 0] _ rfl bN Tryz.underlying55 rfl (by kernel_rfl)) rfl ?_; exact ⟨0, 0, 0, 0, rfl, hbN, fun h => by cases h⟩
  have d1 : ((m : Int) == 0) = false := by simp; omega
  have d2 : (m == 0) = false := by simp [hm0]
  by_cases hm4 : 4 < m
  · have d3 : decide ((4 : Int) < (m : Int)) = true := by simp; omega
    have d4 : decide (4 < m) = true := by simp; omega
    obtain rfl : E = false := by rw [← hE'.out, decide_eq_false (show ¬ m ≤ 4 by omega)]; simp
    have b03' := Lib.hid b03; have b13' := Lib.hid b13; have hbw3' := Lib.hid hbw3; have ho23' := Lib.hid ho23; have hb3' := Lib.hid hb3; have ho3' := Lib.hid ho3; clear b03 b13 hbw3 ho23 hb3 ho3
    go_wp2_with fail
    refine bodyPost_ret (results_blk_tmp rfl _ _ (w.heap.size + 1) 55 #[.int .i64 0, .int .i64 0, .int .i64 0, .int .i64 0] _ rfl bN Tryz.underlying55 rfl (by kernel_rfl)) rfl ?_; exact ⟨0, 0, 0, 0, rfl, hbN, fun h => by cases h⟩
  have d3 : decide ((4 : Int) < (m : Int)) = false := by simp; omega
  have d4 : decide (4 < m) = false := by simp; omega
  obtain rfl : E = true := by rw [← hE'.out, decide_eq_true (show m ≠ 0 by omega), decide_eq_true (show m ≤ 4 by omega)]; rfl
  obtain ⟨k4, hk4⟩ : ∃ k4, m + k4 = 4 := ⟨4 - m, by omega⟩; have hwk : IntKind.i64.wrap (4 - (m : Int)) = (k4 : Int) := by rw [IntKind.wrap_i64]; omega
  clear bN hbN
  obtain ⟨a5, c5, w5, hr5, hs5, hb5⟩ : ∃ a' c' w', (Builtin.append_ #[24, 3] 24 #[.slice a2 m m, .int .i64 (k4 : Int)]).run Tryz.prog w3 = .ok (.slice a' 4 c') w' ∧ Sl w' a' 4 c' 1 (ints .u8 (padB b)) ∧ Below w3.heap.size w3 w' := by
    rcases Nat.eq_zero_or_pos k4 with h0 | h0
    · subst h0
      obtain rfl : m = 4 := by omega
      refine ⟨a2, 4, w3, ?_, by rw [padB_full hbl'.out]; exact (Sl.of_own ho23).1, Below.refl _ _⟩; obtain ⟨i0, hi, hz0, hz1, hz2⟩ := info_parts infoB; have hw0 : IntKind.i64.wrap (0 : Int) = 0 := by decide
      simp [Builtin.append_, run_underlying (P := Tryz.prog) Tryz.underlying24, run_underlying (P := Tryz.prog) Tryz.underlying3, sizeOf, typeInfo, zeroValue, hi, hz0, asInt, asIntOf, hw0]
      cases a2 <;> simp [storeCells]
    · exact app_zeros w3 a2 m k4 b _ _ ho23 (by omega) h0 hk4
  have hG := get_any a5 4 c5 (padB b) 0 4 o w5 hs5 (byt_pad hby'.out); have b05 := b03.late hb5; have b15 := b13.late hb5; have hbw5 := hbw3.trans (hb5.mono hbw3.size); obtain ⟨gv, hgv⟩ : ∃ v, getV (padB b) 0 4 o = v := ⟨_, rfl⟩; rw [hgv] at hG; clear v0 v1 p0 p1 p2 p3 y0 y1 y2 y3; have b03' := Lib.hid b03; have b13' := Lib.hid b13; have hbw3' := Lib.hid hbw3; have ho23' := Lib.hid ho23; have hb3' := Lib.hid hb3; have ho3' := Lib.hid ho3; have hG' := Lib.hid hG; have b05' := Lib.hid b05; have b15' := Lib.hid b15; have hbw5' := Lib.hid hbw5; have hs5' := Lib.hid hs5; have hb5' := Lib.hid hb5; have hgv' := Lib.hid hgv; clear b03 b13 hbw3 ho23 hb3 ho3 hG b05 b15 hbw5 hs5 hb5 hgv
  go_wp2_with (at_builtin; refine Lib.wpList_append_run w3 rfl _ _ _ _ rfl _ _ rfl rfl _ _ hr5 ?_)
  refine hG'.out.mono ?_; rintro e w6 ⟨rfl, hb6⟩; have b06 := b05'.out.late hb6; have b16 := b15'.out.late hb6; have hbw6 := hbw5'.out.trans (hb6.mono hbw5'.out.size); have v0 : w6.cell? ⟨w.heap.size, 0, none⟩ = some (.int .i64 y) := b06.cell rfl; have v1 : w6.cell? ⟨w.heap.size, 1, none⟩ = some (.int .i64 k) := b06.cell rfl; have p0 : w6.cell? ⟨w.heap.size + 1, 0, none⟩ = some (.int .i64 0) := b16.cell rfl; have p1 : w6.cell? ⟨w.heap.size + 1, 1, none⟩ = some (.int .i64 0) := b16.cell rfl; have p2 : w6.cell? ⟨w.heap.size + 1, 2, none⟩ = some (.int .i64 0) := b16.cell rfl; have p3 : w6.cell? ⟨w.heap.size + 1, 3, none⟩ = some (.int .i64 0) := b16.cell rfl; have y0 := b16.frozen 0; have y1 := b16.frozen 1; have y2 := b16.frozen 2; have y3 := b16.frozen 3; have bN := (((b16.set 0 (.int .i64 tag)).set 1 (.int .i64 y)).set 2 (.int .i64 k)).set 3 (.int .i64 gv); have hbN := (((hbw6.setCell (p := ⟨w.heap.size + 1, 0, none⟩) (by show w.heap.size ≤ w.heap.size + 1; omega) (.int .i64 tag)).setCell (p := ⟨w.heap.size + 1, 1, none⟩) (by show w.heap.size ≤ w.heap.size + 1; omega) (.int .i64 y)).setCell (p := ⟨w.heap.size + 1, 2, none⟩) (by show w.heap.size ≤ w.heap.size + 1; omega) (.int .i64 k)).setCell (p := ⟨w.heap.size + 1, 3, none⟩) (by show w.heap.size ≤ w.heap.size + 1; omega) (.int .i64 gv); have b06' := Lib.hid b06; have b16' := Lib.hid b16; have hbw6' := Lib.hid hbw6; have hb6' := Lib.hid hb6; clear b06 b16 hbw6 hb6
  go_wp2_with fail
  refine bodyPost_ret (results_blk_tmp rfl _ _ (w.heap.size + 1) 55 #[.int .i64 tag, .int .i64 y, .int .i64 k, .int .i64 gv] _ rfl bN Tryz.underlying55 rfl (by kernel_rfl)) rfl ?_; exact ⟨tag, y, k, gv, rfl, hbN, rfl, rfl, rfl, hgv'.out.symm⟩
end Go.Proofs.YtceclmpmpldmlaaGreat

namespace Go.Proofs.YtceclmpmpldmlaaGreat
open Go.RowKit Tt
set_option linter.unusedVariables false
set_option linter.unusedSimpArgs false

theorem WrS.ne_of {K : Wc} {w : World} {no : Int} {P : List Int} (h : WrS K w no P) : K.gw < w.heap.size ∧ K.gb < w.heap.size := ⟨h.blk.lt, Row.lt h.row⟩
set_option maxHeartbeats 2000000 in
theorem pgput_any (K : Wc) (w : World) (no : Int) (P : List Int) (h : WrS K w no P) (q : Nat) (v s : Int) (hok : putOk v s K.o = true) (hs1 : 1 ≤ (putS v s K.o).length) (hq : q + (putS v s K.o).length ≤ K.n) :
    Calls Tryz.prog 42 #[.pointer (some ⟨K.gw, 0, none⟩), .int .i64 q, .int .i64 v, .int .i64 s] w fun e w' => e = .returned (.tuple #[]) ∧ WrS K w' no (splice P q (putS v s K.o)) ∧ Mv K.gw K.gb nilV nilV w w' := by
  have hP := fun W => put_any v s K.o W; have c1 : w.cell? ⟨K.gw, 1, none⟩ = some (.int .i64 K.o) := h.blk.cell rfl; obtain ⟨by_, hby⟩ : ∃ b, putS v s K.o = b := ⟨_, rfl⟩; rw [hby] at hs1 hq ⊢; simp only [hby, hok] at hP; have h' := Lib.hid h; have hP' := Lib.hid hP; have hby' := Lib.hid hby
  clear h hP hby
  go_enter Tryz.func42, Tryz.ntmps42
  go_wp2_with fail
  refine (hP'.out _).mono ?_; rintro e w2 ⟨a, m, c, rfl, ho2, hb2⟩; have h2 := h'.out.later hb2; have hbl : by_.length = m := (Sl.of_own ho2).1.ilen; rw [hbl] at hs1 hq; clear c1; have c0 : w2.cell? ⟨K.gw, 0, none⟩ = some (.slice (some ⟨K.gb, 0, none⟩) K.n K.n) := h2.blk.cell rfl; have hlow := fun W => low_at (P := Tryz.prog) (T := 24) (E := 5) Tryz.underlying24 sizeB K.gb K.n q (by omega) W; obtain ⟨w3, hr3, h3, hm3, _⟩ := page_copy h2 a m c by_ (Sl.of_own ho2).1 q hs1 hq 3; have hmv := (Mv.of_below (g := K.gw) (gt := K.gb) (sv := nilV) hb2).trans hm3; have ho2' := Lib.hid ho2; have hb2' := Lib.hid hb2; have h2' := Lib.hid h2; have hbl' := Lib.hid hbl; have h3' := Lib.hid h3; have hm3' := Lib.hid hm3; have hmv' := Lib.hid hmv; clear ho2 hb2 h2 hbl h3 hm3 hmv
  go_wp2_with (at_builtin; refine wpList_copy_run _ rfl _ _ _ _ rfl _ _ rfl rfl hr3 ?_)
  go_end0
  exact ⟨rfl, h3'.out, hmv'.out⟩
end Go.Proofs.YtceclmpmpldmlaaGreat
