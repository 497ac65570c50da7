/- Chapter 14: a table of codes' bytes: the program. -/
import Derived.Test.YtpjopeojeglogaaCd17
namespace Go.Proofs.Ytpjopeojeglogaa
open Go.RowKit Tt
set_option linter.unusedVariables false
set_option linter.unusedSimpArgs false

/-- a table of codes, with the place of its symbols -/
abbrev CdM := Cdr × Option Addr × Nat × Nat
def cMC (m : CdM) : List Value := .int .i64 m.1.1 :: .int .i64 m.1.2.1 :: (ints .i64 m.1.2.2.1 ++ [.slice m.2.1 m.2.2.1 m.2.2.2])
theorem cMC_len {m : CdM} (h : m.1.2.2.1.length = 16) : (cMC m).length = 19 := by simp [cMC, ints_len, h]
/-- what is said of one: its counts are 16, its symbols lie there -/
structure CdOk (w : World) (m : CdM) : Prop where
  len : m.1.2.2.1.length = 16
  sl : Sl w m.2.1 m.2.2.1 m.2.2.2 1 (ints .i64 m.1.2.2.2)
  few : m.2.2.1 ≤ 1000
  wf : ∀ x ∈ m.1.2.2.2, (Lit.int .i64 x).wf = true
theorem CdOk.mono {w w' : World} {m : CdM} (h : CdOk w m) (hb : Below w.heap.size w w') : CdOk w' m := ⟨h.len, h.sl.mono hb, h.few, h.wf⟩
theorem cB_cells {w : World} {g : Nat} {m : CdM} (hl : m.1.2.2.1.length = 16) (h : Blk w g 165 (cMC m).toArray) :
    w.cell? ⟨g, 0, none⟩ = some (.int .i64 m.1.1) ∧ w.cell? ⟨g, 1, none⟩ = some (.int .i64 m.1.2.1) ∧ w.cell? ⟨g, 18, none⟩ = some (.slice m.2.1 m.2.2.1 m.2.2.2) ∧ (∀ j v, (ints .i64 m.1.2.2.1 ++ [Value.slice m.2.1 m.2.2.1 m.2.2.2])[j]? = some v → w.cell? ⟨g, 2 + j, none⟩ = some v) := by
  have hall : ∀ j v, (ints .i64 m.1.2.2.1 ++ [Value.slice m.2.1 m.2.2.1 m.2.2.2])[j]? = some v → w.cell? ⟨g, 2 + j, none⟩ = some v := fun j v hv => h.cell (by
    rw [List.getElem?_toArray, Nat.add_comm]; exact hv)
  refine ⟨h.cell rfl, h.cell rfl, hall 16 _ ?_, hall⟩; rw [List.getElem?_append_right (by rw [ints_len]; omega), ints_len, hl]
  rfl
theorem infoH17 : (Try.prog.info? 45).map (·.size) = some 17 := by kernel_rfl
theorem or16_fin : ∀ a b : Fin 16, bits BinOp.or IntKind.i64 ((a.val : Int) * 16) (b.val : Int) = 16 * (a.val : Int) + b.val := by decide +kernel
theorem or16 {a b : Int} (h1 : 0 ≤ a) (h2 : a < 16) (h3 : 0 ≤ b) (h4 : b < 16) : bits BinOp.or IntKind.i64 (a * 16) b = 16 * a + b := by
  have h := or16_fin ⟨a.toNat, by omega⟩ ⟨b.toNat, by omega⟩
  simpa [Int.toNat_of_nonneg h1, Int.toNat_of_nonneg h3] using h
/-- the counts as a slice of the variable that holds them -/
theorem cnt_sl {w : World} {g o : Nat} {c : List Int} {vs : List Value} (hc : c.length = 16) (hg : g < w.heap.size) (h : ∀ j v, (ints .i64 c ++ vs)[j]? = some v → w.cell? ⟨g, o + j, none⟩ = some v) : Sl w (some ⟨g, o, none⟩) 16 16 1 (ints .i64 c) :=
  ⟨by rw [ints_len, hc], Nat.le_refl _, by omega, fun i hi => ⟨g, o, rfl, hg, fun j v hj => h j v (by rw [List.getElem?_append_left (List.getElem?_eq_some_iff.1 hj).1]; exact hj)⟩, fun h => by cases h⟩
theorem cOk_split {c : Cdr} : cOk c = (decide (0 ≤ c.1 ∧ c.1 < 2) && (decide (0 ≤ c.2.1 ∧ c.2.1 < 4) && (hMay c.2.2.1 c.2.2.2 && c.2.2.1.all (fun n => decide (n ≤ 255))))) := by
  unfold cOk; rw [decide_eq_decide.2 (show (0 ≤ c.1 ∧ c.1 ≤ 1) ↔ (0 ≤ c.1 ∧ c.1 < 2) by omega), decide_eq_decide.2 (show (0 ≤ c.2.1 ∧ c.2.1 ≤ 3) ↔ (0 ≤ c.2.1 ∧ c.2.1 < 4) by omega), Bool.and_assoc, Bool.and_assoc]
theorem cnt_nonneg {c s : List Int} (h : hMay c s = true) (hc : c.length = 16) : ∀ x ∈ c, 0 ≤ x ∧ x ≤ 256 := fun x hx => by
  obtain ⟨i, hi, rfl⟩ := mem_get hx; exact cntOk_iff.1 ((hMay_parts h).1 i (by omega))
theorem below256 {c s : List Int} (h : hMay c s = true) (hc : c.length = 16) : belowS 256 c = c.all (fun n => decide (n ≤ 255)) := by
  have hn := cnt_nonneg h hc; unfold belowS; rw [Bool.eq_iff_iff, List.all_eq_true, List.all_eq_true]; exact ⟨fun k x hx => by have := k x hx; simp at this ⊢; omega, fun k x hx => by have := k x hx; have := hn x hx; simp at *; omega⟩
theorem sym_byt {c s : List Int} (h : hMay c s = true) : ∀ x ∈ s, 0 ≤ x ∧ x ≤ 255 := fun x hx => by
  obtain ⟨i, hi, rfl⟩ := mem_get hx; exact (symOk_iff.1 ((hMay_parts h).2.1 i hi)).1
set_option maxRecDepth 20000 in
set_option maxHeartbeats 2000000 in
theorem cbytes_any (m : CdM) (B : Array Value) (hB : (cMC m).toArray = B) (w : World) (hm : CdOk w m) :
    Calls Try.prog 116 #[.agg B] w fun e w' => ∃ a n c, e = .returned (.tuple #[.slice a n c, .bool (cOk m.1)]) ∧ Below w.heap.size w w' ∧ (cOk m.1 = true → n = 17 + m.1.2.2.2.length ∧ w'.ownsRow w.heap.size 5 1 (.slice a n c) n (ints .u8 (cW m.1))) := by
  obtain ⟨i0, hi, hz0, hz1, hz2⟩ := info_parts info8; obtain ⟨Q, hQ⟩ : ∃ Q, cOk m.1 = Q := ⟨_, rfl⟩; rw [hQ]; have hsp := cOk_split (c := m.1); rw [hQ] at hsp; have b1 := Blk.new w 165 B; have hb1 := (Below.refl w.heap.size w).alloc (Nat.le_refl _) (.cells B 165); obtain ⟨W1, hW1⟩ : ∃ W1, w.alloc (.cells B 165) = W1 := ⟨_, rfl⟩; rw [hW1] at b1 hb1; obtain ⟨⟨cl, id, cnt, ss⟩, sa, sn, sc⟩ := m; have hm1 := hm.mono hb1; have hlen := hm.len; have hfew := hm.few; have hwf := hm.wf; have hss := hm.sl.ilen; have hcs := fun W (b : Blk W w.heap.size 165 B) => cB_cells (m := ((cl, id, cnt, ss), sa, sn, sc)) hlen (hB ▸ b); simp only at hsp hcs hlen hfew hwf hss; obtain ⟨c0, c1, c18, hall⟩ := hcs W1 b1; obtain ⟨r1, hr1⟩ : ∃ r, decide (0 ≤ cl ∧ cl < 2) = r := ⟨_, rfl⟩; obtain ⟨r2, hr2⟩ : ∃ r, decide (0 ≤ id ∧ id < 4) = r := ⟨_, rfl⟩; obtain ⟨r3, hr3⟩ : ∃ r, hMay cnt ss = r := ⟨_, rfl⟩; rw [hr1, hr2, hr3] at hsp; have HB1 := fun W (hs : Sl W (some ⟨W1.heap.size, 0, none⟩) 1 1 1 (ints .i64 [cl])) => below_any 2 _ 1 1 [cl] W hs; have hal := (Below.refl W1.heap.size W1).alloc (Nat.le_refl _) (.cells #[.int .i64 cl] 3); have HB2 := HB1 _ (Sl.new W1 3 1 1 #[.int .i64 cl] (0, 0) (by omega) rfl); simp only [below_one, hr1] at HB2; have hal2 := hb1.trans (hal.mono hb1.size); have b2 := b1.late hal; clear HB1 hall; have hB' := Lib.hid hB; have b1' := Lib.hid b1; have hb1' := Lib.hid hb1; have hW1' := Lib.hid hW1; have hQ' := Lib.hid hQ; have hsp' := Lib.hid hsp; have hm' := Lib.hid hm; have hm1' := Lib.hid hm1; have hlen' := Lib.hid hlen; have hfew' := Lib.hid hfew; have hwf' := Lib.hid hwf; have hss' := Lib.hid hss; have hcs' := Lib.hid hcs; have hr1' := Lib.hid hr1; have hr2' := Lib.hid hr2; have hr3' := Lib.hid hr3; have HB2' := Lib.hid HB2; have hal' := Lib.hid hal; have hal2' := Lib.hid hal2; have b2' := Lib.hid b2; clear hB b1 hb1 hW1 hQ hsp hm hm1 hlen hfew hwf hss hcs hr1 hr2 hr3 HB2 hal hal2 b2
  go_enter Try.func116, Try.ntmps116
  go_upto_region 1 with fail
  rw [hW1'.out]
  go_wp2_with fail
  refine HB2'.out.mono ?_; rintro e w2 ⟨rfl, hb2⟩; have hbw2 := hal2'.out.trans (hb2.mono hal2'.out.size); have bk2 := b2'.out.late hb2; clear hb2 c0 c1 c18
  cases r1 with
  | false =>
    obtain rfl : Q = false := hsp'.out; have hbw2' := Lib.hid hbw2; have bk2' := Lib.hid bk2; clear hbw2 bk2
    go_wp2
    go_ret2
    exact ⟨none, 0, 0, rfl, hbw2'.out, fun h => by cases h⟩
  | true =>
    have hsp2 := hsp'.out; rw [Bool.true_and] at hsp2; obtain ⟨c0, c1, c18, hall⟩ := hcs'.out w2 bk2; have hal3 := (Below.refl w2.heap.size w2).alloc (Nat.le_refl _) (.cells #[.int .i64 id] 3); have HB3 := below_any 4 _ 1 1 [id] (w2.alloc (.cells #[.int .i64 id] 3)) (Sl.new w2 3 1 1 #[.int .i64 id] (0, 0) (by omega) rfl); simp only [below_one, hr2'.out] at HB3; have hbw3 := hbw2.trans (hal3.mono hbw2.size); have bk3 := bk2.late hal3; clear hall; have hsp2' := Lib.hid hsp2; have hbw2' := Lib.hid hbw2; have bk2' := Lib.hid bk2; have hal3' := Lib.hid hal3; have HB3' := Lib.hid HB3; have hbw3' := Lib.hid hbw3; have bk3' := Lib.hid bk3; clear hsp2 hbw2 bk2 hal3 HB3 hbw3 bk3
    go_wp2_with fail
    refine HB3'.out.mono ?_; rintro e w4 ⟨rfl, hb4⟩; have hbw4 := hbw3'.out.trans (hb4.mono hbw3'.out.size); have bk4 := bk3'.out.late hb4; clear hb4 c0 c1 c18
    cases r2 with
    | false =>
      obtain rfl : Q = false := hsp2'.out; have hbw4' := Lib.hid hbw4; have bk4' := Lib.hid bk4; clear hbw4 bk4
      go_wp2
      go_ret2
      exact ⟨none, 0, 0, rfl, hbw4'.out, fun h => by cases h⟩
    | true =>
      have hsp3 := hsp2'.out; rw [Bool.true_and] at hsp3; obtain ⟨c0, c1, c18, hall⟩ := hcs'.out w4 bk4; obtain ⟨H, hH⟩ : ∃ H, (ints .i64 cnt ++ [Value.slice sa sn sc]).toArray = H := ⟨_, rfl⟩; have HM := pmay04_any cnt ss sa sn sc w4 hlen'.out (hm'.out.sl.mono hbw4) hwf'.out (by have h : sn ≤ 1000 := hfew'.out; omega); unfold hV at HM; rw [hH, hr3'.out] at HM; have hl17 : (ints .i64 cnt ++ [Value.slice sa sn sc]).length = 17 := by simp [ints_len, hlen'.out]
      clear c0 c1 c18; have hsp3' := Lib.hid hsp3; have hbw4' := Lib.hid hbw4; have bk4' := Lib.hid bk4; have HM' := Lib.hid HM; have hH' := Lib.hid hH; have hall' := Lib.hid hall; have hl17' := Lib.hid hl17; clear hsp3 hbw4 bk4 HM hH hall hl17
      go_wp2_with (refine wpList_load_atW rfl 45 (.tmp 20) rfl w.heap.size 2 rfl (ints .i64 cnt ++ [Value.slice sa sn sc]) H hH'.out _ hall'.out Try.underlying45 rfl 17 infoH17 hl17'.out ?_)
      refine HM'.out.mono ?_; rintro e w5 ⟨rfl, hb5⟩; have hbw5 := hbw4'.out.trans (hb5.mono hbw4'.out.size); have bk5 := bk4'.out.late hb5; clear hb5
      cases r3 with
      | false =>
        obtain rfl : Q = false := hsp3'.out; have hbw5' := Lib.hid hbw5; have bk5' := Lib.hid bk5; clear hbw5 bk5
        go_wp2
        go_ret2
        exact ⟨none, 0, 0, rfl, hbw5'.out, fun h => by cases h⟩
      | true =>
        have hsp4 := hsp3'.out; rw [Bool.true_and] at hsp4; obtain ⟨c0, c1, c18, hall⟩ := hcs'.out w5 bk5; have e1 := of_decide_eq_true hr1'.out; have e2 := of_decide_eq_true hr2'.out; obtain ⟨e1a, e1b⟩ := e1; obtain ⟨e2a, e2b⟩ := e2; have hsp4' := Lib.hid hsp4; have hbw5' := Lib.hid hbw5; have bk5' := Lib.hid bk5; have hall' := Lib.hid hall; clear hsp4 hbw5 bk5 hall; have hor := or16 e1a (by omega) e2a (by omega)
        go_upto_region 4 with fail
        clear hor
        have o6 : (w5.alloc (.cells #[.int .u8 (16 * cl + id)] 5)).ownsRow (w.heap.size + 1) 5 1 (.slice (some ⟨w5.heap.size, 0, none⟩) 1 1) 1 (ints .u8 (mB [16 * cl + id])) := by
          have hb : w.heap.size + 1 ≤ w5.heap.size := bk5'.out.lt; have h := own_new w5 (w.heap.size + 1) 5 1 1 #[.int .u8 (16 * cl + id)] hb (by unfold maxLen; omega) rfl; have e : mB [16 * cl + id] = [16 * cl + id] := mB_same (by intro x hx; rw [List.mem_singleton] at hx; omega); rw [e]; exact h
        have hal6 := (Below.refl w5.heap.size w5).alloc (Nat.le_refl _) (.cells #[.int .u8 (16 * cl + id)] 5); have bk6 := bk5'.out.late hal6; have hbw6 := hbw5'.out.trans (hal6.mono hbw5'.out.size); obtain ⟨w6, hw6⟩ : ∃ w6, w5.alloc (.cells #[.int .u8 (16 * cl + id)] 5) = w6 := ⟨_, rfl⟩; rw [hw6] at o6 bk6 hbw6 ⊢; clear hal6 hw6 c0 c1 c18; have hcut : ∀ W : World, (Instr.sliceAt 43 (.pointer (some ⟨w.heap.size, 2, none⟩)) none none none).run Try.prog W = .ok (.slice (some ⟨w.heap.size, 2, none⟩) 16 16) W := fun W => by kernel_rfl
        obtain ⟨wD, hwD, oD, bkD, hbwD⟩ : ∃ wD, w6.drew = wD ∧ wD.ownsRow (w.heap.size + 1) 5 1 (.slice (some ⟨w5.heap.size, 0, none⟩) 1 1) 1 (ints .u8 (mB [16 * cl + id])) ∧ Blk wD w.heap.size 165 B ∧ Below w.heap.size w wD := ⟨_, rfl, o6.drew, bk6, hbw6.drew⟩; obtain ⟨_, _, c18, _⟩ := hcs'.out wD bkD; obtain ⟨Ty, ff, hne, q18, hsurj⟩ := pr_worlds (fun W => W.cell? ⟨w.heap.size, 18, none⟩ = some (.slice sa sn sc)) wD c18; have HS := Lib.hid (hsurj _ c18); have hal7 := (Below.refl wD.heap.size wD).alloc (Nat.le_refl _) (.cells #[.slice (some ⟨w.heap.size, 2, none⟩) 16 16, .slice sa sn sc] 35); have bk7 := bkD.late hal7; have hbw7 := hbwD.trans (hal7.mono hbwD.size); have o7 := own_later oD hal7; have rows7 := Sl.new wD 35 1 2 #[.slice (some ⟨w.heap.size, 2, none⟩) 16 16, .slice sa sn sc] (0, 0) (by omega) rfl; obtain ⟨w7, hw7⟩ : ∃ w7, wD.alloc (.cells #[.slice (some ⟨w.heap.size, 2, none⟩) 16 16, .slice sa sn sc] 35) = w7 := ⟨_, rfl⟩; rw [hw7] at bk7 hbw7 o7 rows7; obtain ⟨_, _, d18, hall7⟩ := hcs'.out w7 bk7; have HS2 := Lib.hid (hsurj _ d18); have hs17 := cnt_sl hlen'.out bk7.lt hall7; have hsn : sn ≤ 1000 := hfew'.out
        have HC := iconcat_any (some ⟨wD.heap.size, 0, none⟩) 2 2 [(some ⟨w.heap.size, 2, none⟩, 16, 16, cnt), (sa, sn, sc, ss)] w7 rows7 (fun r hr => by
          rcases List.mem_cons.1 hr with rfl | hr
          · exact hs17
          · rcases List.mem_cons.1 hr with rfl | hr
            · exact hm'.out.sl.mono hbw7
            · cases hr) (by omega) (by simp [hlen'.out, hss'.out]; omega)
        have hflat : (([(some ⟨w.heap.size, 2, none⟩, 16, 16, cnt), (sa, sn, sc, ss)] : List Rw4).map (·.2.2.2)).flatten = cnt ++ ss := by simp
        rw [hflat] at HC; clear o6 bk6 hbw6 oD bkD hbwD c18 hal7 rows7 hs17 hall7 d18 hflat hall'; have hwD' := Lib.hid hwD; have hsurj' := Lib.hid hsurj; have bk7' := Lib.hid bk7; have hbw7' := Lib.hid hbw7; have o7' := Lib.hid o7; have hw7' := Lib.hid hw7; have HC' := Lib.hid HC; clear hwD hsurj bk7 hbw7 o7 hw7 HC
        go_wp2_with fail
        refine held_begin (S := fun W => ∃ s, W = ff s) (by kernel_rfl) 10 rfl ?_; rw [hwD'.out]; refine held_take [0, 1, 2, 3, 4, 5, 9] 3 (by kernel_rfl) (fun d _ _ _ _ h => by cases d <;> exact h) (by kernel_rfl) (by kernel_rfl) (by kernel_rfl) HS.out ?_; simp only [pickL, List.map_cons, List.map_nil, List.getD_cons_succ, List.getD_cons_zero]
        iterate 7 (go_big_quiet_step (fail))
        refine wpQuiet_nil ?_; refine held_one 6 2 (by kernel_rfl) (by kernel_rfl) ?_; simp only [pickL, List.map_cons, List.map_nil, List.getD_cons_succ, List.getD_cons_zero]
        go_wp2_with fail
        rw [hw7'.out]
        first | refine Mid.mk ⟨HS2.out, ?_⟩ | refine Mid.mk ?_
        refine held_one 7 1 (by kernel_rfl) (by kernel_rfl) ?_; simp only [pickL, List.map_cons, List.map_nil, List.getD_cons_succ, List.getD_cons_zero]
        go_wp2_with fail
        refine HC'.out.mono ?_; rintro e w8 ⟨a8, m8, c8, rfl, hm8, ho8, hb8⟩; have bk8 := bk7'.out.late hb8; have hbw8 := hbw7'.out.trans (hb8.mono hbw7'.out.size); have o8 := own_later o7'.out hb8; obtain ⟨_, _, c18, _⟩ := hcs'.out w8 bk8; have HS3 := Lib.hid (hsurj'.out _ c18); have hm8b : m8 ≤ 1100 := by rw [hm8, List.length_append]; have h1 : cnt.length = 16 := hlen'.out; have h2 : ss.length = sn := hss'.out; omega
        have hlt8 : w.heap.size + 1 ≤ w8.heap.size := bk8.lt; clear hb8 c18 q18 hne; have bk8' := Lib.hid bk8; have hbw8' := Lib.hid hbw8; have o8' := Lib.hid o8; have ho8' := Lib.hid ho8; have hm8' := Lib.hid hm8; clear bk8 hbw8 o8 ho8 hm8
        go_wp2_with fail
        first | refine Mid.mk ⟨HS3.out, ?_⟩ | refine Mid.mk ?_
        refine held_one 8 0 (by kernel_rfl) (by kernel_rfl) ?_; simp only [pickL, List.map_cons, List.map_nil, List.getD_cons_succ, List.getD_cons_zero]
        go_wp2_with fail
        first | refine Mid.mk ⟨HS3.out, ?_⟩ | refine Mid.mk ?_
        refine held_last (by kernel_rfl) ?_
        go_wp2
        go_loopw [4, 42] (fun bv iv wr => ∃ (k : Nat) (a3 : Option Addr) (c3 : Nat), k ≤ m8 ∧ iv = .int .i64 k ∧ bv = .slice a3 (k + 1) c3 ∧ Hid (wr.ownsRow (w.heap.size + 1) 5 1 (.slice a3 (k + 1) c3) (k + 1) (ints .u8 (mB ((16 * cl + id) :: (cnt ++ ss).take k)))) ∧ Hid (wr.ownsRow w7.heap.size 3 1 (.slice a8 m8 c8) m8 (ints .i64 (cnt ++ ss))) ∧ Hid (Blk wr w.heap.size 165 B) ∧ Hid (Below w.heap.size w wr)) (fun _ iv _ => m8 - (intOf iv).toNat)
        case atStart => exact ⟨0, _, 1, by omega, rfl, rfl, o8', ho8', bk8', hbw8'⟩
        case round =>
          obtain ⟨k, a3, c3, hk, rfl, rfl, Ob, Oi, hbk, hbel⟩ := hrel; have hil := (Sl.of_own Oi.out).1.ilen; have hsz : w.heap.size + 1 ≤ wr.heap.size := hbk.out.lt
          by_cases hlt : k < m8
          · obtain ⟨x, hx⟩ : ∃ x, (cnt ++ ss)[k]? = some x := ⟨_, List.getElem?_eq_getElem (by omega)⟩
            have hxd : (cnt ++ ss).getD k 0 = x := by rw [List.getD_eq_getElem?_getD, hx]; rfl
            obtain ⟨bb, o, rfl, hbb, f⟩ := (Sl.of_own Oi.out).1.at hlt; have f0 := f k _ (ints_get (by omega)); rw [hxd] at f0
            have hsn2 : mB ((16 * cl + id) :: (cnt ++ ss).take (k + 1)) = mB ((16 * cl + id) :: (cnt ++ ss).take k) ++ [x % 256] := by
              show _ :: mB _ = (_ :: mB _) ++ _
              rw [mB_snoc hx]
              rfl
            have hap := own_apart (Oi.out.alloc (.cells #[.int .u8 (x % 256)] 5)) (Ob.out.alloc (.cells #[.int .u8 (x % 256)] 5)) (by decide); clear f; have hx' := Lib.hid hx; have hxd' := Lib.hid hxd; have hsn2' := Lib.hid hsn2; have hil' := Lib.hid hil; have hap' := Lib.hid hap; clear hx hxd hsn2 hil hap
            go_wp2_with (at_builtin; refine wpList_app rfl _ _ 30 rfl (w.heap.size + 1) 5 i0 _ 1 1 Try.underlying30 hi hz0 hz1 hz2 rfl (by decide) _ (k + 1) _ rfl (World.ownsRow.alloc Ob.out _) _ 1 1 _ rfl (Sl.new wr 5 1 1 #[.int .u8 (x % 256)] (0, 0) (by omega) rfl) (by simp [Value.oneCell']) (by omega) (by decide) (by simp; omega) ?_; intro a6 c6 w6 ob6 hb6 hg6; have Ob6 := Lib.hid ob6; have Hb6 := Lib.hid (((Below.refl (w.heap.size + 1) wr).alloc hsz (.cells #[.int .u8 (x % 256)] 5)).trans hb6); have Oi6 := Lib.hid ((Oi.out.alloc (.cells #[.int .u8 (x % 256)] 5)).kept hg6 hap'.out); clear ob6 hb6 hg6)
            have n1 := hbk.out.mono Hb6.out (by omega); have n2 := hbel.out.trans (Hb6.out.mono (by omega)); have n3 : w6.ownsRow (w.heap.size + 1) 5 1 (.slice a6 (k + 1 + 1) c6) (k + 1 + 1) (ints .u8 (mB ((16 * cl + id) :: (cnt ++ ss).take (k + 1)))) := by rw [hsn2'.out, ints_append]; exact Ob6.out
            have n1' := Lib.hid n1; have n2' := Lib.hid n2; have n3' := Lib.hid n3; clear n1 n2 n3
            go_roundw
            case rel => exact ⟨k + 1, a6, c6, by omega, by go_num, rfl, n3', Oi6, n1', n2'⟩
            case measure => simp [intOf]; omega
          · have hkm : k = m8 := by omega
            have Ob2 := Ob.out; rw [hkm, List.take_of_length_le (by omega)] at Ob2; obtain ⟨_, _, _, hall9⟩ := hcs'.out wr hbk.out; have hs9 := cnt_sl hlen'.out hbk.out.lt hall9; have HB9 := below_any 256 _ 16 16 cnt wr hs9; have h256 := below256 hr3'.out hlen'.out; obtain ⟨r9, hr9⟩ : ∃ r, belowS 256 cnt = r := ⟨_, rfl⟩; rw [hr9] at HB9 h256; have hQ9 : Q = r9 := by rw [h256]; exact hsp4'.out
            subst hQ9; clear hall9 h256; have Ob2' := Lib.hid Ob2; have hs9' := Lib.hid hs9; have HB9' := Lib.hid HB9; have hr9' := Lib.hid hr9; have hkm' := Lib.hid hkm; have hil' := Lib.hid hil; clear Ob2 hs9 HB9 hr9 hkm hil
            go_wp2_with fail
            refine HB9'.out.mono ?_; rintro e w10 ⟨rfl, hb10⟩; have hbel10 := hbel.out.trans (hb10.mono hbel.out.size); have Ob10 := own_later Ob2'.out hb10; clear hb10; have hbel10' := Lib.hid hbel10; have Ob10' := Lib.hid Ob10; clear hbel10 Ob10
            go_wp2
            go_ret2
            refine ⟨_, _, _, rfl, hbel10'.out, fun h => ?_⟩
            have e4 : mB ((16 * cl + id) :: (cnt ++ ss)) = (16 * cl + id) :: (cnt ++ ss) := mB_same fun x hx => by
              rcases List.mem_cons.1 hx with rfl | hx
              · omega
              · rcases List.mem_append.1 hx with hx | hx
                · have h5 := List.all_eq_true.1 (by have := hsp4'.out; rw [h] at this; exact this.symm) x hx
                  have h6 := cnt_nonneg hr3'.out hlen'.out x hx; rw [decide_eq_true_eq] at h5
                  omega
                · have := sym_byt hr3'.out x hx
                  omega
            have o9 := own_mono Ob10'.out (Nat.le_succ w.heap.size); rw [e4] at o9
            have hL : k + 1 = 17 + ss.length := by
              have h1 := hil'.out; have h2 := hkm'.out; have h3 : cnt.length = 16 := hlen'.out; rw [List.length_append] at h1
              omega
            exact ⟨hL, by have h9 := o9; rw [← hkm'.out] at h9; exact h9⟩
end Go.Proofs.Ytpjopeojeglogaa
