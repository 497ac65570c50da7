/- Chapter 21: has a directory, with all within it, a shape: the program. -/
import Derived.Test.YtceclmpmpldmlaaGreatCs19
import Derived.Test.YtceclmpmpldmlaaGreatCs20
namespace Go.Proofs.YtceclmpmpldmlaaGreat
open Go.RowKit Tt
set_option linter.unusedVariables false
set_option linter.unusedSimpArgs false

def PHas (zs : List Shz) (qa : Option Addr) (qn qc : Nat) (f : Nat) : Prop := ∀ (w0 w : World) (d : DirT f) (dv : Dz) (i : Nat), ShR w0 qa qn qc zs → Below w0.heap.size w0 w → DirR w0 f d dv → smallD f d → bytD f d → shapesB (shps zs) = true → i < qn →
  Calls Tryz.prog 48 #[.agg #[.slice qa qn qc], .agg #[dv.1, dv.2.1, dv.2.2], .int .i64 i] w fun e w' => e = .returned (.bool (hasS (shps zs) f d i)) ∧ Below w.heap.size w w'
theorem hasH_eq (s : Shp) (e b : Nat) : hasH s e b = (decide (1 ≤ e) && decide (e ≤ 65535) && (decide (b = 0) || !decide (s.2.1 = 0))) := rfl
set_option maxRecDepth 20000 in
set_option maxHeartbeats 8000000 in
theorem has_step (zs : List Shz) (qa : Option Addr) (qn qc : Nat) (f : Nat) (ih : PHas zs qa qn qc f) : PHas zs qa qn qc (f + 1) := by
  intro w0 w d dv i hsh hb0 hd hs hby hok hi; have hzl := hsh.len; obtain ⟨ta, tn, tc, ts, sa, sn, sc, ds, ba, bn, bc, rfl, htg, hdt, hsl, hdl, hsub, hbl⟩ := hd; obtain ⟨h1, h2, h3, h4⟩ := hs; have htn : d.1.length = tn := by rw [hdt, List.length_map]; exact htg.len
  have hsn : d.2.1.length = sn := by rw [← hdl]; exact hsl.flen sbC_len (by decide)
  have hbn : d.2.2.length = bn := hbl.ilen; have hmx := hsh.row.max; have hle := hsh.row.le; have hm68 := entN_le (b := d.2.2.length) h1 h3; have hsn6 : sn ≤ 500 := by omega
  have hE := fun W => ent_any ta sa ba tn tc sn sc bn bc W (by omega) (by omega); have hgs : (shps zs).getD i shp0 = (zs.getD i shz0).2 := shps_get (by rw [hzl]; exact hi); have hsB := shapesB_get hok (i := i) (by unfold shps; rw [List.length_map, hzl]; exact hi); have hsubI := fun t => subI_ok (L := shps zs) (i := i) (t := t) hok (by unfold shps; rw [List.length_map, hzl]; exact hi); have hsl2 : (shps zs).length = qn := by unfold shps; rw [List.length_map]; exact hzl
  have hR0 := hasS_succ (shps zs) f d i; rw [Int.toNat_natCast, htn, hsn, hbn] at hR0; rw [hbn, htn, hsn] at hm68; have hlk0 := hsh.at hi; obtain ⟨b, o, hqa, hblt, fe⟩ := hsh.row.elem shc_len (by decide) shz0 hi; obtain ⟨⟨⟨la, ln, lc⟩, ⟨lks, sat, slong, snx⟩⟩, hz⟩ : ∃ z, zs.getD i shz0 = z := ⟨_, rfl⟩; rw [hz] at fe hgs hlk0; simp only at hgs hlk0; rw [hgs] at hR0 hsB hsubI; have f0 := late hb0 hblt (fe 0 _ rfl); have f1 := late hb0 hblt (fe 1 _ rfl); have f2 := late hb0 hblt (fe 2 _ rfl); have f3 := late hb0 hblt (fe 3 _ rfl); simp only [Nat.add_zero] at f0 f1 f2 f3; clear fe; subst hqa; have hown := fun t => ownP_prog hsB t; simp only at hown; have hin : (i : Int) < (qn : Int) := by omega
  obtain ⟨R, hR⟩ : ∃ R, hasS (shps zs) (f + 1) d i = R := ⟨_, rfl⟩; rw [hR] at hR0 ⊢; have hblt' : b < w.heap.size := Nat.lt_of_lt_of_le hblt hb0.size; obtain ⟨WC, hWC, bA, bB, bC, hbC, sC⟩ := three_boxes w 104 #[.slice (some ⟨b, o, none⟩) qn qc] 26 #[.slice ta tn tc, .slice sa sn sc, .slice ba bn bc] 35 #[.slice la ln lc, .int .i64 sat, .int .i64 slong, .int .i64 snx]; have d1 : (0 : Int) ≤ (i : Int) := by omega
  have hsh' := Lib.hid hsh; have hb0' := Lib.hid hb0; have htg' := Lib.hid htg; have hdt' := Lib.hid hdt; have hsl' := Lib.hid hsl; have hdl' := Lib.hid hdl; have hsub' := Lib.hid hsub; have hbl' := Lib.hid hbl; have h4' := Lib.hid h4; have ih' := Lib.hid ih; have hby' := Lib.hid hby
  have hok' := Lib.hid hok; have hzl' := Lib.hid hzl; have htn' := Lib.hid htn; have hsn' := Lib.hid hsn; have hbn' := Lib.hid hbn; have hE' := Lib.hid hE; have hgs' := Lib.hid hgs; have hsB' := Lib.hid hsB; have hsubI' := Lib.hid hsubI; have hsl2' := Lib.hid hsl2; have hR0' := Lib.hid hR0; have hlk0' := Lib.hid hlk0; have hz' := Lib.hid hz; have hown' := Lib.hid hown; have hR' := Lib.hid hR; have bA' := Lib.hid bA; have bB' := Lib.hid bB; have bC' := Lib.hid bC; have hbC' := Lib.hid hbC; have sC' := Lib.hid sC; have hWC' := Lib.hid hWC; clear hsh hb0 htg hdt hsl hdl hsub hbl h4 ih hby hok hzl htn hsn hbn hE hgs hsB hsubI hsl2 hR0 hlk0 hz hown hR bA bB bC hbC sC hWC
  go_enter Tryz.func48, Tryz.ntmps48
  go_wp2_with fail
  rw [hWC'.out]; refine (hE'.out _).mono ?_; rintro e w3 ⟨rfl, hb3⟩; clear hWC' f0 f1 f2 f3 hblt hblt'
  generalize entN tn sn bn = m at *
  have bA3 := bA'.out.late hb3; have bB3 := bB'.out.late hb3; have bC3 := bC'.out.late hb3; have hbw3 := hbC'.out.trans (hb3.mono hbC'.out.size); have hb03 := hb0'.out.trans (hbw3.mono hb0'.out.size); have a0 : w3.cell? ⟨w.heap.size, 0, none⟩ = some (.slice (some ⟨b, o, none⟩) qn qc) := bA3.cell rfl; have b0 : w3.cell? ⟨w.heap.size + 1, 0, none⟩ = some (.slice ta tn tc) := bB3.cell rfl; have b1 : w3.cell? ⟨w.heap.size + 1, 1, none⟩ = some (.slice sa sn sc) := bB3.cell rfl; have b2 : w3.cell? ⟨w.heap.size + 1, 2, none⟩ = some (.slice ba bn bc) := bB3.cell rfl; have c0 : w3.cell? ⟨w.heap.size + 2, 0, none⟩ = some (.slice la ln lc) := bC3.cell rfl; have c1 : w3.cell? ⟨w.heap.size + 2, 1, none⟩ = some (.int .i64 sat) := bC3.cell rfl; have c2 : w3.cell? ⟨w.heap.size + 2, 2, none⟩ = some (.int .i64 slong) := bC3.cell rfl; have c3 : w3.cell? ⟨w.heap.size + 2, 3, none⟩ = some (.int .i64 snx) := bC3.cell rfl; have e65 : decide ((65535 : Int) < (m : Int)) = false := by simp; omega
  have hHm : hasH (lks, sat, slong, snx) m bn = (decide (1 ≤ m) && (decide (bn = 0) || !decide (sat = 0))) := by rw [hasH_eq, decide_eq_true (show m ≤ 65535 by omega), Bool.and_true]
  rw [hHm] at hR0'; clear hHm; have bA3' := Lib.hid bA3; have bB3' := Lib.hid bB3; have bC3' := Lib.hid bC3; have hbw3' := Lib.hid hbw3; have hb03' := Lib.hid hb03; have hb3' := Lib.hid hb3; clear bA3 bB3 bC3 hbw3 hb03 hb3
  by_cases hm1 : m < 1
  · have e1 : decide ((m : Int) < 1) = true := by simp; omega
    obtain rfl : R = false := by rw [hR0'.out, decide_eq_false (show ¬ 1 ≤ m by omega)]; rfl
    go_wp2_with fail
    go_ret
    exact ⟨rfl, hbw3'.out⟩
  have e1 : decide ((m : Int) < 1) = false := by simp; omega
  rw [decide_eq_true (show 1 ≤ m by omega), Bool.true_and] at hR0'
  have hT := jtags_any (some ⟨b, o, none⟩) qn qc ta tn tc sa sn sc ba bn bc ts la ln lc lks sat slong snx w3 (htg'.out.mono hb03'.out) (fun z hz => by
    have := hby'.out.1 (tagz z) (by rw [hdt'.out]; exact List.mem_map_of_mem hz); exact this) (hlk0'.out.mono hb03'.out) hown'.out
  rw [← hdt'.out] at hT; obtain ⟨tr, htr⟩ : ∃ tr, ownB (lks, sat, slong, snx) d.1 = tr := ⟨_, rfl⟩; rw [htr] at hT hR0'; have hT' := Lib.hid hT; have htr' := Lib.hid htr; clear hT htr
  go_wp2_with fail
  refine hT'.out.mono ?_; rintro e w4 ⟨rfl, hb4⟩; have bA4 := bA3'.out.late hb4; have bB4 := bB3'.out.late hb4; have bC4 := bC3'.out.late hb4; have hbw4 := hbw3'.out.trans (hb4.mono hbw3'.out.size); clear a0 b0 b1 b2 c0 c1 c2 c3; have b1 : w4.cell? ⟨w.heap.size + 1, 1, none⟩ = some (.slice sa sn sc) := bB4.cell rfl; have b2 : w4.cell? ⟨w.heap.size + 1, 2, none⟩ = some (.slice ba bn bc) := bB4.cell rfl; have c1 : w4.cell? ⟨w.heap.size + 2, 1, none⟩ = some (.int .i64 sat) := bC4.cell rfl
  cases tr with
  | false =>
    obtain rfl : R = false := by rw [hR0'.out]; simp
    have bA4' := Lib.hid bA4; have bB4' := Lib.hid bB4; have bC4' := Lib.hid bC4; have hbw4' := Lib.hid hbw4; have hb4' := Lib.hid hb4; clear bA4 bB4 bC4 hbw4 hb4
    go_wp2_with fail
    go_ret
    exact ⟨rfl, hbw4'.out⟩
  | true =>
  rw [Bool.and_true] at hR0'
  by_cases hbz : 0 < bn ∧ sat = 0
  · have e3 : decide ((0 : Int) < (bn : Int)) = true := by simp; omega
    have e4 : (sat == 0) = true := by simp [hbz.2]
    obtain rfl : R = false := by rw [hR0'.out, decide_eq_false (show ¬ bn = 0 by omega), decide_eq_true hbz.2]; rfl
    have hbp := hbz.1; clear hbz; have bA4' := Lib.hid bA4; have bB4' := Lib.hid bB4; have bC4' := Lib.hid bC4; have hbw4' := Lib.hid hbw4; have hb4' := Lib.hid hb4; clear bA4 bB4 bC4 hbw4 hb4
    go_wp2_with fail
    go_ret
    exact ⟨rfl, hbw4'.out⟩
  have hR1 : R = (List.range d.2.1.length).all (sbB (hasS (shps zs) f) (lks, sat, slong, snx) d.2.1) := by
    rw [hR0'.out, hsn'.out]
    have : (decide (bn = 0) || !decide (sat = 0)) = true := by
      by_cases h : bn = 0
      · rw [decide_eq_true h]; rfl
      · rw [decide_eq_false (show ¬ sat = 0 by omega)]; simp
    rw [this, Bool.true_and]
  rw [hsn'.out] at hR1; clear hR0'; have bA4' := Lib.hid bA4; have bB4' := Lib.hid bB4; have bC4' := Lib.hid bC4; have hbw4' := Lib.hid hbw4; have hb4' := Lib.hid hb4; have hR1' := Lib.hid hR1; clear bA4 bB4 bC4 hbw4 hb4 hR1
  by_cases hbp : 0 < bn
  · have e3 : decide ((0 : Int) < (bn : Int)) = true := by simp; omega
    have e4 : (sat == 0) = false := by simp; omega
    clear hbz
    go_wp2_with fail
    clear b1 b2 c1
    go_loopw [46] (fun iv wr => ∃ j : Nat, j ≤ sn ∧ iv = .int .i64 j ∧ Hid (∀ k, k < j → sbB (hasS (shps zs) f) (lks, sat, slong, snx) d.2.1 k = true) ∧ Hid (Below w4.heap.size w4 wr)) (fun iv _ => sn - (intOf iv).toNat)
    case atStart => exact ⟨0, by omega, rfl, Lib.hid (fun k hk => by omega), Lib.hid (Below.refl _ _)⟩
    case round =>
      obtain ⟨j, hj, rfl, hall, hbj⟩ := hrel
      by_cases hlt : j < sn
      · skip
        have hw1 : IntKind.i64.wrap ((j : Int) + 1) = j + 1 := by rw [IntKind.wrap_i64]; omega
        have hbr := hb0'.out.trans ((hbw4'.out.trans (hbj.out.mono hbw4'.out.size)).mono hb0'.out.size); have hid : j < d.2.1.length := by rw [hsn'.out]; exact hlt
        have hids : j < ds.length := by rw [hdl'.out]; exact hid
        have hslr := hsl'.out.mono hbr; obtain ⟨xb, xo, rfl, hblt, fe⟩ := hslr.elem sbC_len (by decide) (0, (.slice none 0 0, .slice none 0 0, .slice none 0 0)) hlt; rw [getD_el hids] at fe; obtain ⟨hq1, hq2⟩ := hsub'.out j hids hid; obtain ⟨ua, un, uc, ra, rn, rc, xa, xn, xc, hv⟩ := hq2.v; have g0 := fe 0 _ rfl; have g1 := fe 1 _ rfl; have g2 := fe 2 _ rfl; have g3 := fe 3 _ rfl; simp only [Nat.add_zero] at g0 g1 g2 g3; clear fe; rw [hv] at hq2 g1 g2 g3; rw [hq1] at g0; simp only at g0 g1 g2 g3; have hsB : sbB (hasS (shps zs) f) (lks, sat, slong, snx) d.2.1 j = (linkP (lks, sat, slong, snx) d.2.1[j].1 && (decide (j = 0) || decide ((d.2.1.getD (j - 1) (0, dirZ f)).1 < d.2.1[j].1)) && hasS (shps zs) f d.2.1[j].2 (subI (lks, sat, slong, snx) d.2.1[j].1)) := by unfold sbB; rw [getD_el hid]
        have hRno : sbB (hasS (shps zs) f) (lks, sat, slong, snx) d.2.1 j = false → R = false := fun hh => hR1'.out.trans (rng_no hlt hh)
        have hall2 : sbB (hasS (shps zs) f) (lks, sat, slong, snx) d.2.1 j = true → ∀ k, k < j + 1 → sbB (hasS (shps zs) f) (lks, sat, slong, snx) d.2.1 k = true := fun hv k hk => by
          by_cases hjk : k = j
          · subst hjk; exact hv
          · exact hall.out k (by omega)
        have hsbI := hsubI'.out d.2.1[j].1; have hsm : smallD f d.2.1[j].2 := h4'.out _ (List.getElem_mem hid); have hbyd : bytD f d.2.1[j].2 := hby'.out.2.1 _ (List.getElem_mem hid); obtain ⟨y, hy⟩ : ∃ y, d.2.1[j].1 = y := ⟨_, rfl⟩; obtain ⟨dd, hdd⟩ : ∃ dd, d.2.1[j].2 = dd := ⟨_, rfl⟩; rw [hy] at g0 hsB hsbI; rw [hdd] at hq2 hsB hsm hbyd; have hjn : (j : Int) < (sn : Int) := by omega
        have b5 := Blk.new wr 28 #[.int .i64 y, .slice ua un uc, .slice ra rn rc, .slice xa xn xc]; have hb5 := (Below.refl wr.heap.size wr).alloc (Nat.le_refl _) (.cells #[.int .i64 y, .slice ua un uc, .slice ra rn rc, .slice xa xn xc] 28); have hb15 := hbj.out.trans (hb5.mono hbj.out.size); have bC5 := bC4'.out.late hbj.out; have k0 : wr.cell? ⟨w.heap.size + 2, 0, none⟩ = some (.slice la ln lc) := bC5.cell rfl; have hbw0 := hbw4'.out.trans (hb15.mono hbw4'.out.size); have hb00 := hb0'.out.trans (hbw0.mono hb0'.out.size); have hIX := lidxt_any 108 (.inr rfl) (.pointer (some ⟨wr.heap.size, 0, none⟩)) la ln lc lks (fun z => z.1 == y) _ ((hlk0'.out.mono hb00)) (fun W' x hb => has1_any _ y x.1 x.2 W' (late hb b5.lt (b5.cell rfl)) (Nat.lt_of_lt_of_le b5.lt hb.size)); have hbC5 := bC5.lt; have hbr' := Lib.hid hbr; have hslr' := Lib.hid hslr; have hq1' := Lib.hid hq1; have hq2' := Lib.hid hq2; have hv' := Lib.hid hv; have hy' := Lib.hid hy; have hdd' := Lib.hid hdd; have hsB' := Lib.hid hsB; have hRno' := Lib.hid hRno; have hall2' := Lib.hid hall2; have hsm' := Lib.hid hsm; have hbyd' := Lib.hid hbyd; have b5' := Lib.hid b5; have hb5' := Lib.hid hb5; have hb15' := Lib.hid hb15; have bC5' := Lib.hid bC5; have hbw0' := Lib.hid hbw0; have hb00' := Lib.hid hb00; have hIX' := Lib.hid hIX; have hsbI' := Lib.hid hsbI; clear hbr hslr hq1 hq2 hv hy hdd hsB hRno hall2 hsm hbyd b5 hb5 hb15 bC5 hbw0 hb00 hIX hsbI
        go_wp2_with fail
        refine hIX'.out.mono ?_; rintro e w5 ⟨rfl, hb6⟩; have hb15 := hb15'.out.trans (hb6.mono hb15'.out.size); have hbw5 := hbw4'.out.trans (hb15.mono hbw4'.out.size); have hb05 := hb0'.out.trans (hbw5.mono hb0'.out.size); have b5 := b5'.out.late hb6; have bA5 := bA4'.out.late hb15; have bB5 := bB4'.out.late hb15; have bC5 := bC4'.out.late hb15; clear k0 g0 g1 g2 g3 hb15' b5' bC5'; obtain ⟨g5, hg5⟩ : ∃ g5, wr.heap.size = g5 := ⟨_, rfl⟩; rw [hg5] at b5 ⊢; have hfb := fst_bounds (p := fun (z : Lk) => z.1 == y) (l := lks); have hfa := fst_any (p := fun (z : Lk) => z.1 == y) (l := lks); have hsI : subI (lks, sat, slong, snx) y = (lks.getD (fst (fun z => z.1 == y) lks).toNat (0, 0)).2 := rfl; have hlP : linkP (lks, sat, slong, snx) y = decide (0 ≤ fst (fun (z : Lk) => z.1 == y) lks) := hfa.symm; rw [hlP] at hsB' hsbI'; obtain ⟨ix, hix⟩ : ∃ ix, fst (fun (z : Lk) => z.1 == y) lks = ix := ⟨_, rfl⟩; simp only [hix] at hsB' hsI hsbI' hfb ⊢; have hnz := fun (hz : j ≠ 0) => (hsl'.out.mono hb05).elem sbC_len (by decide) (0, (.slice none 0 0, .slice none 0 0, .slice none 0 0)) (i := j - 1) (by omega); have hlnk := hlk0'.out.mono hb05; have hlm := hlnk.max; have hll := hlnk.le; have hlkl := hlnk.flen lkc_len (by decide); obtain ⟨Ty, ff, hne, hbel, hsurj⟩ := later_worlds w5; have HS := Lib.hid (hsurj _ ((Below.refl _ _).drew)); have q0 : ∀ s, (ff s).cell? ⟨g5, 0, none⟩ = some (.int .i64 y) := fun s => (b5.late (hbel s)).cell rfl; have q1 : ∀ s, (ff s).cell? ⟨g5, 1, none⟩ = some (.slice ua un uc) := fun s => (b5.late (hbel s)).cell rfl; have q2 : ∀ s, (ff s).cell? ⟨g5, 2, none⟩ = some (.slice ra rn rc) := fun s => (b5.late (hbel s)).cell rfl; have q3 : ∀ s, (ff s).cell? ⟨g5, 3, none⟩ = some (.slice xa xn xc) := fun s => (b5.late (hbel s)).cell rfl; have q4 : ∀ s, (ff s).cell? ⟨w.heap.size, 0, none⟩ = some (.slice (some ⟨b, o, none⟩) qn qc) := fun s => (bA5.late (hbel s)).cell rfl; have q5 : ∀ s, (ff s).cell? ⟨w.heap.size + 1, 1, none⟩ = some (.slice (some ⟨xb, xo, none⟩) sn sc) := fun s => (bB5.late (hbel s)).cell rfl; have q6 : ∀ s, (ff s).cell? ⟨w.heap.size + 2, 0, none⟩ = some (.slice la ln lc) := fun s => (bC5.late (hbel s)).cell rfl; have hix' := Lib.hid hix; have hfa' := Lib.hid hfa; have hsI' := Lib.hid hsI; have hlP' := Lib.hid hlP; have hbel' := Lib.hid hbel; have hsurj' := Lib.hid hsurj; have hlnk' := Lib.hid hlnk; have hlkl' := Lib.hid hlkl; have b5' := Lib.hid b5; have bA5' := Lib.hid bA5; have bB5' := Lib.hid bB5; have bC5' := Lib.hid bC5; have hb05' := Lib.hid hb05; have hbw5' := Lib.hid hbw5; have hb6' := Lib.hid hb6; have hb15' := Lib.hid hb15; have hg5' := Lib.hid hg5; clear hix hfa hsI hlP hbel hsurj hlnk hlkl b5 bA5 bB5 bC5 hb05 hbw5 hb6 hb15 hg5
        by_cases hx0 : ix < 0
        · have e5 : decide (ix < 0) = true := by simp; omega
          have hv : sbB (hasS (shps zs) f) (lks, sat, slong, snx) d.2.1 j = false := by rw [hsB'.out, decide_eq_false (show ¬ 0 ≤ ix by omega)]; rfl
          clear hnz
          go_wp2_with fail
          refine wp_quiet_in ff (by kernel_rfl) (by kernel_rfl) HS.out ?_
          iterate 31 (go_big_quiet_step ((go_at_call 48; refine (hHS'.out _).mono ?_; rintro e w3 ⟨rfl, hb3⟩; exact ⟨rfl, hsurj'.out _ ((hbel'.out _).trans (hb3.mono (hbel'.out _).size))⟩)))
          refine wpQuiet_nil ?_; intro s; have hbs := hbel'.out s; have hbw := hbw5'.out.trans (hbs.mono hbw5'.out.size); obtain rfl := hRno'.out hv; clear hv; have hbw' := Lib.hid hbw; have hbs' := Lib.hid hbs; clear hbw hbs
          go_wp2_with fail
          go_ret
          exact ⟨rfl, hbw'.out⟩
        · have e5 : decide (ix < 0) = false := by simp; omega
          obtain ⟨kx, rfl⟩ : ∃ kx : Nat, ix = kx := ⟨ix.toNat, by omega⟩; obtain ⟨b3, o3, hla, hblt3, fe⟩ := hlnk'.out.elem lkc_len (by decide) (0, 0) (i := kx) (by rw [hlkl'.out] at hfb; omega); subst hla; have l1 := fe 1 _ rfl; clear fe; rw [Int.toNat_natCast] at hsI'; rw [← hsI'.out] at l1; have hsb := hsbI'.out (by simp); rw [hsl2'.out] at hsb; obtain ⟨si, hsi⟩ : ∃ si : Nat, subI (lks, sat, slong, snx) y = si := ⟨(subI (lks, sat, slong, snx) y).toNat, by omega⟩; rw [hsi] at hsb l1 hsB'; have q7 : ∀ s, (ff s).cell? ⟨b3, o3 + kx * 2 + 1, none⟩ = some (.int .i64 si) := fun s => late (hbel'.out s) hblt3 l1; have hkl : kx < ln := by rw [hlkl'.out] at hfb; omega
          have hkl2 : (kx : Int) < (ln : Int) := by omega
          have hkl3 : (0 : Int) ≤ (kx : Int) := by omega
          have hHS := fun s => ih'.out w0 (ff s) dd (.slice ua un uc, .slice ra rn rc, .slice xa xn xc) si hsh'.out (hb05'.out.trans ((hbel'.out s).mono hb05'.out.size)) hq2'.out hsm'.out hbyd'.out hok'.out (by omega); simp only at hHS
          generalize hasS (shps zs) f dd si = hb at *
          have hHS' := Lib.hid hHS; clear hHS; rw [decide_eq_true (show (0 : Int) ≤ (kx : Int) by omega), Bool.true_and] at hsB'
          by_cases hk0 : j = 0
          · have p1 : decide ((0 : Int) < (j : Int)) = false := by simp; omega
            have p2 : decide (0 < j) = false := by simp; omega
            rw [decide_eq_true hk0, Bool.true_or, Bool.true_and] at hsB'; clear hk0 hnz
            cases hb
            case false =>
              have hv : sbB (hasS (shps zs) f) (lks, sat, slong, snx) d.2.1 j = false := hsB'.out
              go_wp2_with fail
              refine wp_quiet_in ff (by kernel_rfl) (by kernel_rfl) HS.out ?_
              iterate 31 (go_big_quiet_step ((go_at_call 48; refine (hHS'.out _).mono ?_; rintro e w3 ⟨rfl, hb3⟩; exact ⟨rfl, hsurj'.out _ ((hbel'.out _).trans (hb3.mono (hbel'.out _).size))⟩)))
              refine wpQuiet_nil ?_; intro s; have hbs := hbel'.out s; have hbw := hbw5'.out.trans (hbs.mono hbw5'.out.size); obtain rfl := hRno'.out hv; clear hv; have hbw' := Lib.hid hbw; have hbs' := Lib.hid hbs; clear hbw hbs
              go_wp2_with fail
              go_ret
              exact ⟨rfl, hbw'.out⟩
            case true =>
              have hv : sbB (hasS (shps zs) f) (lks, sat, slong, snx) d.2.1 j = true := hsB'.out
              go_wp2_with fail
              refine wp_quiet_in ff (by kernel_rfl) (by kernel_rfl) HS.out ?_
              iterate 31 (go_big_quiet_step ((go_at_call 48; refine (hHS'.out _).mono ?_; rintro e w3 ⟨rfl, hb3⟩; exact ⟨rfl, hsurj'.out _ ((hbel'.out _).trans (hb3.mono (hbel'.out _).size))⟩)))
              refine wpQuiet_nil ?_; intro s; have hbs := hbel'.out s; have hbw := hb15'.out.trans (hbs.mono hb15'.out.size); have hbs' := Lib.hid hbs; have hbw' := Lib.hid hbw; have hv' := Lib.hid hv; clear hbs hbw hv
              go_wp2_with fail
              go_roundw
              case rel => exact ⟨j + 1, by omega, by go_num, Lib.hid (hall2'.out hv'.out), hbw'⟩
              case measure => simp [intOf]; omega
          · obtain ⟨b4, o4, he3, hblt4, fe⟩ := hnz hk0
            obtain ⟨rfl, rfl⟩ : xb = b4 ∧ xo = o4 := by simpa using he3
            clear he3 hnz; obtain ⟨k', hk'⟩ : ∃ k', k' + 1 = j := ⟨j - 1, by omega⟩; have hid2 : k' < d.2.1.length := by rw [hsn'.out]; omega
            have hids2 : k' < ds.length := by rw [hdl'.out]; exact hid2
            have p1 : decide ((0 : Int) < (j : Int)) = true := by simp; omega
            have p2 : decide (0 < j) = true := by simp; omega
            have wk : IntKind.i64.wrap ((j : Int) - 1) = (k' : Int) := by rw [IntKind.wrap_i64]; omega
            have g0 := fe 0 _ rfl; rw [show j - 1 = k' by omega, getD_el hids2, (hsub'.out k' hids2 hid2).1, Nat.add_zero] at g0; have hpe : (d.2.1.getD (j - 1) (0, dirZ f)).1 = d.2.1[k'].1 := by rw [show j - 1 = k' by omega, getD_el hid2]
            rw [hpe, decide_eq_false hk0, Bool.false_or] at hsB'; clear hpe fe; obtain ⟨pv, hpv⟩ : ∃ pv, d.2.1[k'].1 = pv := ⟨_, rfl⟩; rw [hpv] at g0 hsB'; have q9 : ∀ s, (ff s).cell? ⟨xb, xo + k' * 4, none⟩ = some (.int .i64 pv) := fun s => late (hbel'.out s) hblt4 g0; have hkn2 : (k' : Int) < sn := by omega
            have hkn3 : k' < sn := by omega
            have hkn4 : (0 : Int) ≤ (k' : Int) := by omega
            clear g0 hpv hk0 hk'
            by_cases hpt : y ≤ pv
            · have p3 : decide (y ≤ pv) = true := by simp; omega
              have hv : sbB (hasS (shps zs) f) (lks, sat, slong, snx) d.2.1 j = false := by rw [hsB'.out, decide_eq_false (show ¬ pv < y by omega)]; rfl
              go_wp2_with fail
              refine wp_quiet_in ff (by kernel_rfl) (by kernel_rfl) HS.out ?_
              iterate 31 (go_big_quiet_step ((go_at_call 48; refine (hHS'.out _).mono ?_; rintro e w3 ⟨rfl, hb3⟩; exact ⟨rfl, hsurj'.out _ ((hbel'.out _).trans (hb3.mono (hbel'.out _).size))⟩)))
              refine wpQuiet_nil ?_; intro s; have hbs := hbel'.out s; have hbw := hbw5'.out.trans (hbs.mono hbw5'.out.size); obtain rfl := hRno'.out hv; clear hv; have hbw' := Lib.hid hbw; have hbs' := Lib.hid hbs; clear hbw hbs
              go_wp2_with fail
              go_ret
              exact ⟨rfl, hbw'.out⟩
            · have p3 : decide (y ≤ pv) = false := by simp; omega
              rw [decide_eq_true (show pv < y by omega), Bool.true_and] at hsB'
              cases hb
              case false =>
                have hv : sbB (hasS (shps zs) f) (lks, sat, slong, snx) d.2.1 j = false := hsB'.out
                go_wp2_with fail
                refine wp_quiet_in ff (by kernel_rfl) (by kernel_rfl) HS.out ?_
                iterate 31 (go_big_quiet_step ((go_at_call 48; refine (hHS'.out _).mono ?_; rintro e w3 ⟨rfl, hb3⟩; exact ⟨rfl, hsurj'.out _ ((hbel'.out _).trans (hb3.mono (hbel'.out _).size))⟩)))
                refine wpQuiet_nil ?_; intro s; have hbs := hbel'.out s; have hbw := hbw5'.out.trans (hbs.mono hbw5'.out.size); obtain rfl := hRno'.out hv; clear hv; have hbw' := Lib.hid hbw; have hbs' := Lib.hid hbs; clear hbw hbs
                go_wp2_with fail
                go_ret
                exact ⟨rfl, hbw'.out⟩
              case true =>
                have hv : sbB (hasS (shps zs) f) (lks, sat, slong, snx) d.2.1 j = true := hsB'.out
                go_wp2_with fail
                refine wp_quiet_in ff (by kernel_rfl) (by kernel_rfl) HS.out ?_
                iterate 31 (go_big_quiet_step ((go_at_call 48; refine (hHS'.out _).mono ?_; rintro e w3 ⟨rfl, hb3⟩; exact ⟨rfl, hsurj'.out _ ((hbel'.out _).trans (hb3.mono (hbel'.out _).size))⟩)))
                refine wpQuiet_nil ?_; intro s; have hbs := hbel'.out s; have hbw := hb15'.out.trans (hbs.mono hb15'.out.size); have hbs' := Lib.hid hbs; have hbw' := Lib.hid hbw; have hv' := Lib.hid hv; clear hbs hbw hv
                go_wp2_with fail
                go_roundw
                case rel => exact ⟨j + 1, by omega, by go_num, Lib.hid (hall2'.out hv'.out), hbw'⟩
                case measure => simp [intOf]; omega
      · obtain rfl : j = sn := by omega
        obtain rfl : R = true := by rw [hR1'.out]; exact rng_yes hall.out
        have hbw := hbw4'.out.trans (hbj.out.mono hbw4'.out.size); have hbw' := Lib.hid hbw; clear hbw
        go_wp2_with fail
        go_ret
        exact ⟨rfl, hbw'.out⟩
  · have e3 : decide ((0 : Int) < (bn : Int)) = false := by simp; omega
    clear hbz
    go_wp2_with fail
    clear b1 b2 c1
    go_loopw [46] (fun iv wr => ∃ j : Nat, j ≤ sn ∧ iv = .int .i64 j ∧ Hid (∀ k, k < j → sbB (hasS (shps zs) f) (lks, sat, slong, snx) d.2.1 k = true) ∧ Hid (Below w4.heap.size w4 wr)) (fun iv _ => sn - (intOf iv).toNat)
    case atStart => exact ⟨0, by omega, rfl, Lib.hid (fun k hk => by omega), Lib.hid (Below.refl _ _)⟩
    case round =>
      obtain ⟨j, hj, rfl, hall, hbj⟩ := hrel
      by_cases hlt : j < sn
      · skip
        have hw1 : IntKind.i64.wrap ((j : Int) + 1) = j + 1 := by rw [IntKind.wrap_i64]; omega
        have hbr := hb0'.out.trans ((hbw4'.out.trans (hbj.out.mono hbw4'.out.size)).mono hb0'.out.size); have hid : j < d.2.1.length := by rw [hsn'.out]; exact hlt
        have hids : j < ds.length := by rw [hdl'.out]; exact hid
        have hslr := hsl'.out.mono hbr; obtain ⟨xb, xo, rfl, hblt, fe⟩ := hslr.elem sbC_len (by decide) (0, (.slice none 0 0, .slice none 0 0, .slice none 0 0)) hlt; rw [getD_el hids] at fe; obtain ⟨hq1, hq2⟩ := hsub'.out j hids hid; obtain ⟨ua, un, uc, ra, rn, rc, xa, xn, xc, hv⟩ := hq2.v; have g0 := fe 0 _ rfl; have g1 := fe 1 _ rfl; have g2 := fe 2 _ rfl; have g3 := fe 3 _ rfl; simp only [Nat.add_zero] at g0 g1 g2 g3; clear fe; rw [hv] at hq2 g1 g2 g3; rw [hq1] at g0; simp only at g0 g1 g2 g3; have hsB : sbB (hasS (shps zs) f) (lks, sat, slong, snx) d.2.1 j = (linkP (lks, sat, slong, snx) d.2.1[j].1 && (decide (j = 0) || decide ((d.2.1.getD (j - 1) (0, dirZ f)).1 < d.2.1[j].1)) && hasS (shps zs) f d.2.1[j].2 (subI (lks, sat, slong, snx) d.2.1[j].1)) := by unfold sbB; rw [getD_el hid]
        have hRno : sbB (hasS (shps zs) f) (lks, sat, slong, snx) d.2.1 j = false → R = false := fun hh => hR1'.out.trans (rng_no hlt hh)
        have hall2 : sbB (hasS (shps zs) f) (lks, sat, slong, snx) d.2.1 j = true → ∀ k, k < j + 1 → sbB (hasS (shps zs) f) (lks, sat, slong, snx) d.2.1 k = true := fun hv k hk => by
          by_cases hjk : k = j
          · subst hjk; exact hv
          · exact hall.out k (by omega)
        have hsbI := hsubI'.out d.2.1[j].1; have hsm : smallD f d.2.1[j].2 := h4'.out _ (List.getElem_mem hid); have hbyd : bytD f d.2.1[j].2 := hby'.out.2.1 _ (List.getElem_mem hid); obtain ⟨y, hy⟩ : ∃ y, d.2.1[j].1 = y := ⟨_, rfl⟩; obtain ⟨dd, hdd⟩ : ∃ dd, d.2.1[j].2 = dd := ⟨_, rfl⟩; rw [hy] at g0 hsB hsbI; rw [hdd] at hq2 hsB hsm hbyd; have hjn : (j : Int) < (sn : Int) := by omega
        have b5 := Blk.new wr 28 #[.int .i64 y, .slice ua un uc, .slice ra rn rc, .slice xa xn xc]; have hb5 := (Below.refl wr.heap.size wr).alloc (Nat.le_refl _) (.cells #[.int .i64 y, .slice ua un uc, .slice ra rn rc, .slice xa xn xc] 28); have hb15 := hbj.out.trans (hb5.mono hbj.out.size); have bC5 := bC4'.out.late hbj.out; have k0 : wr.cell? ⟨w.heap.size + 2, 0, none⟩ = some (.slice la ln lc) := bC5.cell rfl; have hbw0 := hbw4'.out.trans (hb15.mono hbw4'.out.size); have hb00 := hb0'.out.trans (hbw0.mono hb0'.out.size); have hIX := lidxt_any 108 (.inr rfl) (.pointer (some ⟨wr.heap.size, 0, none⟩)) la ln lc lks (fun z => z.1 == y) _ ((hlk0'.out.mono hb00)) (fun W' x hb => has1_any _ y x.1 x.2 W' (late hb b5.lt (b5.cell rfl)) (Nat.lt_of_lt_of_le b5.lt hb.size)); have hbC5 := bC5.lt; have hbr' := Lib.hid hbr; have hslr' := Lib.hid hslr; have hq1' := Lib.hid hq1; have hq2' := Lib.hid hq2; have hv' := Lib.hid hv; have hy' := Lib.hid hy; have hdd' := Lib.hid hdd; have hsB' := Lib.hid hsB; have hRno' := Lib.hid hRno; have hall2' := Lib.hid hall2; have hsm' := Lib.hid hsm; have hbyd' := Lib.hid hbyd; have b5' := Lib.hid b5; have hb5' := Lib.hid hb5; have hb15' := Lib.hid hb15; have bC5' := Lib.hid bC5; have hbw0' := Lib.hid hbw0; have hb00' := Lib.hid hb00; have hIX' := Lib.hid hIX; have hsbI' := Lib.hid hsbI; clear hbr hslr hq1 hq2 hv hy hdd hsB hRno hall2 hsm hbyd b5 hb5 hb15 bC5 hbw0 hb00 hIX hsbI
        go_wp2_with fail
        refine hIX'.out.mono ?_; rintro e w5 ⟨rfl, hb6⟩; have hb15 := hb15'.out.trans (hb6.mono hb15'.out.size); have hbw5 := hbw4'.out.trans (hb15.mono hbw4'.out.size); have hb05 := hb0'.out.trans (hbw5.mono hb0'.out.size); have b5 := b5'.out.late hb6; have bA5 := bA4'.out.late hb15; have bB5 := bB4'.out.late hb15; have bC5 := bC4'.out.late hb15; clear k0 g0 g1 g2 g3 hb15' b5' bC5'; obtain ⟨g5, hg5⟩ : ∃ g5, wr.heap.size = g5 := ⟨_, rfl⟩; rw [hg5] at b5 ⊢; have hfb := fst_bounds (p := fun (z : Lk) => z.1 == y) (l := lks); have hfa := fst_any (p := fun (z : Lk) => z.1 == y) (l := lks); have hsI : subI (lks, sat, slong, snx) y = (lks.getD (fst (fun z => z.1 == y) lks).toNat (0, 0)).2 := rfl; have hlP : linkP (lks, sat, slong, snx) y = decide (0 ≤ fst (fun (z : Lk) => z.1 == y) lks) := hfa.symm; rw [hlP] at hsB' hsbI'; obtain ⟨ix, hix⟩ : ∃ ix, fst (fun (z : Lk) => z.1 == y) lks = ix := ⟨_, rfl⟩; simp only [hix] at hsB' hsI hsbI' hfb ⊢; have hnz := fun (hz : j ≠ 0) => (hsl'.out.mono hb05).elem sbC_len (by decide) (0, (.slice none 0 0, .slice none 0 0, .slice none 0 0)) (i := j - 1) (by omega); have hlnk := hlk0'.out.mono hb05; have hlm := hlnk.max; have hll := hlnk.le; have hlkl := hlnk.flen lkc_len (by decide); obtain ⟨Ty, ff, hne, hbel, hsurj⟩ := later_worlds w5; have HS := Lib.hid (hsurj _ ((Below.refl _ _).drew)); have q0 : ∀ s, (ff s).cell? ⟨g5, 0, none⟩ = some (.int .i64 y) := fun s => (b5.late (hbel s)).cell rfl; have q1 : ∀ s, (ff s).cell? ⟨g5, 1, none⟩ = some (.slice ua un uc) := fun s => (b5.late (hbel s)).cell rfl; have q2 : ∀ s, (ff s).cell? ⟨g5, 2, none⟩ = some (.slice ra rn rc) := fun s => (b5.late (hbel s)).cell rfl; have q3 : ∀ s, (ff s).cell? ⟨g5, 3, none⟩ = some (.slice xa xn xc) := fun s => (b5.late (hbel s)).cell rfl; have q4 : ∀ s, (ff s).cell? ⟨w.heap.size, 0, none⟩ = some (.slice (some ⟨b, o, none⟩) qn qc) := fun s => (bA5.late (hbel s)).cell rfl; have q5 : ∀ s, (ff s).cell? ⟨w.heap.size + 1, 1, none⟩ = some (.slice (some ⟨xb, xo, none⟩) sn sc) := fun s => (bB5.late (hbel s)).cell rfl; have q6 : ∀ s, (ff s).cell? ⟨w.heap.size + 2, 0, none⟩ = some (.slice la ln lc) := fun s => (bC5.late (hbel s)).cell rfl; have hix' := Lib.hid hix; have hfa' := Lib.hid hfa; have hsI' := Lib.hid hsI; have hlP' := Lib.hid hlP; have hbel' := Lib.hid hbel; have hsurj' := Lib.hid hsurj; have hlnk' := Lib.hid hlnk; have hlkl' := Lib.hid hlkl; have b5' := Lib.hid b5; have bA5' := Lib.hid bA5; have bB5' := Lib.hid bB5; have bC5' := Lib.hid bC5; have hb05' := Lib.hid hb05; have hbw5' := Lib.hid hbw5; have hb6' := Lib.hid hb6; have hb15' := Lib.hid hb15; have hg5' := Lib.hid hg5; clear hix hfa hsI hlP hbel hsurj hlnk hlkl b5 bA5 bB5 bC5 hb05 hbw5 hb6 hb15 hg5
        by_cases hx0 : ix < 0
        · have e5 : decide (ix < 0) = true := by simp; omega
          have hv : sbB (hasS (shps zs) f) (lks, sat, slong, snx) d.2.1 j = false := by rw [hsB'.out, decide_eq_false (show ¬ 0 ≤ ix by omega)]; rfl
          clear hnz
          go_wp2_with fail
          refine wp_quiet_in ff (by kernel_rfl) (by kernel_rfl) HS.out ?_
          iterate 31 (go_big_quiet_step ((go_at_call 48; refine (hHS'.out _).mono ?_; rintro e w3 ⟨rfl, hb3⟩; exact ⟨rfl, hsurj'.out _ ((hbel'.out _).trans (hb3.mono (hbel'.out _).size))⟩)))
          refine wpQuiet_nil ?_; intro s; have hbs := hbel'.out s; have hbw := hbw5'.out.trans (hbs.mono hbw5'.out.size); obtain rfl := hRno'.out hv; clear hv; have hbw' := Lib.hid hbw; have hbs' := Lib.hid hbs; clear hbw hbs
          go_wp2_with fail
          go_ret
          exact ⟨rfl, hbw'.out⟩
        · have e5 : decide (ix < 0) = false := by simp; omega
          obtain ⟨kx, rfl⟩ : ∃ kx : Nat, ix = kx := ⟨ix.toNat, by omega⟩; obtain ⟨b3, o3, hla, hblt3, fe⟩ := hlnk'.out.elem lkc_len (by decide) (0, 0) (i := kx) (by rw [hlkl'.out] at hfb; omega); subst hla; have l1 := fe 1 _ rfl; clear fe; rw [Int.toNat_natCast] at hsI'; rw [← hsI'.out] at l1; have hsb := hsbI'.out (by simp); rw [hsl2'.out] at hsb; obtain ⟨si, hsi⟩ : ∃ si : Nat, subI (lks, sat, slong, snx) y = si := ⟨(subI (lks, sat, slong, snx) y).toNat, by omega⟩; rw [hsi] at hsb l1 hsB'; have q7 : ∀ s, (ff s).cell? ⟨b3, o3 + kx * 2 + 1, none⟩ = some (.int .i64 si) := fun s => late (hbel'.out s) hblt3 l1; have hkl : kx < ln := by rw [hlkl'.out] at hfb; omega
          have hkl2 : (kx : Int) < (ln : Int) := by omega
          have hkl3 : (0 : Int) ≤ (kx : Int) := by omega
          have hHS := fun s => ih'.out w0 (ff s) dd (.slice ua un uc, .slice ra rn rc, .slice xa xn xc) si hsh'.out (hb05'.out.trans ((hbel'.out s).mono hb05'.out.size)) hq2'.out hsm'.out hbyd'.out hok'.out (by omega); simp only at hHS
          generalize hasS (shps zs) f dd si = hb at *
          have hHS' := Lib.hid hHS; clear hHS; rw [decide_eq_true (show (0 : Int) ≤ (kx : Int) by omega), Bool.true_and] at hsB'
          by_cases hk0 : j = 0
          · have p1 : decide ((0 : Int) < (j : Int)) = false := by simp; omega
            have p2 : decide (0 < j) = false := by simp; omega
            rw [decide_eq_true hk0, Bool.true_or, Bool.true_and] at hsB'; clear hk0 hnz
            cases hb
            case false =>
              have hv : sbB (hasS (shps zs) f) (lks, sat, slong, snx) d.2.1 j = false := hsB'.out
              go_wp2_with fail
              refine wp_quiet_in ff (by kernel_rfl) (by kernel_rfl) HS.out ?_
              iterate 31 (go_big_quiet_step ((go_at_call 48; refine (hHS'.out _).mono ?_; rintro e w3 ⟨rfl, hb3⟩; exact ⟨rfl, hsurj'.out _ ((hbel'.out _).trans (hb3.mono (hbel'.out _).size))⟩)))
              refine wpQuiet_nil ?_; intro s; have hbs := hbel'.out s; have hbw := hbw5'.out.trans (hbs.mono hbw5'.out.size); obtain rfl := hRno'.out hv; clear hv; have hbw' := Lib.hid hbw; have hbs' := Lib.hid hbs; clear hbw hbs
              go_wp2_with fail
              go_ret
              exact ⟨rfl, hbw'.out⟩
            case true =>
              have hv : sbB (hasS (shps zs) f) (lks, sat, slong, snx) d.2.1 j = true := hsB'.out
              go_wp2_with fail
              refine wp_quiet_in ff (by kernel_rfl) (by kernel_rfl) HS.out ?_
              iterate 31 (go_big_quiet_step ((go_at_call 48; refine (hHS'.out _).mono ?_; rintro e w3 ⟨rfl, hb3⟩; exact ⟨rfl, hsurj'.out _ ((hbel'.out _).trans (hb3.mono (hbel'.out _).size))⟩)))
              refine wpQuiet_nil ?_; intro s; have hbs := hbel'.out s; have hbw := hb15'.out.trans (hbs.mono hb15'.out.size); have hbs' := Lib.hid hbs; have hbw' := Lib.hid hbw; have hv' := Lib.hid hv; clear hbs hbw hv
              go_wp2_with fail
              go_roundw
              case rel => exact ⟨j + 1, by omega, by go_num, Lib.hid (hall2'.out hv'.out), hbw'⟩
              case measure => simp [intOf]; omega
          · obtain ⟨b4, o4, he3, hblt4, fe⟩ := hnz hk0
            obtain ⟨rfl, rfl⟩ : xb = b4 ∧ xo = o4 := by simpa using he3
            clear he3 hnz; obtain ⟨k', hk'⟩ : ∃ k', k' + 1 = j := ⟨j - 1, by omega⟩; have hid2 : k' < d.2.1.length := by rw [hsn'.out]; omega
            have hids2 : k' < ds.length := by rw [hdl'.out]; exact hid2
            have p1 : decide ((0 : Int) < (j : Int)) = true := by simp; omega
            have p2 : decide (0 < j) = true := by simp; omega
            have wk : IntKind.i64.wrap ((j : Int) - 1) = (k' : Int) := by rw [IntKind.wrap_i64]; omega
            have g0 := fe 0 _ rfl; rw [show j - 1 = k' by omega, getD_el hids2, (hsub'.out k' hids2 hid2).1, Nat.add_zero] at g0; have hpe : (d.2.1.getD (j - 1) (0, dirZ f)).1 = d.2.1[k'].1 := by rw [show j - 1 = k' by omega, getD_el hid2]
            rw [hpe, decide_eq_false hk0, Bool.false_or] at hsB'; clear hpe fe; obtain ⟨pv, hpv⟩ : ∃ pv, d.2.1[k'].1 = pv := ⟨_, rfl⟩; rw [hpv] at g0 hsB'; have q9 : ∀ s, (ff s).cell? ⟨xb, xo + k' * 4, none⟩ = some (.int .i64 pv) := fun s => late (hbel'.out s) hblt4 g0; have hkn2 : (k' : Int) < sn := by omega
            have hkn3 : k' < sn := by omega
            have hkn4 : (0 : Int) ≤ (k' : Int) := by omega
            clear g0 hpv hk0 hk'
            by_cases hpt : y ≤ pv
            · have p3 : decide (y ≤ pv) = true := by simp; omega
              have hv : sbB (hasS (shps zs) f) (lks, sat, slong, snx) d.2.1 j = false := by rw [hsB'.out, decide_eq_false (show ¬ pv < y by omega)]; rfl
              go_wp2_with fail
              refine wp_quiet_in ff (by kernel_rfl) (by kernel_rfl) HS.out ?_
              iterate 31 (go_big_quiet_step ((go_at_call 48; refine (hHS'.out _).mono ?_; rintro e w3 ⟨rfl, hb3⟩; exact ⟨rfl, hsurj'.out _ ((hbel'.out _).trans (hb3.mono (hbel'.out _).size))⟩)))
              refine wpQuiet_nil ?_; intro s; have hbs := hbel'.out s; have hbw := hbw5'.out.trans (hbs.mono hbw5'.out.size); obtain rfl := hRno'.out hv; clear hv; have hbw' := Lib.hid hbw; have hbs' := Lib.hid hbs; clear hbw hbs
              go_wp2_with fail
              go_ret
              exact ⟨rfl, hbw'.out⟩
            · have p3 : decide (y ≤ pv) = false := by simp; omega
              rw [decide_eq_true (show pv < y by omega), Bool.true_and] at hsB'
              cases hb
              case false =>
                have hv : sbB (hasS (shps zs) f) (lks, sat, slong, snx) d.2.1 j = false := hsB'.out
                go_wp2_with fail
                refine wp_quiet_in ff (by kernel_rfl) (by kernel_rfl) HS.out ?_
                iterate 31 (go_big_quiet_step ((go_at_call 48; refine (hHS'.out _).mono ?_; rintro e w3 ⟨rfl, hb3⟩; exact ⟨rfl, hsurj'.out _ ((hbel'.out _).trans (hb3.mono (hbel'.out _).size))⟩)))
                refine wpQuiet_nil ?_; intro s; have hbs := hbel'.out s; have hbw := hbw5'.out.trans (hbs.mono hbw5'.out.size); obtain rfl := hRno'.out hv; clear hv; have hbw' := Lib.hid hbw; have hbs' := Lib.hid hbs; clear hbw hbs
                go_wp2_with fail
                go_ret
                exact ⟨rfl, hbw'.out⟩
              case true =>
                have hv : sbB (hasS (shps zs) f) (lks, sat, slong, snx) d.2.1 j = true := hsB'.out
                go_wp2_with fail
                refine wp_quiet_in ff (by kernel_rfl) (by kernel_rfl) HS.out ?_
                iterate 31 (go_big_quiet_step ((go_at_call 48; refine (hHS'.out _).mono ?_; rintro e w3 ⟨rfl, hb3⟩; exact ⟨rfl, hsurj'.out _ ((hbel'.out _).trans (hb3.mono (hbel'.out _).size))⟩)))
                refine wpQuiet_nil ?_; intro s; have hbs := hbel'.out s; have hbw := hb15'.out.trans (hbs.mono hb15'.out.size); have hbs' := Lib.hid hbs; have hbw' := Lib.hid hbw; have hv' := Lib.hid hv; clear hbs hbw hv
                go_wp2_with fail
                go_roundw
                case rel => exact ⟨j + 1, by omega, by go_num, Lib.hid (hall2'.out hv'.out), hbw'⟩
                case measure => simp [intOf]; omega
      · obtain rfl : j = sn := by omega
        obtain rfl : R = true := by rw [hR1'.out]; exact rng_yes hall.out
        have hbw := hbw4'.out.trans (hbj.out.mono hbw4'.out.size); have hbw' := Lib.hid hbw; clear hbw
        go_wp2_with fail
        go_ret
        exact ⟨rfl, hbw'.out⟩
theorem has_any (zs : List Shz) (qa : Option Addr) (qn qc : Nat) : ∀ f, PHas zs qa qn qc f := by
  intro f
  induction f with
  | zero => intro w0 w d dv i _ _ hd; exact hd.elim
  | succ f ih => exact has_step zs qa qn qc f ih
end Go.Proofs.YtceclmpmpldmlaaGreat
