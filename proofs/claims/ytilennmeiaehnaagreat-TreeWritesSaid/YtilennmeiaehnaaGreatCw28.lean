/- Chapter 21: has a directory a shape: the document. -/
import Derived.Test.YtilennmeiaehnaaGreatCw19
import Derived.Test.YtilennmeiaehnaaGreatCw13
namespace Go.Proofs.YtilennmeiaehnaaGreat
open Go.RowKit Tt
set_option linter.unusedVariables false
set_option linter.unusedSimpArgs false

def RHas (zs : List Shz) (qa : Option Addr) (qn qc : Nat) (f : Nat) : Prop := ∀ (w0 w : World) (d : DirT f) (dv : Dz) (i : Nat), ShR w0 qa qn qc zs → Below w0.heap.size w0 w → DirR w0 f d dv → smallD f d → shapesB (shps zs) = true → i < qn →
  Calls Tryz.prog 54 #[.agg #[dv.1, dv.2.1, dv.2.2], .slice qa qn qc, .int .i64 i] w fun e w' => e = .returned (.bool (hasS (shps zs) f d i)) ∧ Below w.heap.size w w'
set_option maxRecDepth 20000 in
set_option maxHeartbeats 8000000 in
theorem rhas_step (zs : List Shz) (qa : Option Addr) (qn qc : Nat) (f : Nat) (ih : RHas zs qa qn qc f) : RHas zs qa qn qc (f + 1) := by
  intro w0 w d dv i hsh hb0 hd hs hok hi
  have hzl := hsh.len
  obtain ⟨ta, tn, tc, ts, sa, sn, sc, ds, ba, bn, bc, rfl, htg, hdt, hsl, hdl, hsub, hbl⟩ := hd
  obtain ⟨h1, h2, h3, h4⟩ := hs
  have htn : d.1.length = tn := by rw [hdt, List.length_map]; exact htg.len
  have hsn : d.2.1.length = sn := by rw [← hdl]; exact hsl.flen sbC_len (by decide)
  have hbn : d.2.2.length = bn := hbl.ilen
  have hmx := hsh.row.max
  have hle := hsh.row.le
  have hm68 := entN_le (b := d.2.2.length) h1 h3
  have hsn6 : sn ≤ 6 := by omega
  have htn60 : tn ≤ 60 := by omega
  have hE := fun W => rent_any ta sa ba tn tc sn sc bn bc W (by omega) (by omega)
  have hgs : (shps zs).getD i shp0 = (zs.getD i shz0).2 := shps_get (by rw [hzl]; exact hi)
  have hsB := shapesB_get hok (i := i) (by unfold shps; rw [List.length_map, hzl]; exact hi)
  have hsubI := fun t => subI_ok (L := shps zs) (i := i) (t := t) hok (by unfold shps; rw [List.length_map, hzl]; exact hi)
  have hsl2 : (shps zs).length = qn := by unfold shps; rw [List.length_map]; exact hzl
  have hR0 := hasS_succ (shps zs) f d i
  rw [Int.toNat_natCast, htn, hsn, hbn] at hR0
  rw [hbn, htn, hsn] at hm68
  have hlk0 := hsh.at hi
  obtain ⟨b, o, hqa, hblt, fe⟩ := hsh.row.elem shc_len (by decide) shz0 hi
  obtain ⟨⟨⟨la, ln, lc⟩, ⟨lks, sat, slong, snx⟩⟩, hz⟩ : ∃ z, zs.getD i shz0 = z := ⟨_, rfl⟩
  rw [hz] at fe hgs hlk0
  simp only at hgs hlk0
  rw [hgs] at hR0 hsB hsubI
  have hblw : b < w.heap.size := Nat.lt_of_lt_of_le hblt hb0.size
  have f0 := late hb0 hblt (fe 0 _ rfl)
  have f1 := late hb0 hblt (fe 1 _ rfl)
  have f2 := late hb0 hblt (fe 2 _ rfl)
  have f3 := late hb0 hblt (fe 3 _ rfl)
  simp only [Nat.add_zero] at f0 f1 f2 f3
  clear fe
  subst hqa
  have hown := fun t => ownD_ok hsB t
  simp only at hown
  have hin : (i : Int) < (qn : Int) := by omega
  obtain ⟨R, hR⟩ : ∃ R, hasS (shps zs) (f + 1) d i = R := ⟨_, rfl⟩
  rw [hR] at hR0 ⊢
  obtain ⟨WC, hWC, bB, bC, hbC, sC⟩ := two_boxes w 42 #[.slice ta tn tc, .slice sa sn sc, .slice ba bn bc] 50 #[.slice la ln lc, .int .i64 sat, .int .i64 slong, .int .i64 snx]
  have d1 : (0 : Int) ≤ (i : Int) := by omega
  have hsh' := Lib.hid hsh
  have hb0' := Lib.hid hb0
  have htg' := Lib.hid htg
  have hdt' := Lib.hid hdt
  have hsl' := Lib.hid hsl
  have hdl' := Lib.hid hdl
  have hsub' := Lib.hid hsub
  have hbl' := Lib.hid hbl
  have h4' := Lib.hid h4
  have ih' := Lib.hid ih
  have hok' := Lib.hid hok
  have hzl' := Lib.hid hzl
  have htn' := Lib.hid htn
  have hsn' := Lib.hid hsn
  have hbn' := Lib.hid hbn
  have hE' := Lib.hid hE
  have hgs' := Lib.hid hgs
  have hsB' := Lib.hid hsB
  have hsubI' := Lib.hid hsubI
  have hsl2' := Lib.hid hsl2
  have hR0' := Lib.hid hR0
  have hlk0' := Lib.hid hlk0
  have hz' := Lib.hid hz
  have hown' := Lib.hid hown
  have hR' := Lib.hid hR
  have bB' := Lib.hid bB
  have bC' := Lib.hid bC
  have hbC' := Lib.hid hbC
  have sC' := Lib.hid sC
  have hWC' := Lib.hid hWC
  clear hsh hb0 htg hdt hsl hdl hsub hbl h4 ih hok hzl htn hsn hbn hE hgs hsB hsubI hsl2 hR0 hlk0 hz hown hR bB bC hbC sC hWC
  go_enter Tryz.func54, Tryz.ntmps54
  go_wp2_with fail
  rw [hWC'.out]
  refine (hE'.out _).mono ?_
  rintro e w3 ⟨rfl, hb3⟩
  clear hWC' f0 f1 f2 f3 hblt hblw
  generalize entN tn sn bn = m at *
  have bB3 := bB'.out.late hb3
  have bC3 := bC'.out.late hb3
  have hbw3 := hbC'.out.trans (hb3.mono hbC'.out.size)
  have hb03 := hb0'.out.trans (hbw3.mono hb0'.out.size)
  have b2 : w3.cell? ⟨w.heap.size, 2, none⟩ = some (.slice ba bn bc) := bB3.cell rfl
  have c1 : w3.cell? ⟨w.heap.size + 1, 1, none⟩ = some (.int .i64 sat) := bC3.cell rfl
  have e65 : decide ((65535 : Int) < (m : Int)) = false := by simp; omega
  have hHm : hasH (lks, sat, slong, snx) m bn = (decide (1 ≤ m) && (decide (bn = 0) || !decide (sat = 0))) := by unfold hasH; rw [decide_eq_true (show m ≤ 65535 by omega), Bool.and_true]
  rw [hHm] at hR0'
  clear hHm
  have bB3' := Lib.hid bB3
  have bC3' := Lib.hid bC3
  have hbw3' := Lib.hid hbw3
  have hb03' := Lib.hid hb03
  have hb3' := Lib.hid hb3
  clear bB3 bC3 hbw3 hb03 hb3
  go_upto_region 3 with fail
  go_cut [35] from 19 to 35 (fun v wx => v = .bool (!(decide (1 ≤ m) && (decide (bn = 0) || !decide (sat = 0)))) ∧ w3 = wx)
  case first =>
    by_cases hm1 : m < 1
    · have e1 : decide ((m : Int) < 1) = true := by simp; omega
      go_wp2_with fail
      go_meet
      exact ⟨by rw [decide_eq_false (show ¬ 1 ≤ m by omega)]; rfl, rfl⟩
    · have e1 : decide ((m : Int) < 1) = false := by simp; omega
      by_cases hbp : 0 < bn
      · have e3 : decide ((0 : Int) < (bn : Int)) = true := by simp; omega
        by_cases hs0 : sat = 0
        · have e4 : (sat == 0) = true := by simp [hs0]
          go_wp2_with fail
          go_meet
          exact ⟨by rw [decide_eq_true (show 1 ≤ m by omega), decide_eq_false (show ¬ bn = 0 by omega), decide_eq_true hs0]; rfl, rfl⟩
        · have e4 : (sat == 0) = false := by simp [hs0]
          go_wp2_with fail
          go_meet
          exact ⟨by rw [decide_eq_true (show 1 ≤ m by omega), decide_eq_false (show ¬ bn = 0 by omega), decide_eq_false hs0]; rfl, rfl⟩
      · have e3 : decide ((0 : Int) < (bn : Int)) = false := by simp; omega
        go_wp2_with fail
        go_meet
        exact ⟨by rw [decide_eq_true (show 1 ≤ m by omega), decide_eq_true (show bn = 0 by omega)]; rfl, rfl⟩
  case rest =>
  obtain ⟨rfl, rfl⟩ := hcut
  clear b2 c1
  obtain ⟨hh, hhh⟩ : ∃ h, (decide (1 ≤ m) && (decide (bn = 0) || !decide (sat = 0))) = h := ⟨_, rfl⟩
  rw [hhh] at hR0' ⊢
  clear hhh
  cases hh with
  | false =>
    obtain rfl : R = false := by rw [hR0'.out]; rfl
    go_wp2_with fail
    go_ret
    exact ⟨rfl, hbw3'.out⟩
  | true =>
  rw [Bool.true_and] at hR0'
  go_wp2_with fail
  obtain ⟨tss, htss⟩ : ∃ tss, d.1 = tss := ⟨_, rfl⟩
  have hgt : ∀ k, tss.getD k tg0 = tagz (ts.getD k tz0) := fun k => by rw [← htss, hdt'.out]; exact getD_map_tagz
  rw [htss] at hR0'
  have hlen : tss.length = tn := by rw [← htss]; exact htn'.out
  have hgt' := Lib.hid hgt
  have hlen' := Lib.hid hlen
  have htss' := Lib.hid htss
  clear hgt hlen htss
  go_loopw [9] (fun iv wr => ∃ i : Nat, i ≤ tn ∧ iv = .int .i64 i ∧ Hid (∀ j, j < i → tgB (lks, sat, slong, snx) tss j = true) ∧ Hid (Below w3.heap.size w3 wr)) (fun iv _ => tn - (intOf iv).toNat)
  case atStart => exact ⟨0, by omega, rfl, Lib.hid (fun j hj => by omega), Lib.hid (Below.refl _ _)⟩
  case round =>
    obtain ⟨i, hi, rfl, hall, hb⟩ := hrel
    have bBr := bB3'.out.late hb.out
    have bCr := bC3'.out.late hb.out
    have hbw := hbw3'.out.trans (hb.out.mono hbw3'.out.size)
    have hb0r := hb0'.out.trans (hbw.mono hb0'.out.size)
    have m0 : wr.cell? ⟨w.heap.size, 0, none⟩ = some (.slice ta tn tc) := bBr.cell rfl
    by_cases hlt : i < tn
    · have htw := htg'.out.mono hb0r
      obtain ⟨b, o, rfl, hblt, f0, f1, f2, f3, hrd⟩ := htw.at hlt
      have hgi := hgt'.out i
      have hgp := hgt'.out (i - 1)
      obtain ⟨⟨⟨y, t, k, xa, xn, xc⟩, dd⟩, hzi⟩ : ∃ z, ts.getD i tz0 = z := ⟨_, rfl⟩
      rw [hzi] at f0 f1 f2 f3 hrd hgi
      simp only [tagz] at f0 f1 f2 f3 hrd hgi
      have hRno : tgB (lks, sat, slong, snx) tss i = false → R = false := fun hh => by
        have : ownB (lks, sat, slong, snx) tss = false := rng_no (k := i) (by rw [hlen'.out]; exact hlt) hh
        rw [hR0'.out, this]; rfl
      have hall2 : tgB (lks, sat, slong, snx) tss i = true → ∀ j, j < i + 1 → tgB (lks, sat, slong, snx) tss j = true := fun hv j hj => by
        by_cases hjk : j = i
        · subst hjk; exact hv
        · exact hall.out j (by omega)
      have htB : tgB (lks, sat, slong, snx) tss i = (tagB y && (decide (i = 0) || decide ((tss.getD (i - 1) tg0).1 < y)) && !ownP (lks, sat, slong, snx) y && mayS t k dd) := by
        unfold tgB; rw [hgi]; rfl
      have hTG := fun W => rtag_any y W
      generalize tagB y = tb at *
      have hin : (i : Int) < (tn : Int) := by omega
      have hi0 : (0 : Int) ≤ (i : Int) := by omega
      have hw1 : IntKind.i64.wrap ((i : Int) + 1) = i + 1 := by rw [IntKind.wrap_i64]; omega
      have b4 := Blk.new wr 78 #[.int .i64 y, .int .i64 t, .int .i64 k, .slice xa xn xc]
      have hb4 := (Below.refl wr.heap.size wr).alloc (Nat.le_refl _) (.cells #[.int .i64 y, .int .i64 t, .int .i64 k, .slice xa xn xc] 78)
      have hb14 := hb.out.trans (hb4.mono hb.out.size)
      have hbw4 := hbw3'.out.trans (hb14.mono hbw3'.out.size)
      have hb04 := hb0'.out.trans (hbw4.mono hb0'.out.size)
      have bB4 := bB3'.out.late hb14
      have bC4 := bC3'.out.late hb14
      have htw4 := htg'.out.mono hb04
      have hrd4 := hrd.mono hb4
      have hl4 := hlk0'.out.mono hb04
      have hbw' := Lib.hid hbw
      have htw' := Lib.hid htw
      have hgi' := Lib.hid hgi
      have hgp' := Lib.hid hgp
      have hzi' := Lib.hid hzi
      have hRno' := Lib.hid hRno
      have hall2' := Lib.hid hall2
      have htB' := Lib.hid htB
      have hTG' := Lib.hid hTG
      have b4' := Lib.hid b4
      have hb4' := Lib.hid hb4
      have hb14' := Lib.hid hb14
      have hbw4' := Lib.hid hbw4
      have hb04' := Lib.hid hb04
      have bB4' := Lib.hid bB4
      have bC4' := Lib.hid bC4
      have htw4' := Lib.hid htw4
      have hrd' := Lib.hid hrd
      have hrd4' := Lib.hid hrd4
      have hl4' := Lib.hid hl4
      have bBr' := Lib.hid bBr
      have bCr' := Lib.hid bCr
      have hb0r' := Lib.hid hb0r
      clear hbw htw hgi hgp hzi hRno hall2 htB hTG b4 hb4 hb14 hbw4 hb04 bB4 bC4 htw4 hrd hrd4 hl4 bBr bCr hb0r
      go_wp2_with fail
      clear f0 f1 f2 f3 m0
      obtain ⟨w4, hw4⟩ : ∃ w4, wr.alloc (.cells #[.int .i64 y, .int .i64 t, .int .i64 k, .slice xa xn xc] 78) = w4 := ⟨_, rfl⟩
      rw [hw4] at b4' hb4' hb14' hbw4' bB4' bC4' htw4' hrd4' hl4' ⊢
      generalize wr.heap.size = g4 at *
      clear hw4
      have hnz := fun (hz : i ≠ 0) => htw4'.out.at (k := i - 1) (by omega)
      obtain ⟨Ty, ff, hne, hbel, hsurj⟩ := later_worlds w4
      have HS := Lib.hid (hsurj _ ((Below.refl _ _).drew))
      have q0 : ∀ s, (ff s).cell? ⟨g4, 0, none⟩ = some (.int .i64 y) := fun s => (b4'.out.late (hbel s)).cell rfl
      have q1 : ∀ s, (ff s).cell? ⟨g4, 1, none⟩ = some (.int .i64 t) := fun s => (b4'.out.late (hbel s)).cell rfl
      have q2 : ∀ s, (ff s).cell? ⟨g4, 2, none⟩ = some (.int .i64 k) := fun s => (b4'.out.late (hbel s)).cell rfl
      have q3 : ∀ s, (ff s).cell? ⟨g4, 3, none⟩ = some (.slice xa xn xc) := fun s => (b4'.out.late (hbel s)).cell rfl
      have q4 : ∀ s, (ff s).cell? ⟨w.heap.size, 0, none⟩ = some (.slice (some ⟨b, o, none⟩) tn tc) := fun s => (bB4'.out.late (hbel s)).cell rfl
      have q5 : ∀ s, (ff s).cell? ⟨w.heap.size + 1, 0, none⟩ = some (.slice la ln lc) := fun s => (bC4'.out.late (hbel s)).cell rfl
      have q6 : ∀ s, (ff s).cell? ⟨w.heap.size + 1, 1, none⟩ = some (.int .i64 sat) := fun s => (bC4'.out.late (hbel s)).cell rfl
      have q7 : ∀ s, (ff s).cell? ⟨w.heap.size + 1, 2, none⟩ = some (.int .i64 slong) := fun s => (bC4'.out.late (hbel s)).cell rfl
      have q8 : ∀ s, (ff s).cell? ⟨w.heap.size + 1, 3, none⟩ = some (.int .i64 snx) := fun s => (bC4'.out.late (hbel s)).cell rfl
      have hMY := fun s => rmay_any t k xa xn xc dd (ff s) (hrd4'.out.mono (hbel s))
      have hTK := fun s => own_any la ln lc lks sat slong snx y (ff s) (hl4'.out.mono (hbel s))
      rw [hown'.out] at hTK
      generalize ownP (lks, sat, slong, snx) y = kb at *
      generalize mayS t k dd = mb at *
      have hbel' := Lib.hid hbel
      have hsurj' := Lib.hid hsurj
      have hMY' := Lib.hid hMY
      have hTK' := Lib.hid hTK
      clear hbel hsurj hMY hTK
      cases tb
      case false =>
        have hv : tgB (lks, sat, slong, snx) tss i = false := by rw [htB'.out]; simp
        clear hnz
        refine wp_quiet_in ff (by kernel_rfl) (by kernel_rfl) HS.out ?_
        iterate 32 (go_big_quiet_step (first
          | (go_at_call 97; refine (hTG'.out _).mono ?_; rintro e w3 ⟨rfl, rfl⟩; exact ⟨rfl, hsurj'.out _ (hbel'.out _)⟩)
          | (go_at_call 98; refine (hTK'.out _).mono ?_; rintro e w3 ⟨rfl, hb3⟩; exact ⟨rfl, hsurj'.out _ ((hbel'.out _).trans (hb3.mono (hbel'.out _).size))⟩)
          | (go_at_call 87; refine (hMY'.out _).mono ?_; rintro e w3 ⟨rfl, hb3⟩; exact ⟨rfl, hsurj'.out _ ((hbel'.out _).trans (hb3.mono (hbel'.out _).size))⟩)))
        refine wpQuiet_nil ?_
        intro s
        have hbs := hbel'.out s
        have hbw := hbw4'.out.trans (hbs.mono hbw4'.out.size)
        obtain rfl := hRno'.out hv
        clear hv
        have hbw' := Lib.hid hbw
        have hbs' := Lib.hid hbs
        clear hbw hbs
        go_wp2_with fail
        go_ret
        exact ⟨rfl, hbw'.out⟩
      case true =>
      cases kb
      case true =>
        have hv : tgB (lks, sat, slong, snx) tss i = false := by rw [htB'.out]; simp
        clear hnz
        refine wp_quiet_in ff (by kernel_rfl) (by kernel_rfl) HS.out ?_
        iterate 32 (go_big_quiet_step (first
          | (go_at_call 97; refine (hTG'.out _).mono ?_; rintro e w3 ⟨rfl, rfl⟩; exact ⟨rfl, hsurj'.out _ (hbel'.out _)⟩)
          | (go_at_call 98; refine (hTK'.out _).mono ?_; rintro e w3 ⟨rfl, hb3⟩; exact ⟨rfl, hsurj'.out _ ((hbel'.out _).trans (hb3.mono (hbel'.out _).size))⟩)
          | (go_at_call 87; refine (hMY'.out _).mono ?_; rintro e w3 ⟨rfl, hb3⟩; exact ⟨rfl, hsurj'.out _ ((hbel'.out _).trans (hb3.mono (hbel'.out _).size))⟩)))
        refine wpQuiet_nil ?_
        intro s
        have hbs := hbel'.out s
        have hbw := hbw4'.out.trans (hbs.mono hbw4'.out.size)
        obtain rfl := hRno'.out hv
        clear hv
        have hbw' := Lib.hid hbw
        have hbs' := Lib.hid hbs
        clear hbw hbs
        go_wp2_with fail
        go_ret
        exact ⟨rfl, hbw'.out⟩
      case false =>
      cases mb
      case false =>
        have hv : tgB (lks, sat, slong, snx) tss i = false := by rw [htB'.out]; simp
        clear hnz
        refine wp_quiet_in ff (by kernel_rfl) (by kernel_rfl) HS.out ?_
        iterate 32 (go_big_quiet_step (first
          | (go_at_call 97; refine (hTG'.out _).mono ?_; rintro e w3 ⟨rfl, rfl⟩; exact ⟨rfl, hsurj'.out _ (hbel'.out _)⟩)
          | (go_at_call 98; refine (hTK'.out _).mono ?_; rintro e w3 ⟨rfl, hb3⟩; exact ⟨rfl, hsurj'.out _ ((hbel'.out _).trans (hb3.mono (hbel'.out _).size))⟩)
          | (go_at_call 87; refine (hMY'.out _).mono ?_; rintro e w3 ⟨rfl, hb3⟩; exact ⟨rfl, hsurj'.out _ ((hbel'.out _).trans (hb3.mono (hbel'.out _).size))⟩)))
        refine wpQuiet_nil ?_
        intro s
        have hbs := hbel'.out s
        have hbw := hbw4'.out.trans (hbs.mono hbw4'.out.size)
        obtain rfl := hRno'.out hv
        clear hv
        have hbw' := Lib.hid hbw
        have hbs' := Lib.hid hbs
        clear hbw hbs
        go_wp2_with fail
        go_ret
        exact ⟨rfl, hbw'.out⟩
      case true =>
        by_cases hk0 : i = 0
        · have p1 : decide ((0 : Int) < (i : Int)) = false := by simp; omega
          have p2 : decide (0 < i) = false := by simp; omega
          have hv : tgB (lks, sat, slong, snx) tss i = true := by rw [htB'.out, decide_eq_true hk0]; rfl
          clear hk0 hnz
          refine wp_quiet_in ff (by kernel_rfl) (by kernel_rfl) HS.out ?_
          iterate 32 (go_big_quiet_step (first
            | (go_at_call 97; refine (hTG'.out _).mono ?_; rintro e w3 ⟨rfl, rfl⟩; exact ⟨rfl, hsurj'.out _ (hbel'.out _)⟩)
            | (go_at_call 98; refine (hTK'.out _).mono ?_; rintro e w3 ⟨rfl, hb3⟩; exact ⟨rfl, hsurj'.out _ ((hbel'.out _).trans (hb3.mono (hbel'.out _).size))⟩)
            | (go_at_call 87; refine (hMY'.out _).mono ?_; rintro e w3 ⟨rfl, hb3⟩; exact ⟨rfl, hsurj'.out _ ((hbel'.out _).trans (hb3.mono (hbel'.out _).size))⟩)))
          refine wpQuiet_nil ?_
          intro s
          have hbs := hbel'.out s
          have hbw := hb14'.out.trans (hbs.mono hb14'.out.size)
          have hbs' := Lib.hid hbs
          have hbw' := Lib.hid hbw
          have hv' := Lib.hid hv
          clear hbs hbw hv
          go_wp2_with fail
          go_roundw
          case rel => exact ⟨i + 1, by omega, by go_num, Lib.hid (hall2'.out hv'.out), hbw'⟩
          case measure => simp [intOf]; omega
        · obtain ⟨b3, o3, he3, hblt3, g0, _⟩ := hnz hk0
          obtain ⟨rfl, rfl⟩ : b = b3 ∧ o = o3 := by simpa using he3
          clear he3 hnz
          obtain ⟨k', hk'⟩ : ∃ k', k' + 1 = i := ⟨i - 1, by omega⟩
          have p1 : decide ((0 : Int) < (i : Int)) = true := by simp; omega
          have p2 : decide (0 < i) = true := by simp; omega
          have wk : IntKind.i64.wrap ((i : Int) - 1) = (k' : Int) := by rw [IntKind.wrap_i64]; omega
          have hgp2 := hgp'.out
          rw [show i - 1 = k' by omega] at g0 hgp2
          have hpe : (tss.getD (i - 1) tg0).1 = (ts.getD k' tz0).1.1 := by rw [show i - 1 = k' by omega, hgp2]; rfl
          replace htB' := Lib.hid (htB'.out.trans (by rw [hpe] : _ = (true && (decide (i = 0) || decide ((ts.getD k' tz0).1.1 < y)) && !false && true)))
          clear hpe hgp2
          generalize (ts.getD k' tz0).1.1 = pv at *
          have q9 : ∀ s, (ff s).cell? ⟨b, o + k' * 4, none⟩ = some (.int .i64 pv) := fun s => late (hbel'.out s) hblt3 g0
          have hkn2 : (k' : Int) < tn := by omega
          have hkn3 : k' < tn := by omega
          have hkn4 : (0 : Int) ≤ (k' : Int) := by omega
          clear g0
          by_cases hpt : y ≤ pv
          · have p3 : decide (y ≤ pv) = true := by simp; omega
            have hv : tgB (lks, sat, slong, snx) tss i = false := by rw [htB'.out, decide_eq_false hk0, decide_eq_false (show ¬ pv < y by omega)]; rfl
            clear hk0 hk'
            refine wp_quiet_in ff (by kernel_rfl) (by kernel_rfl) HS.out ?_
            iterate 32 (go_big_quiet_step (first
              | (go_at_call 97; refine (hTG'.out _).mono ?_; rintro e w3 ⟨rfl, rfl⟩; exact ⟨rfl, hsurj'.out _ (hbel'.out _)⟩)
              | (go_at_call 98; refine (hTK'.out _).mono ?_; rintro e w3 ⟨rfl, hb3⟩; exact ⟨rfl, hsurj'.out _ ((hbel'.out _).trans (hb3.mono (hbel'.out _).size))⟩)
              | (go_at_call 87; refine (hMY'.out _).mono ?_; rintro e w3 ⟨rfl, hb3⟩; exact ⟨rfl, hsurj'.out _ ((hbel'.out _).trans (hb3.mono (hbel'.out _).size))⟩)))
            refine wpQuiet_nil ?_
            intro s
            have hbs := hbel'.out s
            have hbw := hbw4'.out.trans (hbs.mono hbw4'.out.size)
            obtain rfl := hRno'.out hv
            clear hv
            have hbw' := Lib.hid hbw
            have hbs' := Lib.hid hbs
            clear hbw hbs
            go_wp2_with fail
            go_ret
            exact ⟨rfl, hbw'.out⟩
          · have p3 : decide (y ≤ pv) = false := by simp; omega
            have hv : tgB (lks, sat, slong, snx) tss i = true := by rw [htB'.out, decide_eq_true (show pv < y by omega), Bool.or_true]; rfl
            clear hk0 hk'
            refine wp_quiet_in ff (by kernel_rfl) (by kernel_rfl) HS.out ?_
            iterate 32 (go_big_quiet_step (first
              | (go_at_call 97; refine (hTG'.out _).mono ?_; rintro e w3 ⟨rfl, rfl⟩; exact ⟨rfl, hsurj'.out _ (hbel'.out _)⟩)
              | (go_at_call 98; refine (hTK'.out _).mono ?_; rintro e w3 ⟨rfl, hb3⟩; exact ⟨rfl, hsurj'.out _ ((hbel'.out _).trans (hb3.mono (hbel'.out _).size))⟩)
              | (go_at_call 87; refine (hMY'.out _).mono ?_; rintro e w3 ⟨rfl, hb3⟩; exact ⟨rfl, hsurj'.out _ ((hbel'.out _).trans (hb3.mono (hbel'.out _).size))⟩)))
            refine wpQuiet_nil ?_
            intro s
            have hbs := hbel'.out s
            have hbw := hb14'.out.trans (hbs.mono hb14'.out.size)
            have hbs' := Lib.hid hbs
            have hbw' := Lib.hid hbw
            have hv' := Lib.hid hv
            clear hbs hbw hv
            go_wp2_with fail
            go_roundw
            case rel => exact ⟨i + 1, by omega, by go_num, Lib.hid (hall2'.out hv'.out), hbw'⟩
            case measure => simp [intOf]; omega
    · obtain rfl : i = tn := by omega
      have hoB : ownB (lks, sat, slong, snx) tss = true := rng_yes (fun j hj => hall.out j (by rw [hlen'.out] at hj; exact hj))
      have hR1 := hR0'.out
      rw [hoB, Bool.true_and] at hR1
      have hbw4 := hbw
      have bB4 := bBr
      have bC4 := bCr
      clear hbw bBr bCr hall hoB hlt
      have hbw4' := Lib.hid hbw4
      have bB4' := Lib.hid bB4
      have bC4' := Lib.hid bC4
      have hR1' := Lib.hid hR1
      have hb0r' := Lib.hid hb0r
      clear hbw4 bB4 bC4 hR1 hb0r
      go_wp2_with fail
      obtain ⟨w4, hw4⟩ : ∃ w4, wr = w4 := ⟨_, rfl⟩
      rw [hw4] at hbw4' bB4' bC4' hb0r' hb m0 ⊢
      clear m0 hw4
      go_loopw [11] (fun iv wr => ∃ j : Nat, j ≤ sn ∧ iv = .int .i64 j ∧ Hid (∀ k, k < j → sbB (hasS (shps zs) f) (lks, sat, slong, snx) d.2.1 k = true) ∧ Hid (Below w4.heap.size w4 wr)) (fun iv _ => sn - (intOf iv).toNat)
      case atStart => exact ⟨0, by omega, rfl, Lib.hid (fun k hk => by omega), Lib.hid (Below.refl _ _)⟩
      case round =>
        obtain ⟨j, hj, rfl, hall, hbj⟩ := hrel
        have bBr := bB4'.out.late hbj.out
        have bCr := bC4'.out.late hbj.out
        have m1 : wr.cell? ⟨w.heap.size, 1, none⟩ = some (.slice sa sn sc) := bBr.cell rfl
        by_cases hlt : j < sn
        · have hw1 : IntKind.i64.wrap ((j : Int) + 1) = j + 1 := by rw [IntKind.wrap_i64]; omega
          have hbr := hb0'.out.trans ((hbw4'.out.trans (hbj.out.mono hbw4'.out.size)).mono hb0'.out.size)
          have hid : j < d.2.1.length := by rw [hsn'.out]; exact hlt
          have hids : j < ds.length := by rw [hdl'.out]; exact hid
          have hsB : sbB (hasS (shps zs) f) (lks, sat, slong, snx) d.2.1 j = (linkP (lks, sat, slong, snx) d.2.1[j].1 && (decide (j = 0) || decide ((d.2.1.getD (j - 1) (0, dirZ f)).1 < d.2.1[j].1)) && hasS (shps zs) f d.2.1[j].2 (subI (lks, sat, slong, snx) d.2.1[j].1)) := by unfold sbB; rw [getD_el hid]
          have hRno : sbB (hasS (shps zs) f) (lks, sat, slong, snx) d.2.1 j = false → R = false := fun hh => hR1'.out.trans (rng_no hlt hh)
          have hall2 : sbB (hasS (shps zs) f) (lks, sat, slong, snx) d.2.1 j = true → ∀ k, k < j + 1 → sbB (hasS (shps zs) f) (lks, sat, slong, snx) d.2.1 k = true := fun hv k hk => by
            by_cases hjk : k = j
            · subst hjk; exact hv
            · exact hall.out k (by omega)
          have hsbI := hsubI'.out d.2.1[j].1
          have hsm : smallD f d.2.1[j].2 := h4'.out _ (List.getElem_mem hid)
          obtain ⟨hq1, hq2⟩ := hsub'.out j hids hid
          obtain ⟨ua, un, uc, ra, rn, rc, xa, xn, xc, hv⟩ := hq2.v
          have hslr := hsl'.out.mono hbr
          obtain ⟨xb, xo, rfl, hblt, fe⟩ := hslr.elem sbC_len (by decide) (0, (.slice none 0 0, .slice none 0 0, .slice none 0 0)) hlt
          rw [getD_el hids] at fe
          have g0 := fe 0 _ rfl
          have g1 := fe 1 _ rfl
          have g2 := fe 2 _ rfl
          have g3 := fe 3 _ rfl
          simp only [Nat.add_zero] at g0 g1 g2 g3
          clear fe
          rw [hv] at hq2 g1 g2 g3
          rw [hq1] at g0
          simp only at g0 g1 g2 g3
          have hlnk := hlk0'.out.mono hbr
          have hnz := fun (hz : j ≠ 0) => hslr.elem sbC_len (by decide) (0, (.slice none 0 0, .slice none 0 0, .slice none 0 0)) (i := j - 1) (by omega)
          have hp0 := fun (hz : j ≠ 0) (h1 : j - 1 < ds.length) (h2 : j - 1 < d.2.1.length) => (hsub'.out (j - 1) h1 h2).1
          obtain ⟨y, hy⟩ : ∃ y, d.2.1[j].1 = y := ⟨_, rfl⟩
          obtain ⟨dd, hdd⟩ : ∃ dd, d.2.1[j].2 = dd := ⟨_, rfl⟩
          rw [hy] at g0 hsB hsbI
          rw [hdd] at hq2 hsB hsm
          have hjn : (j : Int) < (sn : Int) := by omega
          have hj0 : (0 : Int) ≤ (j : Int) := by omega
          have hlm := hlnk.max
          have hll := hlnk.le
          have hlkl := hlnk.flen lkc_len (by decide)
          have hbr' := Lib.hid hbr
          have hq1' := Lib.hid hq1
          have hq2' := Lib.hid hq2
          have hv' := Lib.hid hv
          have hy' := Lib.hid hy
          have hdd' := Lib.hid hdd
          have hsB' := Lib.hid hsB
          have hRno' := Lib.hid hRno
          have hall2' := Lib.hid hall2
          have hsm' := Lib.hid hsm
          have hsbI' := Lib.hid hsbI
          have hslr' := Lib.hid hslr
          have hlnk' := Lib.hid hlnk
          have hlkl' := Lib.hid hlkl
          have bBr' := Lib.hid bBr
          have bCr' := Lib.hid bCr
          clear hbr hq1 hq2 hv hy hdd hsB hRno hall2 hsm hsbI hslr hlnk hlkl bBr bCr
          go_wp2_with fail
          clear m1
          obtain ⟨Ty, ff, hne, hbel, hsurj⟩ := later_worlds wr
          have HS := Lib.hid (hsurj _ ((Below.refl _ _).drew))
          have q0 : ∀ s, (ff s).cell? ⟨xb, xo + j * 4, none⟩ = some (.int .i64 y) := fun s => late (hbel s) hblt g0
          have q5 : ∀ s, (ff s).cell? ⟨w.heap.size, 1, none⟩ = some (.slice (some ⟨xb, xo, none⟩) sn sc) := fun s => (bBr'.out.late (hbel s)).cell rfl
          have q6 : ∀ s, (ff s).cell? ⟨w.heap.size + 1, 0, none⟩ = some (.slice la ln lc) := fun s => (bCr'.out.late (hbel s)).cell rfl
          have q7 : ∀ s, (ff s).cell? ⟨w.heap.size + 1, 1, none⟩ = some (.int .i64 sat) := fun s => (bCr'.out.late (hbel s)).cell rfl
          have q8 : ∀ s, (ff s).cell? ⟨w.heap.size + 1, 2, none⟩ = some (.int .i64 slong) := fun s => (bCr'.out.late (hbel s)).cell rfl
          have q9 : ∀ s, (ff s).cell? ⟨w.heap.size + 1, 3, none⟩ = some (.int .i64 snx) := fun s => (bCr'.out.late (hbel s)).cell rfl
          have hLK := fun s => link_any la ln lc lks sat slong snx y (ff s) (hlnk'.out.mono (hbel s))
          have hfb := fst_bounds (p := fun (z : Lk) => z.1 == y) (l := lks)
          have hfa := fst_any (p := fun (z : Lk) => z.1 == y) (l := lks)
          have hsI : subI (lks, sat, slong, snx) y = (lks.getD (fst (fun z => z.1 == y) lks).toNat (0, 0)).2 := rfl
          have hlP : linkP (lks, sat, slong, snx) y = decide (0 ≤ fst (fun (z : Lk) => z.1 == y) lks) := hfa.symm
          rw [hlP] at hsB' hsbI'
          obtain ⟨ix, hix⟩ : ∃ ix, fst (fun (z : Lk) => z.1 == y) lks = ix := ⟨_, rfl⟩
          simp only [hix] at hsB' hsI hsbI' hfb hLK
          have hbel' := Lib.hid hbel
          have hsurj' := Lib.hid hsurj
          have hLK' := Lib.hid hLK
          have hfa' := Lib.hid hfa
          have hix' := Lib.hid hix
          have hlP' := Lib.hid hlP
          have hsI' := Lib.hid hsI
          clear hbel hsurj hLK hfa hix hlP hsI
          refine wp_quiet_in ff (by kernel_rfl) (by kernel_rfl) HS.out ?_
          iterate 9 (go_big_quiet_step ((go_at_call 92; refine (hLK'.out _).mono ?_; rintro e w3 ⟨rfl, hb3⟩; exact ⟨rfl, hsurj'.out _ ((hbel'.out _).trans (hb3.mono (hbel'.out _).size))⟩)))
          refine wpQuiet_nil ?_
          intro s
          have hbs := hbel'.out s
          clear q0 q5 q6 q7 q8 q9
          have hb15 := hbj.out.trans (hbs.mono hbj.out.size)
          have hbw5 := hbw4'.out.trans (hb15.mono hbw4'.out.size)
          have hb05 := hb0'.out.trans (hbw5.mono hb0'.out.size)
          have bB5 := bBr'.out.late hbs
          have bC5 := bCr'.out.late hbs
          have hbls : xb < (ff s).heap.size := Nat.lt_of_lt_of_le hblt hbs.size
          have g0 := late hbs hblt g0
          have g1 := late hbs hblt g1
          have g2 := late hbs hblt g2
          have g3 := late hbs hblt g3
          have hnz := fun (hz : j ≠ 0) => (hsl'.out.mono hb05).elem sbC_len (by decide) (0, (.slice none 0 0, .slice none 0 0, .slice none 0 0)) (i := j - 1) (by omega)
          have hlnk := hlk0'.out.mono hb05
          obtain ⟨w5, hw5⟩ : ∃ w5, ff s = w5 := ⟨_, rfl⟩
          rw [hw5] at hb15 hbw5 hb05 bB5 bC5 hbls g0 g1 g2 g3 hnz hlnk ⊢
          clear hbs hw5 HS hbel' hsurj' hLK' hslr' hlnk' hblt
          go_wp2_with fail
          obtain ⟨Ty, ff, hne, hbel, hsurj⟩ := later_worlds w5
          have HS := Lib.hid (hsurj _ ((Below.refl _ _).drew))
          have q0 : ∀ s, (ff s).cell? ⟨xb, xo + j * 4, none⟩ = some (.int .i64 y) := fun s => late (hbel s) hbls g0
          have q1 : ∀ s, (ff s).cell? ⟨xb, xo + j * 4 + 1, none⟩ = some (.slice ua un uc) := fun s => late (hbel s) hbls g1
          have q2 : ∀ s, (ff s).cell? ⟨xb, xo + j * 4 + 2, none⟩ = some (.slice ra rn rc) := fun s => late (hbel s) hbls g2
          have q3 : ∀ s, (ff s).cell? ⟨xb, xo + j * 4 + 3, none⟩ = some (.slice xa xn xc) := fun s => late (hbel s) hbls g3
          have q5 : ∀ s, (ff s).cell? ⟨w.heap.size, 1, none⟩ = some (.slice (some ⟨xb, xo, none⟩) sn sc) := fun s => (bB5.late (hbel s)).cell rfl
          have q6 : ∀ s, (ff s).cell? ⟨w.heap.size + 1, 0, none⟩ = some (.slice la ln lc) := fun s => (bC5.late (hbel s)).cell rfl
          clear g0 g1 g2 g3
          have hbel' := Lib.hid hbel
          have hsurj' := Lib.hid hsurj
          have hlnk' := Lib.hid hlnk
          have bB5' := Lib.hid bB5
          have bC5' := Lib.hid bC5
          have hb05' := Lib.hid hb05
          have hbw5' := Lib.hid hbw5
          have hb15' := Lib.hid hb15
          clear hbel hsurj hlnk bB5 bC5 hb05 hbw5 hb15
          by_cases hx0 : ix < 0
          · have e5 : decide (ix < 0) = true := by simp; omega
            have hv : sbB (hasS (shps zs) f) (lks, sat, slong, snx) d.2.1 j = false := by rw [hsB'.out, decide_eq_false (show ¬ 0 ≤ ix by omega)]; rfl
            clear hnz hp0
            refine wp_quiet_in ff (by kernel_rfl) (by kernel_rfl) HS.out ?_
            iterate 39 (go_big_quiet_step ((go_at_call 54; refine (hHS'.out _).mono ?_; rintro e w3 ⟨rfl, hb3⟩; exact ⟨rfl, hsurj'.out _ ((hbel'.out _).trans (hb3.mono (hbel'.out _).size))⟩)))
            refine wpQuiet_nil ?_
            intro s
            have hbs := hbel'.out s
            have hbw := hbw5'.out.trans (hbs.mono hbw5'.out.size)
            obtain rfl := hRno'.out hv
            clear hv
            have hbw' := Lib.hid hbw
            have hbs' := Lib.hid hbs
            clear hbw hbs
            go_wp2_with fail
            go_ret
            exact ⟨rfl, hbw'.out⟩
          · have e5 : decide (ix < 0) = false := by simp; omega
            obtain ⟨kx, rfl⟩ : ∃ kx : Nat, ix = kx := ⟨ix.toNat, by omega⟩
            obtain ⟨b3, o3, hla, hblt3, fe⟩ := hlnk'.out.elem lkc_len (by decide) (0, 0) (i := kx) (by rw [hlkl'.out] at hfb; omega)
            subst hla
            have l1 := fe 1 _ rfl
            clear fe
            rw [Int.toNat_natCast] at hsI'
            rw [← hsI'.out] at l1
            have hsb := hsbI'.out (by simp)
            rw [hsl2'.out] at hsb
            obtain ⟨si, hsi⟩ : ∃ si : Nat, subI (lks, sat, slong, snx) y = si := ⟨(subI (lks, sat, slong, snx) y).toNat, by omega⟩
            rw [hsi] at hsb l1 hsB'
            have q7 : ∀ s, (ff s).cell? ⟨b3, o3 + kx * 2 + 1, none⟩ = some (.int .i64 si) := fun s => late (hbel'.out s) hblt3 l1
            have hkl : kx < ln := by rw [hlkl'.out] at hfb; omega
            have hkl2 : (kx : Int) < (ln : Int) := by omega
            have hkl3 : (0 : Int) ≤ (kx : Int) := by omega
            have hHS := fun s => ih'.out w0 (ff s) dd (.slice ua un uc, .slice ra rn rc, .slice xa xn xc) si hsh'.out (hb05'.out.trans ((hbel'.out s).mono hb05'.out.size)) hq2'.out hsm'.out hok'.out (by omega)
            simp only at hHS
            generalize hasS (shps zs) f dd si = hb at *
            clear l1
            have hHS' := Lib.hid hHS
            clear hHS
            rw [decide_eq_true (show (0 : Int) ≤ (kx : Int) by omega), Bool.true_and] at hsB'
            by_cases hk0 : j = 0
            · have p1 : decide ((0 : Int) < (j : Int)) = false := by simp; omega
              have p2 : decide (0 < j) = false := by simp; omega
              rw [decide_eq_true hk0, Bool.true_or, Bool.true_and] at hsB'
              clear hk0 hnz hp0
              cases hb
              case false =>
                have hv : sbB (hasS (shps zs) f) (lks, sat, slong, snx) d.2.1 j = false := hsB'.out
                refine wp_quiet_in ff (by kernel_rfl) (by kernel_rfl) HS.out ?_
                iterate 39 (go_big_quiet_step ((go_at_call 54; refine (hHS'.out _).mono ?_; rintro e w3 ⟨rfl, hb3⟩; exact ⟨rfl, hsurj'.out _ ((hbel'.out _).trans (hb3.mono (hbel'.out _).size))⟩)))
                refine wpQuiet_nil ?_
                intro s
                have hbs := hbel'.out s
                have hbw := hbw5'.out.trans (hbs.mono hbw5'.out.size)
                obtain rfl := hRno'.out hv
                clear hv
                have hbw' := Lib.hid hbw
                have hbs' := Lib.hid hbs
                clear hbw hbs
                go_wp2_with fail
                go_ret
                exact ⟨rfl, hbw'.out⟩
              case true =>
                have hv : sbB (hasS (shps zs) f) (lks, sat, slong, snx) d.2.1 j = true := hsB'.out
                refine wp_quiet_in ff (by kernel_rfl) (by kernel_rfl) HS.out ?_
                iterate 39 (go_big_quiet_step ((go_at_call 54; refine (hHS'.out _).mono ?_; rintro e w3 ⟨rfl, hb3⟩; exact ⟨rfl, hsurj'.out _ ((hbel'.out _).trans (hb3.mono (hbel'.out _).size))⟩)))
                refine wpQuiet_nil ?_
                intro s
                have hbs := hbel'.out s
                have hbw := hb15'.out.trans (hbs.mono hb15'.out.size)
                have hbs' := Lib.hid hbs
                have hbw' := Lib.hid hbw
                have hv' := Lib.hid hv
                clear hbs hbw hv
                go_wp2_with fail
                go_roundw
                case rel => exact ⟨j + 1, by omega, by go_num, Lib.hid (hall2'.out hv'.out), hbw'⟩
                case measure => simp [intOf]; omega
            · obtain ⟨b4, o4, he3, hblt4, fe⟩ := hnz hk0
              obtain ⟨rfl, rfl⟩ : xb = b4 ∧ xo = o4 := by simpa using he3
              clear he3 hnz
              have hp1 := hp0 hk0
              clear hp0
              obtain ⟨k', hk'⟩ : ∃ k', k' + 1 = j := ⟨j - 1, by omega⟩
              have hid2 : k' < d.2.1.length := by rw [hsn'.out]; omega
              have hids2 : k' < ds.length := by rw [hdl'.out]; exact hid2
              have p1 : decide ((0 : Int) < (j : Int)) = true := by simp; omega
              have p2 : decide (0 < j) = true := by simp; omega
              have wk : IntKind.i64.wrap ((j : Int) - 1) = (k' : Int) := by rw [IntKind.wrap_i64]; omega
              have g0 := fe 0 _ rfl
              rw [show j - 1 = k' by omega, getD_el hids2, (hsub'.out k' hids2 hid2).1, Nat.add_zero] at g0
              have hpe : (d.2.1.getD (j - 1) (0, dirZ f)).1 = d.2.1[k'].1 := by rw [show j - 1 = k' by omega, getD_el hid2]
              rw [hpe, decide_eq_false hk0, Bool.false_or] at hsB'
              clear hpe fe hp1
              obtain ⟨pv, hpv⟩ : ∃ pv, d.2.1[k'].1 = pv := ⟨_, rfl⟩
              rw [hpv] at g0 hsB'
              have q9 : ∀ s, (ff s).cell? ⟨xb, xo + k' * 4, none⟩ = some (.int .i64 pv) := fun s => late (hbel'.out s) hblt4 g0
              have hkn2 : (k' : Int) < sn := by omega
              have hkn3 : k' < sn := by omega
              have hkn4 : (0 : Int) ≤ (k' : Int) := by omega
              clear g0 hpv hk0 hk'
              by_cases hpt : y ≤ pv
              · have p3 : decide (y ≤ pv) = true := by simp; omega
                have hv : sbB (hasS (shps zs) f) (lks, sat, slong, snx) d.2.1 j = false := by rw [hsB'.out, decide_eq_false (show ¬ pv < y by omega)]; rfl
                refine wp_quiet_in ff (by kernel_rfl) (by kernel_rfl) HS.out ?_
                iterate 39 (go_big_quiet_step ((go_at_call 54; refine (hHS'.out _).mono ?_; rintro e w3 ⟨rfl, hb3⟩; exact ⟨rfl, hsurj'.out _ ((hbel'.out _).trans (hb3.mono (hbel'.out _).size))⟩)))
                refine wpQuiet_nil ?_
                intro s
                have hbs := hbel'.out s
                have hbw := hbw5'.out.trans (hbs.mono hbw5'.out.size)
                obtain rfl := hRno'.out hv
                clear hv
                have hbw' := Lib.hid hbw
                have hbs' := Lib.hid hbs
                clear hbw hbs
                go_wp2_with fail
                go_ret
                exact ⟨rfl, hbw'.out⟩
              · have p3 : decide (y ≤ pv) = false := by simp; omega
                rw [decide_eq_true (show pv < y by omega), Bool.true_and] at hsB'
                cases hb
                case false =>
                  have hv : sbB (hasS (shps zs) f) (lks, sat, slong, snx) d.2.1 j = false := hsB'.out
                  refine wp_quiet_in ff (by kernel_rfl) (by kernel_rfl) HS.out ?_
                  iterate 39 (go_big_quiet_step ((go_at_call 54; refine (hHS'.out _).mono ?_; rintro e w3 ⟨rfl, hb3⟩; exact ⟨rfl, hsurj'.out _ ((hbel'.out _).trans (hb3.mono (hbel'.out _).size))⟩)))
                  refine wpQuiet_nil ?_
                  intro s
                  have hbs := hbel'.out s
                  have hbw := hbw5'.out.trans (hbs.mono hbw5'.out.size)
                  obtain rfl := hRno'.out hv
                  clear hv
                  have hbw' := Lib.hid hbw
                  have hbs' := Lib.hid hbs
                  clear hbw hbs
                  go_wp2_with fail
                  go_ret
                  exact ⟨rfl, hbw'.out⟩
                case true =>
                  have hv : sbB (hasS (shps zs) f) (lks, sat, slong, snx) d.2.1 j = true := hsB'.out
                  refine wp_quiet_in ff (by kernel_rfl) (by kernel_rfl) HS.out ?_
                  iterate 39 (go_big_quiet_step ((go_at_call 54; refine (hHS'.out _).mono ?_; rintro e w3 ⟨rfl, hb3⟩; exact ⟨rfl, hsurj'.out _ ((hbel'.out _).trans (hb3.mono (hbel'.out _).size))⟩)))
                  refine wpQuiet_nil ?_
                  intro s
                  have hbs := hbel'.out s
                  have hbw := hb15'.out.trans (hbs.mono hb15'.out.size)
                  have hbs' := Lib.hid hbs
                  have hbw' := Lib.hid hbw
                  have hv' := Lib.hid hv
                  clear hbs hbw hv
                  go_wp2_with fail
                  go_roundw
                  case rel => exact ⟨j + 1, by omega, by go_num, Lib.hid (hall2'.out hv'.out), hbw'⟩
                  case measure => simp [intOf]; omega
        · obtain rfl : j = sn := by omega
          obtain rfl : R = true := by rw [hR1'.out]; exact rng_yes hall.out
          have hbw := hbw4'.out.trans (hbj.out.mono hbw4'.out.size)
          have hbw' := Lib.hid hbw
          have bBr' := Lib.hid bBr
          have bCr' := Lib.hid bCr
          clear hbw bBr bCr
          go_wp2_with fail
          go_ret
          exact ⟨rfl, hbw'.out⟩
theorem rhas_any (zs : List Shz) (qa : Option Addr) (qn qc : Nat) : ∀ f, RHas zs qa qn qc f := by
  intro f
  induction f with
  | zero => intro w0 w d dv i _ _ hd; exact hd.elim
  | succ f ih => exact rhas_step zs qa qn qc f ih
end Go.Proofs.YtilennmeiaehnaaGreat
