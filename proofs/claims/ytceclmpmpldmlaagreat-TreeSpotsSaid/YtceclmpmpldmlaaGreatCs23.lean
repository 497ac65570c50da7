/- Chapter 21: a directory is written: the program. -/
import Derived.Test.YtceclmpmpldmlaaGreatCs22
namespace Go.Proofs.YtceclmpmpldmlaaGreat
open Go.RowKit Tt
set_option linter.unusedVariables false
set_option linter.unusedSimpArgs false

abbrev dvA (ta : Option Addr) (tn tc : Nat) (sa : Option Addr) (sn sc : Nat) (ba : Option Addr) (bn bc : Nat) : Array Value := #[.slice ta tn tc, .slice sa sn sc, .slice ba bn bc]
abbrev svA (la : Option Addr) (ln lc : Nat) (sat slong snx : Int) : Array Value := #[.slice la ln lc, .int .i64 sat, .int .i64 slong, .int .i64 snx]
/-- what the writer's dir does -/
def PW (zs : List Shz) (K : Wc) (f : Nat) : Prop := ∀ (w0 w : World) (no : Int) (P : List Int) (d : DirT f) (dv : Dz) (i : Nat), WrS K w no P → ShR w0 K.qa K.qn K.qc zs → Below w0.heap.size w0 w → w0.heap.size ≤ K.gw → w0.heap.size ≤ K.gb → DirR w0 f d dv → smallD f d → bytD f d → shapesB (shps zs) = true →
  okW (shps zs) K.l K.n K.o f d no i → i < K.qn → 0 ≤ no → no + (flatS f d).length < 1000000 → K.n ≤ 1000000000000 →
  Calls Tryz.prog 43 #[.pointer (some ⟨K.gw, 0, none⟩), .agg #[dv.1, dv.2.1, dv.2.2], .int .i64 i] w fun e w' => e = .returned (.int .i64 (atS K.l 2 no 0)) ∧ WrS K w' (no + (flatS f d).length) (apP (dirW (shps zs) K.l K.o f d no i) P) ∧ Mv K.gw K.gb nilV nilV w w'
set_option maxRecDepth 20000 in
set_option maxHeartbeats 8000000 in
theorem pw_step (zs : List Shz) (K : Wc) (f : Nat) (ih : PW zs K f) : PW zs K (f + 1) := by
  intro w0 w no P d dv i hw hsh hb0 hgw hgb hd hs hby hok hW hi hno hno2 hKn; have hzl := hsh.len; obtain ⟨ta, tn, tc, ts, sa, sn, sc, ds, ba, bn, bc, rfl, htg, hdt, hsl, hdl, hsub, hbl⟩ := hd; obtain ⟨h1, h2, h3, h4⟩ := hs; obtain ⟨hy1, hy2, hy3⟩ := hby
  have htn : d.1.length = tn := by rw [hdt, List.length_map]; exact htg.len
  have hsn : d.2.1.length = sn := by rw [← hdl]; exact hsl.flen sbC_len (by decide)
  have hbn : d.2.2.length = bn := hbl.ilen; have htn60 : tn ≤ 500 := by omega
  have hsn6 : sn ≤ 500 := by omega
  have hbn600 : bn ≤ 1000000 := by omega
  have hmx := hsh.row.max; have hle := hsh.row.le; have hgs : (shps zs).getD i shp0 = (zs.getD i shz0).2 := shps_get (by rw [hzl]; exact hi); have hsubI := fun t => subI_ok (L := shps zs) (i := i) (t := t) hok (by unfold shps; rw [List.length_map, hzl]; exact hi); have hsl2 : (shps zs).length = K.qn := by unfold shps; rw [List.length_map]; exact hzl
  have hD := dirW_succ (shps zs) K.l K.o f d no i; have hfl : (flatS (f + 1) d).length = (flats f d.2.1).length + 1 := by rw [flatS_succ]; rfl
  obtain ⟨k1, k2, k3, k4, k5, k6, k7, k8, k9⟩ := okW_succ hW; have hel := entsD_len f K.l K.o no ((shps zs).getD (i : Int).toNat shp0) d; rw [Int.toNat_natCast] at hD k2 k4 k5 k6 k8 k9 hel; rw [htn, hsn, hbn] at hel; have hlk0 := hsh.at hi; obtain ⟨b, o, hqa, hblt, fe⟩ := hsh.row.elem shc_len (by decide) shz0 hi; obtain ⟨⟨⟨la, ln, lc⟩, ⟨lks, sat, slong, snx⟩⟩, hz⟩ : ∃ z, zs.getD i shz0 = z := ⟨_, rfl⟩; rw [hz] at fe hgs hlk0; simp only at hgs hlk0; rw [hgs] at hD k2 k4 k5 k6 k8 k9 hsubI hel; have f0 := late hb0 hblt (fe 0 _ rfl); have f1 := late hb0 hblt (fe 1 _ rfl); have f2 := late hb0 hblt (fe 2 _ rfl); have f3 := late hb0 hblt (fe 3 _ rfl); simp only [Nat.add_zero] at f0 f1 f2 f3; clear fe; have hin : (i : Int) < (K.qn : Int) := by omega
  have hi0 : (0 : Int) ≤ (i : Int) := by omega
  have hblt' : b < w.heap.size := Nat.lt_of_lt_of_le hblt hb0.size; have hlt := hw.ne_of; have hwn : IntKind.i64.wrap (no + 1) = no + 1 := by rw [IntKind.wrap_i64]; omega
  obtain ⟨hg1, hg2_⟩ := hlt; have hsb := hw.sble; have c0 : w.cell? ⟨K.gw, 0, none⟩ = some (.slice (some ⟨K.gb, 0, none⟩) K.n K.n) := hw.blk.cell rfl; have c3 : w.cell? ⟨K.gw, 3, none⟩ = some (.slice K.qa K.qn K.qc) := hw.blk.cell rfl; have c4 : w.cell? ⟨K.gw, 4, none⟩ = some (.int .i64 no) := hw.blk.cell rfl; rw [hqa] at c3; have bA := Blk.new w 26 #[.slice ta tn tc, .slice sa sn sc, .slice ba bn bc]; obtain ⟨W1, hW1⟩ : ∃ W1, w.alloc (.cells #[.slice ta tn tc, .slice sa sn sc, .slice ba bn bc] 26) = W1 := ⟨_, rfl⟩; have hb1 := (Below.refl w.heap.size w).alloc (Nat.le_refl _) (.cells #[.slice ta tn tc, .slice sa sn sc, .slice ba bn bc] 26); have hs1 : (w.alloc (.cells #[.slice ta tn tc, .slice sa sn sc, .slice ba bn bc] 26)).heap.size = w.heap.size + 1 := by simp
  rw [hW1] at bA hb1 hs1; have hw1 := hw.later hb1; obtain ⟨Ty, ff, hne, hbel, hsurj⟩ := later_worlds W1; have HS := Lib.hid (hsurj _ ((Below.refl _ _).drew)); have HD := Lib.hid ((Below.refl W1.heap.size W1).drew); have hlt1 : b < W1.heap.size := by omega
  have q3 : ∀ s, (ff s).cell? ⟨K.gw, 3, none⟩ = some (.slice K.qa K.qn K.qc) := fun s => (hw1.blk.late (hbel s)).cell rfl; have q4 : ∀ s, (ff s).cell? ⟨K.gw, 4, none⟩ = some (.int .i64 no) := fun s => (hw1.blk.late (hbel s)).cell rfl; have r0 : ∀ s, (ff s).cell? ⟨b, o + i * 4, none⟩ = some (.slice la ln lc) := fun s => late (hbel s) hlt1 (late hb1 hblt' f0); have r1 : ∀ s, (ff s).cell? ⟨b, o + i * 4 + 1, none⟩ = some (.int .i64 sat) := fun s => late (hbel s) hlt1 (late hb1 hblt' f1); have r2 : ∀ s, (ff s).cell? ⟨b, o + i * 4 + 2, none⟩ = some (.int .i64 slong) := fun s => late (hbel s) hlt1 (late hb1 hblt' f2); have r3 : ∀ s, (ff s).cell? ⟨b, o + i * 4 + 3, none⟩ = some (.int .i64 snx) := fun s => late (hbel s) hlt1 (late hb1 hblt' f3); rw [hqa] at q3; clear c0 c3 c4 f0 f1 f2 f3; have hw' := Lib.hid hw; have hsh' := Lib.hid hsh; have hb0' := Lib.hid hb0; have htg' := Lib.hid htg; have hdt' := Lib.hid hdt; have hsl' := Lib.hid hsl; have hdl' := Lib.hid hdl; have hsub' := Lib.hid hsub; have hbl' := Lib.hid hbl; have h4' := Lib.hid h4; have ih' := Lib.hid ih; have hok' := Lib.hid hok; have hzl' := Lib.hid hzl; have htn' := Lib.hid htn; have hsn' := Lib.hid hsn; have hbn' := Lib.hid hbn; have hgs' := Lib.hid hgs; have hsubI' := Lib.hid hsubI; have hsl2' := Lib.hid hsl2; have hD' := Lib.hid hD; have hfl' := Lib.hid hfl; have k1' := Lib.hid k1; have k2' := Lib.hid k2; have k3' := Lib.hid k3; have k4' := Lib.hid k4; have k5' := Lib.hid k5; have k6' := Lib.hid k6; have k7' := Lib.hid k7; have k8' := Lib.hid k8; have k9' := Lib.hid k9; have hlk0' := Lib.hid hlk0; have hz' := Lib.hid hz; have hqa' := Lib.hid hqa; have hy1' := Lib.hid hy1; have hy2' := Lib.hid hy2; have hy3' := Lib.hid hy3; have hel' := Lib.hid hel; have bA' := Lib.hid bA; have hW' := Lib.hid hW; have hb1' := Lib.hid hb1; have hw1' := Lib.hid hw1; have hbel' := Lib.hid hbel; have hsurj' := Lib.hid hsurj; have hW1' := Lib.hid hW1; clear hw hsh hb0 htg hdt hsl hdl hsub hbl h4 ih hok hzl htn hsn hbn hgs hsubI hsl2 hD hfl k1 k2 k3 k4 k5 k6 k7 k8 k9 hlk0 hz hqa hy1 hy2 hy3 hel bA hW hb1 hw1 hbel hsurj hW1
  go_enter Tryz.func43, Tryz.ntmps43
  go_wp2_with fail
  rw [hW1'.out]; refine held_begin (S := fun W => ∃ s, W = ff s) (by kernel_rfl) 14 rfl ?_; refine held_take [0, 1, 2, 3, 4, 5, 6, 7, 8, 9, 10] 3 (by kernel_rfl) (fun d _ _ _ _ h => by cases d <;> exact h) (by kernel_rfl) (by kernel_rfl) (by kernel_rfl) HS.out ?_; simp only [pickL, List.map_cons, List.map_nil, List.getD_cons_succ, List.getD_cons_zero]
  iterate 11 (go_big_quiet_step (fail))
  refine wpQuiet_nil ?_; obtain ⟨wD, hwD⟩ : ∃ wD, W1.drew = wD := ⟨_, rfl⟩; rw [hwD] at HS HD ⊢; have hsD : wD.heap.size = w.heap.size + 1 := by rw [← hwD]; exact hs1
  have hA := HD.out; clear hwD q3 q4 r0 r1 r2 r3; refine held_one 11 2 (by kernel_rfl) (by kernel_rfl) ?_; simp only [pickL, List.map_cons, List.map_nil, List.getD_cons_succ, List.getD_cons_zero]
  go_wp2_with fail
  have bS := Blk.new wD 35 #[.slice none 0 0, .int .i64 0, .int .i64 0, .int .i64 0]; have hal := hA.trans (((Below.refl wD.heap.size wD).alloc (Nat.le_refl _) (.cells #[.slice none 0 0, .int .i64 0, .int .i64 0, .int .i64 0] 35)).mono hA.size); rw [hsD] at bS; obtain ⟨W2, hW2⟩ : ∃ W2, wD.alloc (.cells #[.slice none 0 0, .int .i64 0, .int .i64 0, .int .i64 0] 35) = W2 := ⟨_, rfl⟩; have hs2 : W2.heap.size = w.heap.size + 2 := by rw [← hW2]; simp; omega
  rw [hW2] at bS hal ⊢; have HS := Lib.hid (hsurj'.out _ hal)
  first | refine Mid.mk ⟨HS.out, ?_⟩ | refine Mid.mk ?_
  refine held_take [12] 1 (by kernel_rfl) (fun d _ _ _ _ h => by cases d <;> exact h) (by kernel_rfl) (by kernel_rfl) (by kernel_rfl) HS.out ?_; simp only [pickL, List.map_cons, List.map_nil, List.getD_cons_succ, List.getD_cons_zero]
  iterate 1 (go_big_quiet_step (fail))
  refine wpQuiet_nil ?_; have p0 : W2.cell? ⟨w.heap.size + 1, 0, none⟩ = some (.slice none 0 0) := bS.cell rfl; have p1 : W2.cell? ⟨w.heap.size + 1, 1, none⟩ = some (.int .i64 0) := bS.cell rfl; have p2 : W2.cell? ⟨w.heap.size + 1, 2, none⟩ = some (.int .i64 0) := bS.cell rfl; have p3 : W2.cell? ⟨w.heap.size + 1, 3, none⟩ = some (.int .i64 0) := bS.cell rfl; have y0 := bS.frozen 0; have y1 := bS.frozen 1; have y2 := bS.frozen 2; have y3 := bS.frozen 3; have bS' := Lib.hid bS; have hal' := Lib.hid hal; have hW2' := Lib.hid hW2; have hA' := Lib.hid hA; clear bS hal hW2 hA; refine held_one 13 0 (by kernel_rfl) (by kernel_rfl) ?_; simp only [pickL, List.map_cons, List.map_nil, List.getD_cons_succ, List.getD_cons_zero]
  go_wp2_with fail
  have bS := (((bS'.out.set 0 (.slice la ln lc)).set 1 (.int .i64 sat)).set 2 (.int .i64 slong)).set 3 (.int .i64 snx); have hge : W1.heap.size ≤ w.heap.size + 1 := by omega
  have hal3 := (((hal'.out.setCell (p := ⟨w.heap.size + 1, 0, none⟩) hge (.slice la ln lc)).setCell (p := ⟨w.heap.size + 1, 1, none⟩) hge (.int .i64 sat)).setCell (p := ⟨w.heap.size + 1, 2, none⟩) hge (.int .i64 slong)).setCell (p := ⟨w.heap.size + 1, 3, none⟩) hge (.int .i64 snx); obtain ⟨W3, hW3⟩ : ∃ W3, (((W2.setCell ⟨w.heap.size + 1, 0, none⟩ (.slice la ln lc)).setCell ⟨w.heap.size + 1, 1, none⟩ (.int .i64 sat)).setCell ⟨w.heap.size + 1, 2, none⟩ (.int .i64 slong)).setCell ⟨w.heap.size + 1, 3, none⟩ (.int .i64 snx) = W3 := ⟨_, rfl⟩; have hs3 : W3.heap.size = w.heap.size + 2 := by rw [← hW3]; simpa using hs2
  rw [hW3] at bS hal3 ⊢; have HS := Lib.hid (hsurj'.out _ hal3)
  first | refine Mid.mk ⟨HS.out, ?_⟩ | refine Mid.mk ?_
  refine held_last (by kernel_rfl) ?_; clear p0 p1 p2 p3 y0 y1 y2 y3 hs2 HD; have hw3 := hw1'.out.later hal3; have bA3 := bA'.out.late hal3; have c4 : W3.cell? ⟨K.gw, 4, none⟩ = some (.int .i64 no) := hw3.blk.cell rfl; have y4 := hw3.blk.frozen 4; have hno := WrS.no hw3 (no + 1); have hwl := bA3.lt; have hno1 := hno.1; have hm4 := (Mv.of_below (g := K.gw) (gt := K.gb) (sv := nilV) (hb1'.out.trans (hal3.mono hb1'.out.size))).trans hno.2; have bA4 := Mv.blk hno.2 bA3 (by omega) (by omega); have bS4 := Mv.blk hno.2 bS (by omega) (by omega); obtain ⟨W4, hW4⟩ : ∃ W4, W3.setCell ⟨K.gw, 4, none⟩ (.int .i64 (no + 1)) = W4 := ⟨_, rfl⟩; have hs4 : W4.heap.size = w.heap.size + 2 := by rw [← hW4]; simpa using hs3
  have hs4' : (W3.setCell ⟨K.gw, 4, none⟩ (.int .i64 (no + 1))).heap.size = w.heap.size + 2 := by simpa using hs3
  rw [hW4] at hno1 hm4 bA4 bS4; have hb5 := (Below.refl W4.heap.size W4).alloc (Nat.le_refl _) (.cells #[.slice none 0 0] 154); have bl := Blk.new W4 154 #[.slice none 0 0]
  have hin0 : WIn K w (W4.alloc (.cells #[.slice none 0 0] 154)) (no + 1) P w.heap.size (w.heap.size + 1) (w.heap.size + 2) (dvA ta tn tc sa sn sc ba bn bc) (svA la ln lc sat slong snx) nilV [] :=
    ⟨hno1.later hb5, bA4.late hb5, bS4.late hb5, by rw [← hs4]; exact bl, own_nil _ _ _ _, hm4.later hb5⟩
  obtain ⟨W5, hW5⟩ : ∃ W5, W4.alloc (.cells #[.slice none 0 0] 154) = W5 := ⟨_, rfl⟩; rw [hW5] at hin0; have d0 : W5.cell? ⟨w.heap.size, 0, none⟩ = some (.slice ta tn tc) := hin0.bA.cell rfl; rw [← hW5, ← hW4] at d0; have hal3' := Lib.hid hal3; have hW3' := Lib.hid hW3; have bS' := Lib.hid bS; have hw3' := Lib.hid hw3; have bA3' := Lib.hid bA3; have hW4' := Lib.hid hW4; have hW5' := Lib.hid hW5; have hno' := Lib.hid hno; have hno1' := Lib.hid hno1; have hm4' := Lib.hid hm4; have bA4' := Lib.hid bA4; have bS4' := Lib.hid bS4; have hb5' := Lib.hid hb5; have bl' := Lib.hid bl; have hin0' := Lib.hid hin0; clear hal3 hW3 bS hw3 bA3 hW4 hW5 hno hno1 hm4 bA4 bS4 hb5 bl hin0
  go_wp2_with fail
  rw [hW4'.out, hW5'.out]; clear d0 hs4' hs4 hs3 bS' hw3' bA3' hW3' hal3' hno' hno1' hm4' bA4' bS4' hb5' bl' hW4' hW5' hW2' hal' hA' hW1' hw1' hb1' bA' y4 c4
  go_loopw [44] (fun iv wr => ∃ (k : Nat) (v : Value), k ≤ tn ∧ iv = .int .i64 k ∧ Hid (WIn K w wr (no + 1) (apP ((d.1.take k).flatMap (patV K.l K.o no)) P) w.heap.size (w.heap.size + 1) (w.heap.size + 2) (dvA ta tn tc sa sn sc ba bn bc) (svA la ln lc sat slong snx) v ((d.1.take k).map (entT K.l K.o no)))) (fun iv _ => tn - (intOf iv).toNat)
  case atStart => exact ⟨0, nilV, by omega, rfl, hin0'⟩
  case round =>
    obtain ⟨k, v, hk, rfl, hW⟩ := hrel
    by_cases hlt : k < tn
    ·
      have hil : (k : Int) < (tn : Int) := by omega
      have hw1 : IntKind.i64.wrap ((k : Int) + 1) = k + 1 := by rw [IntKind.wrap_i64]; omega
      have hbr := hb0'.out.trans (hW.out.mv.below (B := w0.heap.size) hgw hgb (fun k e => by cases e) hb0'.out.size); obtain ⟨b2, o2, rfl, hblt2, f0, f1, f2, f3, hrd⟩ := htg'.out.at hlt; have f0 := late hbr hblt2 f0; have f1 := late hbr hblt2 f1; have f2 := late hbr hblt2 f2; have f3 := late hbr hblt2 f3; have hkd : k < d.1.length := by rw [htn'.out]; exact hlt
      have hgx : d.1[k] = tagz (ts.getD k tz0) := by
        have h1 : k < ts.length := by rw [htg'.out.len]; exact hlt
        simp only [hdt'.out, List.getElem_map]; rw [getD_el h1]
      have hpt := patV_step K.l K.o no d.1 hkd; have het := entT_step K.l K.o no d.1 hkd; have hk1 := k1'.out _ (List.getElem_mem hkd); have hy1k := hy1'.out _ (List.getElem_mem hkd); obtain ⟨⟨⟨y, t, cn, xa, xn, xc⟩, dd⟩, hzi⟩ : ∃ z, ts.getD k tz0 = z := ⟨_, rfl⟩; rw [hzi] at f0 f1 f2 f3 hrd hgx; simp only [tagz] at f0 f1 f2 f3 hrd hgx; rw [hgx] at hpt het hk1 hy1k; have hxn : xn ≤ 1000000000 := by have := hrd.ilen; have := hk1.2; simp only at this; omega
      have hal := (Below.refl wr.heap.size wr).alloc (Nat.le_refl _) (.cells #[.int .i64 y, .int .i64 t, .int .i64 cn, .slice xa xn xc] 74); have bk := Blk.new wr 74 #[.int .i64 y, .int .i64 t, .int .i64 cn, .slice xa xn xc]; have hin1 := hW.out.later hal; have hbr1 := hbr.trans (hal.mono hbr.size); have hV := wvalue_any K _ (no + 1) no _ hin1.ws y t cn xa xn xc dd w0 hrd hbr1 hgw hgb hy1k hxn hk1.1; have hwr := hW.out.mv.size; have hbr' := Lib.hid hbr; have hrd' := Lib.hid hrd; have hgx' := Lib.hid hgx; have hpt' := Lib.hid hpt; have het' := Lib.hid het; have hk1' := Lib.hid hk1; have hy1k' := Lib.hid hy1k; have hzi' := Lib.hid hzi; have hal' := Lib.hid hal; have bk' := Lib.hid bk; have hin1' := Lib.hid hin1; have hbr1' := Lib.hid hbr1; have hV' := Lib.hid hV; clear hbr hrd hgx hpt het hk1 hy1k hzi hal bk hin1 hbr1 hV
      go_wp2_with fail
      refine hV'.out.mono ?_; rintro e w2 ⟨x0, x1, x2, x3, rfl, hent, hws2, hm2⟩; have hin2 := hin1'.out.turn hws2 hm2 (by omega) (by omega) (by omega) (by omega) (by omega); have ha2 := (Below.refl w2.heap.size w2).alloc (Nat.le_refl _) (.cells #[.int .i64 x0, .int .i64 x1, .int .i64 x2, .int .i64 x3] 55); have hin3 := hin2.later ha2; clear f0 f1 f2 f3; have hsl1 := Sl.new w2 55 4 1 #[.int .i64 x0, .int .i64 x1, .int .i64 x2, .int .i64 x3] (0, 0) (by omega) rfl; have hwr2 := hin2.mv.size; have hC := wd1_any w.heap.size (w.heap.size + 2) _ [(x0, x1, x2, x3)] v _ 1 1 _ hin3.bl hin3.ow (own_ne_blk0 hin3.ow hin3.bl (by decide)) (by have := hin3.mv.size; omega) (by simpa [fl, entC] using hsl1) (by omega) (by simp; omega); have hent' := Lib.hid hent; have hws2' := Lib.hid hws2; have hm2' := Lib.hid hm2; have hin2' := Lib.hid hin2; have hin3' := Lib.hid hin3; have ha2' := Lib.hid ha2; have hsl1' := Lib.hid hsl1; have hC' := Lib.hid hC; clear hent hws2 hm2 hin2 hin3 ha2 hsl1 hC
      go_wp2_with fail
      refine hC'.out.mono ?_; rintro e w4 ⟨v4, rfl, hl4, ho4, hne4, hm4⟩; have hin4 := hin3'.out.add hl4 ho4 hm4 (by omega) (by omega) (by omega) (by omega) (by omega) (by omega); rw [hent'.out, ← het'.out, ← apP_append, ← hpt'.out] at hin4; have hin4' := Lib.hid hin4; have hl4' := Lib.hid hl4; have ho4' := Lib.hid ho4; have hne4' := Lib.hid hne4; have hm4' := Lib.hid hm4; clear hin4 hl4 ho4 hne4 hm4
      go_wp2_with fail
      go_roundw
      case rel => exact ⟨k + 1, v4, by omega, by go_num, hin4'⟩
      case measure => simp [intOf]; omega
    · obtain rfl : k = tn := by omega
      have hfull : d.1.take k = d.1 := List.take_of_length_le (by rw [htn'.out]; omega); rw [hfull] at hW; obtain ⟨P1, hP1⟩ : ∃ P1, apP (d.1.flatMap (patV K.l K.o no)) P = P1 := ⟨_, rfl⟩; obtain ⟨E1, hE1⟩ : ∃ E1, d.1.map (entT K.l K.o no) = E1 := ⟨_, rfl⟩; rw [hP1, hE1] at hW; have hE1l : E1.length = k := by rw [← hE1, List.length_map]; exact htn'.out
      have d1 : wr.cell? ⟨w.heap.size, 1, none⟩ = some (.slice sa sn sc) := hW.out.bA.cell rfl; clear hfull hin0'; have hP1' := Lib.hid hP1; have hE1' := Lib.hid hE1; clear hP1 hE1
      go_wp2_with fail
      clear d1
      go_loopw [59] (fun iv wr => ∃ (j : Nat) (v : Value), j ≤ sn ∧ iv = .int .i64 j ∧ Hid (WIn K w wr (subN f d.2.1 no j) (apP (subP (dirW (shps zs) K.l K.o f) (lks, sat, slong, snx) d.2.1 no j) P1) w.heap.size (w.heap.size + 1) (w.heap.size + 2) (dvA ta k tc sa sn sc ba bn bc) (svA la ln lc sat slong snx) v (E1 ++ subE f K.l d.2.1 no j))) (fun iv _ => sn - (intOf iv).toNat)
      case atStart =>
        refine ⟨0, v, by omega, rfl, ?_⟩; have e1 : subN f d.2.1 no 0 = no + 1 := by simp [subN, flats]
        have e2 : subP (dirW (shps zs) K.l K.o f) (lks, sat, slong, snx) d.2.1 no 0 = [] := rfl; have e3 : E1 ++ subE f K.l d.2.1 no 0 = E1 := by simp [subE]
        rw [e1, e2, e3]; exact hW
      case round =>
        clear hW; obtain ⟨j, v, hj, rfl, hW⟩ := hrel
        by_cases hlt : j < sn
        ·
          have hil : (j : Int) < (sn : Int) := by omega
          have hw1 : IntKind.i64.wrap ((j : Int) + 1) = j + 1 := by rw [IntKind.wrap_i64]; omega
          have hbr := hb0'.out.trans (hW.out.mv.below (B := w0.heap.size) hgw hgb (fun k e => by cases e) hb0'.out.size); have hid : j < d.2.1.length := by rw [hsn'.out]; exact hlt
          have hids : j < ds.length := by rw [hdl'.out]; exact hid
          obtain ⟨xb, xo, rfl, hblt2, fe⟩ := hsl'.out.elem sbC_len (by decide) (0, (.slice none 0 0, .slice none 0 0, .slice none 0 0)) hlt; rw [getD_el hids] at fe; obtain ⟨hq1, hq2⟩ := hsub'.out j hids hid; obtain ⟨ua, un, uc, ra, rn, rc, xa, xn, xc, hv⟩ := hq2.v; have g0 := late hbr hblt2 (fe 0 _ rfl); have g1 := late hbr hblt2 (fe 1 _ rfl); have g2 := late hbr hblt2 (fe 2 _ rfl); have g3 := late hbr hblt2 (fe 3 _ rfl); simp only [Nat.add_zero] at g0 g1 g2 g3; clear fe; rw [hv] at hq2 g1 g2 g3; rw [hq1] at g0; simp only at g0 g1 g2 g3; have hgd : d.2.1.getD j (0, dirZ f) = d.2.1[j] := getD_el hid _; have hNs := subN_step f d.2.1 no hid; have hNl := subN_le f d.2.1 no j; have hNl2 := subN_le f d.2.1 no (j + 1); have hPs := subP_step (dirW (shps zs) K.l K.o f) (lks, sat, slong, snx) d.2.1 no j; have hEs := subE_step f K.l d.2.1 no j; obtain ⟨hlk, hkW⟩ := k2'.out j hid; have hsbI := hsubI'.out (d.2.1.getD j (0, dirZ f)).1 hlk; rw [hsl2'.out] at hsbI; have hsm : smallD f d.2.1[j].2 := h4'.out _ (List.getElem_mem hid); have hbyd : bytD f d.2.1[j].2 := hy2'.out _ (List.getElem_mem hid); have hEx : subX f K.l d.2.1 no j = ((d.2.1.getD j (0, dirZ f)).1, 4, 1, atS K.l 2 (subN f d.2.1 no j) 0) := rfl; rw [hgd] at hNs hPs hlk hkW hsbI hEx; obtain ⟨y, hy⟩ : ∃ y, d.2.1[j].1 = y := ⟨_, rfl⟩; obtain ⟨dd, hdd⟩ : ∃ dd, d.2.1[j].2 = dd := ⟨_, rfl⟩; rw [hy] at g0 hPs hlk hkW hsbI hEx; rw [hdd] at hq2 hNs hPs hkW hsm hbyd; obtain ⟨ns, hns⟩ : ∃ ns, subN f d.2.1 no j = ns := ⟨_, rfl⟩; rw [hns] at hNs hPs hkW hEx hNl hW; obtain ⟨si, hsi⟩ : ∃ si : Nat, subI (lks, sat, slong, snx) y = si := ⟨(subI (lks, sat, slong, snx) y).toNat, by omega⟩; have hsI : subI (lks, sat, slong, snx) y = (lks.getD (fst (fun z => z.1 == y) lks).toNat (0, 0)).2 := rfl; rw [hsi] at hkW hsbI hPs hsI; have hlP := fst_any (p := fun (z : Lk) => z.1 == y) (l := lks); have hlk2 : linkP (lks, sat, slong, snx) y = lks.any fun z => z.1 == y := rfl; rw [← hlk2, hlk, decide_eq_true_eq] at hlP; have hfb := fst_bounds (p := fun (z : Lk) => z.1 == y) (l := lks); obtain ⟨kx, hkx⟩ : ∃ kx : Nat, fst (fun (z : Lk) => z.1 == y) lks = kx := ⟨(fst (fun (z : Lk) => z.1 == y) lks).toNat, by omega⟩; have hlkl := hlk0'.out.flen lkc_len (by decide); rw [hkx] at hsI hfb; rw [Int.toNat_natCast] at hsI; rw [hlkl] at hfb; have hal := (Below.refl wr.heap.size wr).alloc (Nat.le_refl _) (.cells #[.int .i64 y, .slice ua un uc, .slice ra rn rc, .slice xa xn xc] 28); have b5 := Blk.new wr 28 #[.int .i64 y, .slice ua un uc, .slice ra rn rc, .slice xa xn xc]; have hin1 := hW.out.later hal; have hbr1 := hbr.trans (hal.mono hbr.size); have hIX := lidx2_any (.pointer (some ⟨wr.heap.size, 0, none⟩)) la ln lc lks (fun z => z.1 == y) _ (hlk0'.out.mono hbr1) (fun W' x hb => wd2_any _ y x.1 x.2 W' (late hb b5.lt (b5.cell rfl)) (Nat.lt_of_lt_of_le b5.lt hb.size)); rw [hkx] at hIX; have hwr := hW.out.mv.size; have k0 : wr.cell? ⟨w.heap.size + 1, 0, none⟩ = some (.slice la ln lc) := hW.out.bS.cell rfl; have hSl : w.heap.size + 1 < wr.heap.size := hW.out.bS.lt; have hGl : w.heap.size + 2 < wr.heap.size := hW.out.bl.lt; have hln : ln ≤ 9223372036854775807 := Nat.le_trans hlk0'.out.le hlk0'.out.max; have hkxl : kx < ln := by omega
          have hkx2 : (kx : Int) < (ln : Int) := by omega
          have hkx3 : (0 : Int) ≤ (kx : Int) := by omega
          have hbr' := Lib.hid hbr; have hq1' := Lib.hid hq1; have hq2' := Lib.hid hq2; have hv' := Lib.hid hv; have hgd' := Lib.hid hgd; have hNs' := Lib.hid hNs; have hNl' := Lib.hid hNl; have hNl2' := Lib.hid hNl2; have hPs' := Lib.hid hPs; have hEs' := Lib.hid hEs; have hlk' := Lib.hid hlk; have hkW' := Lib.hid hkW; have hsbI' := Lib.hid hsbI; have hsm' := Lib.hid hsm; have hbyd' := Lib.hid hbyd; have hEx' := Lib.hid hEx; have hy' := Lib.hid hy; have hdd' := Lib.hid hdd; have hns' := Lib.hid hns; have hsi' := Lib.hid hsi; have hsI' := Lib.hid hsI; have hlk2' := Lib.hid hlk2; have hlkl' := Lib.hid hlkl; have hal' := Lib.hid hal; have b5' := Lib.hid b5; have hin1' := Lib.hid hin1; have hbr1' := Lib.hid hbr1; have hIX' := Lib.hid hIX; have hkx' := Lib.hid hkx; clear hbr hq1 hq2 hv hgd hNs hNl hNl2 hPs hEs hlk hkW hsbI hsm hbyd hEx hy hdd hns hsi hsI hlk2 hlkl hal b5 hin1 hbr1 hIX hkx
          go_wp2_with fail
          refine hIX'.out.mono ?_; rintro e w5 ⟨rfl, hb5⟩; have hin2 := hin1'.out.later hb5; have b52 := b5'.out.late hb5; clear g0 g1 g2 g3 k0; obtain ⟨g5, hg5⟩ : ∃ g5, wr.heap.size = g5 := ⟨_, rfl⟩; rw [hg5] at b52 ⊢; have hb05 := hbr1'.out.trans (hb5.mono hbr1'.out.size); obtain ⟨b3, o3, hla, hblt3, fe⟩ := hlk0'.out.elem lkc_len (by decide) (0, 0) hkxl; subst hla; have l1 := fe 1 _ rfl; rw [← hsI'.out] at l1; clear fe; have hC5 : Blk w5 (w.heap.size + 1) 35 (svA (some ⟨b3, o3, none⟩) ln lc sat slong snx) ∧ Blk w5 g5 28 #[.int .i64 y, .slice ua un uc, .slice ra rn rc, .slice xa xn xc] ∧ w5.cell? ⟨b3, o3 + kx * 2 + 1, none⟩ = some (.int .i64 si) := ⟨hin2.bS, b52, late hb05 hblt3 l1⟩; obtain ⟨Ty, ff, hne, hcl, hsurj⟩ := pred_worlds (fun W => Blk W (w.heap.size + 1) 35 (svA (some ⟨b3, o3, none⟩) ln lc sat slong snx) ∧ Blk W g5 28 #[.int .i64 y, .slice ua un uc, .slice ra rn rc, .slice xa xn xc] ∧ W.cell? ⟨b3, o3 + kx * 2 + 1, none⟩ = some (.int .i64 si)) w5 hC5; have hqt := (Below.refl w5.heap.size w5).drew; have hin6 := hin2.later hqt; have hC6 := hsurj w5.drew ⟨hC5.1.late hqt, hC5.2.1.late hqt, by exact hC5.2.2⟩; have HS := Lib.hid hC6; have hb06 := hb05.trans (hqt.mono hb05.size); have b56 := b52.late hqt; have l16 : w5.drew.cell? ⟨b3, o3 + kx * 2 + 1, none⟩ = some (.int .i64 si) := hC5.2.2; have q0 : ∀ s, (ff s).cell? ⟨w.heap.size + 1, 0, none⟩ = some (.slice (some ⟨b3, o3, none⟩) ln lc) := fun s => (hcl s).1.cell rfl; have q1 : ∀ s, (ff s).cell? ⟨g5, 0, none⟩ = some (.int .i64 y) := fun s => (hcl s).2.1.cell rfl; have q2 : ∀ s, (ff s).cell? ⟨g5, 1, none⟩ = some (.slice ua un uc) := fun s => (hcl s).2.1.cell rfl; have q3 : ∀ s, (ff s).cell? ⟨g5, 2, none⟩ = some (.slice ra rn rc) := fun s => (hcl s).2.1.cell rfl; have q4 : ∀ s, (ff s).cell? ⟨g5, 3, none⟩ = some (.slice xa xn xc) := fun s => (hcl s).2.1.cell rfl; have q5 : ∀ s, (ff s).cell? ⟨b3, o3 + kx * 2 + 1, none⟩ = some (.int .i64 si) := fun s => (hcl s).2.2; obtain ⟨wD, hwD⟩ : ∃ wD, w5.drew = wD := ⟨_, rfl⟩; rw [hwD] at hin6 HS hb06 b56 l16; have hI := ih'.out w0 wD ns _ dd (.slice ua un uc, .slice ra rn rc, .slice xa xn xc) si hin6.ws hsh'.out hb06 hgw hgb hq2'.out hsm'.out hbyd'.out hok'.out hkW'.out (by have := hsbI'.out; omega) (by have := hNl'.out; omega) (by have := hNs'.out; have := hNl2'.out; have := hfl'.out; omega) hKn; simp only at hI; have hC5' := Lib.hid hC5; have hqt' := Lib.hid hqt; have hC6' := Lib.hid hC6; have hcl' := Lib.hid hcl; have hsurj' := Lib.hid hsurj; have hin2' := Lib.hid hin2; have b52' := Lib.hid b52; have hb05' := Lib.hid hb05; have hb5' := Lib.hid hb5; have l1' := Lib.hid l1; have hin6' := Lib.hid hin6; have b56' := Lib.hid b56; have l16' := Lib.hid l16; have hI' := Lib.hid hI; have hb06' := Lib.hid hb06; clear hC5 hqt hC6 hcl hsurj hin2 b52 hb05 hb5 l1 hin6 b56 l16 hI hb06
          go_wp2_with fail
          refine held_begin (S := fun W => ∃ s, W = ff s) (by kernel_rfl) 16 rfl ?_; rw [hwD]; refine held_take [0, 1, 2, 3, 4, 5, 6, 7, 8, 9, 10, 11] 4 (by kernel_rfl) (fun d _ _ _ _ h => by cases d <;> exact h) (by kernel_rfl) (by kernel_rfl) (by kernel_rfl) HS.out ?_; simp only [pickL, List.map_cons, List.map_nil, List.getD_cons_succ, List.getD_cons_zero]
          iterate 12 (go_big_quiet_step (fail))
          refine wpQuiet_nil ?_; clear q0 q1 q2 q3 q4 q5 hwD; refine held_one 12 3 (by kernel_rfl) (by kernel_rfl) ?_; simp only [pickL, List.map_cons, List.map_nil, List.getD_cons_succ, List.getD_cons_zero]
          go_wp2_with fail
          refine hI'.out.mono ?_; rintro e w6 ⟨rfl, hws6, hm6⟩; have hin7 := hin6'.out.turn hws6 hm6 (by omega) (by omega) (by omega) (by omega) (by omega); have b57 := Mv.blk hm6 b56'.out (by omega) (by omega); have l17 := Mv.cell hm6 (p := ⟨b3, o3 + kx * 2 + 1, none⟩) (by show b3 < _; have := hb06'.out.size; omega) (by show b3 ≠ _; omega) (by show b3 ≠ _; omega) l16'.out; have HS := Lib.hid (hsurj'.out _ ⟨hin7.bS, b57, l17⟩); have HL := fun W => long21_any y (atS K.l 2 ns 0) W; have hws6' := Lib.hid hws6; have hm6' := Lib.hid hm6; have hin7' := Lib.hid hin7; have b57' := Lib.hid b57; have l17' := Lib.hid l17; have HL' := Lib.hid HL; clear hws6 hm6 hin7 b57 l17 HL
          go_wp2_with fail
          first | refine Mid.mk ⟨HS.out, ?_⟩ | refine Mid.mk ?_
          refine held_one 13 2 (by kernel_rfl) (by kernel_rfl) ?_; simp only [pickL, List.map_cons, List.map_nil, List.getD_cons_succ, List.getD_cons_zero]
          go_wp2_with fail
          refine (HL'.out _).mono ?_; rintro e w7 ⟨rfl, hb7⟩; have hin8 := hin7'.out.later hb7; have b58 := b57'.out.late hb7; have l18 := late hb7 (p := ⟨b3, o3 + kx * 2 + 1, none⟩) (by show b3 < _; have := hb06'.out.size; have := hin7'.out.mv.size; omega) l17'.out; have HS := Lib.hid (hsurj'.out _ ⟨hin8.bS, b58, l18⟩); have hb7' := Lib.hid hb7; have hin8' := Lib.hid hin8; have b58' := Lib.hid b58; have l18' := Lib.hid l18; clear hb7 hin8 b58 l18
          go_wp2_with fail
          first | refine Mid.mk ⟨HS.out, ?_⟩ | refine Mid.mk ?_
          refine held_one 14 1 (by kernel_rfl) (by kernel_rfl) ?_; simp only [pickL, List.map_cons, List.map_nil, List.getD_cons_succ, List.getD_cons_zero]
          go_wp2_with fail
          have hwr7 := hin8'.out.mv.size; have hsl1 := Sl.new w7 55 4 1 #[.int .i64 y, .int .i64 4, .int .i64 1, .int .i64 (atS K.l 2 ns 0)] (0, 0) (by omega) rfl; have ha7 := (Below.refl w7.heap.size w7).alloc (Nat.le_refl _) (.cells #[.int .i64 y, .int .i64 4, .int .i64 1, .int .i64 (atS K.l 2 ns 0)] 55); have hin9 := hin8'.out.later ha7; have b59 := b58'.out.late ha7; have l19 := late ha7 (p := ⟨b3, o3 + kx * 2 + 1, none⟩) (by show b3 < _; have := hb06'.out.size; have := hin7'.out.mv.size; omega) l18'.out; have HS := Lib.hid (hsurj'.out _ ⟨hin9.bS, b59, l19⟩); have hg7 : g5 < w7.heap.size := b58'.out.lt; have hC := wd1_any w.heap.size (w.heap.size + 2) _ [(y, 4, 1, atS K.l 2 ns 0)] v _ 1 1 _ hin9.bl hin9.ow (own_ne_blk0 hin9.ow hin9.bl (by decide)) (by have := hin9.mv.size; omega) (by simpa [fl, entC] using hsl1) (by omega) (by rw [List.length_append, hE1l, subE_len]; omega); have hsl1' := Lib.hid hsl1; have ha7' := Lib.hid ha7; have hin9' := Lib.hid hin9; have b59' := Lib.hid b59; have l19' := Lib.hid l19; have hC' := Lib.hid hC; clear hsl1 ha7 hin9 b59 l19 hC
          first | refine Mid.mk ⟨HS.out, ?_⟩ | refine Mid.mk ?_
          refine held_one 15 0 (by kernel_rfl) (by kernel_rfl) ?_; simp only [pickL, List.map_cons, List.map_nil, List.getD_cons_succ, List.getD_cons_zero]
          go_wp2_with fail
          refine hC'.out.mono ?_; rintro e w8 ⟨v8, rfl, hl8, ho8, hne8, hm8⟩; have hin10 := hin9'.out.add hl8 ho8 hm8 (by omega) (by omega) (by omega) (by omega) (by omega) (by omega); have hlow8 := hm8.below (B := w.heap.size) (by omega) (by omega) (fun k e => (hin9'.out.ow.lt k e).1) hin9'.out.mv.size; have b60 := b59'.out.mv hm8 (by omega) (by omega) (own_ne_blk0 hin9'.out.ow b59'.out (by decide)); have l20 := below_cell hlow8 (p := ⟨b3, o3 + kx * 2 + 1, none⟩) (by show b3 < _; omega) l19'.out; have HS := Lib.hid (hsurj'.out _ ⟨hin10.bS, b60, l20⟩)
          have hin11 : WIn K w w8 (subN f d.2.1 no (j + 1)) (apP (subP (dirW (shps zs) K.l K.o f) (lks, sat, slong, snx) d.2.1 no (j + 1)) P1) w.heap.size (w.heap.size + 1) (w.heap.size + 2) (dvA ta k tc (some ⟨xb, xo, none⟩) sn sc ba bn bc) (svA (some ⟨b3, o3, none⟩) ln lc sat slong snx) v8 (E1 ++ subE f K.l d.2.1 no (j + 1)) := by
            rw [hNs'.out, hPs'.out, apP_append, hEs'.out, hEx'.out, ← List.append_assoc]; exact hin10
          have hin10' := Lib.hid hin10; have hlow8' := Lib.hid hlow8; have b60' := Lib.hid b60; have l20' := Lib.hid l20; have hin11' := Lib.hid hin11; have hl8' := Lib.hid hl8; have ho8' := Lib.hid ho8; have hne8' := Lib.hid hne8; have hm8' := Lib.hid hm8; clear hin10 hlow8 b60 l20 hin11 hl8 ho8 hne8 hm8
          go_wp2_with fail
          first | refine Mid.mk ⟨HS.out, ?_⟩ | refine Mid.mk ?_
          refine held_last (by kernel_rfl) ?_
          go_wp2_with fail
          go_roundw
          case rel => exact ⟨j + 1, v8, by omega, by go_num, hin11'⟩
          case measure => simp [intOf]; omega
        · obtain rfl : j = sn := by omega
          obtain ⟨n2, hn2⟩ : ∃ n2, subN f d.2.1 no j = n2 := ⟨_, rfl⟩; obtain ⟨P2, hP2⟩ : ∃ P2, apP (subP (dirW (shps zs) K.l K.o f) (lks, sat, slong, snx) d.2.1 no j) P1 = P2 := ⟨_, rfl⟩; obtain ⟨E2, hE2⟩ : ∃ E2, E1 ++ subE f K.l d.2.1 no j = E2 := ⟨_, rfl⟩
          have hnN : n2 = no + (flatS (f + 1) d).length := by
            have h := subN_all f d.2.1 no; rw [hsn'.out, hn2] at h; rw [h, hfl'.out]; omega
          rw [hn2, hP2, hE2] at hW
          have hDw : apP (dirW (shps zs) K.l K.o (f + 1) d no i) P = apP (headP K.l K.o no (entsD f K.l K.o no (lks, sat, slong, snx) d)) (apP (blobP K.l d.2.2 no) P2) := by
            rw [hD'.out, hsn'.out, apP_append, apP_append, apP_append, hP1'.out, hP2]
          have hEd : entsD f K.l K.o no (lks, sat, slong, snx) d = E2 ++ blobE K.l (lks, sat, slong, snx) d.2.2 no := by
            unfold entsD; rw [hsn'.out, hE1'.out, hE2]
          obtain ⟨m, hm⟩ : ∃ m, (entsD f K.l K.o no (lks, sat, slong, snx) d).length = m := ⟨_, rfl⟩; have hm1 := k5'.out; have hm2 := k6'.out; have hF := k4'.out; rw [hm] at hm1 hm2 hF; obtain ⟨hfa, hf0, hfn⟩ := hF; obtain ⟨q, hq⟩ : ∃ q : Nat, atS K.l 2 no 0 = q := ⟨(atS K.l 2 no 0).toNat, by omega⟩; rw [hq, Int.toNat_natCast] at hfn; have d2 : wr.cell? ⟨w.heap.size, 2, none⟩ = some (.slice ba bn bc) := hW.out.bA.cell rfl; have hn2' := Lib.hid hn2; have hP2' := Lib.hid hP2; have hE2' := Lib.hid hE2; have hnN' := Lib.hid hnN; have hDw' := Lib.hid hDw; have hEd' := Lib.hid hEd; have hm' := Lib.hid hm; have hfa' := Lib.hid hfa; have hq' := Lib.hid hq; clear hn2 hP2 hE2 hnN hDw hEd hm hfa hq
          by_cases hbn0 : 0 < bn
          · have hdc : decide ((0 : Int) < bn) = true := by simp; omega
            have hFb := k3'.out (by rw [hbn'.out]; exact hbn0); rw [hbn'.out] at hFb; obtain ⟨hba, hbf, hbfn⟩ := hFb; obtain ⟨q2, hq2⟩ : ∃ q2 : Nat, atS K.l 4 no 0 = q2 := ⟨(atS K.l 4 no 0).toNat, by omega⟩; rw [hq2, Int.toNat_natCast] at hbfn; have hSp4 := wspot_any K wr n2 P2 hW.out.ws 4 no 0 hba; rw [hq2] at hSp4; have hba' := Lib.hid hba; have hq2' := Lib.hid hq2; have hSp4' := Lib.hid hSp4; clear hba hq2 hSp4
            go_wp2_with fail
            refine hSp4'.out.mono ?_; rintro e w3 ⟨rfl, hb3⟩; have hin3 := hW.out.later hb3; have hqt := (Below.refl w3.heap.size w3).drew; have hin4 := hin3.later hqt; have hC3 : Blk w3 w.heap.size 26 (dvA ta k tc sa j sc ba bn bc) ∧ Blk w3 K.gw 91 #[.slice (some ⟨K.gb, 0, none⟩) K.n K.n, .int .i64 K.o, .slice K.spa K.spn K.spc, .slice K.qa K.qn K.qc, .int .i64 n2] := ⟨hin3.bA, hin3.ws.blk⟩; obtain ⟨Ty, ff, hne, hcl, hsurj⟩ := pred_worlds (fun W => Blk W w.heap.size 26 (dvA ta k tc sa j sc ba bn bc) ∧ Blk W K.gw 91 #[.slice (some ⟨K.gb, 0, none⟩) K.n K.n, .int .i64 K.o, .slice K.spa K.spn K.spc, .slice K.qa K.qn K.qc, .int .i64 n2]) w3 hC3; have HS := Lib.hid (hsurj w3.drew ⟨hin4.bA, hin4.ws.blk⟩); have q0 : ∀ s, (ff s).cell? ⟨w.heap.size, 2, none⟩ = some (.slice ba bn bc) := fun s => (hcl s).1.cell rfl; have q1 : ∀ s, (ff s).cell? ⟨K.gw, 0, none⟩ = some (.slice (some ⟨K.gb, 0, none⟩) K.n K.n) := fun s => (hcl s).2.cell rfl; have hlow := fun W => low_at (P := Tryz.prog) (T := 24) (E := 5) Tryz.underlying24 sizeB K.gb K.n q2 (by omega) W; obtain ⟨wD, hwD⟩ : ∃ wD, w3.drew = wD := ⟨_, rfl⟩; rw [hwD] at hin4 HS; have hb0D := hb0'.out.trans (hin4.mv.below (B := w0.heap.size) hgw hgb (fun k e => by cases e) hb0'.out.size); obtain ⟨w5, hr5, hws5, hm5, hbt5⟩ := page_copy hin4.ws ba bn bc _ (hbl'.out.mono hb0D) q2 (by omega) (by omega) 3; have hin5 := hin4.turn hws5 hm5 hg1 hg2_ (Nat.le_refl _) (by omega) (by omega); have HS5 := Lib.hid (hsurj _ ⟨hin5.bA, hin5.ws.blk⟩); clear d2; have hb3' := Lib.hid hb3; have hin3' := Lib.hid hin3; have hqt' := Lib.hid hqt; have hin4' := Lib.hid hin4; have hC3' := Lib.hid hC3; have hcl' := Lib.hid hcl; have hsurj' := Lib.hid hsurj; have hb0D' := Lib.hid hb0D; have hws5' := Lib.hid hws5; have hm5' := Lib.hid hm5; have hbt5' := Lib.hid hbt5; have hin5' := Lib.hid hin5; clear hb3 hin3 hqt hin4 hC3 hcl hsurj hb0D hws5 hm5 hbt5 hin5
            go_wp2_with fail
            refine held_begin (S := fun W => ∃ s, W = ff s) (by kernel_rfl) 10 rfl ?_; rw [hwD]; refine held_take [0, 1, 2, 3, 4, 5, 6, 7, 8] 1 (by kernel_rfl) (fun d _ _ _ _ h => by cases d <;> exact h) (by kernel_rfl) (by kernel_rfl) (by kernel_rfl) HS.out ?_; simp only [pickL, List.map_cons, List.map_nil, List.getD_cons_succ, List.getD_cons_zero]
            iterate 9 (go_big_quiet_step (fail))
            refine wpQuiet_nil ?_; clear q0 q1 hwD; refine held_one 9 0 (by kernel_rfl) (by kernel_rfl) ?_; simp only [pickL, List.map_cons, List.map_nil, List.getD_cons_succ, List.getD_cons_zero]
            go_wp2_with (at_builtin; refine wpList_copy_run _ rfl _ _ _ _ rfl _ _ rfl rfl hr5 ?_)
            first | refine Mid.mk ⟨HS5.out, ?_⟩ | refine Mid.mk ?_
            refine held_last (by kernel_rfl) ?_; clear hr5 hlow HS HS5 hcl' hsurj'; have hqt5 := (Below.refl w5.heap.size w5).drew; have hin6 := hin5'.out.later hqt5; have hC5 : Blk w5 w.heap.size 26 (dvA ta k tc sa j sc ba bn bc) ∧ Blk w5 (w.heap.size + 1) 35 (svA la ln lc sat slong snx) := ⟨hin5'.out.bA, hin5'.out.bS⟩; obtain ⟨Ty, ff, hne, hcl, hsurj⟩ := pred_worlds (fun W => Blk W w.heap.size 26 (dvA ta k tc sa j sc ba bn bc) ∧ Blk W (w.heap.size + 1) 35 (svA la ln lc sat slong snx)) w5 hC5; have HS := Lib.hid (hsurj w5.drew ⟨hin6.bA, hin6.bS⟩); have q0 : ∀ s, (ff s).cell? ⟨w.heap.size, 2, none⟩ = some (.slice ba bn bc) := fun s => (hcl s).1.cell rfl; have q1 : ∀ s, (ff s).cell? ⟨w.heap.size + 1, 1, none⟩ = some (.int .i64 sat) := fun s => (hcl s).2.cell rfl; have q2_ : ∀ s, (ff s).cell? ⟨w.heap.size + 1, 2, none⟩ = some (.int .i64 slong) := fun s => (hcl s).2.cell rfl; obtain ⟨wE, hwE⟩ : ∃ wE, w5.drew = wE := ⟨_, rfl⟩; rw [hwE] at hin6 HS; have hqt5' := Lib.hid hqt5; have hin6' := Lib.hid hin6; have hC5' := Lib.hid hC5; have hcl' := Lib.hid hcl; have hsurj' := Lib.hid hsurj; clear hqt5 hin6 hC5 hcl hsurj
            go_wp2_with fail
            refine held_begin (S := fun W => ∃ s, W = ff s) (by kernel_rfl) 13 rfl ?_; rw [hwE]; refine held_take [0, 1, 2, 3, 5, 6, 7, 8, 9] 4 (by kernel_rfl) (fun d _ _ _ _ h => by cases d <;> exact h) (by kernel_rfl) (by kernel_rfl) (by kernel_rfl) HS.out ?_; simp only [pickL, List.map_cons, List.map_nil, List.getD_cons_succ, List.getD_cons_zero]
            iterate 9 (go_big_quiet_step (fail))
            refine wpQuiet_nil ?_; clear q0 q1 q2_ hwE; refine held_one 4 3 (by kernel_rfl) (by kernel_rfl) ?_; simp only [pickL, List.map_cons, List.map_nil, List.getD_cons_succ, List.getD_cons_zero]
            go_wp2_with fail
            refine (long21_any sat q2 _).mono ?_; rintro e w7 ⟨rfl, hb7⟩; have hin7 := hin6'.out.later hb7; have HS := Lib.hid (hsurj'.out _ ⟨hin7.bA, hin7.bS⟩); have hb7' := Lib.hid hb7; have hin7' := Lib.hid hin7; clear hb7 hin7
            go_wp2_with fail
            first | refine Mid.mk ⟨HS.out, ?_⟩ | refine Mid.mk ?_
            refine held_one 10 2 (by kernel_rfl) (by kernel_rfl) ?_; simp only [pickL, List.map_cons, List.map_nil, List.getD_cons_succ, List.getD_cons_zero]
            go_wp2_with fail
            refine (long21_any slong bn _).mono ?_; rintro e w8 ⟨rfl, hb8⟩; have hin8 := hin7'.out.later hb8; have HS := Lib.hid (hsurj'.out _ ⟨hin8.bA, hin8.bS⟩); have hb8' := Lib.hid hb8; have hin8' := Lib.hid hin8; clear hb8 hin8
            go_wp2_with fail
            first | refine Mid.mk ⟨HS.out, ?_⟩ | refine Mid.mk ?_
            refine held_one 11 1 (by kernel_rfl) (by kernel_rfl) ?_; simp only [pickL, List.map_cons, List.map_nil, List.getD_cons_succ, List.getD_cons_zero]
            go_wp2_with fail
            have hwr8 := hin8'.out.mv.size; have hsl1 := Sl.new w8 55 4 2 #[.int .i64 sat, .int .i64 4, .int .i64 1, .int .i64 q2, .int .i64 slong, .int .i64 4, .int .i64 1, .int .i64 bn] (0, 0) (by omega) rfl; have ha8 := (Below.refl w8.heap.size w8).alloc (Nat.le_refl _) (.cells #[.int .i64 sat, .int .i64 4, .int .i64 1, .int .i64 q2, .int .i64 slong, .int .i64 4, .int .i64 1, .int .i64 bn] 55); have hin9 := hin8'.out.later ha8; have HS := Lib.hid (hsurj'.out _ ⟨hin9.bA, hin9.bS⟩)
            have hE2l : E2.length ≤ 100000 := by
              have h1 := hEd'.out; have h2 := hm'.out; rw [h1, List.length_append] at h2
              omega
            have hC := wd1_any w.heap.size (w.heap.size + 2) E2 [(sat, 4, 1, q2), (slong, 4, 1, bn)] v _ 2 2 _ hin9.bl hin9.ow (own_ne_blk0 hin9.ow hin9.bl (by decide)) (by have := hin9.mv.size; omega) (by simpa [fl, entC] using hsl1) (by omega) (by omega); have hsl1' := Lib.hid hsl1; have ha8' := Lib.hid ha8; have hin9' := Lib.hid hin9; have hC' := Lib.hid hC; clear hsl1 ha8 hin9 hC
            first | refine Mid.mk ⟨HS.out, ?_⟩ | refine Mid.mk ?_
            refine held_one 12 0 (by kernel_rfl) (by kernel_rfl) ?_; simp only [pickL, List.map_cons, List.map_nil, List.getD_cons_succ, List.getD_cons_zero]
            go_wp2_with fail
            refine hC'.out.mono ?_; rintro e w9 ⟨v9, rfl, hl9, ho9, hne9, hm9⟩; have hin10 := hin9'.out.add hl9 ho9 hm9 hg1 hg2_ hsb (by omega) (by omega) (by omega); have HS := Lib.hid (hsurj'.out _ ⟨hin10.bA, hin10.bS⟩); obtain ⟨E3, hE3⟩ : ∃ E3, E2 ++ [(sat, 4, 1, (q2 : Int)), (slong, 4, 1, (bn : Int))] = E3 := ⟨_, rfl⟩; obtain ⟨P3, hP3⟩ : ∃ P3, splice P2 q2 d.2.2 = P3 := ⟨_, rfl⟩; rw [hE3, hP3] at hin10; have hbE : blobE K.l (lks, sat, slong, snx) d.2.2 no = [(sat, 4, 1, (q2 : Int)), (slong, 4, 1, (bn : Int))] := by unfold blobE; rw [if_pos (by rw [hbn'.out]; exact hbn0), hq2'.out, hbn'.out]
            have hbP : blobP K.l d.2.2 no = [(q2, d.2.2)] := by unfold blobP; rw [if_pos (by rw [hbn'.out]; exact hbn0), hq2'.out, Int.toNat_natCast]
            have hEt : entsD f K.l K.o no (lks, sat, slong, snx) d = E3 := by rw [hEd'.out, hbE, hE3]
            have hPt : apP (dirW (shps zs) K.l K.o (f + 1) d no i) P = apP (headP K.l K.o no E3) P3 := by rw [hDw'.out, hbP, hEt, apP_one, hP3]
            have hin := hin10; obtain ⟨v, hv9⟩ : ∃ v, v9 = v := ⟨_, rfl⟩; rw [hv9] at hin hin10 hl9 ho9 hm9; clear hbE hbP; have hl9' := Lib.hid hl9; have ho9' := Lib.hid ho9; have hne9' := Lib.hid hne9; have hm9' := Lib.hid hm9; have hin10' := Lib.hid hin10; have hEt' := Lib.hid hEt; have hPt' := Lib.hid hPt; have hin' := Lib.hid hin; have hE3' := Lib.hid hE3; have hP3' := Lib.hid hP3; clear hl9 ho9 hne9 hm9 hin10 hEt hPt hin hE3 hP3
            go_wp2_with fail
            first | refine Mid.mk ⟨HS.out, ?_⟩ | refine Mid.mk ?_
            refine held_last (by kernel_rfl) ?_; clear HS hcl' hsurj'; have hEl : E3.length = m := by rw [← hEt'.out]; exact hm'.out
            have hEn := k8'.out; have hEo := k9'.out; rw [hEt'.out] at hEn hEo
            obtain ⟨av, cv, rfl⟩ : ∃ a c, v = .slice a m c := by
              rcases hin'.out.ow.2 with ⟨rfl, h0⟩ | ⟨g, cap, cur, rfl, _⟩
              · exact ⟨none, 0, by rw [← hEl, h0]⟩
              · exact ⟨_, _, by rw [hEl]⟩
            have v0 : w9.cell? ⟨w.heap.size + 2, 0, none⟩ = some (.slice av m cv) := hin'.out.bl.cell rfl; have hSr := wsort_any w.heap.size E3 (.slice av m cv) w9 hin'.out.ow (by omega) (by omega) hEn; have hEl' := Lib.hid hEl; have hEn' := Lib.hid hEn; have hEo' := Lib.hid hEo; have hSr' := Lib.hid hSr; clear hEl hEn hEo hSr
            go_wp2_with fail
            refine hSr'.out.mono ?_; rintro e w2 ⟨rfl, ho2, hg2⟩; have hin2 := hin'.out.sort ho2 hg2 hg1 hg2_ hsb (by omega); have hSp := wspot_any K w2 n2 P3 hin2.ws 2 no 0 hfa'.out; rw [hq'.out] at hSp; clear v0; have ho2' := Lib.hid ho2; have hg2' := Lib.hid hg2; have hin2' := Lib.hid hin2; have hSp' := Lib.hid hSp; clear ho2 hg2 hin2 hSp
            go_wp2_with fail
            refine hSp'.out.mono ?_; rintro e w3 ⟨rfl, hb3⟩; have hin3 := hin2'.out.later hb3; have hqt := (Below.refl w3.heap.size w3).drew; have hin4 := hin3.later hqt; obtain ⟨Ty, ff, hne, hcl, hsurj⟩ := pred_worlds (fun W => Blk W (w.heap.size + 2) 154 #[.slice av m cv]) w3 hin3.bl; have HS := Lib.hid (hsurj w3.drew hin4.bl); have q0 : ∀ s, (ff s).cell? ⟨w.heap.size + 2, 0, none⟩ = some (.slice av m cv) := fun s => (hcl s).cell rfl
            have hpk : putOk (m : Int) 2 K.o = true := by
              unfold putOk
              rcases k7'.out with h | h <;> rw [h] <;> simp [topS] <;> omega
            have hpl := putS_length hpk; obtain ⟨wD, hwD⟩ : ∃ wD, w3.drew = wD := ⟨_, rfl⟩; rw [hwD] at hin4 HS; have hPp := pgput_any K wD n2 P3 hin4.ws q m 2 hpk (by rw [hpl]; decide) (by rw [hpl, show (2 : Int).toNat = 2 from rfl]; omega); obtain ⟨P4, hP4⟩ : ∃ P4, splice P3 q (putS m 2 K.o) = P4 := ⟨_, rfl⟩; rw [hP4] at hPp
            have hPh : apP (headP K.l K.o no E3) P3 = apP (rowP q K.o (sortE E3) m) P4 := by
              unfold headP; rw [hq'.out, Int.toNat_natCast, hEl'.out, ← hP4]
              rfl
            rw [hPh] at hPt'; have hb3' := Lib.hid hb3; have hin3' := Lib.hid hin3; have hqt' := Lib.hid hqt; have hin4' := Lib.hid hin4; have hcl' := Lib.hid hcl; have hsurj' := Lib.hid hsurj; have hpk' := Lib.hid hpk; have hpl' := Lib.hid hpl; have hPp' := Lib.hid hPp; have hP4' := Lib.hid hP4; have hPh' := Lib.hid hPh; clear hb3 hin3 hqt hin4 hcl hsurj hpk hpl hPp hP4 hPh
            go_wp2_with fail
            refine held_begin (S := fun W => ∃ s, W = ff s) (by kernel_rfl) 7 rfl ?_; rw [hwD]; refine held_take [0, 1, 2, 3, 4, 5] 1 (by kernel_rfl) (fun d _ _ _ _ h => by cases d <;> exact h) (by kernel_rfl) (by kernel_rfl) (by kernel_rfl) HS.out ?_; simp only [pickL, List.map_cons, List.map_nil, List.getD_cons_succ, List.getD_cons_zero]
            iterate 6 (go_big_quiet_step (fail))
            refine wpQuiet_nil ?_; clear q0 hwD; refine held_one 6 0 (by kernel_rfl) (by kernel_rfl) ?_; simp only [pickL, List.map_cons, List.map_nil, List.getD_cons_succ, List.getD_cons_zero]
            go_wp2_with fail
            refine hPp'.out.mono ?_; rintro e w4 ⟨rfl, hws4, hm4⟩; have hin5 := hin4'.out.turn hws4 hm4 hg1 hg2_ (Nat.le_refl _) (by omega) (by omega); have HS := Lib.hid (hsurj'.out _ hin5.bl); have v0 : w4.cell? ⟨w.heap.size + 2, 0, none⟩ = some (.slice av m cv) := hin5.bl.cell rfl; have hws4' := Lib.hid hws4; have hm4' := Lib.hid hm4; have hin5' := Lib.hid hin5; clear hws4 hm4 hin5
            go_wp2_with fail
            first | refine Mid.mk ⟨HS.out, ?_⟩ | refine Mid.mk ?_
            refine held_last (by kernel_rfl) ?_
            go_wp2_with fail
            clear v0
            go_loopw [128] (fun iv wr => ∃ (i2 : Nat), i2 ≤ m ∧ iv = .int .i64 i2 ∧ Hid (WIn K w wr n2 (apP (rowP q K.o (sortE E3) i2) P4) w.heap.size (w.heap.size + 1) (w.heap.size + 2) (dvA ta k tc sa j sc ba bn bc) (svA la ln lc sat slong snx) (.slice av m cv) (sortE E3))) (fun iv _ => m - (intOf iv).toNat)
            case atStart => exact ⟨0, by omega, rfl, hin5'⟩
            case round =>
              obtain ⟨i2, hi2, rfl, hW⟩ := hrel
              by_cases hlt : i2 < m
              · have hil : (i2 : Int) < (m : Int) := by omega
                have hw1 : IntKind.i64.wrap ((i2 : Int) + 1) = i2 + 1 := by rw [IntKind.wrap_i64]; omega
                have hw2 : IntKind.i64.wrap (12 * (i2 : Int)) = 12 * i2 := by rw [IntKind.wrap_i64]; omega
                have hw3 : IntKind.i64.wrap ((q : Int) + 2) = q + 2 := by rw [IntKind.wrap_i64]; omega
                have hw4 : IntKind.i64.wrap ((q : Int) + 2 + 12 * i2) = ((q + 2 + 12 * i2 : Nat) : Int) := by rw [IntKind.wrap_i64]; omega
                have hsl5 := (Sl.of_own hW.out.ow).1; obtain ⟨b6, o6, rfl, hblt6, fe⟩ := hsl5.elem entC_len (by decide) ent0 hlt; have hrs := rowP_step q K.o (sortE E3) i2
                have hxo : entOk ((sortE E3).getD i2 ent0) K.o = true := by
                  have h1 : i2 < (sortE E3).length := by rw [sortE_len, hEl'.out]; exact hlt
                  rw [getD_el h1]; exact hEo'.out _ ((List.mergeSort_perm _ _).subset (List.getElem_mem h1))
                obtain ⟨⟨x0, x1, x2, x3⟩, hx⟩ : ∃ x, (sortE E3).getD i2 ent0 = x := ⟨_, rfl⟩; rw [hx] at fe hrs hxo; have f0 := fe 0 _ rfl; have f1 := fe 1 _ rfl; have f2 := fe 2 _ rfl; have f3 := fe 3 _ rfl; simp only [Nat.add_zero] at f0 f1 f2 f3; clear fe; have hal := (Below.refl wr.heap.size wr).alloc (Nat.le_refl _) (.cells #[.int .i64 x0, .int .i64 x1, .int .i64 x2, .int .i64 x3] 55); have b8 := Blk.new wr 55 #[.int .i64 x0, .int .i64 x1, .int .i64 x2, .int .i64 x3]; have hin6 := hW.out.later hal; have hwr := hW.out.mv.size; obtain ⟨g8, hg8⟩ : ∃ g8, wr.heap.size = g8 := ⟨_, rfl⟩; obtain ⟨W6, hW6⟩ : ∃ W6, wr.alloc (.cells #[.int .i64 x0, .int .i64 x1, .int .i64 x2, .int .i64 x3] 55) = W6 := ⟨_, rfl⟩; rw [hW6] at b8 hin6 hal; rw [hg8] at b8; have hsl5' := Lib.hid hsl5; have hrs' := Lib.hid hrs; have hxo' := Lib.hid hxo; have hx' := Lib.hid hx; have hal' := Lib.hid hal; have b8' := Lib.hid b8; have hin6' := Lib.hid hin6; have hW6' := Lib.hid hW6; clear hsl5 hrs hxo hx hal b8 hin6 hW6
                go_wp2_with fail
                rw [hW6'.out]; clear f0 f1 f2 f3; have hCw : Blk W6 g8 55 #[.int .i64 x0, .int .i64 x1, .int .i64 x2, .int .i64 x3] ∧ Blk W6 K.gw 91 #[.slice (some ⟨K.gb, 0, none⟩) K.n K.n, .int .i64 K.o, .slice K.spa K.spn K.spc, .slice K.qa K.qn K.qc, .int .i64 n2] := ⟨b8'.out, hin6'.out.ws.blk⟩; have hqt6 := (Below.refl W6.heap.size W6).drew; obtain ⟨Ty, ff, hne, hcl, hsurj⟩ := pred_worlds (fun W => Blk W g8 55 #[.int .i64 x0, .int .i64 x1, .int .i64 x2, .int .i64 x3] ∧ Blk W K.gw 91 #[.slice (some ⟨K.gb, 0, none⟩) K.n K.n, .int .i64 K.o, .slice K.spa K.spn K.spc, .slice K.qa K.qn K.qc, .int .i64 n2]) W6 hCw; have hin7 := hin6'.out.later hqt6; have b88 := b8'.out.late hqt6; have HS := Lib.hid (hsurj W6.drew ⟨b88, hin7.ws.blk⟩); have q0 : ∀ s, (ff s).cell? ⟨g8, 0, none⟩ = some (.int .i64 x0) := fun s => (hcl s).1.cell rfl; have q1 : ∀ s, (ff s).cell? ⟨g8, 1, none⟩ = some (.int .i64 x1) := fun s => (hcl s).1.cell rfl; have q2 : ∀ s, (ff s).cell? ⟨g8, 2, none⟩ = some (.int .i64 x2) := fun s => (hcl s).1.cell rfl; have q3 : ∀ s, (ff s).cell? ⟨g8, 3, none⟩ = some (.int .i64 x3) := fun s => (hcl s).1.cell rfl; have q4 : ∀ s, (ff s).cell? ⟨K.gw, 1, none⟩ = some (.int .i64 K.o) := fun s => (hcl s).2.cell rfl; obtain ⟨wE, hwE⟩ : ∃ wE, W6.drew = wE := ⟨_, rfl⟩; rw [hwE] at hin7 b88 HS; have hEw := ewrite_any x0 x1 x2 x3 K.o wE hxo'.out; have hCw' := Lib.hid hCw; have hqt6' := Lib.hid hqt6; have hcl' := Lib.hid hcl; have hsurj' := Lib.hid hsurj; have hin7' := Lib.hid hin7; have b88' := Lib.hid b88; have hEw' := Lib.hid hEw; clear hCw hqt6 hcl hsurj hin7 b88 hEw; refine held_begin (S := fun W => ∃ s, W = ff s) (by kernel_rfl) 12 rfl ?_; rw [hwE]; refine held_take [0, 1, 2, 3, 4, 5] 6 (by kernel_rfl) (fun d _ _ _ _ h => by cases d <;> exact h) (by kernel_rfl) (by kernel_rfl) (by kernel_rfl) HS.out ?_; simp only [pickL, List.map_cons, List.map_nil, List.getD_cons_succ, List.getD_cons_zero]
                iterate 6 (go_big_quiet_step (fail))
                refine wpQuiet_nil ?_; refine held_one 6 5 (by kernel_rfl) (by kernel_rfl) ?_; simp only [pickL, List.map_cons, List.map_nil, List.getD_cons_succ, List.getD_cons_zero]
                go_wp2_with fail
                refine hEw'.out.mono ?_; rintro e w7 ⟨a7, c7, rfl, ho7, hb7⟩; have hin8 := hin7'.out.later hb7; have b89 := b88'.out.late hb7; have HS := Lib.hid (hsurj'.out _ ⟨b89, hin8.ws.blk⟩); have ho7' := Lib.hid ho7; have hb7' := Lib.hid hb7; have hin8' := Lib.hid hin8; have b89' := Lib.hid b89; clear ho7 hb7 hin8 b89
                go_wp2_with fail
                first | refine Mid.mk ⟨HS.out, ?_⟩ | refine Mid.mk ?_
                refine held_take [7, 8, 9, 10, 11] 0 (by kernel_rfl) (fun d _ _ _ _ h => by cases d <;> exact h) (by kernel_rfl) (by kernel_rfl) (by kernel_rfl) HS.out ?_; simp only [pickL, List.map_cons, List.map_nil, List.getD_cons_succ, List.getD_cons_zero]
                iterate 5 (go_big_quiet_step (fail))
                refine wpQuiet_nil ?_; refine held_last (by kernel_rfl) ?_; clear q0 q1 q2 q3 q4 hwE; have c0 : w7.cell? ⟨K.gw, 0, none⟩ = some (.slice (some ⟨K.gb, 0, none⟩) K.n K.n) := hin8'.out.ws.blk.cell rfl; have hlow := fun W => low_at (P := Tryz.prog) (T := 24) (E := 5) Tryz.underlying24 sizeB K.gb K.n (q + 2 + 12 * i2) (by omega) W; obtain ⟨w9, hr9, hws9, hm9, hbt9⟩ := page_copy hin8'.out.ws a7 12 c7 _ (Sl.of_own ho7'.out).1 (q + 2 + 12 * i2) (by decide) (by omega) 3; have hin9 := hin8'.out.turn hws9 hm9 hg1 hg2_ (Nat.le_refl _) (by omega) (by omega)
                have hin10 : WIn K w w9 n2 (apP (rowP q K.o (sortE E3) (i2 + 1)) P4) w.heap.size (w.heap.size + 1) (w.heap.size + 2) (dvA ta k tc sa j sc ba bn bc) (svA la ln lc sat slong snx) (.slice (some ⟨b6, o6, none⟩) m cv) (sortE E3) := by
                  rw [hrs'.out, apP_append]; exact hin9
                have hws9' := Lib.hid hws9; have hm9' := Lib.hid hm9; have hbt9' := Lib.hid hbt9; have hin9' := Lib.hid hin9; have hin10' := Lib.hid hin10; clear hws9 hm9 hbt9 hin9 hin10
                go_wp2_with (at_builtin; refine wpList_copy_run _ rfl _ _ _ _ rfl _ _ rfl rfl hr9 ?_)
                go_roundw
                case rel => exact ⟨i2 + 1, by omega, by go_num, hin10'⟩
                case measure => simp [intOf]; omega
              · obtain rfl : i2 = m := by omega
                go_wp2_with fail
                go_ret
                refine ⟨by rw [hq'.out]; rfl, ?_, hW.out.mv⟩; rw [hPt'.out, ← hnN'.out]; exact hW.out.ws
          · have hdc : decide ((0 : Int) < bn) = false := by simp; omega
            obtain ⟨E3, hE3⟩ : ∃ E3, E2 = E3 := ⟨_, rfl⟩; have hbE : blobE K.l (lks, sat, slong, snx) d.2.2 no = [] := by unfold blobE; rw [if_neg (by rw [hbn'.out]; exact hbn0)]
            have hbP : blobP K.l d.2.2 no = [] := by unfold blobP; rw [if_neg (by rw [hbn'.out]; exact hbn0)]
            have hEt : entsD f K.l K.o no (lks, sat, slong, snx) d = E3 := by rw [hEd'.out, hbE, List.append_nil, hE3]
            obtain ⟨P3, hP3⟩ : ∃ P3, P2 = P3 := ⟨_, rfl⟩; have hPt : apP (dirW (shps zs) K.l K.o (f + 1) d no i) P = apP (headP K.l K.o no E3) P3 := by rw [hDw'.out, hbP, hEt, ← hP3]; rfl
            rw [hE3, hP3] at hW; have hin := hW.out; clear hbE hbP; have hEt' := Lib.hid hEt; have hPt' := Lib.hid hPt; have hin' := Lib.hid hin; have hE3' := Lib.hid hE3; have hP3' := Lib.hid hP3; clear hEt hPt hin hE3 hP3; have hEl : E3.length = m := by rw [← hEt'.out]; exact hm'.out
            have hEn := k8'.out; have hEo := k9'.out; rw [hEt'.out] at hEn hEo
            obtain ⟨av, cv, rfl⟩ : ∃ a c, v = .slice a m c := by
              rcases hin'.out.ow.2 with ⟨rfl, h0⟩ | ⟨g, cap, cur, rfl, _⟩
              · exact ⟨none, 0, by rw [← hEl, h0]⟩
              · exact ⟨_, _, by rw [hEl]⟩
            have v0 : wr.cell? ⟨w.heap.size + 2, 0, none⟩ = some (.slice av m cv) := hin'.out.bl.cell rfl; have hSr := wsort_any w.heap.size E3 (.slice av m cv) wr hin'.out.ow (by omega) (by omega) hEn; have hEl' := Lib.hid hEl; have hEn' := Lib.hid hEn; have hEo' := Lib.hid hEo; have hSr' := Lib.hid hSr; clear hEl hEn hEo hSr
            go_wp2_with fail
            refine hSr'.out.mono ?_; rintro e w2 ⟨rfl, ho2, hg2⟩; have hin2 := hin'.out.sort ho2 hg2 hg1 hg2_ hsb (by omega); have hSp := wspot_any K w2 n2 P3 hin2.ws 2 no 0 hfa'.out; rw [hq'.out] at hSp; clear v0; have ho2' := Lib.hid ho2; have hg2' := Lib.hid hg2; have hin2' := Lib.hid hin2; have hSp' := Lib.hid hSp; clear ho2 hg2 hin2 hSp
            go_wp2_with fail
            refine hSp'.out.mono ?_; rintro e w3 ⟨rfl, hb3⟩; have hin3 := hin2'.out.later hb3; have hqt := (Below.refl w3.heap.size w3).drew; have hin4 := hin3.later hqt; obtain ⟨Ty, ff, hne, hcl, hsurj⟩ := pred_worlds (fun W => Blk W (w.heap.size + 2) 154 #[.slice av m cv]) w3 hin3.bl; have HS := Lib.hid (hsurj w3.drew hin4.bl); have q0 : ∀ s, (ff s).cell? ⟨w.heap.size + 2, 0, none⟩ = some (.slice av m cv) := fun s => (hcl s).cell rfl
            have hpk : putOk (m : Int) 2 K.o = true := by
              unfold putOk
              rcases k7'.out with h | h <;> rw [h] <;> simp [topS] <;> omega
            have hpl := putS_length hpk; obtain ⟨wD, hwD⟩ : ∃ wD, w3.drew = wD := ⟨_, rfl⟩; rw [hwD] at hin4 HS; have hPp := pgput_any K wD n2 P3 hin4.ws q m 2 hpk (by rw [hpl]; decide) (by rw [hpl, show (2 : Int).toNat = 2 from rfl]; omega); obtain ⟨P4, hP4⟩ : ∃ P4, splice P3 q (putS m 2 K.o) = P4 := ⟨_, rfl⟩; rw [hP4] at hPp
            have hPh : apP (headP K.l K.o no E3) P3 = apP (rowP q K.o (sortE E3) m) P4 := by
              unfold headP; rw [hq'.out, Int.toNat_natCast, hEl'.out, ← hP4]
              rfl
            rw [hPh] at hPt'; have hb3' := Lib.hid hb3; have hin3' := Lib.hid hin3; have hqt' := Lib.hid hqt; have hin4' := Lib.hid hin4; have hcl' := Lib.hid hcl; have hsurj' := Lib.hid hsurj; have hpk' := Lib.hid hpk; have hpl' := Lib.hid hpl; have hPp' := Lib.hid hPp; have hP4' := Lib.hid hP4; have hPh' := Lib.hid hPh; clear hb3 hin3 hqt hin4 hcl hsurj hpk hpl hPp hP4 hPh
            go_wp2_with fail
            refine held_begin (S := fun W => ∃ s, W = ff s) (by kernel_rfl) 7 rfl ?_; rw [hwD]; refine held_take [0, 1, 2, 3, 4, 5] 1 (by kernel_rfl) (fun d _ _ _ _ h => by cases d <;> exact h) (by kernel_rfl) (by kernel_rfl) (by kernel_rfl) HS.out ?_; simp only [pickL, List.map_cons, List.map_nil, List.getD_cons_succ, List.getD_cons_zero]
            iterate 6 (go_big_quiet_step (fail))
            refine wpQuiet_nil ?_; clear q0 hwD; refine held_one 6 0 (by kernel_rfl) (by kernel_rfl) ?_; simp only [pickL, List.map_cons, List.map_nil, List.getD_cons_succ, List.getD_cons_zero]
            go_wp2_with fail
            refine hPp'.out.mono ?_; rintro e w4 ⟨rfl, hws4, hm4⟩; have hin5 := hin4'.out.turn hws4 hm4 hg1 hg2_ (Nat.le_refl _) (by omega) (by omega); have HS := Lib.hid (hsurj'.out _ hin5.bl); have v0 : w4.cell? ⟨w.heap.size + 2, 0, none⟩ = some (.slice av m cv) := hin5.bl.cell rfl; have hws4' := Lib.hid hws4; have hm4' := Lib.hid hm4; have hin5' := Lib.hid hin5; clear hws4 hm4 hin5
            go_wp2_with fail
            first | refine Mid.mk ⟨HS.out, ?_⟩ | refine Mid.mk ?_
            refine held_last (by kernel_rfl) ?_
            go_wp2_with fail
            clear v0
            go_loopw [128] (fun iv wr => ∃ (i2 : Nat), i2 ≤ m ∧ iv = .int .i64 i2 ∧ Hid (WIn K w wr n2 (apP (rowP q K.o (sortE E3) i2) P4) w.heap.size (w.heap.size + 1) (w.heap.size + 2) (dvA ta k tc sa j sc ba bn bc) (svA la ln lc sat slong snx) (.slice av m cv) (sortE E3))) (fun iv _ => m - (intOf iv).toNat)
            case atStart => exact ⟨0, by omega, rfl, hin5'⟩
            case round =>
              obtain ⟨i2, hi2, rfl, hW⟩ := hrel
              by_cases hlt : i2 < m
              · have hil : (i2 : Int) < (m : Int) := by omega
                have hw1 : IntKind.i64.wrap ((i2 : Int) + 1) = i2 + 1 := by rw [IntKind.wrap_i64]; omega
                have hw2 : IntKind.i64.wrap (12 * (i2 : Int)) = 12 * i2 := by rw [IntKind.wrap_i64]; omega
                have hw3 : IntKind.i64.wrap ((q : Int) + 2) = q + 2 := by rw [IntKind.wrap_i64]; omega
                have hw4 : IntKind.i64.wrap ((q : Int) + 2 + 12 * i2) = ((q + 2 + 12 * i2 : Nat) : Int) := by rw [IntKind.wrap_i64]; omega
                have hsl5 := (Sl.of_own hW.out.ow).1; obtain ⟨b6, o6, rfl, hblt6, fe⟩ := hsl5.elem entC_len (by decide) ent0 hlt; have hrs := rowP_step q K.o (sortE E3) i2
                have hxo : entOk ((sortE E3).getD i2 ent0) K.o = true := by
                  have h1 : i2 < (sortE E3).length := by rw [sortE_len, hEl'.out]; exact hlt
                  rw [getD_el h1]; exact hEo'.out _ ((List.mergeSort_perm _ _).subset (List.getElem_mem h1))
                obtain ⟨⟨x0, x1, x2, x3⟩, hx⟩ : ∃ x, (sortE E3).getD i2 ent0 = x := ⟨_, rfl⟩; rw [hx] at fe hrs hxo; have f0 := fe 0 _ rfl; have f1 := fe 1 _ rfl; have f2 := fe 2 _ rfl; have f3 := fe 3 _ rfl; simp only [Nat.add_zero] at f0 f1 f2 f3; clear fe; have hal := (Below.refl wr.heap.size wr).alloc (Nat.le_refl _) (.cells #[.int .i64 x0, .int .i64 x1, .int .i64 x2, .int .i64 x3] 55); have b8 := Blk.new wr 55 #[.int .i64 x0, .int .i64 x1, .int .i64 x2, .int .i64 x3]; have hin6 := hW.out.later hal; have hwr := hW.out.mv.size; obtain ⟨g8, hg8⟩ : ∃ g8, wr.heap.size = g8 := ⟨_, rfl⟩; obtain ⟨W6, hW6⟩ : ∃ W6, wr.alloc (.cells #[.int .i64 x0, .int .i64 x1, .int .i64 x2, .int .i64 x3] 55) = W6 := ⟨_, rfl⟩; rw [hW6] at b8 hin6 hal; rw [hg8] at b8; have hsl5' := Lib.hid hsl5; have hrs' := Lib.hid hrs; have hxo' := Lib.hid hxo; have hx' := Lib.hid hx; have hal' := Lib.hid hal; have b8' := Lib.hid b8; have hin6' := Lib.hid hin6; have hW6' := Lib.hid hW6; clear hsl5 hrs hxo hx hal b8 hin6 hW6
                go_wp2_with fail
                rw [hW6'.out]; clear f0 f1 f2 f3; have hCw : Blk W6 g8 55 #[.int .i64 x0, .int .i64 x1, .int .i64 x2, .int .i64 x3] ∧ Blk W6 K.gw 91 #[.slice (some ⟨K.gb, 0, none⟩) K.n K.n, .int .i64 K.o, .slice K.spa K.spn K.spc, .slice K.qa K.qn K.qc, .int .i64 n2] := ⟨b8'.out, hin6'.out.ws.blk⟩; have hqt6 := (Below.refl W6.heap.size W6).drew; obtain ⟨Ty, ff, hne, hcl, hsurj⟩ := pred_worlds (fun W => Blk W g8 55 #[.int .i64 x0, .int .i64 x1, .int .i64 x2, .int .i64 x3] ∧ Blk W K.gw 91 #[.slice (some ⟨K.gb, 0, none⟩) K.n K.n, .int .i64 K.o, .slice K.spa K.spn K.spc, .slice K.qa K.qn K.qc, .int .i64 n2]) W6 hCw; have hin7 := hin6'.out.later hqt6; have b88 := b8'.out.late hqt6; have HS := Lib.hid (hsurj W6.drew ⟨b88, hin7.ws.blk⟩); have q0 : ∀ s, (ff s).cell? ⟨g8, 0, none⟩ = some (.int .i64 x0) := fun s => (hcl s).1.cell rfl; have q1 : ∀ s, (ff s).cell? ⟨g8, 1, none⟩ = some (.int .i64 x1) := fun s => (hcl s).1.cell rfl; have q2 : ∀ s, (ff s).cell? ⟨g8, 2, none⟩ = some (.int .i64 x2) := fun s => (hcl s).1.cell rfl; have q3 : ∀ s, (ff s).cell? ⟨g8, 3, none⟩ = some (.int .i64 x3) := fun s => (hcl s).1.cell rfl; have q4 : ∀ s, (ff s).cell? ⟨K.gw, 1, none⟩ = some (.int .i64 K.o) := fun s => (hcl s).2.cell rfl; obtain ⟨wE, hwE⟩ : ∃ wE, W6.drew = wE := ⟨_, rfl⟩; rw [hwE] at hin7 b88 HS; have hEw := ewrite_any x0 x1 x2 x3 K.o wE hxo'.out; have hCw' := Lib.hid hCw; have hqt6' := Lib.hid hqt6; have hcl' := Lib.hid hcl; have hsurj' := Lib.hid hsurj; have hin7' := Lib.hid hin7; have b88' := Lib.hid b88; have hEw' := Lib.hid hEw; clear hCw hqt6 hcl hsurj hin7 b88 hEw; refine held_begin (S := fun W => ∃ s, W = ff s) (by kernel_rfl) 12 rfl ?_; rw [hwE]; refine held_take [0, 1, 2, 3, 4, 5] 6 (by kernel_rfl) (fun d _ _ _ _ h => by cases d <;> exact h) (by kernel_rfl) (by kernel_rfl) (by kernel_rfl) HS.out ?_; simp only [pickL, List.map_cons, List.map_nil, List.getD_cons_succ, List.getD_cons_zero]
                iterate 6 (go_big_quiet_step (fail))
                refine wpQuiet_nil ?_; refine held_one 6 5 (by kernel_rfl) (by kernel_rfl) ?_; simp only [pickL, List.map_cons, List.map_nil, List.getD_cons_succ, List.getD_cons_zero]
                go_wp2_with fail
                refine hEw'.out.mono ?_; rintro e w7 ⟨a7, c7, rfl, ho7, hb7⟩; have hin8 := hin7'.out.later hb7; have b89 := b88'.out.late hb7; have HS := Lib.hid (hsurj'.out _ ⟨b89, hin8.ws.blk⟩); have ho7' := Lib.hid ho7; have hb7' := Lib.hid hb7; have hin8' := Lib.hid hin8; have b89' := Lib.hid b89; clear ho7 hb7 hin8 b89
                go_wp2_with fail
                first | refine Mid.mk ⟨HS.out, ?_⟩ | refine Mid.mk ?_
                refine held_take [7, 8, 9, 10, 11] 0 (by kernel_rfl) (fun d _ _ _ _ h => by cases d <;> exact h) (by kernel_rfl) (by kernel_rfl) (by kernel_rfl) HS.out ?_; simp only [pickL, List.map_cons, List.map_nil, List.getD_cons_succ, List.getD_cons_zero]
                iterate 5 (go_big_quiet_step (fail))
                refine wpQuiet_nil ?_; refine held_last (by kernel_rfl) ?_; clear q0 q1 q2 q3 q4 hwE; have c0 : w7.cell? ⟨K.gw, 0, none⟩ = some (.slice (some ⟨K.gb, 0, none⟩) K.n K.n) := hin8'.out.ws.blk.cell rfl; have hlow := fun W => low_at (P := Tryz.prog) (T := 24) (E := 5) Tryz.underlying24 sizeB K.gb K.n (q + 2 + 12 * i2) (by omega) W; obtain ⟨w9, hr9, hws9, hm9, hbt9⟩ := page_copy hin8'.out.ws a7 12 c7 _ (Sl.of_own ho7'.out).1 (q + 2 + 12 * i2) (by decide) (by omega) 3; have hin9 := hin8'.out.turn hws9 hm9 hg1 hg2_ (Nat.le_refl _) (by omega) (by omega)
                have hin10 : WIn K w w9 n2 (apP (rowP q K.o (sortE E3) (i2 + 1)) P4) w.heap.size (w.heap.size + 1) (w.heap.size + 2) (dvA ta k tc sa j sc ba bn bc) (svA la ln lc sat slong snx) (.slice (some ⟨b6, o6, none⟩) m cv) (sortE E3) := by
                  rw [hrs'.out, apP_append]; exact hin9
                have hws9' := Lib.hid hws9; have hm9' := Lib.hid hm9; have hbt9' := Lib.hid hbt9; have hin9' := Lib.hid hin9; have hin10' := Lib.hid hin10; clear hws9 hm9 hbt9 hin9 hin10
                go_wp2_with (at_builtin; refine wpList_copy_run _ rfl _ _ _ _ rfl _ _ rfl rfl hr9 ?_)
                go_roundw
                case rel => exact ⟨i2 + 1, by omega, by go_num, hin10'⟩
                case measure => simp [intOf]; omega
              · obtain rfl : i2 = m := by omega
                go_wp2_with fail
                go_ret
                refine ⟨by rw [hq'.out]; rfl, ?_, hW.out.mv⟩; rw [hPt'.out, ← hnN'.out]; exact hW.out.ws
theorem pw_any (zs : List Shz) (K : Wc) : ∀ f, PW zs K f := by
  intro f
  induction f with
  | zero => intro w0 w no P d dv i _ _ _ _ _ hd; exact hd.elim
  | succ f ih => exact pw_step zs K f ih
end Go.Proofs.YtceclmpmpldmlaaGreat
