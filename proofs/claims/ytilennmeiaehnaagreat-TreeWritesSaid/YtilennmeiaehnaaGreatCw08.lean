/- Chapter 21: whether shapes may be, in the document. -/
import Derived.Test.YtilennmeiaehnaaGreatCw07
namespace Go.Proofs.YtilennmeiaehnaaGreat
open Go.RowKit Tt
set_option linter.unusedVariables false
set_option linter.unusedSimpArgs false

theorem rtag_any (x : Int) (w : World) : Calls Tryz.prog 97 #[.int .i64 x] w fun e w' => e = .returned (.bool (tagB x)) ∧ w = w' := by
  unfold tagB
  by_cases h : 0 ≤ x
  · simp only [h, decide_true, Bool.true_and]
    go_enter Tryz.func97, Tryz.ntmps97
    go_wp2
    go_ret
    exact ⟨rfl, rfl⟩
  · simp only [h, decide_false, Bool.false_and]
    go_enter Tryz.func97, Tryz.ntmps97
    go_wp2
    go_ret
    exact ⟨rfl, rfl⟩
set_option maxRecDepth 20000 in
set_option maxHeartbeats 8000000 in
theorem rshape_any (a : Option Addr) (n c i : Nat) (zs : List Shz) (w : World) (h : ShR w a n c zs) (hlt : i < n) : Calls Tryz.prog 53 #[.slice a n c, .int .i64 i] w fun e w' => e = .returned (.bool (shapeB n i (zs.getD i shz0).2)) ∧ Below w.heap.size w w' := by
  have hzl := h.len
  have hle := h.row.le
  have hmx := h.row.max
  have hTG := fun x W => rtag_any x W
  have hlk := h.at hlt
  obtain ⟨b, o, rfl, hbb, f⟩ := h.row.elem shc_len (by decide) shz0 hlt
  obtain ⟨⟨⟨la, ln, lc⟩, ⟨links, sat, slong, snext⟩⟩, hz⟩ : ∃ z, zs.getD i shz0 = z := ⟨_, rfl⟩
  rw [hz] at f hlk
  rw [hz]
  simp only at hlk
  simp only
  have f0 := f 0 _ rfl
  have f1 := f 1 _ rfl
  have f2 := f 2 _ rfl
  have f3 := f 3 _ rfl
  simp only [Nat.add_zero] at f0 f1 f2 f3
  clear f hz
  have hin : (i : Int) < n := by omega
  have hlm := hlk.max
  have hll := hlk.le
  have hlnl := hlk.flen lkc_len (by decide)
  obtain ⟨R, hR⟩ : ∃ R, shapeB n i (links, sat, slong, snext) = R := ⟨_, rfl⟩
  rw [hR]
  have hlB0 : ∀ k, k < ln → linkB n i (links, sat, slong, snext) k = false → R = false := fun k hk hh => hR ▸ shapeB_link (by rw [hlnl]; exact hk) hh
  have hRR : R = ((List.range ln).all (linkB n i (links, sat, slong, snext)) && nextB n i (links, sat, slong, snext) && blobB (links, sat, slong, snext)) := by rw [← hR, ← hlnl]; rfl
  have hnB : nextB n i (links, sat, slong, snext) = (decide (snext = -1) || (decide ((i : Int) < snext) && decide (snext < n))) := rfl
  have hbB : blobB (links, sat, slong, snext) = ((decide (sat = 0) && decide (slong = 0)) || (decide (1 ≤ sat) && decide (sat < slong) && tagB slong)) := rfl
  clear hR
  have h' := Lib.hid h
  have hzl' := Lib.hid hzl
  have hTG' := Lib.hid hTG
  have hlk' := Lib.hid hlk
  have hlnl' := Lib.hid hlnl
  have hlB0' := Lib.hid hlB0
  have hRR' := Lib.hid hRR
  clear h hzl hTG hlk hlnl hlB0 hRR
  go_enter Tryz.func53, Tryz.ntmps53
  go_upto_region 2 with fail
  have b6 := Blk.new w 50 #[.slice la ln lc, .int .i64 sat, .int .i64 slong, .int .i64 snext]
  have hb6 := (Below.refl w.heap.size w).alloc (Nat.le_refl _) (.cells #[.slice la ln lc, .int .i64 sat, .int .i64 slong, .int .i64 snext] 50)
  have hlk6 := hlk'.out.mono hb6
  clear f0 f1 f2 f3
  obtain ⟨w6, hw6⟩ : ∃ w6, w.alloc (.cells #[.slice la ln lc, .int .i64 sat, .int .i64 slong, .int .i64 snext] 50) = w6 := ⟨_, rfl⟩
  rw [hw6] at b6 hb6 hlk6
  try rw [hw6]
  clear hw6
  obtain ⟨g6, hg6⟩ : ∃ g, w.heap.size = g := ⟨_, rfl⟩
  have hgl : g6 < w6.heap.size := by rw [← hg6]; exact b6.lt
  have hg6' := Lib.hid hg6
  have c0 : w6.cell? ⟨g6, 0, none⟩ = some (.slice la ln lc) := by rw [← hg6]; exact b6.cell rfl
  have c1 : w6.cell? ⟨g6, 1, none⟩ = some (.int .i64 sat) := by rw [← hg6]; exact b6.cell rfl
  have c2 : w6.cell? ⟨g6, 2, none⟩ = some (.int .i64 slong) := by rw [← hg6]; exact b6.cell rfl
  have c3 : w6.cell? ⟨g6, 3, none⟩ = some (.int .i64 snext) := by rw [← hg6]; exact b6.cell rfl
  rw [hg6] at b6
  try rw [hg6]
  clear hg6
  have hTG9 := fun W => hTG'.out slong W
  have b6' := Lib.hid b6
  have hb6' := Lib.hid hb6
  have hlk6' := Lib.hid hlk6
  have hTG9' := Lib.hid hTG9
  clear b6 hb6 hlk6 hTG9
  -- the next one
  by_cases hn1 : nextB n i (links, sat, slong, snext) = true
  case neg =>
    simp only [Bool.not_eq_true] at hn1
    have hno : nextB n i (links, sat, slong, snext) = false → R = false := fun hh => by rw [hRR'.out, hh]; simp
    have hv := hn1
    rw [hnB] at hn1
    simp only [Bool.or_eq_false_iff, Bool.and_eq_false_iff, decide_eq_false_iff_not] at hn1
    have d1 : (snext != -1) = true := by simp [hn1.1]
    have hno' := Lib.hid hno
    clear hno
    by_cases hn2 : snext ≤ i
    · have d2 : decide (snext ≤ (i : Int)) = true := by simp; omega
      clear hn1 hn2
      obtain rfl := hno'.out hv
      clear hv
      go_wp2_with (go_at_call 97; refine (hTG9'.out _).mono ?_; rintro e w3 ⟨rfl, rfl⟩)
      go_ret
      exact ⟨rfl, hb6'.out⟩
    · have d2 : decide (snext ≤ (i : Int)) = false := by simp; omega
      have d3 : decide ((n : Int) ≤ snext) = true := by simp; omega
      clear hn1 hn2
      obtain rfl := hno'.out hv
      clear hv
      go_wp2_with (go_at_call 97; refine (hTG9'.out _).mono ?_; rintro e w3 ⟨rfl, rfl⟩)
      go_ret
      exact ⟨rfl, hb6'.out⟩
  -- the blob
  have hn2 := hn1
  rw [hnB] at hn2
  simp only [Bool.or_eq_true, Bool.and_eq_true, decide_eq_true_eq] at hn2
  have hRR2 : R = ((List.range ln).all (linkB n i (links, sat, slong, snext)) && blobB (links, sat, slong, snext)) := by rw [hRR'.out, hn1]; simp
  clear hRR' hnB hn1
  have hRR2' := Lib.hid hRR2
  clear hRR2
  go_cut [27] from 12 to 26 (fun v wx => v = .bool false ∧ wx = w6)
  case first =>
    by_cases hx : snext = -1
    · have d1 : (snext != -1) = false := by simp [hx]
      clear hn2 hx
      go_wp2_with fail
      go_meet
      exact ⟨rfl, rfl⟩
    · have d1 : (snext != -1) = true := by simp [hx]
      have d2 : decide (snext ≤ (i : Int)) = false := by simp; omega
      have d3 : decide ((n : Int) ≤ snext) = false := by simp; omega
      clear hn2 hx
      go_wp2_with fail
      go_meet
      exact ⟨rfl, rfl⟩
  case rest =>
    obtain ⟨rfl, rfl⟩ := hcut
    rename World => w6
    clear hn2
    go_upto_region 4 with fail
    by_cases hn1 : blobB (links, sat, slong, snext) = true
    case neg =>
      simp only [Bool.not_eq_true] at hn1
      have hno : blobB (links, sat, slong, snext) = false → R = false := fun hh => by rw [hRR2'.out, hh]; simp
      have hv := hn1
      rw [hbB] at hn1
      have hn1' : ¬ ((sat = 0 ∧ slong = 0) ∨ (1 ≤ sat ∧ sat < slong ∧ tagB slong = true)) := fun hh => by
        rw [Bool.eq_false_iff] at hn1
        exact hn1 (by rcases hh with ⟨h1, h2⟩ | ⟨h1, h2, h3⟩ <;> simp [*])
      generalize tagB slong = tb at *
      clear hn1 hbB
      have hno' := Lib.hid hno
      clear hno
      by_cases h0 : sat = 0
      · have d1 : (sat != 0) = false := by simp [h0]
        have d2 : (slong != 0) = true := by simp; intro h; exact hn1' (.inl ⟨h0, h⟩)
        have d3 : decide (sat < 1) = true := by simp; omega
        clear hn1' h0
        obtain rfl := hno'.out hv
        clear hv
        go_wp2_with (go_at_call 97; refine (hTG9'.out _).mono ?_; rintro e w3 ⟨rfl, rfl⟩)
        go_ret
        exact ⟨rfl, hb6'.out⟩
      · have d1 : (sat != 0) = true := by simp [h0]
        by_cases h1 : sat < 1
        · have d3 : decide (sat < 1) = true := by simp; omega
          clear hn1' h0
          obtain rfl := hno'.out hv
          clear hv
          go_wp2_with (go_at_call 97; refine (hTG9'.out _).mono ?_; rintro e w3 ⟨rfl, rfl⟩)
          go_ret
          exact ⟨rfl, hb6'.out⟩
        · have d3 : decide (sat < 1) = false := by simp; omega
          by_cases h2 : slong ≤ sat
          · have d4 : decide (slong ≤ sat) = true := by simp; omega
            clear hn1' h0
            obtain rfl := hno'.out hv
            clear hv
            go_wp2_with (go_at_call 97; refine (hTG9'.out _).mono ?_; rintro e w3 ⟨rfl, rfl⟩)
            go_ret
            exact ⟨rfl, hb6'.out⟩
          · have d4 : decide (slong ≤ sat) = false := by simp; omega
            obtain rfl : tb = false := by
              cases tb
              · rfl
              · exact absurd (.inr ⟨by omega, by omega, rfl⟩) hn1'
            clear hn1' h0
            obtain rfl := hno'.out hv
            clear hv
            go_wp2_with (go_at_call 97; refine (hTG9'.out _).mono ?_; rintro e w3 ⟨rfl, rfl⟩)
            go_ret
            exact ⟨rfl, hb6'.out⟩
    have hpos : ¬ sat = 0 → 0 < sat := fun h0 => by
      rw [hbB] at hn1
      simp at hn1
      omega
    have hb2 := hn1
    rw [hbB] at hb2
    have hRR3 : R = (List.range ln).all (linkB n i (links, sat, slong, snext)) := by rw [hRR2'.out, hn1]; simp
    clear hRR2' hbB hn1
    have hRR3' := Lib.hid hRR3
    have hpos' := Lib.hid hpos
    clear hRR3 hpos
    go_cut [53] from 28 to 52 (fun v wx => v = .bool false ∧ wx = w6)
    case first =>
      generalize tagB slong = tb at *
      by_cases h0 : sat = 0
      · have hl0 : slong = 0 := by simp at hb2; omega
        have d1 : (sat != 0) = false := by simp [h0]
        have d2 : (slong != 0) = false := by simp [hl0]
        clear hb2 h0 hl0
        go_wp2_with fail
        go_meet
        exact ⟨rfl, rfl⟩
      · have d1 : (sat != 0) = true := by simp [h0]
        have hx : 1 ≤ sat ∧ sat < slong ∧ tb = true := by simp [h0] at hb2; exact ⟨hb2.1.1, hb2.1.2, hb2.2⟩
        have d3 : decide (sat < 1) = false := by simp; omega
        have d4 : decide (slong ≤ sat) = false := by simp; omega
        obtain rfl := hx.2.2
        clear hb2 h0 hx
        go_wp2_with (go_at_call 97; refine (hTG9'.out _).mono ?_; rintro e w3 ⟨rfl, rfl⟩)
        go_meet
        exact ⟨rfl, rfl⟩
    case rest =>
      obtain ⟨rfl, rfl⟩ := hcut
      rename World => w6
      clear hb2
      clear c1 c2 c3
      go_wp2_with fail
      clear c0
      go_loopw [6] (fun kv wr2 => ∃ k : Nat, k ≤ ln ∧ kv = .int .i64 k ∧ Hid (∀ j, j < k → linkB n i (links, sat, slong, snext) j = true) ∧ Hid (Below w6.heap.size w6 wr2)) (fun kv _ => ln - (intOf kv).toNat)
      case atStart => exact ⟨0, by omega, rfl, Lib.hid (fun j hj => by omega), Lib.hid (Below.refl _ _)⟩
      case round =>
        obtain ⟨k, hk, rfl, hallk, hb2⟩ := hrel
        have c0 : wr.cell? ⟨g6, 0, none⟩ = some (.slice la ln lc) := (b6'.out.late hb2.out).cell rfl
        by_cases hkl : k < ln
        · obtain ⟨b2, o2, rfl, hbb2, fe⟩ := (hlk6'.out.mono hb2.out).elem lkc_len (by decide) (0, 0) hkl
          have e0 := fe 0 _ rfl
          have e1 := fe 1 _ rfl
          rw [Nat.add_zero] at e0
          clear fe
          obtain ⟨⟨tg, sh⟩, hts⟩ : ∃ z, links.getD k (0, 0) = z := ⟨_, rfl⟩
          rw [hts] at e0 e1
          simp only at e0 e1
          have hlB : linkB n i (links, sat, slong, snext) k = (tagB tg && (decide (k = 0) || decide ((links.getD (k - 1) (0, 0)).1 < tg)) && lateB n i sh && !(decide (0 < sat) && (decide (tg = sat) || decide (tg = slong)))) := by unfold linkB; simp only [hts]
          have hTGt := fun W => hTG'.out tg W
          generalize tagB tg = tb at *
          have hRno : linkB n i (links, sat, slong, snext) k = false → R = false := hlB0'.out k hkl
          have hall2 : linkB n i (links, sat, slong, snext) k = true → ∀ j, j < k + 1 → linkB n i (links, sat, slong, snext) j = true := fun hv j hj => by
            by_cases hjk : j = k
            · subst hjk; exact hv
            · exact hallk.out j (by omega)
          have hkn : (k : Int) < ln := by omega
          have hRno' := Lib.hid hRno
          have hall2' := Lib.hid hall2
          have hts' := Lib.hid hts
          clear hRno hall2 hts
          go_upto_region 10 with fail
          have b9 := Blk.new wr 47 #[.int .i64 tg, .int .i64 sh]
          have hb9x := (Below.refl wr.heap.size wr).alloc (Nat.le_refl _) (.cells #[.int .i64 tg, .int .i64 sh] 47)
          have hb96 := hb2.out.trans (hb9x.mono hb2.out.size)
          have hb9 := hb6'.out.trans (hb96.mono hb6'.out.size)
          have b69 := b6'.out.late hb96
          have hlk9 := hlk6'.out.mono hb96
          clear hb9x c0
          generalize wr.alloc (.cells #[.int .i64 tg, .int .i64 sh] 47) = w9 at *
          generalize wr.heap.size = g9 at *
          clear e0 e1 hbb2
          obtain ⟨Ty, f, hne, hbel, hsurj⟩ := later_worlds w9
          have HS := Lib.hid (hsurj _ ((Below.refl _ _).drew))
          have q0 : ∀ s, (f s).cell? ⟨g9, 0, none⟩ = some (.int .i64 tg) := fun s => (Blk.late b9 (hbel s)).cell rfl
          have q1 : ∀ s, (f s).cell? ⟨g9, 1, none⟩ = some (.int .i64 sh) := fun s => (Blk.late b9 (hbel s)).cell rfl
          have q2 : ∀ s, (f s).cell? ⟨g6, 0, none⟩ = some (.slice (some ⟨b2, o2, none⟩) ln lc) := fun s => (Blk.late b69 (hbel s)).cell rfl
          have hlt0 : lateB n i sh = (decide ((i : Int) < sh) && decide (sh < n)) := rfl
          have b9' := Lib.hid b9
          have b69' := Lib.hid b69
          have hb9' := Lib.hid hb9
          have hb96' := Lib.hid hb96
          have hbel' := Lib.hid hbel
          have hsurj' := Lib.hid hsurj
          have hlB' := Lib.hid hlB
          have hTGt' := Lib.hid hTGt
          have hlk9' := Lib.hid hlk9
          clear b9 b69 hb9 hb96 hbel hsurj hlB hTGt hlk9
          cases tb
          case false =>
            have hv : linkB n i (links, sat, slong, snext) k = false := by rw [hlB'.out]; simp
            refine wp_quiet_in f (by kernel_rfl) (by kernel_rfl) HS.out ?_
            iterate 33 (go_big_quiet_step ((go_at_call 97; refine (hTGt'.out _).mono ?_; rintro e w3 ⟨rfl, rfl⟩; exact ⟨rfl, hsurj'.out _ (hbel'.out _)⟩)))
            refine wpQuiet_nil ?_
            intro s
            have hbs := hbel'.out s
            have hbw := hb9'.out.trans (hbs.mono hb9'.out.size)
            obtain rfl := hRno'.out hv
            clear hv
            have hbw' := Lib.hid hbw
            have hbs' := Lib.hid hbs
            clear hbw hbs
            go_wp2_with fail
            go_ret
            exact ⟨rfl, hbw'.out⟩
          case true =>
            by_cases hs1 : sh ≤ i
            · have d1 : decide (sh ≤ (i : Int)) = true := by simp; omega
              have hv : linkB n i (links, sat, slong, snext) k = false := by rw [hlB'.out, hlt0, decide_eq_false (show ¬ (i : Int) < sh by omega)]; simp
              clear hlt0
              refine wp_quiet_in f (by kernel_rfl) (by kernel_rfl) HS.out ?_
              iterate 33 (go_big_quiet_step ((go_at_call 97; refine (hTGt'.out _).mono ?_; rintro e w3 ⟨rfl, rfl⟩; exact ⟨rfl, hsurj'.out _ (hbel'.out _)⟩)))
              refine wpQuiet_nil ?_
              intro s
              have hbs := hbel'.out s
              have hbw := hb9'.out.trans (hbs.mono hb9'.out.size)
              obtain rfl := hRno'.out hv
              clear hv
              have hbw' := Lib.hid hbw
              have hbs' := Lib.hid hbs
              clear hbw hbs
              go_wp2_with fail
              go_ret
              exact ⟨rfl, hbw'.out⟩
            · have d1 : decide (sh ≤ (i : Int)) = false := by simp; omega
              by_cases hs2 : (n : Int) ≤ sh
              · have d2 : decide ((n : Int) ≤ sh) = true := by simp; omega
                have hv : linkB n i (links, sat, slong, snext) k = false := by rw [hlB'.out, hlt0, decide_eq_false (show ¬ sh < n by omega)]; simp
                clear hlt0
                refine wp_quiet_in f (by kernel_rfl) (by kernel_rfl) HS.out ?_
                iterate 33 (go_big_quiet_step ((go_at_call 97; refine (hTGt'.out _).mono ?_; rintro e w3 ⟨rfl, rfl⟩; exact ⟨rfl, hsurj'.out _ (hbel'.out _)⟩)))
                refine wpQuiet_nil ?_
                intro s
                have hbs := hbel'.out s
                have hbw := hb9'.out.trans (hbs.mono hb9'.out.size)
                obtain rfl := hRno'.out hv
                clear hv
                have hbw' := Lib.hid hbw
                have hbs' := Lib.hid hbs
                clear hbw hbs
                go_wp2_with fail
                go_ret
                exact ⟨rfl, hbw'.out⟩
              · have d2 : decide ((n : Int) ≤ sh) = false := by simp; omega
                rw [show lateB n i sh = true by rw [hlt0]; simp; omega] at hlB'
                clear hlt0
                by_cases hk0 : k = 0
                · have p1 : decide ((0 : Int) < (k : Int)) = false := by simp; omega
                  have p2 : decide (0 < k) = false := by simp; omega
                  replace hlB' := Lib.hid (hlB'.out.trans (by rw [decide_eq_true hk0]; rfl : _ = (true && true && true && !(decide (0 < sat) && (decide (tg = sat) || decide (tg = slong))))))
                  clear hk0
                  refine wp_quiet_in f (by kernel_rfl) (by kernel_rfl) HS.out ?_
                  iterate 33 (go_big_quiet_step ((go_at_call 97; refine (hTGt'.out _).mono ?_; rintro e w3 ⟨rfl, rfl⟩; exact ⟨rfl, hsurj'.out _ (hbel'.out _)⟩)))
                  refine wpQuiet_nil ?_
                  intro s
                  have hbs := hbel'.out s
                  have hb6k := hb96'.out.trans (hbs.mono hb96'.out.size)
                  have hb9s := b9'.out.late hbs
                  have hb6s := b69'.out.late hbs
                  have hbws := hb6'.out.trans (hb6k.mono hb6'.out.size)
                  have t0 : (f s).cell? ⟨g9, 0, none⟩ = some (.int .i64 tg) := hb9s.cell rfl
                  have t1 : (f s).cell? ⟨g6, 1, none⟩ = some (.int .i64 sat) := hb6s.cell rfl
                  have t2 : (f s).cell? ⟨g6, 2, none⟩ = some (.int .i64 slong) := hb6s.cell rfl
                  clear hb9s hb6s
                  have hbs' := Lib.hid hbs
                  have hb6k' := Lib.hid hb6k
                  have hbws' := Lib.hid hbws
                  clear hbs hb6k hbws
                  by_cases hs0 : sat = 0
                  · have d1 : (sat != 0) = false := by simp [hs0]
                    have hv : linkB n i (links, sat, slong, snext) k = true := by rw [hlB'.out, decide_eq_false (show ¬ 0 < sat by omega)]; simp
                    clear hs0
                    go_wp2_with fail
                    go_roundw
                    case rel => exact ⟨k + 1, by omega, by go_num, Lib.hid (hall2'.out hv), hb6k'⟩
                    case measure => simp [intOf]; omega
                  · have d1 : (sat != 0) = true := by simp [hs0]
                    have hs1 : 0 < sat := hpos'.out hs0
                    by_cases he1 : tg = sat
                    · have d4 : (tg == sat) = true := by simp [he1]
                      have hv : linkB n i (links, sat, slong, snext) k = false := by rw [hlB'.out, decide_eq_true hs1, decide_eq_true he1]; simp
                      obtain rfl := hRno'.out hv
                      clear hv he1 hs0 hs1
                      go_wp2_with fail
                      go_ret
                      exact ⟨rfl, hbws'.out⟩
                    · have d4 : (tg == sat) = false := by simp [he1]
                      by_cases he2 : tg = slong
                      · have d5 : (tg == slong) = true := by simp [he2]
                        have hv : linkB n i (links, sat, slong, snext) k = false := by rw [hlB'.out, decide_eq_true hs1, decide_eq_true he2]; simp
                        obtain rfl := hRno'.out hv
                        clear hv he1 he2 hs0 hs1
                        go_wp2_with fail
                        go_ret
                        exact ⟨rfl, hbws'.out⟩
                      · have d5 : (tg == slong) = false := by simp [he2]
                        have hv : linkB n i (links, sat, slong, snext) k = true := by rw [hlB'.out, decide_eq_false he1, decide_eq_false he2]; simp
                        clear he1 he2 hs0 hs1
                        go_wp2_with fail
                        go_roundw
                        case rel => exact ⟨k + 1, by omega, by go_num, Lib.hid (hall2'.out hv), hb6k'⟩
                        case measure => simp [intOf]; omega
                · obtain ⟨k', hk'⟩ : ∃ k', k' + 1 = k := ⟨k - 1, by omega⟩
                  have p1 : decide ((0 : Int) < (k : Int)) = true := by simp; omega
                  have p2 : decide (0 < k) = true := by simp; omega
                  have wk : IntKind.i64.wrap ((k : Int) - 1) = (k' : Int) := by rw [IntKind.wrap_i64]; omega
                  obtain ⟨b3, o3, he3, hbb3, fe⟩ := hlk9'.out.elem lkc_len (by decide) (0, 0) (i := k') (by omega)
                  obtain ⟨rfl, rfl⟩ : b2 = b3 ∧ o2 = o3 := by simpa using he3
                  clear he3
                  have e0 := fe 0 _ rfl
                  rw [Nat.add_zero] at e0
                  clear fe
                  rw [show k - 1 = k' by omega] at hlB'
                  obtain ⟨pv, hpv⟩ : ∃ z, (links.getD k' (0, 0)).1 = z := ⟨_, rfl⟩
                  rw [hpv] at hlB' e0
                  clear hpv
                  have q5 : ∀ s, (f s).cell? ⟨b2, o2 + k' * 2, none⟩ = some (.int .i64 pv) := fun s => late (hbel'.out s) hbb3 e0
                  have hkn2 : (k' : Int) < ln := by omega
                  have hkn3 : k' < ln := by omega
                  have hkn4 : (0 : Int) ≤ (k' : Int) := by omega
                  clear e0
                  by_cases hpt : tg ≤ pv
                  · have p3 : decide (tg ≤ pv) = true := by simp; omega
                    have hv : linkB n i (links, sat, slong, snext) k = false := by rw [hlB'.out, decide_eq_false hk0, decide_eq_false (show ¬ pv < tg by omega)]; simp
                    clear hk0 hk'
                    refine wp_quiet_in f (by kernel_rfl) (by kernel_rfl) HS.out ?_
                    iterate 33 (go_big_quiet_step ((go_at_call 97; refine (hTGt'.out _).mono ?_; rintro e w3 ⟨rfl, rfl⟩; exact ⟨rfl, hsurj'.out _ (hbel'.out _)⟩)))
                    refine wpQuiet_nil ?_
                    intro s
                    have hbs := hbel'.out s
                    have hbw := hb9'.out.trans (hbs.mono hb9'.out.size)
                    obtain rfl := hRno'.out hv
                    clear hv
                    have hbw' := Lib.hid hbw
                    have hbs' := Lib.hid hbs
                    clear hbw hbs
                    go_wp2_with fail
                    go_ret
                    exact ⟨rfl, hbw'.out⟩
                  · have p3 : decide (tg ≤ pv) = false := by simp; omega
                    replace hlB' := Lib.hid (hlB'.out.trans (by rw [decide_eq_true (show pv < tg by omega), Bool.or_true] : _ = (true && true && true && !(decide (0 < sat) && (decide (tg = sat) || decide (tg = slong))))))
                    clear hk0 hk'
                    refine wp_quiet_in f (by kernel_rfl) (by kernel_rfl) HS.out ?_
                    iterate 33 (go_big_quiet_step ((go_at_call 97; refine (hTGt'.out _).mono ?_; rintro e w3 ⟨rfl, rfl⟩; exact ⟨rfl, hsurj'.out _ (hbel'.out _)⟩)))
                    refine wpQuiet_nil ?_
                    intro s
                    have hbs := hbel'.out s
                    have hb6k := hb96'.out.trans (hbs.mono hb96'.out.size)
                    have hb9s := b9'.out.late hbs
                    have hb6s := b69'.out.late hbs
                    have hbws := hb6'.out.trans (hb6k.mono hb6'.out.size)
                    have t0 : (f s).cell? ⟨g9, 0, none⟩ = some (.int .i64 tg) := hb9s.cell rfl
                    have t1 : (f s).cell? ⟨g6, 1, none⟩ = some (.int .i64 sat) := hb6s.cell rfl
                    have t2 : (f s).cell? ⟨g6, 2, none⟩ = some (.int .i64 slong) := hb6s.cell rfl
                    clear hb9s hb6s
                    have hbs' := Lib.hid hbs
                    have hb6k' := Lib.hid hb6k
                    have hbws' := Lib.hid hbws
                    clear hbs hb6k hbws
                    by_cases hs0 : sat = 0
                    · have d1 : (sat != 0) = false := by simp [hs0]
                      have hv : linkB n i (links, sat, slong, snext) k = true := by rw [hlB'.out, decide_eq_false (show ¬ 0 < sat by omega)]; simp
                      clear hs0
                      go_wp2_with fail
                      go_roundw
                      case rel => exact ⟨k + 1, by omega, by go_num, Lib.hid (hall2'.out hv), hb6k'⟩
                      case measure => simp [intOf]; omega
                    · have d1 : (sat != 0) = true := by simp [hs0]
                      have hs1 : 0 < sat := hpos'.out hs0
                      by_cases he1 : tg = sat
                      · have d4 : (tg == sat) = true := by simp [he1]
                        have hv : linkB n i (links, sat, slong, snext) k = false := by rw [hlB'.out, decide_eq_true hs1, decide_eq_true he1]; simp
                        obtain rfl := hRno'.out hv
                        clear hv he1 hs0 hs1
                        go_wp2_with fail
                        go_ret
                        exact ⟨rfl, hbws'.out⟩
                      · have d4 : (tg == sat) = false := by simp [he1]
                        by_cases he2 : tg = slong
                        · have d5 : (tg == slong) = true := by simp [he2]
                          have hv : linkB n i (links, sat, slong, snext) k = false := by rw [hlB'.out, decide_eq_true hs1, decide_eq_true he2]; simp
                          obtain rfl := hRno'.out hv
                          clear hv he1 he2 hs0 hs1
                          go_wp2_with fail
                          go_ret
                          exact ⟨rfl, hbws'.out⟩
                        · have d5 : (tg == slong) = false := by simp [he2]
                          have hv : linkB n i (links, sat, slong, snext) k = true := by rw [hlB'.out, decide_eq_false he1, decide_eq_false he2]; simp
                          clear he1 he2 hs0 hs1
                          go_wp2_with fail
                          go_roundw
                          case rel => exact ⟨k + 1, by omega, by go_num, Lib.hid (hall2'.out hv), hb6k'⟩
                          case measure => simp [intOf]; omega
        · obtain rfl : k = ln := by omega
          obtain rfl : R = true := by rw [hRR3'.out]; exact List.all_eq_true.2 fun j hj => hallk.out j (List.mem_range.1 hj)
          go_wp2_with fail
          go_ret
          exact ⟨rfl, hb6'.out.trans (hb2.out.mono hb6'.out.size)⟩
set_option maxRecDepth 20000 in
set_option maxHeartbeats 4000000 in
theorem rshapes_any (a : Option Addr) (n c : Nat) (zs : List Shz) (w : World) (h : ShR w a n c zs) : Calls Tryz.prog 19 #[.slice a n c] w fun e w' => e = .returned (.bool (shapesB (shps zs))) ∧ Below w.heap.size w w' := by
  have hzl := h.len
  have hle := h.row.le
  have hmx := h.row.max
  obtain ⟨R, hR⟩ : ∃ R, shapesB (shps zs) = R := ⟨_, rfl⟩
  rw [hR]
  have h' := Lib.hid h
  have hzl' := Lib.hid hzl
  have hR' := Lib.hid hR
  clear h hzl hR
  go_enter Tryz.func19, Tryz.ntmps19
  go_wp2_with fail
  go_loopw [3] (fun iv wr => ∃ i : Nat, i ≤ n ∧ iv = .int .i64 i ∧ Hid (∀ j, j < i → shapeB n j (zs.getD j shz0).2 = true) ∧ Hid (Below w.heap.size w wr)) (fun iv _ => n - (intOf iv).toNat)
  case atStart => exact ⟨0, by omega, rfl, Lib.hid (fun j hj => by omega), Lib.hid (Below.refl _ _)⟩
  case round =>
    obtain ⟨i, hi, rfl, hall, hb⟩ := hrel
    by_cases hlt : i < n
    · have HC := rshape_any a n c i zs wr (h'.out.mono hb.out) hlt
      have hno : shapeB n i (zs.getD i shz0).2 = false → R = false := fun hh => hR'.out ▸ (by have := shapesB_not (zs := zs) (i := i) (by rw [hzl'.out]; exact hlt); rw [hzl'.out] at this; exact this hh)
      have hall2 : shapeB n i (zs.getD i shz0).2 = true → ∀ j, j < i + 1 → shapeB n j (zs.getD j shz0).2 = true := fun hv j hj => by
        by_cases hjk : j = i
        · subst hjk; exact hv
        · exact hall.out j (by omega)
      generalize shapeB n i (zs.getD i shz0).2 = sb at *
      have HC' := Lib.hid HC
      have hno' := Lib.hid hno
      have hall2' := Lib.hid hall2
      clear HC hno hall2
      cases sb
      · obtain rfl := hno'.out rfl
        go_wp2_with (go_at_call 53; refine (HC'.out).mono ?_; rintro e w3 ⟨rfl, hb3⟩; have HB3 := Lib.hid (hb.out.trans (hb3.mono hb.out.size)); clear hb3)
        go_ret
        exact ⟨rfl, HB3.out⟩
      · go_wp2_with (go_at_call 53; refine (HC'.out).mono ?_; rintro e w3 ⟨rfl, hb3⟩; have HB3 := Lib.hid (hb.out.trans (hb3.mono hb.out.size)); clear hb3)
        go_roundw
        case rel => exact ⟨i + 1, by omega, by go_num, Lib.hid (hall2'.out trivial), HB3⟩
        case measure => simp [intOf]; omega
    · obtain rfl : i = n := by omega
      have hRv : R = (decide (1 ≤ i) && decide (i ≤ 16)) := by
        rw [← hR'.out]
        unfold shapesB
        rw [show (shps zs).length = i by simp [shps, hzl'.out]]
        have : (List.range i).all (fun j => shapeB i j ((shps zs).getD j shp0)) = true := by
          rw [List.all_eq_true]
          exact fun j hj => by rw [shps_get (by rw [hzl'.out]; exact List.mem_range.1 hj)]; exact hall.out j (List.mem_range.1 hj)
        rw [this, Bool.and_true]
      subst hRv
      by_cases h1 : 1 ≤ i
      · have d1 : decide ((1 : Int) ≤ i) = true := by simp; omega
        go_wp2_with fail
        go_ret
        exact ⟨by simp [h1]; omega, hb.out⟩
      · have d1 : decide ((1 : Int) ≤ i) = false := by simp; omega
        go_wp2_with fail
        go_ret
        exact ⟨by simp [h1], hb.out⟩
end Go.Proofs.YtilennmeiaehnaaGreat
