/- Chapter 21: whether shapes may be, in the program. -/
import Derived.WalkMore
import Derived.Test.YtceclmpmpldmlaaGreatCs08
namespace Go.Proofs.YtceclmpmpldmlaaGreat
open Go.RowKit Tt
set_option linter.unusedVariables false
set_option linter.unusedSimpArgs false

theorem shapesB_not {zs : List Shz} {i : Nat} (hi : i < zs.length) (h : shapeB zs.length i (zs.getD i shz0).2 = false) : shapesB (shps zs) = false := by
  unfold shapesB; rw [show (shps zs).length = zs.length by simp [shps]]
  have : (List.range zs.length).all (fun i => shapeB zs.length i ((shps zs).getD i shp0)) = false := by
    rw [List.all_eq_false]; exact ⟨i, List.mem_range.2 hi, by rw [shps_get hi, h]; simp⟩
  rw [this]; simp
theorem shapesB_all {zs : List Shz} (h1 : 1 ≤ zs.length) (h2 : zs.length ≤ 16) (h : ∀ i, i < zs.length → shapeB zs.length i (zs.getD i shz0).2 = true) : shapesB (shps zs) = true := by
  unfold shapesB; rw [show (shps zs).length = zs.length by simp [shps]]
  have : (List.range zs.length).all (fun i => shapeB zs.length i ((shps zs).getD i shp0)) = true := by
    rw [List.all_eq_true]; exact fun i hi => by rw [shps_get (List.mem_range.1 hi)]; exact h i (List.mem_range.1 hi)
  rw [this]; simp; omega
theorem shapeB_link {n i k : Nat} {s : Shp} (hk : k < s.1.length) (h : linkB n i s k = false) : shapeB n i s = false := by
  unfold shapeB; have : (List.range s.1.length).all (linkB n i s) = false := List.all_eq_false.2 ⟨k, List.mem_range.2 hk, by rw [h]; simp⟩; rw [this]; rfl
theorem shapeB_links {n i : Nat} {s : Shp} (h : ∀ k, k < s.1.length → linkB n i s k = true) : shapeB n i s = (nextB n i s && blobB s) := by
  unfold shapeB; have : (List.range s.1.length).all (linkB n i s) = true := List.all_eq_true.2 fun k hk => h k (List.mem_range.1 hk); rw [this]; rfl
set_option maxRecDepth 20000 in
set_option maxHeartbeats 8000000 in
theorem shapes_any (a : Option Addr) (n c : Nat) (zs : List Shz) (w : World) (h : ShR w a n c zs) : Calls Tryz.prog 47 #[.slice a n c] w fun e w' => e = .returned (.bool (shapesB (shps zs))) ∧ Below w.heap.size w w' := by
  have hzl := h.len; have hle := h.row.le; have hmx := h.row.max; obtain ⟨R, hR⟩ : ∃ R, shapesB (shps zs) = R := ⟨_, rfl⟩; rw [hR]; have hTG := fun x W => tag_any x W; have hLT := fun i x W => later_any a n c i x W
  by_cases h1 : n < 1
  · obtain rfl : R = false := by rw [← hR]; unfold shapesB; simp [shps]; omega
    have d1 : decide ((n : Int) < 1) = true := by simp; omega
    clear hR hTG hLT h
    go_enter Tryz.func47, Tryz.ntmps47
    go_wp2_with fail
    go_step3
    go_wp2_with fail
    first | go_ret | (rw [Exit.noGoto_ret]; go_ret)
    exact ⟨rfl, Below.refl _ _⟩
  have d1 : decide ((n : Int) < 1) = false := by simp; omega
  by_cases h2 : 16 < n
  · obtain rfl : R = false := by rw [← hR]; unfold shapesB; simp [shps]; omega
    have d2 : decide ((16 : Int) < n) = true := by simp; omega
    clear hR hTG hLT h
    go_enter Tryz.func47, Tryz.ntmps47
    go_wp2_with fail
    go_step3
    go_wp2_with fail
    first | go_ret | (rw [Exit.noGoto_ret]; go_ret)
    exact ⟨rfl, Below.refl _ _⟩
  have d2 : decide ((16 : Int) < n) = false := by simp; omega
  have h' := Lib.hid h; have hzl' := Lib.hid hzl; have hR' := Lib.hid hR; have hTG' := Lib.hid hTG; have hLT' := Lib.hid hLT; clear h hzl hR hTG hLT
  go_enter Tryz.func47, Tryz.ntmps47
  go_wp2_with fail
  go_step3
  go_wp2_with fail
  go_step3
  go_wp2_with fail
  clear d1 d2
  go_loopw [17] (fun iv wr => ∃ i : Nat, i ≤ n ∧ iv = .int .i64 i ∧ Hid (∀ j, j < i → shapeB n j (zs.getD j shz0).2 = true) ∧ Hid (Below w.heap.size w wr)) (fun iv _ => n - (intOf iv).toNat)
  case atStart => exact ⟨0, by omega, rfl, Lib.hid (fun j hj => by omega), Lib.hid (Below.refl _ _)⟩
  case round =>
    obtain ⟨i, hi, rfl, hall, hb⟩ := hrel
    by_cases hlt : i < n
    · have hrow := h'.out.row.mono hb.out
      have hlk := (h'.out.at hlt).mono hb.out; obtain ⟨b, o, rfl, hbb, f⟩ := hrow.elem shc_len (by decide) shz0 hlt; have hRn := fun hh => shapesB_not (zs := zs) (i := i) (by rw [hzl'.out]; exact hlt) hh; rw [hzl'.out] at hRn; obtain ⟨⟨⟨la, ln, lc⟩, ⟨links, sat, slong, snext⟩⟩, hz⟩ : ∃ z, zs.getD i shz0 = z := ⟨_, rfl⟩; rw [hz] at f hlk hRn; simp only at hlk hRn; have f0 := f 0 _ rfl; have f1 := f 1 _ rfl; have f2 := f 2 _ rfl; have f3 := f 3 _ rfl; simp only [Nat.add_zero] at f0 f1 f2 f3; clear f hrow; have hin : (i : Int) < n := by omega
      have hlm := hlk.max; have hll := hlk.le; have hlnl := hlk.flen lkc_len (by decide); have hlk' := Lib.hid hlk; have hRn' := Lib.hid hRn; have hz' := Lib.hid hz; have hlnl' := Lib.hid hlnl; clear hlk hRn hz hlnl
      go_upto_region 6 with fail
      have b6 := Blk.new wr 35 #[.slice la ln lc, .int .i64 sat, .int .i64 slong, .int .i64 snext]; have hb6 := (Below.refl wr.heap.size wr).alloc (Nat.le_refl _) (.cells #[.slice la ln lc, .int .i64 sat, .int .i64 slong, .int .i64 snext] 35); have hbw6 := hb.out.trans (hb6.mono hb.out.size); have hlk6 := hlk'.out.mono hb6; clear f0 f1 f2 f3
      generalize wr.alloc (.cells #[.slice la ln lc, .int .i64 sat, .int .i64 slong, .int .i64 snext] 35) = w6 at *
      generalize wr.heap.size = g6 at *
      have c0 : w6.cell? ⟨g6, 0, none⟩ = some (.slice la ln lc) := b6.cell rfl; have b6' := Lib.hid b6; have hb6' := Lib.hid hb6; have hbw6' := Lib.hid hbw6; have hlk6' := Lib.hid hlk6; clear b6 hb6 hbw6 hlk6
      go_wp2_with fail
      clear c0
      go_loopw [25] (fun kv wr2 => ∃ k : Nat, k ≤ ln ∧ kv = .int .i64 k ∧ Hid (∀ j, j < k → linkB n i (links, sat, slong, snext) j = true) ∧ Hid (Below w6.heap.size w6 wr2)) (fun kv _ => ln - (intOf kv).toNat)
      case atStart => exact ⟨0, by omega, rfl, Lib.hid (fun j hj => by omega), Lib.hid (Below.refl _ _)⟩
      case round =>
        obtain ⟨k, hk, rfl, hallk, hb2⟩ := hrel
        by_cases hkl : k < ln
        · obtain ⟨b2, o2, rfl, hbb2, fe⟩ := (hlk6'.out.mono hb2.out).elem lkc_len (by decide) (0, 0) hkl
          have e0 := fe 0 _ rfl; have e1 := fe 1 _ rfl; rw [Nat.add_zero] at e0; clear fe; obtain ⟨⟨tg, sh⟩, hts⟩ : ∃ z, links.getD k (0, 0) = z := ⟨_, rfl⟩; rw [hts] at e0 e1; simp only at e0 e1; have hlB : linkB n i (links, sat, slong, snext) k = (tagB tg && (decide (k = 0) || decide ((links.getD (k - 1) (0, 0)).1 < tg)) && lateB n i sh && !(decide (0 < sat) && (decide (tg = sat) || decide (tg = slong)))) := by unfold linkB; simp only [hts]
          have hTG9 := fun W => hTG'.out tg W; have hLT9 := fun W => hLT'.out i sh W
          generalize tagB tg = tb at *
          generalize lateB n i sh = lb at *
          have hRno : linkB n i (links, sat, slong, snext) k = false → R = false := fun hh => hR'.out ▸ hRn'.out (shapeB_link (by rw [hlnl'.out]; exact hkl) hh)
          have hall2 : linkB n i (links, sat, slong, snext) k = true → ∀ j, j < k + 1 → linkB n i (links, sat, slong, snext) j = true := fun hv j hj => by
            by_cases hjk : j = k
            · subst hjk; exact hv
            · exact hallk.out j (by omega)
          have hkn : (k : Int) < ln := by omega
          have hRno' := Lib.hid hRno; have hall2' := Lib.hid hall2; have hts' := Lib.hid hts; clear hRno hall2 hts
          go_upto_region 9 with fail
          have b9 := Blk.new wr 32 #[.int .i64 tg, .int .i64 sh]; have hb9x := (Below.refl wr.heap.size wr).alloc (Nat.le_refl _) (.cells #[.int .i64 tg, .int .i64 sh] 32); have hb96 := hb2.out.trans (hb9x.mono hb2.out.size); have hb9 := hbw6'.out.trans (hb96.mono hbw6'.out.size); have b69 := b6'.out.late hb96; have hlk9 := hlk6'.out.mono hb96; clear hb9x
          generalize wr.alloc (.cells #[.int .i64 tg, .int .i64 sh] 32) = w9 at *
          generalize wr.heap.size = g9 at *
          clear e0 e1 hbb2; obtain ⟨Ty, f, hne, hbel, hsurj⟩ := later_worlds w9; have HS := Lib.hid (hsurj _ ((Below.refl _ _).drew)); have q0 : ∀ s, (f s).cell? ⟨g9, 0, none⟩ = some (.int .i64 tg) := fun s => (Blk.late b9 (hbel s)).cell rfl; have q1 : ∀ s, (f s).cell? ⟨g9, 1, none⟩ = some (.int .i64 sh) := fun s => (Blk.late b9 (hbel s)).cell rfl; have q2 : ∀ s, (f s).cell? ⟨g6, 0, none⟩ = some (.slice (some ⟨b2, o2, none⟩) ln lc) := fun s => (Blk.late b69 (hbel s)).cell rfl; have q3 : ∀ s, (f s).cell? ⟨g6, 1, none⟩ = some (.int .i64 sat) := fun s => (Blk.late b69 (hbel s)).cell rfl; have q4 : ∀ s, (f s).cell? ⟨g6, 2, none⟩ = some (.int .i64 slong) := fun s => (Blk.late b69 (hbel s)).cell rfl; have b9' := Lib.hid b9; have b69' := Lib.hid b69; have hb9' := Lib.hid hb9; have hb96' := Lib.hid hb96; have hbel' := Lib.hid hbel; have hsurj' := Lib.hid hsurj; have hlB' := Lib.hid hlB; have hTG9' := Lib.hid hTG9; have hLT9' := Lib.hid hLT9; have hlk9' := Lib.hid hlk9; clear b9 b69 hb9 hb96 hbel hsurj hlB hTG9 hLT9 hlk9
          cases tb
          case false =>
            have hv : linkB n i (links, sat, slong, snext) k = false := by rw [hlB'.out]; simp
            refine wp_quiet_in f (by kernel_rfl) (by kernel_rfl) HS.out ?_
            iterate 47 (go_big_quiet_step (first | ((go_at_call 105; refine (hTG9'.out _).mono ?_; rintro e w3 ⟨rfl, hb3⟩; exact ⟨rfl, hsurj'.out _ ((hbel'.out _).trans (hb3.mono (hbel'.out _).size))⟩)) | (go_at_call 106; refine (hLT9'.out _).mono ?_; rintro e w3 ⟨rfl, rfl⟩; exact ⟨rfl, hsurj'.out _ (hbel'.out _)⟩)))
            refine wpQuiet_nil ?_; intro s; have hbs := hbel'.out s; have hbw := hb9'.out.trans (hbs.mono hb9'.out.size); obtain rfl := hRno'.out hv; clear hv; have hbw' := Lib.hid hbw; have hbs' := Lib.hid hbs; clear hbw hbs
            go_wp2_with fail
            first | go_ret | (rw [Exit.noGoto_ret]; go_ret)
            exact ⟨rfl, hbw'.out⟩
          case true =>
            by_cases hk0 : k = 0
            · have p1 : decide ((0 : Int) < (k : Int)) = false := by simp; omega
              have p2 : decide (0 < k) = false := by simp; omega
              replace hlB' := Lib.hid (hlB'.out.trans (by rw [decide_eq_true hk0]; rfl : _ = (true && true && lb && !(decide (0 < sat) && (decide (tg = sat) || decide (tg = slong))))))
              clear hk0
              cases lb
              case false =>
                have hv : linkB n i (links, sat, slong, snext) k = false := by rw [hlB'.out]; simp
                refine wp_quiet_in f (by kernel_rfl) (by kernel_rfl) HS.out ?_
                iterate 47 (go_big_quiet_step (first | ((go_at_call 105; refine (hTG9'.out _).mono ?_; rintro e w3 ⟨rfl, hb3⟩; exact ⟨rfl, hsurj'.out _ ((hbel'.out _).trans (hb3.mono (hbel'.out _).size))⟩)) | (go_at_call 106; refine (hLT9'.out _).mono ?_; rintro e w3 ⟨rfl, rfl⟩; exact ⟨rfl, hsurj'.out _ (hbel'.out _)⟩)))
                refine wpQuiet_nil ?_; intro s; have hbs := hbel'.out s; have hbw := hb9'.out.trans (hbs.mono hb9'.out.size); obtain rfl := hRno'.out hv; clear hv; have hbw' := Lib.hid hbw; have hbs' := Lib.hid hbs; clear hbw hbs
                go_wp2_with fail
                first | go_ret | (rw [Exit.noGoto_ret]; go_ret)
                exact ⟨rfl, hbw'.out⟩
              case true =>
                by_cases hs0 : 0 < sat
                · have d3 : decide (0 < sat) = true := by simp; omega
                  by_cases he1 : tg = sat
                  · have d4 : (tg == sat) = true := by simp [he1]
                    have hv : linkB n i (links, sat, slong, snext) k = false := by rw [hlB'.out, d3, decide_eq_true he1]; simp
                    clear he1; refine wp_quiet_in f (by kernel_rfl) (by kernel_rfl) HS.out ?_
                    iterate 47 (go_big_quiet_step (first | ((go_at_call 105; refine (hTG9'.out _).mono ?_; rintro e w3 ⟨rfl, hb3⟩; exact ⟨rfl, hsurj'.out _ ((hbel'.out _).trans (hb3.mono (hbel'.out _).size))⟩)) | (go_at_call 106; refine (hLT9'.out _).mono ?_; rintro e w3 ⟨rfl, rfl⟩; exact ⟨rfl, hsurj'.out _ (hbel'.out _)⟩)))
                    refine wpQuiet_nil ?_; intro s; have hbs := hbel'.out s; have hbw := hb9'.out.trans (hbs.mono hb9'.out.size); obtain rfl := hRno'.out hv; clear hv; have hbw' := Lib.hid hbw; have hbs' := Lib.hid hbs; clear hbw hbs
                    go_wp2_with fail
                    first | go_ret | (rw [Exit.noGoto_ret]; go_ret)
                    exact ⟨rfl, hbw'.out⟩
                  · have d4 : (tg == sat) = false := by simp [he1]
                    by_cases he2 : tg = slong
                    · have d5 : (tg == slong) = true := by simp [he2]
                      have hv : linkB n i (links, sat, slong, snext) k = false := by rw [hlB'.out, d3, decide_eq_true he2]; simp
                      clear he1 he2; refine wp_quiet_in f (by kernel_rfl) (by kernel_rfl) HS.out ?_
                      iterate 47 (go_big_quiet_step (first | ((go_at_call 105; refine (hTG9'.out _).mono ?_; rintro e w3 ⟨rfl, hb3⟩; exact ⟨rfl, hsurj'.out _ ((hbel'.out _).trans (hb3.mono (hbel'.out _).size))⟩)) | (go_at_call 106; refine (hLT9'.out _).mono ?_; rintro e w3 ⟨rfl, rfl⟩; exact ⟨rfl, hsurj'.out _ (hbel'.out _)⟩)))
                      refine wpQuiet_nil ?_; intro s; have hbs := hbel'.out s; have hbw := hb9'.out.trans (hbs.mono hb9'.out.size); obtain rfl := hRno'.out hv; clear hv; have hbw' := Lib.hid hbw; have hbs' := Lib.hid hbs; clear hbw hbs
                      go_wp2_with fail
                      first | go_ret | (rw [Exit.noGoto_ret]; go_ret)
                      exact ⟨rfl, hbw'.out⟩
                    · have d5 : (tg == slong) = false := by simp [he2]
                      have hv : linkB n i (links, sat, slong, snext) k = true := by rw [hlB'.out, d3, decide_eq_false he1, decide_eq_false he2]; simp
                      clear he1 he2; refine wp_quiet_in f (by kernel_rfl) (by kernel_rfl) HS.out ?_
                      iterate 47 (go_big_quiet_step (first | ((go_at_call 105; refine (hTG9'.out _).mono ?_; rintro e w3 ⟨rfl, hb3⟩; exact ⟨rfl, hsurj'.out _ ((hbel'.out _).trans (hb3.mono (hbel'.out _).size))⟩)) | (go_at_call 106; refine (hLT9'.out _).mono ?_; rintro e w3 ⟨rfl, rfl⟩; exact ⟨rfl, hsurj'.out _ (hbel'.out _)⟩)))
                      refine wpQuiet_nil ?_; intro s; have hbs := hbel'.out s; have hb6k := hb96'.out.trans (hbs.mono hb96'.out.size); have hbs' := Lib.hid hbs; have hb6k' := Lib.hid hb6k; have hv' := Lib.hid hv; clear hbs hb6k hv
                      go_wp2_with fail
                      go_roundw
                      case rel => exact ⟨k + 1, by omega, by go_num, Lib.hid (hall2'.out hv'.out), hb6k'⟩
                      case measure => simp [intOf]; omega
                · have d3 : decide (0 < sat) = false := by simp; omega
                  have hv : linkB n i (links, sat, slong, snext) k = true := by rw [hlB'.out, d3]; simp
                  refine wp_quiet_in f (by kernel_rfl) (by kernel_rfl) HS.out ?_
                  iterate 47 (go_big_quiet_step (first | ((go_at_call 105; refine (hTG9'.out _).mono ?_; rintro e w3 ⟨rfl, hb3⟩; exact ⟨rfl, hsurj'.out _ ((hbel'.out _).trans (hb3.mono (hbel'.out _).size))⟩)) | (go_at_call 106; refine (hLT9'.out _).mono ?_; rintro e w3 ⟨rfl, rfl⟩; exact ⟨rfl, hsurj'.out _ (hbel'.out _)⟩)))
                  refine wpQuiet_nil ?_; intro s; have hbs := hbel'.out s; have hb6k := hb96'.out.trans (hbs.mono hb96'.out.size); have hbs' := Lib.hid hbs; have hb6k' := Lib.hid hb6k; have hv' := Lib.hid hv; clear hbs hb6k hv
                  go_wp2_with fail
                  go_roundw
                  case rel => exact ⟨k + 1, by omega, by go_num, Lib.hid (hall2'.out hv'.out), hb6k'⟩
                  case measure => simp [intOf]; omega
            · obtain ⟨k', hk'⟩ : ∃ k', k' + 1 = k := ⟨k - 1, by omega⟩
              have p1 : decide ((0 : Int) < (k : Int)) = true := by simp; omega
              have p2 : decide (0 < k) = true := by simp; omega
              have wk : IntKind.i64.wrap ((k : Int) - 1) = (k' : Int) := by rw [IntKind.wrap_i64]; omega
              obtain ⟨b3, o3, he3, hbb3, fe⟩ := hlk9'.out.elem lkc_len (by decide) (0, 0) (i := k') (by omega); obtain ⟨rfl, rfl⟩ : b2 = b3 ∧ o2 = o3 := by simpa using he3
              clear he3; have e0 := fe 0 _ rfl; rw [Nat.add_zero] at e0; clear fe; rw [show k - 1 = k' by omega] at hlB'; obtain ⟨pv, hpv⟩ : ∃ z, (links.getD k' (0, 0)).1 = z := ⟨_, rfl⟩; rw [hpv] at hlB' e0; clear hpv; have q5 : ∀ s, (f s).cell? ⟨b2, o2 + k' * 2, none⟩ = some (.int .i64 pv) := fun s => late (hbel'.out s) hbb3 e0; have hkn2 : (k' : Int) < ln := by omega
              have hkn3 : k' < ln := by omega
              have hkn4 : (0 : Int) ≤ (k' : Int) := by omega
              clear e0
              by_cases hpt : tg ≤ pv
              · have p3 : decide (tg ≤ pv) = true := by simp; omega
                have hv : linkB n i (links, sat, slong, snext) k = false := by rw [hlB'.out, decide_eq_false hk0, decide_eq_false (show ¬ pv < tg by omega)]; simp
                clear hk0 hk'; refine wp_quiet_in f (by kernel_rfl) (by kernel_rfl) HS.out ?_
                iterate 47 (go_big_quiet_step (first | ((go_at_call 105; refine (hTG9'.out _).mono ?_; rintro e w3 ⟨rfl, hb3⟩; exact ⟨rfl, hsurj'.out _ ((hbel'.out _).trans (hb3.mono (hbel'.out _).size))⟩)) | (go_at_call 106; refine (hLT9'.out _).mono ?_; rintro e w3 ⟨rfl, rfl⟩; exact ⟨rfl, hsurj'.out _ (hbel'.out _)⟩)))
                refine wpQuiet_nil ?_; intro s; have hbs := hbel'.out s; have hbw := hb9'.out.trans (hbs.mono hb9'.out.size); obtain rfl := hRno'.out hv; clear hv; have hbw' := Lib.hid hbw; have hbs' := Lib.hid hbs; clear hbw hbs
                go_wp2_with fail
                first | go_ret | (rw [Exit.noGoto_ret]; go_ret)
                exact ⟨rfl, hbw'.out⟩
              · have p3 : decide (tg ≤ pv) = false := by simp; omega
                replace hlB' := Lib.hid (hlB'.out.trans (by rw [decide_eq_true (show pv < tg by omega), Bool.or_true] : _ = (true && true && lb && !(decide (0 < sat) && (decide (tg = sat) || decide (tg = slong))))))
                clear hk0 hk'
                cases lb
                case false =>
                  have hv : linkB n i (links, sat, slong, snext) k = false := by rw [hlB'.out]; simp
                  refine wp_quiet_in f (by kernel_rfl) (by kernel_rfl) HS.out ?_
                  iterate 47 (go_big_quiet_step (first | ((go_at_call 105; refine (hTG9'.out _).mono ?_; rintro e w3 ⟨rfl, hb3⟩; exact ⟨rfl, hsurj'.out _ ((hbel'.out _).trans (hb3.mono (hbel'.out _).size))⟩)) | (go_at_call 106; refine (hLT9'.out _).mono ?_; rintro e w3 ⟨rfl, rfl⟩; exact ⟨rfl, hsurj'.out _ (hbel'.out _)⟩)))
                  refine wpQuiet_nil ?_; intro s; have hbs := hbel'.out s; have hbw := hb9'.out.trans (hbs.mono hb9'.out.size); obtain rfl := hRno'.out hv; clear hv; have hbw' := Lib.hid hbw; have hbs' := Lib.hid hbs; clear hbw hbs
                  go_wp2_with fail
                  first | go_ret | (rw [Exit.noGoto_ret]; go_ret)
                  exact ⟨rfl, hbw'.out⟩
                case true =>
                  by_cases hs0 : 0 < sat
                  · have d3 : decide (0 < sat) = true := by simp; omega
                    by_cases he1 : tg = sat
                    · have d4 : (tg == sat) = true := by simp [he1]
                      have hv : linkB n i (links, sat, slong, snext) k = false := by rw [hlB'.out, d3, decide_eq_true he1]; simp
                      clear he1; refine wp_quiet_in f (by kernel_rfl) (by kernel_rfl) HS.out ?_
                      iterate 47 (go_big_quiet_step (first | ((go_at_call 105; refine (hTG9'.out _).mono ?_; rintro e w3 ⟨rfl, hb3⟩; exact ⟨rfl, hsurj'.out _ ((hbel'.out _).trans (hb3.mono (hbel'.out _).size))⟩)) | (go_at_call 106; refine (hLT9'.out _).mono ?_; rintro e w3 ⟨rfl, rfl⟩; exact ⟨rfl, hsurj'.out _ (hbel'.out _)⟩)))
                      refine wpQuiet_nil ?_; intro s; have hbs := hbel'.out s; have hbw := hb9'.out.trans (hbs.mono hb9'.out.size); obtain rfl := hRno'.out hv; clear hv; have hbw' := Lib.hid hbw; have hbs' := Lib.hid hbs; clear hbw hbs
                      go_wp2_with fail
                      first | go_ret | (rw [Exit.noGoto_ret]; go_ret)
                      exact ⟨rfl, hbw'.out⟩
                    · have d4 : (tg == sat) = false := by simp [he1]
                      by_cases he2 : tg = slong
                      · have d5 : (tg == slong) = true := by simp [he2]
                        have hv : linkB n i (links, sat, slong, snext) k = false := by rw [hlB'.out, d3, decide_eq_true he2]; simp
                        clear he1 he2; refine wp_quiet_in f (by kernel_rfl) (by kernel_rfl) HS.out ?_
                        iterate 47 (go_big_quiet_step (first | ((go_at_call 105; refine (hTG9'.out _).mono ?_; rintro e w3 ⟨rfl, hb3⟩; exact ⟨rfl, hsurj'.out _ ((hbel'.out _).trans (hb3.mono (hbel'.out _).size))⟩)) | (go_at_call 106; refine (hLT9'.out _).mono ?_; rintro e w3 ⟨rfl, rfl⟩; exact ⟨rfl, hsurj'.out _ (hbel'.out _)⟩)))
                        refine wpQuiet_nil ?_; intro s; have hbs := hbel'.out s; have hbw := hb9'.out.trans (hbs.mono hb9'.out.size); obtain rfl := hRno'.out hv; clear hv; have hbw' := Lib.hid hbw; have hbs' := Lib.hid hbs; clear hbw hbs
                        go_wp2_with fail
                        first | go_ret | (rw [Exit.noGoto_ret]; go_ret)
                        exact ⟨rfl, hbw'.out⟩
                      · have d5 : (tg == slong) = false := by simp [he2]
                        have hv : linkB n i (links, sat, slong, snext) k = true := by rw [hlB'.out, d3, decide_eq_false he1, decide_eq_false he2]; simp
                        clear he1 he2; refine wp_quiet_in f (by kernel_rfl) (by kernel_rfl) HS.out ?_
                        iterate 47 (go_big_quiet_step (first | ((go_at_call 105; refine (hTG9'.out _).mono ?_; rintro e w3 ⟨rfl, hb3⟩; exact ⟨rfl, hsurj'.out _ ((hbel'.out _).trans (hb3.mono (hbel'.out _).size))⟩)) | (go_at_call 106; refine (hLT9'.out _).mono ?_; rintro e w3 ⟨rfl, rfl⟩; exact ⟨rfl, hsurj'.out _ (hbel'.out _)⟩)))
                        refine wpQuiet_nil ?_; intro s; have hbs := hbel'.out s; have hb6k := hb96'.out.trans (hbs.mono hb96'.out.size); have hbs' := Lib.hid hbs; have hb6k' := Lib.hid hb6k; have hv' := Lib.hid hv; clear hbs hb6k hv
                        go_wp2_with fail
                        go_roundw
                        case rel => exact ⟨k + 1, by omega, by go_num, Lib.hid (hall2'.out hv'.out), hb6k'⟩
                        case measure => simp [intOf]; omega
                  · have d3 : decide (0 < sat) = false := by simp; omega
                    have hv : linkB n i (links, sat, slong, snext) k = true := by rw [hlB'.out, d3]; simp
                    refine wp_quiet_in f (by kernel_rfl) (by kernel_rfl) HS.out ?_
                    iterate 47 (go_big_quiet_step (first | ((go_at_call 105; refine (hTG9'.out _).mono ?_; rintro e w3 ⟨rfl, hb3⟩; exact ⟨rfl, hsurj'.out _ ((hbel'.out _).trans (hb3.mono (hbel'.out _).size))⟩)) | (go_at_call 106; refine (hLT9'.out _).mono ?_; rintro e w3 ⟨rfl, rfl⟩; exact ⟨rfl, hsurj'.out _ (hbel'.out _)⟩)))
                    refine wpQuiet_nil ?_; intro s; have hbs := hbel'.out s; have hb6k := hb96'.out.trans (hbs.mono hb96'.out.size); have hbs' := Lib.hid hbs; have hb6k' := Lib.hid hb6k; have hv' := Lib.hid hv; clear hbs hb6k hv
                    go_wp2_with fail
                    go_roundw
                    case rel => exact ⟨k + 1, by omega, by go_num, Lib.hid (hall2'.out hv'.out), hb6k'⟩
                    case measure => simp [intOf]; omega
        · obtain rfl : k = ln := by omega
          have hsB : shapeB n i (links, sat, slong, snext) = (nextB n i (links, sat, slong, snext) && blobB (links, sat, slong, snext)) := shapeB_links (fun j hj => hallk.out j (by rw [hlnl'.out] at hj; exact hj)); have hno : shapeB n i (links, sat, slong, snext) = false → R = false := fun hh => hR'.out ▸ hRn'.out hh
          have hall2 : shapeB n i (links, sat, slong, snext) = true → ∀ j, j < i + 1 → shapeB n j (zs.getD j shz0).2 = true := fun hv j hj => by
            by_cases hjk : j = i
            · subst hjk; rw [hz'.out]; exact hv
            · exact hall.out j (by omega)
          have b69 := b6'.out.late hb2.out; have hbw := hbw6'.out.trans (hb2.out.mono hbw6'.out.size); have c1 : wr.cell? ⟨g6, 1, none⟩ = some (.int .i64 sat) := b69.cell rfl; have c2 : wr.cell? ⟨g6, 2, none⟩ = some (.int .i64 slong) := b69.cell rfl; have c3 : wr.cell? ⟨g6, 3, none⟩ = some (.int .i64 snext) := b69.cell rfl; have hLT9 := fun W => hLT'.out i snext W; have hTG9 := fun W => hTG'.out slong W; have hnB : nextB n i (links, sat, slong, snext) = (decide (snext = -1) || lateB n i snext) := rfl; have hbB : blobB (links, sat, slong, snext) = ((decide (sat = 0) && decide (slong = 0)) || (decide (1 ≤ sat) && decide (sat < slong) && tagB slong)) := rfl
          generalize nextB n i (links, sat, slong, snext) = nb at *
          generalize blobB (links, sat, slong, snext) = bb at *
          generalize lateB n i snext = lb at *
          generalize tagB slong = tb at *
          clear b69; have hno' := Lib.hid hno; have hall2' := Lib.hid hall2; have hsB' := Lib.hid hsB; have hbw' := Lib.hid hbw; have hLT9' := Lib.hid hLT9; have hTG9' := Lib.hid hTG9; have hbB' := Lib.hid hbB; clear hno hall2 hsB hbw hLT9 hTG9 hbB
          by_cases hn1 : snext = -1
          · have d1 : (snext != -1) = false := by simp [hn1]
            obtain rfl : nb = true := by rw [hnB, decide_eq_true hn1]; rfl
            clear hnB hn1
            by_cases hz0 : sat = 0
            · have d2 : (sat == 0) = true := by simp [hz0]
              have d4 : decide (sat < 1) = true := by simp; omega
              by_cases hz1 : slong = 0
              · have d3 : (slong == 0) = true := by simp [hz1]
                have hv : shapeB n i (links, sat, slong, snext) = true := by rw [hsB'.out, hbB'.out, decide_eq_true hz0, decide_eq_true hz1]; rfl
                clear hz0 hz1
                go_wp2_with (first | (go_at_call 106; refine (hLT9'.out _).mono ?_; rintro e w3 ⟨rfl, rfl⟩) | (go_at_call 105; refine (hTG9'.out _).mono ?_; rintro e w3 ⟨rfl, hb3⟩; have HB3 := Lib.hid hb3; clear hb3))
                go_roundw
                case rel => exact ⟨i + 1, by omega, by go_num, Lib.hid (hall2'.out hv), by first | exact hbw' | exact Lib.hid (hbw'.out.trans (HB3.out.mono hbw'.out.size))⟩
                case measure => simp [intOf]; omega
              · have d3 : (slong == 0) = false := by simp [hz1]
                have hv : shapeB n i (links, sat, slong, snext) = false := by rw [hsB'.out, hbB'.out, decide_eq_false hz1, decide_eq_false (show ¬ 1 ≤ sat by omega)]; simp
                clear hz0 hz1; obtain rfl := hno'.out hv; clear hv
                go_wp2_with (first | (go_at_call 106; refine (hLT9'.out _).mono ?_; rintro e w3 ⟨rfl, rfl⟩) | (go_at_call 105; refine (hTG9'.out _).mono ?_; rintro e w3 ⟨rfl, hb3⟩; have HB3 := Lib.hid hb3; clear hb3))
                first | go_ret | (rw [Exit.noGoto_ret]; go_ret)
                first | exact ⟨rfl, hbw'.out⟩ | exact ⟨rfl, hbw'.out.trans (HB3.out.mono hbw'.out.size)⟩
            · have d2 : (sat == 0) = false := by simp [hz0]
              by_cases hz1 : sat < 1
              · have d4 : decide (sat < 1) = true := by simp; omega
                have hv : shapeB n i (links, sat, slong, snext) = false := by rw [hsB'.out, hbB'.out, decide_eq_false hz0, decide_eq_false (show ¬ 1 ≤ sat by omega)]; simp
                clear hz0 hz1; obtain rfl := hno'.out hv; clear hv
                go_wp2_with (first | (go_at_call 106; refine (hLT9'.out _).mono ?_; rintro e w3 ⟨rfl, rfl⟩) | (go_at_call 105; refine (hTG9'.out _).mono ?_; rintro e w3 ⟨rfl, hb3⟩; have HB3 := Lib.hid hb3; clear hb3))
                first | go_ret | (rw [Exit.noGoto_ret]; go_ret)
                first | exact ⟨rfl, hbw'.out⟩ | exact ⟨rfl, hbw'.out.trans (HB3.out.mono hbw'.out.size)⟩
              · have d4 : decide (sat < 1) = false := by simp; omega
                by_cases hz2 : slong ≤ sat
                · have d5 : decide (slong ≤ sat) = true := by simp; omega
                  have hv : shapeB n i (links, sat, slong, snext) = false := by rw [hsB'.out, hbB'.out, decide_eq_false hz0, decide_eq_false (show ¬ sat < slong by omega)]; simp
                  clear hz0 hz1 hz2; obtain rfl := hno'.out hv; clear hv
                  go_wp2_with (first | (go_at_call 106; refine (hLT9'.out _).mono ?_; rintro e w3 ⟨rfl, rfl⟩) | (go_at_call 105; refine (hTG9'.out _).mono ?_; rintro e w3 ⟨rfl, hb3⟩; have HB3 := Lib.hid hb3; clear hb3))
                  first | go_ret | (rw [Exit.noGoto_ret]; go_ret)
                  first | exact ⟨rfl, hbw'.out⟩ | exact ⟨rfl, hbw'.out.trans (HB3.out.mono hbw'.out.size)⟩
                · have d5 : decide (slong ≤ sat) = false := by simp; omega
                  cases tb
                  case false =>
                    have hv : shapeB n i (links, sat, slong, snext) = false := by rw [hsB'.out, hbB'.out, decide_eq_false hz0]; simp
                    clear hz0 hz1 hz2; obtain rfl := hno'.out hv; clear hv
                    go_wp2_with (first | (go_at_call 106; refine (hLT9'.out _).mono ?_; rintro e w3 ⟨rfl, rfl⟩) | (go_at_call 105; refine (hTG9'.out _).mono ?_; rintro e w3 ⟨rfl, hb3⟩; have HB3 := Lib.hid hb3; clear hb3))
                    first | go_ret | (rw [Exit.noGoto_ret]; go_ret)
                    first | exact ⟨rfl, hbw'.out⟩ | exact ⟨rfl, hbw'.out.trans (HB3.out.mono hbw'.out.size)⟩
                  case true =>
                    have hv : shapeB n i (links, sat, slong, snext) = true := by rw [hsB'.out, hbB'.out, decide_eq_true (show 1 ≤ sat by omega), decide_eq_true (show sat < slong by omega)]; simp
                    clear hz0 hz1 hz2
                    go_wp2_with (first | (go_at_call 106; refine (hLT9'.out _).mono ?_; rintro e w3 ⟨rfl, rfl⟩) | (go_at_call 105; refine (hTG9'.out _).mono ?_; rintro e w3 ⟨rfl, hb3⟩; have HB3 := Lib.hid hb3; clear hb3))
                    go_roundw
                    case rel => exact ⟨i + 1, by omega, by go_num, Lib.hid (hall2'.out hv), by first | exact hbw' | exact Lib.hid (hbw'.out.trans (HB3.out.mono hbw'.out.size))⟩
                    case measure => simp [intOf]; omega
          · have d1 : (snext != -1) = true := by simp [hn1]
            obtain rfl : nb = lb := by rw [hnB, decide_eq_false hn1]; rfl
            clear hnB hn1
            cases nb
            case false =>
              have hv : shapeB n i (links, sat, slong, snext) = false := by rw [hsB'.out]; rfl
              obtain rfl := hno'.out hv; clear hv
              go_wp2_with (first | (go_at_call 106; refine (hLT9'.out _).mono ?_; rintro e w3 ⟨rfl, rfl⟩) | (go_at_call 105; refine (hTG9'.out _).mono ?_; rintro e w3 ⟨rfl, hb3⟩; have HB3 := Lib.hid hb3; clear hb3))
              first | go_ret | (rw [Exit.noGoto_ret]; go_ret)
              first | exact ⟨rfl, hbw'.out⟩ | exact ⟨rfl, hbw'.out.trans (HB3.out.mono hbw'.out.size)⟩
            case true =>
              by_cases hz0 : sat = 0
              · have d2 : (sat == 0) = true := by simp [hz0]
                have d4 : decide (sat < 1) = true := by simp; omega
                by_cases hz1 : slong = 0
                · have d3 : (slong == 0) = true := by simp [hz1]
                  have hv : shapeB n i (links, sat, slong, snext) = true := by rw [hsB'.out, hbB'.out, decide_eq_true hz0, decide_eq_true hz1]; rfl
                  clear hz0 hz1
                  go_wp2_with (first | (go_at_call 106; refine (hLT9'.out _).mono ?_; rintro e w3 ⟨rfl, rfl⟩) | (go_at_call 105; refine (hTG9'.out _).mono ?_; rintro e w3 ⟨rfl, hb3⟩; have HB3 := Lib.hid hb3; clear hb3))
                  go_roundw
                  case rel => exact ⟨i + 1, by omega, by go_num, Lib.hid (hall2'.out hv), by first | exact hbw' | exact Lib.hid (hbw'.out.trans (HB3.out.mono hbw'.out.size))⟩
                  case measure => simp [intOf]; omega
                · have d3 : (slong == 0) = false := by simp [hz1]
                  have hv : shapeB n i (links, sat, slong, snext) = false := by rw [hsB'.out, hbB'.out, decide_eq_false hz1, decide_eq_false (show ¬ 1 ≤ sat by omega)]; simp
                  clear hz0 hz1; obtain rfl := hno'.out hv; clear hv
                  go_wp2_with (first | (go_at_call 106; refine (hLT9'.out _).mono ?_; rintro e w3 ⟨rfl, rfl⟩) | (go_at_call 105; refine (hTG9'.out _).mono ?_; rintro e w3 ⟨rfl, hb3⟩; have HB3 := Lib.hid hb3; clear hb3))
                  first | go_ret | (rw [Exit.noGoto_ret]; go_ret)
                  first | exact ⟨rfl, hbw'.out⟩ | exact ⟨rfl, hbw'.out.trans (HB3.out.mono hbw'.out.size)⟩
              · have d2 : (sat == 0) = false := by simp [hz0]
                by_cases hz1 : sat < 1
                · have d4 : decide (sat < 1) = true := by simp; omega
                  have hv : shapeB n i (links, sat, slong, snext) = false := by rw [hsB'.out, hbB'.out, decide_eq_false hz0, decide_eq_false (show ¬ 1 ≤ sat by omega)]; simp
                  clear hz0 hz1; obtain rfl := hno'.out hv; clear hv
                  go_wp2_with (first | (go_at_call 106; refine (hLT9'.out _).mono ?_; rintro e w3 ⟨rfl, rfl⟩) | (go_at_call 105; refine (hTG9'.out _).mono ?_; rintro e w3 ⟨rfl, hb3⟩; have HB3 := Lib.hid hb3; clear hb3))
                  first | go_ret | (rw [Exit.noGoto_ret]; go_ret)
                  first | exact ⟨rfl, hbw'.out⟩ | exact ⟨rfl, hbw'.out.trans (HB3.out.mono hbw'.out.size)⟩
                · have d4 : decide (sat < 1) = false := by simp; omega
                  by_cases hz2 : slong ≤ sat
                  · have d5 : decide (slong ≤ sat) = true := by simp; omega
                    have hv : shapeB n i (links, sat, slong, snext) = false := by rw [hsB'.out, hbB'.out, decide_eq_false hz0, decide_eq_false (show ¬ sat < slong by omega)]; simp
                    clear hz0 hz1 hz2; obtain rfl := hno'.out hv; clear hv
                    go_wp2_with (first | (go_at_call 106; refine (hLT9'.out _).mono ?_; rintro e w3 ⟨rfl, rfl⟩) | (go_at_call 105; refine (hTG9'.out _).mono ?_; rintro e w3 ⟨rfl, hb3⟩; have HB3 := Lib.hid hb3; clear hb3))
                    first | go_ret | (rw [Exit.noGoto_ret]; go_ret)
                    first | exact ⟨rfl, hbw'.out⟩ | exact ⟨rfl, hbw'.out.trans (HB3.out.mono hbw'.out.size)⟩
                  · have d5 : decide (slong ≤ sat) = false := by simp; omega
                    cases tb
                    case false =>
                      have hv : shapeB n i (links, sat, slong, snext) = false := by rw [hsB'.out, hbB'.out, decide_eq_false hz0]; simp
                      clear hz0 hz1 hz2; obtain rfl := hno'.out hv; clear hv
                      go_wp2_with (first | (go_at_call 106; refine (hLT9'.out _).mono ?_; rintro e w3 ⟨rfl, rfl⟩) | (go_at_call 105; refine (hTG9'.out _).mono ?_; rintro e w3 ⟨rfl, hb3⟩; have HB3 := Lib.hid hb3; clear hb3))
                      first | go_ret | (rw [Exit.noGoto_ret]; go_ret)
                      first | exact ⟨rfl, hbw'.out⟩ | exact ⟨rfl, hbw'.out.trans (HB3.out.mono hbw'.out.size)⟩
                    case true =>
                      have hv : shapeB n i (links, sat, slong, snext) = true := by rw [hsB'.out, hbB'.out, decide_eq_true (show 1 ≤ sat by omega), decide_eq_true (show sat < slong by omega)]; simp
                      clear hz0 hz1 hz2
                      go_wp2_with (first | (go_at_call 106; refine (hLT9'.out _).mono ?_; rintro e w3 ⟨rfl, rfl⟩) | (go_at_call 105; refine (hTG9'.out _).mono ?_; rintro e w3 ⟨rfl, hb3⟩; have HB3 := Lib.hid hb3; clear hb3))
                      go_roundw
                      case rel => exact ⟨i + 1, by omega, by go_num, Lib.hid (hall2'.out hv), by first | exact hbw' | exact Lib.hid (hbw'.out.trans (HB3.out.mono hbw'.out.size))⟩
                      case measure => simp [intOf]; omega
    · obtain rfl : i = n := by omega
      obtain rfl : R = true := by rw [← hR'.out]; exact shapesB_all (by rw [hzl'.out]; omega) (by rw [hzl'.out]; omega) (fun j hj => by rw [hzl'.out] at hj ⊢; exact hall.out j hj)
      go_wp2_with fail
      first | go_ret | (rw [Exit.noGoto_ret]; go_ret)
      exact ⟨rfl, hb.out⟩
end Go.Proofs.YtceclmpmpldmlaaGreat
