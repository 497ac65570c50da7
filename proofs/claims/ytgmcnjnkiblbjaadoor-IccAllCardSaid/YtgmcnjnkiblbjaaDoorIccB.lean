import Derived.Test.YtgmcnjnkiblbjaaDoorIccA
import Derived.Test.YtgmcnjnkiblbjaaDoorIccP
namespace Go.Proofs.YtgmcnjnkiblbjaaDoor
open Go.RowKit Tt
set_option linter.unusedVariables false

theorem size5 : ∀ w, (Go.sizeOf 5).run Tryd.prog w = .ok 1 w := fun w => by kernel_rfl

set_option maxHeartbeats 400000 in
theorem equal_any (a a' : Option Addr) (n n' c c' : Nat) (x y : List Int) (w : World) (hx : Sl w a n c 1 (ints .u8 x)) (hy : Sl w a' n' c' 1 (ints .u8 y)) (bx : Byt x) (by_ : Byt y) :
    Calls Tryd.prog 31 #[.slice a n c, .slice a' n' c'] w fun e w' => e = .returned (.bool (x == y)) ∧ w = w' := by
  have e1 := conv_run (P := Tryd.prog) hx 22 5 9 Tryd.underlying22 Tryd.underlying5 Tryd.underlying9
  have e2 := conv_run (P := Tryd.prog) hy 22 5 9 Tryd.underlying22 Tryd.underlying5 Tryd.underlying9
  have e3 := str_beq bx by_
  go_enter Tryd.func31, Tryd.ntmps31
  go_wp2
  go_ret
  exact ⟨ret_bool rfl, rfl⟩

set_option maxHeartbeats 400000 in
theorem hasprefix_any (a a' : Option Addr) (n n' c c' : Nat) (x y : List Int) (w : World) (hx : Sl w a n c 1 (ints .u8 x)) (hy : Sl w a' n' c' 1 (ints .u8 y)) (bx : Byt x) (by_ : Byt y) :
    Calls Tryd.prog 26 #[.slice a n c, .slice a' n' c'] w fun e w' => e = .returned (.bool (x.take y.length == y)) ∧ w = w' := by
  have hxl := hx.ilen
  have hyl := hy.ilen
  have hn := hx.le
  have hm := hx.max
  have hn' := hy.le
  have hm' := hy.max
  by_cases h : n < n'
  · have e : (x.take y.length == y) = false := by
      rw [beq_eq_false_iff_ne]
      intro h2
      have := congrArg List.length h2
      rw [List.length_take] at this
      omega
    have E := Lib.hid e
    clear hxl hyl e
    go_enter Tryd.func26, Tryd.ntmps26
    go_wp2
    go_ret
    exact ⟨ret_bool E.out.symm, rfl⟩
  · obtain ⟨a2, hr, hs⟩ := cut_h (P := Tryd.prog) Tryd.underlying22 size5 hx (n' : Int) (by omega) (by omega) n' (by omega)
    have hs2 : Sl w a2 n' c 1 (ints .u8 (x.take y.length)) := by
      rw [Nat.mul_one] at hs
      rw [hyl, ints, List.map_take]
      exact hs
    have hc := equal_any _ _ _ _ _ _ _ _ w hs2 hy (bx.take _) by_
    have Hc := Lib.hid hc
    clear hc hs hs2 hxl hyl
    go_enter Tryd.func26, Tryd.ntmps26
    go_wp2_with (go_at_call 31; refine Hc.out.mono ?_; rintro e w' ⟨rfl, rfl⟩)
    go_ret
    exact ⟨ret_bool rfl, rfl⟩

set_option maxHeartbeats 400000 in
theorem is_any (a : Option Addr) (n c : Nat) (x : List Int) (w : World) (hx : Sl w a n c 1 (ints .u8 x)) (bx : Byt x) :
    Calls Tryd.prog 13 #[.slice a n c] w fun e w' => e = .returned (.bool (isB x)) ∧ Below w.heap.size w w' := by
  have kc := fun (w : World) (C : Array Value) (n c : Nat) => Lib.run_convert_bytes_const (P := Tryd.prog) w 22 5 C n c Tryd.underlying22 Tryd.underlying5
  go_enter Tryd.func13, Tryd.ntmps13
  go_wp2_with (go_at_call 26; refine (hasprefix_any _ _ _ _ _ _ _ _ _ (sl_alloc hx _) (Sl.new w 5 1 12 _ (12, 13) (by decide) rfl) bx byt_hd).mono ?_; rintro e w' ⟨rfl, rfl⟩)
  go_ret
  exact ⟨ret_bool rfl, (Below.refl _ _).alloc (Nat.le_refl _) _⟩

set_option maxHeartbeats 400000 in
theorem head_any (w : World) :
    Calls Tryd.prog 25 #[] w fun e w' => ∃ a, e = .returned (.slice a 12 12) ∧ w'.ownsRow w.heap.size 5 1 (.slice a 12 12) 12 (ints .u8 hd) ∧ Below w.heap.size w w' := by
  go_enter Tryd.func25, Tryd.ntmps25
  go_wp2
  go_ret
  exact ⟨_, ret_eq rfl, own_new w w.heap.size 5 1 12 _ (Nat.le_refl _) (by unfold maxLen; omega) rfl, (Below.refl _ _).alloc (Nat.le_refl _) _⟩

set_option maxHeartbeats 400000 in
theorem ris_any (a : Option Addr) (n c : Nat) (x : List Int) (w : World) (hx : Sl w a n c 1 (ints .u8 x)) :
    Calls Tryd.prog 14 #[.slice a n c] w fun e w' => e = .returned (.bool (isB x)) ∧ Below w.heap.size w w' := by
  have hxl := hx.ilen
  have hn := hx.le
  have hm := hx.max
  have Hx := Lib.hid hxl
  clear hxl
  go_enter Tryd.func14, Tryd.ntmps14
  go_wp2_with (go_at_call 25; refine (head_any _).mono ?_; rintro e w1 ⟨ha, rfl, ho, hb⟩)
  obtain ⟨hs, _⟩ := Sl.of_own ho
  have hx1 := hx.mono hb
  clear ho
  go_loopw [2, 4] (fun r i wr => ∃ k : Nat, k ≤ 12 ∧ k ≤ n ∧ i = .int .i64 k ∧ (x.take k = hd.take k) ∧ r = .bool false ∧ Qt w1 wr) (fun _ i _ => 12 - (intOf i).toNat)
  case atStart => exact ⟨0, by omega, by omega, rfl, rfl, rfl, Qt.refl _⟩
  case round =>
    obtain ⟨k, hk, hkn, rfl, htk, rfl, hq⟩ := hrel
    have Htk := Lib.hid htk
    clear htk
    by_cases hlt : k < 12
    · obtain ⟨b', o', rfl, hby, cy⟩ := (hs.qt hq).at hlt
      have c2 := cy k _ (ints_get (by simpa [hd] using hlt))
      clear cy
      by_cases hkl : k < n
      · have hg : decide ((n : Int) ≤ k) = false := by simp; omega
        obtain ⟨b, o, rfl, hbx, cx⟩ := (hx1.qt hq).at hkl
        have c1 := cx k _ (ints_get (by rw [Hx.out]; exact hkl))
        clear cx
        by_cases he : x.getD k 0 = hd.getD k 0
        · have hb2 : (x.getD k 0 != hd.getD k 0) = false := by rw [he]; simp
          have He := Lib.hid he
          clear he
          generalize hu : x.getD k 0 = u at *
          generalize hv : hd.getD k 0 = v at *
          have Hu := Lib.hid hu
          have Hv := Lib.hid hv
          clear hu hv
          go_wp2
          go_quiet (fail)
          go_wp2
          go_roundw
          case rel => exact ⟨k + 1, by omega, by omega, by go_num, step_take hlt (by rw [Hx.out]; exact hkl) Htk.out (Hu.out.trans (He.out.trans Hv.out.symm)), rfl, hq.step _⟩
          case measure => simp [intOf]; omega
        · have hb2 : (x.getD k 0 != hd.getD k 0) = true := by simpa using he
          have He := Lib.hid he
          clear he
          generalize hu : x.getD k 0 = u at *
          generalize hv : hd.getD k 0 = v at *
          have Hu := Lib.hid hu
          have Hv := Lib.hid hv
          clear hu hv
          go_wp2
          go_quiet (fail)
          go_wp2
          go_ret
          exact ⟨ret_bool (isB_no hlt (.inr (fun h => He.out (Hu.out.symm.trans (h.trans Hv.out))))).symm, hb.trans ((hq.step _).below _)⟩
      · have hg : decide ((n : Int) ≤ k) = true := by simp; omega
        go_wp2
        go_quiet (fail)
        go_wp2
        go_ret
        exact ⟨ret_bool (isB_no hlt (.inl (by rw [Hx.out]; omega))).symm, hb.trans ((hq.step _).below _)⟩
    · go_wp2
      go_ret
      exact ⟨ret_bool (isB_yes (by rw [show (12 : Nat) = k by omega]; exact Htk.out)).symm, hb.trans (hq.below _)⟩

set_option maxHeartbeats 400000 in
theorem right_any (a : Option Addr) (n c : Nat) (x : List Int) (i all : Int) (w : World) (hx : Sl w a n c 1 (ints .u8 x)) (bx : Byt x) (hn : 14 ≤ n) (hi : 0 ≤ i) (hi2 : i ≤ 1000000) (ha : 0 ≤ all) (ha2 : all ≤ 1000000) :
    Calls Tryd.prog 27 #[.slice a n c, .int .i64 i, .int .i64 all] w fun e w' => e = .returned (.bool (rightB x i all)) ∧ Below w.heap.size w w' := by
  have hxl := hx.ilen
  have hm := hx.max
  have hle := hx.le
  obtain ⟨b, o, rfl, hbx, cx⟩ := hx.at (show 0 < n by omega)
  have c1 := cx 12 _ (ints_get (by omega))
  have c2 := cx 13 _ (ints_get (by omega))
  have g1 := bx.get 12
  have g2 := bx.get 13
  have hr : rightB x i all = (isB x && (x.getD 12 0 == i + 1) && (x.getD 13 0 == all) && (decide (n = 65533) || (decide (i = all - 1) && decide (15 ≤ n) && decide (n < 65533)))) := by unfold rightB; rw [hxl]
  have Hr := Lib.hid hr
  have hI := is_any (some ⟨b, o, none⟩) n c x w hx bx
  have HI := Lib.hid hI
  have Hx := Lib.hid hxl
  clear hr hI hxl cx
  generalize isB x = q at *
  generalize x.getD 12 0 = u at *
  generalize x.getD 13 0 = v at *
  have late : ∀ {w1 : World} {p : Addr} {z : Value}, Below w.heap.size w w1 → p.block < w.heap.size → w.cell? p = some z → w1.cell? p = some z := fun h hp hz => (h.cell hp).trans hz
  cases q
  · go_enter Tryd.func27, Tryd.ntmps27
    go_wp2_with (go_at_call 13; refine HI.out.mono ?_; rintro e w1 ⟨rfl, hb⟩)
    go_ret
    exact ⟨ret_bool (by rw [Hr.out]; simp), hb⟩
  · by_cases h1 : u = i + 1
    · have t1 : (u != i + 1) = false := by simp [h1]
      have H1 := Lib.hid h1
      clear h1
      by_cases h2 : v = all
      · have t2 : (v != all) = false := by simp [h2]
        have H2 := Lib.hid h2
        clear h2
        by_cases h3 : n = 65533
        · have t3 : ((n : Int) - 14 == 65519) = true := by simp; omega
          have H3 := Lib.hid h3
          clear h3
          go_enter Tryd.func27, Tryd.ntmps27
          go_wp2_with (go_at_call 13; refine HI.out.mono ?_; rintro e w1 ⟨rfl, hb⟩; have k1 := late hb hbx c1; have k2 := late hb hbx c2)
          go_ret
          exact ⟨ret_bool (by rw [Hr.out]; first | (simp [H1.out, H2.out, H3.out]; done) | (simp [H1.out, H2.out, H3.out]; omega)), hb⟩
        · have t3 : ((n : Int) - 14 == 65519) = false := by simp; omega
          by_cases h4 : i = all - 1
          · have t4 : (i == all - 1) = true := by simp [h4]
            have H4 := Lib.hid h4
            clear h4
            by_cases h5 : 15 ≤ n
            · by_cases h6 : n < 65533
              · go_enter Tryd.func27, Tryd.ntmps27
                go_wp2_with (go_at_call 13; refine HI.out.mono ?_; rintro e w1 ⟨rfl, hb⟩; have k1 := late hb hbx c1; have k2 := late hb hbx c2)
                go_ret
                exact ⟨ret_bool (by rw [Hr.out]; first | (simp [H1.out, H2.out, H4.out, h3, h5, h6]; done) | (simp [H1.out, H2.out, H4.out, h3, h5, h6]; omega)), hb⟩
              · go_enter Tryd.func27, Tryd.ntmps27
                go_wp2_with (go_at_call 13; refine HI.out.mono ?_; rintro e w1 ⟨rfl, hb⟩; have k1 := late hb hbx c1; have k2 := late hb hbx c2)
                go_ret
                exact ⟨ret_bool (by rw [Hr.out]; first | (simp [H1.out, H2.out, H4.out, h3, h5, h6]; done) | (simp [H1.out, H2.out, H4.out, h3, h5, h6]; omega)), hb⟩
            · go_enter Tryd.func27, Tryd.ntmps27
              go_wp2_with (go_at_call 13; refine HI.out.mono ?_; rintro e w1 ⟨rfl, hb⟩; have k1 := late hb hbx c1; have k2 := late hb hbx c2)
              go_ret
              exact ⟨ret_bool (by rw [Hr.out]; first | (simp [H1.out, H2.out, H4.out, h3, h5]; done) | (simp [H1.out, H2.out, H4.out, h3, h5]; omega)), hb⟩
          · have t4 : (i == all - 1) = false := by simp [h4]
            go_enter Tryd.func27, Tryd.ntmps27
            go_wp2_with (go_at_call 13; refine HI.out.mono ?_; rintro e w1 ⟨rfl, hb⟩; have k1 := late hb hbx c1; have k2 := late hb hbx c2)
            go_ret
            exact ⟨ret_bool (by rw [Hr.out]; first | (simp [H1.out, H2.out, h3, h4]; done) | (simp [H1.out, H2.out, h3, h4]; omega)), hb⟩
      · have t2 : (v != all) = true := by simpa using h2
        have H2 := Lib.hid h2
        clear h2
        go_enter Tryd.func27, Tryd.ntmps27
        go_wp2_with (go_at_call 13; refine HI.out.mono ?_; rintro e w1 ⟨rfl, hb⟩; have k1 := late hb hbx c1; have k2 := late hb hbx c2)
        go_ret
        exact ⟨ret_bool (by rw [Hr.out]; simp [H2.out]), hb⟩
    · have t1 : (u != i + 1) = true := by simpa using h1
      have H1 := Lib.hid h1
      clear h1
      go_enter Tryd.func27, Tryd.ntmps27
      go_wp2_with (go_at_call 13; refine HI.out.mono ?_; rintro e w1 ⟨rfl, hb⟩; have k1 := late hb hbx c1; have k2 := late hb hbx c2)
      go_ret
      exact ⟨ret_bool (by rw [Hr.out]; first | (simp [H1.out]; done) | (simp [H1.out]; omega)), hb⟩
end Go.Proofs.YtgmcnjnkiblbjaaDoor
