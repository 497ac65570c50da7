/- Chapter 29: the walk of PlaceBack, given that the examples hold. -/
import Derived.Test.YthcecnolmhillaaPl12
namespace Go.Proofs.Ythcecnolmhillaa
open Go.RowKit Tt
set_option linter.unusedVariables false

theorem Lng.succ {xs : List Int} {k : Nat} (h : Lng xs k) (h1 : 1 ≤ xs.getD k 0) (h2 : xs.getD k 0 ≤ 1048576) : Lng xs (k + 1) := fun j hj => by
  rcases Nat.lt_or_ge j k with h3 | h3
  · exact h j h3
  · obtain rfl : j = k := by omega
    exact ⟨h1, h2⟩
/-- the At of what is made lies within some -/
theorem made_at {xs : List Int} {header : Int} {ps : List Pl} {n i : Nat} (h : Lng xs n) (hn : n = xs.length) (h100 : n ≤ 100) (hi : i < n) (h0 : 0 ≤ header) (h1 : header ≤ 1048576) : -1048576 ≤ (newP xs header ps i).2.2.1 ∧ (newP xs header ps i).2.2.1 ≤ 104857600 := by
  have h2 := h.sum (by omega) (k := i) (by omega)
  have : (newP xs header ps i).2.2.1 = if i = 0 then 0 else upto xs i - header := rfl
  rw [this]
  split <;> omega

set_option maxRecDepth 100000 in
set_option maxHeartbeats 8000000 in
theorem back_walk (HA0 : Awake) (a : Option Addr) (n c : Nat) (xs : List Int) (header at_ by_ : Int) (a2 : Option Addr) (n2 c2 : Nat) (ps : List Pl) (w : World) (hx : Sl w a n c 1 (ints .i64 xs)) (hp : Sl w a2 n2 c2 5 (pcs ps)) :
    Calls Try.prog 4 #[.slice a n c, .int .i64 header, .slice a2 n2 c2, .int .i64 at_, .int .i64 by_] w fun e w' => e = .returned (.bool true) ∧ Below w.heap.size w w' := by
  obtain ⟨j0, z0, hj, hjz, hjz1, hjz2, hjz3⟩ := infoP_parts
  have HA := Lib.hid HA0
  have hxm := hx.max
  have hxl := hx.le
  have hpm := hp.max
  have hpl := hp.le
  have hxn := hx.ilen
  have hpn := Ps.ilen hp
  have B0 := Lib.hid (Below.refl w.heap.size w)
  clear HA0
  have hx' := Lib.hid hx
  have hp' := Lib.hid hp
  have hxn' := Lib.hid hxn
  have hpn' := Lib.hid hpn
  clear hx hp hxn hpn
  by_cases c1 : 100 < n
  · have d1 : decide ((100 : Int) < (n : Int)) = true := by simp; omega
    have d1' : decide (100 < n) = true := by simp; omega
    go_enter Try.func4, Try.ntmps4
    (go_wp2_with (go_at_call 5; refine (HA.out _).mono ?_; rintro e w1 ⟨rfl, hb1⟩; have HB1 := Lib.hid (B0.out.trans (hb1.mono B0.out.size)); clear hb1); go_ret; exact ⟨rfl, HB1.out⟩)
  have d1 : decide ((100 : Int) < (n : Int)) = false := by simp; omega
  have d1' : decide (100 < n) = false := by simp; omega
  by_cases c2' : n = 0
  · have d2 : ((n : Int) == 0) = true := by simp; omega
    have d2' : (n == 0) = true := by simp; omega
    have c2'' := Lib.hid c2'
    clear c2'
    go_enter Try.func4, Try.ntmps4
    (go_wp2_with (go_at_call 5; refine (HA.out _).mono ?_; rintro e w1 ⟨rfl, hb1⟩; have HB1 := Lib.hid (B0.out.trans (hb1.mono B0.out.size)); clear hb1); go_ret; exact ⟨rfl, HB1.out⟩)
  have d2 : ((n : Int) == 0) = false := by simp; omega
  have d2' : (n == 0) = false := by simp; omega
  by_cases c3 : n2 = n
  rotate_left
  · have d3 : ((n2 : Int) != (n : Int)) = true := by simp; omega
    go_enter Try.func4, Try.ntmps4
    (go_wp2_with (go_at_call 5; refine (HA.out _).mono ?_; rintro e w1 ⟨rfl, hb1⟩; have HB1 := Lib.hid (B0.out.trans (hb1.mono B0.out.size)); clear hb1); go_ret; exact ⟨rfl, HB1.out⟩)
  subst c3
  have d3 : ((n2 : Int) != (n2 : Int)) = false := by simp
  by_cases c4 : header < 0
  · have d4 : decide (header < 0) = true := by simp; omega
    go_enter Try.func4, Try.ntmps4
    (go_wp2_with (go_at_call 5; refine (HA.out _).mono ?_; rintro e w1 ⟨rfl, hb1⟩; have HB1 := Lib.hid (B0.out.trans (hb1.mono B0.out.size)); clear hb1); go_ret; exact ⟨rfl, HB1.out⟩)
  have d4 : decide (header < 0) = false := by simp; omega
  obtain ⟨b, o, rfl, hbb, hc⟩ := hx'.out.at (i := 0) (by omega)
  have f0 := hc 0 _ (ints_get (by rw [hxn'.out]; omega))
  obtain ⟨x0, hx0⟩ : ∃ x0, xs.getD 0 0 = x0 := ⟨_, rfl⟩
  rw [hx0, Nat.add_zero] at f0
  have hx0' := Lib.hid hx0
  clear hx0
  clear hc
  by_cases c5 : x0 < header
  · have d5 : decide (x0 < header) = true := by simp; omega
    go_enter Try.func4, Try.ntmps4
    (go_wp2_with (go_at_call 5; refine (HA.out _).mono ?_; rintro e w1 ⟨rfl, hb1⟩; have HB1 := Lib.hid (B0.out.trans (hb1.mono B0.out.size)); clear hb1); go_ret; exact ⟨rfl, HB1.out⟩)
  have d5 : decide (x0 < header) = false := by simp; omega
  have hpos : 0 < n2 := by omega
  have h100 : n2 ≤ 100 := by omega
  clear c1 c2'
  go_enter Try.func4, Try.ntmps4
  go_wp2_with fail
  go_loop [11] (fun i => ∃ k : Nat, k ≤ n2 ∧ i = .int .i64 k ∧ Hid (Lng xs k)) (fun i => n2 - (intOf i).toNat)
  case atStart => exact ⟨0, by omega, rfl, Lib.hid (fun j hj => by omega)⟩
  case round =>
    obtain ⟨k, hk, rfl, hall⟩ := hrel
    by_cases hlt : k < n2
    · obtain ⟨b', o', e', hbb', hc⟩ := hx'.out.at hlt
      cases e'
      have f1 := hc k _ (ints_get (by rw [hxn'.out]; exact hlt))
      obtain ⟨u, hu⟩ : ∃ u, xs.getD k 0 = u := ⟨_, rfl⟩
      rw [hu] at f1
      have hu' := Lib.hid hu
      clear hu
      clear hc
      by_cases g1 : u < 1
      · have q1 : decide (u < 1) = true := by simp; omega
        (go_wp2_with (go_at_call 5; refine (HA.out _).mono ?_; rintro e w1 ⟨rfl, hb1⟩; have HB1 := Lib.hid (B0.out.trans (hb1.mono B0.out.size)); clear hb1); go_ret; exact ⟨rfl, HB1.out⟩)
      · have q1 : decide (u < 1) = false := by simp; omega
        by_cases g2 : 1048576 < u
        · have q2 : decide (1048576 < u) = true := by simp; omega
          (go_wp2_with (go_at_call 5; refine (HA.out _).mono ?_; rintro e w1 ⟨rfl, hb1⟩; have HB1 := Lib.hid (B0.out.trans (hb1.mono B0.out.size)); clear hb1); go_ret; exact ⟨rfl, HB1.out⟩)
        · have q2 : decide (1048576 < u) = false := by simp; omega
          have hnew := Lib.hid (hall.out.succ (by rw [hu'.out]; omega) (by rw [hu'.out]; omega))
          clear g1 g2
          go_wp2
          go_round
          case rel => exact ⟨k + 1, by omega, by go_num, hnew⟩
          case measure => simp [intOf]; omega
    · obtain rfl : k = n2 := by omega
      clear hlt
      have hxn := hxn'.out
      have hok := hall.out.ok hxn.symm h100
      have hx1 := (hall.out 0 hpos)
      rw [hx0'.out] at hx1
      have hof := hall.out.ofs (header := header) (ps := ps) hxn.symm h100 hpn'.out (by omega) (by rw [hx0'.out]; omega)
      have hov : ofV xs header ps = made xs header ps := by unfold ofV; rw [if_pos hof]; rfl
      have hsv : startsV xs = starts xs k := by unfold startsV; rw [if_pos hok, hxn]
      have hbk := hall.out.bk (header := header) (ps := ps) hxn.symm hpos
      have hbv := hall.out.bkV (header := header) (ps := ps) hxn.symm hpos
      have hbl := back_long (xs := xs) (header := header) (ps := ps) hxn.symm
      have hsum := hall.out.sum (by omega) (k := k) (Nat.le_refl _)
      have hA : ∀ i, i < k → -9223372036854775808 ≤ ((made xs header ps).getD i plz).2.2.1 ∧ ((made xs header ps).getD i plz).2.2.1 ≤ 9223372036854775807 := fun i hi => by
        rw [made_get (by omega)]
        have := made_at (ps := ps) hall.out hxn.symm h100 hi (show 0 ≤ header by omega) (by omega)
        omega
      obtain ⟨D, hD⟩ : ∃ D, upto xs k = D := ⟨_, rfl⟩
      rw [hD] at hbk hbv hbl hsum
      have hok' := Lib.hid hok
      have hof' := Lib.hid hof
      have hov' := Lib.hid hov
      have hsv' := Lib.hid hsv
      have hbk' := Lib.hid hbk
      have hbv' := Lib.hid hbv
      have hbl' := Lib.hid hbl
      have hA' := Lib.hid hA
      have hD' := Lib.hid hD
      have hxn' := Lib.hid hxn
      clear hok hof hov hsv hbk hbv hbl hA hD hxn
      go_wp2_with fail
      refine (starts_any _ _ _ xs _ hx'.out (by omega)).mono ?_
      rintro e w7 ⟨a7, n7, c7, rfl, s7, hb7⟩
      rw [hok'.out]
      rw [hsv'.out] at s7
      have hn7 := s7.ilen
      rw [starts_len] at hn7
      subst hn7
      have S7 := Lib.hid s7
      have HB := Lib.hid hb7
      have X := Lib.hid (hx'.out.mono hb7)
      have Y := Lib.hid (hp'.out.mono hb7)
      clear s7 hb7
      go_wp2_with fail
      refine (of_any _ _ _ xs header _ _ _ ps _ X.out Y.out (by omega) (by omega) (by omega)).mono ?_
      rintro e w9 ⟨a9, n9, c9, rfl, s9, hb'⟩
      rw [hof'.out]
      rw [hov'.out] at s9
      obtain rfl : n9 = k := by rw [← Ps.ilen s9, made_len, hxn'.out]
      have HB := Lib.hid (HB.out.trans (hb'.mono HB.out.size))
      have X := Lib.hid (X.out.mono hb')
      have Y := Lib.hid (Y.out.mono hb')
      have S7 := Lib.hid (S7.out.mono hb')
      have S9 := Lib.hid s9
      clear s9 hb'
      have e1 : (((n9 + 1 : Nat) : Int) != (n9 : Int) + 1) = false := by simp
      have hlt9 : (n9 : Int) < ((n9 + 1 : Nat) : Int) := by omega
      obtain ⟨b7, o7, rfl, hb7, hc⟩ := S7.out.at (i := 0) (by omega)
      have f7 := hc n9 _ (ints_get (by rw [starts_len]; omega))
      rw [starts_get (by omega), hD'.out] at f7
      have f70 := hc 0 _ (ints_get (by rw [starts_len]; omega))
      rw [starts_get (by omega), upto_zero, Nat.add_zero] at f70
      clear hc
      have F70 := Lib.hid f70
      clear f70
      go_wp2_with fail
      refine (back_any _ _ _ _ header D _ S9.out (by omega) (by omega) (by omega) (by omega) (by omega) hA'.out).mono ?_
      rintro e w15 ⟨a15, n15, c15, rfl, s15, hb'⟩
      rw [hbk'.out]
      rw [hbv'.out] at s15
      have HB := Lib.hid (HB.out.trans (hb'.mono HB.out.size))
      have X := Lib.hid (X.out.mono hb')
      have Y := Lib.hid (Y.out.mono hb')
      have S7 := Lib.hid (S7.out.mono hb')
      have S9 := Lib.hid (S9.out.mono hb')
      have F70 := Lib.hid (late hb' hb7 F70.out)
      have hb7 := Nat.lt_of_lt_of_le hb7 hb'.size
      have S15 := Lib.hid s15
      clear s15 hb' f7
      have hwD : IntKind.i64.wrap (D + 1) = D + 1 := by rw [IntKind.wrap_i64]; omega
      go_wp2_with fail
      refine (back_any _ _ _ _ header (D + 1) _ S9.out (by omega) (by omega) (by omega) (by omega) (by omega) hA'.out).mono ?_
      rintro e w16 ⟨a16, n16, c16, rfl, s16, hb'⟩
      rw [hbl'.out]
      have HB := Lib.hid (HB.out.trans (hb'.mono HB.out.size))
      have X := Lib.hid (X.out.mono hb')
      have Y := Lib.hid (Y.out.mono hb')
      have S7 := Lib.hid (S7.out.mono hb')
      have S9 := Lib.hid (S9.out.mono hb')
      have S15 := Lib.hid (S15.out.mono hb')
      have F70 := Lib.hid (late hb' hb7 F70.out)
      have hb7 := Nat.lt_of_lt_of_le hb7 hb'.size
      clear s16 hb'
      go_wp2_with fail
      refine (ints_same _ _ _ _ _ _ _ _ S15.out S7.out).mono ?_
      rintro e w17 ⟨rfl, hb'⟩
      have HB := Lib.hid (HB.out.trans (hb'.mono HB.out.size))
      have X := Lib.hid (X.out.mono hb')
      have Y := Lib.hid (Y.out.mono hb')
      have S7 := Lib.hid (S7.out.mono hb')
      have S9 := Lib.hid (S9.out.mono hb')
      have f70 := late hb' hb7 F70.out
      clear hb'
      have hl0 : (0 : Int) < ((n9 + 1 : Nat) : Int) := by omega
      go_wp2_with fail
      have BZ := Lib.hid (Below.refl w17.heap.size w17)
      clear f70
      go_loopw [21] (fun i wr => ∃ k : Nat, k ≤ n9 ∧ i = .int .i64 k ∧ Hid (Below w17.heap.size w17 wr)) (fun i _ => n9 - (intOf i).toNat)
      case atStart => exact ⟨0, by omega, rfl, BZ⟩
      case round =>
        obtain ⟨k, hk, rfl, hb⟩ := hrel
        by_cases hlt : k < n9
        · obtain ⟨p1, p2, e1, hp1, hc1⟩ := (S7.out.mono hb.out).at (i := k) (by omega)
          cases e1
          have f1 := hc1 k _ (ints_get (by rw [starts_len]; omega))
          have f2 := hc1 (k + 1) _ (ints_get (by rw [starts_len]; omega))
          rw [starts_get (by omega)] at f1 f2
          have hus := upto_succ (xs := xs) (k := k) (by rw [hxn'.out]; exact hlt)
          obtain ⟨p3, p4, e3, hp3, hc3⟩ := (X.out.mono hb.out).at hlt
          cases e3
          have f3 := hc3 k _ (ints_get (by rw [hxn'.out]; exact hlt))
          obtain ⟨p5, p6, rfl, hp5, g0, g1, g2, g3, g4⟩ := Ps.at (S9.out.mono hb.out) hlt
          obtain ⟨p7, p8, rfl, hp7, h0, h1, h2, h3, h4⟩ := Ps.at (Y.out.mono hb.out) hlt
          rw [made_get (by rw [hxn'.out]; exact hlt)] at g0 g3 g4
          have hsk := hall.out.sum (by rw [hxn'.out]; omega) (k := k) (by omega)
          have hun := hall.out k hlt
          simp only [newP] at g0 g3 g4
          clear g1 g2 h1 h2 hc1 hc3
          generalize upto xs (k + 1) = s1 at *
          generalize upto xs k = s0 at *
          generalize xs.getD k 0 = u at *
          generalize (ps.getD k plz).1 = y0 at *
          generalize (ps.getD k plz).2.2.2.1 = y3 at *
          generalize (ps.getD k plz).2.2.2.2 = y4 at *
          have hw : IntKind.i64.wrap (s1 - s0) = u := by rw [IntKind.wrap_i64]; omega
          have k1 : (k : Int) + 1 < ((n9 + 1 : Nat) : Int) := by omega
          have r1 : (u != u) = false := by simp
          have r2 : (y0 != y0) = false := by simp
          have r3 : (y3 != y3) = false := by simp
          have r4 : (y4 != y4) = false := by simp
          clear hsk hun hus
          go_wp2_with fail
          go_quiet (fail)
          go_wp2
          go_roundw
          case rel => exact ⟨k + 1, by omega, by go_num, Lib.hid (hb.out.trans (((Qt.refl _).step _).below _))⟩
          case measure => simp [intOf]; omega
        · obtain rfl : k = n9 := by omega
          have HB := Lib.hid (HB.out.trans (hb.out.mono HB.out.size))
          have S9 := Lib.hid (S9.out.mono hb.out)
          clear hlt
          by_cases t1 : at_ < 0
          · have q1 : decide (at_ < 0) = true := by simp; omega
            (go_wp2_with (go_at_call 5; refine (HA.out _).mono ?_; rintro e w1 ⟨rfl, hb1⟩; have HB1 := Lib.hid (HB.out.trans (hb1.mono HB.out.size)); clear hb1); go_ret; exact ⟨rfl, HB1.out⟩)
          · have q1 : decide (at_ < 0) = false := by simp; omega
            by_cases t2 : (k : Int) ≤ at_
            · have q2 : decide ((k : Int) ≤ at_) = true := by simp; omega
              (go_wp2_with (go_at_call 5; refine (HA.out _).mono ?_; rintro e w1 ⟨rfl, hb1⟩; have HB1 := Lib.hid (HB.out.trans (hb1.mono HB.out.size)); clear hb1); go_ret; exact ⟨rfl, HB1.out⟩)
            · have q2 : decide ((k : Int) ≤ at_) = false := by simp; omega
              by_cases t3 : by_ = 0
              · have q3 : (by_ == 0) = true := by simp; omega
                have t3' := Lib.hid t3
                clear t3
                (go_wp2_with (go_at_call 5; refine (HA.out _).mono ?_; rintro e w1 ⟨rfl, hb1⟩; have HB1 := Lib.hid (HB.out.trans (hb1.mono HB.out.size)); clear hb1); go_ret; exact ⟨rfl, HB1.out⟩)
              · have q3 : (by_ == 0) = false := by simp; omega
                by_cases t4 : by_ < -1000
                · have q4 : decide (by_ < -1000) = true := by simp; omega
                  (go_wp2_with (go_at_call 5; refine (HA.out _).mono ?_; rintro e w1 ⟨rfl, hb1⟩; have HB1 := Lib.hid (HB.out.trans (hb1.mono HB.out.size)); clear hb1); go_ret; exact ⟨rfl, HB1.out⟩)
                · have q4 : decide (by_ < -1000) = false := by simp; omega
                  by_cases t5 : 1000 < by_
                  · have q5 : decide (1000 < by_) = true := by simp; omega
                    (go_wp2_with (go_at_call 5; refine (HA.out _).mono ?_; rintro e w1 ⟨rfl, hb1⟩; have HB1 := Lib.hid (HB.out.trans (hb1.mono HB.out.size)); clear hb1); go_ret; exact ⟨rfl, HB1.out⟩)
                  · have q5 : decide (1000 < by_) = false := by simp; omega
                    obtain ⟨t, rfl⟩ : ∃ t : Nat, at_ = t := ⟨at_.toNat, by omega⟩
                    have ht : t < k := by omega
                    clear t1 t2
                    have hxn := hxn'.out
                    have hxt := hall.out t ht
                    have hma := made_at (ps := ps) hall.out hxn.symm h100 ht (show 0 ≤ header by omega) (by omega)
                    have hmg : (made xs header ps).getD t plz = newP xs header ps t := made_get (by omega)
                    have hml : t < (made xs header ps).length := by rw [made_len]; omega
                    have hgen : ∀ (v1 v2 : Int) (i : Nat), i < k → -9223372036854775808 ≤ v2 ∧ v2 ≤ 9223372036854775807 → -9223372036854775808 ≤ (((made xs header ps).set t ((newP xs header ps t).1, v1, v2, (newP xs header ps t).2.2.2.1, (newP xs header ps t).2.2.2.2)).getD i plz).2.2.1 ∧ (((made xs header ps).set t ((newP xs header ps t).1, v1, v2, (newP xs header ps t).2.2.2.1, (newP xs header ps t).2.2.2.2)).getD i plz).2.2.1 ≤ 9223372036854775807 := fun v1 v2 i hi hv => by
                      by_cases h : t = i
                      · subst h; rw [getD_set_self hml]; exact hv
                      · rw [getD_set_ne h]; exact hA'.out i hi
                    have e5 : (pcs (made xs header ps))[t * 5 + 1]? = some (.int .i64 (xs.getD t 0)) := by rw [pcs_get hml (by omega : 1 < 5), hmg]; rfl
                    have e6 : (pcs (made xs header ps))[t * 5 + 2]? = some (.int .i64 (newP xs header ps t).2.2.1) := by rw [pcs_get hml (by omega : 2 < 5), hmg]; rfl
                    have e7 : ∀ v : Int, (pcs (made xs header ps)).set (t * 5 + 1) (.int .i64 v) = pcs ((made xs header ps).set t ((newP xs header ps t).1, v, (newP xs header ps t).2.2.1, (newP xs header ps t).2.2.2.1, (newP xs header ps t).2.2.2.2)) := fun v => pcs_set (by omega) (by rw [hmg]; rfl)
                    have e8 : ∀ v : Int, (pcs (made xs header ps)).set (t * 5 + 2) (.int .i64 v) = pcs ((made xs header ps).set t ((newP xs header ps t).1, xs.getD t 0, v, (newP xs header ps t).2.2.2.1, (newP xs header ps t).2.2.2.2)) := fun v => pcs_set (by omega) (by rw [hmg]; rfl)
                    have k5 := back_size (header := header) (by_ := by_) (ps := ps) hxn.symm ht t3 (p := ((newP xs header ps t).1, xs.getD t 0 + by_, (newP xs header ps t).2.2.1, (newP xs header ps t).2.2.2.1, (newP xs header ps t).2.2.2.2)) rfl
                    have k6 := back_at (header := header) (by_ := by_) (ps := ps) hxn.symm ht t3 (p := ((newP xs header ps t).1, xs.getD t 0, (newP xs header ps t).2.2.1 + by_, (newP xs header ps t).2.2.2.1, (newP xs header ps t).2.2.2.2)) rfl rfl (size := D)
                    rw [hD'.out] at k5
                    have K7 := Lib.hid (hgen (xs.getD t 0 + by_) (newP xs header ps t).2.2.1)
                    have K8 := Lib.hid (hgen (xs.getD t 0) ((newP xs header ps t).2.2.1 + by_))
                    have E7 := Lib.hid (e7 (xs.getD t 0 + by_))
                    have E8 := Lib.hid (e8 ((newP xs header ps t).2.2.1 + by_))
                    clear hgen e7 e8 hmg hml
                    generalize (made xs header ps).set t ((newP xs header ps t).1, xs.getD t 0 + by_, (newP xs header ps t).2.2.1, (newP xs header ps t).2.2.2.1, (newP xs header ps t).2.2.2.2) = L1 at *
                    generalize (made xs header ps).set t ((newP xs header ps t).1, xs.getD t 0, (newP xs header ps t).2.2.1 + by_, (newP xs header ps t).2.2.2.1, (newP xs header ps t).2.2.2.2) = L2 at *
                    generalize xs.getD t 0 = u at *
                    generalize (newP xs header ps t).2.2.1 = v at *
                    have hw1 : IntKind.i64.wrap (u + by_) = u + by_ := by rw [IntKind.wrap_i64]; omega
                    have hw2 : IntKind.i64.wrap (v + by_) = v + by_ := by rw [IntKind.wrap_i64]; omega
                    have hlt : (t : Int) < (k : Int) := by omega
                    have hxn' := Lib.hid hxn
                    have hxt' := Lib.hid hxt
                    have e5' := Lib.hid e5
                    have e6' := Lib.hid e6
                    have k5' := Lib.hid k5
                    have k6' := Lib.hid k6
                    have t3' := Lib.hid t3
                    clear hxn hxt e5 e6 k5 k6 t3
                    have HB := Lib.hid HB.out
                    go_upto_region 25 with (at_builtin; refine wpList_app rfl _ _ 23 rfl wr.heap.size 35 j0 z0 5 40 Try.underlying23 hj hjz hjz1 hjz2 hjz3 (by decide) _ 0 [] rfl (own_new wr wr.heap.size 35 5 0 #[] (Nat.le_refl _) (by unfold maxLen; omega) rfl) _ k c9 _ rfl (sl_alloc S9.out _) pcs_one (by omega) (by decide) (by simp) ?_; intro a6 c6 w6 ob hb6 hg6; rw [Nat.zero_add] at ob ⊢; rw [List.nil_append] at ob; have O6 := Lib.hid ob; have hb6' := ((Below.refl wr.heap.size wr).alloc (Nat.le_refl _) _).trans hb6; have HB6 := Lib.hid hb6'; clear ob hb6 hg6 hb6')
                    obtain ⟨g, rfl, hBg, hlg, hfr, hcl⟩ := own_placeN O6.out (i := t) ht
                    have f5 := hcl _ _ e5'.out
                    have z5 := hfr (t * 5 + 1)
                    have O7 := own_setN O6.out (t * 5 + 1) (.int .i64 (u + by_))
                    rw [E7.out] at O7
                    have HBg := Lib.hid (HB6.out.setCell (p := ⟨g, t * 5 + 1, none⟩) hBg (.int .i64 (u + by_)))
                    have O7' := Lib.hid O7
                    clear O7
                    clear hcl hfr
                    go_wp2_with fail
                    refine (back_any _ _ _ L1 header D _ (Sl.of_own O7'.out).1 (by omega) (by omega) (by omega) (by omega) (by omega) (fun i hi => K7.out i hi (by omega))).mono ?_
                    rintro e w18 ⟨a18, n18, c18, rfl, s18, hb'⟩
                    rw [k5'.out]
                    have hbn := HBg.out.trans (hb'.mono HBg.out.size)
                    have HB := Lib.hid (HB.out.trans (hbn.mono HB.out.size))
                    have S9 := Lib.hid (S9.out.mono hbn)
                    clear hb' hbn s18 f5 z5 hBg hlg
                    go_upto_region 28 with (at_builtin; refine wpList_app rfl _ _ 23 rfl w18.heap.size 35 j0 z0 5 40 Try.underlying23 hj hjz hjz1 hjz2 hjz3 (by decide) _ 0 [] rfl (own_new w18 w18.heap.size 35 5 0 #[] (Nat.le_refl _) (by unfold maxLen; omega) rfl) _ k c9 _ rfl (sl_alloc S9.out _) pcs_one (by omega) (by decide) (by simp) ?_; intro a6 c6 w6 ob hb6 hg6; rw [Nat.zero_add] at ob ⊢; rw [List.nil_append] at ob; have O6 := Lib.hid ob; have hb6' := ((Below.refl w18.heap.size w18).alloc (Nat.le_refl _) _).trans hb6; have HB6 := Lib.hid hb6'; clear ob hb6 hg6 hb6')
                    obtain ⟨g, rfl, hBg, hlg, hfr, hcl⟩ := own_placeN O6.out (i := t) ht
                    have f5 := hcl _ _ e6'.out
                    have z5 := hfr (t * 5 + 2)
                    have O7 := own_setN O6.out (t * 5 + 2) (.int .i64 (v + by_))
                    rw [E8.out] at O7
                    have HBg := Lib.hid (HB6.out.setCell (p := ⟨g, t * 5 + 2, none⟩) hBg (.int .i64 (v + by_)))
                    have O7' := Lib.hid O7
                    clear O7
                    clear hcl hfr
                    go_wp2_with fail
                    refine (back_any _ _ _ L2 header D _ (Sl.of_own O7'.out).1 (by omega) (by omega) (by omega) (by omega) (by omega) (fun i hi => K8.out i hi (by omega))).mono ?_
                    rintro e w19 ⟨a19, n19, c19, rfl, s19, hb'⟩
                    rw [k6'.out]
                    have hbn := HBg.out.trans (hb'.mono HBg.out.size)
                    have HB := Lib.hid (HB.out.trans (hbn.mono HB.out.size))
                    clear hb' hbn s19 f5 z5 hBg hlg
                    (go_wp2_with (go_at_call 5; refine (HA.out _).mono ?_; rintro e w1 ⟨rfl, hb1⟩; have HB1 := Lib.hid (HB.out.trans (hb1.mono HB.out.size)); clear hb1); go_ret; exact ⟨rfl, HB1.out⟩)
end Go.Proofs.Ythcecnolmhillaa
