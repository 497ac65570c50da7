/- Bytes that are turned, in a row without spare room: the program. -/
import Derived.Test.YtilennmeiaehnaaGreatCo05
namespace Go.Proofs.YtilennmeiaehnaaGreat
open Go.RowKit Tt
set_option linter.unusedVariables false
set_option linter.unusedSimpArgs false

set_option maxRecDepth 20000 in
set_option maxHeartbeats 4000000 in
theorem turn_cap (a : Option Addr) (n c : Nat) (b : List Int) (s o : Int) (w : World) (hs : Sl w a n c 1 (ints .u8 b)) (hn : n ≤ 1000000000) :
    Calls Tryz.prog 118 #[.slice a n c, .int .i64 s, .int .i64 o] w fun e w' => ∃ a2 m, e = .returned (.slice a2 m m) ∧ w'.ownsRow w.heap.size 5 1 (.slice a2 m m) m (ints .u8 (turnS b s o)) ∧ Below w.heap.size w w' := by
  obtain ⟨i0, hi, hz0, hz1, hz2⟩ := info_parts info8
  have hbl := hs.ilen
  have hle := hs.le
  have hmx := hs.max
  have hm1 := fun W => omay_any s o W
  have hm2 := fun W => omay_any 1 o W
  obtain ⟨t, ht⟩ : ∃ t, turnB s o = t := ⟨_, rfl⟩
  have hts : turnS b s o = if t = true then (if o = 1 then turned s.toNat b else b) else [] := by unfold turnS; rw [ht]
  obtain ⟨R, hR⟩ : ∃ R, turnS b s o = R := ⟨_, rfl⟩
  rw [hR]
  rw [hR] at hts
  replace hts := hts.symm
  have ht' := ht
  unfold turnB at ht'
  obtain ⟨r1, hr1⟩ : ∃ r, mayB s o = r := ⟨_, rfl⟩
  obtain ⟨r2, hr2⟩ : ∃ r, mayB 1 o = r := ⟨_, rfl⟩
  rw [hr1] at hm1 ht'
  rw [hr2] at hm2 ht'
  have hm1' := Lib.hid hm1
  have hm2' := Lib.hid hm2
  have hs' := Lib.hid hs
  have hbl' := Lib.hid hbl
  have hts' := Lib.hid hts
  clear hm1 hm2 hs hbl hts
  clear hr1 hr2 hR
  go_enter Tryz.func118, Tryz.ntmps118
  cases t
  · clear ht
    cases r1
    · by_cases h8 : s = 8
      · subst h8
        obtain rfl : r2 = false := by simpa using ht'
        clear ht'
        go_wp2_with fail
        refine (hm1'.out _).mono ?_
        rintro e w1 ⟨rfl, hb1⟩
        have HB1 := Lib.hid hb1
        clear hb1
        go_wp2_with fail
        refine (hm2'.out _).mono ?_
        rintro e w2 ⟨rfl, hb2⟩
        have HB2 := Lib.hid (HB1.out.trans (hb2.mono HB1.out.size))
        clear hb2
        go_wp2_with fail
        go_ret
        exact ⟨none, 0, rfl, by rw [← hts'.out]; exact own_nil _ _ _ _, HB2.out⟩
      · have d8 : (s != 8) = true := by simp [h8]
        clear ht'
        go_wp2_with fail
        refine (hm1'.out _).mono ?_
        rintro e w1 ⟨rfl, hb1⟩
        have HB1 := Lib.hid hb1
        clear hb1
        go_wp2_with fail
        go_ret
        exact ⟨none, 0, rfl, by rw [← hts'.out]; exact own_nil _ _ _ _, HB1.out⟩
    · simp at ht'
  · obtain ⟨hsz, hord⟩ := turnB_size ht
    obtain ⟨p, rfl⟩ : ∃ p : Nat, s = p := ⟨s.toNat, by omega⟩
    have hp : p = 1 ∨ p = 2 ∨ p = 4 ∨ p = 8 := by omega
    have hp1 : 1 ≤ p := by omega
    have hp8 : p ≤ 8 := by omega
    clear ht hsz
    cases r1
    · have h8 : p = 8 := by simp at ht'; omega
      subst h8
      obtain rfl : r2 = true := by simpa using ht'
      clear ht' hp
      go_wp2_with fail
      refine (hm1'.out _).mono ?_
      rintro e w1 ⟨rfl, hb1⟩
      have HB1 := Lib.hid hb1
      clear hb1
      go_wp2_with fail
      refine (hm2'.out _).mono ?_
      rintro e w2 ⟨rfl, hb2⟩
      have HB2 := Lib.hid (HB1.out.trans (hb2.mono HB1.out.size))
      clear hb2 HB1
      go_wp2_with (first | (at_make; refine wpList_make_full w2 rfl _ _ 30 rfl w2.heap.size 5 i0 _ 1 Tryz.underlying30 hi hz0 hz1 .i64 .i64 _ _ n rfl rfl rfl rfl (by rw [hz2]; omega) (by unfold maxLen; omega) (Nat.le_refl _) ?_; intro w3 hown hg2; have R3 := Row.of_own (by rw [made_row] at hown; exact hown); have H3 := (HB2).out.trans (((Below.refl _ _).grown hg2 (Nat.le_refl _) (fun k e => by cases e)).mono (HB2).out.size); clear hown hg2) | (refine wpList_copy_row rfl (.tmp 25) (.tmp 26) 30 30 rfl 5 Tryz.underlying30 (by rw [hi]; simp [hz1]) w2.heap.size n .u8 _ rfl R3 (by simp) a n c b rfl (hs'.out.mono H3) w.heap.size w H3 (HB2).out.size ?_; intro w4 hr4 hb4; rw [splice_all hbl'.out (by simp)] at hr4; clear R3 H3))
      obtain ⟨g, hg⟩ : ∃ g, w2.heap.size = g := ⟨_, rfl⟩
      have hgw : w.heap.size ≤ g := by rw [← hg]; exact (HB2).out.size
      rw [hg] at hr4
      rw [hg]
      clear HB2 hg
      have hr4' := Lib.hid hr4
      have hb4' := Lib.hid hb4
      clear hr4 hb4
      by_cases ho : o = 1
      · have d1 : (o == 1) = true := by simp [ho]
        have ho' := Lib.hid ho
        clear ho
        clear hord
        go_loopw [8] (fun i wr => ∃ (q : Nat) (cs : List Int), q ≤ n ∧ i = .int .i64 q ∧ Hid (q % 8 = 0) ∧ Hid (Row wr g 5 .u8 cs) ∧ Hid (turnTo 8 q b cs) ∧ Hid (Below w.heap.size w wr)) (fun i _ => n - (intOf i).toNat)
        case atStart => exact ⟨0, b, by omega, rfl, Lib.hid (by simp), hr4', Lib.hid ⟨rfl, fun k hk => by simp⟩, hb4'⟩
        case round =>
          obtain ⟨q, cs, hq, rfl, hqm, hr, htu, hb⟩ := hrel
          have hw1 : IntKind.i64.wrap ((q : Int) + 8) = q + 8 := by rw [IntKind.wrap_i64]; omega
          have hcl := htu.out.1
          rw [hbl'.out] at hcl
          by_cases hlt : q + 8 ≤ n
          · have d2 : decide ((q : Int) + 8 ≤ n) = true := by simp; omega
            have hRV := fun cc => reverse_row g q 8 cc cs 5 wr hr.out (by omega) (by omega)
            have hsl := sub_at (P := Tryz.prog) (T := 30) (E := 5) Tryz.underlying30 (fun W => by kernel_rfl) g n q 8 (by omega) hlt
            have hRV' := Lib.hid hRV
            clear hRV
            go_wp2_with (go_at_call 127; refine (hRV'.out _).mono ?_; rintro e w5 ⟨rfl, p', hr5, hl5, hg5, hb5⟩; have HR5 := Lib.hid hr5; have HL5 := Lib.hid hl5; have HG5 := Lib.hid hg5; have HB5 := Lib.hid hb5; clear hr5 hl5 hg5 hb5)
            go_roundw
            case rel => exact ⟨q + 8, p', by omega, by go_num, Lib.hid (by have := hqm.out; first | omega | (rw [Nat.add_mod_right]; exact this)), HR5, Lib.hid (turnTo_step (by omega) hqm.out (by rw [hbl'.out]; omega) htu.out HL5.out HG5.out), Lib.hid (hb.out.trans (HB5.out.below hgw hb.out.size))⟩
            case measure => simp [intOf]; omega
          · have d2 : decide ((q : Int) + 8 ≤ n) = false := by simp; omega
            go_wp2
            go_ret
            refine ⟨some ⟨g, 0, none⟩, n, rfl, ?_, hb.out⟩
            have := turnTo_end (p := 8) (by omega) hqm.out (by rw [hbl'.out]; omega) (by rw [hbl'.out]; exact hq) htu.out
            have hr2 := hr.out
            rw [this] at hr2
            have hR := hts'.out
            rw [if_pos trivial, if_pos ho'.out] at hR
            rw [Int.toNat_natCast] at hR
            rw [← hR]
            exact hr2.own (by rw [turned_len]; exact hbl'.out) hgw (by unfold maxLen; omega)
      · have d1 : (o == 1) = false := by simp [ho]
        have ho' := Lib.hid ho
        clear ho
        clear hord
        go_loopw [8] (fun i wr => i = .int .i64 0 ∧ wr = w4) (fun i _ => 0)
        case atStart => exact ⟨rfl, rfl⟩
        case round =>
          obtain ⟨rfl, rfl⟩ := hrel
          go_wp2
          go_ret
          refine ⟨some ⟨g, 0, none⟩, n, rfl, ?_, hb4'.out⟩
          rw [← hts'.out, if_pos trivial, if_neg ho'.out]
          exact hr4'.out.own hbl'.out hgw (by unfold maxLen; omega)
    · clear ht'
      go_wp2_with fail
      refine (hm1'.out _).mono ?_
      rintro e w2 ⟨rfl, hb2⟩
      have HB2 := Lib.hid hb2
      clear hb2
      go_wp2_with (first | (at_make; refine wpList_make_full w2 rfl _ _ 30 rfl w2.heap.size 5 i0 _ 1 Tryz.underlying30 hi hz0 hz1 .i64 .i64 _ _ n rfl rfl rfl rfl (by rw [hz2]; omega) (by unfold maxLen; omega) (Nat.le_refl _) ?_; intro w3 hown hg2; have R3 := Row.of_own (by rw [made_row] at hown; exact hown); have H3 := (HB2).out.trans (((Below.refl _ _).grown hg2 (Nat.le_refl _) (fun k e => by cases e)).mono (HB2).out.size); clear hown hg2) | (refine wpList_copy_row rfl (.tmp 25) (.tmp 26) 30 30 rfl 5 Tryz.underlying30 (by rw [hi]; simp [hz1]) w2.heap.size n .u8 _ rfl R3 (by simp) a n c b rfl (hs'.out.mono H3) w.heap.size w H3 (HB2).out.size ?_; intro w4 hr4 hb4; rw [splice_all hbl'.out (by simp)] at hr4; clear R3 H3))
      obtain ⟨g, hg⟩ : ∃ g, w2.heap.size = g := ⟨_, rfl⟩
      have hgw : w.heap.size ≤ g := by rw [← hg]; exact (HB2).out.size
      rw [hg] at hr4
      rw [hg]
      clear HB2 hg
      have hr4' := Lib.hid hr4
      have hb4' := Lib.hid hb4
      clear hr4 hb4
      by_cases ho : o = 1
      · have d1 : (o == 1) = true := by simp [ho]
        have ho' := Lib.hid ho
        clear ho
        clear hord
        go_loopw [8] (fun i wr => ∃ (q : Nat) (cs : List Int), q ≤ n ∧ i = .int .i64 q ∧ Hid (q % p = 0) ∧ Hid (Row wr g 5 .u8 cs) ∧ Hid (turnTo p q b cs) ∧ Hid (Below w.heap.size w wr)) (fun i _ => n - (intOf i).toNat)
        case atStart => exact ⟨0, b, by omega, rfl, Lib.hid (by simp), hr4', Lib.hid ⟨rfl, fun k hk => by simp⟩, hb4'⟩
        case round =>
          obtain ⟨q, cs, hq, rfl, hqm, hr, htu, hb⟩ := hrel
          have hw1 : IntKind.i64.wrap ((q : Int) + p) = q + p := by rw [IntKind.wrap_i64]; omega
          have hcl := htu.out.1
          rw [hbl'.out] at hcl
          by_cases hlt : q + p ≤ n
          · have d2 : decide ((q : Int) + p ≤ n) = true := by simp; omega
            have hRV := fun cc => reverse_row g q p cc cs 5 wr hr.out (by omega) (by omega)
            have hsl := sub_at (P := Tryz.prog) (T := 30) (E := 5) Tryz.underlying30 (fun W => by kernel_rfl) g n q p (by omega) hlt
            have hRV' := Lib.hid hRV
            clear hRV
            go_wp2_with (go_at_call 127; refine (hRV'.out _).mono ?_; rintro e w5 ⟨rfl, p', hr5, hl5, hg5, hb5⟩; have HR5 := Lib.hid hr5; have HL5 := Lib.hid hl5; have HG5 := Lib.hid hg5; have HB5 := Lib.hid hb5; clear hr5 hl5 hg5 hb5)
            go_roundw
            case rel => exact ⟨q + p, p', by omega, by go_num, Lib.hid (by have := hqm.out; first | omega | (rw [Nat.add_mod_right]; exact this)), HR5, Lib.hid (turnTo_step (by omega) hqm.out (by rw [hbl'.out]; omega) htu.out HL5.out HG5.out), Lib.hid (hb.out.trans (HB5.out.below hgw hb.out.size))⟩
            case measure => simp [intOf]; omega
          · have d2 : decide ((q : Int) + p ≤ n) = false := by simp; omega
            go_wp2
            go_ret
            refine ⟨some ⟨g, 0, none⟩, n, rfl, ?_, hb.out⟩
            have := turnTo_end (p := p) (by omega) hqm.out (by rw [hbl'.out]; omega) (by rw [hbl'.out]; exact hq) htu.out
            have hr2 := hr.out
            rw [this] at hr2
            have hR := hts'.out
            rw [if_pos trivial, if_pos ho'.out] at hR
            rw [Int.toNat_natCast] at hR
            rw [← hR]
            exact hr2.own (by rw [turned_len]; exact hbl'.out) hgw (by unfold maxLen; omega)
      · have d1 : (o == 1) = false := by simp [ho]
        have ho' := Lib.hid ho
        clear ho
        clear hord
        go_loopw [8] (fun i wr => i = .int .i64 0 ∧ wr = w4) (fun i _ => 0)
        case atStart => exact ⟨rfl, rfl⟩
        case round =>
          obtain ⟨rfl, rfl⟩ := hrel
          go_wp2
          go_ret
          refine ⟨some ⟨g, 0, none⟩, n, rfl, ?_, hb4'.out⟩
          rw [← hts'.out, if_pos trivial, if_neg ho'.out]
          exact hr4'.out.own hbl'.out hgw (by unfold maxLen; omega)
end Go.Proofs.YtilennmeiaehnaaGreat
