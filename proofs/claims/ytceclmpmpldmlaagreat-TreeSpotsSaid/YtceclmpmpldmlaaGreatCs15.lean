/- Chapter 21: the writer's spots, entries with a number: the program. | Bytes that are turned, in a row without spare room: the program. -/
import Derived.Test.YtceclmpmpldmlaaGreatCs13
import Derived.Test.YtceclmpmpldmlaaGreatCs04
namespace Go.Proofs.YtceclmpmpldmlaaGreat
open Go.RowKit Tt
set_option linter.unusedVariables false
set_option linter.unusedSimpArgs false

theorem long21_any (t n : Int) (w : World) : Calls Tryz.prog 93 #[.int .i64 t, .int .i64 n] w fun e w' => e = .returned (.agg #[.int .i64 t, .int .i64 4, .int .i64 1, .int .i64 n]) ∧ Below w.heap.size w w' := by
  have hb1 := (Below.refl w.heap.size w).alloc (Nat.le_refl _) (.cells #[.int .i64 t, .int .i64 4, .int .i64 1, .int .i64 n] 55); have b1 := Blk.new w 55 #[.int .i64 t, .int .i64 4, .int .i64 1, .int .i64 n]; have hb1' := Lib.hid hb1; have b1' := Lib.hid b1; clear hb1 b1
  go_enter Tryz.func93, Tryz.ntmps93
  go_wp2_with fail
  refine bodyPost_ret (results_cell_row rfl _ _ w.heap.size 55 #[.int .i64 t, .int .i64 4, .int .i64 1, .int .i64 n] (0, 0) _ rfl b1'.out Tryz.underlying55 rfl (by kernel_rfl)) rfl ?_; exact ⟨rfl, hb1'.out⟩
set_option maxHeartbeats 1000000 in
theorem spot1_any (g0 g1 g2 : Nat) (what no tag : Int) (x : Spt) (w : World) (h0 : w.cell? ⟨g0, 0, none⟩ = some (.int .i64 what)) (h1 : w.cell? ⟨g1, 0, none⟩ = some (.int .i64 no)) (h2 : w.cell? ⟨g2, 0, none⟩ = some (.int .i64 tag)) (l0 : g0 < w.heap.size) (l1 : g1 < w.heap.size) (l2 : g2 < w.heap.size) :
    Calls Tryz.prog 153 #[.agg (spC x).toArray, .pointer (some ⟨g0, 0, none⟩), .pointer (some ⟨g1, 0, none⟩), .pointer (some ⟨g2, 0, none⟩)] w fun e w' => e = .returned (.bool (atP what no tag x)) ∧ Below w.heap.size w w' := by
  obtain ⟨x0, x1, x2, x3, x4⟩ := x; have hb1 := (Below.refl w.heap.size w).alloc (Nat.le_refl _) (.cells #[.int .i64 x0, .int .i64 x1, .int .i64 x2, .int .i64 x3, .int .i64 x4] 50); have e : atP what no tag (x0, x1, x2, x3, x4) = (x0 == what && x1 == no && x2 == tag) := rfl; rw [e]; simp only [spC]; obtain ⟨b0, hb0⟩ : ∃ b, (x0 == what) = b := ⟨_, rfl⟩; obtain ⟨b1, hbb⟩ : ∃ b, (x1 == no) = b := ⟨_, rfl⟩; obtain ⟨b2, hb2⟩ : ∃ b, (x2 == tag) = b := ⟨_, rfl⟩; rw [hb0, hbb, hb2]; clear e; have hb1' := Lib.hid hb1; clear hb1
  cases b0
  · go_enter Tryz.func153, Tryz.ntmps153
    go_wp2_with fail
    go_ret
    exact ⟨rfl, hb1'.out⟩
  · cases b1
    · go_enter Tryz.func153, Tryz.ntmps153
      go_wp2_with fail
      go_ret
      exact ⟨rfl, hb1'.out⟩
    · go_enter Tryz.func153, Tryz.ntmps153
      go_wp2_with fail
      go_ret
      exact ⟨rfl, hb1'.out⟩
set_option maxHeartbeats 1000000 in
theorem sidx_any (caps : Array Value) (a : Option Addr) (n c : Nat) (ls : List Spt) (p : Spt → Bool) (w : World) (hs : Sl w a n c 5 (fl spC ls))
    (hc : ∀ W (x : Spt), Below w.heap.size w W → Calls Tryz.prog 153 (#[.agg (spC x).toArray] ++ caps) W fun e W' => e = .returned (.bool (p x)) ∧ Below W.heap.size W W') :
    Calls Tryz.prog 152 #[.slice a n c, .func (.func 153) #[] caps] w fun e w' => e = .returned (.int .i64 (fst p ls)) ∧ Below w.heap.size w w' := by
  have hl := hs.flen spC_len (by decide); have hm := hs.max; have hle := hs.le; have hs' := Lib.hid hs; have hc' := Lib.hid hc; have hl' := Lib.hid hl; clear hs hc hl
  go_enter Tryz.func152, Tryz.ntmps152
  go_wp2
  go_loopw [8] (fun iv wr => ∃ k : Nat, k ≤ n ∧ iv = .int .i64 k ∧ Hid (∀ i (hi : i < ls.length), i < k → p ls[i] = false) ∧ Hid (Below w.heap.size w wr)) (fun iv _ => n - (intOf iv).toNat)
  case atStart => exact ⟨0, by omega, rfl, Lib.hid (fun j _ hj => by omega), Lib.hid (Below.refl _ _)⟩
  case round =>
    obtain ⟨k, hk, rfl, hall, hb⟩ := hrel
    by_cases hlt : k < n
    · have hww : IntKind.i64.wrap ((k : Int) + 1) = k + 1 := by rw [IntKind.wrap_i64]; omega
      have hkl : k < ls.length := by rw [hl'.out]; exact hlt
      obtain ⟨b, o, rfl, hbb, f⟩ := (hs'.out.mono hb.out).elem spC_len (by decide) (0, 0, 0, 0, 0) hlt; rw [getD_el hkl] at f; obtain ⟨r, hr⟩ : ∃ r, p (ls[k]'hkl) = r := ⟨_, rfl⟩; have HC := hc'.out wr (ls[k]'hkl) hb.out; rw [hr] at HC; obtain ⟨⟨x0, x1, x2, x3, x4⟩, hx⟩ : ∃ x, ls[k]'hkl = x := ⟨_, rfl⟩; rw [hx] at HC f; have f0 := f 0 _ rfl; have f1 := f 1 _ rfl; have f2 := f 2 _ rfl; have f3 := f 3 _ rfl; have f4 := f 4 _ rfl; clear f; simp only [spC, Nat.add_zero] at f0 f1 f2 f3 f4 HC; have HC' := Lib.hid HC; have hr' := Lib.hid hr; have hx' := Lib.hid hx; clear HC hr hx
      go_wp2_with fail
      refine HC'.out.mono ?_; rintro e w2 ⟨rfl, hb2⟩; have hbw := hb.out.trans (hb2.mono hb.out.size); clear hb2
      cases r with
      | true =>
        have hbw' := Lib.hid hbw; clear hbw
        go_wp2
        go_ret
        exact ⟨by rw [fst_at hkl hr'.out (fun i hi => hall.out i (by omega) hi)]; rfl, hbw'.out⟩
      | false =>
        have hall2 : ∀ i (hi : i < ls.length), i < k + 1 → p ls[i] = false := fun i hi h => by
          rcases Nat.lt_or_ge i k with h1 | h1
          · exact hall.out i hi h1
          · obtain rfl : i = k := by omega
            exact hr'.out
        have hbw' := Lib.hid hbw; have hall2' := Lib.hid hall2; clear hbw hall2
        go_wp2
        go_roundw
        case rel => exact ⟨k + 1, by omega, by go_num, hall2', hbw'⟩
        case measure => simp [intOf]; omega
    · obtain rfl : k = n := by omega
      go_wp2
      go_ret
      exact ⟨by rw [fst_no (fun i hi => hall.out i hi (by rw [hl'.out] at hi; exact hi))]; rfl, hb.out⟩
set_option maxHeartbeats 2000000 in
theorem wspot_any (K : Wc) (w : World) (no : Int) (P : List Int) (h : WrS K w no P) (what dir tag : Int) (hf : K.l.any (atP what dir tag) = true) :
    Calls Tryz.prog 94 #[.pointer (some ⟨K.gw, 0, none⟩), .int .i64 what, .int .i64 dir, .int .i64 tag] w fun e w' => e = .returned (.int .i64 (atS K.l what dir tag)) ∧ Below w.heap.size w w' := by
  obtain ⟨W1, hW1, b0, b1, b2, hb1, s1⟩ := three_boxes w 3 #[.int .i64 what] 3 #[.int .i64 dir] 3 #[.int .i64 tag]; have h1 := h.later hb1
  have hI := sidx_any #[.pointer (some ⟨w.heap.size, 0, none⟩), .pointer (some ⟨w.heap.size + 1, 0, none⟩), .pointer (some ⟨w.heap.size + 2, 0, none⟩)] K.spa K.spn K.spc K.l (atP what dir tag) W1 h1.sp
    (fun W x hb => spot1_any _ _ _ what dir tag x W (late hb b0.lt (b0.cell rfl)) (late hb b1.lt (b1.cell rfl)) (late hb b2.lt (b2.cell rfl)) (Nat.lt_of_lt_of_le b0.lt hb.size) (Nat.lt_of_lt_of_le b1.lt hb.size) (Nat.lt_of_lt_of_le b2.lt hb.size))
  obtain ⟨s, hs1, hs2, hs3⟩ := find_any hf; have hat : atS K.l what dir tag = s.2.2.2.1 := by unfold atS; rw [hs1]
  rw [hat]; have hlen := h1.sp.flen spC_len (by decide); have hmx := h1.sp.max; have hle := h1.sp.le; obtain ⟨k, hk⟩ : ∃ k : Nat, fst (atP what dir tag) K.l = k := ⟨(fst (atP what dir tag) K.l).toNat, by omega⟩; rw [hk] at hI hs2; rw [Int.toNat_natCast] at hs2; obtain ⟨hkl, hks⟩ := List.getElem?_eq_some_iff.1 hs2; have hkn : k < K.spn := by rw [← hlen]; exact hkl
  have hkn2 : (k : Int) < (K.spn : Int) := by omega
  have hkn3 : (0 : Int) ≤ (k : Int) := by omega
  have c2 : W1.cell? ⟨K.gw, 2, none⟩ = some (.slice K.spa K.spn K.spc) := h1.blk.cell rfl; rw [← hW1] at c2 hI; clear hs3; have h' := Lib.hid h; have h1' := Lib.hid h1; have b0' := Lib.hid b0; have b1' := Lib.hid b1; have b2' := Lib.hid b2; have hb1' := Lib.hid hb1; have hI' := Lib.hid hI; have hs1' := Lib.hid hs1; have hs2' := Lib.hid hs2; have hlen' := Lib.hid hlen; have hk' := Lib.hid hk; have hks' := Lib.hid hks; have hW1' := Lib.hid hW1; have hat' := Lib.hid hat; have hf' := Lib.hid hf; clear h h1 b0 b1 b2 hb1 hI hs1 hs2 hlen hk hks hW1 hat hf
  go_enter Tryz.func94, Tryz.ntmps94
  go_wp2_with fail
  refine hI'.out.mono ?_; rw [hW1'.out]; rintro e w2 ⟨rfl, hb2⟩; have h2 := h1'.out.later hb2; clear c2; have c2 : w2.cell? ⟨K.gw, 2, none⟩ = some (.slice K.spa K.spn K.spc) := h2.blk.cell rfl; obtain ⟨b, o, e, hlt, fe⟩ := h2.sp.elem spC_len (by decide) (0, 0, 0, 0, 0) hkn; rw [getD_el (by rw [hlen'.out]; exact hkn), hks'.out] at fe; have f3 := fe 3 _ rfl; clear fe; have hbw := hb1'.out.trans (hb2.mono hb1'.out.size); have h2' := Lib.hid h2; have hb2' := Lib.hid hb2; have hbw' := Lib.hid hbw; clear h2 hb2 hbw; rw [e] at c2
  go_wp2_with fail
  go_ret
  exact ⟨rfl, hbw'.out⟩
end Go.Proofs.YtceclmpmpldmlaaGreat

namespace Go.Proofs.YtceclmpmpldmlaaGreat
open Go.RowKit Tt
set_option linter.unusedVariables false
set_option linter.unusedSimpArgs false

set_option maxRecDepth 20000 in
set_option maxHeartbeats 4000000 in
theorem turn_cap (a : Option Addr) (n c : Nat) (b : List Int) (s o : Int) (w : World) (hs : Sl w a n c 1 (ints .u8 b)) (hn : n ≤ 1000000000) :
    Calls Tryz.prog 117 #[.slice a n c, .int .i64 s, .int .i64 o] w fun e w' => ∃ a2 m, e = .returned (.slice a2 m m) ∧ w'.ownsRow w.heap.size 5 1 (.slice a2 m m) m (ints .u8 (turnS b s o)) ∧ Below w.heap.size w w' := by
  obtain ⟨i0, hi, hz0, hz1, hz2⟩ := info_parts info8; have hbl := hs.ilen; have hle := hs.le; have hmx := hs.max; have hm1 := fun W => omay_any s o W; have hm2 := fun W => omay_any 1 o W; obtain ⟨t, ht⟩ : ∃ t, turnB s o = t := ⟨_, rfl⟩; have hts : turnS b s o = if t = true then (if o = 1 then turned s.toNat b else b) else [] := by unfold turnS; rw [ht]
  obtain ⟨R, hR⟩ : ∃ R, turnS b s o = R := ⟨_, rfl⟩; rw [hR]; rw [hR] at hts
  replace hts := hts.symm
  have ht' := ht; unfold turnB at ht'; obtain ⟨r1, hr1⟩ : ∃ r, mayB s o = r := ⟨_, rfl⟩; obtain ⟨r2, hr2⟩ : ∃ r, mayB 1 o = r := ⟨_, rfl⟩; rw [hr1] at hm1 ht'; rw [hr2] at hm2 ht'; have hm1' := Lib.hid hm1; have hm2' := Lib.hid hm2; have hs' := Lib.hid hs; have hbl' := Lib.hid hbl; have hts' := Lib.hid hts; clear hm1 hm2 hs hbl hts; clear hr1 hr2 hR
  go_enter Tryz.func117, Tryz.ntmps117
  cases t
  · clear ht
    cases r1
    · by_cases h8 : s = 8
      · subst h8
        obtain rfl : r2 = false := by simpa using ht'
        clear ht'
        go_wp2_with fail
        refine (hm1'.out _).mono ?_; rintro e w1 ⟨rfl, hb1⟩; have HB1 := Lib.hid hb1; clear hb1
        go_wp2_with fail
        refine (hm2'.out _).mono ?_; rintro e w2 ⟨rfl, hb2⟩; have HB2 := Lib.hid (HB1.out.trans (hb2.mono HB1.out.size)); clear hb2
        go_wp2_with fail
        go_ret
        exact ⟨none, 0, rfl, by rw [← hts'.out]; exact own_nil _ _ _ _, HB2.out⟩
      · have d8 : (s != 8) = true := by simp [h8]
        clear ht'
        go_wp2_with fail
        refine (hm1'.out _).mono ?_; rintro e w1 ⟨rfl, hb1⟩; have HB1 := Lib.hid hb1; clear hb1
        go_wp2_with fail
        go_ret
        exact ⟨none, 0, rfl, by rw [← hts'.out]; exact own_nil _ _ _ _, HB1.out⟩
    · simp at ht'
  · obtain ⟨hsz, hord⟩ := turnB_size ht
    obtain ⟨p, rfl⟩ : ∃ p : Nat, s = p := ⟨s.toNat, by omega⟩; have hp : p = 1 ∨ p = 2 ∨ p = 4 ∨ p = 8 := by omega
    have hp1 : 1 ≤ p := by omega
    have hp8 : p ≤ 8 := by omega
    clear ht hsz
    cases r1
    · have h8 : p = 8 := by simp at ht'; omega
      subst h8; obtain rfl : r2 = true := by simpa using ht'
      clear ht' hp
      go_wp2_with fail
      refine (hm1'.out _).mono ?_; rintro e w1 ⟨rfl, hb1⟩; have HB1 := Lib.hid hb1; clear hb1
      go_wp2_with fail
      refine (hm2'.out _).mono ?_; rintro e w2 ⟨rfl, hb2⟩; have HB2 := Lib.hid (HB1.out.trans (hb2.mono HB1.out.size)); clear hb2 HB1
      go_wp2_with (first | (at_make; refine wpList_make_full w2 rfl _ _ 24 rfl w2.heap.size 5 i0 _ 1 Tryz.underlying24 hi hz0 hz1 .i64 .i64 _ _ n rfl rfl rfl rfl (by rw [hz2]; omega) (by unfold maxLen; omega) (Nat.le_refl _) ?_; intro w3 hown hg2; have R3 := Row.of_own (by rw [made_row] at hown; exact hown); have H3 := (HB2).out.trans (((Below.refl _ _).grown hg2 (Nat.le_refl _) (fun k e => by cases e)).mono (HB2).out.size); clear hown hg2) | (refine wpList_copy_row rfl (.tmp 25) (.tmp 26) 24 24 rfl 5 Tryz.underlying24 (by rw [hi]; simp [hz1]) w2.heap.size n .u8 _ rfl R3 (by simp) a n c b rfl (hs'.out.mono H3) w.heap.size w H3 (HB2).out.size ?_; intro w4 hr4 hb4; rw [splice_all hbl'.out (by simp)] at hr4; clear R3 H3))
      obtain ⟨g, hg⟩ : ∃ g, w2.heap.size = g := ⟨_, rfl⟩; have hgw : w.heap.size ≤ g := by rw [← hg]; exact (HB2).out.size
      rw [hg] at hr4; rw [hg]; clear HB2 hg; have hr4' := Lib.hid hr4; have hb4' := Lib.hid hb4; clear hr4 hb4
      by_cases ho : o = 1
      · have d1 : (o == 1) = true := by simp [ho]
        have ho' := Lib.hid ho; clear ho; clear hord
        go_loopw [8] (fun i wr => ∃ (q : Nat) (cs : List Int), q ≤ n ∧ i = .int .i64 q ∧ Hid (q % 8 = 0) ∧ Hid (Row wr g 5 .u8 cs) ∧ Hid (turnTo 8 q b cs) ∧ Hid (Below w.heap.size w wr)) (fun i _ => n - (intOf i).toNat)
        case atStart => exact ⟨0, b, by omega, rfl, Lib.hid (by simp), hr4', Lib.hid ⟨rfl, fun k hk => by simp⟩, hb4'⟩
        case round =>
          obtain ⟨q, cs, hq, rfl, hqm, hr, htu, hb⟩ := hrel; have hw1 : IntKind.i64.wrap ((q : Int) + 8) = q + 8 := by rw [IntKind.wrap_i64]; omega
          have hcl := htu.out.1; rw [hbl'.out] at hcl
          by_cases hlt : q + 8 ≤ n
          · have d2 : decide ((q : Int) + 8 ≤ n) = true := by simp; omega
            have hRV := fun cc => reverse_row g q 8 cc cs 5 wr hr.out (by omega) (by omega); have hsl := sub_at (P := Tryz.prog) (T := 24) (E := 5) Tryz.underlying24 (fun W => by kernel_rfl) g n q 8 (by omega) hlt; have hRV' := Lib.hid hRV; clear hRV
            go_wp2_with (go_at_call 149; refine (hRV'.out _).mono ?_; rintro e w5 ⟨rfl, p', hr5, hl5, hg5, hb5⟩; have HR5 := Lib.hid hr5; have HL5 := Lib.hid hl5; have HG5 := Lib.hid hg5; have HB5 := Lib.hid hb5; clear hr5 hl5 hg5 hb5)
            go_roundw
            case rel => exact ⟨q + 8, p', by omega, by go_num, Lib.hid (by have := hqm.out; first | omega | (rw [Nat.add_mod_right]; exact this)), HR5, Lib.hid (turnTo_step (by omega) hqm.out (by rw [hbl'.out]; omega) htu.out HL5.out HG5.out), Lib.hid (hb.out.trans (HB5.out.below hgw hb.out.size))⟩
            case measure => simp [intOf]; omega
          · have d2 : decide ((q : Int) + 8 ≤ n) = false := by simp; omega
            go_wp2
            go_ret
            refine ⟨some ⟨g, 0, none⟩, n, rfl, ?_, hb.out⟩; have := turnTo_end (p := 8) (by omega) hqm.out (by rw [hbl'.out]; omega) (by rw [hbl'.out]; exact hq) htu.out; have hr2 := hr.out; rw [this] at hr2; have hR := hts'.out; rw [if_pos trivial, if_pos ho'.out] at hR; rw [Int.toNat_natCast] at hR; rw [← hR]; exact hr2.own (by rw [turned_len]; exact hbl'.out) hgw (by unfold maxLen; omega)
      · have d1 : (o == 1) = false := by simp [ho]
        have ho' := Lib.hid ho; clear ho; clear hord
        go_loopw [8] (fun i wr => i = .int .i64 0 ∧ wr = w4) (fun i _ => 0)
        case atStart => exact ⟨rfl, rfl⟩
        case round =>
          obtain ⟨rfl, rfl⟩ := hrel
          go_wp2
          go_ret
          refine ⟨some ⟨g, 0, none⟩, n, rfl, ?_, hb4'.out⟩; rw [← hts'.out, if_pos trivial, if_neg ho'.out]; exact hr4'.out.own hbl'.out hgw (by unfold maxLen; omega)
    · clear ht'
      go_wp2_with fail
      refine (hm1'.out _).mono ?_; rintro e w2 ⟨rfl, hb2⟩; have HB2 := Lib.hid hb2; clear hb2
      go_wp2_with (first | (at_make; refine wpList_make_full w2 rfl _ _ 24 rfl w2.heap.size 5 i0 _ 1 Tryz.underlying24 hi hz0 hz1 .i64 .i64 _ _ n rfl rfl rfl rfl (by rw [hz2]; omega) (by unfold maxLen; omega) (Nat.le_refl _) ?_; intro w3 hown hg2; have R3 := Row.of_own (by rw [made_row] at hown; exact hown); have H3 := (HB2).out.trans (((Below.refl _ _).grown hg2 (Nat.le_refl _) (fun k e => by cases e)).mono (HB2).out.size); clear hown hg2) | (refine wpList_copy_row rfl (.tmp 25) (.tmp 26) 24 24 rfl 5 Tryz.underlying24 (by rw [hi]; simp [hz1]) w2.heap.size n .u8 _ rfl R3 (by simp) a n c b rfl (hs'.out.mono H3) w.heap.size w H3 (HB2).out.size ?_; intro w4 hr4 hb4; rw [splice_all hbl'.out (by simp)] at hr4; clear R3 H3))
      obtain ⟨g, hg⟩ : ∃ g, w2.heap.size = g := ⟨_, rfl⟩; have hgw : w.heap.size ≤ g := by rw [← hg]; exact (HB2).out.size
      rw [hg] at hr4; rw [hg]; clear HB2 hg; have hr4' := Lib.hid hr4; have hb4' := Lib.hid hb4; clear hr4 hb4
      by_cases ho : o = 1
      · have d1 : (o == 1) = true := by simp [ho]
        have ho' := Lib.hid ho; clear ho; clear hord
        go_loopw [8] (fun i wr => ∃ (q : Nat) (cs : List Int), q ≤ n ∧ i = .int .i64 q ∧ Hid (q % p = 0) ∧ Hid (Row wr g 5 .u8 cs) ∧ Hid (turnTo p q b cs) ∧ Hid (Below w.heap.size w wr)) (fun i _ => n - (intOf i).toNat)
        case atStart => exact ⟨0, b, by omega, rfl, Lib.hid (by simp), hr4', Lib.hid ⟨rfl, fun k hk => by simp⟩, hb4'⟩
        case round =>
          obtain ⟨q, cs, hq, rfl, hqm, hr, htu, hb⟩ := hrel; have hw1 : IntKind.i64.wrap ((q : Int) + p) = q + p := by rw [IntKind.wrap_i64]; omega
          have hcl := htu.out.1; rw [hbl'.out] at hcl
          by_cases hlt : q + p ≤ n
          · have d2 : decide ((q : Int) + p ≤ n) = true := by simp; omega
            have hRV := fun cc => reverse_row g q p cc cs 5 wr hr.out (by omega) (by omega); have hsl := sub_at (P := Tryz.prog) (T := 24) (E := 5) Tryz.underlying24 (fun W => by kernel_rfl) g n q p (by omega) hlt; have hRV' := Lib.hid hRV; clear hRV
            go_wp2_with (go_at_call 149; refine (hRV'.out _).mono ?_; rintro e w5 ⟨rfl, p', hr5, hl5, hg5, hb5⟩; have HR5 := Lib.hid hr5; have HL5 := Lib.hid hl5; have HG5 := Lib.hid hg5; have HB5 := Lib.hid hb5; clear hr5 hl5 hg5 hb5)
            go_roundw
            case rel => exact ⟨q + p, p', by omega, by go_num, Lib.hid (by have := hqm.out; first | omega | (rw [Nat.add_mod_right]; exact this)), HR5, Lib.hid (turnTo_step (by omega) hqm.out (by rw [hbl'.out]; omega) htu.out HL5.out HG5.out), Lib.hid (hb.out.trans (HB5.out.below hgw hb.out.size))⟩
            case measure => simp [intOf]; omega
          · have d2 : decide ((q : Int) + p ≤ n) = false := by simp; omega
            go_wp2
            go_ret
            refine ⟨some ⟨g, 0, none⟩, n, rfl, ?_, hb.out⟩; have := turnTo_end (p := p) (by omega) hqm.out (by rw [hbl'.out]; omega) (by rw [hbl'.out]; exact hq) htu.out; have hr2 := hr.out; rw [this] at hr2; have hR := hts'.out; rw [if_pos trivial, if_pos ho'.out] at hR; rw [Int.toNat_natCast] at hR; rw [← hR]; exact hr2.own (by rw [turned_len]; exact hbl'.out) hgw (by unfold maxLen; omega)
      · have d1 : (o == 1) = false := by simp [ho]
        have ho' := Lib.hid ho; clear ho; clear hord
        go_loopw [8] (fun i wr => i = .int .i64 0 ∧ wr = w4) (fun i _ => 0)
        case atStart => exact ⟨rfl, rfl⟩
        case round =>
          obtain ⟨rfl, rfl⟩ := hrel
          go_wp2
          go_ret
          refine ⟨some ⟨g, 0, none⟩, n, rfl, ?_, hb4'.out⟩; rw [← hts'.out, if_pos trivial, if_neg ho'.out]; exact hr4'.out.own hbl'.out hgw (by unfold maxLen; omega)
end Go.Proofs.YtceclmpmpldmlaaGreat
