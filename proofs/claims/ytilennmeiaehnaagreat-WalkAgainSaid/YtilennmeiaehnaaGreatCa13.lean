/- Chapter 21: the writer's spots, entries with a number: the program. | Bytes that are turned, in a row without spare room: the program. | Chapters 18, 19: a value's bytes; a value within its entry: the program. | Chapter 21: a number into the page; an entry's bytes: the program. -/
import Derived.Test.YtilennmeiaehnaaGreatCa12
import Derived.Test.YtilennmeiaehnaaGreatCa03
import Derived.Lib.AppendZerosOnto
namespace Go.Proofs.YtilennmeiaehnaaGreat
open Go.RowKit Tt
set_option linter.unusedVariables false
set_option linter.unusedSimpArgs false

theorem long21_any (t n : Int) (w : World) : Calls Tryz.prog 81 #[.int .i64 t, .int .i64 n] w fun e w' => e = .returned (.agg #[.int .i64 t, .int .i64 4, .int .i64 1, .int .i64 n]) ∧ Below w.heap.size w w' := by
  have hb1 := (Below.refl w.heap.size w).alloc (Nat.le_refl _) (.cells #[.int .i64 t, .int .i64 4, .int .i64 1, .int .i64 n] 62); have b1 := Blk.new w 62 #[.int .i64 t, .int .i64 4, .int .i64 1, .int .i64 n]; have hb1' := Lib.hid hb1; have b1' := Lib.hid b1; clear hb1 b1
  go_enter Tryz.func81, Tryz.ntmps81
  go_wp2_with fail
  refine bodyPost_ret (results_cell_row rfl _ _ w.heap.size 62 #[.int .i64 t, .int .i64 4, .int .i64 1, .int .i64 n] (0, 0) _ rfl b1'.out Tryz.underlying62 rfl (by kernel_rfl)) rfl ?_; exact ⟨rfl, hb1'.out⟩
set_option maxHeartbeats 1000000 in
theorem spot1_any (g0 g1 g2 : Nat) (what no tag : Int) (x : Spt) (w : World) (h0 : w.cell? ⟨g0, 0, none⟩ = some (.int .i64 what)) (h1 : w.cell? ⟨g1, 0, none⟩ = some (.int .i64 no)) (h2 : w.cell? ⟨g2, 0, none⟩ = some (.int .i64 tag)) (l0 : g0 < w.heap.size) (l1 : g1 < w.heap.size) (l2 : g2 < w.heap.size) :
    Calls Tryz.prog 131 #[.agg (spC x).toArray, .pointer (some ⟨g0, 0, none⟩), .pointer (some ⟨g1, 0, none⟩), .pointer (some ⟨g2, 0, none⟩)] w fun e w' => e = .returned (.bool (atP what no tag x)) ∧ Below w.heap.size w w' := by
  obtain ⟨x0, x1, x2, x3, x4⟩ := x; have hb1 := (Below.refl w.heap.size w).alloc (Nat.le_refl _) (.cells #[.int .i64 x0, .int .i64 x1, .int .i64 x2, .int .i64 x3, .int .i64 x4] 57); have e : atP what no tag (x0, x1, x2, x3, x4) = (x0 == what && x1 == no && x2 == tag) := rfl; rw [e]; simp only [spC]; obtain ⟨b0, hb0⟩ : ∃ b, (x0 == what) = b := ⟨_, rfl⟩; obtain ⟨b1, hbb⟩ : ∃ b, (x1 == no) = b := ⟨_, rfl⟩; obtain ⟨b2, hb2⟩ : ∃ b, (x2 == tag) = b := ⟨_, rfl⟩; rw [hb0, hbb, hb2]; clear e; have hb1' := Lib.hid hb1; clear hb1
  cases b0
  · go_enter Tryz.func131, Tryz.ntmps131
    go_wp2_with fail
    go_ret
    exact ⟨rfl, hb1'.out⟩
  · cases b1
    · go_enter Tryz.func131, Tryz.ntmps131
      go_wp2_with fail
      go_ret
      exact ⟨rfl, hb1'.out⟩
    · go_enter Tryz.func131, Tryz.ntmps131
      go_wp2_with fail
      go_ret
      exact ⟨rfl, hb1'.out⟩
set_option maxHeartbeats 1000000 in
theorem sidx_any (caps : Array Value) (a : Option Addr) (n c : Nat) (ls : List Spt) (p : Spt → Bool) (w : World) (hs : Sl w a n c 5 (fl spC ls))
    (hc : ∀ W (x : Spt), Below w.heap.size w W → Calls Tryz.prog 131 (#[.agg (spC x).toArray] ++ caps) W fun e W' => e = .returned (.bool (p x)) ∧ Below W.heap.size W W') :
    Calls Tryz.prog 130 #[.slice a n c, .func (.func 131) #[] caps] w fun e w' => e = .returned (.int .i64 (fst p ls)) ∧ Below w.heap.size w w' := by
  have hl := hs.flen spC_len (by decide); have hm := hs.max; have hle := hs.le; have hs' := Lib.hid hs; have hc' := Lib.hid hc; have hl' := Lib.hid hl; clear hs hc hl
  go_enter Tryz.func130, Tryz.ntmps130
  go_wp2
  go_loopw [8] (fun iv wr => ∃ k : Nat, k ≤ n ∧ iv = .int .i64 k ∧ Hid (∀ i (hi : i < ls.length), i < k → p ls[i] = false) ∧ Hid (Below w.heap.size w wr)) (fun iv _ => n - (intOf iv).toNat)
  case atStart => exact ⟨0, by omega, rfl, Lib.hid (fun j _ hj => by omega), Lib.hid (Below.refl _ _)⟩
  case round =>
    obtain ⟨k, hk, rfl, hall, hb⟩ := hrel
    by_cases hlt : k < n
    · have hww : IntKind.i64.wrap ((k : Int) + 1) = k + 1 := by rw [IntKind.wrap_i64]; omega
      have hkl : k < ls.length := by rw [hl'.out]; exact hlt
      obtain ⟨b, o, rfl, hbb, f⟩ := (hs'.out.mono hb.out).elem spC_len (by decide) (0, 0, 0, 0, 0) hlt; rw [getD_el hkl] at f; obtain ⟨r, hr⟩ : ∃ r, p (ls[k]'hkl) = r := ⟨_, rfl⟩; have HC := hc'.out wr (ls[k]'hkl) hb.out; rw [hr] at HC; obtain ⟨⟨x0, x1, x2, x3, x4⟩, hx⟩ : ∃ x, ls[k]'hkl = x := ⟨_, rfl⟩; rw [hx] at HC f; have f0 := f 0 _ rfl; have f1 := f 1 _ rfl; have f2 := f 2 _ rfl; have f3 := f 3 _ rfl; have f4 := f 4 _ rfl; clear f; simp only [spC, Nat.add_zero] at f0 f1 f2 f3 f4 HC; have HC' := Lib.hid HC; have hr' := Lib.hid hr; have hx' := Lib.hid hx; clear HC hr hx
      go_wp2_with fail
      refine HC'.out.mono ?_; rintro e w2 ⟨rfl, hb2⟩; have hbw := hb.out.trans (hb2.mono hb.out.size); clear hb2
      cases r with
      | true =>
        have hbw' := Lib.hid hbw; clear hbw
        go_wp2
        go_ret
        exact ⟨by rw [fst_at hkl hr'.out (fun i hi => hall.out i (by omega) hi)]; rfl, hbw'.out⟩
      | false =>
        have hall2 : ∀ i (hi : i < ls.length), i < k + 1 → p ls[i] = false := fun i hi h => by
          rcases Nat.lt_or_ge i k with h1 | h1
          · exact hall.out i hi h1
          · obtain rfl : i = k := by omega
            exact hr'.out
        have hbw' := Lib.hid hbw; have hall2' := Lib.hid hall2; clear hbw hall2
        go_wp2
        go_roundw
        case rel => exact ⟨k + 1, by omega, by go_num, hall2', hbw'⟩
        case measure => simp [intOf]; omega
    · obtain rfl : k = n := by omega
      go_wp2
      go_ret
      exact ⟨by rw [fst_no (fun i hi => hall.out i hi (by rw [hl'.out] at hi; exact hi))]; rfl, hb.out⟩
set_option maxHeartbeats 2000000 in
theorem wspot_any (K : Wc) (w : World) (no : Int) (P : List Int) (h : WrS K w no P) (what dir tag : Int) (hf : K.l.any (atP what dir tag) = true) :
    Calls Tryz.prog 82 #[.pointer (some ⟨K.gw, 0, none⟩), .int .i64 what, .int .i64 dir, .int .i64 tag] w fun e w' => e = .returned (.int .i64 (atS K.l what dir tag)) ∧ Below w.heap.size w w' := by
  obtain ⟨W1, hW1, b0, b1, b2, hb1, s1⟩ := three_boxes w 3 #[.int .i64 what] 3 #[.int .i64 dir] 3 #[.int .i64 tag]; have h1 := h.later hb1
  have hI := sidx_any #[.pointer (some ⟨w.heap.size, 0, none⟩), .pointer (some ⟨w.heap.size + 1, 0, none⟩), .pointer (some ⟨w.heap.size + 2, 0, none⟩)] K.spa K.spn K.spc K.l (atP what dir tag) W1 h1.sp
    (fun W x hb => spot1_any _ _ _ what dir tag x W (late hb b0.lt (b0.cell rfl)) (late hb b1.lt (b1.cell rfl)) (late hb b2.lt (b2.cell rfl)) (Nat.lt_of_lt_of_le b0.lt hb.size) (Nat.lt_of_lt_of_le b1.lt hb.size) (Nat.lt_of_lt_of_le b2.lt hb.size))
  obtain ⟨s, hs1, hs2, hs3⟩ := find_any hf; have hat : atS K.l what dir tag = s.2.2.2.1 := by unfold atS; rw [hs1]
  rw [hat]; have hlen := h1.sp.flen spC_len (by decide); have hmx := h1.sp.max; have hle := h1.sp.le; obtain ⟨k, hk⟩ : ∃ k : Nat, fst (atP what dir tag) K.l = k := ⟨(fst (atP what dir tag) K.l).toNat, by omega⟩; rw [hk] at hI hs2; rw [Int.toNat_natCast] at hs2; obtain ⟨hkl, hks⟩ := List.getElem?_eq_some_iff.1 hs2; have hkn : k < K.spn := by rw [← hlen]; exact hkl
  have hkn2 : (k : Int) < (K.spn : Int) := by omega
  have hkn3 : (0 : Int) ≤ (k : Int) := by omega
  have c2 : W1.cell? ⟨K.gw, 2, none⟩ = some (.slice K.spa K.spn K.spc) := h1.blk.cell rfl; rw [← hW1] at c2 hI; clear hs3; have h' := Lib.hid h; have h1' := Lib.hid h1; have b0' := Lib.hid b0; have b1' := Lib.hid b1; have b2' := Lib.hid b2; have hb1' := Lib.hid hb1; have hI' := Lib.hid hI; have hs1' := Lib.hid hs1; have hs2' := Lib.hid hs2; have hlen' := Lib.hid hlen; have hk' := Lib.hid hk; have hks' := Lib.hid hks; have hW1' := Lib.hid hW1; have hat' := Lib.hid hat; have hf' := Lib.hid hf; clear h h1 b0 b1 b2 hb1 hI hs1 hs2 hlen hk hks hW1 hat hf
  go_enter Tryz.func82, Tryz.ntmps82
  go_wp2_with fail
  refine hI'.out.mono ?_; rw [hW1'.out]; rintro e w2 ⟨rfl, hb2⟩; have h2 := h1'.out.later hb2; clear c2; have c2 : w2.cell? ⟨K.gw, 2, none⟩ = some (.slice K.spa K.spn K.spc) := h2.blk.cell rfl; obtain ⟨b, o, e, hlt, fe⟩ := h2.sp.elem spC_len (by decide) (0, 0, 0, 0, 0) hkn; rw [getD_el (by rw [hlen'.out]; exact hkn), hks'.out] at fe; have f3 := fe 3 _ rfl; clear fe; have hbw := hb1'.out.trans (hb2.mono hb1'.out.size); have h2' := Lib.hid h2; have hb2' := Lib.hid hb2; have hbw' := Lib.hid hbw; clear h2 hb2 hbw; rw [e] at c2
  go_wp2_with fail
  go_ret
  exact ⟨rfl, hbw'.out⟩
end Go.Proofs.YtilennmeiaehnaaGreat

namespace Go.Proofs.YtilennmeiaehnaaGreat
open Go.RowKit Tt
set_option linter.unusedVariables false
set_option linter.unusedSimpArgs false

set_option maxRecDepth 20000 in
set_option maxHeartbeats 4000000 in
theorem turn_cap (a : Option Addr) (n c : Nat) (b : List Int) (s o : Int) (w : World) (hs : Sl w a n c 1 (ints .u8 b)) (hn : n ≤ 1000000000) :
    Calls Tryz.prog 118 #[.slice a n c, .int .i64 s, .int .i64 o] w fun e w' => ∃ a2 m, e = .returned (.slice a2 m m) ∧ w'.ownsRow w.heap.size 5 1 (.slice a2 m m) m (ints .u8 (turnS b s o)) ∧ Below w.heap.size w w' := by
  obtain ⟨i0, hi, hz0, hz1, hz2⟩ := info_parts info8; have hbl := hs.ilen; have hle := hs.le; have hmx := hs.max; have hm1 := fun W => omay_any s o W; have hm2 := fun W => omay_any 1 o W; obtain ⟨t, ht⟩ : ∃ t, turnB s o = t := ⟨_, rfl⟩; have hts : turnS b s o = if t = true then (if o = 1 then turned s.toNat b else b) else [] := by unfold turnS; rw [ht]
  obtain ⟨R, hR⟩ : ∃ R, turnS b s o = R := ⟨_, rfl⟩; rw [hR]; rw [hR] at hts
  replace hts := hts.symm
  have ht' := ht; unfold turnB at ht'; obtain ⟨r1, hr1⟩ : ∃ r, mayB s o = r := ⟨_, rfl⟩; obtain ⟨r2, hr2⟩ : ∃ r, mayB 1 o = r := ⟨_, rfl⟩; rw [hr1] at hm1 ht'; rw [hr2] at hm2 ht'; have hm1' := Lib.hid hm1; have hm2' := Lib.hid hm2; have hs' := Lib.hid hs; have hbl' := Lib.hid hbl; have hts' := Lib.hid hts; clear hm1 hm2 hs hbl hts; clear hr1 hr2 hR
  go_enter Tryz.func118, Tryz.ntmps118
  cases t
  · clear ht
    cases r1
    · by_cases h8 : s = 8
      · subst h8
        obtain rfl : r2 = false := by simpa using ht'
        clear ht'
        go_wp2_with fail
        refine (hm1'.out _).mono ?_; rintro e w1 ⟨rfl, hb1⟩; have HB1 := Lib.hid hb1; clear hb1
        go_wp2_with fail
        refine (hm2'.out _).mono ?_; rintro e w2 ⟨rfl, hb2⟩; have HB2 := Lib.hid (HB1.out.trans (hb2.mono HB1.out.size)); clear hb2
        go_wp2_with fail
        go_ret
        exact ⟨none, 0, rfl, by rw [← hts'.out]; exact own_nil _ _ _ _, HB2.out⟩
      · have d8 : (s != 8) = true := by simp [h8]
        clear ht'
        go_wp2_with fail
        refine (hm1'.out _).mono ?_; rintro e w1 ⟨rfl, hb1⟩; have HB1 := Lib.hid hb1; clear hb1
        go_wp2_with fail
        go_ret
        exact ⟨none, 0, rfl, by rw [← hts'.out]; exact own_nil _ _ _ _, HB1.out⟩
    · simp at ht'
  · obtain ⟨hsz, hord⟩ := turnB_size ht
    obtain ⟨p, rfl⟩ : ∃ p : Nat, s = p := ⟨s.toNat, by omega⟩; have hp : p = 1 ∨ p = 2 ∨ p = 4 ∨ p = 8 := by omega
    have hp1 : 1 ≤ p := by omega
    have hp8 : p ≤ 8 := by omega
    clear ht hsz
    cases r1
    · have h8 : p = 8 := by simp at ht'; omega
      subst h8; obtain rfl : r2 = true := by simpa using ht'
      clear ht' hp
      go_wp2_with fail
      refine (hm1'.out _).mono ?_; rintro e w1 ⟨rfl, hb1⟩; have HB1 := Lib.hid hb1; clear hb1
      go_wp2_with fail
      refine (hm2'.out _).mono ?_; rintro e w2 ⟨rfl, hb2⟩; have HB2 := Lib.hid (HB1.out.trans (hb2.mono HB1.out.size)); clear hb2 HB1
      go_wp2_with (first | (at_make; refine wpList_make_full w2 rfl _ _ 30 rfl w2.heap.size 5 i0 _ 1 Tryz.underlying30 hi hz0 hz1 .i64 .i64 _ _ n rfl rfl rfl rfl (by rw [hz2]; omega) (by unfold maxLen; omega) (Nat.le_refl _) ?_; intro w3 hown hg2; have R3 := Row.of_own (by rw [made_row] at hown; exact hown); have H3 := (HB2).out.trans (((Below.refl _ _).grown hg2 (Nat.le_refl _) (fun k e => by cases e)).mono (HB2).out.size); clear hown hg2) | (refine wpList_copy_row rfl (.tmp 25) (.tmp 26) 30 30 rfl 5 Tryz.underlying30 (by rw [hi]; simp [hz1]) w2.heap.size n .u8 _ rfl R3 (by simp) a n c b rfl (hs'.out.mono H3) w.heap.size w H3 (HB2).out.size ?_; intro w4 hr4 hb4; rw [splice_all hbl'.out (by simp)] at hr4; clear R3 H3))
      obtain ⟨g, hg⟩ : ∃ g, w2.heap.size = g := ⟨_, rfl⟩; have hgw : w.heap.size ≤ g := by rw [← hg]; exact (HB2).out.size
      rw [hg] at hr4; rw [hg]; clear HB2 hg; have hr4' := Lib.hid hr4; have hb4' := Lib.hid hb4; clear hr4 hb4
      by_cases ho : o = 1
      · have d1 : (o == 1) = true := by simp [ho]
        have ho' := Lib.hid ho; clear ho; clear hord
        go_loopw [8] (fun i wr => ∃ (q : Nat) (cs : List Int), q ≤ n ∧ i = .int .i64 q ∧ Hid (q % 8 = 0) ∧ Hid (Row wr g 5 .u8 cs) ∧ Hid (turnTo 8 q b cs) ∧ Hid (Below w.heap.size w wr)) (fun i _ => n - (intOf i).toNat)
        case atStart => exact ⟨0, b, by omega, rfl, Lib.hid (by simp), hr4', Lib.hid ⟨rfl, fun k hk => by simp⟩, hb4'⟩
        case round =>
          obtain ⟨q, cs, hq, rfl, hqm, hr, htu, hb⟩ := hrel; have hw1 : IntKind.i64.wrap ((q : Int) + 8) = q + 8 := by rw [IntKind.wrap_i64]; omega
          have hcl := htu.out.1; rw [hbl'.out] at hcl
          by_cases hlt : q + 8 ≤ n
          · have d2 : decide ((q : Int) + 8 ≤ n) = true := by simp; omega
            have hRV := fun cc => reverse_row g q 8 cc cs 5 wr hr.out (by omega) (by omega); have hsl := sub_at (P := Tryz.prog) (T := 30) (E := 5) Tryz.underlying30 (fun W => by kernel_rfl) g n q 8 (by omega) hlt; have hRV' := Lib.hid hRV; clear hRV
            go_wp2_with (go_at_call 127; refine (hRV'.out _).mono ?_; rintro e w5 ⟨rfl, p', hr5, hl5, hg5, hb5⟩; have HR5 := Lib.hid hr5; have HL5 := Lib.hid hl5; have HG5 := Lib.hid hg5; have HB5 := Lib.hid hb5; clear hr5 hl5 hg5 hb5)
            go_roundw
            case rel => exact ⟨q + 8, p', by omega, by go_num, Lib.hid (by have := hqm.out; first | omega | (rw [Nat.add_mod_right]; exact this)), HR5, Lib.hid (turnTo_step (by omega) hqm.out (by rw [hbl'.out]; omega) htu.out HL5.out HG5.out), Lib.hid (hb.out.trans (HB5.out.below hgw hb.out.size))⟩
            case measure => simp [intOf]; omega
          · have d2 : decide ((q : Int) + 8 ≤ n) = false := by simp; omega
            go_wp2
            go_ret
            refine ⟨some ⟨g, 0, none⟩, n, rfl, ?_, hb.out⟩; have := turnTo_end (p := 8) (by omega) hqm.out (by rw [hbl'.out]; omega) (by rw [hbl'.out]; exact hq) htu.out; have hr2 := hr.out; rw [this] at hr2; have hR := hts'.out; rw [if_pos trivial, if_pos ho'.out] at hR; rw [Int.toNat_natCast] at hR; rw [← hR]; exact hr2.own (by rw [turned_len]; exact hbl'.out) hgw (by unfold maxLen; omega)
      · have d1 : (o == 1) = false := by simp [ho]
        have ho' := Lib.hid ho; clear ho; clear hord
        go_loopw [8] (fun i wr => i = .int .i64 0 ∧ wr = w4) (fun i _ => 0)
        case atStart => exact ⟨rfl, rfl⟩
        case round =>
          obtain ⟨rfl, rfl⟩ := hrel
          go_wp2
          go_ret
          refine ⟨some ⟨g, 0, none⟩, n, rfl, ?_, hb4'.out⟩; rw [← hts'.out, if_pos trivial, if_neg ho'.out]; exact hr4'.out.own hbl'.out hgw (by unfold maxLen; omega)
    · clear ht'
      go_wp2_with fail
      refine (hm1'.out _).mono ?_; rintro e w2 ⟨rfl, hb2⟩; have HB2 := Lib.hid hb2; clear hb2
      go_wp2_with (first | (at_make; refine wpList_make_full w2 rfl _ _ 30 rfl w2.heap.size 5 i0 _ 1 Tryz.underlying30 hi hz0 hz1 .i64 .i64 _ _ n rfl rfl rfl rfl (by rw [hz2]; omega) (by unfold maxLen; omega) (Nat.le_refl _) ?_; intro w3 hown hg2; have R3 := Row.of_own (by rw [made_row] at hown; exact hown); have H3 := (HB2).out.trans (((Below.refl _ _).grown hg2 (Nat.le_refl _) (fun k e => by cases e)).mono (HB2).out.size); clear hown hg2) | (refine wpList_copy_row rfl (.tmp 25) (.tmp 26) 30 30 rfl 5 Tryz.underlying30 (by rw [hi]; simp [hz1]) w2.heap.size n .u8 _ rfl R3 (by simp) a n c b rfl (hs'.out.mono H3) w.heap.size w H3 (HB2).out.size ?_; intro w4 hr4 hb4; rw [splice_all hbl'.out (by simp)] at hr4; clear R3 H3))
      obtain ⟨g, hg⟩ : ∃ g, w2.heap.size = g := ⟨_, rfl⟩; have hgw : w.heap.size ≤ g := by rw [← hg]; exact (HB2).out.size
      rw [hg] at hr4; rw [hg]; clear HB2 hg; have hr4' := Lib.hid hr4; have hb4' := Lib.hid hb4; clear hr4 hb4
      by_cases ho : o = 1
      · have d1 : (o == 1) = true := by simp [ho]
        have ho' := Lib.hid ho; clear ho; clear hord
        go_loopw [8] (fun i wr => ∃ (q : Nat) (cs : List Int), q ≤ n ∧ i = .int .i64 q ∧ Hid (q % p = 0) ∧ Hid (Row wr g 5 .u8 cs) ∧ Hid (turnTo p q b cs) ∧ Hid (Below w.heap.size w wr)) (fun i _ => n - (intOf i).toNat)
        case atStart => exact ⟨0, b, by omega, rfl, Lib.hid (by simp), hr4', Lib.hid ⟨rfl, fun k hk => by simp⟩, hb4'⟩
        case round =>
          obtain ⟨q, cs, hq, rfl, hqm, hr, htu, hb⟩ := hrel; have hw1 : IntKind.i64.wrap ((q : Int) + p) = q + p := by rw [IntKind.wrap_i64]; omega
          have hcl := htu.out.1; rw [hbl'.out] at hcl
          by_cases hlt : q + p ≤ n
          · have d2 : decide ((q : Int) + p ≤ n) = true := by simp; omega
            have hRV := fun cc => reverse_row g q p cc cs 5 wr hr.out (by omega) (by omega); have hsl := sub_at (P := Tryz.prog) (T := 30) (E := 5) Tryz.underlying30 (fun W => by kernel_rfl) g n q p (by omega) hlt; have hRV' := Lib.hid hRV; clear hRV
            go_wp2_with (go_at_call 127; refine (hRV'.out _).mono ?_; rintro e w5 ⟨rfl, p', hr5, hl5, hg5, hb5⟩; have HR5 := Lib.hid hr5; have HL5 := Lib.hid hl5; have HG5 := Lib.hid hg5; have HB5 := Lib.hid hb5; clear hr5 hl5 hg5 hb5)
            go_roundw
            case rel => exact ⟨q + p, p', by omega, by go_num, Lib.hid (by have := hqm.out; first | omega | (rw [Nat.add_mod_right]; exact this)), HR5, Lib.hid (turnTo_step (by omega) hqm.out (by rw [hbl'.out]; omega) htu.out HL5.out HG5.out), Lib.hid (hb.out.trans (HB5.out.below hgw hb.out.size))⟩
            case measure => simp [intOf]; omega
          · have d2 : decide ((q : Int) + p ≤ n) = false := by simp; omega
            go_wp2
            go_ret
            refine ⟨some ⟨g, 0, none⟩, n, rfl, ?_, hb.out⟩; have := turnTo_end (p := p) (by omega) hqm.out (by rw [hbl'.out]; omega) (by rw [hbl'.out]; exact hq) htu.out; have hr2 := hr.out; rw [this] at hr2; have hR := hts'.out; rw [if_pos trivial, if_pos ho'.out] at hR; rw [Int.toNat_natCast] at hR; rw [← hR]; exact hr2.own (by rw [turned_len]; exact hbl'.out) hgw (by unfold maxLen; omega)
      · have d1 : (o == 1) = false := by simp [ho]
        have ho' := Lib.hid ho; clear ho; clear hord
        go_loopw [8] (fun i wr => i = .int .i64 0 ∧ wr = w4) (fun i _ => 0)
        case atStart => exact ⟨rfl, rfl⟩
        case round =>
          obtain ⟨rfl, rfl⟩ := hrel
          go_wp2
          go_ret
          refine ⟨some ⟨g, 0, none⟩, n, rfl, ?_, hb4'.out⟩; rw [← hts'.out, if_pos trivial, if_neg ho'.out]; exact hr4'.out.own hbl'.out hgw (by unfold maxLen; omega)
end Go.Proofs.YtilennmeiaehnaaGreat

namespace Go.Proofs.YtilennmeiaehnaaGreat
open Go.RowKit Tt
set_option linter.unusedVariables false
set_option linter.unusedSimpArgs false

set_option maxHeartbeats 2000000 in
theorem tbytes_any (t y k : Int) (a : Option Addr) (n c : Nat) (d : List Int) (o : Int) (w : World) (hs : Sl w a n c 1 (ints .u8 d)) (hd : Byt d) (hn : n ≤ 1000000000) :
    Calls Tryz.prog 129 #[.agg #[.int .i64 y, .int .i64 k, .slice a n c], .int .i64 o] w fun e w' => ∃ a2 m, e = .returned (.slice a2 m m) ∧ w'.ownsRow w.heap.size 5 1 (.slice a2 m m) m (ints .u8 (bytesV (t, y, k, d) o)) ∧ Below w.heap.size w w' := by
  have hb1 := (Below.refl w.heap.size w).alloc (Nat.le_refl _) (.cells #[.int .i64 y, .int .i64 k, .slice a n c] 76); have b1 := Blk.new w 76 #[.int .i64 y, .int .i64 k, .slice a n c]; obtain ⟨W1, hW1⟩ : ∃ W1, w.alloc (.cells #[.int .i64 y, .int .i64 k, .slice a n c] 76) = W1 := ⟨_, rfl⟩; rw [hW1] at hb1 b1; have hM := may_any y k a n c d W1 (hs.mono hb1) hd; have hbv : bytesV (t, y, k, d) o = if mayS y k d = true then turnS d (kindS y).2.1 o else [] := rfl; obtain ⟨R, hR⟩ : ∃ R, bytesV (t, y, k, d) o = R := ⟨_, rfl⟩; rw [hR] at hbv ⊢; obtain ⟨r, hr⟩ : ∃ r, mayS y k d = r := ⟨_, rfl⟩; rw [hr] at hM hbv; rw [← hW1] at hM; clear hR; have hb1' := Lib.hid hb1; have b1' := Lib.hid b1; have hM' := Lib.hid hM; have hs' := Lib.hid hs; have hd' := Lib.hid hd; have hr' := Lib.hid hr; have hW1' := Lib.hid hW1; have hbv' := Lib.hid hbv; clear hb1 b1 hM hs hd hr hW1 hbv
  go_enter Tryz.func129, Tryz.ntmps129
  go_wp2_with fail
  refine hM'.out.mono ?_; rintro e w2 ⟨rfl, hb2⟩; rw [hW1'.out] at hb2; have hbw := hb1'.out.trans (hb2.mono hb1'.out.size); have b2 := b1'.out.late hb2
  cases r with
  | false =>
    obtain rfl : R = [] := hbv'.out; have hbw' := Lib.hid hbw; have b2' := Lib.hid b2; have hb2' := Lib.hid hb2; clear hbw b2 hb2
    go_wp2_with fail
    go_ret
    exact ⟨none, 0, rfl, own_nil _ _ _ _, hbw'.out⟩
  | true =>
    obtain rfl : R = turnS d (kindS y).2.1 o := hbv'.out; have hK := fun W => kind_any y W; obtain ⟨z0, hz0⟩ : ∃ z, (kindS y).1 = z := ⟨_, rfl⟩; clear hbv'
    generalize hpt : (kindS y).2.1 = pt at *
    obtain ⟨z2, hz2⟩ : ∃ z, (kindS y).2.2 = z := ⟨_, rfl⟩; simp only [hz0, hpt, hz2] at hK; have hfld : ∀ W, (Instr.field 177 (.agg #[.int .i64 z0, .int .i64 pt, .int .i64 z2]) 1).run Tryz.prog W = .ok (.int .i64 pt) W := fun W => by kernel_rfl
    obtain ⟨Ty, ff, hne, hbel, hsurj⟩ := later_worlds w2; have HS := Lib.hid (hsurj _ ((Below.refl _ _).drew)); have HD := Lib.hid ((Below.refl w2.heap.size w2).drew); have q0 : ∀ s, (ff s).cell? ⟨w.heap.size, 0, none⟩ = some (.int .i64 y) := fun s => (b2.late (hbel s)).cell rfl; have q2 : ∀ s, (ff s).cell? ⟨w.heap.size, 2, none⟩ = some (.slice a n c) := fun s => (b2.late (hbel s)).cell rfl; have hbw' := Lib.hid hbw; have b2' := Lib.hid b2; have hb2' := Lib.hid hb2; have hK' := Lib.hid hK; have hz0' := Lib.hid hz0; have hpt' := Lib.hid hpt; have hz2' := Lib.hid hz2; have hbel' := Lib.hid hbel; have hsurj' := Lib.hid hsurj; clear hbw b2 hb2 hK hz0 hpt hz2 hbel hsurj
    go_wp2_with fail
    refine held_begin (S := fun W => ∃ s, W = ff s) (by kernel_rfl) 9 rfl ?_; obtain ⟨wD, hwD⟩ : ∃ wD, w2.drew = wD := ⟨_, rfl⟩; rw [hwD] at HS HD ⊢; clear hwD; refine held_take [0, 1, 2, 3, 6] 4 (by kernel_rfl) (fun d _ _ _ _ h => by cases d <;> exact h) (by kernel_rfl) (by kernel_rfl) (by kernel_rfl) HS.out ?_; simp only [pickL, List.map_cons, List.map_nil, List.getD_cons_succ, List.getD_cons_zero]
    iterate 5 (go_big_quiet_step (fail))
    refine wpQuiet_nil ?_; refine held_one 4 3 (by kernel_rfl) (by kernel_rfl) ?_; simp only [pickL, List.map_cons, List.map_nil, List.getD_cons_succ, List.getD_cons_zero]
    go_wp2_with fail
    refine (hK'.out wD).mono ?_; rintro e w3 ⟨rfl, hb3⟩; have hb23 := HD.out.trans (hb3.mono HD.out.size); have HS := Lib.hid (hsurj'.out _ hb23); have hb3' := Lib.hid hb3; have hb23' := Lib.hid hb23; clear hb3 hb23
    go_wp2_with fail
    first | refine Mid.mk ⟨HS.out, ?_⟩ | refine Mid.mk ?_
    refine held_take [5] 2 (by kernel_rfl) (fun d _ _ _ _ h => by cases d <;> exact h) (by kernel_rfl) (by kernel_rfl) (by kernel_rfl) HS.out ?_; simp only [pickL, List.map_cons, List.map_nil, List.getD_cons_succ, List.getD_cons_zero]
    iterate 1 (go_big_quiet_step (fail))
    refine wpQuiet_nil ?_; refine held_one 7 1 (by kernel_rfl) (by kernel_rfl) ?_; simp only [pickL, List.map_cons, List.map_nil, List.getD_cons_succ, List.getD_cons_zero]
    go_wp2_with fail
    refine (turn_cap a n c d pt o w3 (hs'.out.mono (hbw'.out.trans (hb23'.out.mono hbw'.out.size))) hn).mono ?_; rintro e w4 ⟨a4, m4, rfl, ho4, hb4⟩; have hb24 := hb23'.out.trans (hb4.mono hb23'.out.size); have hbw4 := hbw'.out.trans (hb24.mono hbw'.out.size); have ho5 := own_mono ho4 (show w.heap.size ≤ _ from Nat.le_trans hbw'.out.size hb23'.out.size); have HS := Lib.hid (hsurj'.out _ hb24); clear ho4; have hb4' := Lib.hid hb4; have hb24' := Lib.hid hb24; have hbw4' := Lib.hid hbw4; have ho5' := Lib.hid ho5; clear hb4 hb24 hbw4 ho5
    go_wp2_with fail
    first | refine Mid.mk ⟨HS.out, ?_⟩ | refine Mid.mk ?_
    refine held_one 8 0 (by kernel_rfl) (by kernel_rfl) ?_; simp only [pickL, List.map_cons, List.map_nil, List.getD_cons_succ, List.getD_cons_zero]
    go_wp2_with fail
    first | refine Mid.mk ⟨HS.out, ?_⟩ | refine Mid.mk ?_
    refine held_last (by kernel_rfl) ?_
    go_wp2_with fail
    go_ret
    exact ⟨a4, m4, rfl, by rw [hpt'.out]; exact ho5'.out, hbw4'.out⟩
theorem padB_len {b : List Int} (h : b.length ≤ 4) : (padB b).length = 4 := by unfold padB; simp; omega
theorem zeroB_list (n : Nat) : (Builtin.zeroCells #[.int .u8 0] n).toList = ints .u8 (List.replicate n 0) := by
  apply List.ext_getElem
  · simp [Builtin.zeroCells, ints]
  · intro i h1 h2
    simp [Builtin.zeroCells, ints, Nat.mod_one]
/-- zeros behind bytes, up to four -/
theorem app_zeros (w : World) (a2 : Option Addr) (m k : Nat) (b : List Int) (B : Nat) (ty : TypeId) (ho : w.ownsRow B 5 1 (.slice a2 m m) m (ints .u8 b)) (hm : 0 < m) (hk : 0 < k) (h4 : m + k = 4) :
    ∃ a' c' w', (Builtin.append_ #[30, 3] ty #[.slice a2 m m, .int .i64 (k : Int)]).run Tryz.prog w = .ok (.slice a' 4 c') w' ∧ Sl w' a' 4 c' 1 (ints .u8 (padB b)) ∧ Below w.heap.size w w' := by
  obtain ⟨i0, hi, hz0, hz1, hz2⟩ := info_parts infoB; have hsl := (Sl.of_own ho).1; have hbl : b.length = m := hsl.ilen; obtain ⟨g, off, e, hlt, hc⟩ := hsl.lies 0 hm; subst e
  have hold : (Builtin.firstCells i0.size m (.slice (some ⟨g, off, none⟩) m m)).run Tryz.prog w.drew = .ok (ints .u8 b).toArray w.drew := by
    refine run_firstCells_some (P := Tryz.prog) (w := w.drew) i0.size m ⟨g, off, none⟩ m m (ints .u8 b) (by rw [ints_len, hbl, hz1, Nat.mul_one]) (fun j v hv => ?_); rw [Addr.add_lit]; exact hc j v hv
  have hr := Lib.run_append_grow_zeros (P := Tryz.prog) w 30 3 ty 5 i0 (.int .u8 0) .i64 .i64 Tryz.underlying30 Tryz.underlying3 hi hz0 (some ⟨g, off, none⟩) m m (ints .u8 b) hold k hk (by omega) (by omega) (by omega) (by rw [hz2]; omega) (growslice_fits (by omega) (by rw [hz2]; omega)); rw [h4] at hr; have hge := grownCap_ge w 4 m 5; have hcm := grownCap_le_maxLen w 4 m 5 (by unfold maxLen; omega); refine ⟨_, _, _, hr, ?_, ?_⟩
  · have hnew : Blk (w.drew.alloc (.cells ((ints .u8 b).toArray ++ Builtin.zeroCells (Value.int .u8 0).cells k ++ Builtin.zeroCells (Value.int .u8 0).cells (grownCap w 4 m 5 - 4)) 5)) w.heap.size 5 ((ints .u8 b).toArray ++ Builtin.zeroCells (Value.int .u8 0).cells k ++ Builtin.zeroCells (Value.int .u8 0).cells (grownCap w 4 m 5 - 4)) := Blk.new w.drew _ _
    have e1 : (Value.int .u8 0).cells = #[.int .u8 0] := rfl; rw [e1] at hnew ⊢; have hpl := padB_len (b := b) (by omega); refine (Sl.of_own (own_of_block (B := 0) (xs := ints .u8 (padB b)) hnew (Nat.zero_le _) hge hcm ?_ ?_)).1
    · simp [size_zeroCells, ints_len, hbl]; omega
    · have e2 : ((ints .u8 b).toArray ++ Builtin.zeroCells #[.int .u8 0] k ++ Builtin.zeroCells #[.int .u8 0] (grownCap w 4 m 5 - 4)).toList = ints .u8 (padB b) ++ (Builtin.zeroCells #[.int .u8 0] (grownCap w 4 m 5 - 4)).toList := by
        simp only [Array.toList_append]; rw [zeroB_list k, ← ints_append]; unfold padB; rw [show 4 - b.length = k by omega]
      rw [e2, List.take_append_of_le_length (by rw [ints_len, hpl]; omega), List.take_of_length_le (by rw [ints_len, hpl]; omega)]
  · exact ((Below.refl w.heap.size w).drew).alloc (Nat.le_refl _) _
theorem padB_full {b : List Int} (h : b.length = 4) : padB b = b := by unfold padB; rw [h]; simp
theorem byt_pad {b : List Int} (h : Byt b) : Byt (padB b) := h.append (fun x hx => by rw [List.eq_of_mem_replicate hx]; decide)
theorem byt_bytesV {x : Tgs} {o : Int} (h : Byt x.2.2.2) : Byt (bytesV x o) := by
  unfold bytesV
  split
  · exact byt_turn h _ _
  · intro x hx; cases hx
set_option maxHeartbeats 4000000 in
theorem eof_any (tag y k : Int) (a : Option Addr) (n c : Nat) (d : List Int) (o : Int) (w : World) (hs : Sl w a n c 1 (ints .u8 d)) (hd : Byt d) (hn : n ≤ 1000000000) :
    Calls Tryz.prog 128 #[.int .i64 tag, .agg #[.int .i64 y, .int .i64 k, .slice a n c], .int .i64 o] w fun e w' => ∃ x0 x1 x2 x3, e = .returned (.tuple #[.agg #[.int .i64 x0, .int .i64 x1, .int .i64 x2, .int .i64 x3], .bool (eofB tag (bytesV (tag, y, k, d) o) o)]) ∧ Below w.heap.size w w' ∧
      (eofB tag (bytesV (tag, y, k, d) o) o = true → x0 = tag ∧ x1 = y ∧ x2 = k ∧ x3 = getV (padB (bytesV (tag, y, k, d) o)) 0 4 o) := by
  obtain ⟨W1, hW1, b0, b1, hb1, s1⟩ := two_boxes w 76 #[.int .i64 y, .int .i64 k, .slice a n c] 62 #[.int .i64 0, .int .i64 0, .int .i64 0, .int .i64 0]; have hB := tbytes_any tag y k a n c d o W1 (hs.mono hb1) hd hn; have hby : Byt (bytesV (tag, y, k, d) o) := byt_bytesV hd; obtain ⟨E, hE⟩ : ∃ E, eofB tag (bytesV (tag, y, k, d) o) o = E := ⟨_, rfl⟩; rw [hE]; unfold eofB at hE
  generalize bytesV (tag, y, k, d) o = b at *
  rw [← hW1] at hB; have hs' := Lib.hid hs; have hd' := Lib.hid hd; have b0' := Lib.hid b0; have b1' := Lib.hid b1; have hb1' := Lib.hid hb1; have hW1' := Lib.hid hW1; have hB' := Lib.hid hB; have hby' := Lib.hid hby
  have hE' := Lib.hid hE; clear hs hd b0 b1 hb1 hW1 hB hby hE
  go_enter Tryz.func128, Tryz.ntmps128
  go_wp2_with fail
  refine hB'.out.mono ?_; rw [hW1'.out]; rintro e w2 ⟨a2, m, rfl, ho2, hb2⟩; have hbl : b.length = m := (Sl.of_own ho2).1.ilen; have hm1 := (Sl.of_own ho2).1.max; have b02 := b0'.out.late hb2; have b12 := b1'.out.late hb2; have hbw2 := hb1'.out.trans (hb2.mono hb1'.out.size); have hP := fun W => put_any tag 2 o W; obtain ⟨pk, hpk⟩ : ∃ b, putOk tag 2 o = b := ⟨_, rfl⟩; simp only [hpk] at hP; rw [hpk, hbl] at hE'; have b02' := Lib.hid b02; have b12' := Lib.hid b12; have hbw2' := Lib.hid hbw2; have ho2' := Lib.hid ho2; have hb2' := Lib.hid hb2; have hP' := Lib.hid hP; have hpk' := Lib.hid hpk; have hbl' := Lib.hid hbl; clear b02 b12 hbw2 ho2 hb2 hP hpk hbl
  go_wp2_with fail
  refine (hP'.out _).mono ?_; rintro e w3 ⟨a3, m3, c3, rfl, ho3, hb3⟩; have b03 := b02'.out.late hb3; have b13 := b12'.out.late hb3; have hbw3 := hbw2'.out.trans (hb3.mono hbw2'.out.size); have ho23 := own_later ho2'.out hb3; have v0 : w3.cell? ⟨w.heap.size, 0, none⟩ = some (.int .i64 y) := b03.cell rfl; have v1 : w3.cell? ⟨w.heap.size, 1, none⟩ = some (.int .i64 k) := b03.cell rfl; have p0 : w3.cell? ⟨w.heap.size + 1, 0, none⟩ = some (.int .i64 0) := b13.cell rfl; have p1 : w3.cell? ⟨w.heap.size + 1, 1, none⟩ = some (.int .i64 0) := b13.cell rfl; have p2 : w3.cell? ⟨w.heap.size + 1, 2, none⟩ = some (.int .i64 0) := b13.cell rfl; have p3 : w3.cell? ⟨w.heap.size + 1, 3, none⟩ = some (.int .i64 0) := b13.cell rfl; have y0 := b13.frozen 0; have y1 := b13.frozen 1; have y2 := b13.frozen 2; have y3 := b13.frozen 3; have bN := (((b13.set 0 (.int .i64 0)).set 1 (.int .i64 0)).set 2 (.int .i64 0)).set 3 (.int .i64 0); have hbN := (((hbw3.setCell (p := ⟨w.heap.size + 1, 0, none⟩) (by show w.heap.size ≤ w.heap.size + 1; omega) (.int .i64 0)).setCell (p := ⟨w.heap.size + 1, 1, none⟩) (by show w.heap.size ≤ w.heap.size + 1; omega) (.int .i64 0)).setCell (p := ⟨w.heap.size + 1, 2, none⟩) (by show w.heap.size ≤ w.heap.size + 1; omega) (.int .i64 0)).setCell (p := ⟨w.heap.size + 1, 3, none⟩) (by show w.heap.size ≤ w.heap.size + 1; omega) (.int .i64 0)
  cases pk with
  | false =>
    obtain rfl : E = false := hE'.out.symm; have b03' := Lib.hid b03; have b13' := Lib.hid b13; have hbw3' := Lib.hid hbw3; have ho23' := Lib.hid ho23; have hb3' := Lib.hid hb3; have ho3' := Lib.hid ho3; clear b03 b13 hbw3 ho23 hb3 ho3
    go_wp2_with fail
    refine bodyPost_ret (results_blk_tmp rfl _ _ (w.heap.size + 1) 62 #[.int .i64 0, .int .i64 0, .int .i64 0, .int .i64 0] _ rfl bN Tryz.underlying62 rfl (by kernel_rfl)) rfl ?_; exact ⟨0, 0, 0, 0, rfl, hbN, fun h => by cases h⟩
  | true =>
  by_cases hm0 : m = 0
  · have d1 : ((m : Int) == 0) = true := by simp [hm0]
    have d2 : (m == 0) = true := by simp [hm0]
    obtain rfl : E = false := by rw [← hE'.out, hm0]; rfl
    clear hm0; have b03' := Lib.hid b03; have b13' := Lib.hid b13; have hbw3' := Lib.hid hbw3; have ho23' := Lib.hid ho23; have hb3' := Lib.hid hb3; have ho3' := Lib.hid ho3; clear b03 b13 hbw3 ho23 hb3 ho3
    go_wp2_with fail
    refine bodyPost_ret (results_blk_tmp rfl _ _ (w.heap.size + 1) 62 #[.int .i64 0, .int .i64 0, .int .i64 0, .int .i64 0] _ rfl bN Tryz.underlying62 rfl (by kernel_rfl)) rfl ?_; exact ⟨0, 0, 0, 0, rfl, hbN, fun h => by cases h⟩
  have d1 : ((m : Int) == 0) = false := by simp; omega
  have d2 : (m == 0) = false := by simp [hm0]
  by_cases hm4 : 4 < m
  · have d3 : decide ((4 : Int) < (m : Int)) = true := by simp; omega
    have d4 : decide (4 < m) = true := by simp; omega
    obtain rfl : E = false := by rw [← hE'.out, decide_eq_false (show ¬ m ≤ 4 by omega)]; simp
    have b03' := Lib.hid b03; have b13' := Lib.hid b13; have hbw3' := Lib.hid hbw3; have ho23' := Lib.hid ho23; have hb3' := Lib.hid hb3; have ho3' := Lib.hid ho3; clear b03 b13 hbw3 ho23 hb3 ho3
    go_wp2_with fail
    refine bodyPost_ret (results_blk_tmp rfl _ _ (w.heap.size + 1) 62 #[.int .i64 0, .int .i64 0, .int .i64 0, .int .i64 0] _ rfl bN Tryz.underlying62 rfl (by kernel_rfl)) rfl ?_; exact ⟨0, 0, 0, 0, rfl, hbN, fun h => by cases h⟩
  have d3 : decide ((4 : Int) < (m : Int)) = false := by simp; omega
  have d4 : decide (4 < m) = false := by simp; omega
  obtain rfl : E = true := by rw [← hE'.out, decide_eq_true (show m ≠ 0 by omega), decide_eq_true (show m ≤ 4 by omega)]; rfl
  obtain ⟨k4, hk4⟩ : ∃ k4, m + k4 = 4 := ⟨4 - m, by omega⟩; have hwk : IntKind.i64.wrap (4 - (m : Int)) = (k4 : Int) := by rw [IntKind.wrap_i64]; omega
  clear bN hbN
  obtain ⟨a5, c5, w5, hr5, hs5, hb5⟩ : ∃ a' c' w', (Builtin.append_ #[30, 3] 30 #[.slice a2 m m, .int .i64 (k4 : Int)]).run Tryz.prog w3 = .ok (.slice a' 4 c') w' ∧ Sl w' a' 4 c' 1 (ints .u8 (padB b)) ∧ Below w3.heap.size w3 w' := by
    rcases Nat.eq_zero_or_pos k4 with h0 | h0
    · subst h0
      obtain rfl : m = 4 := by omega
      refine ⟨a2, 4, w3, ?_, by rw [padB_full hbl'.out]; exact (Sl.of_own ho23).1, Below.refl _ _⟩; obtain ⟨i0, hi, hz0, hz1, hz2⟩ := info_parts infoB; have hw0 : IntKind.i64.wrap (0 : Int) = 0 := by decide
      simp [Builtin.append_, run_underlying (P := Tryz.prog) Tryz.underlying30, run_underlying (P := Tryz.prog) Tryz.underlying3, sizeOf, typeInfo, zeroValue, hi, hz0, asInt, asIntOf, hw0]
      cases a2 <;> simp [storeCells]
    · exact app_zeros w3 a2 m k4 b _ _ ho23 (by omega) h0 hk4
  have hG := get_any a5 4 c5 (padB b) 0 4 o w5 hs5 (byt_pad hby'.out); have b05 := b03.late hb5; have b15 := b13.late hb5; have hbw5 := hbw3.trans (hb5.mono hbw3.size); obtain ⟨gv, hgv⟩ : ∃ v, getV (padB b) 0 4 o = v := ⟨_, rfl⟩; rw [hgv] at hG; clear v0 v1 p0 p1 p2 p3 y0 y1 y2 y3; have b03' := Lib.hid b03; have b13' := Lib.hid b13; have hbw3' := Lib.hid hbw3; have ho23' := Lib.hid ho23; have hb3' := Lib.hid hb3; have ho3' := Lib.hid ho3; have hG' := Lib.hid hG; have b05' := Lib.hid b05; have b15' := Lib.hid b15; have hbw5' := Lib.hid hbw5; have hs5' := Lib.hid hs5; have hb5' := Lib.hid hb5; have hgv' := Lib.hid hgv; clear b03 b13 hbw3 ho23 hb3 ho3 hG b05 b15 hbw5 hs5 hb5 hgv
  go_wp2_with (at_builtin; refine Lib.wpList_append_run w3 rfl _ _ _ _ rfl _ _ rfl rfl _ _ hr5 ?_)
  refine hG'.out.mono ?_; rintro e w6 ⟨rfl, hb6⟩; have b06 := b05'.out.late hb6; have b16 := b15'.out.late hb6; have hbw6 := hbw5'.out.trans (hb6.mono hbw5'.out.size); have v0 : w6.cell? ⟨w.heap.size, 0, none⟩ = some (.int .i64 y) := b06.cell rfl; have v1 : w6.cell? ⟨w.heap.size, 1, none⟩ = some (.int .i64 k) := b06.cell rfl; have p0 : w6.cell? ⟨w.heap.size + 1, 0, none⟩ = some (.int .i64 0) := b16.cell rfl; have p1 : w6.cell? ⟨w.heap.size + 1, 1, none⟩ = some (.int .i64 0) := b16.cell rfl; have p2 : w6.cell? ⟨w.heap.size + 1, 2, none⟩ = some (.int .i64 0) := b16.cell rfl; have p3 : w6.cell? ⟨w.heap.size + 1, 3, none⟩ = some (.int .i64 0) := b16.cell rfl; have y0 := b16.frozen 0; have y1 := b16.frozen 1; have y2 := b16.frozen 2; have y3 := b16.frozen 3; have bN := (((b16.set 0 (.int .i64 tag)).set 1 (.int .i64 y)).set 2 (.int .i64 k)).set 3 (.int .i64 gv); have hbN := (((hbw6.setCell (p := ⟨w.heap.size + 1, 0, none⟩) (by show w.heap.size ≤ w.heap.size + 1; omega) (.int .i64 tag)).setCell (p := ⟨w.heap.size + 1, 1, none⟩) (by show w.heap.size ≤ w.heap.size + 1; omega) (.int .i64 y)).setCell (p := ⟨w.heap.size + 1, 2, none⟩) (by show w.heap.size ≤ w.heap.size + 1; omega) (.int .i64 k)).setCell (p := ⟨w.heap.size + 1, 3, none⟩) (by show w.heap.size ≤ w.heap.size + 1; omega) (.int .i64 gv); have b06' := Lib.hid b06; have b16' := Lib.hid b16; have hbw6' := Lib.hid hbw6; have hb6' := Lib.hid hb6; clear b06 b16 hbw6 hb6
  go_wp2_with fail
  refine bodyPost_ret (results_blk_tmp rfl _ _ (w.heap.size + 1) 62 #[.int .i64 tag, .int .i64 y, .int .i64 k, .int .i64 gv] _ rfl bN Tryz.underlying62 rfl (by kernel_rfl)) rfl ?_; exact ⟨tag, y, k, gv, rfl, hbN, rfl, rfl, rfl, hgv'.out.symm⟩
end Go.Proofs.YtilennmeiaehnaaGreat

namespace Go.Proofs.YtilennmeiaehnaaGreat
open Go.RowKit Tt
set_option linter.unusedVariables false
set_option linter.unusedSimpArgs false

theorem WrS.ne_of {K : Wc} {w : World} {no : Int} {P : List Int} (h : WrS K w no P) : K.gw < w.heap.size ∧ K.gb < w.heap.size := ⟨h.blk.lt, Row.lt h.row⟩
set_option maxHeartbeats 2000000 in
theorem pgput_any (K : Wc) (w : World) (no : Int) (P : List Int) (h : WrS K w no P) (q : Nat) (v s : Int) (hok : putOk v s K.o = true) (hs1 : 1 ≤ (putS v s K.o).length) (hq : q + (putS v s K.o).length ≤ K.n) :
    Calls Tryz.prog 40 #[.pointer (some ⟨K.gw, 0, none⟩), .int .i64 q, .int .i64 v, .int .i64 s] w fun e w' => e = .returned (.tuple #[]) ∧ WrS K w' no (splice P q (putS v s K.o)) ∧ Mv K.gw K.gb nilV nilV w w' := by
  have hP := fun W => put_any v s K.o W; have c1 : w.cell? ⟨K.gw, 1, none⟩ = some (.int .i64 K.o) := h.blk.cell rfl; obtain ⟨by_, hby⟩ : ∃ b, putS v s K.o = b := ⟨_, rfl⟩; rw [hby] at hs1 hq ⊢; simp only [hby, hok] at hP; have h' := Lib.hid h; have hP' := Lib.hid hP; have hby' := Lib.hid hby
  clear h hP hby
  go_enter Tryz.func40, Tryz.ntmps40
  go_wp2_with fail
  refine (hP'.out _).mono ?_; rintro e w2 ⟨a, m, c, rfl, ho2, hb2⟩; have h2 := h'.out.later hb2; have hbl : by_.length = m := (Sl.of_own ho2).1.ilen; rw [hbl] at hs1 hq; clear c1; have c0 : w2.cell? ⟨K.gw, 0, none⟩ = some (.slice (some ⟨K.gb, 0, none⟩) K.n K.n) := h2.blk.cell rfl; have hlow := fun W => low_at (P := Tryz.prog) (T := 30) (E := 5) Tryz.underlying30 sizeB K.gb K.n q (by omega) W; obtain ⟨w3, hr3, h3, hm3, _⟩ := page_copy h2 a m c by_ (Sl.of_own ho2).1 q hs1 hq 3; have hmv := (Mv.of_below (g := K.gw) (gt := K.gb) (sv := nilV) hb2).trans hm3; have ho2' := Lib.hid ho2; have hb2' := Lib.hid hb2; have h2' := Lib.hid h2; have hbl' := Lib.hid hbl; have h3' := Lib.hid h3; have hm3' := Lib.hid hm3; have hmv' := Lib.hid hmv; clear ho2 hb2 h2 hbl h3 hm3 hmv
  go_wp2_with (at_builtin; refine wpList_copy_run _ rfl _ _ _ _ rfl _ _ rfl rfl hr3 ?_)
  go_end0
  exact ⟨rfl, h3'.out, hmv'.out⟩
end Go.Proofs.YtilennmeiaehnaaGreat
