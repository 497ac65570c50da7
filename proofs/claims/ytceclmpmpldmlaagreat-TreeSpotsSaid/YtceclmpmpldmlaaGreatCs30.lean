/- Chapter 21: holds, of the law TreeSpots. -/
import Derived.Test.YtceclmpmpldmlaaGreatCs29
import Derived.Test.YtceclmpmpldmlaaGreatCs10
import Derived.Test.YtceclmpmpldmlaaGreatCs07
import Derived.Test.YtceclmpmpldmlaaGreatCs13
namespace Go.Proofs.YtceclmpmpldmlaaGreat
open Go.RowKit Tt
set_option linter.unusedVariables false
set_option linter.unusedSimpArgs false

theorem inS_none {x : Tgs} {o : Int} (ht : tagB x.1 = true) (h : okT x = true) (ho : o = 1 ∨ o = 2) (hi : inlV x o = false) (t v : Int) : inS (t, x.2.1, x.2.2.1, v) o = none := by
  have h1 := inlV_iff h ho ht; rw [hi] at h1; have h2 : outS x.2.1 x.2.2.1 ≠ 0 := by simpa using h1.symm
  have h3 : inlB x.2.1 x.2.2.1 = false := by
    unfold outS at h2; unfold inlB
    split at h2
    · simp; omega
    · exact absurd rfl h2
  unfold inS; simp only; rw [h3, Bool.and_false, if_neg (by decide)]
set_option maxRecDepth 20000 in
set_option maxHeartbeats 2000000 in
theorem holds_any (a : Option Addr) (n c : Nat) (z : List Int) (la : Option Addr) (ln lc : Nat) (l : List Spt) (ta : Option Addr) (tn tc : Nat) (zs : List Tz) (sa : Option Addr) (sn sc : Nat) (ba : Option Addr) (bn bc : Nat) (b : List Int) (no p o : Int) (xa : Option Addr) (xn xc : Nat) (x0 A Lg nx : Int) (sl0 : List (Int × Int)) (E : List Ent) (w : World)
    (hs : Sl w a n c 1 (ints .u8 z)) (hb : Byt z) (ho : o = 1 ∨ o = 2) (hl : Sl w la ln lc 5 (fl spC l)) (ht : Tgr w ta tn tc zs) (hbl : Sl w ba bn bc 1 (ints .u8 b)) (htn : tn < 1000000) (hsn : sn < 1000000) (hn : n ≤ 1000000000)
    (hH : HoldD z l o no p (zs.map tagz) b (sl0, A, Lg, nx) E) (hE : E.length = entN tn sn bn) :
    Calls Tryz.prog 17 #[.slice a n c, .slice la ln lc, .agg #[.slice ta tn tc, .slice sa sn sc, .slice ba bn bc], .int .i64 no, .int .i64 p, .int .i64 o, .agg #[.slice xa xn xc, .int .i64 A, .int .i64 Lg, .int .i64 nx]] w fun e w' => e = .returned (.bool true) ∧ Below w.heap.size w w' := by
  have hzn := hs.ilen; have hbn := hbl.ilen; have kne := hH.ne; obtain ⟨k1, k2, k3, k4, k5, k6, k7, k8, k9⟩ := hH; obtain ⟨N, hN⟩ : ∃ N, E.length = N := ⟨_, rfl⟩; rw [hN] at k2 k3 k4 k5 hE; rw [hzn] at k2; have hG := fun W (h : Below w.heap.size w W) => get_any a n c z p 2 o W (hs.mono h) hb; simp only [k4, getB_in (n := n) (at_ := p) (size := 2) (by omega) ho k1 (by omega)] at hG; have hEn := fun W => ent_any ta sa ba tn tc sn sc bn bc W htn hsn; rw [← hE] at hEn; have hnN : ((N : Int) != (N : Int)) = false := by simp
  have hR := fun (i : Nat) W (hi : i < N) (h : Below w.heap.size w W) => eread_any a n c z o (p + 2 + 12 * (i : Int)) W (hs.mono h) hb ho (by omega) (by omega) hn
  have hEi : ∀ i (hi : i < E.length), E[i] = entAt z o (p + 2 + 12 * (i : Int)) := fun i hi => by
    have h2 : E = (List.range N).map (fun (i : Nat) => entAt z o (p + 2 + 12 * (i : Int))) := k5.symm; subst h2; rw [List.getElem_map, List.getElem_range]
  have hL := fun W (x : Ent) (t : Int) (hx : x ∈ E) (hxt : x.1 = t) (h : Below w.heap.size w W) => listed_any a n c z o p N t x E W (hs.mono h) hb ho k1 (by omega) hn k5 kne hx hxt; have hwa : IntKind.i64.wrap (p + 2) = p + 2 := by rw [IntKind.wrap_i64]; omega
  have hT := fun W (what tag at_ : Int) (h1 : l.any (atP what no tag) = true) (h2 : atS l what no tag = at_) (h : Below w.heap.size w W) => told_any la ln lc l what no tag at_ W (hl.mono h) h1 h2; obtain ⟨W1, hW1, bA, bB, hb1, s1⟩ := two_boxes w 26 #[.slice ta tn tc, .slice sa sn sc, .slice ba bn bc] 35 #[.slice xa xn xc, .int .i64 A, .int .i64 Lg, .int .i64 nx]; have hG1 := hG W1 hb1; have hs' := Lib.hid hs; have hb' := Lib.hid hb; have ho' := Lib.hid ho; have hl' := Lib.hid hl; have ht' := Lib.hid ht; have hbl' := Lib.hid hbl; have hE' := Lib.hid hE; have hzn' := Lib.hid hzn; have hbn' := Lib.hid hbn; have kne' := Lib.hid kne; have k5' := Lib.hid k5; have k6' := Lib.hid k6; have k7' := Lib.hid k7; have k8' := Lib.hid k8; have k9' := Lib.hid k9; have hN' := Lib.hid hN; have hG' := Lib.hid hG; have hEn' := Lib.hid hEn; have hR' := Lib.hid hR; have hEi' := Lib.hid hEi; have hL' := Lib.hid hL; have hT' := Lib.hid hT; have bA' := Lib.hid bA; have bB' := Lib.hid bB; have hb1' := Lib.hid hb1; have s1' := Lib.hid s1; have hG1' := Lib.hid hG1; have hW1' := Lib.hid hW1; clear hs hb ho hl ht hbl hE hzn hbn kne k5 k6 k7 k8 k9 hN hG hEn hR hEi hL hT bA bB hb1 s1 hG1 hW1
  go_enter Tryz.func17, Tryz.ntmps17
  go_wp2_with fail
  rw [hW1'.out]; refine hG1'.out.mono ?_; rintro e w2 ⟨rfl, hb2⟩; have hbw2 := hb1'.out.trans (hb2.mono hb1'.out.size); have bA2 := bA'.out.late hb2; have bB2 := bB'.out.late hb2; have c0 := bA2.cell (i := 0) rfl; have c1 := bA2.cell (i := 1) rfl; have c2 := bA2.cell (i := 2) rfl; have hb2' := Lib.hid hb2; have hbw2' := Lib.hid hbw2; have bA2' := Lib.hid bA2; have bB2' := Lib.hid bB2; clear hb2 hbw2 bA2 bB2
  go_wp2_with fail
  refine (hEn'.out w2).mono ?_; rintro e w3 ⟨rfl, hb3⟩; have hbw3 := hbw2'.out.trans (hb3.mono hbw2'.out.size); have bA3 := bA2'.out.late hb3; have bB3 := bB2'.out.late hb3; clear c0 c1 c2; have hb3' := Lib.hid hb3; have hbw3' := Lib.hid hbw3; have bA3' := Lib.hid bA3; have bB3' := Lib.hid bB3; clear hb3 hbw3 bA3 bB3
  go_wp2_with fail
  go_loopw [17, 18] (fun lv iv wr => ∃ (q : Int) (i : Nat), i ≤ N ∧ lv = .int .i64 q ∧ iv = .int .i64 i ∧ Hid (∀ j (hj : j < E.length), i ≤ j → q < E[j].1) ∧ Hid (Blk wr w.heap.size 26 #[.slice ta tn tc, .slice sa sn sc, .slice ba bn bc]) ∧ Hid (Blk wr (w.heap.size + 1) 35 #[.slice xa xn xc, .int .i64 A, .int .i64 Lg, .int .i64 nx]) ∧ Hid (Below w.heap.size w wr)) (fun _ iv _ => N - (intOf iv).toNat)
  case atStart => exact ⟨-1, 0, by omega, rfl, rfl, Lib.hid (fun j hj _ => by have := k7'.out _ (List.getElem_mem hj); omega), bA3', bB3', hbw3'⟩
  case round =>
    obtain ⟨q, i, hi, rfl, rfl, hall, hbA, hbB, hbr⟩ := hrel
    by_cases hlt : i < N
    · have hil : (i : Int) < (N : Int) := by omega
      have hww : IntKind.i64.wrap ((i : Int) + 1) = i + 1 := by rw [IntKind.wrap_i64]; omega
      have hwb : IntKind.i64.wrap (12 * (i : Int)) = 12 * i := by rw [IntKind.wrap_i64]; omega
      have hwc : IntKind.i64.wrap (p + 2 + 12 * (i : Int)) = p + 2 + 12 * i := by rw [IntKind.wrap_i64]; omega
      have hkl : i < E.length := by rw [hN'.out]; exact hlt
      have hRi := hR'.out i wr hlt hbr.out; rw [← hEi'.out i hkl] at hRi; have hq := hall.out i hkl (Nat.le_refl _); have hnx : ∀ j (hj : j < E.length), i + 1 ≤ j → E[i].1 < E[j].1 := fun j hj h => List.pairwise_iff_getElem.1 k6'.out i j hkl hj (by omega); obtain ⟨⟨y0, y1, y2, y3⟩, hxx⟩ : ∃ q, E[i] = q := ⟨_, rfl⟩; rw [hxx] at hRi hq hnx; unfold entV at hRi; simp only at hRi hq hnx; have g1 : decide (y0 ≤ q) = false := by simp; omega
      have hRi' := Lib.hid hRi; have hxx' := Lib.hid hxx; have hnx' := Lib.hid hnx; clear hRi hxx hnx
      go_wp2_with fail
      refine hRi'.out.mono ?_; rintro e w4 ⟨rfl, hb4⟩; have hal := (Below.refl w4.heap.size w4).alloc (Nat.le_refl _) (.cells #[.int .i64 y0, .int .i64 y1, .int .i64 y2, .int .i64 y3] 55); have bN := Blk.new w4 55 #[.int .i64 y0, .int .i64 y1, .int .i64 y2, .int .i64 y3]; have hb5 := hb4.trans (hal.mono hb4.size); have hbr5 := hbr.out.trans (hb5.mono hbr.out.size); have bA5 := hbA.out.late hb5; have bB5 := hbB.out.late hb5; have n0 := bN.cell (i := 0) rfl; have hb4' := Lib.hid hb4; have hal' := Lib.hid hal; have bN' := Lib.hid bN; have hb5' := Lib.hid hb5; have hbr5' := Lib.hid hbr5; have bA5' := Lib.hid bA5; have bB5' := Lib.hid bB5; clear hb4 hal bN hb5 hbr5 bA5 bB5
      go_wp2_with fail
      go_roundw
      case rel => exact ⟨y0, i + 1, by omega, rfl, by go_num, hnx', bA5', bB5', hbr5'⟩
      case measure => simp [intOf]; omega
    obtain rfl : i = N := by omega
    have hbA' := Lib.hid hbA; have hbB' := Lib.hid hbB; have hbr' := Lib.hid hbr
    go_wp2_with fail
    go_loopw [21] (fun kv wr => ∃ k : Nat, k ≤ tn ∧ kv = .int .i64 k ∧ Hid (Blk wr w.heap.size 26 #[.slice ta tn tc, .slice sa sn sc, .slice ba bn bc]) ∧ Hid (Blk wr (w.heap.size + 1) 35 #[.slice xa xn xc, .int .i64 A, .int .i64 Lg, .int .i64 nx]) ∧ Hid (Below w.heap.size w wr)) (fun kv _ => tn - (intOf kv).toNat)
    case atStart => exact ⟨0, by omega, rfl, hbA, hbB, hbr⟩
    case round =>
      obtain ⟨k, hk, rfl, hbA, hbB, hbr⟩ := hrel
      by_cases hlt : k < tn
      · have hil : (k : Int) < (tn : Int) := by omega
        have hww : IntKind.i64.wrap ((k : Int) + 1) = k + 1 := by rw [IntKind.wrap_i64]; omega
        obtain ⟨rb, ro, rfl, hrlt, f0, f1, f2, f3, hrd⟩ := (ht'.out.mono hbr.out).at hlt; have hmz : zs.getD k tz0 ∈ zs := by rw [getD_el (by rw [ht'.out.len]; exact hlt)]; exact List.getElem_mem _
        have hk8 := k8'.out _ (List.mem_map.2 ⟨_, hmz, rfl⟩); clear hmz; obtain ⟨⟨⟨tg, ty, cnt, da, dn, dc⟩, dd⟩, hzz⟩ : ∃ q, zs.getD k tz0 = q := ⟨_, rfl⟩; rw [hzz] at f0 f1 f2 f3 hrd hk8; clear hzz; unfold tagz at hk8; simp only at f0 f1 f2 f3 hrd hk8; obtain ⟨m1, m2, m3, m4, m5⟩ := hk8; have hent : entT l o no (tg, ty, cnt, dd) = (tg, ty, cnt, if inlV (tg, ty, cnt, dd) o = true then getV (padB (bytesV (tg, ty, cnt, dd) o)) 0 4 o else atS l 3 no tg) := rfl; obtain ⟨sl, hsl⟩ : ∃ v, (if inlV (tg, ty, cnt, dd) o = true then getV (padB (bytesV (tg, ty, cnt, dd) o)) 0 4 o else atS l 3 no tg) = v := ⟨_, rfl⟩; rw [hsl] at hent; rw [hent] at m1; have hL1 := hL'.out wr _ tg m1 rfl hbr.out; have hV := fun W => value_any (tg, ty, cnt, sl) o W; unfold entV at hL1 hV; simp only at hL1 hV; have c0 := hbA.out.cell (i := 0) rfl; have e1 : (ty != ty) = false := by simp
        have e2 : (cnt != cnt) = false := by simp
        have hbd : Byt dd := m4; have hrd' := Lib.hid hrd; have m1' := Lib.hid m1; have m2' := Lib.hid m2; have m3' := Lib.hid m3; have m4' := Lib.hid m4; have m5' := Lib.hid m5; have hent' := Lib.hid hent; have hsl' := Lib.hid hsl; have hL1' := Lib.hid hL1; have hV' := Lib.hid hV; clear hrd m1 m2 m3 m4 m5 hent hsl hL1 hV; have hbA' := Lib.hid hbA; have hbB' := Lib.hid hbB; have hbr' := Lib.hid hbr
        go_wp2_with fail
        refine hL1'.out.mono ?_; rintro e w4 ⟨rfl, hb4⟩; have hal := (Below.refl w4.heap.size w4).alloc (Nat.le_refl _) (.cells #[.int .i64 tg, .int .i64 ty, .int .i64 cnt, .int .i64 sl] 55); have bX := Blk.new w4 55 #[.int .i64 tg, .int .i64 ty, .int .i64 cnt, .int .i64 sl]; obtain ⟨gX, hgX⟩ : ∃ g, w4.heap.size = g := ⟨_, rfl⟩; obtain ⟨W5, hW5⟩ : ∃ W, w4.alloc (.cells #[.int .i64 tg, .int .i64 ty, .int .i64 cnt, .int .i64 sl] 55) = W := ⟨_, rfl⟩; rw [hW5] at hal bX; rw [hgX] at bX; have hb05 := hb4.trans (hal.mono hb4.size); have hbr5 := hbr.out.trans (hb05.mono hbr.out.size); have bA5 := hbA.out.late hb05; have bB5 := hbB.out.late hb05; have bX5 := bX; clear f0 c0; obtain ⟨Ty, ff, hne, hbel, hsurj⟩ := later_worlds W5; have HS := Lib.hid (hsurj _ ((Below.refl _ _).drew)); have g1 := fun s => late (hb05.trans ((hbel s).mono hb05.size)) hrlt f1; have g2 := fun s => late (hb05.trans ((hbel s).mono hb05.size)) hrlt f2; have d0 : ∀ s, (ff s).cell? ⟨w.heap.size, 0, none⟩ = some (.slice (some ⟨rb, ro, none⟩) tn tc) := fun s => (bA5.late (hbel s)).cell rfl; have n1 : ∀ s, (ff s).cell? ⟨gX, 1, none⟩ = some (.int .i64 ty) := fun s => (bX.late (hbel s)).cell rfl; have n2 : ∀ s, (ff s).cell? ⟨gX, 2, none⟩ = some (.int .i64 cnt) := fun s => (bX.late (hbel s)).cell rfl; have f1' := Lib.hid f1; have f2' := Lib.hid f2; have f3' := Lib.hid f3; have hrlt' := Lib.hid hrlt; clear f1 f2 f3 hrlt; have hb4' := Lib.hid hb4; have hal' := Lib.hid hal; have bX' := Lib.hid bX; have hb05' := Lib.hid hb05; have hbr5' := Lib.hid hbr5; have bA5' := Lib.hid bA5; have bB5' := Lib.hid bB5; have bX5' := Lib.hid bX5; have hgX' := Lib.hid hgX; have hW5' := Lib.hid hW5; have hbel' := Lib.hid hbel; have hsurj' := Lib.hid hsurj; clear hb4 hal bX hb05 hbr5 bA5 bB5 bX5 hgX hW5 hbel hsurj
        go_upto_region 16 with fail
        rw [hW5'.out, hgX'.out]; refine wp_quiet_in ff (by kernel_rfl) (by kernel_rfl) HS.out ?_
        iterate 26 (go_big_quiet_step (fail))
        refine wpQuiet_nil ?_; intro s; have hbz := hbel'.out s; clear g1 g2 d0 n1 n2 HS; obtain ⟨W6, hW6⟩ : ∃ W, ff s = W := ⟨_, rfl⟩; rw [hW6] at hbz ⊢; clear hW6 hsurj' hbel' hne; have hb06 := hb05'.out.trans (hbz.mono hb05'.out.size); have hbr6 := hbr5'.out.trans (hbz.mono hbr5'.out.size); have bA6 := bA5'.out.late hbz; have bB6 := bB5'.out.late hbz; have bX6 := bX5'.out.late hbz; have n0 : W6.cell? ⟨gX, 0, none⟩ = some (.int .i64 tg) := bX6.cell rfl; have n1 : W6.cell? ⟨gX, 1, none⟩ = some (.int .i64 ty) := bX6.cell rfl; have n2 : W6.cell? ⟨gX, 2, none⟩ = some (.int .i64 cnt) := bX6.cell rfl; have n3 : W6.cell? ⟨gX, 3, none⟩ = some (.int .i64 sl) := bX6.cell rfl; have hb06' := Lib.hid hb06; have hbr6' := Lib.hid hbr6; have bA6' := Lib.hid bA6; have bB6' := Lib.hid bB6; have bX6' := Lib.hid bX6; have hbz' := Lib.hid hbz; clear hb06 hbr6 bA6 bB6 bX6 hbz
        go_wp2_with fail
        refine (hV'.out _).mono ?_; rintro e w7 ⟨ty', cnt', a7, q7, c7, cl, rfl, hb7, hd7⟩; clear n0 n1 n2 n3; have hb07 := hb06'.out.trans (hb7.mono hb06'.out.size); have hbr7 := hbr6'.out.trans (hb7.mono hbr6'.out.size); have bA7 := bA6'.out.late hb7; have bB7 := bB6'.out.late hb7; have bX7 := bX6'.out.late hb7; have hal7 := (Below.refl w7.heap.size w7).alloc (Nat.le_refl _) (.cells #[.int .i64 ty', .int .i64 cnt', .slice a7 q7 c7] 72); have bV := Blk.new w7 72 #[.int .i64 ty', .int .i64 cnt', .slice a7 q7 c7]; obtain ⟨gV, hgV⟩ : ∃ g, w7.heap.size = g := ⟨_, rfl⟩; obtain ⟨W8, hW8⟩ : ∃ W, w7.alloc (.cells #[.int .i64 ty', .int .i64 cnt', .slice a7 q7 c7] 72) = W := ⟨_, rfl⟩; rw [hW8] at hal7 bV; rw [hgV] at bV; have hb07' := Lib.hid hb07; have hbr7' := Lib.hid hbr7; have bA7' := Lib.hid bA7; have bB7' := Lib.hid bB7; have bX7' := Lib.hid bX7; clear hb07 hbr7 bA7 bB7 bX7; have hb08 := hb07'.out.trans (hal7.mono hb07'.out.size); have hbr8 := hbr7'.out.trans (hal7.mono hbr7'.out.size); have bA8 := bA7'.out.late hal7; have bB8 := bB7'.out.late hal7; have bX8 := bX7'.out.late hal7
        cases hin : inlV (tg, ty, cnt, dd) o with
        | true =>
          have hI := inS_back (x := (tg, ty, cnt, dd)) m4'.out m3'.out ho'.out hin tg; have hs2 := hsl'.out; rw [hin, if_pos rfl] at hs2; simp only [hs2] at hI; rw [hI] at hd7; rw [hI]; obtain ⟨i1, i2, i3, ho7⟩ := hd7 _ rfl
          replace i1 := i1.symm
          replace i2 := i2.symm
          subst i1 i2 i3; have hs7 := (Sl.of_own ho7).1; simp only at hs7; clear hI hs2 hd7; obtain ⟨Ty, ff, hne, hbel, hsurj⟩ := later_worlds W8; have HS := Lib.hid (hsurj _ ((Below.refl _ _).drew)); have g1 := fun s => late (hb08.trans ((hbel s).mono hb08.size)) hrlt'.out f1'.out; have g2 := fun s => late (hb08.trans ((hbel s).mono hb08.size)) hrlt'.out f2'.out; have g3 := fun s => late (hb08.trans ((hbel s).mono hb08.size)) hrlt'.out f3'.out; have d0 : ∀ s, (ff s).cell? ⟨w.heap.size, 0, none⟩ = some (.slice (some ⟨rb, ro, none⟩) tn tc) := fun s => (bA8.late (hbel s)).cell rfl; have v0 : ∀ s, (ff s).cell? ⟨gV, 0, none⟩ = some (.int .i64 ty) := fun s => (bV.late (hbel s)).cell rfl; have v1 : ∀ s, (ff s).cell? ⟨gV, 1, none⟩ = some (.int .i64 cnt) := fun s => (bV.late (hbel s)).cell rfl; have v2 : ∀ s, (ff s).cell? ⟨gV, 2, none⟩ = some (.slice a7 q7 c7) := fun s => (bV.late (hbel s)).cell rfl
          have hsm : ∀ s, Calls Tryz.prog 52 #[.agg #[.int .i64 ty, .int .i64 cnt, .slice a7 q7 c7], .agg #[.int .i64 ty, .int .i64 cnt, .slice da dn dc]] (ff s) fun e w' => e = .returned (.bool true) ∧ Below (ff s).heap.size (ff s) w' := fun s => by
            have h := tsame_any ty cnt ty cnt a7 da q7 c7 dn dc dd dd (ff s) (hs7.mono (hal7.trans ((hbel s).mono hal7.size))) (hrd'.out.mono (hb08.trans ((hbel s).mono hb08.size))) m4'.out m4'.out
            rwa [show (ty == ty && cnt == cnt && dd == dd) = true by simp] at h
          have hal7' := Lib.hid hal7; have bV' := Lib.hid bV; have hb08' := Lib.hid hb08; have hbr8' := Lib.hid hbr8; have bA8' := Lib.hid bA8; have bB8' := Lib.hid bB8; have bX8' := Lib.hid bX8; have hgV' := Lib.hid hgV; have hW8' := Lib.hid hW8; have hbel' := Lib.hid hbel; have hsurj' := Lib.hid hsurj; have hsm' := Lib.hid hsm; have hs7' := Lib.hid hs7; have ho7' := Lib.hid ho7; have hin' := Lib.hid hin; clear hal7 bV hb08 hbr8 bA8 bB8 bX8 hgV hW8 hbel hsurj hsm hs7 ho7 hin
          go_upto_region 20 with fail
          rw [hW8'.out, hgV'.out]; refine wp_quiet_in ff (by kernel_rfl) (by kernel_rfl) HS.out ?_
          iterate 9 (go_big_quiet_step ((go_at_call 52; refine (hsm'.out _).mono ?_; rintro e wc ⟨rfl, hbc⟩; exact ⟨rfl, hsurj'.out _ ((hbel'.out _).trans (hbc.mono (hbel'.out _).size))⟩)))
          refine wpQuiet_nil ?_; intro s; have hbz := hbel'.out s; clear g1 g2 g3 d0 v0 v1 v2 HS; obtain ⟨W9, hW9⟩ : ∃ W, ff s = W := ⟨_, rfl⟩; rw [hW9] at hbz ⊢; clear hW9 hsurj' hbel' hne hsm'; have hb09 := hb08'.out.trans (hbz.mono hb08'.out.size); have hbr9 := hbr8'.out.trans (hbz.mono hbr8'.out.size); have bA9 := bA8'.out.late hbz; have bB9 := bB8'.out.late hbz; have bX9 := bX8'.out.late hbz; have hb09' := Lib.hid hb09; have hbr9' := Lib.hid hbr9; have bA9' := Lib.hid bA9; have bB9' := Lib.hid bB9; have bX9' := Lib.hid bX9; have hbz' := Lib.hid hbz; clear hb09 hbr9 bA9 bB9 bX9 hbz
          go_wp2_with fail
          go_roundw
          case rel => exact ⟨k + 1, by omega, by go_num, bA9', bB9', hbr9'⟩
          case measure => simp [intOf]; omega
        | false =>
          have hI := inS_none (x := (tg, ty, cnt, dd)) m2'.out m3'.out ho'.out hin tg sl; simp only at hI; rw [hI]; have hs2 := hsl'.out; rw [hin, if_neg (by decide)] at hs2; obtain ⟨r1, r2, r3, r4⟩ := m5'.out hin; rw [hs2] at r2 r3 r4; rw [hzn'.out] at r3; have hofs := ofS_back (x := (tg, ty, cnt, dd)) (b := z.drop sl.toNat) m3'.out ho'.out r4; simp only at hofs; have hTT := hT'.out W8 3 tg sl r1 hs2 hbr8; clear hI hd7 hs2 r1 r4; obtain ⟨S, hSe⟩ : ∃ S : Nat, sl = S := ⟨sl.toNat, by omega⟩; subst hSe; rw [Int.toNat_natCast] at hofs; have hSn : S ≤ n := by omega
          clear r2 r3; have t1 : decide ((S : Int) < 0) = false := by simp
          have t2 : decide ((n : Int) < (S : Int)) = false := by simp; omega
          have t3 : decide (n < S) = false := by simp; omega
          have t4 : ¬ n < S := by omega
          have n0 : W8.cell? ⟨gX, 0, none⟩ = some (.int .i64 tg) := bX8.cell rfl; have n3 : W8.cell? ⟨gX, 3, none⟩ = some (.int .i64 S) := bX8.cell rfl; have hal7' := Lib.hid hal7; have bV' := Lib.hid bV; have hb08' := Lib.hid hb08; have hbr8' := Lib.hid hbr8; have bA8' := Lib.hid bA8; have bB8' := Lib.hid bB8; have bX8' := Lib.hid bX8; have hgV' := Lib.hid hgV; have hW8' := Lib.hid hW8; have hin' := Lib.hid hin; have hofs' := Lib.hid hofs; have hTT' := Lib.hid hTT; have hSn' := Lib.hid hSn; clear hal7 bV hb08 hbr8 bA8 bB8 bX8 hgV hW8 hin hofs hTT hSn
          go_upto_region 22 with fail
          rw [hW8'.out]
          go_wp2_with fail
          refine hTT'.out.mono ?_; rintro e w9 ⟨rfl, hb9⟩; clear n0 n3; have hb09 := hb08'.out.trans (hb9.mono hb08'.out.size); have hbr9 := hbr8'.out.trans (hb9.mono hbr8'.out.size); have bA9 := bA8'.out.late hb9; have bB9 := bB8'.out.late hb9; have bX9 := bX8'.out.late hb9; have n3 : w9.cell? ⟨gX, 3, none⟩ = some (.int .i64 S) := bX9.cell rfl; obtain ⟨a8, hsl8, hs8, hin8⟩ := sub_l (P := Tryz.prog) (T := 24) (E := 5) (sz := 1) Tryz.underlying24 (fun W => by kernel_rfl) (hs'.out.mono hbr9) (S : Int) (by omega) (by have := hSn'.out; omega) (n - S) (c - S) (by have := hSn'.out; omega) (by have := hSn'.out; have := hs'.out.le; omega); rw [Nat.mul_one, Int.toNat_natCast, show (ints .u8 z).drop S = ints .u8 (z.drop S) by simp [ints]] at hs8; have HO := fun W (h : Below w9.heap.size w9 W) => of_any ty cnt a8 (n - S) (c - S) (z.drop S) o W (hs8.mono h) (hb'.out.drop _); rw [hofs'.out] at HO; obtain ⟨Ty, ff, hne, hbel, hsurj⟩ := later_worlds w9; have HS := Lib.hid (hsurj _ ((Below.refl _ _).drew)); have HD := Lib.hid ((Below.refl w9.heap.size w9).drew); have n1s : ∀ s, (ff s).cell? ⟨gX, 1, none⟩ = some (.int .i64 ty) := fun s => (bX9.late (hbel s)).cell rfl; have n2s : ∀ s, (ff s).cell? ⟨gX, 2, none⟩ = some (.int .i64 cnt) := fun s => (bX9.late (hbel s)).cell rfl; have n3s : ∀ s, (ff s).cell? ⟨gX, 3, none⟩ = some (.int .i64 S) := fun s => (bX9.late (hbel s)).cell rfl; have hb9' := Lib.hid hb9; have hb09' := Lib.hid hb09; have hbr9' := Lib.hid hbr9; have bA9' := Lib.hid bA9; have bB9' := Lib.hid bB9; have bX9' := Lib.hid bX9; have hbel' := Lib.hid hbel; have hsurj' := Lib.hid hsurj; have hs8' := Lib.hid hs8; have hin8' := Lib.hid hin8; have HO' := Lib.hid HO; clear hb9 hb09 hbr9 bA9 bB9 bX9 hbel hsurj hs8 hin8 HO
          go_wp2_with fail
          clear n3; refine held_begin (S := fun W => ∃ s, W = ff s) (by kernel_rfl) 16 rfl ?_; refine held_take [0, 1, 2, 3, 4, 5, 6, 7, 8] 7 (by kernel_rfl) (fun d _ _ _ _ h => by cases d <;> exact h) (by kernel_rfl) (by kernel_rfl) (by kernel_rfl) HS.out ?_; simp only [pickL, List.map_cons, List.map_nil, List.getD_cons_succ, List.getD_cons_zero]
          iterate 9 (go_big_quiet_step (fail))
          refine wpQuiet_nil ?_; refine held_two 9 13 6 (by kernel_rfl) (by kernel_rfl) ?_ ?_
          all_goals simp only [pickL, List.map_cons, List.map_nil, List.getD_cons_succ, List.getD_cons_zero]
          case refine_1 =>
            go_wp2_with fail
            refine (HO'.out _ HD.out).mono ?_; rintro e wp ⟨ty2, cnt2, a3, q3, c3, rfl, hbp, hdp⟩; obtain ⟨i1, i2, hop⟩ := hdp dd rfl
            replace i1 := i1.symm
            replace i2 := i2.symm
            subst i1 i2; clear hdp; have hbp2 := HD.out.trans (hbp.mono HD.out.size); have HS := Lib.hid (hsurj'.out _ hbp2); have hbp' := Lib.hid hbp; have hop' := Lib.hid hop; have hbp2' := Lib.hid hbp2; clear hbp hop hbp2
            go_wp2_with fail
            first | refine Mid.mk ⟨HS.out, ?_⟩ | refine Mid.mk ?_
            refine held_take [10, 11, 12] 3 (by kernel_rfl) (fun d _ _ _ _ h => by cases d <;> exact h) (by kernel_rfl) (by kernel_rfl) (by kernel_rfl) HS.out ?_; simp only [pickL, List.map_cons, List.map_nil, List.getD_cons_succ, List.getD_cons_zero]
            iterate 3 (go_big_quiet_step (fail))
            refine wpQuiet_nil ?_; refine held_one 13 2 (by kernel_rfl) (by kernel_rfl) ?_; simp only [pickL, List.map_cons, List.map_nil, List.getD_cons_succ, List.getD_cons_zero]
            go_wp2_with fail
            have hal := (Below.refl wp.heap.size wp).alloc (Nat.le_refl _) (.cells #[.int .i64 0, .int .i64 0, .slice none 0 0] 72); have bq := Blk.new wp 72 #[.int .i64 0, .int .i64 0, .slice none 0 0]; have hbq := hbp2'.out.trans (hal.mono hbp2'.out.size); have hgq : w9.heap.size ≤ wp.heap.size := hbp2'.out.size; have hoq := own_later hop'.out hal; have hnq : (Value.slice a3 q3 c3).ownBlock ≠ some wp.heap.size := fun e => by have := (hop'.out.lt _ e).2; omega
            have hoB : w9.drew.heap.size = w9.heap.size := rfl; rw [hoB] at hoq; clear hal hoB
            generalize wp.alloc (.cells #[.int .i64 0, .int .i64 0, .slice none 0 0] 72) = wq at *
            generalize wp.heap.size = gq at *
            have HS := Lib.hid (hsurj'.out _ hbq); have bq' := Lib.hid bq; have hbq' := Lib.hid hbq; have hgq' := Lib.hid hgq; have hoq' := Lib.hid hoq; have hnq' := Lib.hid hnq; clear bq hbq hgq hoq hnq
            first | refine Mid.mk ⟨HS.out, ?_⟩ | refine Mid.mk ?_
            refine held_one 14 1 (by kernel_rfl) (by kernel_rfl) ?_; simp only [pickL, List.map_cons, List.map_nil, List.getD_cons_succ, List.getD_cons_zero]; have p0 : wq.cell? ⟨gq, 0, none⟩ = some (.int .i64 0) := bq'.out.cell rfl; have p1 : wq.cell? ⟨gq, 1, none⟩ = some (.int .i64 0) := bq'.out.cell rfl; have p2 : wq.cell? ⟨gq, 2, none⟩ = some (.slice none 0 0) := bq'.out.cell rfl; have y0 := bq'.out.frozen 0; have y1 := bq'.out.frozen 1; have y2 := bq'.out.frozen 2
            go_wp2_with fail
            have bV9 := bq'.out.set3 (.int .i64 ty) (.int .i64 cnt) (.slice a3 q3 c3); have hbw := below_set3 hbq'.out hgq'.out (.int .i64 ty) (.int .i64 cnt) (.slice a3 q3 c3); have HS := Lib.hid (hsurj'.out _ hbw); have hov := own_but hoq'.out ((((But.refl gq wq).set 0 (.int .i64 ty)).set 1 (.int .i64 cnt)).set 2 (.slice a3 q3 c3)) hnq'.out; refine Mid.mk ⟨HS.out, ?_⟩; refine held_take [15] 0 (by kernel_rfl) (fun d _ _ _ _ h => by cases d <;> exact h) (by kernel_rfl) (by kernel_rfl) (by kernel_rfl) HS.out ?_; simp only [pickL, List.map_cons, List.map_nil, List.getD_cons_succ, List.getD_cons_zero]
            iterate 1 (go_big_quiet_step (fail))
            refine wpQuiet_nil ?_; refine held_last (by kernel_rfl) ?_; clear p0 p1 p2 y0 y1 y2 bq' hbq' hoq' n1s n2s n3s HS HD
            generalize (((wq.setCell ⟨gq, 0, none⟩ (.int .i64 ty)).setCell ⟨gq, 1, none⟩ (.int .i64 cnt)).setCell ⟨gq, 2, none⟩ (.slice a3 q3 c3)) = wv at *
            have hsv := (Sl.of_own hov).1; clear hsurj' hbel' hne; have hb010 := hb09'.out.trans (hbw.mono hb09'.out.size); have hbr10 := hbr9'.out.trans (hbw.mono hbr9'.out.size); have bA10 := bA9'.out.late hbw; have bB10 := bB9'.out.late hbw; have bX10 := bX9'.out.late hbw; obtain ⟨Ty2, f2, hne2, hbel2, hsurj2⟩ := later_worlds wv; have HS := Lib.hid (hsurj2 _ ((Below.refl _ _).drew)); have g1 := fun s => late (hb010.trans ((hbel2 s).mono hb010.size)) hrlt'.out f1'.out; have g2 := fun s => late (hb010.trans ((hbel2 s).mono hb010.size)) hrlt'.out f2'.out; have g3 := fun s => late (hb010.trans ((hbel2 s).mono hb010.size)) hrlt'.out f3'.out; have d0 : ∀ s, (f2 s).cell? ⟨w.heap.size, 0, none⟩ = some (.slice (some ⟨rb, ro, none⟩) tn tc) := fun s => (bA10.late (hbel2 s)).cell rfl; have v0 : ∀ s, (f2 s).cell? ⟨gq, 0, none⟩ = some (.int .i64 ty) := fun s => (bV9.late (hbel2 s)).cell rfl; have v1 : ∀ s, (f2 s).cell? ⟨gq, 1, none⟩ = some (.int .i64 cnt) := fun s => (bV9.late (hbel2 s)).cell rfl; have v2 : ∀ s, (f2 s).cell? ⟨gq, 2, none⟩ = some (.slice a3 q3 c3) := fun s => (bV9.late (hbel2 s)).cell rfl
            have hsm : ∀ s, Calls Tryz.prog 52 #[.agg #[.int .i64 ty, .int .i64 cnt, .slice a3 q3 c3], .agg #[.int .i64 ty, .int .i64 cnt, .slice da dn dc]] (f2 s) fun e w' => e = .returned (.bool true) ∧ Below (f2 s).heap.size (f2 s) w' := fun s => by
              have h := tsame_any ty cnt ty cnt a3 da q3 c3 dn dc dd dd (f2 s) (hsv.mono (hbel2 s)) (hrd'.out.mono (hb010.trans ((hbel2 s).mono hb010.size))) m4'.out m4'.out
              rwa [show (ty == ty && cnt == cnt && dd == dd) = true by simp] at h
            have bV9' := Lib.hid bV9; have hbw' := Lib.hid hbw; have hov' := Lib.hid hov; have hsv' := Lib.hid hsv; have hb010' := Lib.hid hb010; have hbr10' := Lib.hid hbr10; have bA10' := Lib.hid bA10; have bB10' := Lib.hid bB10; have bX10' := Lib.hid bX10; have hbel2' := Lib.hid hbel2; have hsurj2' := Lib.hid hsurj2; have hsm' := Lib.hid hsm; clear bV9 hbw hov hsv hb010 hbr10 bA10 bB10 bX10 hbel2 hsurj2 hsm
            go_wp2_with fail
            refine wp_quiet_in f2 (by kernel_rfl) (by kernel_rfl) HS.out ?_
            iterate 13 (go_big_quiet_step ((go_at_call 52; refine (hsm'.out _).mono ?_; rintro e wc ⟨rfl, hbc⟩; exact ⟨rfl, hsurj2'.out _ ((hbel2'.out _).trans (hbc.mono (hbel2'.out _).size))⟩)))
            refine wpQuiet_nil ?_; intro s; have hbz := hbel2'.out s; clear g1 g2 g3 d0 v0 v1 v2 HS; obtain ⟨W11, hW11⟩ : ∃ W, f2 s = W := ⟨_, rfl⟩; rw [hW11] at hbz ⊢; clear hW11 hsurj2' hbel2' hne2 hsm'; have hb011 := hb010'.out.trans (hbz.mono hb010'.out.size); have hbr11 := hbr10'.out.trans (hbz.mono hbr10'.out.size); have bA11 := bA10'.out.late hbz; have bB11 := bB10'.out.late hbz; have bX11 := bX10'.out.late hbz; have hb011' := Lib.hid hb011; have hbr11' := Lib.hid hbr11; have bA11' := Lib.hid bA11; have bB11' := Lib.hid bB11; have bX11' := Lib.hid bX11; have hbz' := Lib.hid hbz; clear hb011 hbr11 bA11 bB11 bX11 hbz
            go_wp2_with fail
            go_roundw
            case rel => exact ⟨k + 1, by omega, by go_num, bA11', bB11', hbr11'⟩
            case measure => simp [intOf]; omega
          case refine_2 =>
            go_wp2_with fail
            have hbq := ((Below.refl w9.heap.size w9).alloc (Nat.le_refl _) (.cells #[.int .i64 0, .int .i64 0, .slice none 0 0] 72)).drew; have bq : Blk (w9.alloc (.cells #[.int .i64 0, .int .i64 0, .slice none 0 0] 72)).drew w9.heap.size 72 #[.int .i64 0, .int .i64 0, .slice none 0 0] := Blk.new w9 _ _; have HS := Lib.hid (hsurj'.out _ hbq); have hsz3 : (w9.alloc (.cells #[.int .i64 0, .int .i64 0, .slice none 0 0] 72)).drew.heap.size = w9.heap.size + 1 := by show (w9.alloc _).heap.size = _; simp
            obtain ⟨w3x, hw3⟩ : ∃ w3, (w9.alloc (.cells #[.int .i64 0, .int .i64 0, .slice none 0 0] 72)).drew = w3 := ⟨_, rfl⟩; rw [hw3] at hbq bq HS hsz3; rw [hw3]; clear hw3; have bq' := Lib.hid bq; have hbq' := Lib.hid hbq; clear bq hbq
            first | refine Mid.mk ⟨HS.out, ?_⟩ | refine Mid.mk ?_
            refine held_one 9 5 (by kernel_rfl) (by kernel_rfl) ?_; simp only [pickL, List.map_cons, List.map_nil, List.getD_cons_succ, List.getD_cons_zero]
            go_wp2_with fail
            refine (HO'.out _ hbq'.out).mono ?_; rintro e wq ⟨ty2, cnt2, a3, q3, c3, rfl, hbp, hdp⟩; obtain ⟨i1, i2, hop⟩ := hdp dd rfl
            replace i1 := i1.symm
            replace i2 := i2.symm
            subst i1 i2; clear hdp; have hbx := hbq'.out.trans (hbp.mono hbq'.out.size); have bq := bq'.out.late hbp; have HS := Lib.hid (hsurj'.out _ hbx); have hoq := own_mono hop hbq'.out.size; have hnq : (Value.slice a3 q3 c3).ownBlock ≠ some w9.heap.size := fun e => by have := (hop.lt _ e).1; omega
            have hbq := hbx; obtain ⟨gq, hgqe⟩ : ∃ g, w9.heap.size = g := ⟨_, rfl⟩; have hgq : w9.heap.size ≤ gq := Nat.le_of_eq hgqe; clear bq' hbq' hbp hbx hop hsz3; rw [hgqe] at bq hnq; rw [hgqe]; clear hgqe; have bq' := Lib.hid bq; have hbq' := Lib.hid hbq; have hgq' := Lib.hid hgq; have hoq' := Lib.hid hoq; have hnq' := Lib.hid hnq; clear bq hbq hgq hoq hnq
            go_wp2_with fail
            first | refine Mid.mk ⟨HS.out, ?_⟩ | refine Mid.mk ?_
            refine held_take [10, 11, 12] 2 (by kernel_rfl) (fun d _ _ _ _ h => by cases d <;> exact h) (by kernel_rfl) (by kernel_rfl) (by kernel_rfl) HS.out ?_; simp only [pickL, List.map_cons, List.map_nil, List.getD_cons_succ, List.getD_cons_zero]
            iterate 3 (go_big_quiet_step (fail))
            refine wpQuiet_nil ?_; refine held_one 14 1 (by kernel_rfl) (by kernel_rfl) ?_; simp only [pickL, List.map_cons, List.map_nil, List.getD_cons_succ, List.getD_cons_zero]; have p0 : wq.cell? ⟨gq, 0, none⟩ = some (.int .i64 0) := bq'.out.cell rfl; have p1 : wq.cell? ⟨gq, 1, none⟩ = some (.int .i64 0) := bq'.out.cell rfl; have p2 : wq.cell? ⟨gq, 2, none⟩ = some (.slice none 0 0) := bq'.out.cell rfl; have y0 := bq'.out.frozen 0; have y1 := bq'.out.frozen 1; have y2 := bq'.out.frozen 2
            go_wp2_with fail
            have bV9 := bq'.out.set3 (.int .i64 ty) (.int .i64 cnt) (.slice a3 q3 c3); have hbw := below_set3 hbq'.out hgq'.out (.int .i64 ty) (.int .i64 cnt) (.slice a3 q3 c3); have HS := Lib.hid (hsurj'.out _ hbw); have hov := own_but hoq'.out ((((But.refl gq wq).set 0 (.int .i64 ty)).set 1 (.int .i64 cnt)).set 2 (.slice a3 q3 c3)) hnq'.out; refine Mid.mk ⟨HS.out, ?_⟩; refine held_take [15] 0 (by kernel_rfl) (fun d _ _ _ _ h => by cases d <;> exact h) (by kernel_rfl) (by kernel_rfl) (by kernel_rfl) HS.out ?_; simp only [pickL, List.map_cons, List.map_nil, List.getD_cons_succ, List.getD_cons_zero]
            iterate 1 (go_big_quiet_step (fail))
            refine wpQuiet_nil ?_; refine held_last (by kernel_rfl) ?_; clear p0 p1 p2 y0 y1 y2 bq' hbq' hoq' n1s n2s n3s HS HD
            generalize (((wq.setCell ⟨gq, 0, none⟩ (.int .i64 ty)).setCell ⟨gq, 1, none⟩ (.int .i64 cnt)).setCell ⟨gq, 2, none⟩ (.slice a3 q3 c3)) = wv at *
            have hsv := (Sl.of_own hov).1; clear hsurj' hbel' hne; have hb010 := hb09'.out.trans (hbw.mono hb09'.out.size); have hbr10 := hbr9'.out.trans (hbw.mono hbr9'.out.size); have bA10 := bA9'.out.late hbw; have bB10 := bB9'.out.late hbw; have bX10 := bX9'.out.late hbw; obtain ⟨Ty2, f2, hne2, hbel2, hsurj2⟩ := later_worlds wv; have HS := Lib.hid (hsurj2 _ ((Below.refl _ _).drew)); have g1 := fun s => late (hb010.trans ((hbel2 s).mono hb010.size)) hrlt'.out f1'.out; have g2 := fun s => late (hb010.trans ((hbel2 s).mono hb010.size)) hrlt'.out f2'.out; have g3 := fun s => late (hb010.trans ((hbel2 s).mono hb010.size)) hrlt'.out f3'.out; have d0 : ∀ s, (f2 s).cell? ⟨w.heap.size, 0, none⟩ = some (.slice (some ⟨rb, ro, none⟩) tn tc) := fun s => (bA10.late (hbel2 s)).cell rfl; have v0 : ∀ s, (f2 s).cell? ⟨gq, 0, none⟩ = some (.int .i64 ty) := fun s => (bV9.late (hbel2 s)).cell rfl; have v1 : ∀ s, (f2 s).cell? ⟨gq, 1, none⟩ = some (.int .i64 cnt) := fun s => (bV9.late (hbel2 s)).cell rfl; have v2 : ∀ s, (f2 s).cell? ⟨gq, 2, none⟩ = some (.slice a3 q3 c3) := fun s => (bV9.late (hbel2 s)).cell rfl
            have hsm : ∀ s, Calls Tryz.prog 52 #[.agg #[.int .i64 ty, .int .i64 cnt, .slice a3 q3 c3], .agg #[.int .i64 ty, .int .i64 cnt, .slice da dn dc]] (f2 s) fun e w' => e = .returned (.bool true) ∧ Below (f2 s).heap.size (f2 s) w' := fun s => by
              have h := tsame_any ty cnt ty cnt a3 da q3 c3 dn dc dd dd (f2 s) (hsv.mono (hbel2 s)) (hrd'.out.mono (hb010.trans ((hbel2 s).mono hb010.size))) m4'.out m4'.out
              rwa [show (ty == ty && cnt == cnt && dd == dd) = true by simp] at h
            have bV9' := Lib.hid bV9; have hbw' := Lib.hid hbw; have hov' := Lib.hid hov; have hsv' := Lib.hid hsv; have hb010' := Lib.hid hb010; have hbr10' := Lib.hid hbr10; have bA10' := Lib.hid bA10; have bB10' := Lib.hid bB10; have bX10' := Lib.hid bX10; have hbel2' := Lib.hid hbel2; have hsurj2' := Lib.hid hsurj2; have hsm' := Lib.hid hsm; clear bV9 hbw hov hsv hb010 hbr10 bA10 bB10 bX10 hbel2 hsurj2 hsm
            go_wp2_with fail
            refine wp_quiet_in f2 (by kernel_rfl) (by kernel_rfl) HS.out ?_
            iterate 13 (go_big_quiet_step ((go_at_call 52; refine (hsm'.out _).mono ?_; rintro e wc ⟨rfl, hbc⟩; exact ⟨rfl, hsurj2'.out _ ((hbel2'.out _).trans (hbc.mono (hbel2'.out _).size))⟩)))
            refine wpQuiet_nil ?_; intro s; have hbz := hbel2'.out s; clear g1 g2 g3 d0 v0 v1 v2 HS; obtain ⟨W11, hW11⟩ : ∃ W, f2 s = W := ⟨_, rfl⟩; rw [hW11] at hbz ⊢; clear hW11 hsurj2' hbel2' hne2 hsm'; have hb011 := hb010'.out.trans (hbz.mono hb010'.out.size); have hbr11 := hbr10'.out.trans (hbz.mono hbr10'.out.size); have bA11 := bA10'.out.late hbz; have bB11 := bB10'.out.late hbz; have bX11 := bX10'.out.late hbz; have hb011' := Lib.hid hb011; have hbr11' := Lib.hid hbr11; have bA11' := Lib.hid bA11; have bB11' := Lib.hid bB11; have bX11' := Lib.hid bX11; have hbz' := Lib.hid hbz; clear hb011 hbr11 bA11 bB11 bX11 hbz
            go_wp2_with fail
            go_roundw
            case rel => exact ⟨k + 1, by omega, by go_num, bA11', bB11', hbr11'⟩
            case measure => simp [intOf]; omega
      · obtain rfl : k = tn := by omega
        have c0 : wr.cell? ⟨w.heap.size, 0, none⟩ = some (.slice ta k tc) := hbA.out.cell rfl; have c2 : wr.cell? ⟨w.heap.size, 2, none⟩ = some (.slice ba bn bc) := hbA.out.cell rfl
        by_cases h0 : bn = 0
        · have e0 : ((bn : Int) == 0) = true := by simp; exact h0
          have hbA' := Lib.hid hbA; have hbB' := Lib.hid hbB; have hbr' := Lib.hid hbr
          go_wp2_with fail
          go_ret
          exact ⟨rfl, hbr.out⟩
        · have e0 : ((bn : Int) == 0) = false := by simp; exact h0
          obtain ⟨b1, b2, b3, b4, b5, b6⟩ := k9'.out (by rw [hbn'.out]; omega); rw [hbn'.out] at b2 b5 b6; rw [hzn'.out] at b5; obtain ⟨S, hS⟩ : ∃ S : Nat, atS l 4 no 0 = S := ⟨(atS l 4 no 0).toNat, by omega⟩; rw [hS] at b1 b5 b6; rw [Int.toNat_natCast] at b6; have hLA := hL'.out wr _ A b1 rfl hbr.out; unfold entV at hLA; simp only at hLA; have s1 : wr.cell? ⟨w.heap.size + 1, 1, none⟩ = some (.int .i64 A) := hbB.out.cell rfl; have b1' := Lib.hid b1; have b2' := Lib.hid b2; have b3' := Lib.hid b3; have b4' := Lib.hid b4; have b5' := Lib.hid b5; have b6' := Lib.hid b6; have hS' := Lib.hid hS; have hLA' := Lib.hid hLA; clear b1 b2 b3 b4 b5 b6 hS hLA; have hbA' := Lib.hid hbA; have hbB' := Lib.hid hbB; have hbr' := Lib.hid hbr
          go_wp2_with fail
          refine hLA'.out.mono ?_; rintro e w4 ⟨rfl, hb4⟩; have hal := (Below.refl w4.heap.size w4).alloc (Nat.le_refl _) (.cells #[.int .i64 A, .int .i64 4, .int .i64 1, .int .i64 (S : Int)] 55); have bX := Blk.new w4 55 #[.int .i64 A, .int .i64 4, .int .i64 1, .int .i64 (S : Int)]; obtain ⟨gX, hgX⟩ : ∃ g, w4.heap.size = g := ⟨_, rfl⟩; obtain ⟨W5, hW5⟩ : ∃ W, w4.alloc (.cells #[.int .i64 A, .int .i64 4, .int .i64 1, .int .i64 (S : Int)] 55) = W := ⟨_, rfl⟩; rw [hW5] at hal bX; rw [hgX] at bX; have hb05 := hb4.trans (hal.mono hb4.size); have hbr5 := hbr.out.trans (hb05.mono hbr.out.size); have bA5 := hbA.out.late hb05; have bB5 := hbB.out.late hb05; have hLB := hL'.out W5 _ Lg b2'.out rfl hbr5; unfold entV at hLB; simp only at hLB; clear c0 c2 s1; have s2 : W5.cell? ⟨w.heap.size + 1, 2, none⟩ = some (.int .i64 Lg) := bB5.cell rfl; have hb4' := Lib.hid hb4; have hal' := Lib.hid hal; have bX' := Lib.hid bX; have hb05' := Lib.hid hb05; have hbr5' := Lib.hid hbr5; have bA5' := Lib.hid bA5; have bB5' := Lib.hid bB5; have hgX' := Lib.hid hgX; have hW5' := Lib.hid hW5; have hLB' := Lib.hid hLB; clear hb4 hal bX hb05 hbr5 bA5 bB5 hgX hW5 hLB
          go_upto_region 30 with fail
          rw [hW5'.out, hgX'.out]
          go_wp2_with fail
          refine hLB'.out.mono ?_; rintro e w6 ⟨rfl, hb6⟩; have hb05' := hb05'; have bX5' := bX'; have hal7 := (Below.refl w6.heap.size w6).alloc (Nat.le_refl _) (.cells #[.int .i64 Lg, .int .i64 4, .int .i64 1, .int .i64 (bn : Int)] 55); have bY := Blk.new w6 55 #[.int .i64 Lg, .int .i64 4, .int .i64 1, .int .i64 (bn : Int)]; obtain ⟨gY, hgY⟩ : ∃ g, w6.heap.size = g := ⟨_, rfl⟩; obtain ⟨W7, hW7⟩ : ∃ W, w6.alloc (.cells #[.int .i64 Lg, .int .i64 4, .int .i64 1, .int .i64 (bn : Int)] 55) = W := ⟨_, rfl⟩; rw [hW7] at hal7 bY; rw [hgY] at bY; have hb67 := hb6.trans (hal7.mono hb6.size); clear s2; have hb07 := hb05'.out.trans (hb67.mono hb05'.out.size); have hbr7 := hbr5'.out.trans (hb67.mono hbr5'.out.size); have bA7 := bA5'.out.late hb67; have bB7 := bB5'.out.late hb67; have bX7 := bX5'.out.late hb67; obtain ⟨a8, hsl8, hs8, hin8⟩ := sub_lh (P := Tryz.prog) (T := 24) (E := 5) (sz := 1) Tryz.underlying24 (fun W => by kernel_rfl) (hs'.out.mono hbr7) (S : Int) ((S : Int) + bn) (by omega) (by omega) (by have := b5'.out; omega) bn (c - S) (by omega) (by have := b5'.out; have := hs'.out.le; omega); rw [Nat.mul_one, Nat.mul_one, Int.toNat_natCast, show ((ints .u8 z).drop S).take bn = ints .u8 ((z.drop S).take bn) by simp [ints], b6'.out] at hs8; obtain ⟨Ty, ff, hne, hbel, hsurj⟩ := later_worlds W7; have HS := Lib.hid (hsurj _ ((Below.refl _ _).drew)); have x3 : ∀ s, (ff s).cell? ⟨gX, 3, none⟩ = some (.int .i64 (S : Int)) := fun s => (bX7.late (hbel s)).cell rfl; have y3 : ∀ s, (ff s).cell? ⟨gY, 3, none⟩ = some (.int .i64 (bn : Int)) := fun s => (bY.late (hbel s)).cell rfl; have d2 : ∀ s, (ff s).cell? ⟨w.heap.size, 2, none⟩ = some (.slice ba bn bc) := fun s => (bA7.late (hbel s)).cell rfl; have hTT := fun s => hT'.out (ff s) 4 0 (S : Int) b3'.out hS'.out (hbr7.trans ((hbel s).mono hbr7.size))
          have hSm : ∀ s, Calls Tryz.prog 26 #[.slice a8 bn (c - S), .slice ba bn bc] (ff s) fun e w' => e = .returned (.bool true) ∧ Below (ff s).heap.size (ff s) w' := fun s => by
            have h := (same01 a8 ba bn bn (c - S) bc b b (ff s) (hs8.mono (hbel s)) (hbl'.out.mono (hbr7.trans ((hbel s).mono hbr7.size)))).mono fun e w' hh => (⟨hh.1, hh.2.below _⟩ : e = .returned (.bool (b == b)) ∧ Below (ff s).heap.size (ff s) w')
            rwa [show (b == b) = true by simp] at h
          have w1 : IntKind.i64.wrap ((n : Int) - (bn : Int)) = n - bn := by have := b5'.out; rw [IntKind.wrap_i64]; omega
          have w2 : IntKind.i64.wrap ((S : Int) + (bn : Int)) = S + bn := by have := b5'.out; rw [IntKind.wrap_i64]; omega
          have t1 : decide (0 ≤ (S : Int)) = true := by simp
          have t2 : decide ((S : Int) ≤ (n : Int) - bn) = true := by have := b5'.out; simp; omega
          have t3 : ((bn : Int) == (bn : Int)) = true := by simp
          have hal7' := Lib.hid hal7; have bY' := Lib.hid bY; have hb67' := Lib.hid hb67; have hb07' := Lib.hid hb07; have hbr7' := Lib.hid hbr7; have bA7' := Lib.hid bA7; have bB7' := Lib.hid bB7; have bX7' := Lib.hid bX7; have hgY' := Lib.hid hgY; have hW7' := Lib.hid hW7; have hbel' := Lib.hid hbel; have hsurj' := Lib.hid hsurj; have hTT' := Lib.hid hTT; have hSm' := Lib.hid hSm; have hs8' := Lib.hid hs8; have hin8' := Lib.hid hin8; have hb6' := Lib.hid hb6; clear hal7 bY hb67 hb07 hbr7 bA7 bB7 bX7 hgY hW7 hbel hsurj hTT hSm hs8 hin8 hb6
          go_upto_region 31 with fail
          rw [hW7'.out, hgY'.out]; refine wp_quiet_in ff (by kernel_rfl) (by kernel_rfl) HS.out ?_
          iterate 49 (go_big_quiet_step (first | (go_at_call 53; refine (hTT'.out _).mono ?_; rintro e wc ⟨rfl, hbc⟩; exact ⟨rfl, hsurj'.out _ ((hbel'.out _).trans (hbc.mono (hbel'.out _).size))⟩) | (go_at_call 26; refine (hSm'.out _).mono ?_; rintro e wc ⟨rfl, hbc⟩; exact ⟨rfl, hsurj'.out _ ((hbel'.out _).trans (hbc.mono (hbel'.out _).size))⟩)))
          refine wpQuiet_nil ?_; intro s; have hbz := hbr7'.out.trans ((hbel'.out s).mono hbr7'.out.size); clear x3 y3 d2 HS; have hbz' := Lib.hid hbz; clear hbz
          go_wp2_with fail
          go_ret
          exact ⟨rfl, hbz'.out⟩
end Go.Proofs.YtceclmpmpldmlaaGreat
