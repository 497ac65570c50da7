/- Chapter 23: the walk of RegistryOnce. -/
import Derived.Test.YtnhcmibngcmebaaOnce1
import Derived.Test.YtnhcmibngcmebaaAll
import Derived.Deep.CutRange
import Derived.Test.YtnhcmibngcmebaaL8
namespace Go.Proofs.Ytnhcmibngcmebaa
open Go.RowKit Tt
set_option linter.unusedVariables false

theorem take_snoc {l : List Int} {j : Nat} (h : j < l.length) : l.take (j + 1) = l.take j ++ [l.getD j 0] := by
  rw [List.take_add_one, List.getElem?_eq_getElem h, List.getD_eq_getElem?_getD, List.getElem?_eq_getElem h]
  rfl
/-- what is known of a tag of a directory: as the walk wants it -/
structure Fit (dir t m : Int) (ts : List Int) : Prop where
  m0 : 0 ≤ m
  m1 : m ≤ 100
  ne : 0 < ts.length
  res : resS dir t = false
  wf : (Lit.int .i64 t).wf = true
  may1 : ∀ k : Int, 1 ≤ k → k ≤ 12 → tmayS dir t k (max m 1) (madeB k (max m 1)) = ts.contains k
  may2 : ∀ k : Int, 1 ≤ k → k ≤ 12 → 0 < m → tmayS dir t k (m + 1) (madeB k (m + 1)) = false
theorem once_of {dir t : Int} (h : onceT dir t = true) : Fit dir t (knownS dir t).2 (knownS dir t).1 := by
  unfold onceT at h
  simp only [Bool.and_eq_true, decide_eq_true_eq, Bool.not_eq_true'] at h
  obtain ⟨⟨⟨⟨⟨h1, h2⟩, h3⟩, h4⟩, h5⟩, h6⟩ := h
  have hk : ∀ k : Int, 1 ≤ k → k ≤ 12 → onceK dir t (knownS dir t).1 (knownS dir t).2 k = true := fun k h1 h2 => by
    refine List.all_eq_true.1 h6 k ?_
    simp only [List.mem_cons, List.not_mem_nil, or_false]
    omega
  refine ⟨h1, h2, ?_, h4, h5, fun k a b => ?_, fun k a b c => ?_⟩
  · cases hc : (knownS dir t).1 with
    | nil => rw [hc] at h3; cases h3
    | cons x l => simp
  · have := hk k a b
    unfold onceK at this
    simp only [Bool.and_eq_true, beq_iff_eq] at this
    exact this.1
  · have := hk k a b
    unfold onceK at this
    simp only [Bool.and_eq_true, Bool.or_eq_true, decide_eq_true_eq, Bool.not_eq_true'] at this
    rcases this.2 with h | h
    · omega
    · exact h
theorem once_all {dir : Int} (h0 : 0 ≤ dir) (h5 : dir ≤ 5) {t : Int} (ht : t ∈ allS dir) : Fit dir t (knownS dir t).2 (knownS dir t).1 := by
  refine once_of ?_
  have : dir = 0 ∨ dir = 1 ∨ dir = 2 ∨ dir = 3 ∨ dir = 4 ∨ dir = 5 := by omega
  rcases this with rfl | rfl | rfl | rfl | rfl | rfl
  · exact List.all_eq_true.1 once0 t ht
  · exact List.all_eq_true.1 once1 t ht
  · exact List.all_eq_true.1 once2 t ht
  · exact List.all_eq_true.1 once3 t ht
  · exact List.all_eq_true.1 once4 t ht
  · exact List.all_eq_true.1 once5 t ht
theorem rise_at {dir : Int} (h0 : 0 ≤ dir) (h5 : dir ≤ 5) {i : Nat} (hi : i + 1 < (allS dir).length) : (allS dir).getD i 0 < (allS dir).getD (i + 1) 0 := by
  have hr : rise (allS dir) = true := List.all_eq_true.1 rise_all dir (by simp only [List.mem_cons, List.not_mem_nil, or_false]; omega)
  unfold rise at hr
  have := List.all_eq_true.1 hr i (List.mem_range.2 (by omega))
  simpa using this
theorem made_fits {k c : Int} (h1 : 1 ≤ k) (h2 : k ≤ 12) (h3 : 1 ≤ c) (h4 : c ≤ 101) : mayS k c (madeB k c) = true := by
  have h := List.all_eq_true.1 (List.all_eq_true.1 made_may (k - 1).toNat (List.mem_range.2 (by omega))) (c - 1).toNat (List.mem_range.2 (by omega))
  rw [show ((k - 1).toNat : Int) + 1 = k by omega, show ((c - 1).toNat : Int) + 1 = c by omega] at h
  exact h

set_option maxRecDepth 100000 in
set_option maxHeartbeats 8000000 in
theorem once_law (dir tag kind count : Int) (w : World) (hd : (Lit.int .i64 dir).wf = true) (ht : (Lit.int .i64 tag).wf = true) :
    Calls Try.prog 6 #[.int .i64 dir, .int .i64 tag, .int .i64 kind, .int .i64 count] w fun e w' => e = .returned (.bool true) ∧ Below w.heap.size w w' := by
  have HA := Lib.hid (all_any dir w)
  by_cases hin : 0 ≤ dir ∧ dir ≤ 5
  · obtain ⟨h0, h5⟩ := hin
    have f0 : decide (dir < 0) = false := by simp; omega
    have f1 : decide (6 ≤ dir) = false := by simp; omega
    have HF := Lib.hid (fun t => @once_all dir h0 h5 t)
    have HR := Lib.hid (fun i => @rise_at dir h0 h5 i)
    have Hd := Lib.hid hd
    have Ht := Lib.hid ht
    have H05 := Lib.hid (And.intro h0 h5)
    clear hd ht h0 h5
    go_enter Try.func6, Try.ntmps6
    go_wp2_with fail
    refine HA.out.mono ?_
    rintro e w1 ⟨a, n, c, ss, rfl, hs1, hnd, hmem, hb1⟩
    rw [all_sorted dir hnd hmem] at hs1
    have hn := hs1.ilen
    have hnm : n ≤ 9223372036854775807 := Nat.le_trans hs1.le hs1.max
    have S1 := Lib.hid hs1
    have HB1 := Lib.hid hb1
    have Hn := Lib.hid hn
    clear hs1 hnd hmem hb1 hn
    obtain ⟨D, hD⟩ : ∃ D, allS dir = D := ⟨_, rfl⟩
    rw [hD] at HF HR S1 Hn
    clear hD
    go_wp2_with fail
    go_loopw [10] (fun i wr => ∃ k : Nat, k ≤ n ∧ i = .int .i64 k ∧ Hid (Below w1.heap.size w1 wr)) (fun i _ => n - (intOf i).toNat)
    case atStart => exact ⟨0, by omega, rfl, Lib.hid (Below.refl _ _)⟩
    case round =>
      obtain ⟨i, hi, rfl, hb⟩ := hrel
      by_cases hlt : i < n
      · obtain ⟨b, o, rfl, hbx, cx⟩ := (S1.out.mono hb.out).at hlt
        have c1 := cx i _ (ints_get (by rw [Hn.out]; exact hlt))
        obtain ⟨t, ht⟩ : ∃ t, D.getD i 0 = t := ⟨_, rfl⟩
        rw [ht] at c1
        have htm : t ∈ D := by rw [← ht, List.getD_eq_getElem?_getD, List.getElem?_eq_getElem (by rw [Hn.out]; exact hlt)]; exact List.getElem_mem _
        have hfit := HF.out t htm
        obtain ⟨m, hm⟩ : ∃ m, (knownS dir t).2 = m := ⟨_, rfl⟩
        obtain ⟨tl, htl⟩ : ∃ tl, (knownS dir t).1 = tl := ⟨_, rfl⟩
        rw [hm, htl] at hfit
        have HK := Lib.hid (known_any dir t wr Hd.out hfit.wf)
        rw [hm, htl] at HK
        have hmx : max m 0 = m := by have := hfit.m0; omega
        rw [hmx, decide_eq_true hfit.m0] at HK
        have hm0 := hfit.m0
        have hm1 := hfit.m1
        have Hfit := Lib.hid hfit
        have HT := Lib.hid ht
        clear hm htl htm hmx hfit ht cx
        go_wp2_with fail
        refine HK.out.mono ?_
        rintro e w2 ⟨a1, n1, p1, rfl, hs2, hb2⟩
        have S2 := Lib.hid hs2
        have HB2 := Lib.hid hb2
        have hn1 := hs2.ilen
        have hp1 : 0 < n1 := by rw [← hn1]; exact Hfit.out.ne
        have hnm1 : n1 ≤ 9223372036854775807 := Nat.le_trans hs2.le hs2.max
        have Hn1 := Lib.hid hn1
        clear hs2 hb2 hn1
        go_wp2_with fail
        have q1 : ((n1 : Int) == 0) = false := by simp; omega
        have q2 : (n1 == 0) = false := by simp; omega
        have q3 : decide (m < 0) = false := by simp; omega
        have q4 : decide (100 < m) = false := by simp; omega
        have c2 : w2.cell? ⟨b, o + i, none⟩ = some (.int .i64 t) := late HB2.out hbx c1
        have hbx2 : b < w2.heap.size := Nat.lt_of_lt_of_le hbx HB2.out.size
        have HBX := Lib.hid hbx2
        have HC2 := Lib.hid c2
        have Hres := Lib.hid (reserved_any dir t)
        rw [Hfit.out.res] at Hres
        have Hprev : Hid (∀ j, j + 1 = i → ∃ tp, w2.cell? ⟨b, o + j, none⟩ = some (.int .i64 tp) ∧ tp < t) := Lib.hid (fun j hj => by
          obtain ⟨b', o', e, _, cy⟩ := (S1.out.mono (hb.out.trans (HB2.out.mono hb.out.size))).at (i := j) (by omega)
          cases e
          refine ⟨D.getD j 0, cy j _ (ints_get (by rw [Hn.out]; omega)), ?_⟩
          rw [← HT.out, ← hj]
          exact HR.out j (by rw [Hn.out]; omega))
        clear c1 hbx hbx2
        go_cut [89] from 35 to 138 (fun v wx => v = .bool false ∧ Below w2.heap.size w2 wx)
        case first =>
          rcases Nat.eq_zero_or_pos i with hi0 | hi0
          · have p1 : decide ((0 : Int) < (i : Int)) = false := by simp; omega
            have p2 : decide (0 < i) = false := by simp; omega
            have Hi0 := Lib.hid hi0
            clear hi0
            obtain ⟨S, f, hne, hbel, hsurj⟩ := later_worlds w2
            have h1 : ∀ s, (f s).cell? ⟨b, o + i, none⟩ = some (.int .i64 t) := fun s => late (hbel s) HBX.out HC2.out
            have HS := Lib.hid (hsurj _ ((Below.refl _ _).drew))
            have Hbel := Lib.hid hbel
            have Hsurj := Lib.hid hsurj
            clear hbel hsurj
            refine wp_quiet_in f (by kernel_rfl) (by kernel_rfl) HS.out ?_
            iterate 39 (go_big_quiet_step ((go_at_call 12; refine (Hres.out _).mono ?_; rintro e w3 ⟨rfl, hb3⟩; exact ⟨rfl, Hsurj.out _ ((Hbel.out _).trans (hb3.mono (Hbel.out _).size))⟩)))
            refine wpQuiet_nil ?_
            intro s
            have HB3 := Hbel.out s
            go_wp2_with fail
            go_meet
            exact ⟨rfl, HB3⟩
          · obtain ⟨i', hi'⟩ : ∃ i' : Nat, i' + 1 = i := ⟨i - 1, by omega⟩
            have p1 : decide ((0 : Int) < (i : Int)) = true := by simp; omega
            have p2 : decide (0 < i) = true := by simp; omega
            obtain ⟨tp, c4, htp⟩ := Hprev.out i' hi'
            have wk : IntKind.i64.wrap ((i : Int) - 1) = (i' : Int) := by rw [IntKind.wrap_i64]; omega
            have p3 : decide (t ≤ tp) = false := by simp; omega
            have hli : (i' : Int) < (n : Int) := by omega
            have hli2 : i' < n := by omega
            have hpi : (0 : Int) ≤ (i' : Int) := by omega
            have HC4 := Lib.hid c4
            clear hi0 hi' htp c4
            obtain ⟨S, f, hne, hbel, hsurj⟩ := later_worlds w2
            have h1 : ∀ s, (f s).cell? ⟨b, o + i, none⟩ = some (.int .i64 t) := fun s => late (hbel s) HBX.out HC2.out
            have h2 : ∀ s, (f s).cell? ⟨b, o + i', none⟩ = some (.int .i64 tp) := fun s => late (hbel s) HBX.out HC4.out
            have HS := Lib.hid (hsurj _ ((Below.refl _ _).drew))
            have Hbel := Lib.hid hbel
            have Hsurj := Lib.hid hsurj
            clear hbel hsurj
            refine wp_quiet_in f (by kernel_rfl) (by kernel_rfl) HS.out ?_
            iterate 39 (go_big_quiet_step ((go_at_call 12; refine (Hres.out _).mono ?_; rintro e w3 ⟨rfl, hb3⟩; exact ⟨rfl, Hsurj.out _ ((Hbel.out _).trans (hb3.mono (Hbel.out _).size))⟩)))
            refine wpQuiet_nil ?_
            intro s
            have HB3 := Hbel.out s
            go_wp2_with fail
            go_meet
            exact ⟨rfl, HB3⟩
        case rest =>
          obtain ⟨rfl, hb5⟩ := hcut
          rename World => w5
          have HB5 := Lib.hid hb5
          have HC5 := Lib.hid (late HB5.out HBX.out HC2.out)
          have HBX5 := Lib.hid (Nat.lt_of_lt_of_le HBX.out HB5.out.size)
          have HS5 := Lib.hid (S2.out.mono HB5.out)
          clear hb5 c2 q1 q2 q3 q4
          go_wp2_with fail
          have HB15 : Hid (Below w1.heap.size w1 w5) := Lib.hid ((hb.out.trans (HB2.out.mono hb.out.size)).trans (HB5.out.mono (Nat.le_trans hb.out.size HB2.out.size)))
          go_loopw [14] (fun kv wr => ∃ kz : Int, 1 ≤ kz ∧ kz ≤ 13 ∧ kv = .int .i64 kz ∧ Hid (Below w5.heap.size w5 wr)) (fun kv _ => (13 - intOf kv).toNat)
          case atStart => exact ⟨1, by omega, by omega, rfl, Lib.hid (Below.refl _ _)⟩
          case round =>
            obtain ⟨kz, hk1, hk13, rfl, hb6⟩ := hrel
            rename World => w6
            by_cases hk12 : kz ≤ 12
            · go_wp2_with fail
              go_loopw [15, 16] (fun av jv wr => ∃ j : Nat, j ≤ n1 ∧ jv = .int .i64 j ∧ av = .bool ((tl.take j).contains kz) ∧ Hid (Below w6.heap.size w6 wr)) (fun _ jv _ => n1 - (intOf jv).toNat)
              case atStart => exact ⟨0, by omega, rfl, rfl, Lib.hid (Below.refl _ _)⟩
              case round =>
                obtain ⟨j, hj, rfl, rfl, hb7⟩ := hrel
                rename World => w7
                by_cases hjn : j < n1
                · have hstep : (tl.take (j + 1)).contains kz = ((tl.take j).contains kz || (tl.getD j 0 == kz)) := by
                    rw [take_snoc (by rw [Hn1.out]; exact hjn)]
                    apply Bool.eq_iff_iff.2
                    simp only [List.contains_iff_mem, List.mem_append, List.mem_singleton, Bool.or_eq_true, beq_iff_eq]
                    exact or_congr_right eq_comm
                  have Hstep := Lib.hid hstep
                  clear hstep
                  obtain ⟨b8, o8, rfl, _, cy⟩ := ((HS5.out.mono hb6.out).mono hb7.out).at hjn
                  have c8 := cy j _ (ints_get (by rw [Hn1.out]; exact hjn))
                  generalize tl.getD j 0 = u at *
                  generalize (tl.take j).contains kz = am at *
                  clear cy
                  cases am
                  · cases hu : (u == kz)
                    · have Hu := Lib.hid hu
                      go_wp2
                      go_roundw
                      case rel => exact ⟨j + 1, by omega, by go_num, by rw [Hstep.out, Hu.out]; rfl, hb7⟩
                      case measure => simp [intOf]; omega
                    · have Hu := Lib.hid hu
                      go_wp2
                      go_roundw
                      case rel => exact ⟨j + 1, by omega, by go_num, by rw [Hstep.out, Hu.out]; rfl, hb7⟩
                      case measure => simp [intOf]; omega
                  · go_wp2
                    go_roundw
                    case rel => exact ⟨j + 1, by omega, by go_num, by rw [Hstep.out]; rfl, hb7⟩
                    case measure => simp [intOf]; omega
                · have hex : (tl.take j).contains kz = tl.contains kz := by rw [List.take_of_length_le (by rw [Hn1.out]; omega)]
                  rw [hex]
                  obtain ⟨am, ham⟩ : ∃ am, tl.contains kz = am := ⟨_, rfl⟩
                  rw [ham]
                  have Ham := Lib.hid ham
                  clear hex ham
                  go_wp2_with fail
                  obtain ⟨q, hq⟩ : ∃ q, max m 1 = q := ⟨_, rfl⟩
                  have Hq := Lib.hid hq
                  have hmay1 := Hfit.out.may1 kz hk1 hk12
                  rw [hq, Ham.out] at hmay1
                  have M1 : Hid (∀ (a' : Option Addr) (n' c' : Nat) (W : World), Sl W a' n' c' 1 (ints .u8 (madeB kz q)) → Byt (madeB kz q) → Calls Try.prog 14 #[.int .i64 dir, .agg #[.int .i64 t, .int .i64 kz, .int .i64 q, .slice a' n' c']] W fun e w' => e = .returned (.bool am) ∧ Below W.heap.size W w') :=
                    Lib.hid (fun a' n' c' W hs hb => by have h := rmay1_any dir t kz q a' n' c' _ W hs hb Hd.out Hfit.out.wf; rwa [hmay1] at h)
                  have M2 : Hid (0 < m → ∀ (a' : Option Addr) (n' c' : Nat) (W : World), Sl W a' n' c' 1 (ints .u8 (madeB kz (m + 1))) → Byt (madeB kz (m + 1)) → Calls Try.prog 14 #[.int .i64 dir, .agg #[.int .i64 t, .int .i64 kz, .int .i64 (m + 1), .slice a' n' c']] W fun e w' => e = .returned (.bool false) ∧ Below W.heap.size W w') :=
                    Lib.hid (fun hm a' n' c' W hs hb => by have h := rmay1_any dir t kz (m + 1) a' n' c' _ W hs hb Hd.out Hfit.out.wf; rwa [Hfit.out.may2 kz hk1 hk12 hm] at h)
                  have D1 := Lib.hid (fun W => made_any kz q W hk1 hk12 (by omega) (by omega))
                  have D2 := Lib.hid (fun W => made_any kz (m + 1) W hk1 hk12 (by omega) (by omega))
                  have c7 : w7.cell? ⟨b, o + i, none⟩ = some (.int .i64 t) := late (hb6.out.trans (hb7.out.mono hb6.out.size)) HBX5.out HC5.out
                  have hbx7 : b < w7.heap.size := Nat.lt_of_lt_of_le (Nat.lt_of_lt_of_le HBX5.out hb6.out.size) hb7.out.size
                  have HBX7 := Lib.hid hbx7
                  have HC7 := Lib.hid c7
                  have hamm : (am != am) = false := by simp
                  clear hmay1 hbx7
                  go_cut [138] from 94 to 138 (fun v wx => v = .bool false ∧ Below w7.heap.size w7 wx)
                  case first =>
                    by_cases hmz : 0 < m
                    · have r1 : decide (0 < m) = true := by simpa using hmz
                      have M2' := Lib.hid (M2.out hmz)
                      clear hmz
                      obtain ⟨S, f, hne, hbel, hsurj⟩ := later_worlds w7
                      have h1 : ∀ s, (f s).cell? ⟨b, o + i, none⟩ = some (.int .i64 t) := fun s => late (hbel s) HBX7.out HC7.out
                      have HS := Lib.hid (hsurj _ ((Below.refl _ _).drew))
                      have HB : Hid (Below w7.heap.size w7 w7.drew) := Lib.hid ((Below.refl _ _).drew)
                      have Hsurj := Lib.hid hsurj
                      clear hbel hsurj
                      refine held_begin (S := fun W => ∃ s, W = f s) (by kernel_rfl) 30 rfl ?_
                      refine held_take [0, 1, 2, 3, 4, 5, 6, 7, 11] 21 (by kernel_rfl) (fun d _ _ _ _ h => by cases d <;> exact h) (by kernel_rfl) (by kernel_rfl) (by kernel_rfl) HS.out ?_
                      simp only [pickL, List.map_cons, List.map_nil, List.getD_cons_succ, List.getD_cons_zero]
                      iterate 9 (go_big_quiet_step (fail))
                      refine wpQuiet_nil ?_
                      refine held_one 8 20 (by kernel_rfl) (by kernel_rfl) ?_
                      simp only [pickL, List.map_cons, List.map_nil, List.getD_cons_succ, List.getD_cons_zero]
                      go_wp2_with fail
                      refine (D1.out _).mono ?_
                      rintro e w8 ⟨a8, n8, p8, rfl, hs8, hy8, hb8⟩
                      have HB := Lib.hid (HB.out.trans (hb8.mono HB.out.size))
                      have S8 := Lib.hid hs8
                      have Y8 := Lib.hid hy8
                      clear hb8 hs8 hy8
                      have HS := Lib.hid (Hsurj.out _ HB.out)
                      go_wp2_with fail
                      refine Mid.mk ⟨HS.out, ?_⟩
                      refine held_take [9] 19 (by kernel_rfl) (fun d _ _ _ _ h => by cases d <;> exact h) (by kernel_rfl) (by kernel_rfl) (by kernel_rfl) HS.out ?_
                      simp only [pickL, List.map_cons, List.map_nil, List.getD_cons_succ, List.getD_cons_zero]
                      iterate 1 (go_big_quiet_step (fail))
                      refine wpQuiet_nil ?_
                      refine held_one 10 18 (by kernel_rfl) (by kernel_rfl) ?_
                      simp only [pickL, List.map_cons, List.map_nil, List.getD_cons_succ, List.getD_cons_zero]
                      go_wp2_with fail
                      refine (M1.out _ _ _ _ S8.out Y8.out).mono ?_
                      rintro e w9 ⟨rfl, hb9⟩
                      have HB := Lib.hid (HB.out.trans (hb9.mono HB.out.size))
                      clear hb9
                      have HS := Lib.hid (Hsurj.out _ HB.out)
                      go_wp2_with fail
                      refine Mid.mk ⟨HS.out, ?_⟩
                      refine held_take [12, 13, 14, 15, 16, 17, 18, 19, 20, 21, 22, 23, 24] 5 (by kernel_rfl) (fun d _ _ _ _ h => by cases d <;> exact h) (by kernel_rfl) (by kernel_rfl) (by kernel_rfl) HS.out ?_
                      simp only [pickL, List.map_cons, List.map_nil, List.getD_cons_succ, List.getD_cons_zero]
                      iterate 13 (go_big_quiet_step (fail))
                      refine wpQuiet_nil ?_
                      refine held_one 25 4 (by kernel_rfl) (by kernel_rfl) ?_
                      simp only [pickL, List.map_cons, List.map_nil, List.getD_cons_succ, List.getD_cons_zero]
                      go_wp2_with fail
                      refine (D2.out _).mono ?_
                      rintro e w10 ⟨a10, n10, p10, rfl, hs10, hy10, hb10⟩
                      have HB := Lib.hid (HB.out.trans (hb10.mono HB.out.size))
                      have S10 := Lib.hid hs10
                      have Y10 := Lib.hid hy10
                      clear hb10 hs10 hy10
                      have HS := Lib.hid (Hsurj.out _ HB.out)
                      go_wp2_with fail
                      refine Mid.mk ⟨HS.out, ?_⟩
                      refine held_take [26] 3 (by kernel_rfl) (fun d _ _ _ _ h => by cases d <;> exact h) (by kernel_rfl) (by kernel_rfl) (by kernel_rfl) HS.out ?_
                      simp only [pickL, List.map_cons, List.map_nil, List.getD_cons_succ, List.getD_cons_zero]
                      iterate 1 (go_big_quiet_step (fail))
                      refine wpQuiet_nil ?_
                      refine held_one 27 2 (by kernel_rfl) (by kernel_rfl) ?_
                      simp only [pickL, List.map_cons, List.map_nil, List.getD_cons_succ, List.getD_cons_zero]
                      go_wp2_with fail
                      refine (M2'.out _ _ _ _ S10.out Y10.out).mono ?_
                      rintro e w11 ⟨rfl, hb11⟩
                      have HB := Lib.hid (HB.out.trans (hb11.mono HB.out.size))
                      clear hb11
                      have HS := Lib.hid (Hsurj.out _ HB.out)
                      go_wp2_with fail
                      refine Mid.mk ⟨HS.out, ?_⟩
                      refine held_take [28, 29] 0 (by kernel_rfl) (fun d _ _ _ _ h => by cases d <;> exact h) (by kernel_rfl) (by kernel_rfl) (by kernel_rfl) HS.out ?_
                      simp only [pickL, List.map_cons, List.map_nil, List.getD_cons_succ, List.getD_cons_zero]
                      iterate 2 (go_big_quiet_step (fail))
                      refine wpQuiet_nil ?_
                      refine held_last (by kernel_rfl) ?_
                      go_wp2_with fail
                      go_meet
                      exact ⟨rfl, HB.out⟩
                    · have r1 : decide (0 < m) = false := by simpa using hmz
                      clear hmz
                      obtain ⟨S, f, hne, hbel, hsurj⟩ := later_worlds w7
                      have h1 : ∀ s, (f s).cell? ⟨b, o + i, none⟩ = some (.int .i64 t) := fun s => late (hbel s) HBX7.out HC7.out
                      have HS := Lib.hid (hsurj _ ((Below.refl _ _).drew))
                      have HB : Hid (Below w7.heap.size w7 w7.drew) := Lib.hid ((Below.refl _ _).drew)
                      have Hsurj := Lib.hid hsurj
                      clear hbel hsurj
                      refine held_begin (S := fun W => ∃ s, W = f s) (by kernel_rfl) 30 rfl ?_
                      refine held_take [0, 1, 2, 3, 4, 5, 6, 7, 11] 21 (by kernel_rfl) (fun d _ _ _ _ h => by cases d <;> exact h) (by kernel_rfl) (by kernel_rfl) (by kernel_rfl) HS.out ?_
                      simp only [pickL, List.map_cons, List.map_nil, List.getD_cons_succ, List.getD_cons_zero]
                      iterate 9 (go_big_quiet_step (fail))
                      refine wpQuiet_nil ?_
                      refine held_one 8 20 (by kernel_rfl) (by kernel_rfl) ?_
                      simp only [pickL, List.map_cons, List.map_nil, List.getD_cons_succ, List.getD_cons_zero]
                      go_wp2_with fail
                      refine (D1.out _).mono ?_
                      rintro e w8 ⟨a8, n8, p8, rfl, hs8, hy8, hb8⟩
                      have HB := Lib.hid (HB.out.trans (hb8.mono HB.out.size))
                      have S8 := Lib.hid hs8
                      have Y8 := Lib.hid hy8
                      clear hb8 hs8 hy8
                      have HS := Lib.hid (Hsurj.out _ HB.out)
                      go_wp2_with fail
                      refine Mid.mk ⟨HS.out, ?_⟩
                      refine held_take [9] 19 (by kernel_rfl) (fun d _ _ _ _ h => by cases d <;> exact h) (by kernel_rfl) (by kernel_rfl) (by kernel_rfl) HS.out ?_
                      simp only [pickL, List.map_cons, List.map_nil, List.getD_cons_succ, List.getD_cons_zero]
                      iterate 1 (go_big_quiet_step (fail))
                      refine wpQuiet_nil ?_
                      refine held_one 10 18 (by kernel_rfl) (by kernel_rfl) ?_
                      simp only [pickL, List.map_cons, List.map_nil, List.getD_cons_succ, List.getD_cons_zero]
                      go_wp2_with fail
                      refine (M1.out _ _ _ _ S8.out Y8.out).mono ?_
                      rintro e w9 ⟨rfl, hb9⟩
                      have HB := Lib.hid (HB.out.trans (hb9.mono HB.out.size))
                      clear hb9
                      have HS := Lib.hid (Hsurj.out _ HB.out)
                      go_wp2_with fail
                      refine Mid.mk ⟨HS.out, ?_⟩
                      refine held_take [12, 13, 14, 15, 16, 17, 18, 19, 20, 21, 22, 23, 24] 5 (by kernel_rfl) (fun d _ _ _ _ h => by cases d <;> exact h) (by kernel_rfl) (by kernel_rfl) (by kernel_rfl) HS.out ?_
                      simp only [pickL, List.map_cons, List.map_nil, List.getD_cons_succ, List.getD_cons_zero]
                      iterate 13 (go_big_quiet_step (fail))
                      refine wpQuiet_nil ?_
                      refine held_one 25 4 (by kernel_rfl) (by kernel_rfl) ?_
                      simp only [pickL, List.map_cons, List.map_nil, List.getD_cons_succ, List.getD_cons_zero]
                      go_wp2_with fail
                      refine Mid.mk ⟨HS.out, ?_⟩
                      refine held_take [26] 3 (by kernel_rfl) (fun d _ _ _ _ h => by cases d <;> exact h) (by kernel_rfl) (by kernel_rfl) (by kernel_rfl) HS.out ?_
                      simp only [pickL, List.map_cons, List.map_nil, List.getD_cons_succ, List.getD_cons_zero]
                      iterate 1 (go_big_quiet_step (fail))
                      refine wpQuiet_nil ?_
                      refine held_one 27 2 (by kernel_rfl) (by kernel_rfl) ?_
                      simp only [pickL, List.map_cons, List.map_nil, List.getD_cons_succ, List.getD_cons_zero]
                      go_wp2_with fail
                      refine Mid.mk ⟨HS.out, ?_⟩
                      refine held_take [28, 29] 0 (by kernel_rfl) (fun d _ _ _ _ h => by cases d <;> exact h) (by kernel_rfl) (by kernel_rfl) (by kernel_rfl) HS.out ?_
                      simp only [pickL, List.map_cons, List.map_nil, List.getD_cons_succ, List.getD_cons_zero]
                      iterate 2 (go_big_quiet_step (fail))
                      refine wpQuiet_nil ?_
                      refine held_last (by kernel_rfl) ?_
                      go_wp2_with fail
                      go_meet
                      exact ⟨rfl, HB.out⟩
                  case rest =>
                    obtain ⟨rfl, hb12⟩ := hcut
                    rename World => w12
                    have HB12 : Hid (Below w5.heap.size w5 w12) := Lib.hid ((hb6.out.trans (hb7.out.mono hb6.out.size)).trans (hb12.mono (Nat.le_trans hb6.out.size hb7.out.size)))
                    clear hb12 hamm c7
                    go_wp2_with fail
                    go_roundw
                    case rel => exact ⟨kz + 1, by omega, by omega, by go_num, HB12⟩
                    case measure => simp [intOf]; omega
            · have hk13' : kz = 13 := by omega
              have HB6 : Hid (Below w1.heap.size w1 w6) := Lib.hid (HB15.out.trans (hb6.out.mono HB15.out.size))
              have s1 : decide (kz ≤ 12) = false := by simp; omega
              clear hk13'
              go_wp2_with fail
              go_roundw
              case rel => exact ⟨i + 1, by omega, by go_num, HB6⟩
              case measure => simp [intOf]; omega
      · have HB : Hid (Below w.heap.size w wr) := Lib.hid (HB1.out.trans (hb.out.mono HB1.out.size))
        by_cases k1 : count < 1
        · have g1 : decide (count < 1) = true := by simpa using k1
          go_wp2_with (first | (go_at_call 8; refine (awake_any _).mono ?_; rintro e w20 ⟨rfl, hb20⟩; have HB := Lib.hid (HB.out.trans (hb20.mono HB.out.size)); clear hb20))
          go_ret
          exact ⟨rfl, HB.out⟩
        · have g1 : decide (count < 1) = false := by simpa using k1
          by_cases k2 : 100 < count
          · have g2 : decide (100 < count) = true := by simpa using k2
            go_wp2_with (first | (go_at_call 8; refine (awake_any _).mono ?_; rintro e w20 ⟨rfl, hb20⟩; have HB := Lib.hid (HB.out.trans (hb20.mono HB.out.size)); clear hb20))
            go_ret
            exact ⟨rfl, HB.out⟩
          · have g2 : decide (100 < count) = false := by simpa using k2
            by_cases k3 : kind < 1
            · have g3 : decide (kind < 1) = true := by simpa using k3
              go_wp2_with (first | (go_at_call 8; refine (awake_any _).mono ?_; rintro e w20 ⟨rfl, hb20⟩; have HB := Lib.hid (HB.out.trans (hb20.mono HB.out.size)); clear hb20))
              go_ret
              exact ⟨rfl, HB.out⟩
            · have g3 : decide (kind < 1) = false := by simpa using k3
              by_cases k4 : 12 < kind
              · have g4 : decide (12 < kind) = true := by simpa using k4
                go_wp2_with (first | (go_at_call 8; refine (awake_any _).mono ?_; rintro e w20 ⟨rfl, hb20⟩; have HB := Lib.hid (HB.out.trans (hb20.mono HB.out.size)); clear hb20))
                go_ret
                exact ⟨rfl, HB.out⟩
              · have g4 : decide (12 < kind) = false := by simpa using k4
                have HMD := Lib.hid (fun W => made_any kind count W (by omega) (by omega) (by omega) (by omega))
                have hfits := made_fits (k := kind) (c := count) (by omega) (by omega) (by omega) (by omega)
                have hK := known_any dir tag wr Hd.out Ht.out
                obtain ⟨m, hm⟩ : ∃ m, (knownS dir tag).2 = m := ⟨_, rfl⟩
                obtain ⟨tl, htl⟩ : ∃ tl, (knownS dir tag).1 = tl := ⟨_, rfl⟩
                rw [hm, htl] at hK
                obtain ⟨mx, hmx⟩ : ∃ mx, max m 0 = mx := ⟨_, rfl⟩
                rw [hmx] at hK
                have HRS := Lib.hid (reserved_any dir tag)
                clear hmx k1 k2 k3 k4
                by_cases hm0 : 0 ≤ m
                · rw [decide_eq_true hm0] at hK
                  have HK := Lib.hid hK
                  clear hK hm htl hm0
                  go_wp2_with (first | (go_at_call 9; refine HK.out.mono ?_; rintro e w2 ⟨a1, n1, p1, rfl, hs1, hb1⟩; have HB := Lib.hid (HB.out.trans (hb1.mono HB.out.size)); clear hb1 hs1) | (go_at_call 8; refine (awake_any _).mono ?_; rintro e w20 ⟨rfl, hb20⟩; have HB := Lib.hid (HB.out.trans (hb20.mono HB.out.size)); clear hb20))
                  go_ret
                  exact ⟨rfl, HB.out⟩
                · rw [decide_eq_false hm0] at hK
                  have HK := Lib.hid hK
                  obtain ⟨r, hr⟩ : ∃ r, resS dir tag = r := ⟨_, rfl⟩
                  rw [hr] at HRS
                  have htm : tmayS dir tag kind count (madeB kind count) = (decide (0 ≤ tag) && decide (tag ≤ 65535) && !r) := by
                    unfold tmayS
                    rw [hr, hfits, hm, decide_eq_true H05.out.1, decide_eq_true H05.out.2, decide_eq_true (show m < 0 by omega)]
                    simp
                  have HM := Lib.hid (fun (a' : Option Addr) (n' c' : Nat) (W : World) (hs : Sl W a' n' c' 1 (ints .u8 (madeB kind count))) (hb : Byt (madeB kind count)) => rmay1_any dir tag kind count a' n' c' _ W hs hb Hd.out Ht.out)
                  rw [htm] at HM
                  clear hK hm htl hm0 htm hfits hr
                  cases r
                  · by_cases t0 : 0 ≤ tag
                    · by_cases t1 : tag < 65536
                      · have z0 : decide (0 ≤ tag) = true := by simpa using t0
                        have z1 : decide (tag < 65536) = true := by simpa using t1
                        rw [z0, decide_eq_true (show tag ≤ 65535 by omega)] at HM
                        simp only [Bool.and_self, Bool.not_false] at HM
                        clear t0 t1
                        go_wp2_with (first | (go_at_call 9; refine HK.out.mono ?_; rintro e w2 ⟨a1, n1, p1, rfl, hs1, hb1⟩; have HB := Lib.hid (HB.out.trans (hb1.mono HB.out.size)); clear hb1 hs1) | (go_at_call 12; refine (HRS.out _).mono ?_; rintro e w3 ⟨rfl, hb3⟩; have HB := Lib.hid (HB.out.trans (hb3.mono HB.out.size)); clear hb3) | (go_at_call 30; refine (HMD.out _).mono ?_; rintro e w4 ⟨a4, n4, p4, rfl, hs4, hy4, hb4⟩; have HB := Lib.hid (HB.out.trans (hb4.mono HB.out.size)); have S4 := Lib.hid hs4; have Y4 := Lib.hid hy4; clear hs4 hy4 hb4) | (go_at_call 14; refine (HM.out _ _ _ _ S4.out Y4.out).mono ?_; rintro e w5 ⟨rfl, hb5⟩; have HB := Lib.hid (HB.out.trans (hb5.mono HB.out.size)); clear hb5) | (go_at_call 8; refine (awake_any _).mono ?_; rintro e w20 ⟨rfl, hb20⟩; have HB := Lib.hid (HB.out.trans (hb20.mono HB.out.size)); clear hb20))
                        go_ret
                        exact ⟨rfl, HB.out⟩
                      · have z0 : decide (0 ≤ tag) = true := by simpa using t0
                        have z1 : decide (tag < 65536) = false := by simpa using t1
                        rw [z0, decide_eq_false (show ¬ tag ≤ 65535 by omega)] at HM
                        simp only [Bool.and_false, Bool.false_and] at HM
                        clear t0 t1
                        go_wp2_with (first | (go_at_call 9; refine HK.out.mono ?_; rintro e w2 ⟨a1, n1, p1, rfl, hs1, hb1⟩; have HB := Lib.hid (HB.out.trans (hb1.mono HB.out.size)); clear hb1 hs1) | (go_at_call 12; refine (HRS.out _).mono ?_; rintro e w3 ⟨rfl, hb3⟩; have HB := Lib.hid (HB.out.trans (hb3.mono HB.out.size)); clear hb3) | (go_at_call 30; refine (HMD.out _).mono ?_; rintro e w4 ⟨a4, n4, p4, rfl, hs4, hy4, hb4⟩; have HB := Lib.hid (HB.out.trans (hb4.mono HB.out.size)); have S4 := Lib.hid hs4; have Y4 := Lib.hid hy4; clear hs4 hy4 hb4) | (go_at_call 14; refine (HM.out _ _ _ _ S4.out Y4.out).mono ?_; rintro e w5 ⟨rfl, hb5⟩; have HB := Lib.hid (HB.out.trans (hb5.mono HB.out.size)); clear hb5) | (go_at_call 8; refine (awake_any _).mono ?_; rintro e w20 ⟨rfl, hb20⟩; have HB := Lib.hid (HB.out.trans (hb20.mono HB.out.size)); clear hb20))
                        go_ret
                        exact ⟨rfl, HB.out⟩
                    · have z0 : decide (0 ≤ tag) = false := by simpa using t0
                      rw [z0] at HM
                      simp only [Bool.false_and] at HM
                      clear t0
                      go_wp2_with (first | (go_at_call 9; refine HK.out.mono ?_; rintro e w2 ⟨a1, n1, p1, rfl, hs1, hb1⟩; have HB := Lib.hid (HB.out.trans (hb1.mono HB.out.size)); clear hb1 hs1) | (go_at_call 12; refine (HRS.out _).mono ?_; rintro e w3 ⟨rfl, hb3⟩; have HB := Lib.hid (HB.out.trans (hb3.mono HB.out.size)); clear hb3) | (go_at_call 30; refine (HMD.out _).mono ?_; rintro e w4 ⟨a4, n4, p4, rfl, hs4, hy4, hb4⟩; have HB := Lib.hid (HB.out.trans (hb4.mono HB.out.size)); have S4 := Lib.hid hs4; have Y4 := Lib.hid hy4; clear hs4 hy4 hb4) | (go_at_call 14; refine (HM.out _ _ _ _ S4.out Y4.out).mono ?_; rintro e w5 ⟨rfl, hb5⟩; have HB := Lib.hid (HB.out.trans (hb5.mono HB.out.size)); clear hb5) | (go_at_call 8; refine (awake_any _).mono ?_; rintro e w20 ⟨rfl, hb20⟩; have HB := Lib.hid (HB.out.trans (hb20.mono HB.out.size)); clear hb20))
                      go_ret
                      exact ⟨rfl, HB.out⟩
                  · simp only [Bool.not_true, Bool.and_false] at HM
                    go_wp2_with (first | (go_at_call 9; refine HK.out.mono ?_; rintro e w2 ⟨a1, n1, p1, rfl, hs1, hb1⟩; have HB := Lib.hid (HB.out.trans (hb1.mono HB.out.size)); clear hb1 hs1) | (go_at_call 12; refine (HRS.out _).mono ?_; rintro e w3 ⟨rfl, hb3⟩; have HB := Lib.hid (HB.out.trans (hb3.mono HB.out.size)); clear hb3) | (go_at_call 30; refine (HMD.out _).mono ?_; rintro e w4 ⟨a4, n4, p4, rfl, hs4, hy4, hb4⟩; have HB := Lib.hid (HB.out.trans (hb4.mono HB.out.size)); have S4 := Lib.hid hs4; have Y4 := Lib.hid hy4; clear hs4 hy4 hb4) | (go_at_call 14; refine (HM.out _ _ _ _ S4.out Y4.out).mono ?_; rintro e w5 ⟨rfl, hb5⟩; have HB := Lib.hid (HB.out.trans (hb5.mono HB.out.size)); clear hb5) | (go_at_call 8; refine (awake_any _).mono ?_; rintro e w20 ⟨rfl, hb20⟩; have HB := Lib.hid (HB.out.trans (hb20.mono HB.out.size)); clear hb20))
                    go_ret
                    exact ⟨rfl, HB.out⟩
  · have hout : dir < 0 ∨ 5 < dir := by omega
    have hnil := allS_out hout
    clear hin
    go_enter Try.func6, Try.ntmps6
    go_wp2_with fail
    refine HA.out.mono ?_
    rintro e w1 ⟨a, n, c, ss, rfl, hs1, hnd, hmem, hb1⟩
    rw [all_sorted dir hnd hmem, hnil] at hs1
    have hn := hs1.ilen
    have HB := Lib.hid hb1
    obtain rfl : n = 0 := by simpa using hn.symm
    clear hs1 hnd hmem hb1 hn hnil
    by_cases d0 : dir < 0
    · have f0 : decide (dir < 0) = true := by simpa using d0
      clear hout d0
      go_wp2_with (first | (go_at_call 8; refine (awake_any _).mono ?_; rintro e w20 ⟨rfl, hb20⟩; have HB := Lib.hid (HB.out.trans (hb20.mono HB.out.size)); clear hb20))
      go_ret
      exact ⟨rfl, HB.out⟩
    · have f0 : decide (dir < 0) = false := by simpa using d0
      have f1 : decide (6 ≤ dir) = true := by simp; omega
      clear hout d0
      go_wp2_with (first | (go_at_call 8; refine (awake_any _).mono ?_; rintro e w20 ⟨rfl, hb20⟩; have HB := Lib.hid (HB.out.trans (hb20.mono HB.out.size)); clear hb20))
      go_ret
      exact ⟨rfl, HB.out⟩
end Go.Proofs.Ytnhcmibngcmebaa
