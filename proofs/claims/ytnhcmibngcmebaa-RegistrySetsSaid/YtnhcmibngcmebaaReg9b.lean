import Derived.Test.YtnhcmibngcmebaaReg9
/- Chapter 23, the document: which tags may be in a directory; a tag by itself. -/
namespace Go.Proofs.Ytnhcmibngcmebaa
open Go.RowKit Tt
set_option linter.unusedVariables false

set_option maxHeartbeats 4000000 in
theorem rtmay_any (dir tag ty cnt : Int) (a : Option Addr) (n c : Nat) (d : List Int) (w : World) (hs : Sl w a n c 1 (ints .u8 d)) :
    Calls Try.prog 15 #[.int .i64 dir, .agg #[.int .i64 tag, .int .i64 ty, .int .i64 cnt, .slice a n c]] w fun e w' => e = .returned (.bool (tmayS dir tag ty cnt d)) ∧ Below w.heap.size w w' := by
  obtain ⟨m, hm⟩ : ∃ m, tmayS dir tag ty cnt d = m := ⟨_, rfl⟩
  rw [hm]
  have Hm := Lib.hid hm
  obtain ⟨w1, hw1⟩ : ∃ w1, w1 = w.alloc (.cells #[.int .i64 tag, .int .i64 ty, .int .i64 cnt, .slice a n c] 26) := ⟨_, rfl⟩
  have hb1 : Below w.heap.size w w1 := by rw [hw1]; exact (Below.refl _ _).alloc (Nat.le_refl _) _
  have Hs1 := Lib.hid (hs.mono hb1)
  obtain ⟨g, hg⟩ : ∃ g, g = w.heap.size := ⟨_, rfl⟩
  have ht1 : TagAt w1 g tag ty cnt a n c := by rw [hg, hw1]; exact TagAt.new ..
  obtain ⟨c0, c1, c2, c3, hlt⟩ := ht1
  have HT1 : Hid (TagAt w1 g tag ty cnt a n c) := Lib.hid ⟨c0, c1, c2, c3, hlt⟩
  have HB := Lib.hid hb1
  clear hm hs hb1
  go_enter Try.func15, Try.ntmps15
  by_cases t1 : dir < 0
  · obtain rfl : m = false := by rw [← Hm.out]; exact tmay_no (.inl t1)
    go_wp2
    go_ret
    exact ⟨rfl, (Below.refl _ _).alloc (Nat.le_refl _) _⟩
  have f1 : decide (dir < 0) = false := by simp; omega
  by_cases t2 : 5 < dir
  · obtain rfl : m = false := by rw [← Hm.out]; exact tmay_no (.inr (.inl t2))
    go_wp2
    go_ret
    exact ⟨rfl, (Below.refl _ _).alloc (Nat.le_refl _) _⟩
  have f2 : decide (5 < dir) = false := by simp; omega
  by_cases t3 : tag < 0
  · obtain rfl : m = false := by rw [← Hm.out]; exact tmay_no (.inr (.inr (.inl t3)))
    go_wp2
    go_ret
    exact ⟨rfl, (Below.refl _ _).alloc (Nat.le_refl _) _⟩
  have f3 : decide (tag < 0) = false := by simp; omega
  by_cases t4 : 65535 < tag
  · obtain rfl : m = false := by rw [← Hm.out]; exact tmay_no (.inr (.inr (.inr (.inl t4))))
    go_wp2
    go_ret
    exact ⟨rfl, (Below.refl _ _).alloc (Nat.le_refl _) _⟩
  have f4 : decide (65535 < tag) = false := by simp; omega
  go_wp2_with fail
  rw [← hw1, ← hg]
  have HG := Lib.hid hg
  clear hw1 hg
  refine (rreserved_any dir tag w1).mono ?_
  rintro e w2 ⟨rfl, rfl⟩
  cases hres : resS dir tag
  case true =>
    obtain rfl : m = false := by rw [← Hm.out]; exact tmay_no (.inr (.inr (.inr (.inr (.inl hres)))))
    clear hres
    go_wp2
    go_ret
    exact ⟨rfl, HB.out⟩
  have Hres := Lib.hid hres
  clear hres
  go_wp2_with fail
  refine (rmay_any ty cnt a n c d w1 Hs1.out).mono ?_
  rintro e w3 ⟨rfl, hb3⟩
  have HB3 := Lib.hid (HB.out.trans (hb3.mono HB.out.size))
  have HT3 := Lib.hid (HT1.out.mono hb3)
  clear hb3 HT1 HB c0 c1 c2 c3 hlt
  obtain ⟨c0, c1, c2, c3, hlt⟩ := HT3.out
  cases hmay : mayS ty cnt d
  case false =>
    obtain rfl : m = false := by rw [← Hm.out]; exact tmay_no (.inr (.inr (.inr (.inr (.inr hmay)))))
    clear hmay
    go_wp2
    go_ret
    exact ⟨rfl, HB3.out⟩
  have hme := tmay_else (d := d) (by omega) (by omega) (by omega) (by omega) Hres.out hmay
  rw [Hm.out] at hme
  have Hme := Lib.hid hme
  clear hmay t1 t2 t3 t4 hme
  go_wp2_with fail
  refine (rknown_any dir tag w3).mono ?_
  rintro e w4 ⟨a4, n4, c4, rfl, hs4, hb4⟩
  have HB4 := Lib.hid (HB3.out.trans (hb4.mono HB3.out.size))
  have HT4 := Lib.hid (HT3.out.mono hb4)
  clear hb4 HT3 HB3 c0 c1 c2 c3 hlt
  obtain ⟨c0, c1, c2, c3, hlt⟩ := HT4.out
  obtain ⟨⟨xl, xc⟩, hk⟩ : ∃ k, knownS dir tag = k := ⟨_, rfl⟩
  have hme := Hme.out
  rw [hk] at hme hs4
  rw [hk]
  simp only at hme hs4
  have hl4 := hs4.ilen
  have hm4 := hs4.max
  have hle4 := hs4.le
  have Hs4 := Lib.hid hs4
  have Hl4 := Lib.hid hl4
  clear hk hs4 hl4 Hme
  by_cases t5 : xc < 0
  · obtain rfl : m = true := by rw [hme, decide_eq_true t5]; rfl
    clear hme
    go_wp2
    go_ret
    exact ⟨rfl, HB4.out⟩
  · rw [decide_eq_false t5, Bool.false_or] at hme
    have f5 : decide (xc < 0) = false := by simp; omega
    have Hme := Lib.hid hme
    clear hme
    go_wp2
    go_loopw [7] (fun i wr => ∃ k : Nat, k ≤ n4 ∧ i = .int .i64 k ∧ Hid (∀ j, j < k → xl.getD j 0 ≠ ty) ∧ Qt w4 wr) (fun i _ => n4 - (intOf i).toNat)
    case atStart => exact ⟨0, by omega, rfl, Lib.hid (fun j hj => by omega), Qt.refl _⟩
    case round =>
      obtain ⟨k, hk, rfl, hno, hq⟩ := hrel
      obtain ⟨j, rfl⟩ := hq.ex
      by_cases hlt2 : k < n4
      · obtain ⟨b, off, rfl, hbx, hc⟩ := Hs4.out.at hlt2
        have e1 := hc k _ (ints_get (by rw [Hl4.out]; exact hlt2))
        clear hc
        obtain ⟨y, hy⟩ : ∃ y, xl.getD k 0 = y := ⟨_, rfl⟩
        rw [hy] at e1
        have Hy := Lib.hid hy
        clear hy
        by_cases t6 : y = ty
        · subst t6
          have hmem : xl.contains y = true := by
            have : xl.getD k 0 ∈ xl := by
              rw [List.getD_eq_getElem?_getD, List.getElem?_eq_getElem (by rw [Hl4.out]; exact hlt2)]; exact List.getElem_mem _
            rw [Hy.out] at this
            exact List.contains_iff_mem.2 this
          have hme := Hme.out
          rw [hmem, Bool.true_and] at hme
          have Hme2 := Lib.hid hme
          clear hme hmem hno
          by_cases t7 : xc = 0
          · have g1 : (xc == 0) = true := by simp [t7]
            obtain rfl : m = true := by rw [Hme2.out, g1]; rfl
            go_wp2_with fail
            go_quiet (fail)
            go_wp2
            go_ret
            exact ⟨rfl, HB4.out.trans (Qt.below ⟨_, rfl⟩ _)⟩
          · have g1 : (xc == 0) = false := by simp [t7]
            obtain rfl : m = (xc == cnt) := by rw [Hme2.out, g1]; simp
            go_wp2_with fail
            go_quiet (fail)
            go_wp2
            go_ret
            exact ⟨rfl, HB4.out.trans (Qt.below ⟨_, rfl⟩ _)⟩
        · have g1 : (y == ty) = false := by simp [t6]
          have hnext : Hid (∀ j, j < k + 1 → xl.getD j 0 ≠ ty) := Lib.hid (fun j hj => by
            rcases Nat.lt_or_ge j k with h | h
            · exact hno.out j h
            · obtain rfl : j = k := by omega
              rw [Hy.out]; exact t6)
          clear t6 hno
          go_wp2_with fail
          go_quiet (fail)
          go_wp2
          go_roundw
          case rel => exact ⟨k + 1, by omega, by go_num, hnext, ⟨_, rfl⟩⟩
          case measure => simp [intOf]; omega
      · have hnm : xl.contains ty = false := by
          rw [Bool.eq_false_iff]
          intro h
          obtain ⟨i, hi, he⟩ := List.mem_iff_getElem.1 (List.contains_iff_mem.1 h)
          refine hno.out i (by rw [Hl4.out] at hi; omega) ?_
          rw [List.getD_eq_getElem?_getD, List.getElem?_eq_getElem hi]
          exact he
        obtain rfl : m = false := by rw [Hme.out, hnm]; rfl
        clear hno hnm
        go_wp2
        go_ret
        exact ⟨rfl, HB4.out.trans (hq.below _)⟩
end Go.Proofs.Ytnhcmibngcmebaa
