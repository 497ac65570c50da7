import Derived.Test.YtheelhepelbgcaaReg7
/- Chapter 18, the document: sizes, and which values may be. -/
namespace Go.Proofs.Ytheelhepelbgcaa
open Go.RowKit Tt
set_option linter.unusedVariables false

set_option maxHeartbeats 2000000 in
theorem rsize_any (n : Int) (w : World) : Calls Try.prog 26 #[.int .i64 n] w fun e w' => e = .returned (.int .i64 (kindS n).1) ∧ w = w' := by
  by_cases h1 : n = 1
  · subst h1
    have e : (kindS 1).1 = 1 := by decide
    rw [e]
    go_enter Try.func26, Try.ntmps26
    go_wp2
    go_ret
    exact ⟨rfl, rfl⟩
  by_cases h2 : n = 2
  · subst h2
    have e : (kindS 2).1 = 1 := by decide
    rw [e]
    go_enter Try.func26, Try.ntmps26
    go_wp2
    go_ret
    exact ⟨rfl, rfl⟩
  by_cases h3 : n = 3
  · subst h3
    have e : (kindS 3).1 = 2 := by decide
    rw [e]
    go_enter Try.func26, Try.ntmps26
    go_wp2
    go_ret
    exact ⟨rfl, rfl⟩
  by_cases h4 : n = 4
  · subst h4
    have e : (kindS 4).1 = 4 := by decide
    rw [e]
    go_enter Try.func26, Try.ntmps26
    go_wp2
    go_ret
    exact ⟨rfl, rfl⟩
  by_cases h5 : n = 5
  · subst h5
    have e : (kindS 5).1 = 8 := by decide
    rw [e]
    go_enter Try.func26, Try.ntmps26
    go_wp2
    go_ret
    exact ⟨rfl, rfl⟩
  by_cases h6 : n = 6
  · subst h6
    have e : (kindS 6).1 = 1 := by decide
    rw [e]
    go_enter Try.func26, Try.ntmps26
    go_wp2
    go_ret
    exact ⟨rfl, rfl⟩
  by_cases h7 : n = 7
  · subst h7
    have e : (kindS 7).1 = 1 := by decide
    rw [e]
    go_enter Try.func26, Try.ntmps26
    go_wp2
    go_ret
    exact ⟨rfl, rfl⟩
  by_cases h8 : n = 8
  · subst h8
    have e : (kindS 8).1 = 2 := by decide
    rw [e]
    go_enter Try.func26, Try.ntmps26
    go_wp2
    go_ret
    exact ⟨rfl, rfl⟩
  by_cases h9 : n = 9
  · subst h9
    have e : (kindS 9).1 = 4 := by decide
    rw [e]
    go_enter Try.func26, Try.ntmps26
    go_wp2
    go_ret
    exact ⟨rfl, rfl⟩
  by_cases h10 : n = 10
  · subst h10
    have e : (kindS 10).1 = 8 := by decide
    rw [e]
    go_enter Try.func26, Try.ntmps26
    go_wp2
    go_ret
    exact ⟨rfl, rfl⟩
  by_cases h11 : n = 11
  · subst h11
    have e : (kindS 11).1 = 4 := by decide
    rw [e]
    go_enter Try.func26, Try.ntmps26
    go_wp2
    go_ret
    exact ⟨rfl, rfl⟩
  by_cases h12 : n = 12
  · subst h12
    have e : (kindS 12).1 = 8 := by decide
    rw [e]
    go_enter Try.func26, Try.ntmps26
    go_wp2
    go_ret
    exact ⟨rfl, rfl⟩
  have e : (kindS n).1 = 0 := by
    rcases Classical.em (n < 0 ∨ 12 < n) with h | h
    · rw [kindS_out h]
    · obtain rfl : n = 0 := by omega
      decide
  rw [e]
  go_enter Try.func26, Try.ntmps26
  go_wp2
  go_ret
  exact ⟨rfl, rfl⟩

theorem textB_no {l : List Int} {i : Nat} (hi : i < l.length) (h : ¬ (l.getD i 0 = 0 ↔ i + 1 = l.length)) : textB l = false := by
  cases hb : textB l
  · rfl
  · exact absurd ((textB_iff l).1 hb i hi) h

set_option maxHeartbeats 4000000 in
theorem rmay_any (ty cnt : Int) (a : Option Addr) (n c : Nat) (d : List Int) (w : World) (hs : Sl w a n c 1 (ints .u8 d)) :
    Calls Try.prog 43 #[.agg #[.int .i64 ty, .int .i64 cnt, .slice a n c]] w fun e w' => e = .returned (.bool (mayS ty cnt d)) ∧ Below w.heap.size w w' := by
  have hl := hs.ilen
  obtain ⟨m, hm⟩ : ∃ m, mayS ty cnt d = m := ⟨_, rfl⟩
  rw [hm]
  have Hm := Lib.hid hm
  have Hl := Lib.hid hl
  have hsz := kindS_size ty
  have hmx := hs.max
  have hle := hs.le
  obtain ⟨w1, hw1⟩ : ∃ w1, w1 = w.alloc (.cells #[.int .i64 ty, .int .i64 cnt, .slice a n c] 54) := ⟨_, rfl⟩
  have hb1 : Below w.heap.size w w1 := by rw [hw1]; exact (Below.refl _ _).alloc (Nat.le_refl _) _
  have Hs1 := Lib.hid (hs.mono hb1)
  obtain ⟨g, hg⟩ : ∃ g, g = w.heap.size := ⟨_, rfl⟩
  have hblk : w1.heap[g]? = some (.cells #[.int .i64 ty, .int .i64 cnt, .slice a n c] 54) := by rw [hg, hw1]; exact heap_new w _
  have hlt : g < w1.heap.size := (Array.getElem?_eq_some_iff.1 hblk).1
  have c0 : w1.cell? ⟨g, 0, none⟩ = some (.int .i64 ty) := by unfold World.cell?; rw [hblk]; rfl
  have c1 : w1.cell? ⟨g, 1, none⟩ = some (.int .i64 cnt) := by unfold World.cell?; rw [hblk]; rfl
  have c2 : w1.cell? ⟨g, 2, none⟩ = some (.slice a n c) := by unfold World.cell?; rw [hblk]; rfl
  have HB := Lib.hid hb1
  clear hm hl hs hb1 hblk
  obtain ⟨sz, pt, is, hk⟩ : ∃ s p i, kindS ty = (s, p, i) := ⟨_, _, _, rfl⟩
  rw [hk] at hsz
  simp only at hsz
  have Hk := Lib.hid hk
  clear hk
  have hkc := fun j => (rsize_any ty (w1.drewN j)).mono (fun e w' (h : _ ∧ _) => (⟨h.1, by rw [← h.2]; exact Qt.refl _⟩ : _ ∧ Qt _ w'))
  rw [Hk.out] at hkc
  simp only at hkc
  have Hkc := Lib.hid hkc
  clear hkc
  go_enter Try.func43, Try.ntmps43
  go_wp2_with fail
  rw [← hw1, ← hg]
  have HG := Lib.hid hg
  clear hw1 hg
  by_cases t1 : sz = 0
  · subst t1
    obtain rfl : m = false := by rw [← Hm.out]; exact may_no (.inl (by rw [Hk.out]))
    go_quiet ((go_at_call 26; exact Calls.quiet_of (Hkc.out _)))
    go_wp2
    go_ret
    exact ⟨rfl, HB.out.trans (Qt.below ⟨_, rfl⟩ _)⟩
  have f1 : (sz == 0) = false := by simp [t1]
  by_cases t2 : cnt < 1
  · obtain rfl : m = false := by rw [← Hm.out]; exact may_no (.inr (.inl t2))
    go_quiet ((go_at_call 26; exact Calls.quiet_of (Hkc.out _)))
    go_wp2
    go_ret
    exact ⟨rfl, HB.out.trans (Qt.below ⟨_, rfl⟩ _)⟩
  have f2 : decide (cnt < 1) = false := by simp; omega
  by_cases t3 : 65536 < cnt
  · obtain rfl : m = false := by rw [← Hm.out]; exact may_no (.inr (.inr (.inl t3)))
    go_quiet ((go_at_call 26; exact Calls.quiet_of (Hkc.out _)))
    go_wp2
    go_ret
    exact ⟨rfl, HB.out.trans (Qt.below ⟨_, rfl⟩ _)⟩
  have f3 : decide (65536 < cnt) = false := by simp; omega
  have hw : IntKind.i64.wrap (cnt * sz) = cnt * sz := by
    have : 0 ≤ cnt * sz := Int.mul_nonneg (by omega) (by omega)
    have : cnt * sz ≤ 65536 * 8 := Int.mul_le_mul (by omega) (by omega) (by omega) (by omega)
    rw [IntKind.wrap_i64]; omega
  by_cases t4 : (n : Int) = cnt * sz
  · have hmm := may_else (ty := ty) (cnt := cnt) (d := d) (by rw [Hk.out]; exact t1) t2 t3 (by rw [Hl.out, Hk.out]; exact t4)
    rw [Hm.out] at hmm
    have Hmm := Lib.hid hmm
    have f4 : ((n : Int) != cnt * sz) = false := by simp [t4]
    clear hmm t4
    go_quiet ((go_at_call 26; exact Calls.quiet_of (Hkc.out _)))
    go_wp2
    go_loopw [3] (fun i wr => ∃ k : Nat, k ≤ n ∧ i = .int .i64 k ∧ Hid (∀ j, j < k → (d.getD j 0 = 0 ↔ j + 1 = n)) ∧ Qt w1 wr) (fun i _ => n - (intOf i).toNat)
    case atStart => exact ⟨0, by omega, rfl, Lib.hid (fun j hj => by omega), ⟨_, rfl⟩⟩
    case round =>
      obtain ⟨k, hk, rfl, hall, hq⟩ := hrel
      by_cases t5 : ty = 2
      · subst t5
        have hmt : m = textB d := by rw [Hmm.out]; rfl
        have Hmt := Lib.hid hmt
        clear hmt
        by_cases hlt : k < n
        · obtain ⟨b, off, rfl, hbx, hc⟩ := Hs1.out.at hlt
          have e1 := hc k _ (ints_get (by rw [Hl.out]; exact hlt))
          clear hc
          obtain ⟨x, hx⟩ : ∃ x, d.getD k 0 = x := ⟨_, rfl⟩
          rw [hx] at e1
          have Hx := Lib.hid hx
          clear hx
          obtain ⟨j, rfl⟩ := hq.ex
          by_cases t6 : x = 0
          · have g1 : (x == 0) = true := by simp [t6]
            by_cases t7 : k + 1 = n
            · have g2 : ((k : Int) == (n : Int) - 1) = true := by simp; omega
              have hnext : Hid (∀ j, j < k + 1 → (d.getD j 0 = 0 ↔ j + 1 = n)) := Lib.hid (fun j hj => by
                rcases Nat.lt_or_ge j k with h | h
                · exact hall.out j h
                · obtain rfl : j = k := by omega
                  rw [Hx.out]; exact ⟨fun _ => t7, fun _ => t6⟩)
              clear t6 t7 hall
              go_wp2_with fail
              go_quiet (fail)
              go_wp2
              go_roundw
              case rel => exact ⟨k + 1, by omega, by go_num, hnext, ⟨_, rfl⟩⟩
              case measure => simp [intOf]; omega
            · have g2 : ((k : Int) == (n : Int) - 1) = false := by simp; omega
              obtain rfl : m = false := by rw [Hmt.out]; exact textB_no (i := k) (by rw [Hl.out]; exact hlt) (by rw [Hx.out, Hl.out]; exact fun h => t7 (h.1 t6))
              clear t6 t7 hall
              go_wp2_with fail
              go_quiet (fail)
              go_wp2
              go_ret
              exact ⟨rfl, HB.out.trans ((hq.step _).below _)⟩
          · have g1 : (x == 0) = false := by simp [t6]
            by_cases t7 : k + 1 = n
            · have g2 : ((k : Int) == (n : Int) - 1) = true := by simp; omega
              obtain rfl : m = false := by rw [Hmt.out]; exact textB_no (i := k) (by rw [Hl.out]; exact hlt) (by rw [Hx.out, Hl.out]; exact fun h => t6 (h.2 t7))
              clear t6 t7 hall
              go_wp2_with fail
              go_quiet (fail)
              go_wp2
              go_ret
              exact ⟨rfl, HB.out.trans ((hq.step _).below _)⟩
            · have g2 : ((k : Int) == (n : Int) - 1) = false := by simp; omega
              have hnext : Hid (∀ j, j < k + 1 → (d.getD j 0 = 0 ↔ j + 1 = n)) := Lib.hid (fun j hj => by
                rcases Nat.lt_or_ge j k with h | h
                · exact hall.out j h
                · obtain rfl : j = k := by omega
                  rw [Hx.out]; exact ⟨fun h => absurd h t6, fun h => absurd h t7⟩)
              clear t6 t7 hall
              go_wp2_with fail
              go_quiet (fail)
              go_wp2
              go_roundw
              case rel => exact ⟨k + 1, by omega, by go_num, hnext, ⟨_, rfl⟩⟩
              case measure => simp [intOf]; omega
        · obtain rfl : m = true := by
            rw [Hmt.out]
            refine (textB_iff d).2 fun i hi => ?_
            rw [Hl.out] at hi ⊢
            exact hall.out i (by omega)
          obtain ⟨j, rfl⟩ := hq.ex
          go_wp2
          go_ret
          exact ⟨rfl, HB.out.trans (hq.below _)⟩
      · have g1 : (ty == 2) = false := by simp [t5]
        have g2 : (ty != 2) = true := by simp [t5]
        obtain rfl : m = true := by rw [Hmm.out, g2]; rfl
        obtain ⟨j, rfl⟩ := hq.ex
        by_cases hlt : k < n
        · go_wp2
          go_ret
          exact ⟨rfl, HB.out.trans (hq.below _)⟩
        · go_wp2
          go_ret
          exact ⟨rfl, HB.out.trans (hq.below _)⟩
  · obtain rfl : m = false := by rw [← Hm.out]; exact may_no (.inr (.inr (.inr (by rw [Hl.out, Hk.out]; exact t4))))
    have f4 : ((n : Int) != cnt * sz) = true := by simp [t4]
    go_quiet ((go_at_call 26; exact Calls.quiet_of (Hkc.out _)))
    go_wp2
    go_ret
    exact ⟨rfl, HB.out.trans (Qt.below ⟨_, rfl⟩ _)⟩
end Go.Proofs.Ytheelhepelbgcaa
