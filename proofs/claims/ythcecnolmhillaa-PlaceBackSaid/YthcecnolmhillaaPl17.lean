/- Chapter 29: the examples. -/
import Derived.Test.YthcecnolmhillaaPl13
import Derived.Test.YthcecnolmhillaaPl16
namespace Go.Proofs.Ythcecnolmhillaa
open Go.RowKit Tt
set_option linter.unusedVariables false

def P3 : List Pl := [(0, 10, 0, 0, 0), (0, 20, 6, 0, 0), (0, 5, 26, 0, 0)]
theorem ex1 : startsOk [10, 20, 5] = true ∧ startsV [10, 20, 5] = [0, 10, 30, 35] := by decide
theorem ex2 : ofB [10, 20, 5] 4 [plz, plz, plz] = true ∧ ofV [10, 20, 5] 4 [plz, plz, plz] = P3 := by decide
theorem ex3 : backB P3 4 35 = true ∧ backV P3 4 35 = [0, 10, 30, 35] ∧ backB P3 4 36 = false := by decide

theorem P3_at : ∀ i, i < 3 → -9223372036854775808 ≤ (P3.getD i plz).2.2.1 ∧ (P3.getD i plz).2.2.1 ≤ 9223372036854775807 := fun i hi => by
  have : i = 0 ∨ i = 1 ∨ i = 2 := by omega
  rcases this with rfl | rfl | rfl <;> decide
set_option maxRecDepth 100000 in
set_option maxHeartbeats 8000000 in
theorem awake_any : Awake := by
  intro w
  have hmk : ∀ W, (Instr.makeSlice 23 (.int .i64 3) (.int .i64 3)).run Try.prog W = .ok (.slice (some ⟨W.heap.size, 0, none⟩) 3 3) (W.alloc (.cells #[.int .i64 0, .int .i64 0, .int .i64 0, .int .i64 0, .int .i64 0, .int .i64 0, .int .i64 0, .int .i64 0, .int .i64 0, .int .i64 0, .int .i64 0, .int .i64 0, .int .i64 0, .int .i64 0, .int .i64 0] 35)) := fun _ => by kernel_rfl
  go_enter Try.func5, Try.ntmps5
  go_wp2_with fail
  refine (starts_any _ _ _ [10, 20, 5] _ (Sl.new' _ 3 1 3 #[.int .i64 10, .int .i64 20, .int .i64 5] (0, 0) (by simp) (by omega) rfl) (by omega)).mono ?_
  rintro e w1 ⟨a1, n1, c1, rfl, s1, hb⟩
  rw [ex1.1]
  rw [ex1.2] at s1
  obtain rfl : n1 = 4 := s1.ilen.symm
  have HB := Lib.hid (((Below.refl w.heap.size w).alloc (Nat.le_refl _) (.cells #[.int .i64 10, .int .i64 20, .int .i64 5] 3)).trans (hb.mono (by simp)))
  have S1 := Lib.hid s1
  clear s1 hb
  go_wp2_with fail
  clear hmk
  have sx := Sl.new w1 3 1 3 #[.int .i64 10, .int .i64 20, .int .i64 5] (0, 0) (by omega) rfl
  have b1 := (Below.refl w1.heap.size w1).alloc (Nat.le_refl _) (.cells #[.int .i64 10, .int .i64 20, .int .i64 5] 3 (0, 0))
  obtain ⟨w2, hw2⟩ : ∃ w2, w2 = (w1.alloc (.cells #[.int .i64 10, .int .i64 20, .int .i64 5] 3)).alloc (.cells #[.int .i64 0, .int .i64 0, .int .i64 0, .int .i64 0, .int .i64 0, .int .i64 0, .int .i64 0, .int .i64 0, .int .i64 0, .int .i64 0, .int .i64 0, .int .i64 0, .int .i64 0, .int .i64 0, .int .i64 0] 35) := ⟨_, rfl⟩
  have b2 : Below w1.heap.size w1 w2 := by rw [hw2]; exact b1.alloc b1.size _
  have sx2 : Sl w2 (some ⟨w1.heap.size, 0, none⟩) 3 3 1 (ints .i64 [10, 20, 5]) := by rw [hw2]; exact sl_alloc sx _
  have sp : Sl w2 (some ⟨w1.heap.size + 1, 0, none⟩) 3 3 5 (pcs [plz, plz, plz]) := by
    rw [hw2]
    exact Sl.new' _ 35 5 3 #[.int .i64 0, .int .i64 0, .int .i64 0, .int .i64 0, .int .i64 0, .int .i64 0, .int .i64 0, .int .i64 0, .int .i64 0, .int .i64 0, .int .i64 0, .int .i64 0, .int .i64 0, .int .i64 0, .int .i64 0] (0, 0) (by simp) (by omega) rfl
  rw [← hw2]
  clear hw2 b1 sx
  refine (of_any _ _ _ [10, 20, 5] 4 _ _ _ [plz, plz, plz] _ sx2 sp (by omega) (by omega) (by omega)).mono ?_
  rintro e w3 ⟨a3, n3, c3, rfl, s3, hb⟩
  rw [ex2.1]
  rw [ex2.2] at s3
  obtain rfl : n3 = 3 := (Ps.ilen s3).symm
  have hb' := b2.trans (hb.mono b2.size)
  have HB := Lib.hid (HB.out.trans (hb'.mono HB.out.size))
  have S1 := Lib.hid (S1.out.mono hb')
  have S3 := Lib.hid s3
  clear s3 hb hb' b2 sx2 sp
  go_wp2_with fail
  refine (back_any _ _ _ P3 4 35 _ S3.out (by omega) (by omega) (by omega) (by omega) (by omega) P3_at).mono ?_
  rintro e w4 ⟨a4, n4, c4, rfl, s4, hb⟩
  rw [ex3.1]
  rw [ex3.2.1] at s4
  obtain rfl : n4 = 4 := s4.ilen.symm
  have HB := Lib.hid (HB.out.trans (hb.mono HB.out.size))
  have S1 := Lib.hid (S1.out.mono hb)
  have S3 := Lib.hid (S3.out.mono hb)
  have S4 := Lib.hid s4
  clear s4 hb
  go_wp2_with fail
  refine (back_any _ _ _ P3 4 36 _ S3.out (by omega) (by omega) (by omega) (by omega) (by omega) P3_at).mono ?_
  rintro e w5 ⟨a5, n5, c5, rfl, s5, hb⟩
  rw [ex3.2.2]
  have HB := Lib.hid (HB.out.trans (hb.mono HB.out.size))
  have S1 := Lib.hid (S1.out.mono hb)
  have S3 := Lib.hid (S3.out.mono hb)
  have S4 := Lib.hid (S4.out.mono hb)
  clear s5 hb
  go_wp2_with fail
  refine (core_any _).mono ?_
  rintro e w6 ⟨a6, c6, rfl, s6, hb⟩
  have HB := Lib.hid (HB.out.trans (hb.mono HB.out.size))
  have S1 := Lib.hid (S1.out.mono hb)
  have S3 := Lib.hid (S3.out.mono hb)
  have S4 := Lib.hid (S4.out.mono hb)
  have S6 := Lib.hid s6
  clear s6 hb
  go_wp2_with fail
  refine (find_core _ _ _ S6.out).mono ?_
  rintro e w7 ⟨a7, c7, rfl, s7, hb⟩
  have HB := Lib.hid (HB.out.trans (hb.mono HB.out.size))
  have S1 := Lib.hid (S1.out.mono hb)
  have S3 := Lib.hid (S3.out.mono hb)
  have S4 := Lib.hid (S4.out.mono hb)
  have S7 := Lib.hid s7
  clear s7 hb
  go_wp2_with fail
  have hb := (Below.refl w7.heap.size w7).alloc (Nat.le_refl _) (.cells #[.int .i64 0, .int .i64 10, .int .i64 30, .int .i64 35] 3)
  have SW := Lib.hid (Sl.new w7 3 1 4 #[.int .i64 0, .int .i64 10, .int .i64 30, .int .i64 35] (0, 0) (by omega) rfl)
  have HB := Lib.hid (HB.out.trans (hb.mono HB.out.size))
  have S1 := Lib.hid (S1.out.mono hb)
  have S3 := Lib.hid (S3.out.mono hb)
  have S4 := Lib.hid (S4.out.mono hb)
  have S7 := Lib.hid (S7.out.mono hb)
  clear hb
  refine (ints_same _ _ _ _ _ _ [0, 10, 30, 35] _ S1.out SW.out).mono ?_
  rintro e w8 ⟨rfl, hb⟩
  have HB := Lib.hid (HB.out.trans (hb.mono HB.out.size))
  have S3 := Lib.hid (S3.out.mono hb)
  have S4 := Lib.hid (S4.out.mono hb)
  have S7 := Lib.hid (S7.out.mono hb)
  have SW := Lib.hid (SW.out.mono hb)
  clear hb
  go_wp2_with fail
  have hb := (Below.refl w8.heap.size w8).alloc (Nat.le_refl _) (.cells #[.int .i64 0, .int .i64 10, .int .i64 0, .int .i64 0, .int .i64 0, .int .i64 0, .int .i64 20, .int .i64 6, .int .i64 0, .int .i64 0, .int .i64 0, .int .i64 5, .int .i64 26, .int .i64 0, .int .i64 0] 35)
  have SP := Lib.hid (show Sl _ _ 3 3 5 (pcs P3) from Sl.new w8 35 5 3 #[.int .i64 0, .int .i64 10, .int .i64 0, .int .i64 0, .int .i64 0, .int .i64 0, .int .i64 20, .int .i64 6, .int .i64 0, .int .i64 0, .int .i64 0, .int .i64 5, .int .i64 26, .int .i64 0, .int .i64 0] (0, 0) (by omega) rfl)
  have HB := Lib.hid (HB.out.trans (hb.mono HB.out.size))
  have S3 := Lib.hid (S3.out.mono hb)
  have S4 := Lib.hid (S4.out.mono hb)
  have S7 := Lib.hid (S7.out.mono hb)
  have SW := Lib.hid (SW.out.mono hb)
  clear hb
  refine (places_same _ _ _ _ _ _ P3 _ S3.out SP.out).mono ?_
  rintro e w9 ⟨rfl, hb⟩
  have HB := Lib.hid (HB.out.trans (hb.mono HB.out.size))
  have S4 := Lib.hid (S4.out.mono hb)
  have S7 := Lib.hid (S7.out.mono hb)
  have SW := Lib.hid (SW.out.mono hb)
  clear hb
  go_wp2_with fail
  refine (ints_same _ _ _ _ _ _ [0, 10, 30, 35] _ S4.out SW.out).mono ?_
  rintro e w10 ⟨rfl, hb⟩
  have HB := Lib.hid (HB.out.trans (hb.mono HB.out.size))
  have S7 := Lib.hid (S7.out.mono hb)
  clear hb
  go_wp2_with fail
  have hb := (Below.refl w10.heap.size w10).alloc (Nat.le_refl _) (.cells #[.int .i64 0, .int .i64 15, .int .i64 30] 3)
  have SV := Lib.hid (Sl.new w10 3 1 3 #[.int .i64 0, .int .i64 15, .int .i64 30] (0, 0) (by omega) rfl)
  have HB := Lib.hid (HB.out.trans (hb.mono HB.out.size))
  have S7 := Lib.hid (S7.out.mono hb)
  clear hb
  refine (ints_same _ _ _ _ _ _ [0, 15, 30] _ S7.out SV.out).mono ?_
  rintro e w11 ⟨rfl, hb⟩
  have HB := Lib.hid (HB.out.trans (hb.mono HB.out.size))
  clear hb
  go_wp2
  go_ret
  exact ⟨rfl, HB.out⟩
end Go.Proofs.Ythcecnolmhillaa
