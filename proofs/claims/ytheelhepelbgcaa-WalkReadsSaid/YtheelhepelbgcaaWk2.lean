/- Small functions of chapters 1, 18, 19, 21: Room, Top, Size, Long, Inline, Outside, later, tag. -/
import Derived.Test.YtheelhepelbgcaaWk1
import Derived.Test.YtheelhepelbgcaaOc2
import Derived.Test.YtheelhepelbgcaaReg8
namespace Go.Proofs.Ytheelhepelbgcaa
open Go.RowKit Tt
set_option linter.unusedVariables false
set_option linter.unusedSimpArgs false

def roomB (a l e : Int) : Bool := decide (0 ≤ a) && decide (0 ≤ l) && decide (a ≤ e) && decide (l ≤ e - a)
def longS (ty cnt : Int) : Int := if cnt < 1 ∨ 65536 < cnt then 0 else cnt * (kindS ty).1
def outS (ty cnt : Int) : Int := if 4 < longS ty cnt then longS ty cnt else 0
def inlB (ty cnt : Int) : Bool := decide (0 < longS ty cnt) && decide (longS ty cnt ≤ 4)
theorem longS_le (ty cnt : Int) : 0 ≤ longS ty cnt ∧ longS ty cnt ≤ 524288 := by
  unfold longS
  have := kindS_size ty
  split
  · omega
  · rename_i h
    have h1 : cnt * (kindS ty).1 ≤ 65536 * 8 := Int.mul_le_mul (by omega) this.2 this.1 (by omega)
    exact ⟨Int.mul_nonneg (by omega) this.1, by omega⟩

theorem room_any (a l e : Int) (w : World) (h0 : 0 ≤ e) (h1 : e ≤ 9223372036854775807) : Calls Try.prog 63 #[.int .i64 a, .int .i64 l, .int .i64 e] w fun x w' => x = .returned (.bool (roomB a l e)) ∧ w = w' := by
  unfold roomB
  by_cases ha : 0 ≤ a
  · by_cases hl : 0 ≤ l
    · by_cases he : a ≤ e
      · have hw : IntKind.i64.wrap (e - a) = e - a := by rw [IntKind.wrap_i64]; omega
        simp only [ha, hl, he, decide_true, Bool.true_and]
        go_enter Try.func63, Try.ntmps63
        go_wp2
        go_ret
        exact ⟨rfl, rfl⟩
      · simp only [ha, hl, he, decide_true, decide_false, Bool.true_and, Bool.false_and]
        go_enter Try.func63, Try.ntmps63
        go_wp2
        go_ret
        exact ⟨rfl, rfl⟩
    · simp only [ha, hl, decide_true, decide_false, Bool.true_and, Bool.false_and]
      go_enter Try.func63, Try.ntmps63
      go_wp2
      go_ret
      exact ⟨rfl, rfl⟩
  · simp only [ha, decide_false, Bool.false_and]
    go_enter Try.func63, Try.ntmps63
    go_wp2
    go_ret
    exact ⟨rfl, rfl⟩
theorem rroom_any (a l e : Int) (w : World) (h0 : 0 ≤ e) (h1 : e ≤ 9223372036854775807) : Calls Try.prog 56 #[.int .i64 a, .int .i64 l, .int .i64 e] w fun x w' => x = .returned (.bool (roomB a l e)) ∧ w = w' := by
  unfold roomB
  by_cases ha : a < 0
  · rw [show decide (0 ≤ a) = false by simp; omega]
    simp only [Bool.false_and]
    go_enter Try.func56, Try.ntmps56
    go_wp2
    go_ret
    exact ⟨rfl, rfl⟩
  · have d1 : decide (a < 0) = false := by simp; omega
    by_cases hl : l < 0
    · rw [show decide (0 ≤ l) = false by simp; omega]
      simp only [Bool.false_and, Bool.and_false]
      go_enter Try.func56, Try.ntmps56
      go_wp2
      go_ret
      exact ⟨rfl, rfl⟩
    · have d2 : decide (l < 0) = false := by simp; omega
      by_cases he : e < a
      · rw [show decide (a ≤ e) = false by simp; omega]
        simp only [Bool.false_and, Bool.and_false]
        go_enter Try.func56, Try.ntmps56
        go_wp2
        go_ret
        exact ⟨rfl, rfl⟩
      · have d3 : decide (e < a) = false := by simp; omega
        have hw : IntKind.i64.wrap (e - a) = e - a := by rw [IntKind.wrap_i64]; omega
        rw [show decide (0 ≤ a) = true by simp; omega, show decide (0 ≤ l) = true by simp; omega, show decide (a ≤ e) = true by simp; omega]
        simp only [Bool.true_and]
        go_enter Try.func56, Try.ntmps56
        go_wp2
        go_ret
        exact ⟨rfl, rfl⟩
set_option maxRecDepth 100000 in
theorem size_any (n : Int) (w : World) : Calls Try.prog 67 #[.int .i64 n] w fun e w' => e = .returned (.int .i64 (kindS n).1) ∧ Below w.heap.size w w' := by
  have hK := kind_any n w
  generalize (kindS n).1 = s1 at *
  generalize (kindS n).2.1 = s2 at *
  generalize (kindS n).2.2 = s3 at *
  have hF : ∀ W, (Instr.field 131 (.agg #[.int .i64 s1, .int .i64 s2, .int .i64 s3]) 0).run Try.prog W = .ok (.int .i64 s1) W := fun W => by kernel_rfl
  have hK' := Lib.hid hK
  clear hK
  go_enter Try.func67, Try.ntmps67
  go_wp2_with fail
  refine hK'.out.mono ?_
  rintro e w1 ⟨rfl, hb1⟩
  have HB := Lib.hid hb1
  clear hb1
  go_wp2_with fail
  go_ret
  exact ⟨rfl, HB.out⟩
set_option maxRecDepth 20000 in
theorem long_any (ty cnt : Int) (w : World) : Calls Try.prog 80 #[.int .i64 ty, .int .i64 cnt] w fun e w' => e = .returned (.int .i64 (longS ty cnt)) ∧ Below w.heap.size w w' := by
  have hk := kindS_size ty
  unfold longS
  by_cases h : cnt < 1
  · rw [if_pos (.inl h)]
    go_enter Try.func80, Try.ntmps80
    go_wp2
    go_ret
    exact ⟨rfl, Below.refl _ _⟩
  · have d1 : decide (cnt < 1) = false := by simp; omega
    by_cases h2 : 65536 < cnt
    · rw [if_pos (.inr h2)]
      go_enter Try.func80, Try.ntmps80
      go_wp2
      go_ret
      exact ⟨rfl, Below.refl _ _⟩
    · have d2 : decide (65536 < cnt) = false := by simp; omega
      rw [if_neg (by omega)]
      have h3 : cnt * (kindS ty).1 ≤ 65536 * 8 := Int.mul_le_mul (by omega) hk.2 hk.1 (by omega)
      have h4 : 0 ≤ cnt * (kindS ty).1 := Int.mul_nonneg (by omega) hk.1
      have hS := fun W => size_any ty W
      generalize (kindS ty).1 = s at *
      have hw : IntKind.i64.wrap (cnt * s) = cnt * s := by rw [IntKind.wrap_i64]; omega
      have hk' := Lib.hid hk
      have hS' := Lib.hid hS
      clear hk hS
      go_enter Try.func80, Try.ntmps80
      go_wp2_with (go_at_call 67; refine (hS'.out _).mono ?_; rintro e w1 ⟨rfl, hb1⟩; have HB := Lib.hid hb1; clear hb1)
      go_ret
      exact ⟨rfl, HB.out⟩
set_option maxRecDepth 20000 in
theorem rlong_any (ty cnt : Int) (w : World) : Calls Try.prog 96 #[.int .i64 ty, .int .i64 cnt] w fun e w' => e = .returned (.int .i64 (longS ty cnt)) ∧ Below w.heap.size w w' := by
  have hk := kindS_size ty
  unfold longS
  by_cases h : cnt < 1
  · rw [if_pos (.inl h)]
    go_enter Try.func96, Try.ntmps96
    go_wp2
    go_ret
    exact ⟨rfl, Below.refl _ _⟩
  · have d1 : decide (cnt < 1) = false := by simp; omega
    by_cases h2 : 65536 < cnt
    · rw [if_pos (.inr h2)]
      go_enter Try.func96, Try.ntmps96
      go_wp2
      go_ret
      exact ⟨rfl, Below.refl _ _⟩
    · have d2 : decide (65536 < cnt) = false := by simp; omega
      rw [if_neg (by omega)]
      have h3 : cnt * (kindS ty).1 ≤ 65536 * 8 := Int.mul_le_mul (by omega) hk.2 hk.1 (by omega)
      have h4 : 0 ≤ cnt * (kindS ty).1 := Int.mul_nonneg (by omega) hk.1
      have hS := fun W => rsize_any ty W
      generalize (kindS ty).1 = s at *
      have hw : IntKind.i64.wrap (cnt * s) = cnt * s := by rw [IntKind.wrap_i64]; omega
      have hk' := Lib.hid hk
      have hS' := Lib.hid hS
      clear hk hS
      go_enter Try.func96, Try.ntmps96
      go_wp2_with (go_at_call 26; refine (hS'.out _).mono ?_; rintro e w1 ⟨rfl, rfl⟩)
      go_ret
      exact ⟨rfl, Below.refl _ _⟩
theorem out_any (ty cnt : Int) (w : World) : Calls Try.prog 68 #[.int .i64 ty, .int .i64 cnt] w fun e w' => e = .returned (.int .i64 (outS ty cnt)) ∧ Below w.heap.size w w' := by
  have hK := long_any ty cnt w
  unfold outS
  generalize longS ty cnt = s at *
  have hK' := Lib.hid hK
  clear hK
  by_cases h : 4 < s
  · rw [if_pos h]
    go_enter Try.func68, Try.ntmps68
    go_wp2_with (go_at_call 80; refine (hK'.out).mono ?_; rintro e w1 ⟨rfl, hb1⟩; have HB := Lib.hid hb1; clear hb1)
    go_ret
    exact ⟨rfl, HB.out⟩
  · have d : decide (4 < s) = false := by simp; omega
    rw [if_neg h]
    go_enter Try.func68, Try.ntmps68
    go_wp2_with (go_at_call 80; refine (hK'.out).mono ?_; rintro e w1 ⟨rfl, hb1⟩; have HB := Lib.hid hb1; clear hb1)
    go_ret
    exact ⟨rfl, HB.out⟩
theorem rout_any (ty cnt : Int) (w : World) : Calls Try.prog 88 #[.int .i64 ty, .int .i64 cnt] w fun e w' => e = .returned (.int .i64 (outS ty cnt)) ∧ Below w.heap.size w w' := by
  have hK := fun W => rlong_any ty cnt W
  unfold outS
  generalize longS ty cnt = s at *
  have hK' := Lib.hid hK
  clear hK
  by_cases h : 4 < s
  · rw [if_pos h]
    go_enter Try.func88, Try.ntmps88
    go_wp2_with fail
    refine (hK'.out _).mono ?_
    rintro e w1 ⟨rfl, hb1⟩
    go_wp2_with fail
    refine (hK'.out _).mono ?_
    rintro e w2 ⟨rfl, hb2⟩
    have hb := hb1.trans (hb2.mono hb1.size)
    clear hb1 hb2
    have hb' := Lib.hid hb
    clear hb
    go_wp2_with fail
    go_ret
    exact ⟨rfl, hb'.out⟩
  · have d : decide (4 < s) = false := by simp; omega
    rw [if_neg h]
    go_enter Try.func88, Try.ntmps88
    go_wp2_with (go_at_call 96; refine (hK'.out _).mono ?_; rintro e w1 ⟨rfl, hb1⟩; have HB := Lib.hid hb1; clear hb1)
    go_ret
    exact ⟨rfl, HB.out⟩
theorem inl_any (ty cnt : Int) (w : World) : Calls Try.prog 83 #[.int .i64 ty, .int .i64 cnt] w fun e w' => e = .returned (.bool (inlB ty cnt)) ∧ Below w.heap.size w w' := by
  have hK := long_any ty cnt w
  unfold inlB
  generalize longS ty cnt = s at *
  have hK' := Lib.hid hK
  clear hK
  by_cases h : 0 < s
  · simp only [h, decide_true, Bool.true_and]
    go_enter Try.func83, Try.ntmps83
    go_wp2_with (go_at_call 80; refine (hK'.out).mono ?_; rintro e w1 ⟨rfl, hb1⟩; have HB := Lib.hid hb1; clear hb1)
    go_ret
    exact ⟨rfl, HB.out⟩
  · have d : decide (0 < s) = false := by simp; omega
    rw [d, Bool.false_and]
    go_enter Try.func83, Try.ntmps83
    go_wp2_with (go_at_call 80; refine (hK'.out).mono ?_; rintro e w1 ⟨rfl, hb1⟩; have HB := Lib.hid hb1; clear hb1)
    go_ret
    exact ⟨rfl, HB.out⟩
theorem rinl_any (ty cnt : Int) (w : World) : Calls Try.prog 86 #[.int .i64 ty, .int .i64 cnt] w fun e w' => e = .returned (.bool (inlB ty cnt)) ∧ Below w.heap.size w w' := by
  have hK := fun W => rlong_any ty cnt W
  unfold inlB
  generalize longS ty cnt = s at *
  have hK' := Lib.hid hK
  clear hK
  by_cases h : 0 < s
  · have d : decide (1 ≤ s) = true := by simp; omega
    simp only [h, decide_true, Bool.true_and]
    go_enter Try.func86, Try.ntmps86
    go_wp2_with fail
    refine (hK'.out _).mono ?_
    rintro e w1 ⟨rfl, hb1⟩
    go_wp2_with fail
    refine (hK'.out _).mono ?_
    rintro e w2 ⟨rfl, hb2⟩
    have hb := hb1.trans (hb2.mono hb1.size)
    clear hb1 hb2
    have hb' := Lib.hid hb
    clear hb
    go_wp2_with fail
    go_ret
    exact ⟨rfl, hb'.out⟩
  · have d : decide (1 ≤ s) = false := by simp; omega
    rw [show decide (0 < s) = false by simp; omega, Bool.false_and]
    go_enter Try.func86, Try.ntmps86
    go_wp2_with (go_at_call 96; refine (hK'.out _).mono ?_; rintro e w1 ⟨rfl, hb1⟩; have HB := Lib.hid hb1; clear hb1)
    go_ret
    exact ⟨rfl, HB.out⟩
end Go.Proofs.Ytheelhepelbgcaa
