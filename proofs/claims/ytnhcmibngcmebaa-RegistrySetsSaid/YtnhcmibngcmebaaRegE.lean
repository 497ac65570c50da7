import Derived.Test.YtnhcmibngcmebaaReg1
/- Equality of two structs, of two arrays, of two integers. -/
namespace Go.Proofs.Ytnhcmibngcmebaa
open Go.RowKit Tt
set_option linter.unusedVariables false
set_option linter.unusedSimpArgs false
theorem eq_place (W : World) (a b c d : Int) : (binOp .eql 61 (plc a b) (plc c d)).run Try.prog W = .ok (.bool (a == c && b == d)) W := by
  have hs : Try.prog.stoodInHeld 61 = false := by kernel_rfl
  unfold plc
  rw [run_eql_struct, run_equalIn_agg (ht := by unfold Program.fieldsOf; rw [Try.underlying61]) (hp := hs)]
  unfold Program.fieldsOf
  rw [Try.underlying61]
  have e1 : ∀ (x y : Int) (W : World), (Op.equalIn 9999 3 (.int .i64 x) (.int .i64 y)).run Try.prog W = .ok (x == y) W := fun x y W => run_equalIn_int W 9998 _ _ _ x y Try.underlying3
  have p0 : ∀ (x y : Int) (W : World), (part 3 #[.int .i64 x, .int .i64 y] 0).run Try.prog W = .ok (.int .i64 x) W := fun x y W => by kernel_rfl
  have p1 : ∀ (x y : Int) (W : World), (part 3 #[.int .i64 x, .int .i64 y] 1).run Try.prog W = .ok (.int .i64 y) W := fun x y W => by kernel_rfl
  simp [Op.eqFields, e1, p0, p1, Result.andThen]
  cases h : a == c <;> cases h2 : b == d <;> simp_all
theorem eq_two (W : World) (a b c d : Int) : (binOp .eql 65 (.agg #[.int .i64 a, .int .i64 b]) (.agg #[.int .i64 c, .int .i64 d])).run Try.prog W = .ok (.bool (a == c && b == d)) W := by
  have e1 : ∀ (x y : Int) (W : World), (Op.equalIn 9999 3 (.int .i64 x) (.int .i64 y)).run Try.prog W = .ok (x == y) W := fun x y W => run_equalIn_int W 9998 _ _ _ x y Try.underlying3
  have p0 : ∀ (x y : Int) (W : World), (part 3 #[.int .i64 x, .int .i64 y] 0).run Try.prog W = .ok (.int .i64 x) W := fun x y W => by kernel_rfl
  have p1 : ∀ (x y : Int) (W : World), (part 3 #[.int .i64 x, .int .i64 y] 1).run Try.prog W = .ok (.int .i64 y) W := fun x y W => by kernel_rfl
  have hc : Try.prog.cellsOf 3 = 1 := by kernel_rfl
  have hi : ∃ i, Try.prog.info? 3 = some i := by
    cases h : Try.prog.info? 3 with
    | none =>
      have : (Try.prog.info? 3).isSome = true := by kernel_rfl
      rw [h] at this
      cases this
    | some i => exact ⟨i, rfl⟩
  obtain ⟨i, hi⟩ := hi
  rw [run_eql_struct, run_equalIn_array (w := W) 9999 _ _ Try.underlying65 hi, hc]
  have hr : List.range 2 = [0, 1] := by decide
  rw [hr]
  simp [Op.eqItems, e1, p0, p1, Result.andThen]
  cases h : a == c <;> cases h2 : b == d <;> simp_all
end Go.Proofs.Ytnhcmibngcmebaa
