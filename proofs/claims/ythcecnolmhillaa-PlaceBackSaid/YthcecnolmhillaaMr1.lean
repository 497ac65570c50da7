/- Chapter 13: markers; a stream's lexer: what it needs, the next marker. -/
import Derived.Test.YthcecnolmhillaaOc2
import Derived.Test.YthcecnolmhillaaL8
namespace Go.Proofs.Ythcecnolmhillaa
open Go.RowKit Tt
set_option linter.unusedVariables false

def aloneB (m : Int) : Bool := m == 216 || m == 217
def restB (m : Int) : Bool := decide (208 ≤ m) && decide (m < 216)
def headB (m : Int) : Bool := decide (192 ≤ m) && decide (m < 255) && !aloneB m && !restB m
theorem alone_any (m : Int) (w : World) : Calls Try.prog 29 #[.int .i64 m] w fun e w' => e = .returned (.bool (aloneB m)) ∧ w = w' := by
  unfold aloneB
  cases h1 : (m == 216)
  all_goals
    go_enter Try.func29, Try.ntmps29
    go_wp2
    go_ret
    exact ⟨rfl, rfl⟩
theorem rest_any (m : Int) (w : World) : Calls Try.prog 36 #[.int .i64 m] w fun e w' => e = .returned (.bool (restB m)) ∧ w = w' := by
  unfold restB
  by_cases h1 : 208 ≤ m
  · have d1 : decide (208 ≤ m) = true := by simp; omega
    rw [d1]
    obtain ⟨r, hr⟩ : ∃ r, decide (m < 216) = r := ⟨_, rfl⟩
    rw [hr]
    go_enter Try.func36, Try.ntmps36
    go_wp2
    go_ret
    exact ⟨rfl, rfl⟩
  · have d1 : decide (208 ≤ m) = false := by simp; omega
    rw [d1]
    go_enter Try.func36, Try.ntmps36
    go_wp2
    go_ret
    exact ⟨rfl, rfl⟩
set_option maxHeartbeats 1000000 in
theorem head_any (m : Int) (w : World) : Calls Try.prog 34 #[.int .i64 m] w fun e w' => e = .returned (.bool (headB m)) ∧ w = w' := by
  have ha := fun W => alone_any m W
  have hr := fun W => rest_any m W
  unfold headB
  obtain ⟨x, hx⟩ : ∃ x, aloneB m = x := ⟨_, rfl⟩
  obtain ⟨y, hy⟩ : ∃ y, restB m = y := ⟨_, rfl⟩
  rw [hx] at ha ⊢
  rw [hy] at hr ⊢
  clear hx hy
  obtain ⟨p, hp⟩ : ∃ p, decide (192 ≤ m) = p := ⟨_, rfl⟩
  obtain ⟨q, hq⟩ : ∃ q, decide (m < 255) = q := ⟨_, rfl⟩
  rw [hp, hq]
  have ha' := Lib.hid ha
  have hr' := Lib.hid hr
  clear ha hr
  cases p <;> cases q <;> cases x
  all_goals
    go_enter Try.func34, Try.ntmps34
    go_wp2_with (first | (go_at_call 29; refine (ha'.out _).mono ?_; rintro e w' ⟨rfl, rfl⟩) | (go_at_call 36; refine (hr'.out _).mono ?_; rintro e w' ⟨rfl, rfl⟩))
    go_ret
    exact ⟨rfl, rfl⟩

/-- it needs what is there -/
theorem need_ok (g n c : Nat) (a : Option Addr) (at_ : Nat) (k : Int) (w : World) (h0 : w.cell? ⟨g, 0, none⟩ = some (.slice a n c)) (h1 : w.cell? ⟨g, 1, none⟩ = some (.int .i64 at_)) (hn : n ≤ 9223372036854775807) (ha : at_ ≤ n) (hk : k ≤ (n : Int) - at_) :
    Calls Try.prog 30 #[.pointer (some ⟨g, 0, none⟩), .int .i64 k] w fun e w' => e = .returned (.tuple #[]) ∧ Qt w w' := by
  have hw : IntKind.i64.wrap ((n : Int) - at_) = n - at_ := by rw [IntKind.wrap_i64]; omega
  have d1 : decide ((n : Int) - at_ < k) = false := by simp; omega
  go_enter Try.func30, Try.ntmps30
  go_wp2_with fail
  go_quiet (fail)
  go_wp2
  go_end0
  exact ⟨rfl, (Qt.refl _).step _⟩
end Go.Proofs.Ythcecnolmhillaa
