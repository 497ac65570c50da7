/- Chapter 13: End, of a small stream somewhere. -/
import Derived.Test.YthcecnolmhillaaMr6
namespace Go.Proofs.Ythcecnolmhillaa
open Go.RowKit Tt
set_option linter.unusedVariables false

set_option maxRecDepth 20000 in
set_option maxHeartbeats 2000000 in
theorem end_core (n c : Nat) (a : Option Addr) (z : List Int) (at_ : Nat) (w : World) (hs : Sl w a n c 1 (ints .u8 z)) (hz : Byt z) (hc : (z.drop at_).take 15 = core15) (hn : at_ + 15 ≤ n) (hnn : n ≤ 140737488355328) :
    Calls Try.prog 24 #[.slice a n c, .int .i64 at_] w fun e w' => e = .returned (.tuple #[.int .i64 ((at_ + 15 : Nat) : Int), .bool true]) ∧ Below w.heap.size w w' := by
  obtain ⟨a2, cut, s2, _⟩ := cutl_u8 hs at_ (by omega) (at_ : Int) rfl
  have hO := Lib.hid (fun W hW => of_core (n - at_) (c - at_) a2 (z.drop at_) W hW (hz.drop _) hc (by omega) (by omega))
  have d1 : decide ((at_ : Int) < 0) = false := by simp
  have d2 : decide ((n : Int) < (at_ : Int)) = false := by simp; omega
  have d3 : decide (n < at_) = false := by simp; omega
  have hw : IntKind.i64.wrap ((at_ : Int) + 15) = at_ + 15 := by rw [IntKind.wrap_i64]; omega
  have e1 : ((at_ + 15 : Nat) : Int) = (at_ : Int) + 15 := by omega
  rw [e1]
  have s2' := Lib.hid s2
  have e1' := Lib.hid e1
  clear s2 e1
  clear hs hz hc
  go_enter Try.func24, Try.ntmps24
  go_wp2_with fail
  refine (hO.out _ s2'.out).mono ?_
  rintro e w1 ⟨a', n', c', rfl, hb⟩
  have hb' := Lib.hid hb
  clear hb
  go_wp2
  go_ret2
  exact ⟨rfl, hb'.out⟩
end Go.Proofs.Ythcecnolmhillaa
