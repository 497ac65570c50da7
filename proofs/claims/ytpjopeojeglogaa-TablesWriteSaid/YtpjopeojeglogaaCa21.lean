/- Chapter 4: whether a table may be: the program. A map from ints to ints that the call makes. -/
import Derived.Maps.Own
import Derived.Maps.OwnOps
import Derived.Maps.Views
import Derived.Test.YtpjopeojeglogaaCa02
import Derived.Test.YtpjopeojeglogaaCa14
namespace Go.Proofs.Ytpjopeojeglogaa
open Go.RowKit Tt
set_option linter.unusedVariables false
set_option linter.unusedSimpArgs false

theorem wf_of {n : Int} (h1 : -9223372036854775808 ≤ n) (h2 : n ≤ 9223372036854775807) : (Lit.int .i64 n).wf = true := by
  unfold Lit.wf; rw [Bool.and_eq_true, decide_eq_true_eq, decide_eq_true_eq]; exact ⟨h1, h2⟩
/-- block b is a map from ints to ints, of at most n entries, that has f -/
def CMap (w : World) (b n : Nat) (f : Int → Int) : Prop :=
  ∃ D : DataW Unit, w.ownsMap Try.prog 3 (plainElem Try.prog 3) b n D ∧ Go.Maps.IsMap D ∧ ∀ x, (Lit.int .i64 x).wf = true → D.atKey (.int .i64 x) (.lit (.int .i64 0)) = .lit (.int .i64 (f x))
theorem zeroI (w : World) : (zeroValue 3).run Try.prog w = .ok (.int .i64 0) w := by kernel_rfl
theorem keyI : Go.Maps.Keyed Try.prog 3 := Go.Maps.int_keyed Try.underlying3
theorem CMap.new (w : World) : CMap (w.alloc (.map #[] 0)) w.heap.size 0 (fun _ => 0) := ⟨_, World.ownsMap_made _ _ _ _, Go.Maps.isMap_empty, fun x _ => rfl⟩
theorem CMap.lt {w : World} {b n : Nat} {f : Int → Int} (h : CMap w b n f) : b < w.heap.size := by obtain ⟨D, h, _⟩ := h; exact h.lt
theorem CMap.look {w : World} {b n : Nat} {f : Int → Int} (h : CMap w b n f) {x : Int} (hx : (Lit.int .i64 x).wf = true) : (Instr.lookup 195 (.map (some b)) (.int .i64 x) false).run Try.prog w = .ok (.int .i64 (f x)) w := by
  obtain ⟨D, h, _, hf⟩ := h; obtain ⟨c, h1, h2, _⟩ := h.lookup_int keyI Try.underlying195 Try.underlying3 (zeroI w) (Go.Maps.keyOf_int_mk Try.underlying3 hx); have e : f x = c := (Lit.int.inj (DataW.lit.inj ((hf x hx).symm.trans h2))).2; rw [e]; exact h1
theorem CMap.put {w : World} {b n : Nat} {f : Int → Int} (h : CMap w b n f) (hn : n < 1000000) {x v : Int} (hx : (Lit.int .i64 x).wf = true) (hv : (Lit.int .i64 v).wf = true) :
    ∃ w', (Instr.mapUpdate 195 (.map (some b)) (.int .i64 x) (.int .i64 v)).run Try.prog w = .ok () w' ∧ CMap w' b (n + 1) (fun y => if y = x then v else f y) ∧ But b w w' := by
  obtain ⟨D, h, hi, hf⟩ := h; obtain ⟨w', h1, h2, h3⟩ := h.update keyI Try.underlying195 (by unfold maxLen; omega) (Go.Maps.keyOf_int_mk Try.underlying3 hx) (plainElem_int Try.underlying3 hv); obtain ⟨r1, r2, r3, r4, r5⟩ := h3; refine ⟨w', h1, ⟨_, h2, hi.put _ _, fun y hy => ?_⟩, ⟨r1, r2, r3, r4, fun k hk hne => r5 k hk (by simpa using hne)⟩⟩
  by_cases he : y = x
  · subst he
    show _ = DataW.lit (Lit.int .i64 (if y = y then v else f y))
    rw [if_pos rfl]; exact Go.Maps.atKey_put_same hi (by trivial) _ _
  · show _ = DataW.lit (Lit.int .i64 (if y = x then v else f y))
    rw [if_neg he, ← hf y hy]; exact Go.Maps.atKey_put_other (by intro e; injection e with _ e; exact he e) _ _
end Go.Proofs.Ytpjopeojeglogaa
