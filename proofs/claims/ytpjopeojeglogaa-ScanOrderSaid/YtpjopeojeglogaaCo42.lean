/- The closed facts of the row of ScanOrder, each by itself. -/
import Derived.Test.YtpjopeojeglogaaCo00
namespace Go.Proofs.Ytpjopeojeglogaa.scanOrder
theorem band {a b : Bool} (h1 : a = true) (h2 : b = true) : (a && b) = true := by rw [h1, h2]; rfl
set_option maxRecDepth 100000 in
set_option maxHeartbeats 8000000 in
theorem joined : joinedFacts Try.pinned.checked.prog 5 Try.f5 Rows.scanOrderSpec Rows.scanOrderRow = true := by
  unfold joinedFacts
  repeat' (with_reducible apply band)
  all_goals as_aux_lemma => kernel_rfl
end Go.Proofs.Ytpjopeojeglogaa.scanOrder
