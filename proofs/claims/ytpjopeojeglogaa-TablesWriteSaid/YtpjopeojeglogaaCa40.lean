/- The closed facts of the row of TablesWrite, each by itself. -/
import Derived.Test.YtpjopeojeglogaaCa01
namespace Go.Proofs.Ytpjopeojeglogaa.tablesWrite
theorem band {a b : Bool} (h1 : a = true) (h2 : b = true) : (a && b) = true := by rw [h1, h2]; rfl
set_option maxRecDepth 100000 in
set_option maxHeartbeats 8000000 in
theorem joined : joinedFacts Try.pinned.checked.prog 7 Try.f7 Rows.tablesWriteSpec Rows.tablesWriteRow = true := by
  unfold joinedFacts
  repeat' (with_reducible apply band)
  all_goals as_aux_lemma => kernel_rfl
end Go.Proofs.Ytpjopeojeglogaa.tablesWrite
