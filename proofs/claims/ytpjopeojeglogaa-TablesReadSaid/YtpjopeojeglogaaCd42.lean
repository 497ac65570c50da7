/- Frames: what came in, as the walks take it; the witness of a row that lists a variable. | The closed facts of the row of TablesRead, each by itself. -/
import Derived.ProofKit
import Derived.OpenShut
import Derived.ShutString
import Derived.ChangeOld
import Derived.Below
import Derived.SizedLaws
import Derived.LaidMore
import Derived.LaidLaws
import Derived.Stop.Joined
import Derived.Deep.DeepHandedRow
import Derived.Deep.Matrix
import Derived.Test.YtpjopeojeglogaaCd00
import Derived.Test.YtpjopeojeglogaaRows
namespace Tt
open Go Go.RowKit Go.ChangeShapes Go.WideShapes Go.ChangeAt
set_option linter.unusedVariables false

theorem cell_spot {w : World} {a : Addr} {v : Value} (h : w.cell? a = some v) : a = ⟨a.block, a.off, none⟩ ∧ a.block < w.heap.size := by
  refine ⟨?_, World.block_lt_of_cell? w a h⟩; obtain ⟨b, o, s⟩ := a
  cases s with
  | none => rfl
  | some x => simp [World.cell?] at h; split at h <;> simp_all
theorem add_zero_addr (a : Addr) : a.add 0 = a := rfl
theorem mk_add (b o n : Nat) : (⟨b, o, none⟩ : Addr).add n = ⟨b, o + n, none⟩ := by
  unfold Addr.add
  split
  · next h => rw [h, Nat.add_zero]
  · rfl

/-- A row of cells behind an address reads as a slice. -/
theorem Sl.of_cells {w : World} {x : Addr} {n c : Nat} {vs : List Value} (hn : n ≤ c) (hc : c ≤ maxLen) (hl : vs.length = c) (h : ∀ i v, vs[i]? = some v → w.cell? (x.add i) = some v) : Sl w (some x) n c 1 (vs.take n) := by
  refine ⟨by rw [List.length_take]; omega, hn, hc, fun i hi => ?_, fun he => by cases he⟩; have h0 := h 0 _ (List.getElem?_eq_getElem (show 0 < vs.length by omega)); rw [add_zero_addr] at h0; obtain ⟨e, hlt⟩ := cell_spot h0; refine ⟨x.block, x.off, by rw [← e], hlt, fun j v hj => ?_⟩
  have hj' : vs[j]? = some v := by
    rw [List.getElem?_take] at hj
    split at hj
    · exact hj
    · cases hj
  have := h j v hj'; rw [e, mk_add] at this; exact this

theorem Sl.of_ints {w : World} {k : IntKind} {x : Addr} {n c : Nat} {zs : List Int} (hn : n ≤ c) (hc : c ≤ maxLen) (hl : zs.length = c) (h : ∀ i, i < zs.length → w.cell? (x.add i) = some (.int k (zs.getD i 0))) : Sl w (some x) n c 1 (ints k (zs.take n)) := by
  have := Sl.of_cells (vs := ints k zs) hn hc (by rw [ints_len, hl]) (fun i v hv => by
    have hi : i < zs.length := by
      have := (List.getElem?_eq_some_iff.1 hv).1
      rwa [ints_len] at this
    rw [ints_get hi] at hv; rw [h i hi]; exact hv)
  rwa [show (ints k zs).take n = ints k (zs.take n) by simp [ints, List.map_take]] at this
theorem byt_wf {zs : List Int} (h : ∀ n ∈ zs, (Lit.int .u8 n).wf = true) : Byt zs := fun n hn => by
  have := h n hn
  simp [Lit.wf, IntKind.min, IntKind.max, IntKind.signed, IntKind.bits] at this
  omega
/-- A slice of bytes that came in. -/
theorem open_bytes {H : Type} {enc : TypeId × Value → H} {P : Program} {W : World} {t e : TypeId} {base : Nat} {spare : Nat → Bool} {held : Bool} {a : Option Addr} {n c fuel : Nat} {x : DataW H × List MemPlace} (ht : P.underlying t = some (.slice e)) (he : P.underlying e = some (.int .u8)) (hc : P.cellsOf e = 1)
    (h : DataW.trod enc P W base spare held fuel t (Value.slice a n c).cells.toList = some x) (hs : spare = fun _ => true) : ∃ l, Sl W a n c 1 (ints .u8 l) ∧ Byt l := by
  subst hs
  rcases open_ints ht he hc h with ⟨hcs, _⟩ | ⟨y, l, c', zs, hcs, _, hl, hm, hz, _, hcell, hwz⟩
  · simp [Value.cells] at hcs
    obtain ⟨rfl, rfl, rfl⟩ := hcs; exact ⟨[], Sl.nil _ _, fun x hx => by cases hx⟩
  · simp [Value.cells] at hcs
    obtain ⟨rfl, rfl, rfl⟩ := hcs; exact ⟨_, Sl.of_ints hl hm (by simpa using hz) hcell, (byt_wf hwz).take _⟩

section
variable {H : Type} {enc : TypeId × Value → H}
end
end Tt

namespace Go.Proofs.Ytpjopeojeglogaa.tablesRead
theorem band {a b : Bool} (h1 : a = true) (h2 : b = true) : (a && b) = true := by rw [h1, h2]; rfl
set_option maxRecDepth 100000 in
set_option maxHeartbeats 8000000 in
theorem joined : joinedFacts Try.pinned.checked.prog 8 Try.f8 Rows.tablesReadSpec Rows.tablesReadRow = true := by
  unfold joinedFacts
  repeat' (with_reducible apply band)
  all_goals as_aux_lemma => kernel_rfl
end Go.Proofs.Ytpjopeojeglogaa.tablesRead
