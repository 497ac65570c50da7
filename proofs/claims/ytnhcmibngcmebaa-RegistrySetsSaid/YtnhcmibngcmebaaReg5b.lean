import Derived.Test.YtnhcmibngcmebaaReg4others
import Derived.Deep.QuietTactic
import Derived.BigQuiet
namespace Go.Proofs.Ytnhcmibngcmebaa
open Go.RowKit Tt
set_option linter.unusedVariables false
attribute [-go_sem] run_eql_struct

def resL : List (Int × Int) := [(0, 34665), (0, 34853), (1, 513), (1, 514), (2, 37500), (2, 40965), (5, 45057), (5, 45058)]
def resS (d t : Int) : Bool := resL.contains (d, t)
theorem resS_no {d t : Int} (h : ∀ x ∈ resL, x ≠ (d, t)) : resS d t = false := by
  unfold resS
  rw [Bool.eq_false_iff]
  intro hc
  have := List.contains_iff_mem.1 hc
  exact h _ this rfl
def cells2 (ps : List (Int × Int)) : List Value := ps.flatMap fun p => [.int .i64 p.1, .int .i64 p.2]
theorem cells2_get : ∀ (ps : List (Int × Int)) (i : Nat), i < ps.length → (cells2 ps)[i * 2]? = some (.int .i64 (ps.getD i (0, 0)).1) ∧ (cells2 ps)[i * 2 + 1]? = some (.int .i64 (ps.getD i (0, 0)).2)
  | [], i, h => by simp at h
  | p :: r, 0, _ => by simp [cells2]
  | p :: r, i + 1, h => by
    have := cells2_get r i (by simpa using h)
    rw [show (i + 1) * 2 = i * 2 + 1 + 1 by omega]
    simpa [cells2] using this

set_option maxHeartbeats 1000000 in
theorem idx_any (a : Option Addr) (n c : Nat) (ps : List (Int × Int)) (d t : Int) (w : World) (hs : Sl w a n c 2 (cells2 ps)) (hl : ps.length = n) :
    Calls Try.prog 61 #[.slice a n c, plc d t] w fun e w' => ∃ k : Int, e = .returned (.int .i64 k) ∧ (0 ≤ k ↔ (d, t) ∈ ps) ∧ Below w.heap.size w w' := by
  have hm := hs.max
  have hle := hs.le
  have hEq := eq_place
  unfold plc at hEq ⊢
  have Hs := Lib.hid hs
  have Hl := Lib.hid hl
  clear hs hl
  go_enter Try.func61, Try.ntmps61
  go_wp2
  obtain ⟨g, hg⟩ : ∃ g, g = w.heap.size := ⟨_, rfl⟩
  obtain ⟨w1, hw1⟩ : ∃ w1, w1 = w.alloc (.cells #[.int .i64 d, .int .i64 t] 61) := ⟨_, rfl⟩
  have hs1 : Hid (Sl w1 a n c 2 (cells2 ps)) := Lib.hid (by rw [hw1]; exact sl_alloc Hs.out _)
  have hb1 : Hid (Below w.heap.size w w1) := Lib.hid (by rw [hw1]; exact (Below.refl _ _).alloc (Nat.le_refl _) _)
  have bx0 : w1.cell? ⟨g, 0, none⟩ = some (.int .i64 d) := by rw [hw1, hg]; unfold World.cell?; rw [heap_new]; rfl
  have bx1 : w1.cell? ⟨g, 1, none⟩ = some (.int .i64 t) := by rw [hw1, hg]; unfold World.cell?; rw [heap_new]; rfl
  rw [← hw1, ← hg]
  have HG := Lib.hid hg
  clear hw1 hg Hs
  go_loopw [8] (fun i wr => ∃ k : Nat, k ≤ n ∧ i = .int .i64 k ∧ Hid (∀ j, j < k → ps.getD j (0, 0) ≠ (d, t)) ∧ Qt w1 wr) (fun i _ => n - (intOf i).toNat)
  case atStart => exact ⟨0, by omega, rfl, Lib.hid (fun j hj => by omega), Qt.refl _⟩
  case round =>
    obtain ⟨k, hk, rfl, hno, hq⟩ := hrel
    by_cases hlt : k < n
    · obtain ⟨b, off, rfl, hbx, hc⟩ := hs1.out.at hlt
      obtain ⟨g1, g2⟩ := cells2_get ps k (by rw [Hl.out]; exact hlt)
      have f1 := hc _ _ g1
      have f2 := hc _ _ g2
      obtain ⟨m, rfl⟩ := hq.ex
      obtain ⟨pd, pt, hpe⟩ : ∃ pd pt, ps.getD k (0, 0) = (pd, pt) := ⟨_, _, rfl⟩
      rw [hpe] at f1 f2
      have Hpe := Lib.hid hpe
      clear hc g1 g2 hpe
      rw [show off + (k * 2 + 1) = off + k * 2 + 1 by omega] at f2
      cases hcmp : (d == pd && t == pt)
      · go_wp2_with fail
        go_quiet (fail)
        go_wp2
        go_roundw
        case rel =>
          refine ⟨k + 1, by omega, by go_num, Lib.hid (fun j hj => ?_), ⟨_, rfl⟩⟩
          rcases Nat.lt_or_ge j k with h | h
          · exact hno.out j h
          · obtain rfl : j = k := by omega
            rw [Hpe.out]
            intro he
            injection he with h1 h2
            rw [h1, h2] at hcmp
            simp at hcmp
        case measure => simp [intOf]; omega
      · go_wp2_with fail
        go_quiet (fail)
        go_wp2
        go_ret
        refine ⟨k, rfl, ⟨fun _ => ?_, fun _ => by omega⟩, ?_⟩
        · simp at hcmp
          have : ps.getD k (0, 0) ∈ ps := by
            rw [List.getD_eq_getElem?_getD, List.getElem?_eq_getElem (by rw [Hl.out]; exact hlt)]; exact List.getElem_mem _
          rw [Hpe.out, ← hcmp.1, ← hcmp.2] at this
          exact this
        · exact hb1.out.trans ((hq.step _).below _)
    · go_wp2
      go_ret
      refine ⟨-1, rfl, ⟨fun h => by omega, fun h => ?_⟩, hb1.out.trans (hq.below _)⟩
      exfalso
      obtain ⟨i, hi, he⟩ := List.mem_iff_getElem.1 h
      refine hno.out i (by rw [Hl.out] at hi; omega) ?_
      rw [List.getD_eq_getElem?_getD, List.getElem?_eq_getElem hi]
      exact he

theorem contains_any (a : Option Addr) (n c : Nat) (ps : List (Int × Int)) (d t : Int) (w : World) (hs : Sl w a n c 2 (cells2 ps)) (hl : ps.length = n) :
    Calls Try.prog 38 #[.slice a n c, plc d t] w fun e w' => e = .returned (.bool (ps.contains (d, t))) ∧ Below w.heap.size w w' := by
  have hi := fun W h => idx_any a n c ps d t W h hl
  unfold plc at hi ⊢
  obtain ⟨r, hr⟩ : ∃ r, ps.contains (d, t) = r := ⟨_, rfl⟩
  rw [hr]
  have Hr := Lib.hid hr
  clear hr
  go_enter Try.func38, Try.ntmps38
  go_wp2_with fail
  refine (hi _ (sl_alloc hs _)).mono ?_
  rintro e w2 ⟨k, rfl, hk, hb⟩
  have hb2 := ((Below.refl w.heap.size w).alloc (Nat.le_refl _) (.cells #[.int .i64 d, .int .i64 t] 61)).trans (hb.mono (by simp))
  clear hb hi
  have hkr : decide (0 ≤ k) = r := by
    rw [← Hr.out]
    rw [Bool.eq_iff_iff, decide_eq_true_iff, List.contains_iff_mem]
    exact hk
  clear hk
  go_wp2
  go_ret
  exact ⟨ret_bool rfl, hb2⟩

set_option maxHeartbeats 1000000 in
theorem reserved_any (d t : Int) (w : World) :
    Calls Try.prog 12 #[.int .i64 d, .int .i64 t] w fun e w' => e = .returned (.bool (resS d t)) ∧ Below w.heap.size w w' := by
  have hc : ∀ W : World, Sl W (some ⟨w.heap.size, 0, none⟩) 8 8 2 (cells2 resL) → Calls Try.prog 38 #[.slice (some ⟨w.heap.size, 0, none⟩) 8 8, .agg #[.int .i64 d, .int .i64 t]] W fun e w' => e = .returned (.bool (resS d t)) ∧ Below W.heap.size W w' := fun W h => contains_any (some ⟨w.heap.size, 0, none⟩) 8 8 resL d t W h rfl
  generalize resS d t = r at *
  go_enter Try.func12, Try.ntmps12
  go_wp2_with fail
  refine (hc _ (Sl.new w 61 2 8 _ (0, 0) (by decide) rfl)).mono ?_
  rintro e w2 ⟨rfl, hb⟩
  have hb2 := ((Below.refl w.heap.size w).alloc (Nat.le_refl _) _).trans (hb.mono (by simp))
  clear hb hc
  go_wp2
  go_ret
  exact ⟨rfl, hb2⟩

set_option maxHeartbeats 4000000 in
theorem rreserved_any (d t : Int) (w : World) :
    Calls Try.prog 13 #[.int .i64 d, .int .i64 t] w fun e w' => e = .returned (.bool (resS d t)) ∧ w = w' := by
  have E := eq_two
  by_cases hex : (d, t) ∈ resL
  · have hr : resS d t = true := List.contains_iff_mem.2 hex
    rw [hr]
    simp only [resL, List.mem_cons, List.not_mem_nil, or_false, Prod.mk.injEq] at hex
    rcases hex with ⟨rfl, rfl⟩ | ⟨rfl, rfl⟩ | ⟨rfl, rfl⟩ | ⟨rfl, rfl⟩ | ⟨rfl, rfl⟩ | ⟨rfl, rfl⟩ | ⟨rfl, rfl⟩ | ⟨rfl, rfl⟩
    all_goals (go_enter Try.func13, Try.ntmps13; go_wp2; go_ret; exact ⟨rfl, rfl⟩)
  · have hr : resS d t = false := resS_no (fun x hx he => hex (he ▸ hx))
    rw [hr]
    simp only [resL, List.mem_cons, List.not_mem_nil, or_false, Prod.mk.injEq, not_or] at hex
    obtain ⟨h1, h2, h3, h4, h5, h6, h7, h8⟩ := hex
    have f1 : (d == 0 && t == 34665) = false := by simpa using h1
    have f2 : (d == 0 && t == 34853) = false := by simpa using h2
    have f3 : (d == 1 && t == 513) = false := by simpa using h3
    have f4 : (d == 1 && t == 514) = false := by simpa using h4
    have f5 : (d == 2 && t == 37500) = false := by simpa using h5
    have f6 : (d == 2 && t == 40965) = false := by simpa using h6
    have f7 : (d == 5 && t == 45057) = false := by simpa using h7
    have f8 : (d == 5 && t == 45058) = false := by simpa using h8
    clear h1 h2 h3 h4 h5 h6 h7 h8
    go_enter Try.func13, Try.ntmps13
    go_wp2
    go_ret
    exact ⟨rfl, rfl⟩
end Go.Proofs.Ytnhcmibngcmebaa
