import Derived.Test.YtnhcmibngcmebaaReg11
/- Chapter 23: which rows may be. -/
namespace Go.Proofs.Ytnhcmibngcmebaa
open Go.RowKit Tt
set_option linter.unusedVariables false

def rowS (dir : Int) (ts : List Tg) : Bool := ts.all (tmayT dir) && risesS ts && decide (0 ≤ dir) && decide (dir ≤ 5)
theorem tg_mem {ts : List Tg} {n k : Nat} (hl : ts.length = n) (hk : k < n) : ts.getD k (0, 0, 0, []) ∈ ts := by
  rw [List.getD_eq_getElem?_getD, List.getElem?_eq_getElem (by omega)]; exact List.getElem_mem _
theorem all_of {ts : List Tg} {n : Nat} {dir : Int} (hl : ts.length = n) (h : ∀ j, j < n → tmayT dir (ts.getD j (0, 0, 0, [])) = true) : ts.all (tmayT dir) = true := by
  rw [List.all_eq_true]
  intro x hx
  obtain ⟨i, hi, rfl⟩ := List.mem_iff_getElem.1 hx
  have := h i (by omega)
  rwa [List.getD_eq_getElem?_getD, List.getElem?_eq_getElem hi] at this
theorem all_no {ts : List Tg} {n k : Nat} {dir : Int} (hl : ts.length = n) (hk : k < n) (h : tmayT dir (ts.getD k (0, 0, 0, [])) = false) : ts.all (tmayT dir) = false := by
  cases hb : ts.all (tmayT dir)
  · rfl
  · have := List.all_eq_true.1 hb _ (tg_mem hl hk)
    rw [h] at this
    cases this

set_option maxHeartbeats 2000000 in
theorem rrow_any (dir : Int) (a : Option Addr) (n c : Nat) (ts : List Tg) (w : World) (h : Ts w a n c ts) :
    Calls Try.prog 17 #[.int .i64 dir, .slice a n c] w fun e w' => e = .returned (.bool (rowS dir ts)) ∧ Below w.heap.size w w' := by
  have hm := h.max
  have hl := h.len
  have H := Lib.hid h
  have Hl := Lib.hid hl
  clear h hl
  obtain ⟨r, hr⟩ : ∃ r, rowS dir ts = r := ⟨_, rfl⟩
  rw [hr]
  have Hr := Lib.hid hr
  clear hr
  go_enter Try.func17, Try.ntmps17
  go_wp2
  go_loopw [5] (fun i wr => ∃ k : Nat, k ≤ n ∧ i = .int .i64 k ∧ Hid (∀ j, j < k → tmayT dir (ts.getD j (0, 0, 0, [])) = true) ∧ Below w.heap.size w wr) (fun i _ => n - (intOf i).toNat)
  case atStart => exact ⟨0, by omega, rfl, Lib.hid (fun j hj => by omega), Below.refl _ _⟩
  case round =>
    obtain ⟨k, hk, rfl, hall, hb⟩ := hrel
    by_cases hlt : k < n
    · obtain ⟨b, o, a1, n1, c1, rfl, hbx, e0, e1, e2, e3, hs⟩ := (H.out.mono hb).at hlt
      obtain ⟨⟨tg, ty, ct, d⟩, hx⟩ : ∃ x, ts.getD k (0, 0, 0, []) = x := ⟨_, rfl⟩
      rw [hx] at e0 e1 e2 hs
      simp only at e0 e1 e2 hs
      have Hx := Lib.hid hx
      clear hx
      obtain ⟨m, hmm⟩ : ∃ m, tmayS dir tg ty ct d = m := ⟨_, rfl⟩
      have hmay := rtmay_any dir tg ty ct a1 n1 c1 d wr hs
      rw [hmm] at hmay
      have Hmm : Hid (tmayT dir (tg, ty, ct, d) = m) := Lib.hid hmm
      clear hmm hs
      go_wp2_with fail
      refine hmay.mono ?_
      rintro e w2 ⟨rfl, hb2⟩
      have hb3 := hb.trans (hb2.mono hb.size)
      clear hmay hb2 e0 e1 e2 e3
      cases m
      · obtain rfl : r = false := by
          rw [← Hr.out]
          unfold rowS
          rw [all_no Hl.out hlt (by rw [Hx.out]; exact Hmm.out)]
          rfl
        go_wp2
        go_ret
        exact ⟨rfl, hb3⟩
      · have hnext : Hid (∀ j, j < k + 1 → tmayT dir (ts.getD j (0, 0, 0, [])) = true) := Lib.hid (fun j hj => by
          rcases Nat.lt_or_ge j k with h | h
          · exact hall.out j h
          · obtain rfl : j = k := by omega
            rw [Hx.out]; exact Hmm.out)
        clear hall
        go_wp2
        go_roundw
        case rel => exact ⟨k + 1, by omega, by go_num, hnext, hb3⟩
        case measure => simp [intOf]; omega
    · have ha : ts.all (tmayT dir) = true := all_of Hl.out (fun j hj => hall.out j (by omega))
      have hrr : r = (risesS ts && decide (0 ≤ dir) && decide (dir ≤ 5)) := by
        rw [← Hr.out]; unfold rowS; rw [ha, Bool.true_and]
      have Hrr := Lib.hid hrr
      clear ha hrr hall
      have hri := rises_any a n c ts wr (H.out.mono hb)
      obtain ⟨q, hq⟩ : ∃ q, risesS ts = q := ⟨_, rfl⟩
      rw [hq] at hri
      have Hq := Lib.hid hq
      clear hq
      go_wp2_with fail
      refine hri.mono ?_
      rintro e w2 ⟨rfl, hq2⟩
      have hb3 := hb.trans (hq2.below _)
      clear hri hq2
      cases q
      · obtain rfl : r = false := by rw [Hrr.out, Hq.out]; rfl
        go_wp2
        go_ret
        exact ⟨rfl, hb3⟩
      · have hr2 : r = (decide (0 ≤ dir) && decide (dir ≤ 5)) := by rw [Hrr.out, Hq.out]; simp
        have Hr2 := Lib.hid hr2
        clear hr2
        by_cases t1 : 0 ≤ dir
        · by_cases t2 : dir ≤ 5
          · obtain rfl : r = true := by rw [Hr2.out, decide_eq_true t1, decide_eq_true t2]; rfl
            go_wp2
            go_ret
            exact ⟨rfl, hb3⟩
          · obtain rfl : r = false := by rw [Hr2.out, decide_eq_false t2]; simp
            go_wp2
            go_ret
            exact ⟨ret_bool (decide_eq_false (by omega)), hb3⟩
        · obtain rfl : r = false := by rw [Hr2.out, decide_eq_false t1]; simp
          go_wp2
          go_ret
          exact ⟨rfl, hb3⟩

end Go.Proofs.Ytnhcmibngcmebaa
