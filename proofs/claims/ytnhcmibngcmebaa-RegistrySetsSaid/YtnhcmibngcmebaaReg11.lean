import Derived.Test.YtnhcmibngcmebaaReg10
/- Chapter 23: rows: whether too much, rising, whether they may be; two rows of numbers. -/
namespace Go.Proofs.Ytnhcmibngcmebaa
open Go.RowKit Tt
set_option linter.unusedVariables false

set_option maxHeartbeats 1000000 in
theorem ints_any (a a' : Option Addr) (n n' c c' : Nat) (x y : List Int) (w : World) (hx : Sl w a n c 1 (ints .i64 x)) (hy : Sl w a' n' c' 1 (ints .i64 y)) :
    Calls Try.prog 11 #[.slice a n c, .slice a' n' c'] w fun e w' => e = .returned (.bool (x == y)) ∧ Qt w w' := by
  have hxl := hx.ilen
  have hyl := hy.ilen
  have hm := hx.max
  have hle := hx.le
  have hm' := hy.max
  have hle' := hy.le
  have Hx := Lib.hid hx
  have Hy := Lib.hid hy
  have Xl := Lib.hid hxl
  have Yl := Lib.hid hyl
  clear hx hy hxl hyl
  obtain ⟨r, hr⟩ : ∃ r, (x == y) = r := ⟨_, rfl⟩
  rw [hr]
  have Hr := Lib.hid hr
  clear hr
  by_cases hnn : n = n'
  · subst hnn
    have f0 : ((n : Int) != (n : Int)) = false := by simp
    go_enter Try.func11, Try.ntmps11
    go_wp2
    go_loopw [5] (fun i wr => ∃ k : Nat, k ≤ n ∧ i = .int .i64 k ∧ Hid (x.take k = y.take k) ∧ Qt w wr) (fun i _ => n - (intOf i).toNat)
    case atStart => exact ⟨0, by omega, rfl, Lib.hid rfl, Qt.refl _⟩
    case round =>
      obtain ⟨k, hk, rfl, htk, hq⟩ := hrel
      by_cases hlt : k < n
      · obtain ⟨b, o, rfl, hb, hc⟩ := Hx.out.at hlt
        obtain ⟨b', o', rfl, hb', hc'⟩ := Hy.out.at hlt
        have f1 := hc k _ (ints_get (by rw [Xl.out]; exact hlt))
        have f2 := hc' k _ (ints_get (by rw [Yl.out]; exact hlt))
        clear hc hc'
        obtain ⟨u, hu⟩ : ∃ u, x.getD k 0 = u := ⟨_, rfl⟩
        obtain ⟨v, hv⟩ : ∃ v, y.getD k 0 = v := ⟨_, rfl⟩
        rw [hu] at f1
        rw [hv] at f2
        have Hu := Lib.hid hu
        have Hv := Lib.hid hv
        clear hu hv
        obtain ⟨j, rfl⟩ := hq.ex
        by_cases he : u = v
        · have hne : (u != v) = false := by simp [he]
          have hnext : Hid (x.take (k + 1) = y.take (k + 1)) := Lib.hid (take_succ_eq Xl.out Yl.out hlt htk.out (by rw [Hu.out, Hv.out, he]))
          clear he
          go_wp2_with fail
          go_quiet (fail)
          go_wp2
          go_roundw
          case rel => exact ⟨k + 1, by omega, by go_num, hnext, ⟨_, rfl⟩⟩
          case measure => simp [intOf]; omega
        · have hne : (u != v) = true := by simp [he]
          obtain rfl : r = false := by rw [← Hr.out]; exact ne_of_at (k := k) (by rw [Hu.out, Hv.out]; exact he)
          clear he
          go_wp2_with fail
          go_quiet (fail)
          go_wp2
          go_ret
          exact ⟨rfl, hq.step _⟩
      · obtain rfl : r = true := by rw [← Hr.out]; exact eq_of_take Xl.out Yl.out (by omega) htk.out
        go_wp2
        go_ret
        exact ⟨rfl, hq⟩
  · have f0 : ((n : Int) != (n' : Int)) = true := by simp; omega
    obtain rfl : r = false := by
      rw [← Hr.out, beq_eq_false_iff_ne]
      rintro rfl
      exact hnn (Xl.out.symm.trans Yl.out)
    go_enter Try.func11, Try.ntmps11
    go_wp2
    go_ret
    exact ⟨rfl, Qt.refl _⟩

/-- are there more tags, or bytes of one, than are gone through? -/
def vastS (ts : List Tg) : Bool := ts.any (fun x => decide (600 < x.2.2.2.length)) || decide (60 < ts.length)
set_option maxHeartbeats 1000000 in
theorem vast_any (a : Option Addr) (n c : Nat) (ts : List Tg) (w : World) (h : Ts w a n c ts) :
    Calls Try.prog 7 #[.slice a n c] w fun e w' => e = .returned (.bool (vastS ts)) ∧ w = w' := by
  have hm := h.max
  have hl := h.len
  have H := Lib.hid h
  have Hl := Lib.hid hl
  clear h hl
  obtain ⟨r, hr⟩ : ∃ r, vastS ts = r := ⟨_, rfl⟩
  rw [hr]
  have Hr := Lib.hid hr
  clear hr
  go_enter Try.func7, Try.ntmps7
  go_wp2
  go_loopw [3] (fun i wr => ∃ k : Nat, k ≤ n ∧ i = .int .i64 k ∧ Hid (∀ j, j < k → ¬ 600 < (ts.getD j (0, 0, 0, [])).2.2.2.length) ∧ Hid (wr = w)) (fun i _ => n - (intOf i).toNat)
  case atStart => exact ⟨0, by omega, rfl, Lib.hid (fun j hj => by omega), Lib.hid rfl⟩
  case round =>
    obtain ⟨k, hk, rfl, hall, hw⟩ := hrel
    obtain rfl := hw.out.symm
    clear hw
    by_cases hlt : k < n
    · obtain ⟨b, o, a1, n1, c1, rfl, hb, e0, e1, e2, e3, hs⟩ := H.out.at hlt
      have hl1 := hs.ilen
      clear e0 e1 e2 hs
      by_cases t1 : 600 < n1
      · have f1 : decide ((600 : Int) < n1) = true := by simp; omega
        obtain rfl : r = true := by
          rw [← Hr.out]
          unfold vastS
          rw [Bool.or_eq_true]
          left
          rw [List.any_eq_true]
          refine ⟨ts.getD k (0, 0, 0, []), ?_, by rw [hl1]; exact decide_eq_true t1⟩
          rw [List.getD_eq_getElem?_getD, List.getElem?_eq_getElem (by rw [Hl.out]; exact hlt)]
          exact List.getElem_mem _
        clear hl1
        go_wp2
        go_ret
        exact ⟨rfl, rfl⟩
      · have f1 : decide ((600 : Int) < n1) = false := by simp; omega
        have hnext : Hid (∀ j, j < k + 1 → ¬ 600 < (ts.getD j (0, 0, 0, [])).2.2.2.length) := Lib.hid (fun j hj => by
          rcases Nat.lt_or_ge j k with h | h
          · exact hall.out j h
          · obtain rfl : j = k := by omega
            rw [hl1]; exact t1)
        clear hl1 hall
        go_wp2
        go_roundw
        case rel => exact ⟨k + 1, by omega, by go_num, hnext, Lib.hid trivial⟩
        case measure => simp [intOf]; omega
    · have hv : vastS ts = decide (60 < n) := by
        unfold vastS
        rw [Hl.out]
        have : ts.any (fun x => decide (600 < x.2.2.2.length)) = false := by
          rw [List.any_eq_false]
          intro x hx
          obtain ⟨i, hi, rfl⟩ := List.mem_iff_getElem.1 hx
          have := hall.out i (by rw [Hl.out] at hi; omega)
          rw [List.getD_eq_getElem?_getD, List.getElem?_eq_getElem hi] at this
          simpa using this
        rw [this, Bool.false_or]
      rw [Hr.out] at hv
      have Hv := Lib.hid hv
      clear hv hall
      go_wp2
      go_ret
      refine ⟨ret_bool ?_, rfl⟩
      rw [Hv.out]
      rw [Bool.eq_iff_iff, decide_eq_true_iff, decide_eq_true_iff]
      omega

/-- do tags rise? -/
def risesS (ts : List Tg) : Bool := decide (∀ i, i < ts.length - 1 → (ts.getD i (0, 0, 0, [])).1 < (ts.getD (i + 1) (0, 0, 0, [])).1)
theorem risesS_iff {ts : List Tg} : risesS ts = true ↔ ∀ i, i + 1 < ts.length → (ts.getD i (0, 0, 0, [])).1 < (ts.getD (i + 1) (0, 0, 0, [])).1 := by
  unfold risesS
  rw [decide_eq_true_iff]
  exact ⟨fun h i hi => h i (by omega), fun h i hi => h i (by omega)⟩
theorem risesS_no {ts : List Tg} {i : Nat} (hi : i + 1 < ts.length) (h : (ts.getD (i + 1) (0, 0, 0, [])).1 ≤ (ts.getD i (0, 0, 0, [])).1) : risesS ts = false := by
  cases hb : risesS ts
  · rfl
  · have := risesS_iff.1 hb i hi
    omega

set_option maxHeartbeats 1000000 in
theorem rises_any (a : Option Addr) (n c : Nat) (ts : List Tg) (w : World) (h : Ts w a n c ts) :
    Calls Try.prog 18 #[.slice a n c] w fun e w' => e = .returned (.bool (risesS ts)) ∧ Qt w w' := by
  have hm := h.max
  have hl := h.len
  have H := Lib.hid h
  have Hl := Lib.hid hl
  clear h hl
  obtain ⟨r, hr⟩ : ∃ r, risesS ts = r := ⟨_, rfl⟩
  rw [hr]
  have Hr := Lib.hid hr
  clear hr
  go_enter Try.func18, Try.ntmps18
  go_wp2
  go_loopw [3] (fun i wr => ∃ k : Nat, k ≤ n ∧ i = .int .i64 ((k : Int) + 1) ∧ Hid (∀ j, j < k → j + 1 < n → (ts.getD j (0, 0, 0, [])).1 < (ts.getD (j + 1) (0, 0, 0, [])).1) ∧ Qt w wr) (fun i _ => n + 1 - (intOf i).toNat)
  case atStart => exact ⟨0, by omega, rfl, Lib.hid (fun j hj => by omega), Qt.refl _⟩
  case round =>
    obtain ⟨k, hk, rfl, hall, hq⟩ := hrel
    by_cases hlt : k + 1 < n
    · obtain ⟨b, o, a1, n1, c1, rfl, hb, e0, _, _, _, _⟩ := H.out.at hlt
      obtain ⟨b', o', a2, n2, c2, hbo, _, e0', _, _, _, _⟩ := H.out.at (show k < n by omega)
      injection hbo with hbo
      injection hbo with hb1 hb2
      subst hb1 hb2
      obtain ⟨u, hu⟩ : ∃ u, (ts.getD k (0, 0, 0, [])).1 = u := ⟨_, rfl⟩
      obtain ⟨v, hv⟩ : ∃ v, (ts.getD (k + 1) (0, 0, 0, [])).1 = v := ⟨_, rfl⟩
      rw [hu] at e0'
      rw [hv] at e0
      have Hu := Lib.hid hu
      have Hv := Lib.hid hv
      clear hu hv
      have hlt2 : ((k : Int) + 1) < (n : Int) := by omega
      have hw : IntKind.i64.wrap ((k : Int) + 1 - 1) = (k : Int) := by rw [IntKind.wrap_i64]; omega
      have hw2 : ((k : Int) + 1).toNat = k + 1 := by omega
      obtain ⟨j, rfl⟩ := hq.ex
      by_cases he : v ≤ u
      · have f1 : decide (v ≤ u) = true := decide_eq_true he
        obtain rfl : r = false := by rw [← Hr.out]; exact risesS_no (i := k) (by rw [Hl.out]; exact hlt) (by rw [Hu.out, Hv.out]; exact he)
        clear he
        go_wp2_with fail
        go_quiet (fail)
        go_wp2
        go_ret
        exact ⟨rfl, hq.step _⟩
      · have f1 : decide (v ≤ u) = false := decide_eq_false he
        have hnext : Hid (∀ j, j < k + 1 → j + 1 < n → (ts.getD j (0, 0, 0, [])).1 < (ts.getD (j + 1) (0, 0, 0, [])).1) := Lib.hid (fun j hj hj2 => by
          rcases Nat.lt_or_ge j k with h | h
          · exact hall.out j h hj2
          · obtain rfl : j = k := by omega
            rw [Hu.out, Hv.out]; omega)
        clear he hall
        go_wp2_with fail
        go_quiet (fail)
        go_wp2
        go_roundw
        case rel => exact ⟨k + 1, by omega, by go_num, hnext, ⟨_, rfl⟩⟩
        case measure => simp [intOf]; omega
    · obtain rfl : r = true := by rw [← Hr.out]; exact risesS_iff.2 (fun i hi => hall.out i (by rw [Hl.out] at hi; omega) (by rw [Hl.out] at hi; exact hi))
      clear hall
      go_wp2
      go_ret
      exact ⟨rfl, hq⟩
end Go.Proofs.Ytnhcmibngcmebaa
