/- Chapter 29: two rows of numbers, two rows of places. -/
import Derived.Test.YthcecnolmhillaaPl9
namespace Go.Proofs.Ythcecnolmhillaa
open Go.RowKit Tt
set_option linter.unusedVariables false
set_option linter.unusedSimpArgs false

set_option maxHeartbeats 1000000 in
theorem ints_any (a a' : Option Addr) (n n' c c' : Nat) (x y : List Int) (w : World) (hx : Sl w a n c 1 (ints .i64 x)) (hy : Sl w a' n' c' 1 (ints .i64 y)) :
    Calls Try.prog 10 #[.slice a n c, .slice a' n' c'] w fun e w' => e = .returned (.bool (x == y)) ∧ Qt w w' := by
  have hxl := hx.ilen
  have hyl := hy.ilen
  have hm := hx.max
  have hle := hx.le
  have hm' := hy.max
  have hle' := hy.le
  have Hx := Lib.hid hx
  have Hy := Lib.hid hy
  have Xl := Lib.hid hxl
  have Yl := Lib.hid hyl
  clear hx hy hxl hyl
  obtain ⟨r, hr⟩ : ∃ r, (x == y) = r := ⟨_, rfl⟩
  rw [hr]
  have Hr := Lib.hid hr
  clear hr
  by_cases hnn : n = n'
  · subst hnn
    have f0 : ((n : Int) != (n : Int)) = false := by simp
    go_enter Try.func10, Try.ntmps10
    go_wp2
    go_loopw [5] (fun i wr => ∃ k : Nat, k ≤ n ∧ i = .int .i64 k ∧ Hid (x.take k = y.take k) ∧ Qt w wr) (fun i _ => n - (intOf i).toNat)
    case atStart => exact ⟨0, by omega, rfl, Lib.hid rfl, Qt.refl _⟩
    case round =>
      obtain ⟨k, hk, rfl, htk, hq⟩ := hrel
      by_cases hlt : k < n
      · obtain ⟨b, o, rfl, hb, hc⟩ := Hx.out.at hlt
        obtain ⟨b', o', rfl, hb', hc'⟩ := Hy.out.at hlt
        have f1 := hc k _ (ints_get (by rw [Xl.out]; exact hlt))
        have f2 := hc' k _ (ints_get (by rw [Yl.out]; exact hlt))
        clear hc hc'
        obtain ⟨u, hu⟩ : ∃ u, x.getD k 0 = u := ⟨_, rfl⟩
        obtain ⟨v, hv⟩ : ∃ v, y.getD k 0 = v := ⟨_, rfl⟩
        rw [hu] at f1
        rw [hv] at f2
        have Hu := Lib.hid hu
        have Hv := Lib.hid hv
        clear hu hv
        obtain ⟨j, rfl⟩ := hq.ex
        by_cases he : u = v
        · have hne : (u != v) = false := by simp [he]
          have hnext : Hid (x.take (k + 1) = y.take (k + 1)) := Lib.hid (take_succ_eq Xl.out Yl.out hlt htk.out (by rw [Hu.out, Hv.out, he]))
          clear he
          go_wp2_with fail
          go_quiet (fail)
          go_wp2
          go_roundw
          case rel => exact ⟨k + 1, by omega, by go_num, hnext, ⟨_, rfl⟩⟩
          case measure => simp [intOf]; omega
        · have hne : (u != v) = true := by simp [he]
          obtain rfl : r = false := by rw [← Hr.out]; exact ne_of_at (k := k) (by rw [Hu.out, Hv.out]; exact he)
          clear he
          go_wp2_with fail
          go_quiet (fail)
          go_wp2
          go_ret
          exact ⟨rfl, hq.step _⟩
      · obtain rfl : r = true := by rw [← Hr.out]; exact eq_of_take Xl.out Yl.out (by omega) htk.out
        go_wp2
        go_ret
        exact ⟨rfl, hq⟩
  · have f0 : ((n : Int) != (n' : Int)) = true := by simp; omega
    obtain rfl : r = false := by
      rw [← Hr.out, beq_eq_false_iff_ne]
      rintro rfl
      exact hnn (Xl.out.symm.trans Yl.out)
    go_enter Try.func10, Try.ntmps10
    go_wp2
    go_ret
    exact ⟨rfl, Qt.refl _⟩


theorem neq_pl (W : World) (p q : Pl) : (binOp .neq 35 (.agg (pc p).toArray) (.agg (pc q).toArray)).run Try.prog W = .ok (.bool (p != q)) W := by
  obtain ⟨a0, a1, a2, a3, a4⟩ := p
  obtain ⟨b0, b1, b2, b3, b4⟩ := q
  have hs : Try.prog.stoodInHeld 35 = false := by kernel_rfl
  rw [run_neq_struct, run_equalIn_agg (ht := by unfold Program.fieldsOf; rw [Try.underlying35]) (hp := hs)]
  unfold Program.fieldsOf
  rw [Try.underlying35]
  have e1 : ∀ (x y : Int) (W : World), (Op.equalIn 9999 3 (.int .i64 x) (.int .i64 y)).run Try.prog W = .ok (x == y) W := fun x y W => run_equalIn_int W 9998 _ _ _ x y Try.underlying3
  have p0 : ∀ (x0 x1 x2 x3 x4 : Int) (W : World), (part 3 #[.int .i64 x0, .int .i64 x1, .int .i64 x2, .int .i64 x3, .int .i64 x4] 0).run Try.prog W = .ok (.int .i64 x0) W := fun _ _ _ _ _ W => by kernel_rfl
  have p1 : ∀ (x0 x1 x2 x3 x4 : Int) (W : World), (part 3 #[.int .i64 x0, .int .i64 x1, .int .i64 x2, .int .i64 x3, .int .i64 x4] 1).run Try.prog W = .ok (.int .i64 x1) W := fun _ _ _ _ _ W => by kernel_rfl
  have p2 : ∀ (x0 x1 x2 x3 x4 : Int) (W : World), (part 3 #[.int .i64 x0, .int .i64 x1, .int .i64 x2, .int .i64 x3, .int .i64 x4] 2).run Try.prog W = .ok (.int .i64 x2) W := fun _ _ _ _ _ W => by kernel_rfl
  have p3 : ∀ (x0 x1 x2 x3 x4 : Int) (W : World), (part 3 #[.int .i64 x0, .int .i64 x1, .int .i64 x2, .int .i64 x3, .int .i64 x4] 3).run Try.prog W = .ok (.int .i64 x3) W := fun _ _ _ _ _ W => by kernel_rfl
  have p4 : ∀ (x0 x1 x2 x3 x4 : Int) (W : World), (part 3 #[.int .i64 x0, .int .i64 x1, .int .i64 x2, .int .i64 x3, .int .i64 x4] 4).run Try.prog W = .ok (.int .i64 x4) W := fun _ _ _ _ _ W => by kernel_rfl
  have hb : ((a0, a1, a2, a3, a4) != (b0, b1, b2, b3, b4)) = !(a0 == b0 && (a1 == b1 && (a2 == b2 && (a3 == b3 && a4 == b4)))) := rfl
  rw [hb]
  simp only [pc]
  simp [Op.eqFields, e1, p0, p1, p2, p3, p4, Result.andThen]
  cases h0 : a0 == b0 <;> cases h1 : a1 == b1 <;> cases h2 : a2 == b2 <;> cases h3 : a3 == b3 <;> cases h4 : a4 == b4 <;> simp_all

theorem takeP_succ {x y : List Pl} {k n : Nat} (hx : x.length = n) (hy : y.length = n) (hk : k < n) (h : x.take k = y.take k) (he : x.getD k plz = y.getD k plz) : x.take (k + 1) = y.take (k + 1) := by
  rw [List.take_add_one, List.take_add_one, h]
  congr 1
  simp only [List.getD_eq_getElem?_getD] at he
  rw [List.getElem?_eq_getElem (by omega), List.getElem?_eq_getElem (by omega)] at he ⊢
  simpa using he
theorem neP_of_at {x y : List Pl} {k : Nat} (he : ¬ x.getD k plz = y.getD k plz) : (x == y) = false := by
  rw [beq_eq_false_iff_ne]
  rintro rfl
  exact he rfl
theorem eqP_of_take {x y : List Pl} {k n : Nat} (hx : x.length = n) (hy : y.length = n) (hk : n ≤ k) (h : x.take k = y.take k) : (x == y) = true := by
  rw [List.take_of_length_le (by omega), List.take_of_length_le (by omega)] at h
  simp [h]

attribute [-go_sem] run_neq_struct
set_option maxHeartbeats 1000000 in
theorem places_any (a a' : Option Addr) (n n' c c' : Nat) (x y : List Pl) (w : World) (hx : Sl w a n c 5 (pcs x)) (hy : Sl w a' n' c' 5 (pcs y)) :
    Calls Try.prog 11 #[.slice a n c, .slice a' n' c'] w fun e w' => e = .returned (.bool (x == y)) ∧ Qt w w' := by
  have hxl := Ps.ilen hx
  have hyl := Ps.ilen hy
  have hm := hx.max
  have hle := hx.le
  have hm' := hy.max
  have hle' := hy.le
  have hx' := Lib.hid hx
  have hy' := Lib.hid hy
  have hxl' := Lib.hid hxl
  have hyl' := Lib.hid hyl
  clear hx hy hxl hyl
  obtain ⟨r, hr⟩ : ∃ r, (x == y) = r := ⟨_, rfl⟩
  rw [hr]
  have hr' := Lib.hid hr
  clear hr
  by_cases hnn : n = n'
  · subst hnn
    have f0 : ((n : Int) != (n : Int)) = false := by simp
    go_enter Try.func11, Try.ntmps11
    go_wp2
    go_loopw [5] (fun i wr => ∃ k : Nat, k ≤ n ∧ i = .int .i64 k ∧ Hid (x.take k = y.take k) ∧ Qt w wr) (fun i _ => n - (intOf i).toNat)
    case atStart => exact ⟨0, by omega, rfl, Lib.hid rfl, Qt.refl _⟩
    case round =>
      obtain ⟨k, hk, rfl, htk, hq⟩ := hrel
      by_cases hlt : k < n
      · obtain ⟨b, o, rfl, hb, f0, f1, f2, f3, f4⟩ := Ps.at hx'.out hlt
        obtain ⟨b', o', rfl, hb', g0, g1, g2, g3, g4⟩ := Ps.at hy'.out hlt
        have hnq := fun W => neq_pl W (x.getD k plz) (y.getD k plz)
        simp only [pc] at hnq
        obtain ⟨r', hr1⟩ : ∃ r', (x.getD k plz != y.getD k plz) = r' := ⟨_, rfl⟩
        rw [hr1] at hnq
        have hr1' := Lib.hid hr1
        clear hr1
        generalize (x.getD k plz).1 = p0 at *
        generalize (x.getD k plz).2.1 = p1 at *
        generalize (x.getD k plz).2.2.1 = p2 at *
        generalize (x.getD k plz).2.2.2.1 = p3 at *
        generalize (x.getD k plz).2.2.2.2 = p4 at *
        generalize (y.getD k plz).1 = q0 at *
        generalize (y.getD k plz).2.1 = q1 at *
        generalize (y.getD k plz).2.2.1 = q2 at *
        generalize (y.getD k plz).2.2.2.1 = q3 at *
        generalize (y.getD k plz).2.2.2.2 = q4 at *
        obtain ⟨j, rfl⟩ := hq.ex
        cases r'
        · have hnext : Hid (x.take (k + 1) = y.take (k + 1)) := Lib.hid (takeP_succ hxl'.out hyl'.out hlt htk.out (by have := hr1'.out; simpa using this))
          go_wp2_with fail
          go_quiet (fail)
          go_wp2
          go_roundw
          case rel => exact ⟨k + 1, by omega, by go_num, hnext, ⟨_, rfl⟩⟩
          case measure => simp [intOf]; omega
        · obtain rfl : r = false := by rw [← hr'.out]; exact neP_of_at (k := k) (by have := hr1'.out; simpa using this)
          go_wp2_with fail
          go_quiet (fail)
          go_wp2
          go_ret
          exact ⟨rfl, hq.step _⟩
      · obtain rfl : r = true := by rw [← hr'.out]; exact eqP_of_take hxl'.out hyl'.out (by omega) htk.out
        go_wp2
        go_ret
        exact ⟨rfl, hq⟩
  · have f0 : ((n : Int) != (n' : Int)) = true := by simp; omega
    obtain rfl : r = false := by
      rw [← hr'.out, beq_eq_false_iff_ne]
      rintro rfl
      exact hnn (hxl'.out.symm.trans hyl'.out)
    go_enter Try.func11, Try.ntmps11
    go_wp2
    go_ret
    exact ⟨rfl, Qt.refl _⟩
end Go.Proofs.Ythcecnolmhillaa
