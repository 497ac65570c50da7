import Derived.Test.YtgmcnjnkiblbjaaDoorL
namespace Go.Proofs.YtgmcnjnkiblbjaaDoor
open Go.RowKit Tt
set_option linter.unusedVariables false

def cnt (n : Int) : Int := if n < 1 then 0 else (n - 1) / 65519 + 1

set_option maxHeartbeats 400000 in
theorem count_any (n : Int) (w : World) (h1 : n ≤ 9223372036854775807) :
    Calls Tryd.prog 15 #[.int .i64 n] w fun e w' => e = .returned (.int .i64 (cnt n)) ∧ w = w' := by
  by_cases h : n < 1
  · have e : cnt n = 0 := if_pos h
    go_enter Tryd.func15, Tryd.ntmps15
    go_wp2
    go_ret
    first | exact ⟨ret_int rfl, rfl⟩ | exact ⟨ret_int e.symm, rfl⟩
  · have e : cnt n = (n - 1) / 65519 + 1 := if_neg h
    go_enter Tryd.func15, Tryd.ntmps15
    go_wp2
    go_ret
    first | exact ⟨ret_int rfl, rfl⟩ | exact ⟨ret_int e.symm, rfl⟩

set_option maxHeartbeats 400000 in
theorem rcount_any (n : Int) (w : World) (h1 : n ≤ 9223372036854775807) :
    Calls Tryd.prog 16 #[.int .i64 n] w fun e w' => e = .returned (.int .i64 (cnt n)) ∧ w = w' := by
  by_cases h : n < 1
  · have e : cnt n = 0 := if_pos h
    go_enter Tryd.func16, Tryd.ntmps16
    go_wp2
    go_ret
    first | exact ⟨ret_int rfl, rfl⟩ | exact ⟨ret_int e.symm, rfl⟩
  · by_cases h2 : n % 65519 = 0
    · have e : cnt n = n / 65519 := by unfold cnt; omega
      go_enter Tryd.func16, Tryd.ntmps16
      go_wp2
      go_ret
      first | exact ⟨ret_int rfl, rfl⟩ | exact ⟨ret_int e.symm, rfl⟩
    · have e : cnt n = n / 65519 + 1 := by unfold cnt; omega
      go_enter Tryd.func16, Tryd.ntmps16
      go_wp2
      go_ret
      first | exact ⟨ret_int rfl, rfl⟩ | exact ⟨ret_int e.symm, rfl⟩

set_option maxHeartbeats 400000 in
theorem same_any (a a' : Option Addr) (n n' c c' : Nat) (x y : List Int) (w : World) (hx : Sl w a n c 1 (ints .u8 x)) (hy : Sl w a' n' c' 1 (ints .u8 y)) :
    Calls Tryd.prog 12 #[.slice a n c, .slice a' n' c'] w fun e w' => e = .returned (.bool (x == y)) ∧ Qt w w' := by
  have hxl : x.length = n := hx.ilen
  have hyl : y.length = n' := hy.ilen
  have hn := hx.le
  have hm := hx.max
  have hn' := hy.le
  have hm' := hy.max
  by_cases hne : n = n'
  · subst hne
    have Hx := Lib.hid hxl
    have Hy := Lib.hid hyl
    have hne : ((n : Int) != (n : Int)) = false := by simp
    clear hxl hyl
    go_enter Tryd.func12, Tryd.ntmps12
    go_wp2
    go_loopw [4, 5] (fun r i wr => ∃ k : Nat, k ≤ n ∧ i = .int .i64 k ∧ (x.take k = y.take k) ∧ r = .bool false ∧ Qt w wr) (fun _ i _ => n - (intOf i).toNat)
    case atStart => exact ⟨0, Nat.zero_le _, rfl, rfl, rfl, Qt.refl _⟩
    case round =>
      obtain ⟨k, hk, rfl, htk, rfl, hq⟩ := hrel
      by_cases hlt : k < n
      · obtain ⟨b, o, rfl, hbx, cx⟩ := (hx.qt hq).at hlt
        obtain ⟨b', o', rfl, hby, cy⟩ := (hy.qt hq).at hlt
        have c1 := cx k _ (ints_get (by rw [Hx.out]; exact hlt))
        have c2 := cy k _ (ints_get (by rw [Hy.out]; exact hlt))
        clear cx cy
        have Htk := Lib.hid htk
        clear htk
        by_cases he : x.getD k 0 = y.getD k 0
        · have hb : (x.getD k 0 != y.getD k 0) = false := by rw [he]; simp
          have He := Lib.hid he
          clear he
          generalize hu : x.getD k 0 = u at *
          generalize hv : y.getD k 0 = v at *
          have Hu := Lib.hid hu
          have Hv := Lib.hid hv
          clear hu hv
          go_wp2
          go_quiet (fail)
          go_wp2
          go_roundw
          case rel => exact ⟨k + 1, by omega, by go_num, take_succ_eq Hx.out Hy.out hlt Htk.out (Hu.out.trans (He.out.trans Hv.out.symm)), rfl, hq.step _⟩
          case measure => simp [intOf]; omega
        · have hb : (x.getD k 0 != y.getD k 0) = true := by simpa using he
          have He := Lib.hid he
          clear he
          generalize hu : x.getD k 0 = u at *
          generalize hv : y.getD k 0 = v at *
          have Hu := Lib.hid hu
          have Hv := Lib.hid hv
          clear hu hv
          go_wp2
          go_quiet (fail)
          go_wp2
          go_ret
          exact ⟨ret_bool (ne_of_at (fun h => He.out (Hu.out.symm.trans (h.trans Hv.out)))).symm, hq.step _⟩
      · have Htk := Lib.hid htk
        clear htk
        go_wp2
        go_ret
        exact ⟨ret_bool (eq_of_take Hx.out Hy.out (by omega) Htk.out).symm, hq⟩
  · have hne : ((n : Int) != (n' : Int)) = true := by simp; omega
    have e : (x == y) = false := by rw [beq_eq_false_iff_ne]; rintro rfl; omega
    go_enter Tryd.func12, Tryd.ntmps12
    go_wp2
    go_ret
    exact ⟨ret_bool e.symm, Qt.refl _⟩

theorem info5 : (Tryd.prog.info? 5).map (fun i => (i.zero, i.size, i.bytes)) = some (some (.int .u8 0), 1, 1) := by kernel_rfl

set_option maxHeartbeats 400000 in
theorem own_any (a : Option Addr) (n c : Nat) (x : List Int) (w : World) (hx : Sl w a n c 1 (ints .u8 x)) (hn : n ≤ 140737488355328) :
    Calls Tryd.prog 8 #[.slice a n c] w fun e w' => ∃ a' c', e = .returned (.slice a' n c') ∧ w'.ownsRow w.heap.size 5 1 (.slice a' n c') n (ints .u8 x) ∧ Below w.heap.size w w' := by
  obtain ⟨i0, hi, hz0, hz1, hz2⟩ := info_parts info5
  go_enter Tryd.func8, Tryd.ntmps8
  go_wp2_with (at_builtin; refine wpList_app rfl _ _ 22 rfl w.heap.size 5 i0 _ 1 1 Tryd.underlying22 hi hz0 hz1 hz2 rfl (by decide) _ 0 [] rfl (own_new w w.heap.size 5 1 0 #[] (Nat.le_refl _) (by unfold maxLen; omega) rfl) a n c _ rfl (sl_alloc hx _) ints_one (by omega) (by decide) (by simp) ?_; intro a' c' w1 hown hbel hgrow)
  rw [Nat.zero_add, List.nil_append] at hown
  clear hgrow
  go_wp2
  go_ret
  exact ⟨a', c', ret_eq rfl, hown, ((Below.refl _ _).alloc (Nat.le_refl _) _).trans hbel⟩

/-- what '[][]byte' reads as -/
structure Rs (w : World) (a : Option Addr) (n cap : Nat) (ls : List (List Int)) : Prop where
  vs : ∃ vs : List Value, Sl w a n cap 1 vs ∧ ∀ i, i < n → ∃ a' n' c', vs[i]? = some (.slice a' n' c') ∧ Sl w a' n' c' 1 (ints .u8 (ls.getD i []))
  len : ls.length = n

theorem Rs.mono {w w' : World} {a : Option Addr} {n cap : Nat} {ls : List (List Int)} (h : Rs w a n cap ls) (hb : Below w.heap.size w w') : Rs w' a n cap ls := by
  obtain ⟨⟨vs, h1, h2⟩, h3⟩ := h
  exact ⟨⟨vs, h1.mono hb, fun i hi => by obtain ⟨a', n', c', e, hs⟩ := h2 i hi; exact ⟨a', n', c', e, hs.mono hb⟩⟩, h3⟩
theorem Rs.drewN {w : World} {m : Nat} {a : Option Addr} {n cap : Nat} {ls : List (List Int)} (h : Rs w a n cap ls) : Rs (w.drewN m) a n cap ls := by
  obtain ⟨⟨vs, h1, h2⟩, h3⟩ := h
  exact ⟨⟨vs, h1.drewN, fun i hi => by obtain ⟨a', n', c', e, hs⟩ := h2 i hi; exact ⟨a', n', c', e, hs.drewN⟩⟩, h3⟩

theorem take_succ_rows {x y : List (List Int)} {k n : Nat} (hx : x.length = n) (hy : y.length = n) (hk : k < n) (h : x.take k = y.take k) (he : (x.getD k [] == y.getD k []) = true) : x.take (k + 1) = y.take (k + 1) := by
  rw [List.take_add_one, List.take_add_one, h]
  congr 1
  simp only [List.getD_eq_getElem?_getD] at he
  rw [List.getElem?_eq_getElem (by omega), List.getElem?_eq_getElem (by omega)] at he ⊢
  simpa using he

theorem ne_of_row {x y : List (List Int)} {k : Nat} (he : (x.getD k [] == y.getD k []) = false) : (x == y) = false := by
  rw [beq_eq_false_iff_ne] at he ⊢
  rintro rfl
  exact he rfl
theorem eq_of_rows {x y : List (List Int)} {k n : Nat} (hx : x.length = n) (hy : y.length = n) (hk : n ≤ k) (h : x.take k = y.take k) : (x == y) = true := by
  rw [List.take_of_length_le (by omega), List.take_of_length_le (by omega)] at h
  simp [h]

set_option maxHeartbeats 400000 in
theorem rows_any (a a' : Option Addr) (n n' c c' : Nat) (x y : List (List Int)) (w : World) (hx : Rs w a n c x) (hy : Rs w a' n' c' y) :
    Calls Tryd.prog 11 #[.slice a n c, .slice a' n' c'] w fun e w' => e = .returned (.bool (x == y)) ∧ Qt w w' := by
  have hxl := hx.len
  have hyl := hy.len
  obtain ⟨⟨vs, hv1, hv2⟩, _⟩ := hx
  obtain ⟨⟨us, hu1, hu2⟩, _⟩ := hy
  have hn := hv1.le
  have hm := hv1.max
  have hn' := hu1.le
  have hm' := hu1.max
  have Hv2 := Lib.hid hv2
  have Hu2 := Lib.hid hu2
  clear hv2 hu2
  have Hx := Lib.hid hxl
  have Hy := Lib.hid hyl
  clear hxl hyl
  by_cases hne : n = n'
  · subst hne
    have hne : ((n : Int) != (n : Int)) = false := by simp
    go_enter Tryd.func11, Tryd.ntmps11
    go_wp2
    go_loopw [4, 5] (fun r i wr => ∃ k : Nat, k ≤ n ∧ i = .int .i64 k ∧ (x.take k = y.take k) ∧ r = .bool false ∧ Qt w wr) (fun _ i _ => n - (intOf i).toNat)
    case atStart => exact ⟨0, Nat.zero_le _, rfl, rfl, rfl, Qt.refl _⟩
    case round =>
      obtain ⟨k, hk, rfl, htk, rfl, hq⟩ := hrel
      have Htk := Lib.hid htk
      clear htk
      by_cases hlt : k < n
      · obtain ⟨b, o, rfl, hbx, cx⟩ := (hv1.qt hq).at hlt
        obtain ⟨b', o', rfl, hby, cy⟩ := (hu1.qt hq).at hlt
        obtain ⟨a1, n1, c1, e1, s1⟩ := Hv2.out k hlt
        obtain ⟨a2, n2, c2, e2, s2⟩ := Hu2.out k hlt
        have f1 := cx k _ e1
        have f2 := cy k _ e2
        clear cx cy e1 e2
        have hs := fun j => same_any a1 a2 n1 n2 c1 c2 _ _ (wr.drewN j) (s1.qt (hq.step j)) (s2.qt (hq.step j))
        have Hs := Lib.hid hs
        clear hs
        cases he : (x.getD k [] == y.getD k [])
        · rw [he] at Hs
          have He := Lib.hid he
          clear he
          go_wp2
          go_quiet ((go_at_call 12; exact Calls.quiet_of (Hs.out _)))
          go_wp2
          go_ret
          exact ⟨ret_bool (ne_of_row He.out).symm, hq.step _⟩
        · rw [he] at Hs
          have He := Lib.hid he
          clear he
          go_wp2
          go_quiet ((go_at_call 12; exact Calls.quiet_of (Hs.out _)))
          go_wp2
          go_roundw
          case rel => exact ⟨k + 1, by omega, by go_num, take_succ_rows Hx.out Hy.out hlt Htk.out He.out, rfl, hq.step _⟩
          case measure => simp [intOf]; omega
      · go_wp2
        go_ret
        exact ⟨ret_bool (eq_of_rows Hx.out Hy.out (by omega) Htk.out).symm, hq⟩
  · have hne : ((n : Int) != (n' : Int)) = true := by simp; omega
    have e : (x == y) = false := by rw [beq_eq_false_iff_ne]; rintro rfl; have := Hx.out; have := Hy.out; omega
    go_enter Tryd.func11, Tryd.ntmps11
    go_wp2
    go_ret
    exact ⟨ret_bool e.symm, Qt.refl _⟩
end Go.Proofs.YtgmcnjnkiblbjaaDoor
