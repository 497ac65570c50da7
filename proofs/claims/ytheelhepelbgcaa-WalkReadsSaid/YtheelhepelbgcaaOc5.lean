/- Chapter 1: Get of the document. -/
import Derived.Test.YtheelhepelbgcaaOc4
namespace Go.Proofs.Ytheelhepelbgcaa
open Go.RowKit Tt
set_option linter.unusedVariables false
set_option linter.unusedSimpArgs false

theorem topS_no (s : Int) : (topS s == 0) = !(s == 1 || s == 2 || s == 4) := by
  unfold topS
  rw [Bool.eq_iff_iff]
  simp
  split <;> (try split) <;> (try split) <;> omega
set_option maxRecDepth 20000 in
set_option maxHeartbeats 4000000 in
theorem rget_any (a : Option Addr) (n c : Nat) (z : List Int) (at_ size order : Int) (w : World) (hs : Sl w a n c 1 (ints .u8 z)) (hb : Byt z) :
    Calls Try.prog 55 #[.slice a n c, .int .i64 at_, .int .i64 size, .int .i64 order] w fun e w' => e = .returned (.tuple #[.int .i64 (getV z at_ size order), .bool (getB n at_ size order)]) ∧ Below w.heap.size w w' := by
  have hzl := hs.ilen
  have hle := hs.le
  have hmx := hs.max
  have hT0 := topS_no size
  have HT := Lib.hid (fun W => r1top_any size W)
  have hgv : getV z at_ size order = if getB n at_ size order = true then be (getL z at_.toNat size.toNat order) else 0 := by unfold getV; rw [hzl]
  rw [hgv]
  clear hgv
  by_cases h0 : (size == 1 || size == 2 || size == 4) = true
  case neg =>
    have e1 : getB n at_ size order = false := by unfold getB mayB; simp only [Bool.not_eq_true] at h0; rw [h0]; simp
    rw [e1]
    simp only [Bool.not_eq_true] at h0
    rw [h0] at hT0
    simp only [Bool.not_false] at hT0
    clear e1 h0 hs hb
    generalize topS size = T at *
    go_enter Try.func55, Try.ntmps55
    go_wp2_with (go_at_call 60; refine (HT.out _).mono ?_; rintro e w1 ⟨rfl, rfl⟩)
    go_ret2
    exact ⟨rfl, Below.refl _ _⟩
  rw [h0] at hT0
  simp only [Bool.not_true] at hT0
  have hsz : size = 1 ∨ size = 2 ∨ size = 4 := by simpa [or_assoc] using h0
  generalize topS size = T at *
  by_cases h1 : order < 1
  case pos =>
    have e1 : getB n at_ size order = false := by unfold getB mayB; simp; omega
    rw [e1]
    clear e1 h0 hs hb hsz
    have d1 : decide (order < 1) = true := by simp; omega
    go_enter Try.func55, Try.ntmps55
    go_wp2_with (go_at_call 60; refine (HT.out _).mono ?_; rintro e w1 ⟨rfl, rfl⟩)
    go_ret2
    exact ⟨rfl, Below.refl _ _⟩
  have d1 : decide (order < 1) = false := by simp; omega
  by_cases h2 : 2 < order
  case pos =>
    have e1 : getB n at_ size order = false := by unfold getB mayB; simp; omega
    rw [e1]
    clear e1 h0 hs hb hsz
    have d2 : decide (2 < order) = true := by simp; omega
    go_enter Try.func55, Try.ntmps55
    go_wp2_with (go_at_call 60; refine (HT.out _).mono ?_; rintro e w1 ⟨rfl, rfl⟩)
    go_ret2
    exact ⟨rfl, Below.refl _ _⟩
  have d2 : decide (2 < order) = false := by simp; omega
  have hord : order = 1 ∨ order = 2 := by omega
  have hm : mayB size order = true := by unfold mayB; rw [h0]; simp; omega
  by_cases h3 : at_ < 0
  case pos =>
    have e1 : getB n at_ size order = false := by unfold getB; simp; omega
    rw [e1]
    clear e1 h0 hs hb hsz hm
    have d3 : decide (at_ < 0) = true := by simp; omega
    go_enter Try.func55, Try.ntmps55
    go_wp2_with (go_at_call 60; refine (HT.out _).mono ?_; rintro e w1 ⟨rfl, rfl⟩)
    go_ret2
    exact ⟨rfl, Below.refl _ _⟩
  have d3 : decide (at_ < 0) = false := by simp; omega
  by_cases h4 : n < at_
  case pos =>
    have e1 : getB n at_ size order = false := by unfold getB; simp; omega
    rw [e1]
    clear e1 h0 hs hb hsz hm
    have d4 : decide (n < at_) = true := by simp; omega
    go_enter Try.func55, Try.ntmps55
    go_wp2_with (go_at_call 60; refine (HT.out _).mono ?_; rintro e w1 ⟨rfl, rfl⟩)
    go_ret2
    exact ⟨rfl, Below.refl _ _⟩
  have d4 : decide (n < at_) = false := by simp; omega
  have hw0 : IntKind.i64.wrap ((n : Int) - at_) = n - at_ := by rw [IntKind.wrap_i64]; omega
  by_cases h5 : (n : Int) - at_ < size
  case pos =>
    have e1 : getB n at_ size order = false := by unfold getB; simp; omega
    rw [e1]
    clear e1 h0 hs hb hsz hm
    have d5 : decide ((n : Int) - at_ < size) = true := by simp; omega
    go_enter Try.func55, Try.ntmps55
    go_wp2_with (go_at_call 60; refine (HT.out _).mono ?_; rintro e w1 ⟨rfl, rfl⟩)
    go_ret2
    exact ⟨rfl, Below.refl _ _⟩
  have d5 : decide ((n : Int) - at_ < size) = false := by simp; omega
  have e1 : getB n at_ size order = true := by unfold getB; rw [hm]; simp; omega
  rw [e1, if_pos rfl]
  clear e1 hm h0
  obtain ⟨A, rfl⟩ : ∃ A : Nat, at_ = A := ⟨at_.toNat, by omega⟩
  obtain ⟨s, rfl⟩ : ∃ s : Nat, size = s := ⟨size.toNat, by omega⟩
  have hs4 : s ≤ 4 := by omega
  rw [Int.toNat_natCast, Int.toNat_natCast]
  have hAs : A + s ≤ n := by omega
  have hlen := getL_len (order := order) (show A + s ≤ z.length by rw [hzl]; omega)
  have hbyt := getL_byt hb A s order
  have hget := fun i hi => getL_get (z := z) (at_ := A) (size := s) (i := i) (order := order) (by rw [hzl]; omega) hi
  obtain ⟨L, hL⟩ : ∃ L, getL z A s order = L := ⟨_, rfl⟩
  rw [hL] at hlen hbyt hget ⊢
  clear hL h1 h2 h3 h4 h5 hsz
  have hlen' := Lib.hid hlen
  have hbyt' := Lib.hid hbyt
  have hget' := Lib.hid hget
  have hs' := Lib.hid hs
  have hb' := Lib.hid hb
  have hzl' := Lib.hid hzl
  clear hlen hbyt hget hs hb hzl
  go_enter Try.func55, Try.ntmps55
  go_wp2_with (go_at_call 60; refine (HT.out _).mono ?_; rintro e w1 ⟨rfl, rfl⟩)
  go_loop [10, 11, 12] (fun nv bv iv => ∃ (k : Nat) (N B : Int), k ≤ s ∧ iv = .int .i64 k ∧ nv = .int .i64 N ∧ bv = .int .i64 B ∧ Hid (B = 256 ^ k ∧ 0 ≤ N ∧ N < B ∧ be L = be (L.take (s - k)) * B + N)) (fun _ _ i => s - (intOf i).toNat)
  case atStart => exact ⟨0, 0, 1, by omega, rfl, rfl, rfl, Lib.hid ⟨rfl, by omega, by omega, by rw [Nat.sub_zero, List.take_of_length_le (Nat.le_of_eq hlen'.out)]; omega⟩⟩
  case round =>
    obtain ⟨k, N, B, hk, rfl, rfl, rfl, hinv⟩ := hrel
    by_cases hlt : k < s
    · obtain ⟨hB, hN0, hN1, hbe⟩ := hinv.out
      have hB4 : B = 1 ∨ B = 256 ∨ B = 65536 ∨ B = 16777216 := by
        have : k = 0 ∨ k = 1 ∨ k = 2 ∨ k = 3 := by omega
        rcases this with rfl | rfl | rfl | rfl <;> simp at hB <;> omega
      obtain ⟨q, hq⟩ : ∃ q, s - 1 - k = q := ⟨_, rfl⟩
      have hgk := hget'.out q (by omega)
      have hbt := hbyt'.out.get q
      have hnx := be_take (l := L) (j := q) (by rw [hlen'.out]; omega)
      rw [show q + 1 = s - k by omega] at hnx
      obtain ⟨j, hj⟩ : ∃ j, (if order = 1 then A + s - 1 - q else A + q) = j := ⟨_, rfl⟩
      have hjn : j < n := by rw [← hj]; split <;> omega
      obtain ⟨b, o, rfl, hbb2, hc⟩ := hs'.out.at (i := j) hjn
      have f1 := hc j _ (ints_get (by rw [hzl'.out]; exact hjn))
      rw [hj] at hgk
      rw [← hgk] at f1
      generalize L.getD q 0 = x at *
      have hxB : 0 ≤ B * x ∧ B * x ≤ B * 255 := ⟨Int.mul_nonneg (by omega) hbt.1, Int.mul_le_mul_of_nonneg_left (by omega) (by omega)⟩
      have hnew : be L = be (L.take (s - (k + 1))) * (256 * B) + (N + B * x) := by
        rw [hbe, hnx, show s - (k + 1) = q by omega, Int.add_mul, Int.mul_assoc, Int.mul_comm x B]
        omega
      have hB2 : 256 * B = 256 ^ (k + 1) := by rw [hB, Int.pow_succ]; omega
      have hN2 : N + B * x < 256 * B := by omega
      have hw1 : IntKind.i64.wrap (B * x) = B * x := by rw [IntKind.wrap_i64]; omega
      have hw2 : IntKind.i64.wrap (N + B * x) = N + B * x := by rw [IntKind.wrap_i64]; omega
      have hw3 : IntKind.i64.wrap (256 * B) = 256 * B := by rw [IntKind.wrap_i64]; omega
      have hw4 : IntKind.i64.wrap x = x := by rw [IntKind.wrap_i64]; omega
      have hM2 : 0 ≤ N + B * x := by omega
      clear hinv hB4 hc hgk hnx hbe hB
      have hnew' := Lib.hid hnew
      have hB2' := Lib.hid hB2
      have hN2' := Lib.hid hN2
      have hM2' := Lib.hid hM2
      have hxB' := Lib.hid hxB
      clear hnew hB2 hN2 hM2 hxB
      by_cases ho : order = 1
      · have d6 : (order == 2) = false := by simp [ho]
        rw [if_pos ho] at hj
        have hw5 : IntKind.i64.wrap ((A : Int) + k) = j := by rw [IntKind.wrap_i64]; omega
        have hjn' : (j : Int) < n := by omega
        have ho' := Lib.hid ho
        have hj' := Lib.hid hj
        have hq' := Lib.hid hq
        clear ho hj hq
        clear hord
        go_wp2
        go_round
        case rel => exact ⟨k + 1, _, _, by omega, by go_num, rfl, rfl, Lib.hid ⟨hB2'.out, hM2'.out, hN2'.out, hnew'.out⟩⟩
        case measure => simp [intOf]; omega
      · have d6 : (order == 2) = true := by simp; omega
        rw [if_neg ho] at hj
        have hw5 : IntKind.i64.wrap ((A : Int) + s) = A + s := by rw [IntKind.wrap_i64]; omega
        have hw6 : IntKind.i64.wrap ((A : Int) + s - 1) = A + s - 1 := by rw [IntKind.wrap_i64]; omega
        have hw7 : IntKind.i64.wrap ((A : Int) + s - 1 - k) = j := by rw [IntKind.wrap_i64]; omega
        have hw8 : IntKind.i64.wrap ((A : Int) + k) = A + k := by rw [IntKind.wrap_i64]; omega
        have hjn' : (j : Int) < n := by omega
        have ho' := Lib.hid ho
        have hj' := Lib.hid hj
        have hq' := Lib.hid hq
        clear ho hj hq
        clear hord
        go_wp2
        go_round
        case rel => exact ⟨k + 1, _, _, by omega, by go_num, rfl, rfl, Lib.hid ⟨hB2'.out, hM2'.out, hN2'.out, hnew'.out⟩⟩
        case measure => simp [intOf]; omega
    · obtain rfl : k = s := by omega
      have hbe := hinv.out.2.2.2
      rw [Nat.sub_self, List.take_zero, show be [] = 0 from rfl, Int.zero_mul, Int.zero_add] at hbe
      have hbe2 : be L = N := hbe
      have hbe2' := Lib.hid hbe2
      have hbe' := Lib.hid hbe
      have hinv' := Lib.hid hinv
      clear hbe2 hbe hinv
      go_wp2
      go_ret2
      exact ⟨by rw [hbe2'.out]; rfl, Below.refl _ _⟩
end Go.Proofs.Ytheelhepelbgcaa
