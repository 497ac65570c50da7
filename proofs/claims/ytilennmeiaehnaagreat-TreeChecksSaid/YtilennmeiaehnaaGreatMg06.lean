/- Chapter 1: Get of the document. | Rows of structs: the cells of each, one behind the other (any program). | slices.IndexFunc, ContainsFunc over links, over bytes. |  |  -/
import Derived.Test.YtilennmeiaehnaaGreatMg05
import Derived.Test.YtilennmeiaehnaaGreatMg02
import Derived.Test.YtilennmeiaehnaaGreatMg03
import Derived.Test.YtilennmeiaehnaaGreatMg01
import Derived.Deep.QuietTactic
import Derived.BigQuiet
import Derived.Shelf.Bytes.SlIndexAt
import Derived.Lib.BytesEntry
import Derived.Laws.Tables
namespace Go.Proofs.YtilennmeiaehnaaGreat
open Go.RowKit Tt
set_option linter.unusedVariables false
set_option linter.unusedSimpArgs false

theorem topS_no (s : Int) : (topS s == 0) = !(s == 1 || s == 2 || s == 4) := by
  unfold topS
  rw [Bool.eq_iff_iff]
  simp
  split <;> (try split) <;> (try split) <;> omega
set_option maxRecDepth 20000 in
set_option maxHeartbeats 4000000 in
theorem rget_any (a : Option Addr) (n c : Nat) (z : List Int) (at_ size order : Int) (w : World) (hs : Sl w a n c 1 (ints .u8 z)) (hb : Byt z) :
    Calls Tryz.prog 176 #[.slice a n c, .int .i64 at_, .int .i64 size, .int .i64 order] w fun e w' => e = .returned (.tuple #[.int .i64 (getV z at_ size order), .bool (getB n at_ size order)]) ∧ Below w.heap.size w w' := by
  have hzl := hs.ilen
  have hle := hs.le
  have hmx := hs.max
  have hT0 := topS_no size
  have HT := Lib.hid (fun W => r1top_any size W)
  have hgv : getV z at_ size order = if getB n at_ size order = true then be (getL z at_.toNat size.toNat order) else 0 := by unfold getV; rw [hzl]
  rw [hgv]
  clear hgv
  by_cases h0 : (size == 1 || size == 2 || size == 4) = true
  case neg =>
    have e1 : getB n at_ size order = false := by unfold getB mayB; simp only [Bool.not_eq_true] at h0; rw [h0]; simp
    rw [e1]
    simp only [Bool.not_eq_true] at h0
    rw [h0] at hT0
    simp only [Bool.not_false] at hT0
    clear e1 h0 hs hb
    generalize topS size = T at *
    go_enter Tryz.func176, Tryz.ntmps176
    go_wp2_with (go_at_call 137; refine (HT.out _).mono ?_; rintro e w1 ⟨rfl, rfl⟩)
    go_ret2
    exact ⟨rfl, Below.refl _ _⟩
  rw [h0] at hT0
  simp only [Bool.not_true] at hT0
  have hsz : size = 1 ∨ size = 2 ∨ size = 4 := by simpa [or_assoc] using h0
  generalize topS size = T at *
  by_cases h1 : order < 1
  case pos =>
    have e1 : getB n at_ size order = false := by unfold getB mayB; simp; omega
    rw [e1]
    clear e1 h0 hs hb hsz
    have d1 : decide (order < 1) = true := by simp; omega
    go_enter Tryz.func176, Tryz.ntmps176
    go_wp2_with (go_at_call 137; refine (HT.out _).mono ?_; rintro e w1 ⟨rfl, rfl⟩)
    go_ret2
    exact ⟨rfl, Below.refl _ _⟩
  have d1 : decide (order < 1) = false := by simp; omega
  by_cases h2 : 2 < order
  case pos =>
    have e1 : getB n at_ size order = false := by unfold getB mayB; simp; omega
    rw [e1]
    clear e1 h0 hs hb hsz
    have d2 : decide (2 < order) = true := by simp; omega
    go_enter Tryz.func176, Tryz.ntmps176
    go_wp2_with (go_at_call 137; refine (HT.out _).mono ?_; rintro e w1 ⟨rfl, rfl⟩)
    go_ret2
    exact ⟨rfl, Below.refl _ _⟩
  have d2 : decide (2 < order) = false := by simp; omega
  have hord : order = 1 ∨ order = 2 := by omega
  have hm : mayB size order = true := by unfold mayB; rw [h0]; simp; omega
  by_cases h3 : at_ < 0
  case pos =>
    have e1 : getB n at_ size order = false := by unfold getB; simp; omega
    rw [e1]
    clear e1 h0 hs hb hsz hm
    have d3 : decide (at_ < 0) = true := by simp; omega
    go_enter Tryz.func176, Tryz.ntmps176
    go_wp2_with (go_at_call 137; refine (HT.out _).mono ?_; rintro e w1 ⟨rfl, rfl⟩)
    go_ret2
    exact ⟨rfl, Below.refl _ _⟩
  have d3 : decide (at_ < 0) = false := by simp; omega
  by_cases h4 : n < at_
  case pos =>
    have e1 : getB n at_ size order = false := by unfold getB; simp; omega
    rw [e1]
    clear e1 h0 hs hb hsz hm
    have d4 : decide (n < at_) = true := by simp; omega
    go_enter Tryz.func176, Tryz.ntmps176
    go_wp2_with (go_at_call 137; refine (HT.out _).mono ?_; rintro e w1 ⟨rfl, rfl⟩)
    go_ret2
    exact ⟨rfl, Below.refl _ _⟩
  have d4 : decide (n < at_) = false := by simp; omega
  have hw0 : IntKind.i64.wrap ((n : Int) - at_) = n - at_ := by rw [IntKind.wrap_i64]; omega
  by_cases h5 : (n : Int) - at_ < size
  case pos =>
    have e1 : getB n at_ size order = false := by unfold getB; simp; omega
    rw [e1]
    clear e1 h0 hs hb hsz hm
    have d5 : decide ((n : Int) - at_ < size) = true := by simp; omega
    go_enter Tryz.func176, Tryz.ntmps176
    go_wp2_with (go_at_call 137; refine (HT.out _).mono ?_; rintro e w1 ⟨rfl, rfl⟩)
    go_ret2
    exact ⟨rfl, Below.refl _ _⟩
  have d5 : decide ((n : Int) - at_ < size) = false := by simp; omega
  have e1 : getB n at_ size order = true := by unfold getB; rw [hm]; simp; omega
  rw [e1, if_pos rfl]
  clear e1 hm h0
  obtain ⟨A, rfl⟩ : ∃ A : Nat, at_ = A := ⟨at_.toNat, by omega⟩
  obtain ⟨s, rfl⟩ : ∃ s : Nat, size = s := ⟨size.toNat, by omega⟩
  have hs4 : s ≤ 4 := by omega
  rw [Int.toNat_natCast, Int.toNat_natCast]
  have hAs : A + s ≤ n := by omega
  have hlen := getL_len (order := order) (show A + s ≤ z.length by rw [hzl]; omega)
  have hbyt := getL_byt hb A s order
  have hget := fun i hi => getL_get (z := z) (at_ := A) (size := s) (i := i) (order := order) (by rw [hzl]; omega) hi
  obtain ⟨L, hL⟩ : ∃ L, getL z A s order = L := ⟨_, rfl⟩
  rw [hL] at hlen hbyt hget ⊢
  clear hL h1 h2 h3 h4 h5 hsz
  have hlen' := Lib.hid hlen
  have hbyt' := Lib.hid hbyt
  have hget' := Lib.hid hget
  have hs' := Lib.hid hs
  have hb' := Lib.hid hb
  have hzl' := Lib.hid hzl
  clear hlen hbyt hget hs hb hzl
  go_enter Tryz.func176, Tryz.ntmps176
  go_wp2_with (go_at_call 137; refine (HT.out _).mono ?_; rintro e w1 ⟨rfl, rfl⟩)
  go_loop [10, 11, 12] (fun nv bv iv => ∃ (k : Nat) (N B : Int), k ≤ s ∧ iv = .int .i64 k ∧ nv = .int .i64 N ∧ bv = .int .i64 B ∧ Hid (B = 256 ^ k ∧ 0 ≤ N ∧ N < B ∧ be L = be (L.take (s - k)) * B + N)) (fun _ _ i => s - (intOf i).toNat)
  case atStart => exact ⟨0, 0, 1, by omega, rfl, rfl, rfl, Lib.hid ⟨rfl, by omega, by omega, by rw [Nat.sub_zero, List.take_of_length_le (Nat.le_of_eq hlen'.out)]; omega⟩⟩
  case round =>
    obtain ⟨k, N, B, hk, rfl, rfl, rfl, hinv⟩ := hrel
    by_cases hlt : k < s
    · obtain ⟨hB, hN0, hN1, hbe⟩ := hinv.out
      have hB4 : B = 1 ∨ B = 256 ∨ B = 65536 ∨ B = 16777216 := by
        have : k = 0 ∨ k = 1 ∨ k = 2 ∨ k = 3 := by omega
        rcases this with rfl | rfl | rfl | rfl <;> simp at hB <;> omega
      obtain ⟨q, hq⟩ : ∃ q, s - 1 - k = q := ⟨_, rfl⟩
      have hgk := hget'.out q (by omega)
      have hbt := hbyt'.out.get q
      have hnx := be_take (l := L) (j := q) (by rw [hlen'.out]; omega)
      rw [show q + 1 = s - k by omega] at hnx
      obtain ⟨j, hj⟩ : ∃ j, (if order = 1 then A + s - 1 - q else A + q) = j := ⟨_, rfl⟩
      have hjn : j < n := by rw [← hj]; split <;> omega
      obtain ⟨b, o, rfl, hbb2, hc⟩ := hs'.out.at (i := j) hjn
      have f1 := hc j _ (ints_get (by rw [hzl'.out]; exact hjn))
      rw [hj] at hgk
      rw [← hgk] at f1
      generalize L.getD q 0 = x at *
      have hxB : 0 ≤ B * x ∧ B * x ≤ B * 255 := ⟨Int.mul_nonneg (by omega) hbt.1, Int.mul_le_mul_of_nonneg_left (by omega) (by omega)⟩
      have hnew : be L = be (L.take (s - (k + 1))) * (256 * B) + (N + B * x) := by
        rw [hbe, hnx, show s - (k + 1) = q by omega, Int.add_mul, Int.mul_assoc, Int.mul_comm x B]
        omega
      have hB2 : 256 * B = 256 ^ (k + 1) := by rw [hB, Int.pow_succ]; omega
      have hN2 : N + B * x < 256 * B := by omega
      have hw1 : IntKind.i64.wrap (B * x) = B * x := by rw [IntKind.wrap_i64]; omega
      have hw2 : IntKind.i64.wrap (N + B * x) = N + B * x := by rw [IntKind.wrap_i64]; omega
      have hw3 : IntKind.i64.wrap (256 * B) = 256 * B := by rw [IntKind.wrap_i64]; omega
      have hw4 : IntKind.i64.wrap x = x := by rw [IntKind.wrap_i64]; omega
      have hM2 : 0 ≤ N + B * x := by omega
      clear hinv hB4 hc hgk hnx hbe hB
      have hnew' := Lib.hid hnew
      have hB2' := Lib.hid hB2
      have hN2' := Lib.hid hN2
      have hM2' := Lib.hid hM2
      have hxB' := Lib.hid hxB
      clear hnew hB2 hN2 hM2 hxB
      by_cases ho : order = 1
      · have d6 : (order == 2) = false := by simp [ho]
        rw [if_pos ho] at hj
        have hw5 : IntKind.i64.wrap ((A : Int) + k) = j := by rw [IntKind.wrap_i64]; omega
        have hjn' : (j : Int) < n := by omega
        have ho' := Lib.hid ho
        have hj' := Lib.hid hj
        have hq' := Lib.hid hq
        clear ho hj hq
        clear hord
        go_wp2
        go_round
        case rel => exact ⟨k + 1, _, _, by omega, by go_num, rfl, rfl, Lib.hid ⟨hB2'.out, hM2'.out, hN2'.out, hnew'.out⟩⟩
        case measure => simp [intOf]; omega
      · have d6 : (order == 2) = true := by simp; omega
        rw [if_neg ho] at hj
        have hw5 : IntKind.i64.wrap ((A : Int) + s) = A + s := by rw [IntKind.wrap_i64]; omega
        have hw6 : IntKind.i64.wrap ((A : Int) + s - 1) = A + s - 1 := by rw [IntKind.wrap_i64]; omega
        have hw7 : IntKind.i64.wrap ((A : Int) + s - 1 - k) = j := by rw [IntKind.wrap_i64]; omega
        have hw8 : IntKind.i64.wrap ((A : Int) + k) = A + k := by rw [IntKind.wrap_i64]; omega
        have hjn' : (j : Int) < n := by omega
        have ho' := Lib.hid ho
        have hj' := Lib.hid hj
        have hq' := Lib.hid hq
        clear ho hj hq
        clear hord
        go_wp2
        go_round
        case rel => exact ⟨k + 1, _, _, by omega, by go_num, rfl, rfl, Lib.hid ⟨hB2'.out, hM2'.out, hN2'.out, hnew'.out⟩⟩
        case measure => simp [intOf]; omega
    · obtain rfl : k = s := by omega
      have hbe := hinv.out.2.2.2
      rw [Nat.sub_self, List.take_zero, show be [] = 0 from rfl, Int.zero_mul, Int.zero_add] at hbe
      have hbe2 : be L = N := hbe
      have hbe2' := Lib.hid hbe2
      have hbe' := Lib.hid hbe
      have hinv' := Lib.hid hinv
      clear hbe2 hbe hinv
      go_wp2
      go_ret2
      exact ⟨by rw [hbe2'.out]; rfl, Below.refl _ _⟩
end Go.Proofs.YtilennmeiaehnaaGreat

namespace Tt
open Go Go.RowKit
set_option linter.unusedVariables false

/-- the cells of a row, each element's by f -/
def fl {α : Type} (f : α → List Value) (l : List α) : List Value := l.flatMap f
section
variable {α : Type} {f : α → List Value} {k : Nat}
theorem fl_nil : fl f [] = [] := rfl
theorem fl_cons (x : α) (r : List α) : fl f (x :: r) = f x ++ fl f r := rfl
theorem fl_append (x y : List α) : fl f (x ++ y) = fl f x ++ fl f y := by simp [fl]
theorem fl_snoc (x : List α) (y : α) : fl f (x ++ [y]) = fl f x ++ f y := by rw [fl_append]; simp [fl]
theorem fl_len (hf : ∀ x, (f x).length = k) : ∀ (l : List α), (fl f l).length = l.length * k
  | [] => by simp [fl]
  | x :: r => by rw [fl_cons, List.length_append, fl_len hf r, hf x, List.length_cons, Nat.succ_mul, Nat.add_comm]
theorem fl_get (hf : ∀ x, (f x).length = k) (d : α) : ∀ {l : List α} {i j : Nat}, i < l.length → j < k → (fl f l)[i * k + j]? = (f (l.getD i d))[j]?
  | x :: r, 0, j, _, hj => by rw [fl_cons, List.getElem?_append_left (by rw [hf x]; omega), Nat.zero_mul, Nat.zero_add]; rfl
  | x :: r, i + 1, j, hi, hj => by
    have e : (i + 1) * k + j - k = i * k + j := by rw [Nat.succ_mul]; omega
    rw [fl_cons, List.getElem?_append_right (by rw [hf x, Nat.succ_mul]; omega), hf x, e, fl_get hf d (by simpa using hi) hj]
    rfl
theorem fl_one (h1 : ∀ x, ∀ u ∈ f x, u.oneCell' = true) {l : List α} : ∀ u ∈ fl f l, u.oneCell' = true := by
  intro u hu
  obtain ⟨x, _, hx⟩ := List.mem_flatMap.1 hu
  exact h1 x u hx
theorem Sl.flen {w : World} {a : Option Addr} {n c : Nat} {l : List α} (hf : ∀ x, (f x).length = k) (hk : 0 < k) (h : Sl w a n c k (fl f l)) : l.length = n := by
  have := h.len
  rw [fl_len hf] at this
  exact Nat.eq_of_mul_eq_mul_right hk this
/-- an element of a row that is read: its cells -/
theorem Sl.elem {w : World} {a : Option Addr} {n c : Nat} {l : List α} (hf : ∀ x, (f x).length = k) (hk : 0 < k) (d : α) (h : Sl w a n c k (fl f l)) {i : Nat} (hi : i < n) :
    ∃ b o, a = some ⟨b, o, none⟩ ∧ b < w.heap.size ∧ ∀ j v, (f (l.getD i d))[j]? = some v → w.cell? ⟨b, o + i * k + j, none⟩ = some v := by
  have hl := h.flen hf hk
  obtain ⟨b, o, rfl, hb, hc⟩ := h.at hi
  refine ⟨b, o, rfl, hb, fun j v hj => ?_⟩
  have hjk : j < k := by
    have := (List.getElem?_eq_some_iff.1 hj).1
    rwa [hf] at this
  have := hc (i * k + j) v ((fl_get hf d (by omega) hjk).trans hj)
  rwa [← Nat.add_assoc] at this
end
end Tt

namespace Go.Proofs.YtilennmeiaehnaaGreat
open Go.RowKit Tt
set_option linter.unusedVariables false
set_option linter.unusedSimpArgs false

abbrev Lk := Int × Int
def lkc (x : Lk) : List Value := [.int .i64 x.1, .int .i64 x.2]
theorem lkc_len (x : Lk) : (lkc x).length = 2 := rfl
set_option maxHeartbeats 1000000 in
theorem lidx_any (fid : Nat) (hf : fid = 182 ∨ fid = 162) (cap : Value) (a : Option Addr) (n c : Nat) (ls : List Lk) (p : Lk → Bool) (w : World) (hs : Sl w a n c 2 (fl lkc ls))
    (hc : ∀ W (x : Lk), Below w.heap.size w W → Calls Tryz.prog fid #[.agg #[.int .i64 x.1, .int .i64 x.2], cap] W fun e W' => e = .returned (.bool (p x)) ∧ Below W.heap.size W W') :
    Calls Tryz.prog 79 #[.slice a n c, .func (.func fid) #[] #[cap]] w fun e w' => e = .returned (.int .i64 (fst p ls)) ∧ Below w.heap.size w w' := by
  have hl := hs.flen lkc_len (by decide)
  have hm := hs.max
  have hle := hs.le
  have hs' := Lib.hid hs
  have hc' := Lib.hid hc
  have hl' := Lib.hid hl
  clear hs hc hl
  rcases hf with rfl | rfl
  all_goals
    go_enter Tryz.func79, Tryz.ntmps79
    go_wp2
    go_loopw [8] (fun iv wr => ∃ k : Nat, k ≤ n ∧ iv = .int .i64 k ∧ Hid (∀ i (hi : i < ls.length), i < k → p ls[i] = false) ∧ Hid (Below w.heap.size w wr)) (fun iv _ => n - (intOf iv).toNat)
    case atStart => exact ⟨0, by omega, rfl, Lib.hid (fun j _ hj => by omega), Lib.hid (Below.refl _ _)⟩
    case round =>
      obtain ⟨k, hk, rfl, hall, hb⟩ := hrel
      by_cases hlt : k < n
      · have hww : IntKind.i64.wrap ((k : Int) + 1) = k + 1 := by rw [IntKind.wrap_i64]; omega
        have hkl : k < ls.length := by rw [hl'.out]; exact hlt
        obtain ⟨b, o, rfl, hbb, f⟩ := (hs'.out.mono hb.out).elem lkc_len (by decide) (0, 0) hlt
        rw [getD_el hkl] at f
        have f0 := f 0 _ rfl
        have f1 := f 1 _ rfl
        clear f
        rw [Nat.add_zero] at f0
        obtain ⟨r, hr⟩ : ∃ r, p (ls[k]'hkl) = r := ⟨_, rfl⟩
        have HC := hc'.out wr (ls[k]'hkl) hb.out
        rw [hr] at HC
        generalize (ls[k]'hkl).1 = x1 at *
        generalize (ls[k]'hkl).2 = x2 at *
        have HC' := Lib.hid HC
        have hr' := Lib.hid hr
        clear HC hr
        go_wp2_with fail
        refine HC'.out.mono ?_
        rintro e w2 ⟨rfl, hb2⟩
        have hbw := hb.out.trans (hb2.mono hb.out.size)
        clear hb2
        cases r with
        | true =>
          have hbw' := Lib.hid hbw
          clear hbw
          go_wp2
          go_ret
          exact ⟨by rw [fst_at hkl hr'.out (fun i hi => hall.out i (by omega) hi)]; rfl, hbw'.out⟩
        | false =>
          have hall2 : ∀ i (hi : i < ls.length), i < k + 1 → p ls[i] = false := fun i hi h => by
            rcases Nat.lt_or_ge i k with h1 | h1
            · exact hall.out i hi h1
            · obtain rfl : i = k := by omega
              exact hr'.out
          have hbw' := Lib.hid hbw
          have hall2' := Lib.hid hall2
          clear hbw hall2
          go_wp2
          go_roundw
          case rel => exact ⟨k + 1, by omega, by go_num, hall2', hbw'⟩
          case measure => simp [intOf]; omega
      · obtain rfl : k = n := by omega
        go_wp2
        go_ret
        exact ⟨by rw [fst_no (fun i hi => hall.out i hi (by rw [hl'.out] at hi; exact hi))]; rfl, hb.out⟩
set_option maxHeartbeats 1000000 in
theorem lhas_any (fid : Nat) (hf : fid = 182 ∨ fid = 162) (cap : Value) (a : Option Addr) (n c : Nat) (ls : List Lk) (p : Lk → Bool) (w : World) (hs : Sl w a n c 2 (fl lkc ls))
    (hc : ∀ W (x : Lk), Below w.heap.size w W → Calls Tryz.prog fid #[.agg #[.int .i64 x.1, .int .i64 x.2], cap] W fun e W' => e = .returned (.bool (p x)) ∧ Below W.heap.size W W') :
    Calls Tryz.prog 178 #[.slice a n c, .func (.func fid) #[] #[cap]] w fun e w' => e = .returned (.bool (ls.any p)) ∧ Below w.heap.size w w' := by
  have HX := lidx_any fid hf cap a n c ls p w hs hc
  obtain ⟨r, hr⟩ : ∃ r, fst p ls = r := ⟨_, rfl⟩
  have ha := fst_any (p := p) (l := ls)
  rw [hr] at HX ha
  obtain ⟨q, hq⟩ : ∃ q, ls.any p = q := ⟨_, rfl⟩
  rw [hq] at ha ⊢
  clear hs hc
  have HX' := Lib.hid HX
  have hr' := Lib.hid hr
  have hq' := Lib.hid hq
  clear HX hr hq
  rcases hf with rfl | rfl
  all_goals
    go_enter Tryz.func178, Tryz.ntmps178
    go_wp2_with fail
    refine HX'.out.mono ?_
    rintro e w2 ⟨rfl, hb2⟩
    have hb2' := Lib.hid hb2
    clear hb2
    go_wp2
    go_ret
    exact ⟨rfl, hb2'.out⟩
set_option maxHeartbeats 1000000 in
theorem bidx_any (fid : Nat) (hf : fid = 115) (a : Option Addr) (n c : Nat) (ls : List Int) (p : Int → Bool) (w : World) (hs : Sl w a n c 1 (ints .u8 ls))
    (hc : ∀ W (x : Int), Below w.heap.size w W → Calls Tryz.prog fid #[.int .u8 x] W fun e W' => e = .returned (.bool (p x)) ∧ Below W.heap.size W W') :
    Calls Tryz.prog 152 #[.slice a n c, .func (.func fid) #[] #[]] w fun e w' => e = .returned (.int .i64 (fst p ls)) ∧ Below w.heap.size w w' := by
  have hl := hs.ilen
  have hm := hs.max
  have hle := hs.le
  have hs' := Lib.hid hs
  have hc' := Lib.hid hc
  have hl' := Lib.hid hl
  clear hs hc hl
  rcases hf with rfl
  all_goals
    go_enter Tryz.func152, Tryz.ntmps152
    go_wp2
    go_loopw [8] (fun iv wr => ∃ k : Nat, k ≤ n ∧ iv = .int .i64 k ∧ Hid (∀ i (hi : i < ls.length), i < k → p ls[i] = false) ∧ Hid (Below w.heap.size w wr)) (fun iv _ => n - (intOf iv).toNat)
    case atStart => exact ⟨0, by omega, rfl, Lib.hid (fun j _ hj => by omega), Lib.hid (Below.refl _ _)⟩
    case round =>
      obtain ⟨k, hk, rfl, hall, hb⟩ := hrel
      by_cases hlt : k < n
      · have hww : IntKind.i64.wrap ((k : Int) + 1) = k + 1 := by rw [IntKind.wrap_i64]; omega
        have hkl : k < ls.length := by rw [hl'.out]; exact hlt
        obtain ⟨b, o, rfl, hbb, f⟩ := (hs'.out.mono hb.out).at hlt
        have f0 := f k _ (ints_get hkl)
        rw [getD_el hkl] at f0
        clear f
        obtain ⟨r, hr⟩ : ∃ r, p (ls[k]'hkl) = r := ⟨_, rfl⟩
        have HC := hc'.out wr (ls[k]'hkl) hb.out
        rw [hr] at HC
        generalize (ls[k]'hkl) = x1 at f0 HC
        have HC' := Lib.hid HC
        have hr' := Lib.hid hr
        clear HC hr
        go_wp2_with fail
        refine HC'.out.mono ?_
        rintro e w2 ⟨rfl, hb2⟩
        have hbw := hb.out.trans (hb2.mono hb.out.size)
        clear hb2
        cases r with
        | true =>
          have hbw' := Lib.hid hbw
          clear hbw
          go_wp2
          go_ret
          exact ⟨by rw [fst_at hkl hr'.out (fun i hi => hall.out i (by omega) hi)]; rfl, hbw'.out⟩
        | false =>
          have hall2 : ∀ i (hi : i < ls.length), i < k + 1 → p ls[i] = false := fun i hi h => by
            rcases Nat.lt_or_ge i k with h1 | h1
            · exact hall.out i hi h1
            · obtain rfl : i = k := by omega
              exact hr'.out
          have hbw' := Lib.hid hbw
          have hall2' := Lib.hid hall2
          clear hbw hall2
          go_wp2
          go_roundw
          case rel => exact ⟨k + 1, by omega, by go_num, hall2', hbw'⟩
          case measure => simp [intOf]; omega
      · obtain rfl : k = n := by omega
        go_wp2
        go_ret
        exact ⟨by rw [fst_no (fun i hi => hall.out i hi (by rw [hl'.out] at hi; exact hi))]; rfl, hb.out⟩
set_option maxHeartbeats 1000000 in
theorem bhas_any (fid : Nat) (hf : fid = 115) (a : Option Addr) (n c : Nat) (ls : List Int) (p : Int → Bool) (w : World) (hs : Sl w a n c 1 (ints .u8 ls))
    (hc : ∀ W (x : Int), Below w.heap.size w W → Calls Tryz.prog fid #[.int .u8 x] W fun e W' => e = .returned (.bool (p x)) ∧ Below W.heap.size W W') :
    Calls Tryz.prog 116 #[.slice a n c, .func (.func fid) #[] #[]] w fun e w' => e = .returned (.bool (ls.any p)) ∧ Below w.heap.size w w' := by
  have HX := bidx_any fid hf a n c ls p w hs hc
  obtain ⟨r, hr⟩ : ∃ r, fst p ls = r := ⟨_, rfl⟩
  have ha := fst_any (p := p) (l := ls)
  rw [hr] at HX ha
  obtain ⟨q, hq⟩ : ∃ q, ls.any p = q := ⟨_, rfl⟩
  rw [hq] at ha ⊢
  clear hs hc
  have HX' := Lib.hid HX
  have hr' := Lib.hid hr
  have hq' := Lib.hid hq
  clear HX hr hq
  rcases hf with rfl
  all_goals
    go_enter Tryz.func116, Tryz.ntmps116
    go_wp2_with fail
    refine HX'.out.mono ?_
    rintro e w2 ⟨rfl, hb2⟩
    have hb2' := Lib.hid hb2
    clear hb2
    go_wp2
    go_ret
    exact ⟨rfl, hb2'.out⟩
end Go.Proofs.YtilennmeiaehnaaGreat

/- Chapter 18: kinds of values, and which may be; what a row of numbers holds. -/
namespace Go.Proofs.YtilennmeiaehnaaGreat
open Go.RowKit Tt
set_option linter.unusedVariables false

def kindL : List (Int × Int × Int) := [(0, 0, 0), (1, 1, 1), (1, 1, 1), (2, 2, 1), (4, 4, 1), (8, 4, 3), (1, 1, 2), (1, 1, 1), (2, 2, 2), (4, 4, 2), (8, 4, 4), (4, 4, 5), (8, 8, 5)]
def kindS (n : Int) : Int × Int × Int := if n < 0 ∨ 12 < n then (0, 0, 0) else kindL.getD n.toNat (0, 0, 0)
theorem kindS_out {n : Int} (h : n < 0 ∨ 12 < n) : kindS n = (0, 0, 0) := if_pos h
theorem kindS_size (n : Int) : 0 ≤ (kindS n).1 ∧ (kindS n).1 ≤ 8 := by
  unfold kindS
  split
  · exact ⟨by decide, by decide⟩
  · have : ∀ x ∈ kindL, 0 ≤ x.1 ∧ x.1 ≤ 8 := by decide
    rw [List.getD_eq_getElem?_getD]
    cases h : kindL[n.toNat]? with
    | none => exact ⟨by decide, by decide⟩
    | some x => exact this x (List.mem_of_getElem? h)


set_option maxRecDepth 100000 in
set_option maxHeartbeats 1000000 in
theorem indexbyte_any (a : Option Addr) (n c : Nat) (x : List Int) (cv : Int) (w : World) (hs : Sl w a n c 1 (ints .u8 x)) :
    Calls Tryz.prog 146 #[.slice a n c, .int .u8 cv] w fun e w' => e = .returned (.int .i64 (Lib.indexByte (Lib.bytesOf x) cv.toNat.toUInt8)) ∧ w = w' := by
  have hl := hs.ilen
  cases a with
  | none =>
    have h1 := hs.fit rfl
    have h2 := hs.le
    subst h1
    obtain rfl : n = 0 := by omega
    obtain rfl : x = [] := List.eq_nil_of_length_eq_zero hl
    go_enter Tryz.func146, Tryz.ntmps146
    go_wp2
    rw [run_callFunc_extern Tryz.func180 (by kernel_rfl) (by kernel_rfl) (by kernel_rfl) (e := Extern.BytealgIndexByte.indexByte) (by kernel_rfl), Lib.run_indexByteNil w 0 0 cv]
    simp only [Result.andThen]
    rw [Oper.upon_value]
    go_wp2
    go_ret
    exact ⟨rfl, rfl⟩
  | some y =>
    have hc : ∀ i, i < n → w.cell? (y.add i) = some (.int .u8 (x.getD i 0)) := fun i hi => by
      obtain ⟨b, off, e, _, hc⟩ := hs.at hi
      injection e with e
      subst e
      rw [Addr.add_lit]
      exact hc i _ (ints_get (by omega))
    go_enter Tryz.func146, Tryz.ntmps146
    go_wp2
    rw [run_callFunc_extern Tryz.func180 (by kernel_rfl) (by kernel_rfl) (by kernel_rfl) (e := Extern.BytealgIndexByte.indexByte) (by kernel_rfl), Lib.run_indexByteAt w y n c x hl hc cv]
    simp only [Result.andThen]
    rw [Oper.upon_value]
    go_wp2
    go_ret
    exact ⟨rfl, rfl⟩
end Go.Proofs.YtilennmeiaehnaaGreat

namespace Go.Proofs.YtilennmeiaehnaaGreat
open Go.RowKit Tt
set_option linter.unusedVariables false

def kindCells : Array Value := #[.int .i64 0, .int .i64 0, .int .i64 0, .int .i64 1, .int .i64 1, .int .i64 1, .int .i64 1, .int .i64 1, .int .i64 1, .int .i64 2, .int .i64 2, .int .i64 1, .int .i64 4, .int .i64 4, .int .i64 1, .int .i64 8, .int .i64 4, .int .i64 3, .int .i64 1, .int .i64 1, .int .i64 2, .int .i64 1, .int .i64 1, .int .i64 1, .int .i64 2, .int .i64 2, .int .i64 2, .int .i64 4, .int .i64 4, .int .i64 2, .int .i64 8, .int .i64 4, .int .i64 4, .int .i64 4, .int .i64 4, .int .i64 5, .int .i64 8, .int .i64 8, .int .i64 5]
theorem wpList_built {P : Program} {ops : Array Oper} {rest : List Oper} {o : Oper} {a : Act} {w : World} {Q : Exit → Act → World → Prop} (hg : o.guard = none) (t : TypeId) (parts : Array (Nat × Operand)) (ho : o.op = .build t parts) (cells : Array Value)
    (hf : P.built t (parts.map fun (i, x) => (i, a.eval x)).toList = some cells)
    (h : wpList P ops Q rest (a.put o.dst (.agg cells)) w) : wpList P ops Q (o :: rest) a w :=
  wpList_build hg t parts ho (by rw [hf]; rfl) (by rw [hf]; exact h)
theorem setRow_below {B : Nat} {w w' : World} (h : Below B w w') {g : Nat} (hg : B ≤ g) (cs : Array Value) : Below B w (w'.setRow g cs) :=
  ⟨h.os, h.tape, h.output, by rw [setRow_size]; exact h.size, fun k hk => by rw [setRow_other _ _ _ _ (by omega)]; exact h.block k hk⟩

set_option maxRecDepth 100000 in
set_option maxHeartbeats 1000000 in
theorem kinds_any (w : World) : Calls Tryz.prog 153 #[] w fun e w' => e = .returned (.agg kindCells) ∧ Below w.heap.size w w' := by
  have ki : (Tryz.prog.info? 206).map (·.size) = some kindCells.size := by kernel_rfl
  have ka : kindCells.all (·.oneCell') = true := by kernel_rfl
  go_enter Tryz.func153, Tryz.ntmps153
  go_wp2_with (first
    | (refine wpList_built rfl 206 _ rfl kindCells (by kernel_rfl) ?_)
    | (refine wpList_store_row rfl 206 (.tmp 0) (.tmp 13) rfl w.heap.size kindCells rfl rfl 206 _ (heap_new w _) ki rfl ka ?_))
  refine bodyPost_ret (results_cell_row rfl _ _ w.heap.size 206 kindCells (0, 0) _ rfl (setRow_heap _ _ _ _ _ _ (heap_new w _)) Tryz.underlying206 rfl ki) rfl ?_
  exact ⟨rfl, setRow_below ((Below.refl _ _).alloc (Nat.le_refl _) _) (Nat.le_refl _) _⟩

theorem kind_at {n : Int} (h0 : 0 ≤ n) (h1 : n ≤ 12) (W : World) : (Instr.index 206 (.agg kindCells) (.int .i64 n)).run Tryz.prog W = .ok (.agg #[.int .i64 (kindS n).1, .int .i64 (kindS n).2.1, .int .i64 (kindS n).2.2]) W := by
  rcases (by omega : n = 0 ∨ n = 1 ∨ n = 2 ∨ n = 3 ∨ n = 4 ∨ n = 5 ∨ n = 6 ∨ n = 7 ∨ n = 8 ∨ n = 9 ∨ n = 10 ∨ n = 11 ∨ n = 12) with rfl | rfl | rfl | rfl | rfl | rfl | rfl | rfl | rfl | rfl | rfl | rfl | rfl
  all_goals kernel_rfl

set_option maxHeartbeats 1000000 in
theorem kind_any (n : Int) (w : World) : Calls Tryz.prog 117 #[.int .i64 n] w fun e w' => e = .returned (.agg #[.int .i64 (kindS n).1, .int .i64 (kindS n).2.1, .int .i64 (kindS n).2.2]) ∧ Below w.heap.size w w' := by
  by_cases h : n < 0 ∨ 12 < n
  · rw [kindS_out h]
    by_cases h0 : n < 0
    · go_enter Tryz.func117, Tryz.ntmps117
      go_wp2
      refine bodyPost_ret (results_cell_row rfl _ _ w.heap.size 177 #[.int .i64 0, .int .i64 0, .int .i64 0] (0, 0) _ rfl (heap_new w _) Tryz.underlying177 rfl (by kernel_rfl)) rfl ?_
      exact ⟨rfl, (Below.refl _ _).alloc (Nat.le_refl _) _⟩
    · have h1 : 12 < n := by omega
      go_enter Tryz.func117, Tryz.ntmps117
      go_wp2
      refine bodyPost_ret (results_cell_row rfl _ _ w.heap.size 177 #[.int .i64 0, .int .i64 0, .int .i64 0] (0, 0) _ rfl (heap_new w _) Tryz.underlying177 rfl (by kernel_rfl)) rfl ?_
      exact ⟨rfl, (Below.refl _ _).alloc (Nat.le_refl _) _⟩
  · have hidx := fun W => kind_at (n := n) (by omega) (by omega) W
    have h0 : ¬ n < 0 := by omega
    have h1 : ¬ 12 < n := by omega
    obtain ⟨s, p, i, hk⟩ : ∃ s p i, kindS n = (s, p, i) := ⟨_, _, _, rfl⟩
    rw [hk] at hidx ⊢
    simp only at hidx ⊢
    clear h hk
    go_enter Tryz.func117, Tryz.ntmps117
    go_wp2_with fail
    refine (kinds_any _).mono ?_
    rintro e w1 ⟨rfl, hb⟩
    have hg : w1.heap[w.heap.size]? = _ := (hb.block w.heap.size (by simp)).trans (heap_new w _)
    generalize kindCells = kc at *
    have kall : (#[.int .i64 s, .int .i64 p, .int .i64 i] : Array Value).all (·.oneCell') = true := by simp [Value.oneCell']
    have kinf : (Tryz.prog.info? 177).map (·.size) = some (#[.int .i64 s, .int .i64 p, .int .i64 i] : Array Value).size := by kernel_rfl
    have Kall := Lib.hid kall
    have Kinf := Lib.hid kinf
    have Hg := Lib.hid hg
    clear kall kinf hg
    go_wp2_with (refine wpList_store_row rfl 177 (.tmp 2) (.tmp 12) rfl w.heap.size #[.int .i64 s, .int .i64 p, .int .i64 i] rfl rfl 177 _ Hg.out Kinf.out rfl Kall.out ?_)
    refine bodyPost_ret (results_cell_row rfl _ _ w.heap.size 177 #[.int .i64 s, .int .i64 p, .int .i64 i] (0, 0) _ rfl (setRow_heap _ _ _ _ _ _ Hg.out) Tryz.underlying177 rfl (by kernel_rfl)) rfl ?_
    exact ⟨rfl, setRow_below (((Below.refl w.heap.size w).alloc (Nat.le_refl _) _).trans (hb.mono (by simp))) (Nat.le_refl _) _⟩
end Go.Proofs.YtilennmeiaehnaaGreat
