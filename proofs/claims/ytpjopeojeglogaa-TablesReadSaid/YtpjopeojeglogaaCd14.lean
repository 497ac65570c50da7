/- Chapters 6, 14: numbers within bounds. -/
import Derived.Test.YtpjopeojeglogaaCd09
import Derived.Test.YtpjopeojeglogaaCd13
namespace Go.Proofs.Ytpjopeojeglogaa
open Go.RowKit Tt
set_option linter.unusedVariables false
set_option linter.unusedSimpArgs false
theorem bel1_any (x e : Int) (b : Nat) (w : World) (hc : w.cell? ⟨b, 0, none⟩ = some (.int .i64 e)) : Calls Try.prog 166 #[.int .i64 x, .pointer (some ⟨b, 0, none⟩)] w fun en w' => en = .returned (.bool (decide (x < 0 ∨ e ≤ x))) ∧ w = w' := by
  obtain ⟨r, hr⟩ : ∃ r, decide (x < 0 ∨ e ≤ x) = r := ⟨_, rfl⟩; rw [hr]
  by_cases h1 : x < 0
  · obtain rfl : r = true := by rw [← hr]; simp [h1]
    clear hr
    go_enter Try.func166, Try.ntmps166
    go_wp2
    go_ret
    exact ⟨rfl, rfl⟩
  · by_cases h2 : e ≤ x
    · obtain rfl : r = true := by rw [← hr]; simp [h2]
      clear hr
      go_enter Try.func166, Try.ntmps166
      go_wp2
      go_ret
      exact ⟨rfl, rfl⟩
    · obtain rfl : r = false := by rw [← hr]; simp; omega
      clear hr
      go_enter Try.func166, Try.ntmps166
      go_wp2
      go_ret
      exact ⟨rfl, rfl⟩
/-- are numbers from 0 on, below another one? -/
def belowS (e : Int) (l : List Int) : Bool := l.all fun x => decide (0 ≤ x ∧ x < e)
theorem belowS_any {e : Int} {l : List Int} : (!l.any fun x => decide (x < 0 ∨ e ≤ x)) = belowS e l := by
  unfold belowS; rw [Bool.eq_iff_iff, Bool.not_eq_true', List.any_eq_false, List.all_eq_true]; exact ⟨fun h x hx => by have := h x hx; simp at this ⊢; omega, fun h x hx => by have := h x hx; simp at this ⊢; omega⟩
set_option maxHeartbeats 1000000 in
theorem below_any (e : Int) (a : Option Addr) (n c : Nat) (ls : List Int) (w : World) (hs : Sl w a n c 1 (ints .i64 ls)) : Calls Try.prog 124 #[.int .i64 e, .slice a n c] w fun en w' => en = .returned (.bool (belowS e ls)) ∧ Below w.heap.size w w' := by
  have b1 := Blk.new w 3 #[.int .i64 e]; have hb1 := (Below.refl w.heap.size w).alloc (Nat.le_refl _) (.cells #[.int .i64 e] 3); obtain ⟨W1, hW1⟩ : ∃ W1, w.alloc (.cells #[.int .i64 e] 3) = W1 := ⟨_, rfl⟩; rw [hW1] at b1 hb1; have HB := bhas_any 166 rfl (.pointer (some ⟨w.heap.size, 0, none⟩)) a n c ls (fun x => decide (x < 0 ∨ e ≤ x)) W1 (hs.mono hb1) (fun W x hb => (bel1_any x e w.heap.size W ((b1.late hb).cell rfl)).mono fun en w' h => ⟨h.1, h.2 ▸ Below.refl _ _⟩); have hbl := belowS_any (e := e) (l := ls); obtain ⟨r, hr⟩ : ∃ r, (ls.any fun x => decide (x < 0 ∨ e ≤ x)) = r := ⟨_, rfl⟩; rw [hr] at HB hbl; rw [← hbl]; clear hbl; have HB' := Lib.hid HB; have hb1' := Lib.hid hb1; have b1' := Lib.hid b1; have hr' := Lib.hid hr; have hs' := Lib.hid hs; have hW1' := Lib.hid hW1; clear HB hb1 b1 hr hs hW1
  go_enter Try.func124, Try.ntmps124
  go_wp2_with fail
  rw [hW1'.out]; refine HB'.out.mono ?_; rintro en w2 ⟨rfl, hb2⟩; have hbw := hb1'.out.trans (hb2.mono hb1'.out.size); have hbw' := Lib.hid hbw; clear hbw; clear hb2
  go_wp2
  go_ret
  exact ⟨rfl, hbw'.out⟩
theorem wit1_any (x lo hi : Int) (b : Nat) (w : World) (h1 : w.cell? ⟨b, 0, none⟩ = some (.int .i64 lo)) (h2 : w.cell? ⟨b + 1, 0, none⟩ = some (.int .i64 hi)) : Calls Try.prog 217 #[.int .i64 x, .pointer (some ⟨b, 0, none⟩), .pointer (some ⟨b + 1, 0, none⟩)] w fun en w' => en = .returned (.bool (decide (x < lo ∨ hi < x))) ∧ w = w' := by
  obtain ⟨r, hr⟩ : ∃ r, decide (x < lo ∨ hi < x) = r := ⟨_, rfl⟩; rw [hr]
  by_cases c1 : x < lo
  · obtain rfl : r = true := by rw [← hr]; simp [c1]
    clear hr
    go_enter Try.func217, Try.ntmps217
    go_wp2
    go_ret
    exact ⟨rfl, rfl⟩
  · by_cases c2 : hi < x
    · obtain rfl : r = true := by rw [← hr]; simp [c2]
      clear hr
      go_enter Try.func217, Try.ntmps217
      go_wp2
      go_ret
      exact ⟨rfl, rfl⟩
    · obtain rfl : r = false := by rw [← hr]; simp; omega
      clear hr
      go_enter Try.func217, Try.ntmps217
      go_wp2
      go_ret
      exact ⟨rfl, rfl⟩
theorem within_any' {lo hi : Int} {l : List Int} : (!l.any fun x => decide (x < lo ∨ hi < x)) = within l lo hi := by
  unfold within; rw [Bool.eq_iff_iff, Bool.not_eq_true', List.any_eq_false, List.all_eq_true]; exact ⟨fun h x hx => by have := h x hx; simp at this ⊢; omega, fun h x hx => by have := h x hx; simp at this ⊢; omega⟩
theorem B64.sl {w : World} {g : Nat} {T : TypeId} {l : List Int} (h : B64 w g T l) : Sl w (some ⟨g, 0, none⟩) 64 64 1 (ints .i64 l) :=
  ⟨by rw [ints_len, h.1], Nat.le_refl _, by omega, fun i hi => ⟨g, 0, rfl, h.2.lt, fun j v hj => h.2.cell (by rw [Nat.zero_add, List.getElem?_toArray]; exact hj)⟩, fun h => by cases h⟩
set_option maxHeartbeats 1000000 in
theorem pwithin_any (t : List Int) (A : Array Value) (hA : (ints .i64 t).toArray = A) (lo hi : Int) (w : World) (ht : t.length = 64) : Calls Try.prog 189 #[.agg A, .int .i64 lo, .int .i64 hi] w fun en w' => en = .returned (.bool (within t lo hi)) ∧ Below w.heap.size w w' := by
  obtain ⟨W1, hW1, bA, bB, bC, hb1, s1⟩ := three_boxes w 129 A 3 #[.int .i64 lo] 3 #[.int .i64 hi]; have b1 : B64 W1 w.heap.size 129 t := ⟨ht, hA ▸ bA⟩
  have HB := qhas_any 217 rfl (.pointer (some ⟨w.heap.size + 1, 0, none⟩)) (.pointer (some ⟨w.heap.size + 1 + 1, 0, none⟩)) (some ⟨w.heap.size, 0, none⟩) 64 64 t (fun x => decide (x < lo ∨ hi < x)) W1 b1.sl
    (fun W x hb => (wit1_any x lo hi (w.heap.size + 1) W ((bB.late hb).cell rfl) ((bC.late hb).cell rfl)).mono fun en w' h => ⟨h.1, h.2 ▸ Below.refl _ _⟩)
  have hbl := within_any' (lo := lo) (hi := hi) (l := t); obtain ⟨r, hr⟩ : ∃ r, (t.any fun x => decide (x < lo ∨ hi < x)) = r := ⟨_, rfl⟩; rw [hr] at HB hbl; rw [← hbl]; clear hbl bA bB bC; have HB' := Lib.hid HB; have hb1' := Lib.hid hb1; have b1' := Lib.hid b1; have hr' := Lib.hid hr; have hW1' := Lib.hid hW1; have hA' := Lib.hid hA; have ht' := Lib.hid ht; have s1' := Lib.hid s1; clear HB hb1 b1 hr hW1 hA ht s1
  go_enter Try.func189, Try.ntmps189
  go_wp2_with fail
  rw [hW1'.out]; refine HB'.out.mono ?_; rintro en w2 ⟨rfl, hb2⟩; have hbw := hb1'.out.trans (hb2.mono hb1'.out.size); have hbw' := Lib.hid hbw; clear hbw; clear hb2
  go_wp2
  go_ret
  exact ⟨rfl, hbw'.out⟩
set_option maxRecDepth 20000 in
set_option maxHeartbeats 1000000 in
theorem qmay_any (t : List Int) (A : Array Value) (hA : (ints .i64 t).toArray = A) (w : World) (ht : t.length = 64) : Calls Try.prog 157 #[.agg A] w fun en w' => en = .returned (.bool (within t 1 255)) ∧ Below w.heap.size w w' := by
  have b1 := Blk.new w 129 A; have hb1 := (Below.refl w.heap.size w).alloc (Nat.le_refl _) (.cells A 129); obtain ⟨W1, hW1⟩ : ∃ W1, w.alloc (.cells A 129) = W1 := ⟨_, rfl⟩; rw [hW1] at b1 hb1; have HW := pwithin_any t A hA 1 255 W1 ht; have hl3 : (ints .i64 t).length = 64 := by rw [ints_len]; exact ht
  have g3 : ∀ j v, (ints .i64 t)[j]? = some v → W1.cell? ⟨w.heap.size, 0 + j, none⟩ = some v := fun j v hv => b1.cell (by rw [← hA, Nat.zero_add, List.getElem?_toArray]; exact hv)
  generalize within t 1 255 = r at *
  have HW' := Lib.hid HW; have hb1' := Lib.hid hb1; have b1' := Lib.hid b1; have hW1' := Lib.hid hW1; have hA' := Lib.hid hA; have ht' := Lib.hid ht; have hl3' := Lib.hid hl3; have g3' := Lib.hid g3; clear HW hb1 b1 hW1 hA ht hl3 g3
  go_enter Try.func157, Try.ntmps157
  go_upto_region 1 with fail
  rw [hW1'.out]
  go_wp2_with (refine wpList_load_at rfl 129 (.tmp 1) rfl w.heap.size 0 rfl (ints .i64 t) A hA'.out _ g3'.out Try.underlying129 rfl 64 infoA hl3'.out ?_)
  refine HW'.out.mono ?_; rintro en w2 ⟨rfl, hb2⟩; have hbw := hb1'.out.trans (hb2.mono hb1'.out.size); have hbw' := Lib.hid hbw; clear hbw; clear hb2
  go_wp2
  go_ret
  exact ⟨rfl, hbw'.out⟩
theorem within_no {t : List Int} {k : Nat} {x lo hi : Int} (hx : t[k]? = some x) (h : x < lo ∨ hi < x) : within t lo hi = false := by
  unfold within; rw [List.all_eq_false]; exact ⟨x, List.mem_of_getElem? hx, by simp; omega⟩
set_option maxRecDepth 20000 in
set_option maxHeartbeats 1000000 in
theorem rwithin_any (t : List Int) (A : Array Value) (hA : (ints .i64 t).toArray = A) (lo hi : Int) (w : World) (ht : t.length = 64) : Calls Try.prog 113 #[.agg A, .int .i64 lo, .int .i64 hi] w fun en w' => en = .returned (.bool (within t lo hi)) ∧ Below w.heap.size w w' := by
  have b1 := Blk.new w 129 A; have hb1 := (Below.refl w.heap.size w).alloc (Nat.le_refl _) (.cells A 129); obtain ⟨W1, hW1⟩ : ∃ W1, w.alloc (.cells A 129) = W1 := ⟨_, rfl⟩; rw [hW1] at b1 hb1; have bb : B64 W1 w.heap.size 129 t := ⟨ht, hA ▸ b1⟩; obtain ⟨r, hr⟩ : ∃ r, within t lo hi = r := ⟨_, rfl⟩; rw [hr]; have hb1' := Lib.hid hb1; have b1' := Lib.hid b1; have hW1' := Lib.hid hW1; have hA' := Lib.hid hA; have ht' := Lib.hid ht; have bb' := Lib.hid bb; have hr' := Lib.hid hr; clear hb1 b1 hW1 hA ht bb hr
  go_enter Try.func113, Try.ntmps113
  go_upto_region 1 with fail
  rw [hW1'.out]
  go_wp2
  go_loop [7] (fun iv => ∃ k : Nat, k ≤ 64 ∧ iv = .int .i64 k ∧ Hid (∀ j x, j < k → t[j]? = some x → lo ≤ x ∧ x ≤ hi)) (fun iv => 64 - (intOf iv).toNat)
  case atStart => exact ⟨0, by omega, rfl, Lib.hid (fun j x hj => by omega)⟩
  case round =>
    obtain ⟨k, hk, rfl, hall⟩ := hrel
    by_cases hlt : k < 64
    · obtain ⟨x, hx⟩ : ∃ x, t[k]? = some x := ⟨_, List.getElem?_eq_getElem (by rw [ht'.out]; exact hlt)⟩
      have hxd : t.getD k 0 = x := by rw [List.getD_eq_getElem?_getD, hx]; rfl
      have f0 := bb'.out.cell hlt; rw [hxd] at f0
      by_cases c1 : x < lo
      · obtain rfl : r = false := by rw [← hr'.out]; exact within_no hx (.inl c1)
        have hx' := Lib.hid hx; have hxd' := Lib.hid hxd; clear hx hxd
        go_wp2
        go_ret
        exact ⟨rfl, hb1'.out⟩
      by_cases c2 : hi < x
      · obtain rfl : r = false := by rw [← hr'.out]; exact within_no hx (.inr c2)
        have hx' := Lib.hid hx; have hxd' := Lib.hid hxd; clear hx hxd
        go_wp2
        go_ret
        exact ⟨rfl, hb1'.out⟩
      have hall2 : ∀ j y, j < k + 1 → t[j]? = some y → lo ≤ y ∧ y ≤ hi := fun j y hj hy => by
        rcases Nat.lt_or_ge j k with h | h
        · exact hall.out j y h hy
        · obtain rfl : j = k := by omega
          rw [hx] at hy; injection hy with hy
          omega
      have hx' := Lib.hid hx; have hxd' := Lib.hid hxd; have hall2' := Lib.hid hall2; clear hx hxd hall2
      go_wp2
      go_round
      case rel => exact ⟨k + 1, by omega, by go_num, hall2'⟩
      case measure => simp [intOf]; omega
    · obtain rfl : r = true := by
        rw [← hr'.out]; unfold within; rw [List.all_eq_true]; intro x hx; obtain ⟨j, hj, he⟩ := List.mem_iff_getElem.1 hx; have := hall.out j x (by rw [ht'.out] at hj; omega) (by rw [List.getElem?_eq_getElem hj, he])
        simp; omega
      go_wp2
      go_ret
      exact ⟨rfl, hb1'.out⟩
end Go.Proofs.Ytpjopeojeglogaa
