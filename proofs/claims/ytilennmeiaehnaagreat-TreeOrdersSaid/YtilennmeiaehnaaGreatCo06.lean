/-  | Small functions of chapters 1, 18, 19, 21: Room, Top, Size, Long, Inline, Outside, later, tag. | Chapter 18: Of of the program. | Chapter 19: Read of both sides. | Chapter 19: Value of both sides. | Chapter 21: whether shapes may be, in the program. | Chapter 22: the plain walk: what is read of any bytes by any shapes, or which error. -/
import Derived.Test.YtilennmeiaehnaaGreatCo05
import Derived.Test.YtilennmeiaehnaaGreatCo03
/- Chapter 18, the document: sizes, and which values may be. -/
namespace Go.Proofs.YtilennmeiaehnaaGreat
open Go.RowKit Tt
set_option linter.unusedVariables false

set_option maxHeartbeats 2000000 in
theorem rsize_any (n : Int) (w : World) : Calls Tryz.prog 119 #[.int .i64 n] w fun e w' => e = .returned (.int .i64 (kindS n).1) ∧ w = w' := by
  by_cases h1 : n = 1
  · subst h1
    have e : (kindS 1).1 = 1 := by decide
    rw [e]
    go_enter Tryz.func119, Tryz.ntmps119
    go_wp2
    go_ret
    exact ⟨rfl, rfl⟩
  by_cases h2 : n = 2
  · subst h2
    have e : (kindS 2).1 = 1 := by decide
    rw [e]
    go_enter Tryz.func119, Tryz.ntmps119
    go_wp2
    go_ret
    exact ⟨rfl, rfl⟩
  by_cases h3 : n = 3
  · subst h3
    have e : (kindS 3).1 = 2 := by decide
    rw [e]
    go_enter Tryz.func119, Tryz.ntmps119
    go_wp2
    go_ret
    exact ⟨rfl, rfl⟩
  by_cases h4 : n = 4
  · subst h4
    have e : (kindS 4).1 = 4 := by decide
    rw [e]
    go_enter Tryz.func119, Tryz.ntmps119
    go_wp2
    go_ret
    exact ⟨rfl, rfl⟩
  by_cases h5 : n = 5
  · subst h5
    have e : (kindS 5).1 = 8 := by decide
    rw [e]
    go_enter Tryz.func119, Tryz.ntmps119
    go_wp2
    go_ret
    exact ⟨rfl, rfl⟩
  by_cases h6 : n = 6
  · subst h6
    have e : (kindS 6).1 = 1 := by decide
    rw [e]
    go_enter Tryz.func119, Tryz.ntmps119
    go_wp2
    go_ret
    exact ⟨rfl, rfl⟩
  by_cases h7 : n = 7
  · subst h7
    have e : (kindS 7).1 = 1 := by decide
    rw [e]
    go_enter Tryz.func119, Tryz.ntmps119
    go_wp2
    go_ret
    exact ⟨rfl, rfl⟩
  by_cases h8 : n = 8
  · subst h8
    have e : (kindS 8).1 = 2 := by decide
    rw [e]
    go_enter Tryz.func119, Tryz.ntmps119
    go_wp2
    go_ret
    exact ⟨rfl, rfl⟩
  by_cases h9 : n = 9
  · subst h9
    have e : (kindS 9).1 = 4 := by decide
    rw [e]
    go_enter Tryz.func119, Tryz.ntmps119
    go_wp2
    go_ret
    exact ⟨rfl, rfl⟩
  by_cases h10 : n = 10
  · subst h10
    have e : (kindS 10).1 = 8 := by decide
    rw [e]
    go_enter Tryz.func119, Tryz.ntmps119
    go_wp2
    go_ret
    exact ⟨rfl, rfl⟩
  by_cases h11 : n = 11
  · subst h11
    have e : (kindS 11).1 = 4 := by decide
    rw [e]
    go_enter Tryz.func119, Tryz.ntmps119
    go_wp2
    go_ret
    exact ⟨rfl, rfl⟩
  by_cases h12 : n = 12
  · subst h12
    have e : (kindS 12).1 = 8 := by decide
    rw [e]
    go_enter Tryz.func119, Tryz.ntmps119
    go_wp2
    go_ret
    exact ⟨rfl, rfl⟩
  have e : (kindS n).1 = 0 := by
    rcases Classical.em (n < 0 ∨ 12 < n) with h | h
    · rw [kindS_out h]
    · obtain rfl : n = 0 := by omega
      decide
  rw [e]
  go_enter Tryz.func119, Tryz.ntmps119
  go_wp2
  go_ret
  exact ⟨rfl, rfl⟩

theorem textB_no {l : List Int} {i : Nat} (hi : i < l.length) (h : ¬ (l.getD i 0 = 0 ↔ i + 1 = l.length)) : textB l = false := by
  cases hb : textB l
  · rfl
  · exact absurd ((textB_iff l).1 hb i hi) h

set_option maxHeartbeats 4000000 in
theorem rmay_any (ty cnt : Int) (a : Option Addr) (n c : Nat) (d : List Int) (w : World) (hs : Sl w a n c 1 (ints .u8 d)) :
    Calls Tryz.prog 87 #[.agg #[.int .i64 ty, .int .i64 cnt, .slice a n c]] w fun e w' => e = .returned (.bool (mayS ty cnt d)) ∧ Below w.heap.size w w' := by
  have hl := hs.ilen
  obtain ⟨m, hm⟩ : ∃ m, mayS ty cnt d = m := ⟨_, rfl⟩
  rw [hm]
  have Hm := Lib.hid hm
  have Hl := Lib.hid hl
  have hsz := kindS_size ty
  have hmx := hs.max
  have hle := hs.le
  obtain ⟨w1, hw1⟩ : ∃ w1, w1 = w.alloc (.cells #[.int .i64 ty, .int .i64 cnt, .slice a n c] 76) := ⟨_, rfl⟩
  have hb1 : Below w.heap.size w w1 := by rw [hw1]; exact (Below.refl _ _).alloc (Nat.le_refl _) _
  have Hs1 := Lib.hid (hs.mono hb1)
  obtain ⟨g, hg⟩ : ∃ g, g = w.heap.size := ⟨_, rfl⟩
  have hblk : w1.heap[g]? = some (.cells #[.int .i64 ty, .int .i64 cnt, .slice a n c] 76) := by rw [hg, hw1]; exact heap_new w _
  have hlt : g < w1.heap.size := (Array.getElem?_eq_some_iff.1 hblk).1
  have c0 : w1.cell? ⟨g, 0, none⟩ = some (.int .i64 ty) := by unfold World.cell?; rw [hblk]; rfl
  have c1 : w1.cell? ⟨g, 1, none⟩ = some (.int .i64 cnt) := by unfold World.cell?; rw [hblk]; rfl
  have c2 : w1.cell? ⟨g, 2, none⟩ = some (.slice a n c) := by unfold World.cell?; rw [hblk]; rfl
  have HB := Lib.hid hb1
  clear hm hl hs hb1 hblk
  obtain ⟨sz, pt, is, hk⟩ : ∃ s p i, kindS ty = (s, p, i) := ⟨_, _, _, rfl⟩
  rw [hk] at hsz
  simp only at hsz
  have Hk := Lib.hid hk
  clear hk
  have hkc := fun j => (rsize_any ty (w1.drewN j)).mono (fun e w' (h : _ ∧ _) => (⟨h.1, by rw [← h.2]; exact Qt.refl _⟩ : _ ∧ Qt _ w'))
  rw [Hk.out] at hkc
  simp only at hkc
  have Hkc := Lib.hid hkc
  clear hkc
  go_enter Tryz.func87, Tryz.ntmps87
  go_wp2_with fail
  rw [← hw1, ← hg]
  have HG := Lib.hid hg
  clear hw1 hg
  by_cases t1 : sz = 0
  · subst t1
    obtain rfl : m = false := by rw [← Hm.out]; exact may_no (.inl (by rw [Hk.out]))
    go_quiet ((go_at_call 119; exact Calls.quiet_of (Hkc.out _)))
    go_wp2
    go_ret
    exact ⟨rfl, HB.out.trans (Qt.below ⟨_, rfl⟩ _)⟩
  have f1 : (sz == 0) = false := by simp [t1]
  by_cases t2 : cnt < 1
  · obtain rfl : m = false := by rw [← Hm.out]; exact may_no (.inr (.inl t2))
    go_quiet ((go_at_call 119; exact Calls.quiet_of (Hkc.out _)))
    go_wp2
    go_ret
    exact ⟨rfl, HB.out.trans (Qt.below ⟨_, rfl⟩ _)⟩
  have f2 : decide (cnt < 1) = false := by simp; omega
  by_cases t3 : 65536 < cnt
  · obtain rfl : m = false := by rw [← Hm.out]; exact may_no (.inr (.inr (.inl t3)))
    go_quiet ((go_at_call 119; exact Calls.quiet_of (Hkc.out _)))
    go_wp2
    go_ret
    exact ⟨rfl, HB.out.trans (Qt.below ⟨_, rfl⟩ _)⟩
  have f3 : decide (65536 < cnt) = false := by simp; omega
  have hw : IntKind.i64.wrap (cnt * sz) = cnt * sz := by
    have : 0 ≤ cnt * sz := Int.mul_nonneg (by omega) (by omega)
    have : cnt * sz ≤ 65536 * 8 := Int.mul_le_mul (by omega) (by omega) (by omega) (by omega)
    rw [IntKind.wrap_i64]; omega
  by_cases t4 : (n : Int) = cnt * sz
  · have hmm := may_else (ty := ty) (cnt := cnt) (d := d) (by rw [Hk.out]; exact t1) t2 t3 (by rw [Hl.out, Hk.out]; exact t4)
    rw [Hm.out] at hmm
    have Hmm := Lib.hid hmm
    have f4 : ((n : Int) != cnt * sz) = false := by simp [t4]
    clear hmm t4
    go_quiet ((go_at_call 119; exact Calls.quiet_of (Hkc.out _)))
    go_wp2
    go_loopw [3] (fun i wr => ∃ k : Nat, k ≤ n ∧ i = .int .i64 k ∧ Hid (∀ j, j < k → (d.getD j 0 = 0 ↔ j + 1 = n)) ∧ Qt w1 wr) (fun i _ => n - (intOf i).toNat)
    case atStart => exact ⟨0, by omega, rfl, Lib.hid (fun j hj => by omega), ⟨_, rfl⟩⟩
    case round =>
      obtain ⟨k, hk, rfl, hall, hq⟩ := hrel
      by_cases t5 : ty = 2
      · subst t5
        have hmt : m = textB d := by rw [Hmm.out]; rfl
        have Hmt := Lib.hid hmt
        clear hmt
        by_cases hlt : k < n
        · obtain ⟨b, off, rfl, hbx, hc⟩ := Hs1.out.at hlt
          have e1 := hc k _ (ints_get (by rw [Hl.out]; exact hlt))
          clear hc
          obtain ⟨x, hx⟩ : ∃ x, d.getD k 0 = x := ⟨_, rfl⟩
          rw [hx] at e1
          have Hx := Lib.hid hx
          clear hx
          obtain ⟨j, rfl⟩ := hq.ex
          by_cases t6 : x = 0
          · have g1 : (x == 0) = true := by simp [t6]
            by_cases t7 : k + 1 = n
            · have g2 : ((k : Int) == (n : Int) - 1) = true := by simp; omega
              have hnext : Hid (∀ j, j < k + 1 → (d.getD j 0 = 0 ↔ j + 1 = n)) := Lib.hid (fun j hj => by
                rcases Nat.lt_or_ge j k with h | h
                · exact hall.out j h
                · obtain rfl : j = k := by omega
                  rw [Hx.out]; exact ⟨fun _ => t7, fun _ => t6⟩)
              clear t6 t7 hall
              go_wp2_with fail
              go_quiet (fail)
              go_wp2
              go_roundw
              case rel => exact ⟨k + 1, by omega, by go_num, hnext, ⟨_, rfl⟩⟩
              case measure => simp [intOf]; omega
            · have g2 : ((k : Int) == (n : Int) - 1) = false := by simp; omega
              obtain rfl : m = false := by rw [Hmt.out]; exact textB_no (i := k) (by rw [Hl.out]; exact hlt) (by rw [Hx.out, Hl.out]; exact fun h => t7 (h.1 t6))
              clear t6 t7 hall
              go_wp2_with fail
              go_quiet (fail)
              go_wp2
              go_ret
              exact ⟨rfl, HB.out.trans ((hq.step _).below _)⟩
          · have g1 : (x == 0) = false := by simp [t6]
            by_cases t7 : k + 1 = n
            · have g2 : ((k : Int) == (n : Int) - 1) = true := by simp; omega
              obtain rfl : m = false := by rw [Hmt.out]; exact textB_no (i := k) (by rw [Hl.out]; exact hlt) (by rw [Hx.out, Hl.out]; exact fun h => t6 (h.2 t7))
              clear t6 t7 hall
              go_wp2_with fail
              go_quiet (fail)
              go_wp2
              go_ret
              exact ⟨rfl, HB.out.trans ((hq.step _).below _)⟩
            · have g2 : ((k : Int) == (n : Int) - 1) = false := by simp; omega
              have hnext : Hid (∀ j, j < k + 1 → (d.getD j 0 = 0 ↔ j + 1 = n)) := Lib.hid (fun j hj => by
                rcases Nat.lt_or_ge j k with h | h
                · exact hall.out j h
                · obtain rfl : j = k := by omega
                  rw [Hx.out]; exact ⟨fun h => absurd h t6, fun h => absurd h t7⟩)
              clear t6 t7 hall
              go_wp2_with fail
              go_quiet (fail)
              go_wp2
              go_roundw
              case rel => exact ⟨k + 1, by omega, by go_num, hnext, ⟨_, rfl⟩⟩
              case measure => simp [intOf]; omega
        · obtain rfl : m = true := by
            rw [Hmt.out]
            refine (textB_iff d).2 fun i hi => ?_
            rw [Hl.out] at hi ⊢
            exact hall.out i (by omega)
          obtain ⟨j, rfl⟩ := hq.ex
          go_wp2
          go_ret
          exact ⟨rfl, HB.out.trans (hq.below _)⟩
      · have g1 : (ty == 2) = false := by simp [t5]
        have g2 : (ty != 2) = true := by simp [t5]
        obtain rfl : m = true := by rw [Hmm.out, g2]; rfl
        obtain ⟨j, rfl⟩ := hq.ex
        by_cases hlt : k < n
        · go_wp2
          go_ret
          exact ⟨rfl, HB.out.trans (hq.below _)⟩
        · go_wp2
          go_ret
          exact ⟨rfl, HB.out.trans (hq.below _)⟩
  · obtain rfl : m = false := by rw [← Hm.out]; exact may_no (.inr (.inr (.inr (by rw [Hl.out, Hk.out]; exact t4))))
    have f4 : ((n : Int) != cnt * sz) = true := by simp [t4]
    go_quiet ((go_at_call 119; exact Calls.quiet_of (Hkc.out _)))
    go_wp2
    go_ret
    exact ⟨rfl, HB.out.trans (Qt.below ⟨_, rfl⟩ _)⟩
end Go.Proofs.YtilennmeiaehnaaGreat

namespace Go.Proofs.YtilennmeiaehnaaGreat
open Go.RowKit Tt
set_option linter.unusedVariables false
set_option linter.unusedSimpArgs false

def roomB (a l e : Int) : Bool := decide (0 ≤ a) && decide (0 ≤ l) && decide (a ≤ e) && decide (l ≤ e - a)
def longS (ty cnt : Int) : Int := if cnt < 1 ∨ 65536 < cnt then 0 else cnt * (kindS ty).1
def outS (ty cnt : Int) : Int := if 4 < longS ty cnt then longS ty cnt else 0
def inlB (ty cnt : Int) : Bool := decide (0 < longS ty cnt) && decide (longS ty cnt ≤ 4)
theorem longS_le (ty cnt : Int) : 0 ≤ longS ty cnt ∧ longS ty cnt ≤ 524288 := by
  unfold longS
  have := kindS_size ty
  split
  · omega
  · rename_i h
    have h1 : cnt * (kindS ty).1 ≤ 65536 * 8 := Int.mul_le_mul (by omega) this.2 this.1 (by omega)
    exact ⟨Int.mul_nonneg (by omega) this.1, by omega⟩

set_option maxRecDepth 100000 in
theorem size_any (n : Int) (w : World) : Calls Tryz.prog 181 #[.int .i64 n] w fun e w' => e = .returned (.int .i64 (kindS n).1) ∧ Below w.heap.size w w' := by
  have hK := kind_any n w
  generalize (kindS n).1 = s1 at *
  generalize (kindS n).2.1 = s2 at *
  generalize (kindS n).2.2 = s3 at *
  have hF : ∀ W, (Instr.field 177 (.agg #[.int .i64 s1, .int .i64 s2, .int .i64 s3]) 0).run Tryz.prog W = .ok (.int .i64 s1) W := fun W => by kernel_rfl
  have hK' := Lib.hid hK
  clear hK
  go_enter Tryz.func181, Tryz.ntmps181
  go_wp2_with fail
  refine hK'.out.mono ?_
  rintro e w1 ⟨rfl, hb1⟩
  have HB := Lib.hid hb1
  clear hb1
  go_wp2_with fail
  go_ret
  exact ⟨rfl, HB.out⟩
set_option maxRecDepth 20000 in
theorem long_any (ty cnt : Int) (w : World) : Calls Tryz.prog 151 #[.int .i64 ty, .int .i64 cnt] w fun e w' => e = .returned (.int .i64 (longS ty cnt)) ∧ Below w.heap.size w w' := by
  have hk := kindS_size ty
  unfold longS
  by_cases h : cnt < 1
  · rw [if_pos (.inl h)]
    go_enter Tryz.func151, Tryz.ntmps151
    go_wp2
    go_ret
    exact ⟨rfl, Below.refl _ _⟩
  · have d1 : decide (cnt < 1) = false := by simp; omega
    by_cases h2 : 65536 < cnt
    · rw [if_pos (.inr h2)]
      go_enter Tryz.func151, Tryz.ntmps151
      go_wp2
      go_ret
      exact ⟨rfl, Below.refl _ _⟩
    · have d2 : decide (65536 < cnt) = false := by simp; omega
      rw [if_neg (by omega)]
      have h3 : cnt * (kindS ty).1 ≤ 65536 * 8 := Int.mul_le_mul (by omega) hk.2 hk.1 (by omega)
      have h4 : 0 ≤ cnt * (kindS ty).1 := Int.mul_nonneg (by omega) hk.1
      have hS := fun W => size_any ty W
      generalize (kindS ty).1 = s at *
      have hw : IntKind.i64.wrap (cnt * s) = cnt * s := by rw [IntKind.wrap_i64]; omega
      have hk' := Lib.hid hk
      have hS' := Lib.hid hS
      clear hk hS
      go_enter Tryz.func151, Tryz.ntmps151
      go_wp2_with (go_at_call 181; refine (hS'.out _).mono ?_; rintro e w1 ⟨rfl, hb1⟩; have HB := Lib.hid hb1; clear hb1)
      go_ret
      exact ⟨rfl, HB.out⟩
theorem out_any (ty cnt : Int) (w : World) : Calls Tryz.prog 148 #[.int .i64 ty, .int .i64 cnt] w fun e w' => e = .returned (.int .i64 (outS ty cnt)) ∧ Below w.heap.size w w' := by
  have hK := long_any ty cnt w
  unfold outS
  generalize longS ty cnt = s at *
  have hK' := Lib.hid hK
  clear hK
  by_cases h : 4 < s
  · rw [if_pos h]
    go_enter Tryz.func148, Tryz.ntmps148
    go_wp2_with (go_at_call 151; refine (hK'.out).mono ?_; rintro e w1 ⟨rfl, hb1⟩; have HB := Lib.hid hb1; clear hb1)
    go_ret
    exact ⟨rfl, HB.out⟩
  · have d : decide (4 < s) = false := by simp; omega
    rw [if_neg h]
    go_enter Tryz.func148, Tryz.ntmps148
    go_wp2_with (go_at_call 151; refine (hK'.out).mono ?_; rintro e w1 ⟨rfl, hb1⟩; have HB := Lib.hid hb1; clear hb1)
    go_ret
    exact ⟨rfl, HB.out⟩
end Go.Proofs.YtilennmeiaehnaaGreat

namespace Go.Proofs.YtilennmeiaehnaaGreat
open Go.RowKit Tt
set_option linter.unusedVariables false
set_option linter.unusedSimpArgs false

/-- a value of a type and a count out of bytes -/
def ofS (ty cnt : Int) (b : List Int) (o : Int) : Option (List Int) :=
  if (kindS ty).1 = 0 ∨ cnt < 1 ∨ 65536 < cnt ∨ (b.length : Int) < cnt * (kindS ty).1 then none
  else if mayS ty cnt (turnS (b.take (cnt * (kindS ty).1).toNat) (kindS ty).2.1 o) = true then some (turnS (b.take (cnt * (kindS ty).1).toNat) (kindS ty).2.1 o) else none
theorem ofS_yes {ty cnt : Int} {b : List Int} {o : Int} (h : ¬ ((kindS ty).1 = 0 ∨ cnt < 1 ∨ 65536 < cnt ∨ (b.length : Int) < cnt * (kindS ty).1)) :
    ofS ty cnt b o = if mayS ty cnt (turnS (b.take (cnt * (kindS ty).1).toNat) (kindS ty).2.1 o) = true then some (turnS (b.take (cnt * (kindS ty).1).toNat) (kindS ty).2.1 o) else none := by
  unfold ofS; rw [if_neg h]
end Go.Proofs.YtilennmeiaehnaaGreat

namespace Go.Proofs.YtilennmeiaehnaaGreat
open Go.RowKit Tt
set_option linter.unusedVariables false
set_option linter.unusedSimpArgs false

abbrev Ent := Int × Int × Int × Int
def entC (x : Ent) : List Value := [.int .i64 x.1, .int .i64 x.2.1, .int .i64 x.2.2.1, .int .i64 x.2.2.2]
theorem entC_len (x : Ent) : (entC x).length = 4 := rfl
def entAt (z : List Int) (o p : Int) : Ent := (getV z p 2 o, getV z (p + 2) 2 o, getV z (p + 4) 4 o, getV z (p + 8) 4 o)
theorem getB_in {n : Nat} {at_ size o : Int} (hs : size = 1 ∨ size = 2 ∨ size = 4) (ho : o = 1 ∨ o = 2) (h0 : 0 ≤ at_) (h1 : at_ + size ≤ n) : getB n at_ size o = true := by
  unfold getB mayB
  simp
  omega
end Go.Proofs.YtilennmeiaehnaaGreat

namespace Tt
open Go Go.RowKit
end Tt
namespace Go.Proofs.YtilennmeiaehnaaGreat
open Go.RowKit Tt
set_option linter.unusedVariables false
set_option linter.unusedSimpArgs false

def zerosB (l : List Int) : Bool := !l.any (fun x => x != 0)
/-- the value within an entry's slot, and whether what is left of the slot is 0 -/
def inS (x : Ent) (o : Int) : Option (List Int × Bool) :=
  if (putOk x.2.2.2 4 o && inlB x.2.1 x.2.2.1) = true then (ofS x.2.1 x.2.2.1 (putS x.2.2.2 4 o) o).map (fun d => (d, zerosB ((putS x.2.2.2 4 o).drop d.length))) else none
end Go.Proofs.YtilennmeiaehnaaGreat

namespace Go.Proofs.YtilennmeiaehnaaGreat
open Go.RowKit Tt
set_option linter.unusedVariables false
set_option linter.unusedSimpArgs false

/-- a shape: its links, At, Long, Next -/
abbrev Shp := List Lk × Int × Int × Int
abbrev shp0 : Shp := ([], 0, 0, 0)
def tagB (x : Int) : Bool := decide (0 ≤ x) && decide (x < 65536)
def lateB (n i : Nat) (x : Int) : Bool := decide ((i : Int) < x) && decide (x < n)
def linkB (n i : Nat) (s : Shp) (k : Nat) : Bool :=
  tagB (s.1.getD k (0, 0)).1 && (decide (k = 0) || decide ((s.1.getD (k - 1) (0, 0)).1 < (s.1.getD k (0, 0)).1)) && lateB n i (s.1.getD k (0, 0)).2 && !(decide (0 < s.2.1) && (decide ((s.1.getD k (0, 0)).1 = s.2.1) || decide ((s.1.getD k (0, 0)).1 = s.2.2.1)))
def nextB (n i : Nat) (s : Shp) : Bool := decide (s.2.2.2 = -1) || lateB n i s.2.2.2
def blobB (s : Shp) : Bool := (decide (s.2.1 = 0) && decide (s.2.2.1 = 0)) || (decide (1 ≤ s.2.1) && decide (s.2.1 < s.2.2.1) && tagB s.2.2.1)
def shapeB (n i : Nat) (s : Shp) : Bool := (List.range s.1.length).all (linkB n i s) && nextB n i s && blobB s
def shapesB (l : List Shp) : Bool := decide (1 ≤ l.length) && decide (l.length ≤ 16) && (List.range l.length).all (fun i => shapeB l.length i (l.getD i shp0))
/-- a shape in memory: its row of links, and what it is -/
abbrev Shz := (Option Addr × Nat × Nat) × Shp
abbrev shz0 : Shz := ((none, 0, 0), shp0)
def shc (z : Shz) : List Value := [.slice z.1.1 z.1.2.1 z.1.2.2, .int .i64 z.2.2.1, .int .i64 z.2.2.2.1, .int .i64 z.2.2.2.2]
theorem shc_len (z : Shz) : (shc z).length = 4 := rfl
structure ShR (W : World) (a : Option Addr) (n c : Nat) (zs : List Shz) : Prop where
  row : Sl W a n c 4 (fl shc zs)
  each : ∀ z ∈ zs, Sl W z.1.1 z.1.2.1 z.1.2.2 2 (fl lkc z.2.1)
theorem ShR.len {W : World} {a : Option Addr} {n c : Nat} {zs : List Shz} (h : ShR W a n c zs) : zs.length = n := h.row.flen shc_len (by decide)
theorem ShR.mono {W W' : World} {a : Option Addr} {n c : Nat} {zs : List Shz} (h : ShR W a n c zs) (hb : Below W.heap.size W W') : ShR W' a n c zs := ⟨h.row.mono hb, fun z hz => (h.each z hz).mono hb⟩
theorem ShR.at {W : World} {a : Option Addr} {n c : Nat} {zs : List Shz} (h : ShR W a n c zs) {i : Nat} (hi : i < n) :
    Sl W (zs.getD i shz0).1.1 (zs.getD i shz0).1.2.1 (zs.getD i shz0).1.2.2 2 (fl lkc (zs.getD i shz0).2.1) :=
  h.each _ (by rw [getD_el (by rw [h.len]; exact hi)]; exact List.getElem_mem _)
def shps (zs : List Shz) : List Shp := zs.map (·.2)
theorem shps_get {zs : List Shz} {i : Nat} (hi : i < zs.length) : (shps zs).getD i shp0 = (zs.getD i shz0).2 := by
  rw [getD_el (by simpa [shps] using hi), getD_el hi]; simp [shps]
theorem tag_any (x : Int) (w : World) : Calls Tryz.prog 51 #[.int .i64 x] w fun e w' => e = .returned (.bool (tagB x)) ∧ Below w.heap.size w w' := by
  have hP := fun W => put_any x 2 2 W
  have hk : putOk x 2 2 = tagB x := by unfold putOk tagB topS; simp
  rw [hk] at hP
  generalize tagB x = b at *
  have hP' := Lib.hid hP
  clear hP
  go_enter Tryz.func51, Tryz.ntmps51
  go_wp2_with fail
  refine (hP'.out _).mono ?_
  rintro e w1 ⟨a1, m1, c1, rfl, ho1, hb1⟩
  clear ho1
  have hb1' := Lib.hid hb1
  clear hb1
  go_wp2_with fail
  go_ret
  exact ⟨rfl, hb1'.out⟩
theorem later_any (a : Option Addr) (n c i : Nat) (x : Int) (w : World) : Calls Tryz.prog 52 #[.slice a n c, .int .i64 i, .int .i64 x] w fun e w' => e = .returned (.bool (lateB n i x)) ∧ w = w' := by
  unfold lateB
  by_cases h : (i : Int) < x
  · simp only [h, decide_true, Bool.true_and]
    go_enter Tryz.func52, Tryz.ntmps52
    go_wp2
    go_ret
    exact ⟨rfl, rfl⟩
  · simp only [h, decide_false, Bool.false_and]
    go_enter Tryz.func52, Tryz.ntmps52
    go_wp2
    go_ret
    exact ⟨rfl, rfl⟩
end Go.Proofs.YtilennmeiaehnaaGreat

namespace Go.Proofs.YtilennmeiaehnaaGreat
open Go.RowKit Tt
set_option linter.unusedVariables false
set_option linter.unusedSimpArgs false

abbrev Tgs := Int × Int × Int × List Int
/-- a spot: what, dir, tag, at, long -/
abbrev Spt := Int × Int × Int × Int × Int
structure St where
  spots : List Spt
  no : Int
  soiled : Int
def inSpot (k : Int) (x : Spt) : Bool := decide (x.2.2.2.1 ≤ k) && decide (k < x.2.2.2.1 + x.2.2.2.2)
def takenB (s : St) (k : Int) : Bool := s.spots.any (inSpot k)
def freeB (s : St) (at_ : Int) (long : Nat) : Bool := (List.range long).all fun i => !takenB s (at_ + i)
def fitB (n : Nat) (x : Spt) : Bool := decide (x.2.2.2.1 % 2 = 0) && roomB x.2.2.2.1 x.2.2.2.2 n
def takeS (n : Nat) (x : Spt) (s : St) : Except Int St :=
  if fitB n x = true then if freeB s x.2.2.2.1 x.2.2.2.2.toNat = true then .ok { s with spots := s.spots ++ [x] } else .error 5 else .error 4
def entsS (z : List Int) (o p : Int) (k : Nat) : List Ent := (List.range k).map fun (i : Nat) => entAt z o (p + 2 + 12 * (i : Int))
def risesE : List Ent → Bool
  | x :: y :: r => decide (x.1 < y.1) && risesE (y :: r)
  | _ => true
def entriesS (z : List Int) (o p no : Int) (s : St) : Except Int (List Ent × St) :=
  if (decide (p % 2 = 0) && roomB p 2 z.length) = true then
    if 0 < getV z p 2 o then
      match takeS z.length (2, no, 0, p, 6 + 12 * getV z p 2 o) s with
      | .error e => .error e
      | .ok s' => if risesE (entsS z o p (getV z p 2 o).toNat) = true then .ok (entsS z o p (getV z p 2 o).toNat, s') else .error 2
    else .error 2
  else .error 4
def valueS (z : List Int) (o : Int) (x : Ent) (no : Int) (s : St) : Except Int (Tgs × St) :=
  if 0 < (kindS x.2.1).1 ∧ 1 ≤ x.2.2.1 ∧ x.2.2.1 ≤ 65536 then
    if 0 < outS x.2.1 x.2.2.1 then
      match takeS z.length (3, no, x.1, x.2.2.2, outS x.2.1 x.2.2.1) s with
      | .error e => .error e
      | .ok s' => match ofS x.2.1 x.2.2.1 (z.drop x.2.2.2.toNat) o with
        | none => .error 6
        | some d => .ok ((x.1, x.2.1, x.2.2.1, d), s')
    else match inS x o with
      | none => .error 6
      | some d => .ok ((x.1, x.2.1, x.2.2.1, d.1), { s with soiled := if d.2 = true then s.soiled else IntKind.i64.wrap (s.soiled + 1) })
  else .error 6
def linkP (s : Shp) (t : Int) : Bool := s.1.any fun y => y.1 == t
def pairP (s : Shp) (t : Int) : Bool := decide (0 < s.2.1) && (decide (t = s.2.1) || decide (t = s.2.2.1))
def ownP (s : Shp) (t : Int) : Bool := linkP s t || pairP s t
/-- one more entry: a value, or one of the shape's own -/
def stepT (z : List Int) (o : Int) (sh : Shp) (no : Int) (acc : List Tgs × St) (x : Ent) : Except Int (List Tgs × St) :=
  if ownP sh x.1 = true then (if x.2.1 = 4 ∧ x.2.2.1 = 1 then .ok acc else .error 6)
  else match valueS z o x no acc.2 with
    | .error e => .error e
    | .ok (v, s') => .ok (acc.1 ++ [v], s')
/-- directories, so deep -/
def DirT : Nat → Type
  | 0 => Unit
  | f + 1 => List Tgs × List (Int × DirT f) × List Int
/-- one more entry: a directory within, if it is a link -/
def stepD {f : Nat} (rec : Int → Int → St → Except Int ((DirT f × Int) × St)) (sh : Shp) (acc : List (Int × DirT f) × St) (x : Ent) : Except Int (List (Int × DirT f) × St) :=
  if linkP sh x.1 = true then
    match rec x.2.2.2 (sh.1.getD (fst (fun y => y.1 == x.1) sh.1).toNat (0, 0)).2 acc.2 with
    | .error e => .error e
    | .ok ((d, next), s') => if next = 0 then .ok (acc.1 ++ [(x.1, d)], s') else .error 2
  else .ok acc
def loopS {α σ : Type} (step : σ → α → Except Int σ) : List α → σ → Except Int σ
  | [], s => .ok s
  | x :: r, s => match step s x with
    | .error e => .error e
    | .ok s' => loopS step r s'
def blobS (z : List Int) (sh : Shp) (l : List Ent) (no : Int) (s : St) : Except Int (List Int × St) :=
  match l.filter (fun x => !linkP sh x.1 && pairP sh x.1) with
  | [x, y] => if 0 < y.2.2.2 then
      match takeS z.length (4, no, 0, x.2.2.2, y.2.2.2) s with
      | .error e => .error e
      | .ok s' => .ok ((z.drop x.2.2.2.toNat).take y.2.2.2.toNat, s')
    else .error 6
  | _ => .ok ([], s)
def dirS (z : List Int) (o : Int) (L : List Shp) : (f : Nat) → Int → Int → St → Except Int ((DirT f × Int) × St)
  | 0, _, _, _ => .error 2
  | f + 1, p, sh, s =>
    match entriesS z o p s.no { s with no := IntKind.i64.wrap (s.no + 1) } with
    | .error e => .error e
    | .ok (l, s1) =>
      match loopS (stepT z o (L.getD sh.toNat shp0) s.no) l ([], s1) with
      | .error e => .error e
      | .ok (tags, s2) =>
        if (l.filter (fun x => !linkP (L.getD sh.toNat shp0) x.1 && pairP (L.getD sh.toNat shp0) x.1)).length = 1 then .error 6 else
        match loopS (stepD (dirS z o L f) (L.getD sh.toNat shp0)) l ([], s2) with
        | .error e => .error e
        | .ok (subs, s3) =>
          match blobS z (L.getD sh.toNat shp0) l s.no s3 with
          | .error e => .error e
          | .ok (blob, s4) => .ok (((tags, subs, blob), getV z (p + 2 + 12 * l.length) 4 o), s4)
def orderS (z : List Int) : Int := if z.getD 0 0 = 73 ∧ z.getD 1 0 = 73 then 1 else if z.getD 0 0 = 77 ∧ z.getD 1 0 = 77 then 2 else 0
def headS (z : List Int) : Except Int St :=
  if 8 ≤ z.length then
    if 0 < orderS z ∧ getV z 2 2 (orderS z) = 42 then takeS z.length (1, -1, 0, 0, 8) ⟨[], 0, 0⟩ else .error 2
  else .error 3
end Go.Proofs.YtilennmeiaehnaaGreat
