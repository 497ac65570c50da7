/- Chapter 3: bits.plain, Stuff. | Chapter 14: bytes taken one behind the other: the program's reader. | Chapter 3: the reader of bits: New, Left, Take. | Chapter 3: the reader of bits: New, what is no more taken, Filled. | Maps as lists of entries: of whatever program, key and element. -/
import Derived.Test.YtpjopeojeglogaaCs05
import Derived.Maps.Keyed
import Derived.WideKeyEntry
import Derived.Deep.RegionLaw
import Derived.Deep.CutRange
import Derived.Deep.Cut
import Derived.BigRegion
import Derived.Lib.SliceRun
import Derived.Test.YtpjopeojeglogaaCs00
namespace Go.Proofs.Ytpjopeojeglogaa
open Go.RowKit Tt
set_option linter.unusedVariables false
set_option linter.unusedSimpArgs false

set_option maxRecDepth 20000 in
set_option maxHeartbeats 1000000 in
theorem plain_any (a : Option Addr) (n c : Nat) (z : List Int) (w : World) (hs : Sl w a n c 1 (ints .u8 z)) (hn : n ≤ 1000000) :
    Calls Try.prog 141 #[.slice a n c] w fun e w' => ∃ a2 m c2, e = .returned (.tuple #[.slice a2 m c2, .int .i64 ((plainS z).2 : Nat)]) ∧ m = (plainS z).1.length ∧ w'.ownsRow w.heap.size 5 1 (.slice a2 m c2) m (ints .u8 (plainS z).1) ∧ Below w.heap.size w w' := by
  obtain ⟨i0, hi, hz0, hz1, hz2⟩ := info_parts info8; have hl := hs.ilen; have hs' := Lib.hid hs; have hl' := Lib.hid hl; clear hs hl
  go_enter Try.func141, Try.ntmps141
  go_wp2
  go_loopw [2, 3] (fun ov uv wr => ∃ (u m : Nat) (a2 : Option Addr) (c2 : Nat) (o : List Int), u ≤ n ∧ m ≤ u ∧ uv = .int .i64 u ∧ ov = .slice a2 m c2 ∧ Hid (wr.ownsRow w.heap.size 5 1 (.slice a2 m c2) m (ints .u8 o)) ∧ Hid ((plainS z).1 = o ++ (plainS (z.drop u)).1) ∧ Hid ((plainS z).2 = u + (plainS (z.drop u)).2) ∧ Hid (Below w.heap.size w wr)) (fun _ uv _ => n - (intOf uv).toNat)
  case atStart => exact ⟨0, 0, none, 0, [], by omega, by omega, rfl, rfl, Lib.hid (own_nil _ _ _ _), Lib.hid (by simp), Lib.hid (by simp), Lib.hid (Below.refl _ _)⟩
  case round =>
    obtain ⟨u, m, a2, c2, o, hu, hm, rfl, rfl, hown, h1, h2, hbel⟩ := hrel
    by_cases hlt : u < n
    · obtain ⟨bb, of, rfl, hbb, f⟩ := (hs'.out.mono hbel.out).at hlt
      have f0 := f u _ (ints_get (by rw [hl'.out]; exact hlt)); have hsz := hbel.out.size
      by_cases hc : z.getD u 0 = 255
      · rw [hc] at f0
        by_cases he : u + 1 = n
        · have hend := plainS_end (z := z) (k := u) (by rw [hl'.out]; exact hlt) hc (.inl (by rw [hl'.out]; exact he))
          have hw : IntKind.i64.wrap ((u : Int) + 1) = n := by rw [IntKind.wrap_i64]; omega
          have h1o := h1.out; have h2o := h2.out; rw [hend, List.append_nil] at h1o; rw [hend, Nat.add_zero] at h2o; have hm := (Sl.of_own hown.out).1.ilen; clear f; have hc' := Lib.hid hc; have hend' := Lib.hid hend; have hsz' := Lib.hid hsz; have h1o' := Lib.hid h1o; have h2o' := Lib.hid h2o; have hm' := Lib.hid hm; clear hc hend hsz h1o h2o hm
          go_wp2
          go_ret2
          exact ⟨a2, m, c2, by simp only [h2o'.out]; rfl, by rw [h1o'.out, hm'.out], by rw [h1o'.out]; exact hown.out, hbel.out⟩
        · have f1 := f (u + 1) _ (ints_get (by rw [hl'.out]; omega))
          have hd : ((u : Int) + 1 == (n : Int)) = false := by simp; omega
          have hw : IntKind.i64.wrap ((u : Int) + 1) = (u : Int) + 1 := by rw [IntKind.wrap_i64]; omega
          have hlt1 : u + 1 < n := by omega
          by_cases hz : z.getD (u + 1) 0 = 0
          · have hend := plainS_two (z := z) (k := u) (by rw [hl'.out]; omega) hc hz
            rw [hz] at f1; have h1o := h1.out; have h2o := h2.out; rw [hend] at h1o h2o; clear f; have hc' := Lib.hid hc; have hend' := Lib.hid hend; have hsz' := Lib.hid hsz; have h1o' := Lib.hid h1o; have h2o' := Lib.hid h2o; have he' := Lib.hid he; clear hc hend hsz h1o h2o he
            go_wp2_with (at_builtin; refine wpList_app_lit rfl _ _ 30 rfl w.heap.size 5 i0 _ 1 1 Try.underlying30 hi hz0 hz1 hz2 rfl (by decide) _ m _ rfl hown.out #[.int .u8 255] rfl rfl (by simp [Value.oneCell']) (by omega) (by decide) w hbel.out hsz'.out ?_; intro a5 c5 w5 ho5 hb5; have Ho5 := Lib.hid ho5; have Hb5 := Lib.hid hb5; clear ho5 hb5)
            go_roundw
            case rel => exact ⟨u + 2, m + 1, a5, c5, o ++ [255], by omega, by omega, by go_num, rfl, Lib.hid (ints_append (k := .u8) ▸ Ho5.out), Lib.hid (by rw [h1o'.out, List.append_assoc]; rfl), Lib.hid (by rw [h2o'.out]; omega), Hb5⟩
            case measure => simp [intOf]; omega
          · have hend := plainS_end (z := z) (k := u) (by rw [hl'.out]; exact hlt) hc (.inr hz)
            have hzd : (z.getD (u + 1) 0 != 0) = true := by simpa using hz
            obtain ⟨x1, hx1⟩ : ∃ x, z.getD (u + 1) 0 = x := ⟨_, rfl⟩; rw [hx1] at f1 hzd; have h1o := h1.out; have h2o := h2.out; rw [hend, List.append_nil] at h1o; rw [hend, Nat.add_zero] at h2o; have hm := (Sl.of_own hown.out).1.ilen; clear f hz; have hc' := Lib.hid hc; have hend' := Lib.hid hend; have hsz' := Lib.hid hsz; have h1o' := Lib.hid h1o; have h2o' := Lib.hid h2o; have hm' := Lib.hid hm; have hx1' := Lib.hid hx1; have he' := Lib.hid he; clear hc hend hsz h1o h2o hm hx1 he
            go_wp2
            go_ret2
            exact ⟨a2, m, c2, by simp only [h2o'.out]; rfl, by rw [h1o'.out, hm'.out], by rw [h1o'.out]; exact hown.out, hbel.out⟩
      · have hend := plainS_one (z := z) (k := u) (by rw [hl'.out]; exact hlt) hc
        have hcd : (z.getD u 0 != 255) = true := by simpa using hc
        obtain ⟨x0, hx0⟩ : ∃ x, z.getD u 0 = x := ⟨_, rfl⟩; rw [hx0] at f0 hcd hend; have h1o := h1.out; have h2o := h2.out; rw [hend] at h1o h2o; clear f hc; have hend' := Lib.hid hend; have hsz' := Lib.hid hsz; have h1o' := Lib.hid h1o; have h2o' := Lib.hid h2o; have hx0' := Lib.hid hx0; clear hend hsz h1o h2o hx0
        go_wp2_with (at_builtin; refine wpList_app_lit rfl _ _ 30 rfl w.heap.size 5 i0 _ 1 1 Try.underlying30 hi hz0 hz1 hz2 rfl (by decide) _ m _ rfl hown.out #[.int .u8 x0] rfl rfl (by simp [Value.oneCell']) (by omega) (by decide) w hbel.out hsz'.out ?_; intro a5 c5 w5 ho5 hb5; have Ho5 := Lib.hid ho5; have Hb5 := Lib.hid hb5; clear ho5 hb5)
        go_roundw
        case rel => exact ⟨u + 1, m + 1, a5, c5, o ++ [x0], by omega, by omega, by go_num, rfl, Lib.hid (ints_append (k := .u8) ▸ Ho5.out), Lib.hid (by rw [h1o'.out, List.append_assoc]; rfl), Lib.hid (by rw [h2o'.out]; omega), Hb5⟩
        case measure => simp [intOf]; omega
    · obtain rfl : u = n := by omega
      have hend := plainS_nil (z := z) (k := u) (Nat.le_of_eq hl'.out); have h1o := h1.out; have h2o := h2.out; rw [hend, List.append_nil] at h1o; rw [hend, Nat.add_zero] at h2o; have hm := (Sl.of_own hown.out).1.ilen; have hend' := Lib.hid hend; have h1o' := Lib.hid h1o; have h2o' := Lib.hid h2o; have hm' := Lib.hid hm; clear hend h1o h2o hm
      go_wp2
      go_ret2
      exact ⟨a2, m, c2, by simp only [h2o'.out]; rfl, by rw [h1o'.out, hm'.out], by rw [h1o'.out]; exact hown.out, hbel.out⟩
end Go.Proofs.Ytpjopeojeglogaa

namespace Tt
open Go Go.RowKit
set_option linter.unusedVariables false
set_option linter.unusedSimpArgs false
theorem fold_set (off : Nat) : ∀ (l : List Value) (k : Nat) (cs : Array Value), off + k + l.length ≤ cs.size →
    ((l.zipIdx k).foldl (fun cs (p : Value × Nat) => cs.setIfInBounds (off + p.2) p.1) cs).toList = cs.toList.take (off + k) ++ l ++ cs.toList.drop (off + k + l.length)
  | [], k, cs, h => by simp
  | x :: l, k, cs, h => by
    have hl : off + (k + 1) + l.length ≤ (cs.setIfInBounds (off + k) x).size := by simp at h ⊢; omega
    have ih := fold_set off l (k + 1) (cs.setIfInBounds (off + k) x) hl; simp only [List.zipIdx_cons, List.foldl_cons]; rw [ih]; have hk : off + k < cs.size := by simp at h; omega
    rw [Array.toList_setIfInBounds]
    apply List.ext_getElem?
    intro i; simp only [List.getElem?_append, List.length_append, List.length_take, List.length_set, Array.length_toList, List.length_cons, List.getElem?_take, List.getElem?_drop, List.getElem?_set]; have e1 : min (off + (k + 1)) cs.size = off + k + 1 := by omega
    have e2 : min (off + k) cs.size = off + k := by omega
    rw [e1, e2]
    by_cases c1 : i < off + k
    · simp [c1, show i < off + k + 1 by omega, show i < off + (k + 1) by omega, show i < off + k + 1 + l.length by omega, show i < off + k + (l.length + 1) by omega, show off + k ≠ i by omega]
    · by_cases c2 : i = off + k
      · subst c2
        simp [hk, show off + k < off + (k + 1) by omega, show off + k < off + k + 1 + l.length by omega]
      · by_cases c3 : i < off + k + 1 + l.length
        · have : i - (off + k) = (i - (off + k + 1)) + 1 := by omega
          simp [c1, c3, show ¬ i < off + k + 1 by omega, show i < off + k + (l.length + 1) by omega, this]
        · simp [c3, show ¬ i < off + k + (l.length + 1) by omega, show off + (k + 1) + l.length + (i - (off + k + 1 + l.length)) = off + k + (l.length + 1) + (i - (off + k + (l.length + 1))) by omega]
          intro hh
          omega
section
variable {P : Program} {ops : Array Oper} {rest : List Oper} {o : Oper} {a : Act} {w : World} {Q : Exit → Act → World → Prop}
end
end Tt
namespace Go.Proofs.Ytpjopeojeglogaa
open Go.RowKit Tt
set_option linter.unusedVariables false
set_option linter.unusedSimpArgs false
theorem sizeU8 (w : World) : (Go.sizeOf 5).run Try.prog w = .ok 1 w := by kernel_rfl
end Go.Proofs.Ytpjopeojeglogaa

namespace Go.Proofs.Ytpjopeojeglogaa
open Go.RowKit Tt
set_option linter.unusedVariables false
set_option linter.unusedSimpArgs false

/-- what stands behind the pointer of a reader of bits: the data, and how many bits were taken -/
structure Rb (w : World) (rb : Nat) (a : Option Addr) (n c : Nat) (D : List Int) (at' : Nat) : Prop where
  blk : Blk w rb 203 #[.slice a n c, .int .i64 at']
  sl : Sl w a n c 1 (ints .u8 D)
  ne : ∀ x, a = some x → x.block ≠ rb
  le : at' ≤ 8 * n
  n1 : n ≤ 1000000
  byt : Byt D
  lt : ∀ x, a = some x → x.block < w.heap.size
theorem Rb.qt {w w' : World} {rb : Nat} {a : Option Addr} {n c : Nat} {D : List Int} {i : Nat} (h : Rb w rb a n c D i) (q : Qt w w') : Rb w' rb a n c D i :=
  ⟨h.blk.late (q.below _), h.sl.qt q, h.ne, h.le, h.n1, h.byt, fun x hx => Nat.lt_of_lt_of_le (h.lt x hx) (q.below w.heap.size).size⟩
theorem Rb.later {w w' : World} {rb : Nat} {a : Option Addr} {n c : Nat} {D : List Int} {i : Nat} (h : Rb w rb a n c D i) (q : Below w.heap.size w w') : Rb w' rb a n c D i :=
  ⟨h.blk.late q, h.sl.mono q, h.ne, h.le, h.n1, h.byt, fun x hx => Nat.lt_of_lt_of_le (h.lt x hx) q.size⟩
theorem Rb.set {w : World} {rb : Nat} {a : Option Addr} {n c : Nat} {D : List Int} {i : Nat} (h : Rb w rb a n c D i) (j : Nat) (hj : j ≤ 8 * n) : Rb (w.setCell ⟨rb, 1, none⟩ (.int .i64 j)) rb a n c D j :=
  ⟨h.blk.set 1 _, h.sl.but ((But.refl rb w).set 1 _) h.ne, h.ne, hj, h.n1, h.byt, fun x hx => by have := h.lt x hx; simpa using this⟩
theorem left_any (rb : Nat) (a : Option Addr) (n c : Nat) (D : List Int) (i : Nat) (w : World) (h : Rb w rb a n c D i) :
    Calls Try.prog 83 #[.pointer (some ⟨rb, 0, none⟩)] w fun e w' => e = .returned (.int .i64 (8 * n - i : Nat)) ∧ Qt w w' := by
  have c0 : w.cell? ⟨rb, 0, none⟩ = some (.slice a n c) := h.blk.cell rfl; have c1 : w.cell? ⟨rb, 1, none⟩ = some (.int .i64 i) := h.blk.cell rfl; have hle := h.le; have hn := h.n1; clear h
  go_enter Try.func83, Try.ntmps83
  go_wp2
  go_quiet (fail)
  go_wp2
  go_ret
  exact ⟨ret_int (by omega), (Qt.refl _).step _⟩
theorem and7 (i : Nat) (h : i < 9223372036854775808) : bits .and .i64 (i : Int) 7 = ((i % 8 : Nat) : Int) := by
  rw [show (7 : Int) = ((7 : Nat) : Int) from rfl, and_i64 i 7 h (by decide), show (7 : Nat) = 2 ^ 3 - 1 from rfl, Nat.and_two_pow_sub_one_eq_mod]
set_option maxRecDepth 20000 in
set_option maxHeartbeats 1000000 in
theorem rtake_ok (rb : Nat) (a : Option Addr) (n c : Nat) (D : List Int) (i k : Nat) (w : World) (h : Rb w rb a n c D i) (hk : k ≤ 16) (hi : i + k ≤ 8 * n) :
    Calls Try.prog 142 #[.pointer (some ⟨rb, 0, none⟩), .int .i64 k] w fun e w' => e = .returned (.tuple #[.int .i64 (numA D i k), .bool true]) ∧ Rb w' rb a n c D (i + k) ∧ But rb w w' := by
  have hn := h.n1; have hL := left_any rb a n c D i w h; have d1 : decide ((k : Int) < 0) = false := by simp
  have d2 : decide ((16 : Int) < k) = false := by simp; omega
  have d3 : decide ((8 * n - i : Nat) < k) = false := by simp; omega
  obtain ⟨L, hLe⟩ : ∃ L : Nat, 8 * n - i = L := ⟨_, rfl⟩; rw [hLe] at hL d3; have h' := Lib.hid h; have hL' := Lib.hid hL; have hi' := Lib.hid hi; have hLe' := Lib.hid hLe; clear h hL hi hLe
  go_enter Try.func142, Try.ntmps142
  go_wp2_with fail
  refine (hL'.out).mono ?_; rintro e w1 ⟨rfl, hq⟩; have hR : Rb w1 rb a n c D i := h'.out.qt hq; have hb1 : But rb w w1 := (But.refl _ _).qt hq; clear hq; have hR' := Lib.hid hR; have hb1' := Lib.hid hb1; clear hR hb1
  go_wp2
  go_loopw [6, 24] (fun vv iv wr => ∃ j : Nat, j ≤ k ∧ iv = .int .i64 j ∧ vv = .int .i64 (numA D i j) ∧ Hid (Rb wr rb a n c D (i + j)) ∧ Hid (But rb w wr)) (fun _ iv _ => k - (intOf iv).toNat)
  case atStart => exact ⟨0, by omega, rfl, rfl, hR', hb1'⟩
  case round =>
    obtain ⟨j, hj, rfl, rfl, hr, hb⟩ := hrel
    by_cases hlt : j < k
    · have c0 := hr.out.blk.cell (i := 0) rfl
      have c1 := hr.out.blk.cell (i := 1) rfl; have q1 := hr.out.blk.frozen 1; have hij : i + j < 8 * n := by have := hi'.out; omega
      have hi2 : i + j ≤ 8000000 := by omega
      obtain ⟨q, hq⟩ : ∃ q, i + j = q := ⟨_, rfl⟩; rw [hq] at c1 hij hi2; obtain ⟨bb, of, rfl, hbb, f⟩ := hr.out.sl.at (show q / 8 < n by omega); have f0 := f (q / 8) _ (ints_get (by rw [hr.out.sl.ilen]; omega)); have h7 := and7 q (by omega); clear f
      go_wp2
      go_quiet (fail)
      go_wp2
      go_roundw
      case rel => exact ⟨j + 1, by omega, by go_num, by rw [← hq, numA_step hr.out.byt i j (by omega)], Lib.hid (by have := (hr.out.qt ⟨nq, rfl⟩).set (q + 1) (by omega); rw [show i + (j + 1) = q + 1 by omega]; exact this), Lib.hid ((hb.out.qt ⟨nq, rfl⟩).set 1 _)⟩
      case measure => simp [intOf]; omega
    · obtain rfl : j = k := by omega
      go_wp2
      go_ret2
      exact ⟨rfl, hr.out, hb.out⟩
end Go.Proofs.Ytpjopeojeglogaa

namespace Go.Proofs.Ytpjopeojeglogaa
open Go.RowKit Tt
set_option linter.unusedVariables false
set_option linter.unusedSimpArgs false

theorem rtake_no (rb : Nat) (a : Option Addr) (n c : Nat) (D : List Int) (i k : Nat) (w : World) (h : Rb w rb a n c D i) (hk : k ≤ 16) (hi : 8 * n < i + k) :
    Calls Try.prog 142 #[.pointer (some ⟨rb, 0, none⟩), .int .i64 k] w fun e w' => e = .returned (.tuple #[.int .i64 0, .bool false]) ∧ Qt w w' := by
  have hL := left_any rb a n c D i w h; have d1 : decide ((k : Int) < 0) = false := by simp
  have d2 : decide ((16 : Int) < k) = false := by simp; omega
  have hle := h.le; have d3 : decide ((8 * n - i : Nat) < k) = true := by simp; omega
  obtain ⟨L, hLe⟩ : ∃ L : Nat, 8 * n - i = L := ⟨_, rfl⟩; rw [hLe] at hL d3; have h' := Lib.hid h; have hL' := Lib.hid hL; have hi' := Lib.hid hi; have hLe' := Lib.hid hLe; clear h hL hi hLe
  go_enter Try.func142, Try.ntmps142
  go_wp2_with fail
  refine (hL'.out).mono ?_; rintro e w1 ⟨rfl, hq⟩; have hq' := Lib.hid hq; clear hq
  go_wp2
  go_ret2
  exact ⟨rfl, hq'.out⟩
/-- are fewer than 8 bits left, all of them 1? -/
def filledS (D : List Int) (i m : Nat) : Bool := decide (m - i < 8) && (List.range (m - i)).all fun j => decide (bitA D (i + j) ≠ 0)
set_option maxRecDepth 20000 in
set_option maxHeartbeats 1000000 in
theorem filled_any (rb : Nat) (a : Option Addr) (n c : Nat) (D : List Int) (i : Nat) (w : World) (h : Rb w rb a n c D i) :
    Calls Try.prog 87 #[.pointer (some ⟨rb, 0, none⟩)] w fun e w' => e = .returned (.bool (filledS D i (8 * n))) ∧ Qt w w' := by
  have hn := h.n1; have hL := left_any rb a n c D i w h; obtain ⟨L, hLe⟩ : ∃ L : Nat, 8 * n - i = L := ⟨_, rfl⟩; rw [hLe] at hL
  by_cases h8 : 8 ≤ L
  · have d3 : decide (8 ≤ L) = true := by simp; omega
    have d4 : decide ((8 : Int) ≤ L) = true := by simp; omega
    have hf : filledS D i (8 * n) = false := by unfold filledS; rw [decide_eq_false (by omega)]; rfl
    have h' := Lib.hid h; have hL' := Lib.hid hL; have hLe' := Lib.hid hLe; have h8' := Lib.hid h8; have hf' := Lib.hid hf; clear h hL hLe h8 hf
    go_enter Try.func87, Try.ntmps87
    go_wp2_with fail
    refine (hL'.out).mono ?_; rintro e w1 ⟨rfl, hq⟩; have hq' := Lib.hid hq; clear hq
    go_wp2
    go_ret
    exact ⟨ret_bool hf'.out.symm, hq'.out⟩
  · have d3 : decide (8 ≤ L) = false := by simp; omega
    have d4 : decide ((8 : Int) ≤ L) = false := by simp; omega
    have hi := h.le; have h' := Lib.hid h; have hL' := Lib.hid hL; have hLe' := Lib.hid hLe; clear h hL hLe
    go_enter Try.func87, Try.ntmps87
    go_wp2_with fail
    refine (hL'.out).mono ?_; rintro e w1 ⟨rfl, hq⟩; have c1 := (h'.out.qt hq).blk.cell (i := 1) rfl; have hq' := Lib.hid hq; clear hq
    go_wp2
    go_loopw [3] (fun kv wr => ∃ k : Nat, i ≤ k ∧ k ≤ 8 * n ∧ kv = .int .i64 k ∧ Hid (∀ j, j < k - i → bitA D (i + j) ≠ 0) ∧ Hid (Qt w wr)) (fun kv _ => 8 * n - (intOf kv).toNat)
    case atStart => exact ⟨i, by omega, hi, rfl, Lib.hid (fun j hj => by omega), hq'⟩
    case round =>
      obtain ⟨k, hik, hk, rfl, hall, hqr⟩ := hrel; have hr := h'.out.qt hqr.out; have c0 := hr.blk.cell (i := 0) rfl
      by_cases hlt : k < 8 * n
      · have hi2 : k ≤ 8000000 := by omega
        obtain ⟨bb, of, rfl, hbb, f⟩ := hr.sl.at (show k / 8 < n by omega); have f0 := f (k / 8) _ (ints_get (by rw [hr.sl.ilen]; omega)); have h7 := and7 k (by omega); have hg := hr.byt.get (k / 8); have hd := div_byte hg.1 hg.2 (7 - k % 8); have hv := and1_u8 hd.1 hd.2; have he : bits .and .u8 (D.getD (k / 8) 0 / 2 ^ (7 - k % 8)) 1 = bitA D k := hv; rw [List.getD_eq_getElem?_getD] at he f0; clear f hg hd hv hr; have hw : IntKind.i64.wrap ((k : Int) + 1) = k + 1 := by rw [IntKind.wrap_i64]; omega
        by_cases hb : bitA D k = 0
        · have hc : (bits .and .u8 (D[k / 8]?.getD 0 / 2 ^ (7 - k % 8)) 1 == 0) = true := by rw [he, hb]; rfl
          have hf : filledS D i (8 * n) = false := by
            unfold filledS; rw [Bool.and_eq_false_iff]
            right
            rw [List.all_eq_false]; refine ⟨k - i, by simp; omega, ?_⟩; rw [show i + (k - i) = k by omega, hb]
            simp
          clear he hb; have hf' := Lib.hid hf; clear hf
          go_wp2
          go_ret
          exact ⟨ret_bool hf'.out.symm, hqr.out⟩
        · have hc : (bits .and .u8 (D[k / 8]?.getD 0 / 2 ^ (7 - k % 8)) 1 == 0) = false := by rw [he]; simpa using hb
          have hall2 : ∀ j, j < (k + 1) - i → bitA D (i + j) ≠ 0 := fun j hj => by
            rcases Nat.lt_or_ge j (k - i) with h1 | h1
            · exact hall.out j h1
            · rw [show i + j = k by omega]; exact hb
          clear he hb; have hall2' := Lib.hid hall2; clear hall2
          go_wp2
          go_roundw
          case rel => exact ⟨k + 1, by omega, by omega, by go_num, hall2', hqr⟩
          case measure => simp [intOf]; omega
      · obtain rfl : k = 8 * n := by omega
        have hf : filledS D i (8 * n) = true := by
          unfold filledS; rw [Bool.and_eq_true, decide_eq_true_eq, List.all_eq_true]; refine ⟨by have := hLe'.out; omega, fun j hj => ?_⟩; rw [decide_eq_true_eq]; exact hall.out j (by simpa using hj)
        clear hr; have hf' := Lib.hid hf; clear hf
        go_wp2
        go_ret
        exact ⟨ret_bool hf'.out.symm, hqr.out⟩
end Go.Proofs.Ytpjopeojeglogaa

namespace Tt
open Go Go.RowKit
set_option linter.unusedVariables false
set_option linter.unusedSimpArgs false

/-- block b is a map that has the entries l -/
def AM (P : Program) (k : TypeId) (w : World) (b : Nat) (l : List (Value × Value)) : Prop :=
  ∃ (es : Array MapEntry) (clock : Nat), w.heap[b]? = some (.map es clock) ∧ es.toList.map (fun e => (e.key, e.val)) = l ∧ (∀ x ∈ l, ∃ kl, keyOf P k x.1 = some kl) ∧ clock = es.size ∧ ∀ (i : Nat) e, es[i]? = some e → e.born = i
section
variable {P : Program} {k e t : TypeId} {w w' : World} {b : Nat} {l : List (Value × Value)}
theorem AM.lt (h : AM P k w b l) : b < w.heap.size := by
  obtain ⟨es, clock, h1, _⟩ := h; exact (Array.getElem?_eq_some_iff.1 h1).1
theorem AM.same (h : AM P k w b l) (hb : w'.heap[b]? = w.heap[b]?) : AM P k w' b l := by
  obtain ⟨es, clock, h1, h2⟩ := h; exact ⟨es, clock, by rw [hb]; exact h1, h2⟩
theorem AM.late (h : AM P k w b l) (hb : Below w.heap.size w w') : AM P k w' b l := h.same (hb.block b h.lt)
theorem AM.but {g : Nat} (h : AM P k w b l) (hb : But g w w') (hg : b ≠ g) : AM P k w' b l := h.same (hb.block b h.lt hg)
theorem AM.made (P : Program) (k : TypeId) (w : World) : AM P k (w.alloc (.map #[] 0)) w.heap.size [] := ⟨#[], 0, heap_new w _, rfl, fun x hx => (by cases hx), rfl, fun i e he => (by simp at he)⟩
theorem AM.keyed {es : Array MapEntry} (h2 : es.toList.map (fun e => (e.key, e.val)) = l) (h3 : ∀ x ∈ l, ∃ kl, keyOf P k x.1 = some kl) : ∀ e ∈ es.toList, ∃ kl, keyOf P k e.key = some kl := fun e he =>
  h3 (e.key, e.val) (by rw [← h2]; exact List.mem_map.2 ⟨e, he, rfl⟩)
/-- 'v, ok := m[x]' -/
theorem AM.look (K : Maps.Keyed P k) (ht : P.underlying t = some (.map k e)) (h : AM P k w b l) {x z : Value} {kl : Lit} (hx : keyOf P k x = some kl) (hz : (zeroValue e).run P w = .ok z w) :
    ((∀ y ∈ l, y.1 ≠ x) ∧ (Instr.lookup t (.map (some b)) x true).run P w = .ok (.tuple #[z, .bool false]) w) ∨ ∃ v, (x, v) ∈ l ∧ (Instr.lookup t (.map (some b)) x true).run P w = .ok (.tuple #[v, .bool true]) w := by
  obtain ⟨es, clock, h1, h2, h3, h4, h5⟩ := h
  rcases K.find w hx es.toList (AM.keyed h2 h3) with ⟨f1, f2⟩ | ⟨j, en, f1, f2, f3⟩
  · left
    refine ⟨fun y hy he => ?_, by simp [Instr.lookup, run_underlying ht, MapKept.run_getObj_map h1, K.check w _ hx, f1, hz, Result.andThen]⟩; rw [← h2] at hy; obtain ⟨en, hen, rfl⟩ := List.mem_map.1 hy; exact f2 en hen he
  · right
    refine ⟨en.val, ?_, by simp [Instr.lookup, run_underlying ht, MapKept.run_getObj_map h1, K.check w _ hx, f1, Result.andThen]⟩; rw [← h2]; exact List.mem_map.2 ⟨en, List.mem_of_getElem? f2, by rw [f3]⟩
theorem setB_size (w : World) (b : Nat) (o : Obj) : (ChangeMaps.setBlock w b o).heap.size = w.heap.size := by simp [ChangeMaps.setBlock]
theorem setB_but (w : World) (b : Nat) (o : Obj) : But b w (ChangeMaps.setBlock w b o) :=
  ⟨rfl, rfl, rfl, by rw [setB_size]; exact Nat.le_refl _, fun j _ hj => by simp [ChangeMaps.setBlock, Ne.symm hj]⟩
theorem AM.push (h2 : ∀ x ∈ l, ∃ kl, keyOf P k x.1 = some kl) {es : Array MapEntry} {clock : Nat} (h3 : es.toList.map (fun e => (e.key, e.val)) = l) (h4 : clock = es.size) (h5 : ∀ (i : Nat) e, es[i]? = some e → e.born = i) (hb : b < w.heap.size) {x v : Value} {kl : Lit} (hx : keyOf P k x = some kl) :
    AM P k (ChangeMaps.setBlock w b (.map (es.push ⟨x, v, clock⟩) (clock + 1))) b (l ++ [(x, v)]) :=
  ⟨es.push ⟨x, v, clock⟩, clock + 1, by simp [ChangeMaps.setBlock, hb], by rw [← h3]; simp, fun y hy => by
    rcases List.mem_append.1 hy with hy | hy
    · exact h2 y hy
    · obtain rfl : y = (x, v) := by simpa using hy
      exact ⟨kl, hx⟩, by simp [h4], fun i e he => by
    rcases Nat.lt_or_ge i es.size with hi | hi
    · rw [Array.getElem?_push_lt hi] at he
      exact h5 i e (by rw [← he]; simp [hi])
    · have hi2 : i = es.size := by
        have := (Array.getElem?_eq_some_iff.1 he).1
        simp at this
        omega
      subst hi2; rw [Array.getElem?_push_size] at he; have hbn : e.born = clock := congrArg MapEntry.born (Option.some.inj he).symm; exact hbn.trans h4⟩
/-- the entry of a new key -/
theorem AM.entry (K : Maps.Keyed P k) (ht : P.underlying t = some (.map k e)) (h : AM P k w b l) {x z : Value} {kl : Lit} (hx : keyOf P k x = some kl) (hz : (zeroValue e).run P w = .ok z w) (hno : ∀ y ∈ l, y.1 ≠ x) :
    ∃ w', (Instr.mapEntry t (.map (some b)) x).run P w = .ok (.tuple #[z, .int .i64 l.length]) w' ∧ AM P k w' b (l ++ [(x, z)]) ∧ But b w w' ∧ w'.heap.size = w.heap.size := by
  have hlt := h.lt; obtain ⟨es, clock, h1, h2, h3, h4, h5⟩ := h
  have hnone : (Instr.findKey k x es.toList).run P w = .ok none w := by
    rcases K.find w hx es.toList (AM.keyed h2 h3) with ⟨f1, _⟩ | ⟨j, en, _, f2, f3⟩
    · exact f1
    · exact absurd f3 (hno (en.key, en.val) (by rw [← h2]; exact List.mem_map.2 ⟨en, List.mem_of_getElem? f2, rfl⟩))
  have hl : clock = l.length := by rw [← h2, h4]; simp
  have hrun : (Instr.mapEntry t (.map (some b)) x).run P w = .ok (.tuple #[z, .int .i64 l.length]) (ChangeMaps.setBlock w b (.map (es.push ⟨x, z, clock⟩) (clock + 1))) := by
    rw [← hl]
    simp [Instr.mapEntry, run_underlying ht, MapKept.run_getObj_map h1, K.check w false hx, hnone, hz, MapKept.run_setObj_map _ h1, Result.andThen, ChangeMaps.setBlock, goInt]
  exact ⟨_, hrun, AM.push h3 h2 h4 h5 hlt hx, setB_but _ _ _, setB_size _ _ _⟩
/-- what an entry's stamp gets -/
theorem AM.store (h : AM P k w b l) {i : Nat} (hi : i < l.length) (v : Value) :
    ∃ w', (Instr.entryStore t (.map (some b)) (.int .i64 i) v).run P w = .ok () w' ∧ AM P k w' b (l.set i (l[i].1, v)) ∧ But b w w' ∧ w'.heap.size = w.heap.size := by
  have hlt := h.lt; obtain ⟨es, clock, h1, h2, h3, h4, h5⟩ := h; have hsz : es.size = l.length := by rw [← h2]; simp
  have hidx : es.findIdx? (fun e => ((e.born : Nat) : Int) == ((i : Nat) : Int)) = some i := by
    rw [WideElems.findIdx_arr, List.findIdx?_eq_some_iff_getElem]; refine ⟨by simp; omega, ?_, fun j hj => ?_⟩
    · have := h5 i es[i] (by simp [show i < es.size by omega])
      simp [this]
    · have := h5 j es[j] (by simp [show j < es.size by omega])
      simp [this]
      omega
  have hrun : (Instr.entryStore t (.map (some b)) (.int .i64 i) v).run P w = .ok () (ChangeMaps.setBlock w b (.map (es.modify i fun e => { e with val := v }) clock)) := by
    simp [Instr.entryStore, MapKept.run_getObj_map h1, asInt, asIntOf, hidx, MapKept.run_setObj_map _ h1, Result.andThen, ChangeMaps.setBlock]
  have hget : ∀ j e, (es.modify i fun e => { e with val := v })[j]? = some e → ∃ e0, es[j]? = some e0 ∧ e.key = e0.key ∧ e.born = e0.born ∧ e.val = if j = i then v else e0.val := fun j e he => by
    rw [Array.getElem?_modify] at he
    by_cases hj : i = j
    · subst hj
      rw [if_pos rfl] at he; obtain ⟨e0, h0, rfl⟩ := Option.map_eq_some_iff.1 he; exact ⟨e0, h0, rfl, rfl, by rw [if_pos rfl]⟩
    · rw [if_neg hj] at he
      exact ⟨e, he, rfl, rfl, by rw [if_neg (fun h => hj h.symm)]⟩
  refine ⟨_, hrun, ⟨es.modify i fun e => { e with val := v }, clock, by simp [ChangeMaps.setBlock, hlt], ?_, fun y hy => ?_, by simp [h4], fun j e he => ?_⟩, setB_but _ _ _, setB_size _ _ _⟩
  · apply List.ext_getElem (by simp [hsz])
    intro j hj1 hj2; have hj : j < es.size := by simpa using hj1
    have hlj : l[j]'(by omega) = (es[j].key, es[j].val) := by
      simp only [← h2, List.getElem_map, Array.getElem_toList]
    simp only [List.getElem_map, Array.getElem_toList, Array.getElem_modify, List.getElem_set]
    by_cases hji : i = j
    · subst hji
      rw [if_pos rfl, if_pos rfl, hlj]
    · rw [if_neg hji, if_neg hji, hlj]
  · obtain ⟨j, hj, rfl⟩ := List.mem_iff_getElem.1 hy
    rw [List.getElem_set]
    split
    · exact h3 l[i] (List.getElem_mem _)
    · exact h3 _ (List.getElem_mem _)
  · obtain ⟨e0, h0, _, hb, _⟩ := hget j e he
    rw [hb]; exact h5 j e0 h0
end
section
variable {P : Program} {k e t : TypeId} {w : World} {ops : Array Oper} {rest : List Oper} {o : Oper} {a : Act} {Q : Exit → Act → World → Prop} {b : Nat} {l : List (Value × Value)}
theorem wpList_entry_am (K : Maps.Keyed P k) (ht : P.underlying t = some (.map k e)) (hw : Region.wanted o (yielded ops a.tmps) = true) (m x : Operand) (hop : o.op = Op.mapEntry t m x) (hm : a.eval m = .map (some b)) (h : AM P k w b l) (X z : Value) {kl : Lit} (hx : a.eval x = X) (hk : keyOf P k X = some kl) (hz : ∀ W, (zeroValue e).run P W = .ok z W) (hno : ∀ y ∈ l, y.1 ≠ X)
    (hK : ∀ w', AM P k w' b (l ++ [(X, z)]) → But b w w' → w'.heap.size = w.heap.size → wpList P ops Q rest (a.put o.dst (.tuple #[z, .int .i64 l.length])) w') : wpList P ops Q (o :: rest) a w := by
  refine wpList_want hw fun K' hK' => ?_; obtain ⟨w', hrun, r1, r2, r3⟩ := h.entry K ht hk (hz w) hno; unfold Oper.wp
  simp [execOp, hop, hm, hx, hrun, Result.andThen]
  exact hK' _ _ (hK w' r1 r2 r3)
theorem wpList_store_am (hw : Region.wanted o (yielded ops a.tmps) = true) (m s v : Operand) (hop : o.op = Op.entryStore t m s v) (hm : a.eval m = .map (some b)) (h : AM P k w b l) (i : Nat) (V : Value) (hi : i < l.length) (hs : a.eval s = .int .i64 i) (hv : a.eval v = V)
    (hK : ∀ w', AM P k w' b (l.set i (l[i].1, V)) → But b w w' → w'.heap.size = w.heap.size → wpList P ops Q rest (a.put o.dst undef) w') : wpList P ops Q (o :: rest) a w := by
  refine wpList_want hw fun K' hK' => ?_; obtain ⟨w', hrun, r1, r2, r3⟩ := h.store (t := t) hi V; unfold Oper.wp
  simp [execOp, hop, hm, hs, hv, hrun, Result.andThen]
  exact hK' _ _ (hK w' r1 r2 r3)
end
end Tt
