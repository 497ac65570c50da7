/- Chapter 23: text, known: the examples' helpers. -/
import Derived.Test.YtnhcmibngcmebaaReg14
namespace Go.Proofs.Ytnhcmibngcmebaa
open Go.RowKit Tt
set_option linter.unusedVariables false

set_option maxHeartbeats 4000000 in
theorem text_any (tag : Int) (s : ByteArray) (w : World) (hs : s.size ≤ 1000) (hm : mayS 2 (s.size + 1) (strB s ++ [0]) = true) :
    Calls Try.prog 33 #[.int .i64 tag, .string s] w fun e w' => ∃ a' c', e = .returned (.agg #[.int .i64 tag, .int .i64 2, .int .i64 (s.size + 1), .slice a' (s.size + 1) c']) ∧ Sl w' a' (s.size + 1) c' 1 (ints .u8 (strB s ++ [0])) ∧ Below w.heap.size w w' := by
  obtain ⟨W0, hW0⟩ : ∃ W0, W0 = w.alloc (.cells #[.int .i64 0, .int .i64 0, .int .i64 0, .slice none 0 0] 26) := ⟨_, rfl⟩
  have B0 : Blk W0 w.heap.size 26 #[.int .i64 0, .int .i64 0, .int .i64 0, .slice none 0 0] := by rw [hW0]; exact Blk.new _ _ _
  have BW : Below w.heap.size w W0 := by rw [hW0]; exact (Below.refl _ _).alloc (Nat.le_refl _) _
  have HC := Lib.hid (oftext_any s W0 hs hm)
  have B0 := Lib.hid B0
  have BW := Lib.hid BW
  clear hs hm
  go_enter Try.func33, Try.ntmps33
  go_upto_region 1 with fail
  rw [← hW0]
  clear hW0
  go_wp2_with fail
  refine HC.out.mono ?_
  rintro e w3 ⟨a5, c5, rfl, hs3, ha3, hb3⟩
  have S3 := Lib.hid hs3
  have Ha3 := Lib.hid ha3
  have Hb3 := Lib.hid hb3
  clear hs3 ha3 hb3
  obtain ⟨W4, hW4⟩ : ∃ W4, W4 = w3.alloc (.cells #[.int .i64 2, .int .i64 (s.size + 1), .slice a5 (s.size + 1) c5] 24) := ⟨_, rfl⟩
  obtain ⟨g, hg⟩ : ∃ g, g = w3.heap.size := ⟨_, rfl⟩
  have V4 : Blk W4 g 24 #[.int .i64 2, .int .i64 (s.size + 1), .slice a5 (s.size + 1) c5] := by rw [hW4, hg]; exact Blk.new _ _ _
  have Hb34 : Below w3.heap.size w3 W4 := by rw [hW4]; exact (Below.refl _ _).alloc (Nat.le_refl _) _
  have B4 := Lib.hid ((B0.out.late Hb3.out).late Hb34)
  have V4 := Lib.hid V4
  have Hb34 := Lib.hid Hb34
  have y0 : W4.cell? ⟨g, 0, none⟩ = some (.int .i64 2) := V4.out.cell rfl
  have y1 : W4.cell? ⟨g, 1, none⟩ = some (.int .i64 (s.size + 1)) := V4.out.cell rfl
  have y2 : W4.cell? ⟨g, 2, none⟩ = some (.slice a5 (s.size + 1) c5) := V4.out.cell rfl
  have x0 : W4.cell? ⟨w.heap.size, 0, none⟩ = some (.int .i64 0) := B4.out.cell rfl
  have x1 : W4.cell? ⟨w.heap.size, 1, none⟩ = some (.int .i64 0) := B4.out.cell rfl
  have x2 : W4.cell? ⟨w.heap.size, 2, none⟩ = some (.int .i64 0) := B4.out.cell rfl
  have x3 : W4.cell? ⟨w.heap.size, 3, none⟩ = some (.slice none 0 0) := B4.out.cell rfl
  have f0 := B4.out.frozen 0
  have f1 := B4.out.frozen 1
  have f2 := B4.out.frozen 2
  have f3 := B4.out.frozen 3
  go_upto_region 2 with fail
  rw [← hW4, ← hg]
  clear hW4 hg
  go_wp2
  have B6 := B4.out.set4 (.int .i64 tag) (.int .i64 2) (.int .i64 (s.size + 1)) (.slice a5 (s.size + 1) c5)
  refine bodyPost_ret (results_cell_row rfl _ _ w.heap.size 26 #[.int .i64 tag, .int .i64 2, .int .i64 (s.size + 1), .slice a5 (s.size + 1) c5] (0, 0) _ rfl B6 Try.underlying26 rfl (by kernel_rfl)) rfl ?_
  have hBB := BW.out.trans (Hb3.out.mono BW.out.size)
  exact ⟨_, _, rfl, sl_set4 (S3.out.mono Hb34.out) Ha3.out B0.out.lt _ _ _ _, below_set4 (hBB.trans (Hb34.out.mono hBB.size)) (Nat.le_refl _) _ _ _ _⟩

theorem hq_below {B : Nat} {a b : World} (h : Qt a b) : Below B a b := h.below B
def knownB (dir tag count : Int) (types : List Int) : Bool := (max (knownS dir tag).2 0 == count) && (decide (0 ≤ (knownS dir tag).2) == decide (0 < types.length)) && ((knownS dir tag).1 == types)

set_option maxHeartbeats 4000000 in
theorem lknown_any (dir tag count : Int) (a : Option Addr) (n c : Nat) (types : List Int) (w : World) (hd : (Lit.int .i64 dir).wf = true) (ht : (Lit.int .i64 tag).wf = true) (hs : Sl w a n c 1 (ints .i64 types))
    (hk : knownB dir tag count types = true) :
    Calls Try.prog 32 #[.int .i64 dir, .int .i64 tag, .int .i64 count, .slice a n c] w fun e w' => e = .returned (.bool true) ∧ Below w.heap.size w w' := by
  have hl := hs.ilen
  unfold knownB at hk
  simp only [Bool.and_eq_true, beq_iff_eq] at hk
  obtain ⟨⟨hk1, hk2⟩, hk3⟩ := hk
  have HK := Lib.hid (known_any dir tag w hd ht)
  have Hs := Lib.hid hs
  have K1 := Lib.hid hk1
  have K2 := Lib.hid hk2
  have K3 := Lib.hid hk3
  clear hd ht hs hk1 hk2 hk3
  go_enter Try.func32, Try.ntmps32
  go_wp2_with fail
  refine HK.out.mono ?_
  rintro e w1 ⟨a1, n1, c1, rfl, hs1, hb1⟩
  rw [K1.out]
  obtain ⟨kb, hkb⟩ : ∃ kb, decide (0 ≤ (knownS dir tag).2) = kb := ⟨_, rfl⟩
  rw [hkb]
  have hkn : decide ((0 : Int) < (n : Int)) = kb := by rw [← hkb, K2.out, hl]; simp
  have hkn2 : decide (0 < n) = kb := by rw [← hkn]; simp
  have S1 := Lib.hid (K3.out ▸ hs1)
  have Hb1 := Lib.hid hb1
  clear hs1 hb1 hkb
  have hce : (count == count) = true := by simp
  have hbe : (kb == kb) = true := by simp
  go_wp2_with (go_at_call 11; refine (ints_any _ _ _ _ _ _ types types _ S1.out (Hs.out.mono Hb1.out)).mono ?_; rintro e w2 ⟨rfl, hq⟩; have Hq := Lib.hid hq; clear hq)
  go_ret
  exact ⟨rfl, Hb1.out.trans (hq_below Hq.out)⟩
end Go.Proofs.Ytnhcmibngcmebaa
