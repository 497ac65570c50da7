/- Chapter 23: the examples' values: OfNumbers of one byte, OfText. -/
import Derived.Test.YtnhcmibngcmebaaReg13
import Derived.Test.YtnhcmibngcmebaaRef01
import Derived.Test.YtnhcmibngcmebaaL7
import Derived.LoopN
namespace Go.Proofs.Ytnhcmibngcmebaa
open Go.RowKit Tt
set_option linter.unusedVariables false

theorem sign1 (w : World) : Calls Try.prog 76 #[.int .i64 1] w fun e w' => e = .returned (.bool false) ∧ w = w' := by
  go_enter Try.func76, Try.ntmps76
  go_wp2
  go_ret
  exact ⟨rfl, rfl⟩
theorem part1 (w : World) : Calls Try.prog 78 #[.int .i64 1] w fun e w' => e = .returned (.int .i64 1) ∧ w = w' := by
  go_enter Try.func78, Try.ntmps78
  go_wp2_with (go_at_call 52; refine (rsize_any _ _).mono ?_; rintro e w' ⟨rfl, rfl⟩)
  go_ret
  exact ⟨rfl, rfl⟩

theorem put1 (w : World) : Calls Try.prog 79 #[.int .i64 1, .int .i64 1, .int .i64 2] w fun e w' => ∃ a c, e = .returned (.tuple #[.slice a 1 c, .bool true]) ∧ Sl w' a 1 c 1 (ints .u8 [1]) ∧ Below w.heap.size w w' := by
  refine (r1put_any _ _ _ _).mono ?_
  rintro e w' ⟨a, m, c, rfl, ho, hb⟩
  rw [show putS 1 1 2 = [1] by decide] at ho
  have hs := (Sl.of_own ho).1
  obtain rfl : m = 1 := by have := hs.ilen; simpa using this.symm
  exact ⟨a, c, by rw [show putOk 1 1 2 = true by decide], hs, hb⟩

set_option maxRecDepth 20000 in
set_option maxHeartbeats 4000000 in
theorem of1 (a : Option Addr) (c : Nat) (w : World) (hs : Sl w a 1 c 1 (ints .i64 [1])) :
    Calls Try.prog 53 #[.int .i64 1, .slice a 1 c, .int .i64 1] w fun e w' => ∃ a' c', e = .returned (.tuple #[.agg #[.int .i64 1, .int .i64 1, .slice a' 1 c'], .bool true]) ∧ w'.ownsRow w.heap.size 5 1 (.slice a' 1 c') 1 (ints .u8 [1]) ∧ Below w.heap.size w w' := by
  obtain ⟨i0, hi, hz0, hz1, hz2⟩ := info_parts info8
  obtain ⟨b, o, rfl, hbx, cx⟩ := hs.at (i := 0) (by omega)
  have c1 : w.cell? ⟨b, o, none⟩ = some (.int .i64 1) := cx 0 _ rfl
  clear cx
  have Hs := Lib.hid hs
  clear hs
  go_enter Try.func53, Try.ntmps53
  go_wp2
  obtain ⟨W0, hW0⟩ : ∃ W0, W0 = (w.alloc (.cells #[.int .i64 0, .int .i64 0, .slice none 0 0] 24)).alloc (.cells #[.int .i64 1, .int .i64 1, .slice none 0 0] 24) := ⟨_, rfl⟩
  obtain ⟨g, hg⟩ : ∃ g, g = w.heap.size + 1 := ⟨_, rfl⟩
  have B0 : Blk W0 w.heap.size 24 #[.int .i64 0, .int .i64 0, .slice none 0 0] := by rw [hW0]; exact (Blk.new _ _ _).alloc _
  have G0 : Blk W0 g 24 #[.int .i64 1, .int .i64 1, .slice none 0 0] := by rw [hW0, hg]; have := Blk.new (w.alloc (.cells #[.int .i64 0, .int .i64 0, .slice none 0 0] 24)) 24 #[.int .i64 1, .int .i64 1, .slice none 0 0]; simpa using this
  have BW : Below w.heap.size w W0 := by rw [hW0]; exact ((Below.refl _ _).alloc (Nat.le_refl _) _).alloc (by simp) _
  have B0 := Lib.hid B0
  have G0 := Lib.hid G0
  have BW := Lib.hid BW
  have Hg := Lib.hid hg
  have c2 : W0.cell? ⟨b, o, none⟩ = some (.int .i64 1) := late BW.out hbx c1
  rw [← hW0, ← hg]
  clear hW0 hg c1
  refine wp_loop_rounds 2 ?_
  rw [rounds_succ]
  go_wp2_with (first
    | (go_at_call 76; refine (sign1 _).mono ?_; rintro e w' ⟨rfl, rfl⟩)
    | (go_at_call 78; refine (part1 _).mono ?_; rintro e w' ⟨rfl, rfl⟩)
    | (go_at_call 79; refine (put1 _).mono ?_; rintro e w1 ⟨a1, c1, rfl, hs1, hb1⟩; have Hs1 := Lib.hid hs1; have G1 := Lib.hid (G0.out.late hb1); have Hb1 := Lib.hid hb1; clear hs1 hb1; have q2 : w1.cell? ⟨g, 2, none⟩ = some (.slice none 0 0) := G1.out.cell rfl)
    | (at_builtin; refine wpList_app rfl _ _ 22 rfl W0.heap.size 5 i0 _ 1 1 Try.underlying22 hi hz0 hz1 hz2 rfl (by decide) _ 0 [] rfl (own_nil _ _ _ _) a1 1 c1 _ rfl Hs1.out ints_one (by omega) (by decide) Hb1.out.size ?_; intro a5 c5 w2 ob hb2 hg2; clear hg2; have Ob := Lib.hid ob; have Hb2 := Lib.hid (Hb1.out.trans hb2); clear ob hb2; have G2 := Lib.hid (G0.out.late Hb2.out); have z0 : w2.cell? ⟨g, 0, none⟩ = some (.int .i64 1) := G2.out.cell rfl; have z1 : w2.cell? ⟨g, 1, none⟩ = some (.int .i64 1) := G2.out.cell rfl; have z2 : w2.cell? ⟨g, 2, none⟩ = some (.slice none 0 0) := G2.out.cell rfl; have fz := G2.out.frozen 2))
  obtain ⟨w3, hw3⟩ : ∃ w3, w3 = w2.setCell ⟨g, 2, none⟩ (.slice a5 1 c5) := ⟨_, rfl⟩
  rw [← hw3]
  have B2 : Blk w2 w.heap.size 24 #[.int .i64 0, .int .i64 0, .slice none 0 0] := B0.out.late Hb2.out
  have G3 : Blk w3 g 24 #[.int .i64 1, .int .i64 1, .slice a5 1 c5] := by rw [hw3]; exact G2.out.set 2 _
  have B3 : Blk w3 w.heap.size 24 #[.int .i64 0, .int .i64 0, .slice none 0 0] := by rw [hw3]; exact B2.set_other (by have := Hg.out; omega) _ _
  have O3 : w3.ownsRow W0.heap.size 5 1 (.slice a5 1 c5) 1 (ints .u8 [1]) := by rw [hw3]; exact own_set_other Ob.out G0.out.lt _ _
  have BB : Below w.heap.size w w3 := by rw [hw3]; exact (BW.out.trans (Hb2.out.mono BW.out.size)).setCell (by show w.heap.size ≤ g; have := Hg.out; omega) _
  have S3 := Lib.hid (Sl.of_own O3).1
  have HO3 := Lib.hid O3
  have hlt0 : w.heap.size < W0.heap.size := by have h1 := G0.out.lt; have h2 := Hg.out; omega
  have Hlt0 := Lib.hid hlt0
  have G3 := Lib.hid G3
  have B3 := Lib.hid B3
  have BB := Lib.hid BB
  clear hw3 z0 z1 z2 fz B2 O3 q2 hlt0
  have z0 : w3.cell? ⟨g, 0, none⟩ = some (.int .i64 1) := G3.out.cell rfl
  have z1 : w3.cell? ⟨g, 1, none⟩ = some (.int .i64 1) := G3.out.cell rfl
  have z2 : w3.cell? ⟨g, 2, none⟩ = some (.slice a5 1 c5) := G3.out.cell rfl
  have hmt : mayS 1 1 [1] = true := by decide
  have Hmt := Lib.hid hmt
  clear hmt
  rw [rounds_succ]
  go_wp2_with (go_at_call 40; refine (rmay_any 1 1 a5 1 c5 [1] _ S3.out).mono ?_; rw [Hmt.out]; rintro e w4 ⟨rfl, hb4⟩; have G4 := Lib.hid (G3.out.late hb4); have B4 := Lib.hid (B3.out.late hb4); have O4 := Lib.hid (own_later HO3.out hb4); have Hb4 := Lib.hid hb4; clear hb4; have y0 : w4.cell? ⟨g, 0, none⟩ = some (.int .i64 1) := G4.out.cell rfl; have y1 : w4.cell? ⟨g, 1, none⟩ = some (.int .i64 1) := G4.out.cell rfl; have y2 : w4.cell? ⟨g, 2, none⟩ = some (.slice a5 1 c5) := G4.out.cell rfl; have x0 : w4.cell? ⟨w.heap.size, 0, none⟩ = some (.int .i64 0) := B4.out.cell rfl; have x1 : w4.cell? ⟨w.heap.size, 1, none⟩ = some (.int .i64 0) := B4.out.cell rfl; have x2 : w4.cell? ⟨w.heap.size, 2, none⟩ = some (.slice none 0 0) := B4.out.cell rfl; have f0 := B4.out.frozen 0; have f1 := B4.out.frozen 1; have f2 := B4.out.frozen 2)
  have B5 := ((B4.out.set 0 (.int .i64 1)).set 1 (.int .i64 1)).set 2 (.slice a5 1 c5)
  refine bodyPost_ret (results_blk_tmp rfl _ _ w.heap.size 24 #[.int .i64 1, .int .i64 1, .slice a5 1 c5] _ rfl B5 Try.underlying24 rfl (by kernel_rfl)) rfl ?_
  have O5 := own_set_other (own_set_other (own_set_other O4.out Hlt0.out 0 (.int .i64 1)) Hlt0.out 1 (.int .i64 1)) Hlt0.out 2 (.slice a5 1 c5)
  exact ⟨_, _, rfl, own_mono O5 (Nat.le_of_lt Hlt0.out), (((BB.out.trans (Hb4.out.mono BB.out.size)).setCell (Nat.le_refl _) _).setCell (Nat.le_refl _) _).setCell (Nat.le_refl _) _⟩

set_option maxHeartbeats 4000000 in
theorem ofnum1 (a : Option Addr) (c : Nat) (w : World) (hs : Sl w a 1 c 1 (ints .i64 [1])) :
    Calls Try.prog 31 #[.int .i64 1, .slice a 1 c] w fun e w' => ∃ a' c', e = .returned (.tuple #[.agg #[.int .i64 1, .int .i64 1, .slice a' 1 c'], .bool true]) ∧ w'.ownsRow w.heap.size 5 1 (.slice a' 1 c') 1 (ints .u8 [1]) ∧ Below w.heap.size w w' := by
  have Hs := Lib.hid hs
  clear hs
  go_enter Try.func31, Try.ntmps31
  obtain ⟨W0, hW0⟩ : ∃ W0, W0 = w.alloc (.cells #[.int .i64 0, .int .i64 0, .slice none 0 0] 24) := ⟨_, rfl⟩
  have B0 : Blk W0 w.heap.size 24 #[.int .i64 0, .int .i64 0, .slice none 0 0] := by rw [hW0]; exact Blk.new _ _ _
  have BW : Below w.heap.size w W0 := by rw [hW0]; exact (Below.refl _ _).alloc (Nat.le_refl _) _
  have B0 := Lib.hid B0
  have BW := Lib.hid BW
  have HS := Lib.hid (Hs.out.mono BW.out)
  have hlt0 : w.heap.size < W0.heap.size := B0.out.lt
  have Hlt0 := Lib.hid hlt0
  clear hlt0
  go_upto_region 1 with fail
  rw [← hW0]
  clear hW0
  go_wp2_with (first
    | (go_at_call 52; refine (rsize_any _ _).mono ?_; rintro e w' ⟨rfl, rfl⟩)
    | (go_at_call 53; refine (of1 a c _ HS.out).mono ?_; rintro e w4 ⟨a5, c5, rfl, hs5, hb4⟩; have S4 := Lib.hid hs5; have B4 := Lib.hid (B0.out.late hb4); have Hb4 := Lib.hid hb4; clear hb4 hs5; have x0 : w4.cell? ⟨w.heap.size, 0, none⟩ = some (.int .i64 0) := B4.out.cell rfl; have x1 : w4.cell? ⟨w.heap.size, 1, none⟩ = some (.int .i64 0) := B4.out.cell rfl; have x2 : w4.cell? ⟨w.heap.size, 2, none⟩ = some (.slice none 0 0) := B4.out.cell rfl; have f0 := B4.out.frozen 0; have f1 := B4.out.frozen 1; have f2 := B4.out.frozen 2))
  have B5 := B4.out.set3 (.int .i64 1) (.int .i64 1) (.slice a5 1 c5)
  refine bodyPost_ret (results_blk_tmp rfl _ _ w.heap.size 24 #[.int .i64 1, .int .i64 1, .slice a5 1 c5] _ rfl B5 Try.underlying24 rfl (by kernel_rfl)) rfl ?_
  exact ⟨_, _, rfl, own_mono (own_set3 S4.out Hlt0.out _ _ _) (Nat.le_of_lt Hlt0.out), below_set3 (BW.out.trans (Hb4.out.mono BW.out.size)) (Nat.le_refl _) _ _ _⟩

set_option maxHeartbeats 4000000 in
theorem oftext_any (s : ByteArray) (w : World) (hs : s.size ≤ 1000) (hm : mayS 2 (s.size + 1) (strB s ++ [0]) = true) :
    Calls Try.prog 54 #[.string s] w fun e w' => ∃ a' c', e = .returned (.tuple #[.agg #[.int .i64 2, .int .i64 (s.size + 1), .slice a' (s.size + 1) c'], .bool true]) ∧ Sl w' a' (s.size + 1) c' 1 (ints .u8 (strB s ++ [0])) ∧ (∀ x, a' = some x → w.heap.size ≤ x.block) ∧ Below w.heap.size w w' := by
  obtain ⟨i0, hi, hz0, hz1, hz2⟩ := info_parts info8
  obtain ⟨W0, hW0⟩ : ∃ W0, W0 = w.alloc (.cells #[.int .i64 0, .int .i64 0, .slice none 0 0] 24) := ⟨_, rfl⟩
  have B0 : Blk W0 w.heap.size 24 #[.int .i64 0, .int .i64 0, .slice none 0 0] := by rw [hW0]; exact Blk.new _ _ _
  have BW : Below w.heap.size w W0 := by rw [hW0]; exact (Below.refl _ _).alloc (Nat.le_refl _) _
  have hcv := Lib.run_convert_string_bytes (P := Try.prog) W0 9 22 5 s (u := .string) Try.underlying9 Try.underlying22 Try.underlying5
  obtain ⟨W1, hW1⟩ : ∃ W1, W1 = Lib.bytesWorld W0 5 s := ⟨_, rfl⟩
  obtain ⟨g, hg⟩ : ∃ g, g = W0.heap.size := ⟨_, rfl⟩
  have hb1 : Below W0.heap.size W0 W1 := by rw [hW1]; exact bytesWorld_below ..
  have hn1 := Lib.bytesWorld_at_new W0 5 s
  have hcap := grownCap_ge W0 s.size 0 5
  have hcap2 := grownCap_le_maxLen W0 s.size 0 5 (by unfold maxLen; omega)
  obtain ⟨cp, hcp⟩ : ∃ cp, cp = grownCap W0 s.size 0 5 := ⟨_, rfl⟩
  rw [← hW1, ← hg] at hn1
  rw [← hW1, ← hcp, ← hg] at hcv
  rw [← hcp] at hcap hcap2
  obtain ⟨cur, hcur⟩ : ∃ cur, cur = Lib.bytesCells W0 5 s := ⟨_, rfl⟩
  have hsz : cur.size = cp := by rw [hcur, hcp]; simp [Lib.bytesCells]; omega
  have htk : cur.toList.take s.size = ints .u8 (strB s) := by
    rw [hcur]
    simp only [Lib.bytesCells, Array.toList_append, Array.toList_map]
    rw [List.take_append_of_le_length (by simp), List.take_of_length_le (by simp)]
    simp [ints, strB]
  rw [← hcur] at hn1
  have Hn1 := Lib.hid hn1
  have Hsz := Lib.hid hsz
  have Htk := Lib.hid htk
  have Hcap := Lib.hid hcap
  have Hcap2 := Lib.hid hcap2
  have Hg := Lib.hid hg
  have Hb1 := Lib.hid hb1
  have B0 := Lib.hid B0
  have BW := Lib.hid BW
  have Hm := Lib.hid hm
  clear hn1 hsz htk hcap hcap2 hcur hcp hW1 hb1 hm
  go_enter Try.func54, Try.ntmps54
  go_upto_region 1 with fail
  rw [← hW0]
  clear hW0 hg
  go_wp2_with (first
    | (at_builtin; refine wpList_app_one rfl _ _ 22 rfl W0.heap.size 5 i0 _ Try.underlying22 hi hz0 hz1 hz2 rfl g s.size cp cur _ rfl ((heap_old W1 _ (Array.getElem?_eq_some_iff.1 Hn1.out).1).trans Hn1.out) (Nat.le_refl _) Hsz.out Hcap.out Hcap2.out ⟨W1.heap.size, 0, none⟩ 1 (.int .u8 0) rfl ((Blk.new W1 5 #[.int .u8 0]).cell (i := 0) rfl) rfl (by omega) (Nat.le_of_eq Hg.out.symm) (Hb1.out.alloc Hb1.out.size _).size ?_; intro a5 c5 w3 hs3 ha3 hb3; have Ha3 := Lib.hid ha3; clear ha3; rw [Htk.out, show ints .u8 (strB s) ++ [Value.int .u8 0] = ints .u8 (strB s ++ [0]) by simp [ints]] at hs3; have S3 := Lib.hid hs3; have Hb3 := Lib.hid ((Hb1.out.alloc Hb1.out.size _).trans hb3); clear hs3 hb3))
  refine (rmay_any 2 (s.size + 1) a5 (s.size + 1) c5 _ _ (sl_alloc S3.out _)).mono ?_
  rw [Hm.out]
  rintro e w5 ⟨rfl, hb5⟩
  have Hb35 : Hid (Below w3.heap.size w3 w5) := Lib.hid (((Below.refl _ _).alloc (Nat.le_refl _) _).trans (hb5.mono (by simp)))
  have V5 := Lib.hid ((Blk.new w3 24 #[.int .i64 2, .int .i64 (s.size + 1), .slice a5 (s.size + 1) c5]).late hb5)
  have B5 := Lib.hid ((B0.out.late Hb3.out).late Hb35.out)
  clear hb5
  have y0 : w5.cell? ⟨w3.heap.size, 0, none⟩ = some (.int .i64 2) := V5.out.cell rfl
  have y1 : w5.cell? ⟨w3.heap.size, 1, none⟩ = some (.int .i64 (s.size + 1)) := V5.out.cell rfl
  have y2 : w5.cell? ⟨w3.heap.size, 2, none⟩ = some (.slice a5 (s.size + 1) c5) := V5.out.cell rfl
  have x0 : w5.cell? ⟨w.heap.size, 0, none⟩ = some (.int .i64 0) := B5.out.cell rfl
  have x1 : w5.cell? ⟨w.heap.size, 1, none⟩ = some (.int .i64 0) := B5.out.cell rfl
  have x2 : w5.cell? ⟨w.heap.size, 2, none⟩ = some (.slice none 0 0) := B5.out.cell rfl
  have f0 := B5.out.frozen 0
  have f1 := B5.out.frozen 1
  have f2 := B5.out.frozen 2
  go_wp2
  have B6 := B5.out.set3 (.int .i64 2) (.int .i64 (s.size + 1)) (.slice a5 (s.size + 1) c5)
  refine bodyPost_ret (results_blk_tmp rfl _ _ w.heap.size 24 #[.int .i64 2, .int .i64 (s.size + 1), .slice a5 (s.size + 1) c5] _ rfl B6 Try.underlying24 rfl (by kernel_rfl)) rfl ?_
  have hBB := BW.out.trans (Hb3.out.mono BW.out.size)
  exact ⟨_, _, rfl, sl_set3 (S3.out.mono Hb35.out) Ha3.out B0.out.lt _ _ _, (fun x hx => Nat.le_trans (Nat.le_of_lt B0.out.lt) (Ha3.out x hx)), below_set3 (hBB.trans (Hb35.out.mono hBB.size)) (Nat.le_refl _) _ _ _⟩
end Go.Proofs.Ytnhcmibngcmebaa
