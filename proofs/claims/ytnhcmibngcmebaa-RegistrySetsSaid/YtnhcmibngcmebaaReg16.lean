/- Chapter 23: awake: the chapter's examples. -/
import Derived.Test.YtnhcmibngcmebaaReg15
namespace Go.Proofs.Ytnhcmibngcmebaa
open Go.RowKit Tt
set_option linter.unusedVariables false

def s1 : ByteArray := ⟨#[50, 48, 50, 48, 58, 48, 49, 58, 48, 50, 32, 48, 51, 58, 48, 52, 58, 48, 53]⟩
def s2 : ByteArray := ⟨#[50, 48, 50, 48, 58, 48, 49, 58, 48, 50, 32, 48, 51, 58, 48, 52, 58, 48]⟩
theorem k1 : knownB 0 274 1 [3] = true := by decide +kernel
theorem k2 : knownB 1 256 1 [3, 4] = true := by decide +kernel
theorem k3 : knownB 3 274 0 [] = true := by decide +kernel
theorem r1 : resS 0 34665 = true := by decide +kernel
theorem r2 : resS 2 34665 = false := by decide +kernel
theorem m1 : tmayS 2 36867 2 20 (strB s1 ++ [0]) = true := by decide +kernel
theorem m2 : tmayS 2 36867 2 19 (strB s2 ++ [0]) = false := by decide +kernel
theorem m3 : tmayS 2 4660 1 1 [1] = true := by decide +kernel
theorem t1 : mayS 2 (s1.size + 1) (strB s1 ++ [0]) = true := by decide +kernel
theorem t2 : mayS 2 (s2.size + 1) (strB s2 ++ [0]) = true := by decide +kernel
theorem text1 (w : World) : Calls Try.prog 33 #[.int .i64 36867, .string s1] w fun e w' => ∃ a c, e = .returned (.agg #[.int .i64 36867, .int .i64 2, .int .i64 20, .slice a 20 c]) ∧ Sl w' a 20 c 1 (ints .u8 (strB s1 ++ [0])) ∧ Below w.heap.size w w' := text_any 36867 s1 w (by decide) t1
theorem text2 (w : World) : Calls Try.prog 33 #[.int .i64 36867, .string s2] w fun e w' => ∃ a c, e = .returned (.agg #[.int .i64 36867, .int .i64 2, .int .i64 19, .slice a 19 c]) ∧ Sl w' a 19 c 1 (ints .u8 (strB s2 ++ [0])) ∧ Below w.heap.size w w' := text_any 36867 s2 w (by decide) t2
theorem byt1 : Byt (strB s1 ++ [0]) := (strB_byt s1).append (fun x hx => by simp at hx; omega)
theorem byt2 : Byt (strB s2 ++ [0]) := (strB_byt s2).append (fun x hx => by simp at hx; omega)
theorem may1 (a : Option Addr) (c : Nat) (w : World) (hs : Sl w a 20 c 1 (ints .u8 (strB s1 ++ [0]))) : Calls Try.prog 14 #[.int .i64 2, .agg #[.int .i64 36867, .int .i64 2, .int .i64 20, .slice a 20 c]] w fun e w' => e = .returned (.bool true) ∧ Below w.heap.size w w' := by
  have := rmay1_any 2 36867 2 20 a 20 c _ w hs byt1 (by decide) (by decide)
  rwa [m1] at this
theorem may2 (a : Option Addr) (c : Nat) (w : World) (hs : Sl w a 19 c 1 (ints .u8 (strB s2 ++ [0]))) : Calls Try.prog 14 #[.int .i64 2, .agg #[.int .i64 36867, .int .i64 2, .int .i64 19, .slice a 19 c]] w fun e w' => e = .returned (.bool false) ∧ Below w.heap.size w w' := by
  have := rmay1_any 2 36867 2 19 a 19 c _ w hs byt2 (by decide) (by decide)
  rwa [m2] at this
theorem may3 (a : Option Addr) (c : Nat) (w : World) (hs : Sl w a 1 c 1 (ints .u8 [1])) : Calls Try.prog 14 #[.int .i64 2, .agg #[.int .i64 4660, .int .i64 1, .int .i64 1, .slice a 1 c]] w fun e w' => e = .returned (.bool true) ∧ Below w.heap.size w w' := by
  have := rmay1_any 2 4660 1 1 a 1 c _ w hs (fun x hx => by simp at hx; omega) (by decide) (by decide)
  rwa [m3] at this
theorem res1 (w : World) : Calls Try.prog 12 #[.int .i64 0, .int .i64 34665] w fun e w' => e = .returned (.bool true) ∧ Below w.heap.size w w' := by
  have := reserved_any 0 34665 w
  rwa [r1] at this
theorem res2 (w : World) : Calls Try.prog 12 #[.int .i64 2, .int .i64 34665] w fun e w' => e = .returned (.bool false) ∧ Below w.heap.size w w' := by
  have := reserved_any 2 34665 w
  rwa [r2] at this
theorem below_new {a w w' : World} {o : Obj} (h : Below a.heap.size a w) (hb : Below (w.alloc o).heap.size (w.alloc o) w') : Below a.heap.size a w' := (h.alloc h.size o).trans (hb.mono (h.alloc h.size o).size)

set_option maxHeartbeats 4000000 in
theorem awake_any (w : World) : Calls Try.prog 8 #[] w fun e w' => e = .returned (.bool true) ∧ Below w.heap.size w w' := by
  go_enter Try.func8, Try.ntmps8
  go_wp2_with fail
  refine (ofnum1 _ 1 _ (Sl.new w 3 1 1 _ (0, 0) (by omega) rfl)).mono ?_
  rintro e w1 ⟨av, cv, rfl, hov, hb1⟩
  obtain ⟨W2, hW2⟩ : ∃ W2, W2 = w1.alloc (.cells #[.int .i64 1, .int .i64 1, .slice av 1 cv] 24) := ⟨_, rfl⟩
  obtain ⟨g, hg⟩ : ∃ g, g = w1.heap.size := ⟨_, rfl⟩
  have HB1 : Below w.heap.size w w1 := below_new (Below.refl _ _) hb1
  have V2 : Blk W2 g 24 #[.int .i64 1, .int .i64 1, .slice av 1 cv] := by rw [hW2, hg]; exact Blk.new _ _ _
  have SV : Sl W2 av 1 cv 1 (ints .u8 [1]) := by rw [hW2]; exact sl_alloc (Sl.of_own hov).1 _
  have HB2 : Below w.heap.size w W2 := by rw [hW2]; exact HB1.alloc HB1.size _
  have V2 := Lib.hid V2
  have SV := Lib.hid SV
  have HB2 := Lib.hid HB2
  clear hov hb1 HB1
  go_upto_region 2 with fail
  rw [← hW2, ← hg]
  clear hW2 hg
  go_wp2_with fail
  refine (lknown_any 0 274 1 _ 1 1 [3] _ (by decide) (by decide) (Sl.new W2 3 1 1 _ (0, 0) (by omega) rfl) k1).mono ?_
  rintro e w3 ⟨rfl, hb3⟩
  have HB3 := Lib.hid (below_new (Below.refl W2.heap.size W2) hb3)
  clear hb3
  go_wp2_with fail
  refine (lknown_any 1 256 1 _ 2 2 [3, 4] _ (by decide) (by decide) (Sl.new w3 3 1 2 _ (0, 0) (by omega) rfl) k2).mono ?_
  rintro e w4 ⟨rfl, hb4⟩
  have HB4 := Lib.hid (below_new HB3.out hb4)
  clear hb4
  go_wp2_with fail
  refine (lknown_any 3 274 0 _ 0 0 [] _ (by decide) (by decide) (Sl.nil _ _) k3).mono ?_
  rintro e w5 ⟨rfl, hb5⟩
  have HB5 := Lib.hid (HB4.out.trans (hb5.mono HB4.out.size))
  clear hb5
  go_wp2_with fail
  refine (res1 _).mono ?_
  rintro e w6 ⟨rfl, hb6⟩
  have HB6 := Lib.hid (HB5.out.trans (hb6.mono HB5.out.size))
  clear hb6
  go_wp2_with fail
  refine (res2 _).mono ?_
  rintro e w7 ⟨rfl, hb7⟩
  have HB7 := Lib.hid (HB6.out.trans (hb7.mono HB6.out.size))
  clear hb7
  go_wp2_with fail
  refine (text1 _).mono ?_
  rintro e w8 ⟨a8, c8, rfl, hs8, hb8⟩
  have HB8 := Lib.hid (HB7.out.trans (hb8.mono HB7.out.size))
  have S8 := Lib.hid hs8
  clear hb8 hs8
  go_wp2_with fail
  refine (may1 _ _ _ S8.out).mono ?_
  rintro e w9 ⟨rfl, hb9⟩
  have HB9 := Lib.hid (HB8.out.trans (hb9.mono HB8.out.size))
  clear hb9
  go_wp2_with fail
  refine (text2 _).mono ?_
  rintro e w10 ⟨a10, c10, rfl, hs10, hb10⟩
  have HB10 := Lib.hid (HB9.out.trans (hb10.mono HB9.out.size))
  have S10 := Lib.hid hs10
  clear hb10 hs10
  go_wp2_with fail
  refine (may2 _ _ _ S10.out).mono ?_
  rintro e w11 ⟨rfl, hb11⟩
  have HB11 := Lib.hid (HB10.out.trans (hb11.mono HB10.out.size))
  clear hb11
  have V11 := Lib.hid (V2.out.late HB11.out)
  have y0 : w11.cell? ⟨g, 0, none⟩ = some (.int .i64 1) := V11.out.cell rfl
  have y1 : w11.cell? ⟨g, 1, none⟩ = some (.int .i64 1) := V11.out.cell rfl
  have y2 : w11.cell? ⟨g, 2, none⟩ = some (.slice av 1 cv) := V11.out.cell rfl
  go_wp2_with fail
  refine (may3 _ _ _ (SV.out.mono HB11.out)).mono ?_
  rintro e w12 ⟨rfl, hb12⟩
  have HB12 := Lib.hid (HB11.out.trans (hb12.mono HB11.out.size))
  clear hb12
  go_wp2
  go_ret
  exact ⟨rfl, HB2.out.trans (HB12.out.mono HB2.out.size)⟩
end Go.Proofs.Ytnhcmibngcmebaa
