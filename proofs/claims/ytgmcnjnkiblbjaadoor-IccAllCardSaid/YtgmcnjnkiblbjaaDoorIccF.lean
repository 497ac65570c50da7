import Derived.Test.YtgmcnjnkiblbjaaDoorIccE
import Derived.Test.YtgmcnjnkiblbjaaDoorL2
namespace Go.Proofs.YtgmcnjnkiblbjaaDoor
open Go.RowKit Tt
set_option linter.unusedVariables false

set_option maxHeartbeats 1000000 in
theorem long_any (n seed : Int) (a : Option Addr) (m c : Nat) (x : List Int) (w : World) (hn1 : -9223372036854775808 ≤ n) (hn2 : n ≤ 9223372036854775807) (hx : Sl w a m c 1 (ints .u8 x)) (bx : Byt x) :
    Calls Tryd.prog 7 #[.int .i64 n, .int .i64 seed, .slice a m c] w fun e w' => ∃ g L p, e = .returned (.slice (some ⟨g, 0, none⟩) L L) ∧ w.heap.size ≤ g ∧ Row w' g 5 .u8 p ∧ p.length = L ∧ Byt p ∧ L ≤ 196657 ∧ Below w.heap.size w w' := by
  obtain ⟨i0, hi, hz0, hz1, hz2⟩ := info_parts info5
  obtain ⟨q, hq⟩ : ∃ q, min n 196657 = q := ⟨_, rfl⟩
  obtain ⟨L, hL⟩ : ∃ L : Nat, max 0 q = (L : Int) := ⟨(max 0 q).toNat, by omega⟩
  have hL2 : L ≤ 196657 := by omega
  go_enter Tryd.func7, Tryd.ntmps7
  go_wp2_with (at_make; refine wpList_make_full w rfl _ _ 22 rfl w.heap.size 5 i0 _ 1 Tryd.underlying22 hi hz0 hz1 .i64 .i64 _ _ L rfl rfl rfl rfl (by rw [hz2]; omega) (by unfold maxLen; omega) (Nat.le_refl _) ?_; intro w1 hown hg1)
  have hr0 : Row w1 w.heap.size 5 .u8 (List.replicate L 0) := by
    have e : (madeCells (Value.int .u8 0).cells (L * 1)).toList = ints .u8 (List.replicate L 0) := by
      rw [Nat.mul_one]
      show (madeCells #[Value.int .u8 0] L).toList = _
      rw [toList_madeCells_one]; simp [ints]
    rw [e] at hown
    exact Row.of_own hown
  have hb1 : Below w.heap.size w w1 := (Below.refl _ _).grown hg1 (Nat.le_refl _) (fun k e => by cases e)
  clear hown hg1
  go_loopw [8] (fun i wr => ∃ (k : Nat) (p : List Int), k ≤ L + 997 ∧ i = .int .i64 k ∧ Row wr w.heap.size 5 .u8 p ∧ Hid (p.length = L) ∧ Byt p ∧ Below w.heap.size w wr) (fun i _ => L + 997 - (intOf i).toNat)
  case atStart => exact ⟨0, _, by omega, rfl, hr0, Lib.hid (by simp), (fun x hx => by rw [(List.mem_replicate.1 hx).2]; omega), hb1⟩
  case round =>
    obtain ⟨k, p, hk, rfl, hr, hpl, bp, hb⟩ := hrel
    by_cases hlt : k < L
    · have c1 := hr.cell (i := k) (by rw [hpl.out]; exact hlt)
      have f1 := hr.frozen k
      have Bp := Lib.hid bp
      have Hr := Lib.hid hr
      clear bp hr
      generalize p.getD k 0 = old at *
      go_wp2
      go_roundw
      case rel => exact ⟨k + 997, _, by omega, by go_num, Hr.out.set k _, Lib.hid (by rw [List.length_set]; exact hpl.out), byt_set Bp.out k (u8_wrap _), hb.setCell (p := ⟨w.heap.size, k, none⟩) (Nat.le_refl _) _⟩
      case measure => simp [intOf]; omega
    · go_wp2_with (refine wpList_copy_row rfl (.tmp 27) (.tmp 28) 22 22 rfl 5 Tryd.underlying22 (by rw [hi]; simp [hz1]) w.heap.size L .u8 p rfl hr hpl.out a m c x rfl (hx.mono hb) w.heap.size w hb (Nat.le_refl _) ?_; intro w2 hr2 hb2)
      go_ret
      exact ⟨_, L, _, ret_eq rfl, Nat.le_refl _, hr2, by rw [length_splice _ _ _ (by rw [List.length_take, hpl.out]; omega)]; exact hpl.out, byt_splice bp (bx.take _) 0, hL2, hb2⟩

theorem row_one {w : World} {a : Option Addr} {n c : Nat} {l : List Int} (h : Sl w a n c 1 (ints .u8 l)) (ad : Option Addr) (hS : Sl w ad 1 1 1 [.slice a n c]) : Rs w ad 1 1 [l] :=
  ⟨⟨_, hS, fun i hi => by
    obtain rfl : i = 0 := by omega
    exact ⟨a, n, c, rfl, h⟩⟩, rfl⟩

set_option maxHeartbeats 2000000 in
theorem awake_any (w : World) : Calls Tryd.prog 17 #[] w fun e w' => e = .returned (.bool true) ∧ Below w.heap.size w w' := by
  obtain ⟨i0, hi, hz0, hz1, hz2⟩ := info_parts info5
  have kc := fun (w : World) (C : Array Value) (n c : Nat) => Lib.run_convert_bytes_const (P := Tryd.prog) w 22 5 C n c Tryd.underlying22 Tryd.underlying5
  have hcnt : cnt 16707346 = 256 := by decide
  have H3 := count_any 16707346
  rw [hcnt] at H3
  have HC := Lib.hid H3
  clear H3 hcnt
  have Hcut := Lib.hid cut_any
  go_enter Tryd.func17, Tryd.ntmps17
  go_wp2_with fail
  refine (Hcut.out none 0 0 [] w (Sl.nil _ _) (fun x hx => by cases hx) (by decide)).mono ?_
  rintro e w1 ⟨a1, n1, c1, rfl, hr1, hb1⟩
  rw [cutS_nil] at hr1 ⊢
  obtain rfl : 0 = n1 := hr1.len
  clear hr1
  go_wp2_with fail
  refine (Hcut.out _ 3 3 [7, 8, 9] _ (Sl.new w1 5 1 3 _ (0, 0) (by decide) rfl) (fun x hx => by simp at hx; omega) (by decide)).mono ?_
  rintro e w2 ⟨a2, n2, c2, rfl, hr2, hb2⟩
  rw [cutS_789] at hr2 ⊢
  obtain rfl : 1 = n2 := hr2.len
  have Hr2 := Lib.hid hr2
  clear hr2
  have hB2 : Below w.heap.size w w2 := (hb1.trans ((Below.refl _ _).alloc hb1.size _)).trans (hb2.mono (by have := hb1.size; simp; omega))
  clear hb1 hb2
  go_wp2_with (at_make; refine wpList_make_full w2 rfl _ _ 22 rfl w.heap.size 5 i0 _ 1 Tryd.underlying22 hi hz0 hz1 .i64 .i64 _ _ 65520 rfl rfl rfl rfl (by rw [hz2]; decide) (by decide) hB2.size ?_; intro w3 hown hg3)
  have hr0 : w3.ownsRow w.heap.size 5 1 (.slice (some ⟨w2.heap.size, 0, none⟩) 65520 65520) 65520 (ints .u8 (List.replicate 65520 0)) := by
    rw [ints, List.map_replicate, ← toList_madeCells_one]
    exact hown
  have hB3 : Below w.heap.size w w3 := hB2.grown hg3 hB2.size (fun k e => by cases e)
  have hB23 : Below w2.heap.size w2 w3 := (Below.refl _ _).grown hg3 (Nat.le_refl _) (fun k e => by cases e)
  have hlen : (List.replicate 65520 (0 : Int)).length = 65520 := List.length_replicate
  have hbz : Byt (List.replicate 65520 (0 : Int)) := fun x hx => by rw [(List.mem_replicate.1 hx).2]; omega
  have hs3 := (Sl.of_own hr0).1
  clear hown hg3 hr0
  generalize List.replicate 65520 (0 : Int) = z at *
  refine (Hcut.out _ 65520 65520 z w3 hs3 hbz (by decide)).mono ?_
  rintro e w4 ⟨a3, n3, c3, rfl, hr3, hb3⟩
  rw [cutS_two hlen] at hr3 ⊢
  obtain rfl : 2 = n3 := hr3.len
  have hB4 := hB3.trans (hb3.mono hB3.size)
  have Hr24 := Lib.hid (Hr2.out.later (hB23.trans (hb3.mono hB23.size)))
  obtain ⟨⟨vs, hv1, hv2⟩, _⟩ := hr3
  obtain ⟨x0, m0, y0, e0, s0⟩ := hv2 0 (by decide)
  obtain ⟨x1, m1, y1, e1, s1⟩ := hv2 1 (by decide)
  obtain rfl : 65533 = m0 := by
    have := (Sl.of_own s0).1.ilen
    rw [← this]; exact (chunk_two0 hlen).symm
  obtain rfl : 15 = m1 := by
    have := (Sl.of_own s1).1.ilen
    rw [← this]; exact (chunk_two1 hlen).symm
  obtain ⟨b3, o3, rfl, hlt3, hcell⟩ := (Sl.of_own hv1).1.at (show 0 < 2 by decide)
  have f0 := hcell 0 _ e0
  have f1 := hcell 1 _ e1
  clear hv1 hv2 s0 s1 e0 e1 hcell hs3 hbz hlen hb3 hB23 hB3 hB2 Hr2
  have Hlt3 := Lib.hid hlt3
  have F0 := Lib.hid f0
  have F1 := Lib.hid f1
  clear hlt3 f0 f1
  have hself : (([Tt.hd ++ [1, 1, 7, 8, 9]] : List (List Int)) == [Tt.hd ++ [1, 1, 7, 8, 9]]) = true := by decide
  have Hself := Lib.hid hself
  clear hself
  go_wp2_with (at_builtin; refine wpList_grow rfl (.tmp 35) (.tmp 36) 22 rfl 5 i0 _ 1 1 Tryd.underlying22 hi hz0 hz1 hz2 rfl (by decide) _ 11 11 _ rfl (sl_alloc (Sl.new w4 5 1 11 _ (11, 12) (by decide) rfl) _) _ 6 6 _ rfl (Sl.new' (w4.alloc _) 5 1 6 _ (0, 0) (by simp) (by decide) rfl) (by simp [Value.oneCell']) (by decide) (by decide) (by decide) ?_; intro a5 c5 w5 ho5 hb5; have hB45 : Below w4.heap.size w4 w5 := (((Below.refl _ _).alloc (Nat.le_refl _) _).alloc (by simp) _).trans (hb5.mono (by simp; omega)); have hs5 : Sl w5 a5 17 c5 1 (ints .u8 (Tt.hd ++ [1, 1, 7, 8, 9])) := (Sl.of_own ho5).1; clear ho5 hb5)
  have hB5a : Below w4.heap.size w4 (w5.alloc (.cells #[.slice a5 17 c5] 22)) := hB45.alloc hB45.size _
  have hrow := rows_any a2 (some ⟨w5.heap.size, 0, none⟩) 1 1 c2 1 _ _ _ (Hr24.out.rs.mono hB5a) (row_one (sl_alloc hs5 _) _ (Sl.new w5 22 1 1 _ (0, 0) (by decide) rfl))
  rw [Hself.out] at hrow
  refine hrow.mono ?_
  rintro e w8 ⟨rfl, hq⟩
  have hB8 := hB5a.trans (hq.below _)
  have g0 := late hB8 Hlt3.out F0.out
  have g1 := late hB8 Hlt3.out F1.out
  rw [Nat.add_zero] at g0
  have hE := hB4.trans (hB8.mono hB4.size)
  clear hB8 hq hrow hB5a hs5 hB45
  go_wp2_with (go_at_call 15; refine (HC.out _ (by decide)).mono ?_; rintro e w9 ⟨rfl, rfl⟩)
  go_ret
  exact ⟨ret_bool rfl, hE⟩
end Go.Proofs.YtgmcnjnkiblbjaaDoor
