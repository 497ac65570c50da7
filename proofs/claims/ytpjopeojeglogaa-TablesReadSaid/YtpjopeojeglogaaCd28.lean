/- Chapter 14: a frame read: the program. -/
import Derived.Test.YtpjopeojeglogaaCd27
namespace Go.Proofs.Ytpjopeojeglogaa
open Go.RowKit Tt
set_option linter.unusedVariables false
set_option linter.unusedSimpArgs false

theorem get6 {z : List Int} (h : z.length = 6) : getV z 1 2 2 = 256 * z.getD 1 0 + z.getD 2 0 ∧ getV z 3 2 2 = 256 * z.getD 3 0 + z.getD 4 0 := by
  match z, h with
  | [a, b, c, d, e, f], _ =>
    have h1 : getB 6 1 2 2 = true := by decide
    have h2 : getB 6 3 2 2 = true := by decide
    unfold getV; rw [show ([a, b, c, d, e, f] : List Int).length = 6 from rfl, if_pos h1, if_pos h2]; exact ⟨by show (0 * 256 + b) * 256 + c = 256 * b + c; omega, by show (0 * 256 + d) * 256 + e = 256 * d + e; omega⟩
theorem cmpsOf_get : ∀ (n k : Nat) (b : List Int), k < n → (cmpsOf n b)[k]? = some (b.getD (3 * k) 0, b.getD (3 * k + 1) 0 / 16, b.getD (3 * k + 1) 0 % 16, b.getD (3 * k + 2) 0)
  | 0, _, _, h => by omega
  | n + 1, 0, b, _ => rfl
  | n + 1, k + 1, b, h => by
    show (cmpsOf n (b.drop 3))[k]? = _
    rw [cmpsOf_get n k (b.drop 3) (by omega)]; simp only [List.getD_eq_getElem?_getD, List.getElem?_drop]; rw [show 3 + 3 * k = 3 * (k + 1) by omega, show 3 + (3 * k + 1) = 3 * (k + 1) + 1 by omega, show 3 + (3 * k + 2) = 3 * (k + 1) + 2 by omega]
def cmpC (c : Cmp4) : List Value := ints .i64 (cmpL c)
theorem infoM2 : (Try.prog.info? 167).map (fun i => (i.size, i.bytes)) = some (4, 32) := by kernel_rfl
theorem infoM3 : (Try.prog.info? 167).map (fun i => i.zero.map (fun z => z.cells.size)) = some (some 4) := by kernel_rfl
theorem infoFr : (Try.prog.info? 56).map (·.size) = some 3 := by kernel_rfl
theorem zeroF_one : (#[Value.int .i64 0, .int .i64 0, .slice none 0 0] : Array Value).all (·.oneCell') = true := by kernel_rfl
theorem but_row {w : World} (g : Nat) (cs : Array Value) : But g w (w.setRow g cs) :=
  ⟨rfl, rfl, rfl, by rw [show (w.setRow g cs).heap.size = w.heap.size by simp [World.setRow]]; exact Nat.le_refl _, fun k hk hne => by rw [setRow_other _ _ _ _ hne]⟩
theorem cmpsOf_wf : ∀ (n : Nat) (b : List Int), Byt b → ∀ x ∈ cmpsOf n b, CmpWf x
  | 0, _, _, x, h => by cases h
  | n + 1, b, hb, x, h => by
    rcases List.mem_cons.1 h with rfl | h
    · have h1 := hb.get 1
      unfold CmpWf Wf; simp only
      omega
    · exact cmpsOf_wf n (b.drop 3) (hb.drop _) x h
def FrameR (T : Int × Int × Int × List Cmp4) (w : World) (e : Ending) (w' : World) : Prop :=
  Below w.heap.size w w' ∧ ∃ a m c, e = .returned (.tuple #[.agg #[.int .i64 T.2.1, .int .i64 T.2.2.1, .slice a m c], .int .i64 T.1]) ∧ w'.ownsRow w.heap.size 167 4 (.slice a m c) m ((T.2.2.2.map cmpC).flatten) ∧ m = T.2.2.2.length
/-- a frame that is not taken: the result's block as it was made -/
theorem frame_no {x : Int} {w w' : World} (hb : Below w.heap.size w w') : FrameR (x, 0, 0, []) w (.returned (.tuple #[.agg #[.int .i64 0, .int .i64 0, .slice none 0 0], .int .i64 x])) w' := ⟨hb, none, 0, 0, rfl, own_nil _ _ _ _, rfl⟩
set_option maxRecDepth 20000 in
set_option maxHeartbeats 4000000 in
theorem readFrame_any (a : Option Addr) (n c : Nat) (z : List Int) (w : World) (hs : Sl w a n c 1 (ints .u8 z)) (hlt : ∀ x, a = some x → x.block < w.heap.size) (hz : Byt z) (hn : n ≤ 100000) :
    Calls Try.prog 52 #[.slice a n c] w (FrameR (rfS z) w) := by
  obtain ⟨i0, zq, hi, hiz, hq1, hq2, hq3⟩ := info_ofz infoM2 infoM3; have hzl := hs.ilen; obtain ⟨T, hT⟩ : ∃ T, rfS z = T := ⟨_, rfl⟩; rw [hT]; obtain ⟨W1, hW1, bF, bR, hb1, hsz1⟩ := two_boxes w 56 #[.int .i64 0, .int .i64 0, .slice none 0 0] 189 #[.slice a n c]; have hrd1 : Rd W1 (w.heap.size + 1) a n c z := ⟨bR, hs.mono hb1, fun x hx => by have := hlt x hx; omega⟩
  by_cases hn6 : n < 6
  · obtain rfl : T = (3, 0, 0, []) := by rw [← hT]; unfold rfS; rw [if_pos (by omega)]
    have HT := take_no (w.heap.size + 1) a n c z 6 W1 hrd1 hn6 (by omega); have hs' := Lib.hid hs; have hlt' := Lib.hid hlt; have hz' := Lib.hid hz; have hzl' := Lib.hid hzl; have hT' := Lib.hid hT; have hW1' := Lib.hid hW1; have bF' := Lib.hid bF; have bR' := Lib.hid bR; have hb1' := Lib.hid hb1; have hsz1' := Lib.hid hsz1; have hrd1' := Lib.hid hrd1; have HT' := Lib.hid HT; clear hs hlt hz hzl hT hW1 bF bR hb1 hsz1 hrd1 HT
    go_enter Try.func52, Try.ntmps52
    go_upto_region 2 with fail
    rw [hW1'.out]
    go_wp2_with fail
    refine HT'.out.mono ?_; rintro e w2 ⟨rfl, rfl⟩; have bz : Blk (W1.setRow w.heap.size #[.int .i64 0, .int .i64 0, .slice none 0 0]) w.heap.size 56 #[.int .i64 0, .int .i64 0, .slice none 0 0] := setRow_heap _ _ _ _ _ _ bF'.out; have hbz := rowBelow hb1'.out (Nat.le_refl w.heap.size) #[.int .i64 0, .int .i64 0, .slice none 0 0]; have bz' := Lib.hid bz; have hbz' := Lib.hid hbz; clear bz hbz
    go_wp2_with (refine wpList_store_row rfl 56 (.tmp 2) (.tmp 21) rfl w.heap.size #[.int .i64 0, .int .i64 0, .slice none 0 0] rfl rfl 56 _ bF'.out infoFr rfl zeroF_one ?_)
    refine bodyPost_ret (results_blk_tmp rfl _ _ w.heap.size 56 #[.int .i64 0, .int .i64 0, .slice none 0 0] _ rfl bz'.out Try.underlying56 rfl infoFr) rfl ?_; exact frame_no hbz'.out
  have HT := take_yes (w.heap.size + 1) a n c z 6 W1 hrd1 (by omega) (by omega)
  have hTe : T = (if z.getD 0 0 ≠ 8 then (2, 0, 0, []) else if z.length < 6 + 3 * nB z 5 then (3, 0, 0, []) else if 6 + 3 * nB z 5 < z.length then (2, 0, 0, []) else if frmE (256 * z.getD 3 0 + z.getD 4 0) (256 * z.getD 1 0 + z.getD 2 0) (cmpsOf (nB z 5) (z.drop 6)) = 0 then (0, 256 * z.getD 3 0 + z.getD 4 0, 256 * z.getD 1 0 + z.getD 2 0, cmpsOf (nB z 5) (z.drop 6)) else (frmE (256 * z.getD 3 0 + z.getD 4 0) (256 * z.getD 1 0 + z.getD 2 0) (cmpsOf (nB z 5) (z.drop 6)), 0, 0, [])) := by
    rw [← hT]; unfold rfS; rw [if_neg (by omega)]
  have hs' := Lib.hid hs; have hlt' := Lib.hid hlt; have hz' := Lib.hid hz; have hzl' := Lib.hid hzl; have hT' := Lib.hid hT; have hW1' := Lib.hid hW1; have bF' := Lib.hid bF; have bR' := Lib.hid bR; have hb1' := Lib.hid hb1; have hsz1' := Lib.hid hsz1; have hrd1' := Lib.hid hrd1; have HT' := Lib.hid HT; have hTe' := Lib.hid hTe; clear hs hlt hz hzl hT hW1 bF bR hb1 hsz1 hrd1 HT hTe
  go_enter Try.func52, Try.ntmps52
  go_upto_region 2 with fail
  rw [hW1'.out]
  go_wp2_with fail
  refine HT'.out.mono ?_; rintro e w2 ⟨a1, c1, a2, c2, rfl, s1, i1, hrd2, i2, bt2⟩; have hb2 : Below w.heap.size w w2 := hb1'.out.trans (bt2.below (by omega) hb1'.out.size); have bF2 : Blk w2 w.heap.size 56 #[.int .i64 0, .int .i64 0, .slice none 0 0] := bF'.out.but bt2 (by omega); have l1 := in_lt i1 hlt'.out; have l2 := in_lt i2 hlt'.out; have hz6 : ∀ i, i < 6 → (z.take 6).getD i 0 = z.getD i 0 := fun i hi => by rw [List.getD_eq_getElem?_getD, List.getElem?_take, if_pos hi, ← List.getD_eq_getElem?_getD]
  have hzt : (z.take 6).length = 6 := by rw [List.length_take, hzl'.out]; omega
  obtain ⟨bb, o, rfl, hbb, f⟩ := s1.at (show 0 < 6 by omega); have hbw : bb < w.heap.size := l1 _ rfl; obtain ⟨y0, hy0⟩ : ∃ y, z.getD 0 0 = y := ⟨_, rfl⟩; obtain ⟨y5, hy5⟩ : ∃ y, z.getD 5 0 = y := ⟨_, rfl⟩; have g0 : w2.cell? ⟨bb, o, none⟩ = some (.int .u8 y0) := f 0 _ (by rw [ints_get (by rw [hzt]; omega), hz6 0 (by omega), hy0]); have hTe := hTe'.out; rw [hy0] at hTe
  by_cases h8 : y0 = 8
  · subst h8
    rw [if_neg (by omega)] at hTe; have hnb : ((8 : Int) != 8) = false := by decide
    have hy5b := hz'.out.get 5; rw [hy5] at hy5b; obtain ⟨N, rfl⟩ : ∃ N : Nat, y5 = N := ⟨y5.toNat, by omega⟩; have hnB : nB z 5 = N := by unfold nB; rw [hy5]; exact Int.toNat_natCast N
    rw [hnB] at hTe; obtain ⟨HH, hHH⟩ : ∃ x, 256 * z.getD 1 0 + z.getD 2 0 = x := ⟨_, rfl⟩; obtain ⟨WW, hWW⟩ : ∃ x, 256 * z.getD 3 0 + z.getD 4 0 = x := ⟨_, rfl⟩; rw [hHH, hWW] at hTe; obtain ⟨cs, hcs⟩ : ∃ cs, cmpsOf N (z.drop 6) = cs := ⟨_, rfl⟩; rw [hcs] at hTe; obtain ⟨e1, e2⟩ := get6 hzt; rw [hz6 1 (by omega), hz6 2 (by omega), hHH] at e1; rw [hz6 3 (by omega), hz6 4 (by omega), hWW] at e2; have hal3 := (Below.refl w2.heap.size w2).alloc (Nat.le_refl _) (.cells #[.int .i64 0, .int .i64 0, .slice none 0 0] 56); obtain ⟨W3, hW3⟩ : ∃ W3, w2.alloc (.cells #[.int .i64 0, .int .i64 0, .slice none 0 0] 56) = W3 := ⟨_, rfl⟩; have bX := Blk.new w2 56 #[.int .i64 0, .int .i64 0, .slice none 0 0]; rw [hW3] at hal3 bX; have hb3 := hb2.trans (hal3.mono hb2.size); have bF3 := bF2.late hal3; have hrd3 : Rd W3 (w.heap.size + 1) a2 (n - 6) c2 (z.drop 6) := ⟨hrd2.blk.late hal3, hrd2.sl.mono hal3, hrd2.ne⟩; obtain ⟨g7, hg7⟩ : ∃ g, w2.heap.size = g := ⟨_, rfl⟩; have hg7b : w.heap.size + 2 ≤ g7 := by have := bt2.size; have := hsz1'.out; omega
    have s3 := s1.mono hal3; have hx3 : Below w.heap.size w2 W3 := hal3.mono hb2.size; have sB : ∀ W, Below w.heap.size w2 W → Sl W (some ⟨bb, o, none⟩) 6 c1 1 (ints .u8 (z.take 6)) := fun W h => sl_monoB s1 l1 h; have hbt : Byt (z.take 6) := hz'.out.take 6; have HG := get_any (some ⟨bb, o, none⟩) 6 c1 (z.take 6) 1 2 2 W3 s3 hbt; rw [e1, show getB 6 1 2 2 = true by decide] at HG; rw [hg7] at bX; clear f e1 s3 bt2 s1 bF2 hb2 hrd2 i1 hal3; have hTe' := Lib.hid hTe; have hy5' := Lib.hid hy5; have hnB' := Lib.hid hnB; have hHH' := Lib.hid hHH; have hWW' := Lib.hid hWW; have hcs' := Lib.hid hcs; have hW3' := Lib.hid hW3; have bX' := Lib.hid bX; have hb3' := Lib.hid hb3; have bF3' := Lib.hid bF3; have hrd3' := Lib.hid hrd3; have HG' := Lib.hid HG; have hz6' := Lib.hid hz6; have hzt' := Lib.hid hzt; have hy0' := Lib.hid hy0; have l1' := Lib.hid l1; have l2' := Lib.hid l2; have i2' := Lib.hid i2; have hbt' := Lib.hid hbt; have hx3' := Lib.hid hx3; have sB' := Lib.hid sB; clear hTe hy5 hnB hHH hWW hcs hW3 bX hb3 bF3 hrd3 HG hz6 hzt hy0 l1 l2 i2 hbt hx3 sB
    go_wp2_with fail
    try rw [hg7]
    rw [hW3'.out]; clear g0 hg7; refine HG'.out.mono ?_; rintro e w4 ⟨rfl, hb4⟩; have bX4 := bX'.out.late hb4; have bF4 := bF3'.out.late hb4; have hrd4 : Rd w4 (w.heap.size + 1) a2 (n - 6) c2 (z.drop 6) := ⟨hrd3'.out.blk.late hb4, hrd3'.out.sl.mono hb4, hrd3'.out.ne⟩; have hbw4 := hb3'.out.trans (hb4.mono hb3'.out.size); have k1 : w4.cell? ⟨g7, 1, none⟩ = some (.int .i64 0) := bX4.cell rfl; have r1 := bX4.frozen 1; have bX5 : Blk (w4.setCell ⟨g7, 1, none⟩ (.int .i64 HH)) g7 56 #[.int .i64 0, .int .i64 HH, .slice none 0 0] := bX4.set 1 _; have hbw5 := hbw4.setCell (p := ⟨g7, 1, none⟩) (by show w.heap.size ≤ g7; omega) (.int .i64 HH); have bF5 : Blk (w4.setCell ⟨g7, 1, none⟩ (.int .i64 HH)) w.heap.size 56 #[.int .i64 0, .int .i64 0, .slice none 0 0] := bF4.set_other (g' := g7) (by omega) 1 (.int .i64 HH); have hbtB : But g7 w4 (w4.setCell ⟨g7, 1, none⟩ (.int .i64 HH)) := (But.refl g7 w4).set 1 _; have hrd5 : Rd (w4.setCell ⟨g7, 1, none⟩ (.int .i64 HH)) (w.heap.size + 1) a2 (n - 6) c2 (z.drop 6) := ⟨hrd4.blk.but hbtB (by omega), hrd4.sl.but hbtB (fun x hx => by have := l2'.out x hx; omega), hrd4.ne⟩; obtain ⟨w5, hw5⟩ : ∃ w5, w4.setCell ⟨g7, 1, none⟩ (.int .i64 HH) = w5 := ⟨_, rfl⟩; rw [hw5] at bX5 hbw5 bF5 hrd5; have hx5 : Below w.heap.size w2 w5 := by rw [← hw5]; exact (hx3'.out.trans (hb4.mono hb3'.out.size)).setCell (p := ⟨g7, 1, none⟩) (by show w.heap.size ≤ g7; omega) (.int .i64 HH)
    have s5 := sB'.out w5 hx5; have HG2 := get_any (some ⟨bb, o, none⟩) 6 c1 (z.take 6) 3 2 2 w5 s5 hbt'.out; rw [e2, show getB 6 3 2 2 = true by decide] at HG2; clear hb4 bX4 bF4 hrd4 hbw4 hbtB s5; have bX5' := Lib.hid bX5; have hbw5' := Lib.hid hbw5; have bF5' := Lib.hid bF5; have hrd5' := Lib.hid hrd5; have hw5' := Lib.hid hw5; have HG2' := Lib.hid HG2; have hx5' := Lib.hid hx5; clear bX5 hbw5 bF5 hrd5 hw5 HG2 hx5
    go_wp2_with fail
    rw [hw5'.out]; refine HG2'.out.mono ?_; rintro e w6 ⟨rfl, hb6⟩; have bX6 := bX5'.out.late hb6; have bF6 := bF5'.out.late hb6; have hrd6 : Rd w6 (w.heap.size + 1) a2 (n - 6) c2 (z.drop 6) := ⟨hrd5'.out.blk.late hb6, hrd5'.out.sl.mono hb6, hrd5'.out.ne⟩; have hbw6 := hbw5'.out.trans (hb6.mono hbw5'.out.size); have p1 : w6.cell? ⟨g7, 0, none⟩ = some (.int .i64 0) := bX6.cell rfl; have r2 := bX6.frozen 0; have bX7 : Blk (w6.setCell ⟨g7, 0, none⟩ (.int .i64 WW)) g7 56 #[.int .i64 WW, .int .i64 HH, .slice none 0 0] := bX6.set 0 _; have hbw7 := hbw6.setCell (p := ⟨g7, 0, none⟩) (by show w.heap.size ≤ g7; omega) (.int .i64 WW); have bF7 : Blk (w6.setCell ⟨g7, 0, none⟩ (.int .i64 WW)) w.heap.size 56 #[.int .i64 0, .int .i64 0, .slice none 0 0] := bF6.set_other (g' := g7) (by omega) 0 (.int .i64 WW); have hbtC : But g7 w6 (w6.setCell ⟨g7, 0, none⟩ (.int .i64 WW)) := (But.refl g7 w6).set 0 _; have hrd7 : Rd (w6.setCell ⟨g7, 0, none⟩ (.int .i64 WW)) (w.heap.size + 1) a2 (n - 6) c2 (z.drop 6) := ⟨hrd6.blk.but hbtC (by omega), hrd6.sl.but hbtC (fun x hx => by have := l2'.out x hx; omega), hrd6.ne⟩; obtain ⟨w7, hw7⟩ : ∃ w7, w6.setCell ⟨g7, 0, none⟩ (.int .i64 WW) = w7 := ⟨_, rfl⟩; rw [hw7] at bX7 hbw7 bF7 hrd7; have hx7 : Below w.heap.size w2 w7 := by rw [← hw7]; exact (hx5'.out.trans (hb6.mono hbw5'.out.size)).setCell (p := ⟨g7, 0, none⟩) (by show w.heap.size ≤ g7; omega) (.int .i64 WW)
    obtain ⟨_, _, e9, _, f9⟩ := (sB'.out w7 hx7).at (show 0 < 6 by omega)
    cases e9
    have q5 : w7.cell? ⟨bb, o + 5, none⟩ = some (.int .u8 N) := f9 5 _ (by rw [ints_get (by rw [hzt'.out]; omega), hz6'.out 5 (by omega), hy5'.out]); clear hb6 bX6 bF6 hrd6 hbw6 hbtC f9 k1 r1; have bX7' := Lib.hid bX7; have hbw7' := Lib.hid hbw7; have bF7' := Lib.hid bF7; have hrd7' := Lib.hid hrd7; have hw7' := Lib.hid hw7; have hx7' := Lib.hid hx7; clear bX7 hbw7 bF7 hrd7 hw7 hx7
    go_upto_region 10 with fail
    rw [hw7'.out]; clear p1 r2
    go_wp2
    go_loopw [8, 9, 43] (fun _ _ iv wr => ∃ (k : Nat) (a3 : Option Addr) (c3 : Nat) (a2 : Option Addr) (nn c2 : Nat), k ≤ N ∧ Hid (nn + (6 + 3 * k) = n) ∧ iv = .int .u8 k ∧ Hid (Rd wr (w.heap.size + 1) a2 nn c2 (z.drop (6 + 3 * k))) ∧ Hid (∀ x, a2 = some x → x.block < w.heap.size) ∧ Hid (Blk wr g7 56 #[.int .i64 WW, .int .i64 HH, .slice a3 k c3]) ∧ Hid (wr.ownsRow (g7 + 1) 167 4 (.slice a3 k c3) k (((cs.take k).map cmpC).flatten)) ∧ Hid (Blk wr w.heap.size 56 #[.int .i64 0, .int .i64 0, .slice none 0 0]) ∧ Hid (Below w.heap.size w wr)) (fun _ _ iv _ => N - (intOf iv).toNat)
    case atStart => exact ⟨0, none, 0, a2, n - 6, c2, by omega, Lib.hid (by omega), rfl, hrd7', l2', bX7', Lib.hid (own_nil _ _ _ _), bF7', hbw7'⟩
    case round =>
      obtain ⟨k, a3, c3, a2, nn, c2, hk, hnn, rfl, hrd, hl2, bX, Ob, bF, hbel⟩ := hrel
      by_cases hlt : k < N
      · by_cases h3 : nn < 3
        · have HT := take_no (w.heap.size + 1) a2 nn c2 _ 3 wr hrd.out h3 (by omega)
          obtain rfl : T = (3, 0, 0, []) := by
            rw [hTe'.out, if_pos (by have := hnn.out; have := hzl'.out; omega)]
          have HT' := Lib.hid HT; clear HT
          go_wp2_with fail
          refine HT'.out.mono ?_; rintro e w8 ⟨rfl, rfl⟩; have bz : Blk (wr.setRow w.heap.size #[.int .i64 0, .int .i64 0, .slice none 0 0]) w.heap.size 56 #[.int .i64 0, .int .i64 0, .slice none 0 0] := setRow_heap _ _ _ _ _ _ bF.out; have hbz := rowBelow hbel.out (Nat.le_refl w.heap.size) #[.int .i64 0, .int .i64 0, .slice none 0 0]; have bz' := Lib.hid bz; have hbz' := Lib.hid hbz; clear bz hbz
          go_wp2_with (refine wpList_store_row rfl 56 (.tmp 2) (.tmp 52) rfl w.heap.size #[.int .i64 0, .int .i64 0, .slice none 0 0] rfl rfl 56 _ bF.out infoFr rfl zeroF_one ?_)
          refine bodyPost_ret (results_blk_tmp rfl _ _ w.heap.size 56 #[.int .i64 0, .int .i64 0, .slice none 0 0] _ rfl bz'.out Try.underlying56 rfl infoFr) rfl ?_; exact frame_no hbz'.out
        · have HT := take_yes (w.heap.size + 1) a2 nn c2 _ 3 wr hrd.out (by omega) (by omega)
          have hkn : 6 + 3 * k + 3 ≤ z.length := by have := hnn.out; have := hzl'.out; omega
          have HT' := Lib.hid HT; have hkn' := Lib.hid hkn; clear HT hkn
          go_wp2_with fail
          refine HT'.out.mono ?_; rintro e w8 ⟨a1, c1', a4, c4, rfl, s8, i8, hrd8, i4, bt8⟩; have l8 := in_lt i8 hl2.out; have l4 := in_lt i4 hl2.out; have hwr : w.heap.size ≤ wr.heap.size := hbel.out.size; have bX8 := bX.out.but bt8 (by omega); have bF8 := bF.out.but bt8 (by omega); have Ob8 := own_but Ob.out bt8 (own_neB Ob.out hrd.out.blk (by decide)); have hb8 := hbel.out.trans (bt8.below (by omega) hwr)
          have hz3 : ∀ i, i < 3 → ((z.drop (6 + 3 * k)).take 3).getD i 0 = z.getD (6 + 3 * k + i) 0 := fun i hi => by
            rw [List.getD_eq_getElem?_getD, List.getElem?_take, if_pos hi, List.getElem?_drop, ← List.getD_eq_getElem?_getD]
          have hz3l : ((z.drop (6 + 3 * k)).take 3).length = 3 := by rw [List.length_take, List.length_drop]; have := hkn'.out; omega
          obtain ⟨b8, o8, rfl, hbb8, f8⟩ := s8.at (show 0 < 3 by omega); have hb8w : b8 < w.heap.size := l8 _ rfl; obtain ⟨y1, hy1⟩ : ∃ y, z.getD (6 + 3 * k + 0) 0 = y := ⟨_, rfl⟩; obtain ⟨y2, hy2⟩ : ∃ y, z.getD (6 + 3 * k + 1) 0 = y := ⟨_, rfl⟩; obtain ⟨y3, hy3⟩ : ∃ y, z.getD (6 + 3 * k + 2) 0 = y := ⟨_, rfl⟩; have u1 : w8.cell? ⟨b8, o8, none⟩ = some (.int .u8 y1) := f8 0 _ (by rw [ints_get (by rw [hz3l]; omega), hz3 0 (by omega), hy1]); have u2 : w8.cell? ⟨b8, o8 + 1, none⟩ = some (.int .u8 y2) := f8 1 _ (by rw [ints_get (by rw [hz3l]; omega), hz3 1 (by omega), hy2]); have u3 : w8.cell? ⟨b8, o8 + 2, none⟩ = some (.int .u8 y3) := f8 2 _ (by rw [ints_get (by rw [hz3l]; omega), hz3 2 (by omega), hy3]); have v1 := hz'.out.get (6 + 3 * k + 0); have v2 := hz'.out.get (6 + 3 * k + 1); have v3 := hz'.out.get (6 + 3 * k + 2); rw [hy1] at v1; rw [hy2] at v2; rw [hy3] at v3; obtain ⟨v1a, v1b⟩ := v1; obtain ⟨v2a, v2b⟩ := v2; obtain ⟨v3a, v3b⟩ := v3; have ha := and15 v2a v2b
          have hck : cs[k]? = some (y1, y2 / 16, y2 % 16, y3) := by
            rw [← hcs'.out, cmpsOf_get N k _ hlt]; simp only [List.getD_eq_getElem?_getD, List.getElem?_drop]; rw [← hy1, ← hy2, ← hy3]; simp only [List.getD_eq_getElem?_getD, Nat.add_assoc, Nat.add_zero]
          have hsn := map_take_snoc (f := cmpC) hck; have hg7w : g7 < w8.heap.size := bX8.lt; obtain ⟨wD, hwD⟩ : ∃ wD, w8.drew = wD := ⟨_, rfl⟩; have hd := (Below.refl w8.heap.size w8).drew; rw [hwD] at hd; have bXD := bX8.late hd; have bFD := bF8.late hd; have ObD := own_later Ob8 hd; have hbD := hb8.trans (hd.mono hb8.size); have hrdD : Rd wD (w.heap.size + 1) a4 (nn - 3) c4 ((z.drop (6 + 3 * k)).drop 3) := ⟨hrd8.blk.late hd, hrd8.sl.mono hd, hrd8.ne⟩
          have hdd : (z.drop (6 + 3 * k)).drop 3 = z.drop (6 + 3 * (k + 1)) := by
            rw [List.drop_drop]
            congr 1
          rw [hdd] at hrdD
          have hcl : ∀ W, Below w.heap.size w8 W → W.cell? ⟨b8, o8, none⟩ = some (.int .u8 y1) ∧ W.cell? ⟨b8, o8 + 1, none⟩ = some (.int .u8 y2) ∧ W.cell? ⟨b8, o8 + 2, none⟩ = some (.int .u8 y3) := fun W hW =>
            ⟨(hW.cell (p := ⟨b8, o8, none⟩) hb8w).trans u1, (hW.cell (p := ⟨b8, o8 + 1, none⟩) hb8w).trans u2, (hW.cell (p := ⟨b8, o8 + 2, none⟩) hb8w).trans u3⟩
          have hdB : Below w.heap.size w8 wD := hd.mono hb8.size; have p2 : wD.cell? ⟨g7, 2, none⟩ = some (.slice a3 k c3) := bXD.cell rfl; obtain ⟨Ty, ff, hne, qq, hsurj⟩ := pr_worlds (fun W => (W.cell? ⟨b8, o8, none⟩ = some (.int .u8 y1) ∧ W.cell? ⟨b8, o8 + 1, none⟩ = some (.int .u8 y2) ∧ W.cell? ⟨b8, o8 + 2, none⟩ = some (.int .u8 y3)) ∧ W.cell? ⟨g7, 2, none⟩ = some (.slice a3 k c3)) wD ⟨hcl wD hdB, p2⟩; have q0 := fun s => (qq s).1.1; have q1 := fun s => (qq s).1.2.1; have q2 := fun s => (qq s).1.2.2; have q3 := fun s => (qq s).2; have HS := Lib.hid (hsurj _ ⟨hcl wD hdB, p2⟩); have hal := (Below.refl wD.heap.size wD).alloc (Nat.le_refl _) (.cells #[.int .i64 y1, .int .i64 (y2 / 16), .int .i64 (y2 % 16), .int .i64 y3] 167); have sA : Sl (wD.alloc (.cells #[.int .i64 y1, .int .i64 (y2 / 16), .int .i64 (y2 % 16), .int .i64 y3] 167)) (some ⟨wD.heap.size, 0, none⟩) 1 1 4 (cmpC (y1, y2 / 16, y2 % 16, y3)) := Sl.new wD 167 4 1 #[.int .i64 y1, .int .i64 (y2 / 16), .int .i64 (y2 % 16), .int .i64 y3] (0, 0) (by omega) rfl; obtain ⟨wA, hwA⟩ : ∃ wA, wD.alloc (.cells #[.int .i64 y1, .int .i64 (y2 / 16), .int .i64 (y2 % 16), .int .i64 y3] 167) = wA := ⟨_, rfl⟩; rw [hwA] at hal sA; have bXA := bXD.late hal; have bFA := bFD.late hal; have ObA := own_later ObD hal; have hbA := hbD.trans (hal.mono hbD.size); have hrdA : Rd wA (w.heap.size + 1) a4 (nn - 3) c4 (z.drop (6 + 3 * (k + 1))) := ⟨hrdD.blk.late hal, hrdD.sl.mono hal, hrdD.ne⟩; have hdA : Below w.heap.size w8 wA := hdB.trans (hal.mono hbD.size); have HSA := Lib.hid (hsurj _ ⟨hcl wA hdA, bXA.cell rfl⟩); have hszA : g7 + 1 ≤ wA.heap.size := bXA.lt; have hw8 : IntKind.u8.wrap ((k : Int) + 1) = k + 1 := by rw [IntKind.wrap_u8]; omega
          clear qq p2 u1 u2 u3 f8 hd hrd8 s8 bt8 bX8 bF8 Ob8 hb8 hdd hal i8 i4 hz3 hz3l; have l8' := Lib.hid l8; have l4' := Lib.hid l4; have bXD' := Lib.hid bXD; have bFD' := Lib.hid bFD; have ObD' := Lib.hid ObD; have hbD' := Lib.hid hbD; have hrdD' := Lib.hid hrdD; have hcl' := Lib.hid hcl; have hdB' := Lib.hid hdB; have hsurj' := Lib.hid hsurj; have sA' := Lib.hid sA; have hwA' := Lib.hid hwA; have hwD' := Lib.hid hwD; have bXA' := Lib.hid bXA; have bFA' := Lib.hid bFA; have ObA' := Lib.hid ObA; have hbA' := Lib.hid hbA; have hrdA' := Lib.hid hrdA; have hdA' := Lib.hid hdA; have hck' := Lib.hid hck; have hsn' := Lib.hid hsn; have hy1' := Lib.hid hy1; have hy2' := Lib.hid hy2; have hy3' := Lib.hid hy3; clear l8 l4 bXD bFD ObD hbD hrdD hcl hdB hsurj sA hwA hwD bXA bFA ObA hbA hrdA hdA hck hsn hy1 hy2 hy3
          go_wp2_with fail
          refine till_begin (t := 24) (C := fun W => ∃ s, W = ff s) (by kernel_rfl) 25 rfl ?_; rw [hwD'.out]; refine till_take [0, 1, 2, 3, 4, 5, 6, 7, 8, 9, 10, 11, 12, 13, 14, 15, 16, 17, 18, 19] 5 (by kernel_rfl) (fun d _ _ _ _ h => by cases d <;> exact h) (by kernel_rfl) (by kernel_rfl) (by kernel_rfl) HS.out ?_; simp only [pickL, List.map_cons, List.map_nil, List.getD_cons_succ, List.getD_cons_zero]
          iterate 20 (go_big_quiet_step (fail))
          refine wpQuiet_nil ?_; refine till_one 20 4 (by kernel_rfl) (by kernel_rfl) ?_; simp only [pickL, List.map_cons, List.map_nil, List.getD_cons_succ, List.getD_cons_zero]
          go_wp2_with fail
          first | refine Mid.mk ⟨fun _ => HS.out, ?_⟩ | refine Mid.mk ?_
          refine till_one 21 3 (by kernel_rfl) (by kernel_rfl) ?_; simp only [pickL, List.map_cons, List.map_nil, List.getD_cons_succ, List.getD_cons_zero]
          go_wp2_with fail
          rw [hwA'.out]
          first | refine Mid.mk ⟨fun _ => HSA.out, ?_⟩ | refine Mid.mk ?_
          clear q0 q1 q2 q3 hne; refine till_one 22 2 (by kernel_rfl) (by kernel_rfl) ?_; simp only [pickL, List.map_cons, List.map_nil, List.getD_cons_succ, List.getD_cons_zero]
          go_wp2_with (at_builtin; refine wpList_app rfl _ _ 54 rfl (g7 + 1) 167 i0 _ 4 32 Try.underlying54 hi hiz hq1 hq2 hq3 (by decide) _ k _ rfl ObA'.out _ 1 1 _ rfl sA'.out ints_one (by omega) (by decide) hszA ?_; intro a5 c5 w9 ob9 hb9 hg9; have Ob9 := Lib.hid ob9; have Hb9 := Lib.hid hb9; clear ob9 hb9 hg9)
          have bX9 := bXA'.out.mono Hb9.out (by omega); have bF9 := bFA'.out.mono Hb9.out (by omega); have hb9 := hbA'.out.trans (Hb9.out.mono (by omega)); have hrd9 : Rd w9 (w.heap.size + 1) a4 (nn - 3) c4 (z.drop (6 + 3 * (k + 1))) := hrdA'.out.monoB (fun x hx => by have := l4'.out x hx; omega) (by omega) Hb9.out; have hd9 : Below w.heap.size w8 w9 := hdA'.out.trans (Hb9.out.mono (by omega)); have HS9 := Lib.hid (hsurj'.out _ ⟨hcl'.out w9 hd9, bX9.cell rfl⟩)
          first | refine Mid.mk ⟨fun _ => HS9.out, ?_⟩ | refine Mid.mk ?_
          refine till_one 23 1 (by kernel_rfl) (by kernel_rfl) ?_; simp only [pickL, List.map_cons, List.map_nil, List.getD_cons_succ, List.getD_cons_zero]
          go_wp2_with fail
          first | refine Mid.mk ⟨fun _ => HS9.out, ?_⟩ | refine Mid.mk ?_
          have p4 : w9.cell? ⟨g7, 2, none⟩ = some (.slice a3 k c3) := bX9.cell rfl; have y4 := bX9.frozen 2; have bX10 : Blk (w9.setCell ⟨g7, 2, none⟩ (.slice a5 (k + 1) c5)) g7 56 #[.int .i64 WW, .int .i64 HH, .slice a5 (k + 1) c5] := bX9.set 2 _; have hb10 := hb9.setCell (p := ⟨g7, 2, none⟩) (by show w.heap.size ≤ g7; omega) (.slice a5 (k + 1) c5); have bF10 : Blk (w9.setCell ⟨g7, 2, none⟩ (.slice a5 (k + 1) c5)) w.heap.size 56 #[.int .i64 0, .int .i64 0, .slice none 0 0] := bF9.set_other (g' := g7) (by omega) 2 (.slice a5 (k + 1) c5); have hbtX : But g7 w9 (w9.setCell ⟨g7, 2, none⟩ (.slice a5 (k + 1) c5)) := (But.refl g7 w9).set 2 _; have hrd10 : Rd (w9.setCell ⟨g7, 2, none⟩ (.slice a5 (k + 1) c5)) (w.heap.size + 1) a4 (nn - 3) c4 (z.drop (6 + 3 * (k + 1))) := ⟨hrd9.blk.but hbtX (by omega), hrd9.sl.but hbtX (fun x hx => by have := l4'.out x hx; omega), hrd9.ne⟩; have Ob10 := own_but Ob9.out hbtX (own_neB Ob9.out bX9 (by decide))
          have Ob11 : (w9.setCell ⟨g7, 2, none⟩ (.slice a5 (k + 1) c5)).ownsRow (g7 + 1) 167 4 (.slice a5 (k + 1) c5) (k + 1) (((cs.take (k + 1)).map cmpC).flatten) := by
            rw [hsn'.out, List.flatten_append]
            simpa using Ob10
          clear Ob10 hbtX bX9 bF9 hb9 hrd9 hd9; have bX10' := Lib.hid bX10; have hb10' := Lib.hid hb10; have bF10' := Lib.hid bF10; have hrd10' := Lib.hid hrd10; have Ob11' := Lib.hid Ob11; clear bX10 hb10 bF10 hrd10 Ob11; refine till_one 24 0 (by kernel_rfl) (by kernel_rfl) ?_; simp only [pickL, List.map_cons, List.map_nil, List.getD_cons_succ, List.getD_cons_zero]
          go_wp2_with fail
          first | refine Mid.mk ⟨fun h => (by simp [segL] at h), ?_⟩ | refine Mid.mk ?_
          refine till_last (by kernel_rfl) ?_; clear p4 y4 HS HSA HS9 ha
          go_wp2
          have hnn2 : nn - 3 + (6 + 3 * (k + 1)) = n := by have := hnn.out; omega
          have hnn2' := Lib.hid hnn2; clear hnn2
          go_roundw
          case rel => exact ⟨k + 1, a5, c5, a4, nn - 3, c4, by omega, hnn2', by go_num, hrd10', l4', bX10', Ob11', bF10', hb10'⟩
          case measure => simp [intOf]; omega
      · have hkN : k = N := by omega
        have Ob2 := Ob.out; rw [hkN, List.take_of_length_le (by rw [← hcs'.out, cmpsOf_len]; exact Nat.le_refl _)] at Ob2; have hnnN : nn + (6 + 3 * N) = n := by rw [← hkN]; exact hnn.out
        have bX2 := bX.out; rw [hkN] at bX2; have kr : wr.cell? ⟨w.heap.size + 1, 0, none⟩ = some (.slice a2 nn c2) := hrd.out.blk.cell rfl; have hTe := hTe'.out
        by_cases h0 : 0 < nn
        · obtain rfl : T = (2, 0, 0, []) := by
            rw [hTe, if_neg (by have := hzl'.out; omega), if_pos (by have := hzl'.out; omega)]
          have d0 : decide ((0 : Int) < nn) = true := by simp; omega
          have bz : Blk (wr.setRow w.heap.size #[.int .i64 0, .int .i64 0, .slice none 0 0]) w.heap.size 56 #[.int .i64 0, .int .i64 0, .slice none 0 0] := setRow_heap _ _ _ _ _ _ bF.out; have hbz := rowBelow hbel.out (Nat.le_refl w.heap.size) #[.int .i64 0, .int .i64 0, .slice none 0 0]; clear hkN hnnN hTe; have bz' := Lib.hid bz; have hbz' := Lib.hid hbz; have Ob2' := Lib.hid Ob2; have bX2' := Lib.hid bX2; clear bz hbz Ob2 bX2
          go_wp2_with (refine wpList_store_row rfl 56 (.tmp 2) (.tmp 84) rfl w.heap.size #[.int .i64 0, .int .i64 0, .slice none 0 0] rfl rfl 56 _ bF.out infoFr rfl zeroF_one ?_)
          refine bodyPost_ret (results_blk_tmp rfl _ _ w.heap.size 56 #[.int .i64 0, .int .i64 0, .slice none 0 0] _ rfl bz'.out Try.underlying56 rfl infoFr) rfl ?_; exact frame_no hbz'.out
        · have hnn0 : nn = 0 := by omega
          rw [if_neg (by have := hzl'.out; omega), if_neg (by have := hzl'.out; omega)] at hTe; have v1 := hz'.out.get 1; have v2 := hz'.out.get 2; have v3 := hz'.out.get 3; have v4 := hz'.out.get 4; have hfw : Wf WW := by unfold Wf; rw [← hWW'.out]; omega
          have hfh : Wf HH := by unfold Wf; rw [← hHH'.out]; omega
          have hStr : StR cmpL 4 wr a3 N c3 cs := ⟨by rw [ints_flat]; exact (Sl.of_own Ob2).1, by rw [← hcs'.out, cmpsOf_len]⟩; have HC := check_any WW HH a3 N c3 cs wr hStr (by omega) (fun x hx => cmpsOf_wf N (z.drop 6) (hz'.out.drop _) x (by rw [hcs'.out]; exact hx)) hfw hfh; obtain ⟨K, hK⟩ : ∃ K, frmE WW HH cs = K := ⟨_, rfl⟩; rw [hK] at HC hTe; have x0 : wr.cell? ⟨g7, 0, none⟩ = some (.int .i64 WW) := bX2.cell rfl; have x1 : wr.cell? ⟨g7, 1, none⟩ = some (.int .i64 HH) := bX2.cell rfl; have x2 : wr.cell? ⟨g7, 2, none⟩ = some (.slice a3 N c3) := bX2.cell rfl; clear hkN hnnN h0 v1 v2 v3 v4; subst hnn0; have HC' := Lib.hid HC; have hTe' := Lib.hid hTe; have Ob2' := Lib.hid Ob2; have bX2' := Lib.hid bX2; have hStr' := Lib.hid hStr; have hfw' := Lib.hid hfw; have hfh' := Lib.hid hfh; have hK' := Lib.hid hK; clear HC hTe Ob2 bX2 hStr hfw hfh hK
          go_wp2_with fail
          clear x0 x1 x2 kr; refine HC'.out.mono ?_; rintro e w8 ⟨rfl, hb8⟩; have bX8 := bX2'.out.late hb8; have bF8 := bF.out.late hb8; have Ob8 := own_later Ob2'.out hb8; have hbw8 := hbel.out.trans (hb8.mono hbel.out.size); have hg78 : g7 < w8.heap.size := bX8.lt; clear hb8
          by_cases hK0 : K = 0
          · subst hK0
            have hT0 : T = (0, WW, HH, cs) := by rw [hTe'.out]; rfl
            obtain rfl := hT0; have x0 : w8.cell? ⟨g7, 0, none⟩ = some (.int .i64 WW) := bX8.cell rfl; have x1 : w8.cell? ⟨g7, 1, none⟩ = some (.int .i64 HH) := bX8.cell rfl; have x2 : w8.cell? ⟨g7, 2, none⟩ = some (.slice a3 N c3) := bX8.cell rfl; have hone : (#[.int .i64 WW, .int .i64 HH, .slice a3 N c3] : Array Value).all (·.oneCell') = true := by simp [Value.oneCell']
            have bz : Blk (w8.setRow w.heap.size #[.int .i64 WW, .int .i64 HH, .slice a3 N c3]) w.heap.size 56 #[.int .i64 WW, .int .i64 HH, .slice a3 N c3] := setRow_heap _ _ _ _ _ _ bF8; have hbz := rowBelow hbw8 (Nat.le_refl w.heap.size) #[.int .i64 WW, .int .i64 HH, .slice a3 N c3]; have hoz := own_but Ob8 (but_row w.heap.size #[.int .i64 WW, .int .i64 HH, .slice a3 N c3]) (own_neB Ob8 bF8 (by decide)); have hoz2 := own_mono hoz (show w.heap.size ≤ g7 + 1 by omega); have hcl : cs.length = N := by rw [← hcs'.out, cmpsOf_len]
            clear hoz Ob8; have bz' := Lib.hid bz; have hbz' := Lib.hid hbz; have bF8' := Lib.hid bF8; have bX8' := Lib.hid bX8; have hoz2' := Lib.hid hoz2; have hcl' := Lib.hid hcl; have hone' := Lib.hid hone; clear bz hbz bF8 bX8 hoz2 hcl hone
            go_wp2_with (refine wpList_store_row rfl 56 (.tmp 2) (.tmp 91) rfl w.heap.size #[.int .i64 WW, .int .i64 HH, .slice a3 N c3] rfl rfl 56 _ bF8'.out infoFr rfl hone'.out ?_)
            refine bodyPost_ret (results_blk_tmp rfl _ _ w.heap.size 56 #[.int .i64 WW, .int .i64 HH, .slice a3 N c3] _ rfl bz'.out Try.underlying56 rfl infoFr) rfl ?_; exact ⟨hbz'.out, a3, N, c3, rfl, hoz2'.out, hcl'.out.symm⟩
          · have hT0 : T = (K, 0, 0, []) := by rw [hTe'.out, if_neg hK0]
            obtain rfl := hT0; have hnbK : (K != 0) = true := by simpa using hK0
            have bz : Blk (w8.setRow w.heap.size #[.int .i64 0, .int .i64 0, .slice none 0 0]) w.heap.size 56 #[.int .i64 0, .int .i64 0, .slice none 0 0] := setRow_heap _ _ _ _ _ _ bF8; have hbz := rowBelow hbw8 (Nat.le_refl w.heap.size) #[.int .i64 0, .int .i64 0, .slice none 0 0]; clear hK0 Ob8; have bz' := Lib.hid bz; have hbz' := Lib.hid hbz; have bF8' := Lib.hid bF8; have bX8' := Lib.hid bX8; clear bz hbz bF8 bX8
            go_wp2_with (refine wpList_store_row rfl 56 (.tmp 2) (.tmp 89) rfl w.heap.size #[.int .i64 0, .int .i64 0, .slice none 0 0] rfl rfl 56 _ bF8'.out infoFr rfl zeroF_one ?_)
            refine bodyPost_ret (results_blk_tmp rfl _ _ w.heap.size 56 #[.int .i64 0, .int .i64 0, .slice none 0 0] _ rfl bz'.out Try.underlying56 rfl infoFr) rfl ?_; exact frame_no hbz'.out
  · obtain rfl : T = (2, 0, 0, []) := by rw [hTe, if_pos h8]
    have hnb : (y0 != 8) = true := by simpa using h8
    have bz : Blk (w2.setRow w.heap.size #[.int .i64 0, .int .i64 0, .slice none 0 0]) w.heap.size 56 #[.int .i64 0, .int .i64 0, .slice none 0 0] := setRow_heap _ _ _ _ _ _ bF2; have hbz := rowBelow hb2 (Nat.le_refl w.heap.size) #[.int .i64 0, .int .i64 0, .slice none 0 0]; clear h8 f hTe; have bz' := Lib.hid bz; have hbz' := Lib.hid hbz; have bF2' := Lib.hid bF2; have hb2' := Lib.hid hb2; have s1' := Lib.hid s1; have i1' := Lib.hid i1; have hrd2' := Lib.hid hrd2; have i2' := Lib.hid i2; have bt2' := Lib.hid bt2; have hz6' := Lib.hid hz6; have hzt' := Lib.hid hzt; have hy0' := Lib.hid hy0; have hy5' := Lib.hid hy5; have l1' := Lib.hid l1; have l2' := Lib.hid l2; clear bz hbz bF2 hb2 s1 i1 hrd2 i2 bt2 hz6 hzt hy0 hy5 l1 l2
    go_wp2_with (refine wpList_store_row rfl 56 (.tmp 2) (.tmp 26) rfl w.heap.size #[.int .i64 0, .int .i64 0, .slice none 0 0] rfl rfl 56 _ bF2'.out infoFr rfl zeroF_one ?_)
    refine bodyPost_ret (results_blk_tmp rfl _ _ w.heap.size 56 #[.int .i64 0, .int .i64 0, .slice none 0 0] _ rfl bz'.out Try.underlying56 rfl infoFr) rfl ?_; exact frame_no hbz'.out
end Go.Proofs.Ytpjopeojeglogaa
