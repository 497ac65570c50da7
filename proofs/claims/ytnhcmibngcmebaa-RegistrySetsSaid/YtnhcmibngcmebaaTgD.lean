/- The document's part: Find, Set. | The document's part: Set. -/
import Derived.Test.YtnhcmibngcmebaaTgC
namespace Go.Proofs.Ytnhcmibngcmebaa
open Go.RowKit Tt
set_option linter.unusedVariables false
set_option linter.unusedSimpArgs false

def findS (ts : List Tg) (t : Int) : Bool × Int × Int × List Int := match ts.find? (fun y => decide (y.1 = t)) with
  | some y => (true, y.2)
  | none => (false, 0, 0, [])
theorem find_none {ts : List Tg} {t : Int} (h : ∀ y ∈ ts, y.1 ≠ t) : findS ts t = (false, 0, 0, []) := by
  unfold findS
  rw [List.find?_eq_none.2 (fun y hy => by simp [h y hy])]
theorem find_skip {A C : List Tg} {t : Int} {y : Tg} (h : ∀ y ∈ A, y.1 ≠ t) (hy : y.1 = t) : findS (A ++ y :: C) t = (true, y.2) := by
  unfold findS
  rw [List.find?_append, List.find?_eq_none.2 (fun y hy => by simp [h y hy]), List.find?_cons_of_pos (by simp [hy])]
  rfl
theorem find_at {zs : List Tz} {t : Int} {k : Nat} (hp : Pos zs t k) (hr : ∀ i, i + 1 < zs.length → key zs i < key zs (i + 1)) :
    findS (zs.map tag) t = if isB zs t k = true then (true, (tag (zs.getD k tz0)).2) else (false, 0, 0, []) := by
  by_cases hb : isB zs t k = true
  · obtain ⟨h1, h2⟩ := isB_cons hb
    rw [if_pos hb, ← List.take_append_drop k (zs.map tag), drop_key h1]
    exact find_skip (fun y hy => by have := pos_take hp y hy; omega) h2
  · rw [if_neg hb]
    refine find_none fun y hy => ?_
    rw [← List.take_append_drop k (zs.map tag)] at hy
    rcases List.mem_append.1 hy with hy | hy
    · have := pos_take hp y hy; omega
    · have := pos_after hp hr (by simpa using hb) y hy; omega

set_option maxRecDepth 20000 in
set_option maxHeartbeats 1000000 in
theorem rfind_any (a : Option Addr) (n c : Nat) (zs : List Tz) (t : Int) (w : World) (hs : Tr w a n c zs) (hl : n ≤ 1000000) :
    Calls Try.prog 23 #[.slice a n c, .int .i64 t] w fun e w' => ∃ (b : Bool) (y2 y3 : Int) (a' : Option Addr) (n' c' : Nat) (d : List Int), e = .returned (.tuple #[.agg #[.int .i64 y2, .int .i64 y3, .slice a' n' c'], .bool b]) ∧
      Sl w' a' n' c' 1 (ints .u8 d) ∧ findS (zs.map tag) t = (b, y2, y3, d) ∧ Below w.heap.size w w' := by
  have hzl := hs.len
  have hb0 := (Below.refl w.heap.size w).alloc (Nat.le_refl _) (.cells #[.int .i64 0, .int .i64 0, .slice none 0 0] 24)
  have b0 : Blk (w.alloc (.cells #[.int .i64 0, .int .i64 0, .slice none 0 0] 24)) w.heap.size 24 #[.int .i64 0, .int .i64 0, .slice none 0 0] := heap_new _ _
  have hs1 := hs.mono hb0
  have hs' := Lib.hid hs
  have hzl' := Lib.hid hzl
  have hb0' := Lib.hid hb0
  have b0' := Lib.hid b0
  have hs1' := Lib.hid hs1
  clear hs hzl hb0 b0 hs1
  go_enter Try.func23, Try.ntmps23
  go_wp2_with fail
  go_loopw [6] (fun iv wr => ∃ (i : Nat), i ≤ n ∧ iv = .int .i64 i ∧ wr = w.alloc (.cells #[.int .i64 0, .int .i64 0, .slice none 0 0] 24) ∧ Hid (∀ y ∈ (zs.map tag).take i, y.1 ≠ t)) (fun iv _ => n - (intOf iv).toNat)
  case atStart => exact ⟨0, by omega, rfl, rfl, Lib.hid (fun y hy => by cases hy)⟩
  case round =>
    obtain ⟨i, hin, rfl, rfl, hno⟩ := hrel
    obtain ⟨w1, hw1⟩ : ∃ w1, w.alloc (.cells #[.int .i64 0, .int .i64 0, .slice none 0 0] 24) = w1 := ⟨_, rfl⟩
    rw [hw1] at hb0' b0' hs1' ⊢
    have hw1' := Lib.hid hw1
    clear hw1
    have p0 : w1.cell? ⟨w.heap.size, 0, none⟩ = some (.int .i64 0) := b0'.out.cell rfl
    have p1 : w1.cell? ⟨w.heap.size, 1, none⟩ = some (.int .i64 0) := b0'.out.cell rfl
    have p2 : w1.cell? ⟨w.heap.size, 2, none⟩ = some (.slice none 0 0) := b0'.out.cell rfl
    have y0 := b0'.out.frozen 0
    have y1 := b0'.out.frozen 1
    have y2 := b0'.out.frozen 2
    by_cases hi : i < n
    · have hil : (i : Int) < (n : Int) := by omega
      have hww : IntKind.i64.wrap ((i : Int) + 1) = i + 1 := by rw [IntKind.wrap_i64]; omega
      obtain ⟨b, o, rfl, hblt, f0, f1, f2, f3, hrd⟩ := hs1'.out.at hi
      have hspl := drop_key (zs := zs) (k := i) (by rw [hzl'.out]; exact hi)
      have htk : (zs.map tag).take (i + 1) = (zs.map tag).take i ++ [tag (zs.getD i tz0)] := by
        rw [← List.map_take, take_next (by rw [hzl'.out]; exact hi), List.map_append, List.map_take]; rfl
      obtain ⟨⟨⟨y, ty, k, xa, xn, xc⟩, d⟩, hzi⟩ : ∃ z, zs.getD i tz0 = z := ⟨_, rfl⟩
      have hrw := hs'.out.each _ (getD_mem (zs := zs) (i := i) (by rw [hzl'.out]; exact hi))
      rw [hzi] at f0 f1 f2 f3 hrd hspl htk hrw
      simp only at f0 f1 f2 f3
      change Sl w xa xn xc 1 (ints .u8 d) at hrw
      by_cases hyt : y = t
      · have hd : (y == t) = true := by simp [hyt]
        have hfd := find_skip (C := (zs.map tag).drop (i + 1)) (y := (y, ty, k, d)) hno.out hyt
        rw [show (y, ty, k, d) = tag ((y, ty, k, xa, xn, xc), d) from rfl, ← hspl, List.take_append_drop] at hfd
        have hyt' := Lib.hid hyt
        have hspl' := Lib.hid hspl
        have htk' := Lib.hid htk
        have hrd' := Lib.hid hrd
        have hzi' := Lib.hid hzi
        have hfd' := Lib.hid hfd
        have hrw' := Lib.hid hrw
        clear hyt hspl htk hrd hzi hfd hrw
        go_wp2_with fail
        refine bodyPost_ret (results_blk_tmp rfl _ _ w.heap.size 24 #[.int .i64 ty, .int .i64 k, .slice xa xn xc] _ rfl (b0'.out.set3 _ _ _) Try.underlying24 rfl (by kernel_rfl)) rfl ?_
        have hbf := below_set3 hb0'.out (Nat.le_refl _) (.int .i64 ty) (.int .i64 k) (.slice xa xn xc)
        exact ⟨true, ty, k, xa, xn, xc, d, rfl, hrw'.out.mono hbf, hfd'.out, hbf⟩
      · have hd : (y == t) = false := by simp [hyt]
        have hno2 : ∀ y' ∈ (zs.map tag).take (i + 1), y'.1 ≠ t := fun y' hy' => by
          rw [htk] at hy'
          rcases List.mem_append.1 hy' with hy' | hy'
          · exact hno.out y' hy'
          · obtain rfl : y' = _ := by simpa using hy'
            exact hyt
        have hyt' := Lib.hid hyt
        have hspl' := Lib.hid hspl
        have htk' := Lib.hid htk
        have hrd' := Lib.hid hrd
        have hzi' := Lib.hid hzi
        have hno2' := Lib.hid hno2
        have hrw' := Lib.hid hrw
        clear hyt hspl htk hrd hzi hno2 hrw
        go_wp2_with fail
        go_roundw
        case rel => exact ⟨i + 1, by omega, by go_num, trivial, hno2'⟩
        case measure => simp [intOf]; omega
    · obtain rfl : i = n := by omega
      have hd : decide ((i : Int) < (i : Int)) = false := by simp
      go_wp2_with fail
      refine bodyPost_ret (results_blk_tmp rfl _ _ w.heap.size 24 #[.int .i64 0, .int .i64 0, .slice none 0 0] _ rfl (b0'.out.set3 _ _ _) Try.underlying24 rfl (by kernel_rfl)) rfl ?_
      refine ⟨false, 0, 0, none, 0, 0, [], rfl, (Sl.of_own (own_nil _ 0 0 1)).1, ?_, below_set3 hb0'.out (Nat.le_refl _) _ _ _⟩
      have h2 := hno.out
      rw [List.take_of_length_le (by rw [List.length_map, hzl'.out]; exact Nat.le_refl _)] at h2
      exact find_none h2
end Go.Proofs.Ytnhcmibngcmebaa

namespace Go.Proofs.Ytnhcmibngcmebaa
open Go.RowKit Tt
set_option linter.unusedVariables false
set_option linter.unusedSimpArgs false


theorem tw_take {l : List Tg} {k : Nat} {p : Tg → Bool} (h1 : ∀ y ∈ l.take k, p y = true) (h2 : k < l.length → p (l.getD k (0, 0, 0, [])) = false) : l.takeWhile p = l.take k := by
  conv => lhs; rw [← List.take_append_drop k l]
  rw [List.takeWhile_append_of_pos h1]
  by_cases hk : k < l.length
  · rw [List.drop_eq_getElem_cons hk, List.takeWhile_cons_of_neg (by have := h2 hk; rw [List.getD_eq_getElem?_getD, List.getElem?_eq_getElem hk] at this; simpa using this)]; simp
  · rw [List.drop_of_length_le (by omega)]; simp

set_option maxRecDepth 20000 in
set_option maxHeartbeats 8000000 in
theorem rset_any (a : Option Addr) (n c : Nat) (zs : List Tz) (x1 x2 x3 : Int) (xa : Option Addr) (xn xc : Nat) (d : List Int) (w : World) (hs : Tr w a n c zs) (hl : n ≤ 100000) (hd : ∀ z ∈ zs, z.1.2.2.2.2.1 ≤ 1000000)
    (hx : Sl w xa xn xc 1 (ints .u8 d)) (hxn : xn ≤ 1000000) :
    Calls Try.prog 25 #[.slice a n c, .agg #[.int .i64 x1, .int .i64 x2, .int .i64 x3, .slice xa xn xc]] w fun e w' => ∃ a' n' c' zs', e = .returned (.slice a' n' c') ∧ To w.heap.size w' a' n' c' zs' ∧ zs'.map tag = setS (zs.map tag) (x1, x2, x3, d) ∧ Below w.heap.size w w' := by
  have hzl := hs.len
  obtain ⟨i0, z0, hi0, hz, hz1, hz2, hz3⟩ := infoT_parts
  have hb0 := (Below.refl w.heap.size w).alloc (Nat.le_refl _) (.cells #[.int .i64 x1, .int .i64 x2, .int .i64 x3, .slice xa xn xc] 26)
  have b0 : Blk (w.alloc (.cells #[.int .i64 x1, .int .i64 x2, .int .i64 x3, .slice xa xn xc] 26)) w.heap.size 26 #[.int .i64 x1, .int .i64 x2, .int .i64 x3, .slice xa xn xc] := heap_new _ _
  have hsz : (w.alloc (.cells #[.int .i64 x1, .int .i64 x2, .int .i64 x3, .slice xa xn xc] 26)).heap.size = w.heap.size + 1 := by simp
  obtain ⟨Z, hZ⟩ : ∃ Z : Tz, Z = ((x1, x2, x3, xa, xn, xc), d) := ⟨_, rfl⟩
  have hs' := Lib.hid hs
  have hd' := Lib.hid hd
  have hzl' := Lib.hid hzl
  have hx' := Lib.hid hx
  have hb0' := Lib.hid hb0
  have b0' := Lib.hid b0
  have hZ' := Lib.hid hZ
  have hsz' := Lib.hid hsz
  clear hs hd hzl hx hb0 b0 hZ hsz
  go_enter Try.func25, Try.ntmps25
  go_wp2_with fail
  obtain ⟨w1, hw1⟩ : ∃ w1, w.alloc (.cells #[.int .i64 x1, .int .i64 x2, .int .i64 x3, .slice xa xn xc] 26) = w1 := ⟨_, rfl⟩
  rw [hw1] at hb0' b0' hsz' ⊢
  have hw1' := Lib.hid hw1
  clear hw1
  go_loopw [5, 6] (fun ov iv wr => ∃ (i : Nat) (a1 : Option Addr) (c1 : Nat), i ≤ n ∧ iv = .int .i64 i ∧ ov = .slice a1 i c1 ∧ Hid (wr.ownsRow (w.heap.size + 1) 26 4 (.slice a1 i c1) i (zc (zs.take i))) ∧ Hid (∀ y ∈ (zs.map tag).take i, y.1 < x1) ∧ Hid (Below (w.heap.size + 1) w1 wr)) (fun _ iv _ => n - (intOf iv).toNat)
  case atStart => exact ⟨0, none, 0, by omega, rfl, rfl, Lib.hid (own_nil _ _ _ _), Lib.hid (fun y hy => by cases hy), Lib.hid (Below.refl _ _)⟩
  case round =>
    obtain ⟨i, a1, c1, hin, rfl, rfl, hown, hlo, hb⟩ := hrel
    have hb0r := Lib.hid (hb0'.out.trans (hb.out.mono (Nat.le_succ _)))
    have br := Blk.mono b0'.out hb.out (Nat.lt_succ_self _)
    have p0 : wr.cell? ⟨w.heap.size, 0, none⟩ = some (.int .i64 x1) := br.cell rfl
    have p1 : wr.cell? ⟨w.heap.size, 1, none⟩ = some (.int .i64 x2) := br.cell rfl
    have p2 : wr.cell? ⟨w.heap.size, 2, none⟩ = some (.int .i64 x3) := br.cell rfl
    have p3 : wr.cell? ⟨w.heap.size, 3, none⟩ = some (.slice xa xn xc) := br.cell rfl
    have br' := Lib.hid br
    clear br
    by_cases hi : i < n
    · have hil : (i : Int) < (n : Int) := by omega
      have hww : IntKind.i64.wrap ((i : Int) + 1) = i + 1 := by rw [IntKind.wrap_i64]; omega
      obtain ⟨b, o, rfl, hblt, f0, f1, f2, f3, hrd⟩ := (hs'.out.mono hb0r.out).at hi
      have hnext := take_next (zs := zs) (i := i) (by rw [hzl'.out]; exact hi)
      have htk : (zs.map tag).take (i + 1) = (zs.map tag).take i ++ [tag (zs.getD i tz0)] := by
        rw [← List.map_take, hnext, List.map_append, List.map_take]; rfl
      have hgt : (zs.map tag).getD i (0, 0, 0, []) = tag (zs.getD i tz0) := by
        rw [List.getD_eq_getElem?_getD, List.getElem?_map, List.getElem?_eq_getElem (by rw [hzl'.out]; exact hi), List.getD_eq_getElem?_getD, List.getElem?_eq_getElem (by rw [hzl'.out]; exact hi)]; rfl
      obtain ⟨⟨⟨y, ty, k, ya, yn, yc⟩, yd⟩, hzi⟩ : ∃ z, zs.getD i tz0 = z := ⟨_, rfl⟩
      rw [hzi] at f0 f1 f2 f3 hrd hnext htk hgt
      simp only at f0 f1 f2 f3
      by_cases hyt : y < x1
      · have hlo2 : ∀ y' ∈ (zs.map tag).take (i + 1), y'.1 < x1 := fun y' hy' => by
          rw [htk] at hy'
          rcases List.mem_append.1 hy' with hy' | hy'
          · exact hlo.out y' hy'
          · obtain rfl : y' = _ := by simpa using hy'
            exact hyt
        have hnext' := Lib.hid hnext
        have htk' := Lib.hid htk
        have hgt' := Lib.hid hgt
        have hrd' := Lib.hid hrd
        have hzi' := Lib.hid hzi
        have hlo2' := Lib.hid hlo2
        clear hnext htk hgt hrd hzi hlo2
        go_wp2_with fail
        go_quiet (fail)
        go_wp2_with (at_builtin; refine wpList_app rfl _ _ 27 rfl (w.heap.size + 1) 26 i0 z0 4 48 Try.underlying27 hi0 hz hz1 hz2 hz3 (by decide) _ (i) _ rfl (World.ownsRow.alloc hown.out _) _ 1 1 [.int .i64 y, .int .i64 ty, .int .i64 k, .slice ya yn yc] rfl (Sl.new' _ 26 4 1 #[.int .i64 y, .int .i64 ty, .int .i64 k, .slice ya yn yc] (0, 0) (by simp) (by omega) rfl) (by simp [Value.oneCell']) (by omega) (by decide) (Nat.le_trans (Nat.le_of_eq hsz'.out.symm) ((hb.out.trans (((Qt.refl wr).step nq).below _)).alloc (by rw [← hsz'.out]; exact hb.out.size) _).size) ?_; intro a7 c7 w7 ob hb7 hg7; have Ob := Lib.hid (own_app (z := ((y, ty, k, ya, yn, yc), yd)) ob); have Hb7 := Lib.hid (((hb.out.trans (((Qt.refl wr).step nq).below _)).alloc (by rw [← hsz'.out]; exact hb.out.size) _).trans hb7); clear ob hb7 hg7)
        go_roundw
        case rel => exact ⟨i + 1, _, _, by omega, by go_num, rfl, by rw [hnext'.out]; exact Ob, hlo2', Hb7⟩
        case measure => simp [intOf]; omega
      · have hd : decide (y < x1) = false := by simp; omega
        have htw := Lib.hid (show (zs.map tag).takeWhile (fun y' => decide (y'.1 < x1)) = (zs.map tag).take i from tw_take (fun y' hy' => by simpa using hlo.out y' hy') (fun _ => by rw [hgt]; exact decide_eq_false hyt))
        have hnext' := Lib.hid hnext
        have htk' := Lib.hid htk
        have hgt' := Lib.hid hgt
        have hrd' := Lib.hid hrd
        have hzi' := Lib.hid hzi
        have hyt' := Lib.hid hyt
        clear hnext htk hgt hrd hzi hyt
        go_wp2_with fail
        go_quiet (fail)
        have hlen := hzl'.out
        go_wp2_with (at_builtin; refine wpList_app rfl _ _ 27 rfl (w.heap.size + 1) 26 i0 z0 4 48 Try.underlying27 hi0 hz hz1 hz2 hz3 (by decide) _ (i) _ rfl (World.ownsRow.alloc hown.out _) _ 1 1 [.int .i64 x1, .int .i64 x2, .int .i64 x3, .slice xa xn xc] rfl (Sl.new' _ 26 4 1 #[.int .i64 x1, .int .i64 x2, .int .i64 x3, .slice xa xn xc] (0, 0) (by simp) (by omega) rfl) (by simp [Value.oneCell']) (by omega) (by decide) (Nat.le_trans (Nat.le_of_eq hsz'.out.symm) ((hb.out.trans (((Qt.refl wr).step nq).below _)).alloc (by rw [← hsz'.out]; exact hb.out.size) _).size) ?_; intro a7 c7 w7 ob hb7 hg7; have Ob := Lib.hid (own_app (z := ((x1, x2, x3, xa, xn, xc), d)) ob); have Hb7 := Lib.hid (((hb.out.trans (((Qt.refl wr).step nq).below _)).alloc (by rw [← hsz'.out]; exact hb.out.size) _).trans hb7); clear ob hb7 hg7)
        clear p0 p1 p2 p3 br'
        clear hb0r
        go_loopw [5, 7] (fun ov iv wr => ∃ (j m : Nat) (a1 : Option Addr) (c1 : Nat), j ≤ n ∧ m ≤ i + 1 + j ∧ iv = .int .i64 j ∧ ov = .slice a1 m c1 ∧ Hid (wr.ownsRow (w.heap.size + 1) 26 4 (.slice a1 m c1) m (zc (zs.take i ++ [((x1, x2, x3, xa, xn, xc), d)] ++ (zs.take j).filter (fun z => decide (x1 < (tag z).1))))) ∧ Hid (Below (w.heap.size + 1) w1 wr)) (fun _ iv _ => n - (intOf iv).toNat)
        case atStart => exact ⟨0, i + 1, a7, c7, by omega, by omega, rfl, rfl, Lib.hid (by have := Ob.out; simpa using this), Hb7⟩
        case round =>
          obtain ⟨j, m, a2, c2, hjn, hmj, rfl, rfl, hown2, hb2⟩ := hrel
          have hb0r := Lib.hid (hb0'.out.trans (hb2.out.mono (Nat.le_succ _)))
          have br := Blk.mono b0'.out hb2.out (Nat.lt_succ_self _)
          have p0 : wr.cell? ⟨w.heap.size, 0, none⟩ = some (.int .i64 x1) := br.cell rfl
          have br' := Lib.hid br
          clear br
          by_cases hj : j < n
          · have hjl : (j : Int) < (n : Int) := by omega
            have hww : IntKind.i64.wrap ((j : Int) + 1) = j + 1 := by rw [IntKind.wrap_i64]; omega
            obtain ⟨b, o, hbo, hblt, f0, f1, f2, f3, hrd⟩ := (hs'.out.mono hb0r.out).at hj
            first | subst hbo | (simp only [Option.some.injEq, Addr.mk.injEq] at hbo; obtain ⟨rfl, rfl, -⟩ := hbo)
            have hnext := take_next (zs := zs) (i := j) (by rw [hzl'.out]; exact hj)
            obtain ⟨⟨⟨y, ty, k, ya, yn, yc⟩, yd⟩, hzi⟩ : ∃ z, zs.getD j tz0 = z := ⟨_, rfl⟩
            rw [hzi] at f0 f1 f2 f3 hrd hnext
            simp only at f0 f1 f2 f3
            by_cases hyt : x1 < y
            · have hf : zs.take i ++ [((x1, x2, x3, xa, xn, xc), d)] ++ (zs.take (j + 1)).filter (fun z => decide (x1 < (tag z).1)) = (zs.take i ++ [((x1, x2, x3, xa, xn, xc), d)] ++ (zs.take j).filter (fun z => decide (x1 < (tag z).1))) ++ [((y, ty, k, ya, yn, yc), yd)] := by
                rw [hnext, List.filter_append, List.filter_cons_of_pos (by simp [tag, hyt])]; simp
              have hf' := Lib.hid hf
              have hnext' := Lib.hid hnext
              have hrd' := Lib.hid hrd
              have hzi' := Lib.hid hzi
              clear hf hnext hrd hzi
              go_wp2_with fail
              go_quiet (fail)
              go_wp2_with (at_builtin; refine wpList_app rfl _ _ 27 rfl (w.heap.size + 1) 26 i0 z0 4 48 Try.underlying27 hi0 hz hz1 hz2 hz3 (by decide) _ (m) _ rfl (World.ownsRow.alloc hown2.out _) _ 1 1 [.int .i64 y, .int .i64 ty, .int .i64 k, .slice ya yn yc] rfl (Sl.new' _ 26 4 1 #[.int .i64 y, .int .i64 ty, .int .i64 k, .slice ya yn yc] (0, 0) (by simp) (by omega) rfl) (by simp [Value.oneCell']) (by omega) (by decide) (Nat.le_trans (Nat.le_of_eq hsz'.out.symm) ((hb2.out.trans (((Qt.refl wr).step nq).below _)).alloc (by rw [← hsz'.out]; exact hb2.out.size) _).size) ?_; intro a7 c7 w7 ob hb7 hg7; have Ob := Lib.hid (own_app (z := ((y, ty, k, ya, yn, yc), yd)) ob); have Hb7 := Lib.hid (((hb2.out.trans (((Qt.refl wr).step nq).below _)).alloc (by rw [← hsz'.out]; exact hb2.out.size) _).trans hb7); clear ob hb7 hg7)
              go_roundw
              case rel => exact ⟨j + 1, m + 1, _, _, by omega, by omega, by go_num, rfl, by rw [hf'.out]; exact Ob, Hb7⟩
              case measure => simp [intOf]; omega
            · have hd : decide (x1 < y) = false := by simp; omega
              have hf : zs.take i ++ [((x1, x2, x3, xa, xn, xc), d)] ++ (zs.take (j + 1)).filter (fun z => decide (x1 < (tag z).1)) = zs.take i ++ [((x1, x2, x3, xa, xn, xc), d)] ++ (zs.take j).filter (fun z => decide (x1 < (tag z).1)) := by
                rw [hnext, List.filter_append, List.filter_cons_of_neg (by show ¬ decide (x1 < y) = true; simp; omega)]; simp
              have hf' := Lib.hid hf
              have hnext' := Lib.hid hnext
              have hrd' := Lib.hid hrd
              have hzi' := Lib.hid hzi
              have hyt' := Lib.hid hyt
              clear hf hnext hrd hzi hyt
              go_wp2_with fail
              go_quiet (fail)
              have hb3 := Lib.hid (hb2.out.trans (((Qt.refl wr).step nq).below _))
              go_wp2_with fail
              go_roundw
              case rel => exact ⟨j + 1, m, _, _, by omega, by omega, by go_num, rfl, by rw [hf'.out]; exact hown2, hb3⟩
              case measure => simp [intOf]; omega
          · obtain rfl : j = n := by omega
            have hall : zs.take j = zs := List.take_of_length_le (by rw [hzl'.out]; exact Nat.le_refl _)
            have hown3 := hown2.out
            rw [hall] at hown3
            have hmem : ∀ z ∈ zs.take i ++ [((x1, x2, x3, xa, xn, xc), d)] ++ zs.filter (fun z => decide (x1 < (tag z).1)), Rd wr z ∧ z.1.2.2.2.2.1 ≤ 1000000 := fun z hz => by
              rcases List.mem_append.1 hz with hz | hz
              · rcases List.mem_append.1 hz with hz | hz
                · exact ⟨(hs'.out.each z (List.mem_of_mem_take hz)).mono hb0r.out, hd'.out z (List.mem_of_mem_take hz)⟩
                · obtain rfl : z = _ := by simpa using hz
                  exact ⟨hx'.out.mono hb0r.out, hxn⟩
              · exact ⟨(hs'.out.each z (List.mem_filter.1 hz).1).mono hb0r.out, hd'.out z (List.mem_filter.1 hz).1⟩
            have hT : Tr wr a2 m c2 (zs.take i ++ [((x1, x2, x3, xa, xn, xc), d)] ++ zs.filter (fun z => decide (x1 < (tag z).1))) := ⟨(Sl.of_own hown3).1, fun z hz => (hmem z hz).1⟩
            have hO := owntags_any a2 m c2 _ wr hT (by omega) (fun z hz => (hmem z hz).2)
            have hall' := Lib.hid hall
            have hown3' := Lib.hid hown3
            have hT' := Lib.hid hT
            have hO' := Lib.hid hO
            have hmem' := Lib.hid hmem
            clear hall hown3 hT hO hmem
            go_wp2_with fail
            refine hO'.out.mono ?_
            rintro e w2 ⟨a6, c6, zs', rfl, ho2, htg, hb6⟩
            have ho3 := ho2.le hb0r.out.size
            have hbw := hb0r.out.trans (hb6.mono hb0r.out.size)
            have ho2' := Lib.hid ho2
            have ho3' := Lib.hid ho3
            have htg' := Lib.hid htg
            have hbw' := Lib.hid hbw
            have hb6' := Lib.hid hb6
            clear ho2 ho3 htg hbw hb6
            go_wp2_with fail
            go_ret
            refine ⟨_, _, _, zs', rfl, ho3'.out, ?_, hbw'.out⟩
            rw [htg'.out]
            unfold setS
            rw [htw.out, List.map_append, List.map_append, List.map_take, map_filter (p := fun y => decide (x1 < y.1))]
            simp [tag]
    · have hdi : decide ((i : Int) < (n : Int)) = false := by simp; omega
      have htw := Lib.hid (show (zs.map tag).takeWhile (fun y' => decide (y'.1 < x1)) = (zs.map tag).take i from tw_take (fun y' hy' => by simpa using hlo.out y' hy') (fun h => absurd h (by rw [List.length_map, hzl'.out]; omega)))
      go_wp2_with fail
      go_quiet (fail)
      have hlen := hzl'.out
      go_wp2_with (at_builtin; refine wpList_app rfl _ _ 27 rfl (w.heap.size + 1) 26 i0 z0 4 48 Try.underlying27 hi0 hz hz1 hz2 hz3 (by decide) _ (i) _ rfl (World.ownsRow.alloc hown.out _) _ 1 1 [.int .i64 x1, .int .i64 x2, .int .i64 x3, .slice xa xn xc] rfl (Sl.new' _ 26 4 1 #[.int .i64 x1, .int .i64 x2, .int .i64 x3, .slice xa xn xc] (0, 0) (by simp) (by omega) rfl) (by simp [Value.oneCell']) (by omega) (by decide) (Nat.le_trans (Nat.le_of_eq hsz'.out.symm) ((hb.out.trans (((Qt.refl wr).step nq).below _)).alloc (by rw [← hsz'.out]; exact hb.out.size) _).size) ?_; intro a7 c7 w7 ob hb7 hg7; have Ob := Lib.hid (own_app (z := ((x1, x2, x3, xa, xn, xc), d)) ob); have Hb7 := Lib.hid (((hb.out.trans (((Qt.refl wr).step nq).below _)).alloc (by rw [← hsz'.out]; exact hb.out.size) _).trans hb7); clear ob hb7 hg7)
      clear p0 p1 p2 p3 br'
      clear hb0r
      go_loopw [5, 7] (fun ov iv wr => ∃ (j m : Nat) (a1 : Option Addr) (c1 : Nat), j ≤ n ∧ m ≤ i + 1 + j ∧ iv = .int .i64 j ∧ ov = .slice a1 m c1 ∧ Hid (wr.ownsRow (w.heap.size + 1) 26 4 (.slice a1 m c1) m (zc (zs.take i ++ [((x1, x2, x3, xa, xn, xc), d)] ++ (zs.take j).filter (fun z => decide (x1 < (tag z).1))))) ∧ Hid (Below (w.heap.size + 1) w1 wr)) (fun _ iv _ => n - (intOf iv).toNat)
      case atStart => exact ⟨0, i + 1, a7, c7, by omega, by omega, rfl, rfl, Lib.hid (by have := Ob.out; simpa using this), Hb7⟩
      case round =>
        obtain ⟨j, m, a2, c2, hjn, hmj, rfl, rfl, hown2, hb2⟩ := hrel
        have hb0r := Lib.hid (hb0'.out.trans (hb2.out.mono (Nat.le_succ _)))
        have br := Blk.mono b0'.out hb2.out (Nat.lt_succ_self _)
        have p0 : wr.cell? ⟨w.heap.size, 0, none⟩ = some (.int .i64 x1) := br.cell rfl
        have br' := Lib.hid br
        clear br
        by_cases hj : j < n
        · have hjl : (j : Int) < (n : Int) := by omega
          have hww : IntKind.i64.wrap ((j : Int) + 1) = j + 1 := by rw [IntKind.wrap_i64]; omega
          obtain ⟨b, o, hbo, hblt, f0, f1, f2, f3, hrd⟩ := (hs'.out.mono hb0r.out).at hj
          first | subst hbo | (simp only [Option.some.injEq, Addr.mk.injEq] at hbo; obtain ⟨rfl, rfl, -⟩ := hbo)
          have hnext := take_next (zs := zs) (i := j) (by rw [hzl'.out]; exact hj)
          obtain ⟨⟨⟨y, ty, k, ya, yn, yc⟩, yd⟩, hzi⟩ : ∃ z, zs.getD j tz0 = z := ⟨_, rfl⟩
          rw [hzi] at f0 f1 f2 f3 hrd hnext
          simp only at f0 f1 f2 f3
          by_cases hyt : x1 < y
          · have hf : zs.take i ++ [((x1, x2, x3, xa, xn, xc), d)] ++ (zs.take (j + 1)).filter (fun z => decide (x1 < (tag z).1)) = (zs.take i ++ [((x1, x2, x3, xa, xn, xc), d)] ++ (zs.take j).filter (fun z => decide (x1 < (tag z).1))) ++ [((y, ty, k, ya, yn, yc), yd)] := by
              rw [hnext, List.filter_append, List.filter_cons_of_pos (by simp [tag, hyt])]; simp
            have hf' := Lib.hid hf
            have hnext' := Lib.hid hnext
            have hrd' := Lib.hid hrd
            have hzi' := Lib.hid hzi
            clear hf hnext hrd hzi
            go_wp2_with fail
            go_quiet (fail)
            go_wp2_with (at_builtin; refine wpList_app rfl _ _ 27 rfl (w.heap.size + 1) 26 i0 z0 4 48 Try.underlying27 hi0 hz hz1 hz2 hz3 (by decide) _ (m) _ rfl (World.ownsRow.alloc hown2.out _) _ 1 1 [.int .i64 y, .int .i64 ty, .int .i64 k, .slice ya yn yc] rfl (Sl.new' _ 26 4 1 #[.int .i64 y, .int .i64 ty, .int .i64 k, .slice ya yn yc] (0, 0) (by simp) (by omega) rfl) (by simp [Value.oneCell']) (by omega) (by decide) (Nat.le_trans (Nat.le_of_eq hsz'.out.symm) ((hb2.out.trans (((Qt.refl wr).step nq).below _)).alloc (by rw [← hsz'.out]; exact hb2.out.size) _).size) ?_; intro a7 c7 w7 ob hb7 hg7; have Ob := Lib.hid (own_app (z := ((y, ty, k, ya, yn, yc), yd)) ob); have Hb7 := Lib.hid (((hb2.out.trans (((Qt.refl wr).step nq).below _)).alloc (by rw [← hsz'.out]; exact hb2.out.size) _).trans hb7); clear ob hb7 hg7)
            go_roundw
            case rel => exact ⟨j + 1, m + 1, _, _, by omega, by omega, by go_num, rfl, by rw [hf'.out]; exact Ob, Hb7⟩
            case measure => simp [intOf]; omega
          · have hd : decide (x1 < y) = false := by simp; omega
            have hf : zs.take i ++ [((x1, x2, x3, xa, xn, xc), d)] ++ (zs.take (j + 1)).filter (fun z => decide (x1 < (tag z).1)) = zs.take i ++ [((x1, x2, x3, xa, xn, xc), d)] ++ (zs.take j).filter (fun z => decide (x1 < (tag z).1)) := by
              rw [hnext, List.filter_append, List.filter_cons_of_neg (by show ¬ decide (x1 < y) = true; simp; omega)]; simp
            have hf' := Lib.hid hf
            have hnext' := Lib.hid hnext
            have hrd' := Lib.hid hrd
            have hzi' := Lib.hid hzi
            have hyt' := Lib.hid hyt
            clear hf hnext hrd hzi hyt
            go_wp2_with fail
            go_quiet (fail)
            have hb3 := Lib.hid (hb2.out.trans (((Qt.refl wr).step nq).below _))
            go_wp2_with fail
            go_roundw
            case rel => exact ⟨j + 1, m, _, _, by omega, by omega, by go_num, rfl, by rw [hf'.out]; exact hown2, hb3⟩
            case measure => simp [intOf]; omega
        · obtain rfl : j = n := by omega
          have hall : zs.take j = zs := List.take_of_length_le (by rw [hzl'.out]; exact Nat.le_refl _)
          have hown3 := hown2.out
          rw [hall] at hown3
          have hmem : ∀ z ∈ zs.take i ++ [((x1, x2, x3, xa, xn, xc), d)] ++ zs.filter (fun z => decide (x1 < (tag z).1)), Rd wr z ∧ z.1.2.2.2.2.1 ≤ 1000000 := fun z hz => by
            rcases List.mem_append.1 hz with hz | hz
            · rcases List.mem_append.1 hz with hz | hz
              · exact ⟨(hs'.out.each z (List.mem_of_mem_take hz)).mono hb0r.out, hd'.out z (List.mem_of_mem_take hz)⟩
              · obtain rfl : z = _ := by simpa using hz
                exact ⟨hx'.out.mono hb0r.out, hxn⟩
            · exact ⟨(hs'.out.each z (List.mem_filter.1 hz).1).mono hb0r.out, hd'.out z (List.mem_filter.1 hz).1⟩
          have hT : Tr wr a2 m c2 (zs.take i ++ [((x1, x2, x3, xa, xn, xc), d)] ++ zs.filter (fun z => decide (x1 < (tag z).1))) := ⟨(Sl.of_own hown3).1, fun z hz => (hmem z hz).1⟩
          have hO := owntags_any a2 m c2 _ wr hT (by omega) (fun z hz => (hmem z hz).2)
          have hall' := Lib.hid hall
          have hown3' := Lib.hid hown3
          have hT' := Lib.hid hT
          have hO' := Lib.hid hO
          have hmem' := Lib.hid hmem
          clear hall hown3 hT hO hmem
          go_wp2_with fail
          refine hO'.out.mono ?_
          rintro e w2 ⟨a6, c6, zs', rfl, ho2, htg, hb6⟩
          have ho3 := ho2.le hb0r.out.size
          have hbw := hb0r.out.trans (hb6.mono hb0r.out.size)
          have ho2' := Lib.hid ho2
          have ho3' := Lib.hid ho3
          have htg' := Lib.hid htg
          have hbw' := Lib.hid hbw
          have hb6' := Lib.hid hb6
          clear ho2 ho3 htg hbw hb6
          go_wp2_with fail
          go_ret
          refine ⟨_, _, _, zs', rfl, ho3'.out, ?_, hbw'.out⟩
          rw [htg'.out]
          unfold setS
          rw [htw.out, List.map_append, List.map_append, List.map_take, map_filter (p := fun y => decide (x1 < y.1))]
          simp [tag]
end Go.Proofs.Ytnhcmibngcmebaa
