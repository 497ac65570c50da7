/- registry: a row of tags in memory of its own. | registry: a tag set in a row that rises; dropped. | registry: Set, Drop. -/
import Derived.Test.YtnhcmibngcmebaaTgA
import Derived.Test.YtnhcmibngcmebaaIn1
namespace Go.Proofs.Ytnhcmibngcmebaa
open Go.RowKit Tt
set_option linter.unusedVariables false
set_option linter.unusedSimpArgs false

theorem To.le {B B' : Nat} {W : World} {a : Option Addr} {n c : Nat} {zs : List Tz} (h : To B W a n c zs) (hB : B' ≤ B) : To B' W a n c zs := ⟨own_mono h.row hB, fun z hz => own_mono (h.each z hz) hB⟩
theorem To.len {B : Nat} {W : World} {a : Option Addr} {n c : Nat} {zs : List Tz} (h : To B W a n c zs) : zs.length = n := h.tr.len
theorem Ow.put {B B' : Nat} {W : World} {z : Tz} (h : Ow B W z) {g n c m : Nat} {xs : List Value} (hr : W.ownsRow B' 26 4 (.slice (some ⟨g, 0, none⟩) n c) m xs) (i : Nat) (u : Value) : Ow B (W.setCell ⟨g, i, none⟩ u) z := own_kept h hr (by decide) rfl i [u]
theorem getD_set_eq {zs : List Tz} {i : Nat} (hi : i < zs.length) (z : Tz) : (zs.set i z).getD i tz0 = z := by simp [List.getD_eq_getElem?_getD, hi]
theorem getD_set_ne {zs : List Tz} {i j : Nat} (h : i ≠ j) (z : Tz) : (zs.set i z).getD j tz0 = zs.getD j tz0 := by simp [List.getD_eq_getElem?_getD, List.getElem?_set_ne h]
theorem zc_put3 {zs : List Tz} {i : Nat} {y t k t0 k0 : Int} {a a0 : Option Addr} {n c n0 c0 : Nat} {d d0 : List Int} (hi : i < zs.length) (h : zs.getD i tz0 = ((y, t0, k0, a0, n0, c0), d0)) :
    (((zc zs).set (i * 4 + 1) (.int .i64 t)).set (i * 4 + 2) (.int .i64 k)).set (i * 4 + 3) (.slice a n c) = zc (zs.set i ((y, t, k, a, n, c), d)) := by
  rw [zc_set (z' := ((y, t, k0, a0, n0, c0), d)) (by omega) (by rw [h]; rfl),
    zc_set (z' := ((y, t, k, a0, n0, c0), d)) (by omega) (by rw [getD_set_eq hi]; rfl), List.set_set,
    zc_set (z' := ((y, t, k, a, n, c), d)) (by omega) (by rw [getD_set_eq hi]; rfl), List.set_set]
theorem zc_put4 {zs : List Tz} {i : Nat} {y t k : Int} {a : Option Addr} {n c : Nat} {d : List Int} (hi : i < zs.length) :
    ((((zc zs).set (i * 4) (.int .i64 y)).set (i * 4 + 1) (.int .i64 t)).set (i * 4 + 2) (.int .i64 k)).set (i * 4 + 3) (.slice a n c) = zc (zs.set i ((y, t, k, a, n, c), d)) := by
  obtain ⟨⟨⟨y0, t0, k0, a0, n0, c0⟩, d0⟩, hz⟩ : ∃ z, zs.getD i tz0 = z := ⟨_, rfl⟩
  rw [show (zc zs).set (i * 4) (.int .i64 y) = (zc zs).set (i * 4 + 0) (.int .i64 y) from rfl, zc_set (z' := ((y, t0, k0, a0, n0, c0), d)) (by omega) (by rw [hz]; rfl),
    zc_put3 (d := d) (by simpa using hi) (getD_set_eq hi _), List.set_set]
theorem own_put3 {W : World} {B g n c m : Nat} {xs : List Value} {E : TypeId} {sz : Nat} (h : W.ownsRow B E sz (.slice (some ⟨g, 0, none⟩) n c) m xs) (i j k : Nat) (x y z : Value) :
    (((W.setCell ⟨g, i, none⟩ x).setCell ⟨g, j, none⟩ y).setCell ⟨g, k, none⟩ z).ownsRow B E sz (.slice (some ⟨g, 0, none⟩) n c) m (((xs.set i x).set j y).set k z) := own_put (own_put (own_put h i x) j y) k z
theorem Ow.put3 {B B' : Nat} {W : World} {z : Tz} (h : Ow B W z) {g n c m : Nat} {xs : List Value} (hr : W.ownsRow B' 26 4 (.slice (some ⟨g, 0, none⟩) n c) m xs) (i j k : Nat) (x y u : Value) :
    Ow B (((W.setCell ⟨g, i, none⟩ x).setCell ⟨g, j, none⟩ y).setCell ⟨g, k, none⟩ u) z := ((h.put hr i x).put (own_put hr i x) j y).put (own_put (own_put hr i x) j y) k u

set_option maxRecDepth 20000 in
set_option maxHeartbeats 4000000 in
theorem owned_any (a : Option Addr) (n c : Nat) (zs : List Tz) (w : World) (hs : Tr w a n c zs) (hl : n ≤ 1000000) (hd : ∀ z ∈ zs, z.1.2.2.2.2.1 ≤ 1000000) :
    Calls Try.prog 42 #[.slice a n c] w fun e w' => ∃ a' c' zs', e = .returned (.slice a' n c') ∧ To w.heap.size w' a' n c' zs' ∧ zs'.map tag = zs.map tag ∧ Below w.heap.size w w' := by
  have hzl := hs.len
  have hC := tclone_any a n c zs w hs.row hl
  have hs' := Lib.hid hs
  have hd' := Lib.hid hd
  have hzl' := Lib.hid hzl
  have hC' := Lib.hid hC
  clear hs hd hzl hC
  go_enter Try.func42, Try.ntmps42
  go_wp2_with fail
  refine hC'.out.mono ?_
  rintro e w1 ⟨a5, c5, rfl, ho, hb⟩
  have ho' := Lib.hid ho
  have hb' := Lib.hid hb
  clear ho hb
  go_wp2
  go_loopw [10] (fun iv wr => ∃ (i : Nat) (zs' : List Tz), i ≤ n ∧ iv = .int .i64 i ∧ zs'.length = n ∧ Hid (wr.ownsRow w.heap.size 26 4 (.slice a5 n c5) n (zc zs')) ∧ Hid (∀ j, j < i → Ow w.heap.size wr (zs'.getD j tz0)) ∧ Hid (∀ j, i ≤ j → zs'.getD j tz0 = zs.getD j tz0) ∧ Hid (zs'.map tag = zs.map tag) ∧ Hid (Below w.heap.size w wr)) (fun iv _ => n - (intOf iv).toNat)
  case atStart => exact ⟨0, zs, by omega, rfl, hzl'.out, ho', Lib.hid (fun j hj => by omega), Lib.hid (fun j _ => rfl), Lib.hid rfl, hb'⟩
  case round =>
    obtain ⟨i, zs', hin, rfl, hlz, hown, hdone, hrest, htag, hbr⟩ := hrel
    by_cases hi : i < n
    · have hil : (i : Int) < (n : Int) := by omega
      have hw1 : IntKind.i64.wrap ((i : Int) + 1) = i + 1 := by rw [IntKind.wrap_i64]; omega
      obtain ⟨g, rfl, hBg, hglt, fz, hc⟩ := own_at hown.out hi
      have hz1 := hrest.out i (Nat.le_refl _)
      have hrd := (hs'.out.each _ (getD_mem (zs := zs) (i := i) (by rw [hzl'.out]; exact hi))).mono hbr.out
      have hdn := hd'.out _ (getD_mem (zs := zs) (i := i) (by rw [hzl'.out]; exact hi))
      obtain ⟨⟨⟨y, t, k, xa, xn, xc⟩, d⟩, hz⟩ : ∃ z, zs.getD i tz0 = z := ⟨_, rfl⟩
      rw [hz] at hz1 hrd hdn
      have gg := fun j hj => zc_get (zs := zs') (i := i) (j := j) (by omega) hj
      rw [hz1] at gg
      have f0 := hc _ _ (gg 0 (by omega))
      have f1 := hc _ _ (gg 1 (by omega))
      have f2 := hc _ _ (gg 2 (by omega))
      have f3 := hc _ _ (gg 3 (by omega))
      simp only [zcl, List.getElem?_cons_zero, List.getElem?_cons_succ] at f0 f1 f2 f3
      rw [Nat.add_zero] at f0
      clear gg hc
      have hD := hrd
      change Sl wr xa xn xc 1 (ints .u8 d) at hD
      change xn ≤ 1000000 at hdn
      have hz' := Lib.hid hz
      have hz1' := Lib.hid hz1
      have hD' := Lib.hid hD
      have fz' := Lib.hid fz
      clear hz hz1 hD fz
      clear hrd
      go_wp2_with fail
      have hb1 := (Below.refl wr.heap.size wr).alloc (Nat.le_refl _) (.cells #[.int .i64 y, .int .i64 t, .int .i64 k, .slice xa xn xc] 26)
      refine (own_any t k xa xn xc d _ (hD'.out.mono hb1) hdn).mono ?_
      rintro e w2 ⟨a6, c6, rfl, ho2, hb2⟩
      have hb12 := hb1.trans (hb2.mono hb1.size)
      have hown2 := own_later hown.out hb12
      have hdone2 := fun j (hj : j < i) => own_later (hdone.out j hj) hb12
      have hbw := hbr.out.trans (hb12.mono hbr.out.size)
      obtain ⟨g', hgg, _, hglt2, fz2, hc2⟩ := own_at hown2 hi
      injection hgg with hgg
      injection hgg with hgg
      subst hgg
      have gg := fun j hj => zc_get (zs := zs') (i := i) (j := j) (by omega) hj
      rw [hz1'.out] at gg
      have p1 := hc2 _ _ (gg 1 (by omega))
      have p2 := hc2 _ _ (gg 2 (by omega))
      have p3 := hc2 _ _ (gg 3 (by omega))
      have y1 := fz2 (i * 4 + 1)
      have y2 := fz2 (i * 4 + 2)
      have y3 := fz2 (i * 4 + 3)
      simp only [zcl, List.getElem?_cons_zero, List.getElem?_cons_succ] at p1 p2 p3
      have ho3 := own_mono ho2 (show w.heap.size ≤ _ from Nat.le_trans hbr.out.size (by simp))
      clear ho2 f0 f1 f2 f3 gg hc2 fz2 hb2 hb12 hb1
      have hown2' := Lib.hid hown2
      have hdone2' := Lib.hid hdone2
      have hbw' := Lib.hid hbw
      have ho3' := Lib.hid ho3
      clear hown2 hdone2 hbw ho3
      go_wp2_with fail
      go_roundw
      case rel =>
        refine ⟨i + 1, zs'.set i ((y, t, k, a6, xn, c6), d), by omega, by go_num, by rw [List.length_set]; exact hlz, Lib.hid ?_, Lib.hid (fun j hj => ?_), Lib.hid (fun j hj => ?_), Lib.hid ?_, Lib.hid ?_⟩
        · rw [← zc_put3 (by omega) hz1'.out]
          exact own_put3 hown2'.out _ _ _ _ _ _
        · by_cases hji : j = i
          · subst hji
            rw [getD_set_eq (by omega)]
            exact Ow.put3 (show Ow w.heap.size w2 ((y, t, k, a6, xn, c6), d) from ho3'.out) hown2'.out _ _ _ _ _ _
          · rw [getD_set_ne (fun e => hji e.symm)]
            exact Ow.put3 (hdone2'.out j (by omega)) hown2'.out _ _ _ _ _ _
        · rw [getD_set_ne (by omega)]
          exact hrest.out j (by omega)
        · rw [← htag.out, List.map_set]
          apply List.ext_getElem (by simp)
          intro j h1 h2
          by_cases hji : i = j
          · subst hji
            have h3 : zs'[i] = ((y, t, k, xa, xn, xc), d) := by
              have := hz1'.out
              rwa [List.getD_eq_getElem?_getD, List.getElem?_eq_getElem (by omega)] at this
            simp [h3, tag]
          · simp [List.getElem_set_ne hji]
        · exact ((hbw'.out.setCell (p := ⟨g, i * 4 + 1, none⟩) hBg _).setCell (p := ⟨g, i * 4 + 2, none⟩) hBg _).setCell (p := ⟨g, i * 4 + 3, none⟩) hBg _
      case measure => simp [intOf]; omega
    · obtain rfl : i = n := by omega
      have hd : decide ((i : Int) < (i : Int)) = false := by simp
      go_wp2
      go_ret
      refine ⟨_, _, zs', rfl, ⟨hown.out, fun z hz => ?_⟩, htag.out, hbr.out⟩
      obtain ⟨j, hj, rfl⟩ := List.getElem_of_mem hz
      have := hdone.out j (by omega)
      rwa [List.getD_eq_getElem?_getD, List.getElem?_eq_getElem hj] at this

set_option maxRecDepth 20000 in
set_option maxHeartbeats 1000000 in
theorem find_any (a : Option Addr) (n c : Nat) (zs : List Tz) (t : Int) (w : World) (hs : Tr w a n c zs) (hr : ∀ i, i + 1 < n → key zs i < key zs (i + 1)) (hl : n ≤ 1000000) (hd : ∀ z ∈ zs, z.1.2.2.2.2.1 ≤ 1000000) :
    Calls Try.prog 22 #[.slice a n c, .int .i64 t] w fun e w' => ∃ (k : Nat) (y2 y3 : Int) (a' : Option Addr) (n' c' : Nat) (d : List Int), Pos zs t k ∧ e = .returned (.tuple #[.agg #[.int .i64 y2, .int .i64 y3, .slice a' n' c'], .bool (isB zs t k)]) ∧
      w'.ownsRow w.heap.size 5 1 (.slice a' n' c') n' (ints .u8 d) ∧ ((y2, y3, d) = if isB zs t k = true then (tag (zs.getD k tz0)).2 else (0, 0, [])) ∧ Below w.heap.size w w' := by
  have hzl := hs.len
  have hb0 := (Below.refl w.heap.size w).alloc (Nat.le_refl _) (.cells #[.int .i64 0, .int .i64 0, .slice none 0 0] 24)
  have hB := at_any a n c zs t _ (hs.mono hb0) hr hl
  have hB' := Lib.hid hB
  have hs' := Lib.hid hs
  have hd' := Lib.hid hd
  have hzl' := Lib.hid hzl
  have hb0' := Lib.hid hb0
  clear hB hs hd hzl hb0
  go_enter Try.func22, Try.ntmps22
  go_wp2_with fail
  refine hB'.out.mono ?_
  rintro e w1 ⟨k, hp, rfl, hb⟩
  have hb1 := hb0'.out.trans (hb.mono hb0'.out.size)
  have b0 : Blk w1 w.heap.size 24 #[.int .i64 0, .int .i64 0, .slice none 0 0] := Blk.late (heap_new _ _) hb
  cases his : isB zs t k with
  | false =>
    have p0 : w1.cell? ⟨w.heap.size, 0, none⟩ = some (.int .i64 0) := b0.cell rfl
    have p1 : w1.cell? ⟨w.heap.size, 1, none⟩ = some (.int .i64 0) := b0.cell rfl
    have p2 : w1.cell? ⟨w.heap.size, 2, none⟩ = some (.slice none 0 0) := b0.cell rfl
    have y0 := b0.frozen 0
    have y1 := b0.frozen 1
    have y2 := b0.frozen 2
    have hp' := Lib.hid hp
    have hb' := Lib.hid hb
    have hb1' := Lib.hid hb1
    have b0' := Lib.hid b0
    have his' := Lib.hid his
    clear hp hb hb1 b0 his
    go_wp2_with fail
    refine bodyPost_ret (results_blk_tmp rfl _ _ w.heap.size 24 #[.int .i64 0, .int .i64 0, .slice none 0 0] _ rfl (b0'.out.set3 _ _ _) Try.underlying24 rfl (by kernel_rfl)) rfl ?_
    exact ⟨k, 0, 0, none, 0, 0, [], hp'.out, by rw [his'.out]; rfl, own_nil _ _ _ _, by rw [his'.out]; rfl, below_set3 hb1'.out (Nat.le_refl _) _ _ _⟩
  | true =>
    have hkn : k < n := by
      have := his
      unfold isB at this
      simp only [Bool.and_eq_true, decide_eq_true_eq] at this
      rw [← hzl'.out]; exact this.1
    obtain ⟨b, o, rfl, hblt, f0, f1, f2, f3, hrd⟩ := (hs'.out.mono hb1).at hkn
    have hdn := hd'.out _ (getD_mem (zs := zs) (i := k) (by rw [hzl'.out]; exact hkn))
    obtain ⟨⟨⟨y, t2, k2, xa, xn, xc⟩, d⟩, hz⟩ : ∃ z, zs.getD k tz0 = z := ⟨_, rfl⟩
    rw [hz] at f0 f1 f2 f3 hrd hdn
    change Sl w1 xa xn xc 1 (ints .u8 d) at hrd
    change xn ≤ 1000000 at hdn
    simp only at f0 f1 f2 f3
    have hp' := Lib.hid hp
    have hb' := Lib.hid hb
    have hb1' := Lib.hid hb1
    have b0' := Lib.hid b0
    have his' := Lib.hid his
    have hz' := Lib.hid hz
    have hrd' := Lib.hid hrd
    clear hp hb hb1 b0 his hz hrd
    go_wp2_with fail
    refine (own_any t2 k2 xa xn xc d _ hrd'.out hdn).mono ?_
    rintro e w2 ⟨a6, c6, rfl, ho2, hb2⟩
    have hb12 := hb1'.out.trans (hb2.mono hb1'.out.size)
    have b0 := b0'.out.late hb2
    have p0 : w2.cell? ⟨w.heap.size, 0, none⟩ = some (.int .i64 0) := b0.cell rfl
    have p1 : w2.cell? ⟨w.heap.size, 1, none⟩ = some (.int .i64 0) := b0.cell rfl
    have p2 : w2.cell? ⟨w.heap.size, 2, none⟩ = some (.slice none 0 0) := b0.cell rfl
    have y0 := b0.frozen 0
    have y1 := b0.frozen 1
    have y2 := b0.frozen 2
    have hlt := b0'.out.lt
    clear b0'
    have hb12' := Lib.hid hb12
    have hb2' := Lib.hid hb2
    have b0' := Lib.hid b0
    have ho2' := Lib.hid ho2
    clear hb12 hb2 b0 ho2
    go_wp2_with fail
    refine bodyPost_ret (results_blk_tmp rfl _ _ w.heap.size 24 #[.int .i64 t2, .int .i64 k2, .slice a6 xn c6] _ rfl (b0'.out.set3 _ _ _) Try.underlying24 rfl (by kernel_rfl)) rfl ?_
    exact ⟨k, t2, k2, a6, xn, c6, d, hp'.out, by rw [his'.out]; rfl, own_mono (own_set3 ho2'.out hlt _ _ _) (Nat.le_of_lt hlt), by rw [his'.out, hz'.out]; rfl, below_set3 hb12'.out (Nat.le_refl _) _ _ _⟩
end Go.Proofs.Ytnhcmibngcmebaa

namespace Go.Proofs.Ytnhcmibngcmebaa
open Go.RowKit Tt
set_option linter.unusedVariables false
set_option linter.unusedSimpArgs false

def setS (ts : List Tg) (x : Tg) : List Tg := ts.takeWhile (fun y => decide (y.1 < x.1)) ++ x :: ts.filter (fun y => decide (x.1 < y.1))
def dropS (ts : List Tg) (t : Int) : List Tg := ts.filter (fun y => decide (y.1 ≠ t))
theorem key_tag {zs : List Tz} {i : Nat} (hi : i < zs.length) : (zs[i]).1.1 = key zs i := by
  unfold key; rw [List.getD_eq_getElem?_getD, List.getElem?_eq_getElem hi]; rfl
theorem pos_take {zs : List Tz} {t : Int} {k : Nat} (hp : Pos zs t k) : ∀ y ∈ (zs.map tag).take k, y.1 < t := fun y hy => by
  rw [← List.map_take] at hy
  obtain ⟨z, hz, rfl⟩ := List.mem_map.1 hy
  obtain ⟨j, hj, rfl⟩ := List.getElem_of_mem hz
  rw [List.length_take] at hj
  have := hp.lo j (by omega)
  rw [← key_tag (by omega)] at this
  simpa [tag] using this
theorem pos_drop {zs : List Tz} {t : Int} {k : Nat} (hp : Pos zs t k) : ∀ y ∈ (zs.map tag).drop k, t ≤ y.1 := fun y hy => by
  rw [← List.map_drop] at hy
  obtain ⟨z, hz, rfl⟩ := List.mem_map.1 hy
  obtain ⟨j, hj, rfl⟩ := List.getElem_of_mem hz
  rw [List.length_drop] at hj
  have := hp.hi (k + j) (by omega) (by omega)
  rw [← key_tag (by omega)] at this
  simpa [tag] using this
theorem pos_next {zs : List Tz} {t : Int} {k : Nat} (hr : ∀ i, i + 1 < zs.length → key zs i < key zs (i + 1)) (hp : Pos zs t k) : ∀ y ∈ (zs.map tag).drop (k + 1), t < y.1 := fun y hy => by
  rw [← List.map_drop] at hy
  obtain ⟨z, hz, rfl⟩ := List.mem_map.1 hy
  obtain ⟨j, hj, rfl⟩ := List.getElem_of_mem hz
  rw [List.length_drop] at hj
  have h1 := hp.hi k (Nat.le_refl _) (by omega)
  have h2 := rise_lt hr (show k < k + 1 + j by omega) (by omega)
  rw [← key_tag (i := k + 1 + j) (by omega)] at h2
  have h3 : (tag ((zs.drop (k + 1))[j])).1 = (zs[k + 1 + j]'(by omega)).1.1 := by simp [tag]
  omega
theorem isB_cons {zs : List Tz} {t : Int} {k : Nat} (h : isB zs t k = true) : k < zs.length ∧ key zs k = t := by
  unfold isB at h
  simpa using h
theorem drop_key {zs : List Tz} {k : Nat} (h : k < zs.length) : (zs.map tag).drop k = tag (zs.getD k tz0) :: (zs.map tag).drop (k + 1) := by
  rw [List.drop_eq_getElem_cons (by simpa using h), List.getElem_map, List.getD_eq_getElem?_getD, List.getElem?_eq_getElem h]; rfl
theorem pos_after {zs : List Tz} {t : Int} {k : Nat} (hp : Pos zs t k) (hr : ∀ i, i + 1 < zs.length → key zs i < key zs (i + 1)) (h : isB zs t k = false) : ∀ y ∈ (zs.map tag).drop k, t < y.1 := fun y hy => by
  by_cases hk : k < zs.length
  · rw [drop_key hk] at hy
    rcases List.mem_cons.1 hy with rfl | hy
    · have h1 := hp.hi k (Nat.le_refl _) hk
      have h2 : key zs k ≠ t := fun e => by unfold isB at h; simp [hk, e] at h
      show t < key zs k
      omega
    · exact pos_next hr hp y hy
  · rw [List.drop_of_length_le (by simp; omega)] at hy
    cases hy
theorem tw_split {l : List Tg} {k : Nat} {p : Tg → Bool} (h1 : ∀ y ∈ l.take k, p y = true) (h2 : ∀ y ∈ l.drop k, p y = false) : l.takeWhile p = l.take k := by
  conv => lhs; rw [← List.take_append_drop k l]
  rw [List.takeWhile_append_of_pos h1]
  cases hd : l.drop k with
  | nil => simp
  | cons y r => rw [List.takeWhile_cons_of_neg (by rw [h2 y (by rw [hd]; exact List.mem_cons_self)]; simp)]; simp
theorem fil_split {l : List Tg} {k : Nat} {p : Tg → Bool} : l.filter p = (l.take k).filter p ++ (l.drop k).filter p := by rw [← List.filter_append, List.take_append_drop]
theorem fil_none {l : List Tg} {p : Tg → Bool} (h : ∀ y ∈ l, p y = false) : l.filter p = [] := List.filter_eq_nil_iff.2 fun y hy => by simp [h y hy]
theorem fil_all {l : List Tg} {p : Tg → Bool} (h : ∀ y ∈ l, p y = true) : l.filter p = l := List.filter_eq_self.2 h
theorem set_at {zs : List Tz} {x : Tg} {k : Nat} (hp : Pos zs x.1 k) (hr : ∀ i, i + 1 < zs.length → key zs i < key zs (i + 1)) :
    setS (zs.map tag) x = (zs.map tag).take k ++ x :: (zs.map tag).drop (if isB zs x.1 k = true then k + 1 else k) := by
  unfold setS
  rw [tw_split (k := k) (fun y hy => by simpa using pos_take hp y hy) (fun y hy => by have := pos_drop hp y hy; simpa using this),
    fil_split (k := k), fil_none (fun y hy => by have := pos_take hp y hy; simp; omega), List.nil_append]
  congr 2
  by_cases hb : isB zs x.1 k = true
  · obtain ⟨h1, h2⟩ := isB_cons hb
    rw [if_pos hb, drop_key h1, List.filter_cons_of_neg (by have h3 : (tag (zs.getD k tz0)).1 = x.1 := h2; rw [h3]; simp)]
    exact fil_all fun y hy => by have := pos_next hr hp y hy; simpa using this
  · rw [if_neg hb]
    exact fil_all fun y hy => by have := pos_after hp hr (by simpa using hb) y hy; simpa using this
theorem drop_at {zs : List Tz} {t : Int} {k : Nat} (hp : Pos zs t k) (hr : ∀ i, i + 1 < zs.length → key zs i < key zs (i + 1)) :
    dropS (zs.map tag) t = if isB zs t k = true then (zs.map tag).take k ++ (zs.map tag).drop (k + 1) else zs.map tag := by
  unfold dropS
  by_cases hb : isB zs t k = true
  · obtain ⟨h1, h2⟩ := isB_cons hb
    rw [if_pos hb, fil_split (k := k), fil_all (fun y hy => by have := pos_take hp y hy; simp; omega), drop_key h1, List.filter_cons_of_neg (by have h3 : (tag (zs.getD k tz0)).1 = t := h2; rw [h3]; simp)]
    congr 1
    exact fil_all fun y hy => by have := pos_next hr hp y hy; simp; omega
  · rw [if_neg hb, fil_split (k := k), fil_all (fun y hy => by have := pos_take hp y hy; simp; omega), fil_all (fun y hy => by have := pos_after hp hr (by simpa using hb) y hy; simp; omega), List.take_append_drop]
theorem key_map {zs zs' : List Tz} (h : zs'.map tag = zs.map tag) (i : Nat) : key zs' i = key zs i := by
  have hl : zs'.length = zs.length := by simpa using congrArg List.length h
  unfold key
  by_cases hi : i < zs.length
  · have h1 : (zs'.map tag)[i]'(by simp; omega) = (zs.map tag)[i]'(by simp; omega) := by simp only [h]
    rw [List.getD_eq_getElem?_getD, List.getD_eq_getElem?_getD, List.getElem?_eq_getElem hi, List.getElem?_eq_getElem (by omega : i < zs'.length)]
    simp only [List.getElem_map, tag, Prod.mk.injEq] at h1
    exact h1.1
  · rw [List.getD_eq_getElem?_getD, List.getElem?_eq_none (by omega), List.getD_eq_getElem?_getD, List.getElem?_eq_none (by omega)]
theorem map_set_at {zs : List Tz} {k : Nat} (h : k < zs.length) (z : Tz) : (zs.set k z).map tag = (zs.map tag).take k ++ tag z :: (zs.map tag).drop (k + 1) := by
  rw [List.map_set, List.set_eq_take_append_cons_drop, if_pos (by simpa using h)]
end Go.Proofs.Ytnhcmibngcmebaa

namespace Go.Proofs.Ytnhcmibngcmebaa
open Go.RowKit Tt
set_option linter.unusedVariables false
set_option linter.unusedSimpArgs false

theorem To.set_other {B : Nat} {W : World} {a : Option Addr} {n c : Nat} {zs : List Tz} (h : To B W a n c zs) {g : Nat} (hg : g < B) (i : Nat) (u : Value) : To B (W.setCell ⟨g, i, none⟩ u) a n c zs :=
  ⟨own_set_other h.row hg i u, fun z hz => own_set_other (h.each z hz) hg i u⟩
theorem To.set_other3 {B : Nat} {W : World} {a : Option Addr} {n c : Nat} {zs : List Tz} (h : To B W a n c zs) {g : Nat} (hg : g < B) (i j k : Nat) (x y u : Value) :
    To B (((W.setCell ⟨g, i, none⟩ x).setCell ⟨g, j, none⟩ y).setCell ⟨g, k, none⟩ u) a n c zs := ((h.set_other hg i x).set_other hg j y).set_other hg k u
theorem own_other3 {w : World} {B : Nat} {E : TypeId} {sz : Nat} {v : Value} {n : Nat} {xs : List Value} (h : w.ownsRow B E sz v n xs) {g : Nat} (hg : g < B) (i j k : Nat) (x y u : Value) :
    (((w.setCell ⟨g, i, none⟩ x).setCell ⟨g, j, none⟩ y).setCell ⟨g, k, none⟩ u).ownsRow B E sz v n xs := own_set_other (own_set_other (own_set_other h hg i x) hg j y) hg k u
theorem To.put {B : Nat} {W : World} {g n c : Nat} {zs : List Tz} (h : To B W (some ⟨g, 0, none⟩) n c zs) {k : Nat} (hk : k < zs.length) {y t q : Int} {a : Option Addr} {m p : Nat} {d : List Int} (hx : Ow B W ((y, t, q, a, m, p), d)) :
    To B ((((W.setCell ⟨g, k * 4, none⟩ (.int .i64 y)).setCell ⟨g, k * 4 + 1, none⟩ (.int .i64 t)).setCell ⟨g, k * 4 + 2, none⟩ (.int .i64 q)).setCell ⟨g, k * 4 + 3, none⟩ (.slice a m p)) (some ⟨g, 0, none⟩) n c (zs.set k ((y, t, q, a, m, p), d)) := by
  refine ⟨by rw [← zc_put4 hk]; exact own_put3 (own_put h.row _ _) _ _ _ _ _ _, fun z hz => ?_⟩
  have hk' : ∀ z, Ow B W z → Ow B ((((W.setCell ⟨g, k * 4, none⟩ (.int .i64 y)).setCell ⟨g, k * 4 + 1, none⟩ (.int .i64 t)).setCell ⟨g, k * 4 + 2, none⟩ (.int .i64 q)).setCell ⟨g, k * 4 + 3, none⟩ (.slice a m p)) z := fun z hz => (hz.put h.row _ _).put3 (own_put h.row _ _) _ _ _ _ _ _
  rcases List.mem_or_eq_of_mem_set hz with hz | rfl
  · exact hk' z (h.each z hz)
  · exact hk' _ hx
theorem To.ins {B : Nat} {W W' : World} {a a' : Option Addr} {n c c' : Nat} {zs : List Tz} (h : To B W a n c zs) {z : Tz} (hz : Ow B W z) {k : Nat} (hr : W'.ownsRow B 26 4 (.slice a' (n + 1) c') (n + 1) (zc (zs.take k ++ z :: zs.drop k))) (hg : W.grownBy W' (Value.slice a n c).ownBlock) :
    To B W' a' (n + 1) c' (zs.take k ++ z :: zs.drop k) := ⟨hr, fun u hu => by
  rcases List.mem_append.1 hu with hu | hu
  · exact (h.each u (List.mem_of_mem_take hu)).grown h.row hg
  · rcases List.mem_cons.1 hu with rfl | hu
    · exact hz.grown h.row hg
    · exact (h.each u (List.mem_of_mem_drop hu)).grown h.row hg⟩
theorem To.del {B : Nat} {W W' : World} {a a' : Option Addr} {n c c' : Nat} {zs : List Tz} (h : To B W a n c zs) {k : Nat} (hr : W'.ownsRow B 26 4 (.slice a' (n - 1) c') (n - 1) (zc (zs.take k ++ zs.drop (k + 1)))) (hg : W.grownBy W' (Value.slice a n c).ownBlock) :
    To B W' a' (n - 1) c' (zs.take k ++ zs.drop (k + 1)) := ⟨hr, fun u hu => by
  rcases List.mem_append.1 hu with hu | hu
  · exact (h.each u (List.mem_of_mem_take hu)).grown h.row hg
  · exact (h.each u (List.mem_of_mem_drop hu)).grown h.row hg⟩
set_option maxRecDepth 20000 in
set_option maxHeartbeats 4000000 in
theorem drop_any (a : Option Addr) (n c : Nat) (zs : List Tz) (t : Int) (w : World) (hs : Tr w a n c zs) (hr : ∀ i, i + 1 < n → key zs i < key zs (i + 1)) (hl : n ≤ 1000000) (hd : ∀ z ∈ zs, z.1.2.2.2.2.1 ≤ 1000000) :
    Calls Try.prog 21 #[.slice a n c, .int .i64 t] w fun e w' => ∃ a' n' c' zs', e = .returned (.slice a' n' c') ∧ To w.heap.size w' a' n' c' zs' ∧ zs'.map tag = dropS (zs.map tag) t ∧ Below w.heap.size w w' := by
  have hzl := hs.len
  have hO := owned_any a n c zs w hs hl hd
  have hO' := Lib.hid hO
  have hs' := Lib.hid hs
  have hd' := Lib.hid hd
  have hzl' := Lib.hid hzl
  have hr' := Lib.hid hr
  clear hO hs hd hzl hr
  go_enter Try.func21, Try.ntmps21
  go_wp2_with fail
  refine hO'.out.mono ?_
  rintro e w1 ⟨a1, c1, zs1, rfl, ho1, hm1, hb1⟩
  have hr1 : ∀ i, i + 1 < n → key zs1 i < key zs1 (i + 1) := fun i hi => by rw [key_map hm1, key_map hm1]; exact hr'.out i hi
  have hB := at_any a1 n c1 zs1 t w1 ho1.tr hr1 hl
  have ho1' := Lib.hid ho1
  have hm1' := Lib.hid hm1
  have hb1' := Lib.hid hb1
  have hB' := Lib.hid hB
  have hr1' := Lib.hid hr1
  clear ho1 hm1 hb1 hB hr1
  go_wp2_with fail
  refine hB'.out.mono ?_
  rintro e w2 ⟨k, hp, rfl, hb2⟩
  have ho2 := ho1'.out.later hb2
  have hb12 := hb1'.out.trans (hb2.mono hb1'.out.size)
  clear hb2
  cases his : isB zs1 t k with
  | false =>
    have hp' := Lib.hid hp
    have his' := Lib.hid his
    have ho2' := Lib.hid ho2
    have hb12' := Lib.hid hb12
    clear hp his ho2 hb12
    go_wp2_with fail
    go_ret
    exact ⟨_, _, _, zs1, rfl, ho2'.out, by rw [← hm1'.out, drop_at hp'.out (by rw [ho2'.out.len]; exact hr1'.out), his'.out]; rfl, hb12'.out⟩
  | true =>
    have hkn : k < n := by have := (isB_cons his).1; rw [ho2.len] at this; exact this
    have hD := delete_any w.heap.size a1 n c1 (zc zs1) k ((k : Int) + 1) w2 ho2.row hkn rfl zc_one hl
    have hw1 : IntKind.i64.wrap ((k : Int) + 1) = k + 1 := by rw [IntKind.wrap_i64]; omega
    have hp' := Lib.hid hp
    have his' := Lib.hid his
    have ho2' := Lib.hid ho2
    have hb12' := Lib.hid hb12
    have hD' := Lib.hid hD
    clear hp his ho2 hb12 hD
    go_wp2_with fail
    refine hD'.out.mono ?_
    rintro e w3 ⟨a3, c3, rfl, ho3, hg3⟩
    have ho3' := Lib.hid ho3
    have hg3' := Lib.hid hg3
    clear ho3 hg3
    go_wp2_with fail
    go_ret
    have h3 := ho3'.out
    rw [zc_take, zc_drop, ← zc_append] at h3
    refine ⟨_, _, _, _, rfl, ho2'.out.del h3 hg3'.out, ?_, below_grown hb12'.out hg3'.out hb12'.out.size ho2'.out.row⟩
    rw [← hm1'.out, drop_at hp'.out (by rw [ho2'.out.len]; exact hr1'.out), if_pos his'.out, List.map_append, List.map_take, List.map_drop]

set_option maxRecDepth 20000 in
set_option maxHeartbeats 4000000 in
theorem set_any (a : Option Addr) (n c : Nat) (zs : List Tz) (x1 x2 x3 : Int) (xa : Option Addr) (xn xc : Nat) (d : List Int) (w : World) (hs : Tr w a n c zs) (hr : ∀ i, i + 1 < n → key zs i < key zs (i + 1)) (hl : n ≤ 1000000 - 1) (hd : ∀ z ∈ zs, z.1.2.2.2.2.1 ≤ 1000000)
    (hx : Sl w xa xn xc 1 (ints .u8 d)) (hxn : xn ≤ 1000000) :
    Calls Try.prog 20 #[.slice a n c, .agg #[.int .i64 x1, .int .i64 x2, .int .i64 x3, .slice xa xn xc]] w fun e w' => ∃ a' n' c' zs', e = .returned (.slice a' n' c') ∧ To w.heap.size w' a' n' c' zs' ∧ zs'.map tag = setS (zs.map tag) (x1, x2, x3, d) ∧ Below w.heap.size w w' := by
  have hzl := hs.len
  have hb0 := (Below.refl w.heap.size w).alloc (Nat.le_refl _) (.cells #[.int .i64 x1, .int .i64 x2, .int .i64 x3, .slice xa xn xc] 26)
  have hO := owned_any a n c zs _ (hs.mono hb0) (by omega) hd
  have hO' := Lib.hid hO
  have hs' := Lib.hid hs
  have hd' := Lib.hid hd
  have hzl' := Lib.hid hzl
  have hr' := Lib.hid hr
  have hx' := Lib.hid hx
  have hb0' := Lib.hid hb0
  clear hO hs hd hzl hr hx hb0
  go_enter Try.func20, Try.ntmps20
  go_wp2_with fail
  refine hO'.out.mono ?_
  rintro e w1 ⟨a1, c1, zs1, rfl, ho1, hm1, hb1⟩
  have hr1 : ∀ i, i + 1 < n → key zs1 i < key zs1 (i + 1) := fun i hi => by rw [key_map hm1, key_map hm1]; exact hr'.out i hi
  have b0 : Blk w1 w.heap.size 26 #[.int .i64 x1, .int .i64 x2, .int .i64 x3, .slice xa xn xc] := Blk.late (heap_new _ _) hb1
  have hb01 := hb0'.out.trans (hb1.mono hb0'.out.size)
  have hX := own_any x2 x3 xa xn xc d w1 (hx'.out.mono hb01) hxn
  have p1 : w1.cell? ⟨w.heap.size, 1, none⟩ = some (.int .i64 x2) := b0.cell rfl
  have p2 : w1.cell? ⟨w.heap.size, 2, none⟩ = some (.int .i64 x3) := b0.cell rfl
  have p3 : w1.cell? ⟨w.heap.size, 3, none⟩ = some (.slice xa xn xc) := b0.cell rfl
  simp only [World.size_alloc] at ho1
  clear hb1
  have ho1' := Lib.hid ho1
  have hm1' := Lib.hid hm1
  have hr1' := Lib.hid hr1
  have b0' := Lib.hid b0
  have hb01' := Lib.hid hb01
  have hX' := Lib.hid hX
  clear ho1 hm1 hr1 b0 hb01 hX
  go_wp2_with fail
  refine hX'.out.mono ?_
  rintro e w2 ⟨a2, c2, rfl, ho2, hb2⟩
  have hb02 := hb01'.out.trans (hb2.mono hb01'.out.size)
  have b1 := b0'.out.late hb2
  have ht2 := ho1'.out.later hb2
  have hlt : w.heap.size < w1.heap.size := b0'.out.lt
  have q0 : w2.cell? ⟨w.heap.size, 0, none⟩ = some (.int .i64 x1) := b1.cell rfl
  have q1 : w2.cell? ⟨w.heap.size, 1, none⟩ = some (.int .i64 x2) := b1.cell rfl
  have q2 : w2.cell? ⟨w.heap.size, 2, none⟩ = some (.int .i64 x3) := b1.cell rfl
  have q3 : w2.cell? ⟨w.heap.size, 3, none⟩ = some (.slice xa xn xc) := b1.cell rfl
  have y1 := b1.frozen 1
  have y2 := b1.frozen 2
  have y3 := b1.frozen 3
  clear p1 p2 p3 hb2
  have ho2' := Lib.hid ho2
  have hb02' := Lib.hid hb02
  have b1' := Lib.hid b1
  have ht2' := Lib.hid ht2
  clear ho2 hb02 b1 ht2
  go_wp2_with fail
  have hT3 := ht2'.out.set_other3 (show w.heap.size < w.heap.size + 1 by omega) 1 2 3 (.int .i64 x2) (.int .i64 x3) (.slice a2 xn c2)
  have hX3 := own_other3 ho2'.out hlt 1 2 3 (.int .i64 x2) (.int .i64 x3) (.slice a2 xn c2)
  have hB3 := ((hb02'.out.setCell (p := ⟨w.heap.size, 1, none⟩) (Nat.le_refl _) (.int .i64 x2)).setCell (p := ⟨w.heap.size, 2, none⟩) (Nat.le_refl _) (.int .i64 x3)).setCell (p := ⟨w.heap.size, 3, none⟩) (Nat.le_refl _) (.slice a2 xn c2)
  have b3 := ((b1'.out.set 1 (.int .i64 x2)).set 2 (.int .i64 x3)).set 3 (.slice a2 xn c2)
  clear q0 q1 q2 q3 y1 y2 y3
  generalize ((w2.setCell ⟨w.heap.size, 1, none⟩ (.int .i64 x2)).setCell ⟨w.heap.size, 2, none⟩ (.int .i64 x3)).setCell ⟨w.heap.size, 3, none⟩ (.slice a2 xn c2) = w3 at *
  refine (at_any a1 n c1 zs1 x1 w3 hT3.tr hr1'.out (by omega)).mono ?_
  rintro e w4 ⟨k, hp, rfl, hb4⟩
  have hT4 := (hT3.later hb4).le (show w.heap.size ≤ w.heap.size + 1 by omega)
  have hX4 := own_mono (own_later hX3 hb4) (Nat.le_of_lt hlt)
  have hB4 := hB3.trans (hb4.mono hB3.size)
  have b4 : Blk w4 w.heap.size 26 #[.int .i64 x1, .int .i64 x2, .int .i64 x3, .slice a2 xn c2] := b3.late hb4
  have q0 : w4.cell? ⟨w.heap.size, 0, none⟩ = some (.int .i64 x1) := b4.cell rfl
  have q1 : w4.cell? ⟨w.heap.size, 1, none⟩ = some (.int .i64 x2) := b4.cell rfl
  have q2 : w4.cell? ⟨w.heap.size, 2, none⟩ = some (.int .i64 x3) := b4.cell rfl
  have q3 : w4.cell? ⟨w.heap.size, 3, none⟩ = some (.slice a2 xn c2) := b4.cell rfl
  have hlen : zs1.length = n := hT4.len
  have hat := set_at (x := (x1, x2, x3, d)) hp (by rw [hlen]; exact hr1'.out)
  have hle := hp.le
  cases his : isB zs1 x1 k with
  | true =>
    have hkn : k < n := by have := (isB_cons his).1; omega
    rw [his, if_pos rfl] at hat
    obtain ⟨g, rfl, hBg, hglt, fz, hc⟩ := own_at hT4.row hkn
    have gg := fun j hj => zc_get (zs := zs1) (i := k) (j := j) (by omega) hj
    have f0 := hc _ _ (gg 0 (by omega))
    have f1 := hc _ _ (gg 1 (by omega))
    have f2 := hc _ _ (gg 2 (by omega))
    have f3 := hc _ _ (gg 3 (by omega))
    rw [Nat.add_zero] at f0
    have y0 := fz (k * 4)
    have y1 := fz (k * 4 + 1)
    have y2 := fz (k * 4 + 2)
    have y3 := fz (k * 4 + 3)
    clear gg hc fz b3 hb4 hT3 hX3 hB3
    have hp' := Lib.hid hp
    have his' := Lib.hid his
    have hT4' := Lib.hid hT4
    have hX4' := Lib.hid hX4
    have hB4' := Lib.hid hB4
    have b4' := Lib.hid b4
    have hat' := Lib.hid hat
    clear hp his hT4 hX4 hB4 b4 hat
    go_wp2_with fail
    go_ret
    refine ⟨_, _, _, _, rfl, hT4'.out.put (by omega) (show Ow w.heap.size w4 ((x1, x2, x3, a2, xn, c2), d) from hX4'.out), ?_, (((hB4'.out.setCell (p := ⟨g, k * 4, none⟩) hBg _).setCell (p := ⟨g, k * 4 + 1, none⟩) hBg _).setCell (p := ⟨g, k * 4 + 2, none⟩) hBg _).setCell (p := ⟨g, k * 4 + 3, none⟩) hBg _⟩
    rw [← hm1'.out, hat'.out, map_set_at (by omega)]
    rfl
  | false =>
    rw [his, if_neg (by simp)] at hat
    clear b3 hb4 hT3 hX3 hB3
    have hp' := Lib.hid hp
    have his' := Lib.hid his
    have hT4' := Lib.hid hT4
    have hX4' := Lib.hid hX4
    have hB4' := Lib.hid hB4
    have b4' := Lib.hid b4
    have hat' := Lib.hid hat
    clear hp his hT4 hX4 hB4 b4 hat
    go_wp2_with fail
    have ha := (Below.refl w4.heap.size w4).alloc (Nat.le_refl _) (.cells #[.int .i64 x1, .int .i64 x2, .int .i64 x3, .slice a2 xn c2] 26)
    have hT5 := hT4'.out.later ha
    have hX5 := own_later hX4'.out ha
    have hB5 := hB4'.out.trans (ha.mono hB4'.out.size)
    have hne : (Value.slice a1 n c1).ownBlock ≠ some w4.heap.size := fun e => by
      have := (hT4'.out.row.lt _ e).2
      omega
    have bn : Blk (w4.alloc (.cells #[.int .i64 x1, .int .i64 x2, .int .i64 x3, .slice a2 xn c2] 26)) w4.heap.size 26 #[.int .i64 x1, .int .i64 x2, .int .i64 x3, .slice a2 xn c2] := heap_new _ _
    generalize w4.alloc (.cells #[.int .i64 x1, .int .i64 x2, .int .i64 x3, .slice a2 xn c2] 26) = w5 at *
    refine (insert_any w.heap.size a1 n c1 (zc zs1) k w4.heap.size _ w5 hT5.row hB5.size (by omega) (by omega) bn rfl hne zc_one (by intro v hv; simp at hv; rcases hv with rfl | rfl | rfl | rfl <;> rfl)).mono ?_
    rintro e w6 ⟨a6, c6, rfl, ho6, hg6⟩
    have hz : (#[.int .i64 x1, .int .i64 x2, .int .i64 x3, .slice a2 xn c2] : Array Value).toList = zcl ((x1, x2, x3, a2, xn, c2), d) := rfl
    rw [hz, zc_take, zc_drop, List.append_assoc, ← zc_cons, ← zc_append] at ho6
    have hT6 := hT5.ins (show Ow w.heap.size w5 ((x1, x2, x3, a2, xn, c2), d) from hX5) ho6 hg6
    have hB6 := below_grown hB5 hg6 hB5.size hT5.row
    clear ho6 hg6 hT5 hX5 hB5 bn
    have hT6' := Lib.hid hT6
    have hB6' := Lib.hid hB6
    clear hT6 hB6
    go_wp2_with fail
    go_ret
    refine ⟨_, _, _, _, rfl, hT6'.out, ?_, hB6'.out⟩
    rw [← hm1'.out, hat'.out, List.map_append, List.map_cons, List.map_take, List.map_drop]
    rfl
end Go.Proofs.Ytnhcmibngcmebaa
