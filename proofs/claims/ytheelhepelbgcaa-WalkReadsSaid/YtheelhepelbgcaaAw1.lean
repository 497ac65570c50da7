/- Bytes, values, spots that are the same: chapters 1, 18, 20 of the document's answer. | Directories and trees that are the same: chapter 20 of the document's answer. | Directories that are the same: chapter 20 of the document's answer. | Trees that are the same: chapter 20 of the document's answer. | Chapter 22: the law's own small functions: of, alone, wrong. | Chapter 22: the example's value: OfNumbers of one number of two bytes. | Chapter 22: wrong; awake: the chapter's examples. -/
import Derived.Test.YtheelhepelbgcaaWm
import Derived.Laws.StructEq
import Derived.Test.YtheelhepelbgcaaWkB
import Derived.Test.YtheelhepelbgcaaReg8
import Derived.Test.YtheelhepelbgcaaRef01
import Derived.Test.YtheelhepelbgcaaL7
import Derived.LoopN
namespace Go.Proofs.Ytheelhepelbgcaa
open Go.RowKit Tt
set_option linter.unusedVariables false
set_option linter.unusedSimpArgs false

set_option maxHeartbeats 400000 in
theorem same01 (a a' : Option Addr) (n n' c c' : Nat) (x y : List Int) (w : World) (hx : Sl w a n c 1 (ints .u8 x)) (hy : Sl w a' n' c' 1 (ints .u8 y)) :
    Calls Try.prog 16 #[.slice a n c, .slice a' n' c'] w fun e w' => e = .returned (.bool (x == y)) ∧ Qt w w' := by
  have hxl : x.length = n := hx.ilen
  have hyl : y.length = n' := hy.ilen
  have hn := hx.le
  have hm := hx.max
  have hn' := hy.le
  have hm' := hy.max
  by_cases hne : n = n'
  · subst hne
    have Hx := Lib.hid hxl
    have Hy := Lib.hid hyl
    have hne : ((n : Int) != (n : Int)) = false := by simp
    clear hxl hyl
    go_enter Try.func16, Try.ntmps16
    go_wp2
    go_loopw [4, 5] (fun r i wr => ∃ k : Nat, k ≤ n ∧ i = .int .i64 k ∧ (x.take k = y.take k) ∧ r = .bool false ∧ Qt w wr) (fun _ i _ => n - (intOf i).toNat)
    case atStart => exact ⟨0, Nat.zero_le _, rfl, rfl, rfl, Qt.refl _⟩
    case round =>
      obtain ⟨k, hk, rfl, htk, rfl, hq⟩ := hrel
      by_cases hlt : k < n
      · obtain ⟨b, o, rfl, hbx, cx⟩ := (hx.qt hq).at hlt
        obtain ⟨b', o', rfl, hby, cy⟩ := (hy.qt hq).at hlt
        have c1 := cx k _ (ints_get (by rw [Hx.out]; exact hlt))
        have c2 := cy k _ (ints_get (by rw [Hy.out]; exact hlt))
        clear cx cy
        have Htk := Lib.hid htk
        clear htk
        by_cases he : x.getD k 0 = y.getD k 0
        · have hb : (x.getD k 0 != y.getD k 0) = false := by rw [he]; simp
          have He := Lib.hid he
          clear he
          generalize hu : x.getD k 0 = u at *
          generalize hv : y.getD k 0 = v at *
          have Hu := Lib.hid hu
          have Hv := Lib.hid hv
          clear hu hv
          go_wp2
          go_quiet (fail)
          go_wp2
          go_roundw
          case rel => exact ⟨k + 1, by omega, by go_num, take_succ_eq Hx.out Hy.out hlt Htk.out (Hu.out.trans (He.out.trans Hv.out.symm)), rfl, hq.step _⟩
          case measure => simp [intOf]; omega
        · have hb : (x.getD k 0 != y.getD k 0) = true := by simpa using he
          have He := Lib.hid he
          clear he
          generalize hu : x.getD k 0 = u at *
          generalize hv : y.getD k 0 = v at *
          have Hu := Lib.hid hu
          have Hv := Lib.hid hv
          clear hu hv
          go_wp2
          go_quiet (fail)
          go_wp2
          go_ret
          exact ⟨ret_bool (ne_of_at (fun h => He.out (Hu.out.symm.trans (h.trans Hv.out)))).symm, hq.step _⟩
      · have Htk := Lib.hid htk
        clear htk
        go_wp2
        go_ret
        exact ⟨ret_bool (eq_of_take Hx.out Hy.out (by omega) Htk.out).symm, hq⟩
  · have hne : ((n : Int) != (n' : Int)) = true := by simp; omega
    have e : (x == y) = false := by rw [beq_eq_false_iff_ne]; rintro rfl; omega
    go_enter Try.func16, Try.ntmps16
    go_wp2
    go_ret
    exact ⟨ret_bool e.symm, Qt.refl _⟩
set_option maxHeartbeats 1000000 in
theorem same18 (y k y2 k2 : Int) (a a' : Option Addr) (n c n' c' : Nat) (d d2 : List Int) (w : World) (hs : Sl w a n c 1 (ints .u8 d)) (hs2 : Sl w a' n' c' 1 (ints .u8 d2)) :
    Calls Try.prog 59 #[.agg #[.int .i64 y, .int .i64 k, .slice a n c], .agg #[.int .i64 y2, .int .i64 k2, .slice a' n' c']] w fun e w' => e = .returned (.bool (y == y2 && k == k2 && d == d2)) ∧ Below w.heap.size w w' := by
  have hb0 := ((Below.refl w.heap.size w).alloc (Nat.le_refl _) (.cells #[.int .i64 y, .int .i64 k, .slice a n c] 54)).alloc (by simp) (.cells #[.int .i64 y2, .int .i64 k2, .slice a' n' c'] 54)
  have HC := same01 a a' n n' c c' d d2 _ (hs.mono hb0) (hs2.mono hb0)
  obtain ⟨b3, h3⟩ : ∃ b, (d == d2) = b := ⟨_, rfl⟩
  rw [h3] at HC
  rw [h3]
  have hs' := Lib.hid hs
  have hs2' := Lib.hid hs2
  have HC' := Lib.hid HC
  have h3' := Lib.hid h3
  have hb0' := Lib.hid hb0
  clear hs hs2 HC h3 hb0
  go_enter Try.func59, Try.ntmps59
  cases h1 : (y == y2) with
  | false =>
    go_wp2_with fail
    go_ret
    exact ⟨rfl, hb0'.out⟩
  | true =>
    cases h2 : (k == k2) with
    | false =>
      go_wp2_with fail
      go_ret
      exact ⟨rfl, hb0'.out⟩
    | true =>
      go_wp2_with fail
      refine HC'.out.mono ?_
      rintro e w2 ⟨rfl, hq⟩
      have hb := hb0'.out.trans (hq.below w.heap.size)
      have hb' := Lib.hid hb
      have hq' := Lib.hid hq
      clear hb hq
      go_wp2_with fail
      go_ret
      exact ⟨by cases b3 <;> rfl, hb'.out⟩
def spz : Spt := (0, 0, 0, 0, 0)
theorem takeG_succ {α : Type} {d : α} {x y : List α} {k n : Nat} (hx : x.length = n) (hy : y.length = n) (hk : k < n) (h : x.take k = y.take k) (he : x.getD k d = y.getD k d) : x.take (k + 1) = y.take (k + 1) := by
  rw [List.take_add_one, List.take_add_one, h]
  congr 1
  simp only [List.getD_eq_getElem?_getD] at he
  rw [List.getElem?_eq_getElem (by omega), List.getElem?_eq_getElem (by omega)] at he ⊢
  simpa using he
theorem neG_of_at {α : Type} [BEq α] [LawfulBEq α] {d : α} {x y : List α} {k : Nat} (he : ¬ x.getD k d = y.getD k d) : (x == y) = false := by
  rw [beq_eq_false_iff_ne]
  rintro rfl
  exact he rfl
theorem eqG_of_take {α : Type} [BEq α] [LawfulBEq α] {x y : List α} {k n : Nat} (hx : x.length = n) (hy : y.length = n) (hk : n ≤ k) (h : x.take k = y.take k) : (x == y) = true := by
  rw [List.take_of_length_le (by omega), List.take_of_length_le (by omega)] at h
  simp [h]

theorem neq_sp (W : World) (p q : Spt) : (binOp .neq 38 (.agg (spC p).toArray) (.agg (spC q).toArray)).run Try.prog W = .ok (.bool (p != q)) W := by
  obtain ⟨a0, a1, a2, a3, a4⟩ := p
  obtain ⟨b0, b1, b2, b3, b4⟩ := q
  have hs : Try.prog.stoodInHeld 38 = false := by kernel_rfl
  rw [run_neq_struct, run_equalIn_agg (ht := by unfold Program.fieldsOf; rw [Try.underlying38]) (hp := hs)]
  unfold Program.fieldsOf
  rw [Try.underlying38]
  have e1 : ∀ (x y : Int) (W : World), (Op.equalIn 9999 3 (.int .i64 x) (.int .i64 y)).run Try.prog W = .ok (x == y) W := fun x y W => run_equalIn_int W 9998 _ _ _ x y Try.underlying3
  have p0 : ∀ (x0 x1 x2 x3 x4 : Int) (W : World), (part 3 #[.int .i64 x0, .int .i64 x1, .int .i64 x2, .int .i64 x3, .int .i64 x4] 0).run Try.prog W = .ok (.int .i64 x0) W := fun _ _ _ _ _ W => by kernel_rfl
  have p1 : ∀ (x0 x1 x2 x3 x4 : Int) (W : World), (part 3 #[.int .i64 x0, .int .i64 x1, .int .i64 x2, .int .i64 x3, .int .i64 x4] 1).run Try.prog W = .ok (.int .i64 x1) W := fun _ _ _ _ _ W => by kernel_rfl
  have p2 : ∀ (x0 x1 x2 x3 x4 : Int) (W : World), (part 3 #[.int .i64 x0, .int .i64 x1, .int .i64 x2, .int .i64 x3, .int .i64 x4] 2).run Try.prog W = .ok (.int .i64 x2) W := fun _ _ _ _ _ W => by kernel_rfl
  have p3 : ∀ (x0 x1 x2 x3 x4 : Int) (W : World), (part 3 #[.int .i64 x0, .int .i64 x1, .int .i64 x2, .int .i64 x3, .int .i64 x4] 3).run Try.prog W = .ok (.int .i64 x3) W := fun _ _ _ _ _ W => by kernel_rfl
  have p4 : ∀ (x0 x1 x2 x3 x4 : Int) (W : World), (part 3 #[.int .i64 x0, .int .i64 x1, .int .i64 x2, .int .i64 x3, .int .i64 x4] 4).run Try.prog W = .ok (.int .i64 x4) W := fun _ _ _ _ _ W => by kernel_rfl
  have hb : ((a0, a1, a2, a3, a4) != (b0, b1, b2, b3, b4)) = !(a0 == b0 && (a1 == b1 && (a2 == b2 && (a3 == b3 && a4 == b4)))) := rfl
  rw [hb]
  simp only [spC]
  simp [Op.eqFields, e1, p0, p1, p2, p3, p4, Result.andThen]
  cases h0 : a0 == b0 <;> cases h1 : a1 == b1 <;> cases h2 : a2 == b2 <;> cases h3 : a3 == b3 <;> cases h4 : a4 == b4 <;> simp_all

attribute [-go_sem] run_neq_struct
set_option maxHeartbeats 1000000 in
theorem spots_any (a a' : Option Addr) (n n' c c' : Nat) (x y : List Spt) (w : World) (hx : Sl w a n c 5 (fl spC x)) (hy : Sl w a' n' c' 5 (fl spC y)) :
    Calls Try.prog 13 #[.slice a n c, .slice a' n' c'] w fun e w' => e = .returned (.bool (x == y)) ∧ Qt w w' := by
  have hxl := hx.flen spC_len (by decide)
  have hyl := hy.flen spC_len (by decide)
  have hm := hx.max
  have hle := hx.le
  have hm' := hy.max
  have hle' := hy.le
  have hx' := Lib.hid hx
  have hy' := Lib.hid hy
  have hxl' := Lib.hid hxl
  have hyl' := Lib.hid hyl
  clear hx hy hxl hyl
  obtain ⟨r, hr⟩ : ∃ r, (x == y) = r := ⟨_, rfl⟩
  rw [hr]
  have hr' := Lib.hid hr
  clear hr
  by_cases hnn : n = n'
  · subst hnn
    have f0 : ((n : Int) != (n : Int)) = false := by simp
    go_enter Try.func13, Try.ntmps13
    go_wp2
    go_loopw [5] (fun i wr => ∃ k : Nat, k ≤ n ∧ i = .int .i64 k ∧ Hid (x.take k = y.take k) ∧ Qt w wr) (fun i _ => n - (intOf i).toNat)
    case atStart => exact ⟨0, by omega, rfl, Lib.hid rfl, Qt.refl _⟩
    case round =>
      obtain ⟨k, hk, rfl, htk, hq⟩ := hrel
      by_cases hlt : k < n
      · obtain ⟨b, o, rfl, hb, fe⟩ := hx'.out.elem spC_len (by decide) spz hlt
        have f0 := fe 0 _ rfl
        have f1 := fe 1 _ rfl
        have f2 := fe 2 _ rfl
        have f3 := fe 3 _ rfl
        have f4 := fe 4 _ rfl
        simp only [Nat.add_zero] at f0 f1 f2 f3 f4
        obtain ⟨b', o', rfl, hb', ge⟩ := hy'.out.elem spC_len (by decide) spz hlt
        have g0 := ge 0 _ rfl
        have g1 := ge 1 _ rfl
        have g2 := ge 2 _ rfl
        have g3 := ge 3 _ rfl
        have g4 := ge 4 _ rfl
        simp only [Nat.add_zero] at g0 g1 g2 g3 g4
        clear fe ge
        have hnq := fun W => neq_sp W (x.getD k spz) (y.getD k spz)
        simp only [spC] at hnq
        obtain ⟨r', hr1⟩ : ∃ r', (x.getD k spz != y.getD k spz) = r' := ⟨_, rfl⟩
        rw [hr1] at hnq
        have hr1' := Lib.hid hr1
        clear hr1
        generalize (x.getD k spz).1 = p0 at *
        generalize (x.getD k spz).2.1 = p1 at *
        generalize (x.getD k spz).2.2.1 = p2 at *
        generalize (x.getD k spz).2.2.2.1 = p3 at *
        generalize (x.getD k spz).2.2.2.2 = p4 at *
        generalize (y.getD k spz).1 = q0 at *
        generalize (y.getD k spz).2.1 = q1 at *
        generalize (y.getD k spz).2.2.1 = q2 at *
        generalize (y.getD k spz).2.2.2.1 = q3 at *
        generalize (y.getD k spz).2.2.2.2 = q4 at *
        obtain ⟨j, rfl⟩ := hq.ex
        cases r'
        · have hnext : Hid (x.take (k + 1) = y.take (k + 1)) := Lib.hid (takeG_succ hxl'.out hyl'.out hlt htk.out (by have := hr1'.out; simpa using this))
          go_wp2_with fail
          go_quiet (fail)
          go_wp2
          go_roundw
          case rel => exact ⟨k + 1, by omega, by go_num, hnext, ⟨_, rfl⟩⟩
          case measure => simp [intOf]; omega
        · obtain rfl : r = false := by rw [← hr'.out]; exact neG_of_at (k := k) (by have := hr1'.out; simpa using this)
          go_wp2_with fail
          go_quiet (fail)
          go_wp2
          go_ret
          exact ⟨rfl, hq.step _⟩
      · obtain rfl : r = true := by rw [← hr'.out]; exact eqG_of_take hxl'.out hyl'.out (by omega) htk.out
        go_wp2
        go_ret
        exact ⟨rfl, hq⟩
  · have f0 : ((n : Int) != (n' : Int)) = true := by simp; omega
    obtain rfl : r = false := by
      rw [← hr'.out, beq_eq_false_iff_ne]
      rintro rfl
      exact hnn (hxl'.out.symm.trans hyl'.out)
    go_enter Try.func13, Try.ntmps13
    go_wp2
    go_ret
    exact ⟨rfl, Qt.refl _⟩
end Go.Proofs.Ytheelhepelbgcaa

namespace Go.Proofs.Ytheelhepelbgcaa
open Go.RowKit Tt
set_option linter.unusedVariables false
set_option linter.unusedSimpArgs false

/-- a row of tags that is read -/
structure Tgr (w : World) (a : Option Addr) (n c : Nat) (zs : List Tz) : Prop where
  row : Sl w a n c 4 (fl tzc zs)
  each : ∀ z ∈ zs, Sl w z.1.2.2.2.1 z.1.2.2.2.2.1 z.1.2.2.2.2.2 1 (ints .u8 z.2)
theorem Tgr.mono {w w' : World} {a : Option Addr} {n c : Nat} {zs : List Tz} (h : Tgr w a n c zs) (hb : Below w.heap.size w w') : Tgr w' a n c zs := ⟨h.row.mono hb, fun z hz => (h.each z hz).mono hb⟩
theorem Tgr.len {w : World} {a : Option Addr} {n c : Nat} {zs : List Tz} (h : Tgr w a n c zs) : zs.length = n := h.row.flen tzc_len (by decide)
theorem Tgr.at {w : World} {a : Option Addr} {n c : Nat} {zs : List Tz} (h : Tgr w a n c zs) {k : Nat} (hk : k < n) :
    ∃ b o, a = some ⟨b, o, none⟩ ∧ b < w.heap.size ∧ w.cell? ⟨b, o + k * 4, none⟩ = some (.int .i64 (zs.getD k tz0).1.1) ∧ w.cell? ⟨b, o + k * 4 + 1, none⟩ = some (.int .i64 (zs.getD k tz0).1.2.1) ∧ w.cell? ⟨b, o + k * 4 + 2, none⟩ = some (.int .i64 (zs.getD k tz0).1.2.2.1) ∧
      w.cell? ⟨b, o + k * 4 + 3, none⟩ = some (.slice (zs.getD k tz0).1.2.2.2.1 (zs.getD k tz0).1.2.2.2.2.1 (zs.getD k tz0).1.2.2.2.2.2) ∧ Sl w (zs.getD k tz0).1.2.2.2.1 (zs.getD k tz0).1.2.2.2.2.1 (zs.getD k tz0).1.2.2.2.2.2 1 (ints .u8 (zs.getD k tz0).2) := by
  obtain ⟨b, o, rfl, hb, fe⟩ := h.row.elem tzc_len (by decide) tz0 hk
  have f0 := fe 0 _ rfl
  refine ⟨b, o, rfl, hb, by simpa using f0, fe 1 _ rfl, fe 2 _ rfl, fe 3 _ rfl, h.each _ ?_⟩
  rw [getD_el (by rw [h.len]; exact hk)]
  exact List.getElem_mem _
theorem map_getD {α β : Type} (f : α → β) (l : List α) (d : α) (i : Nat) : (l.map f).getD i (f d) = f (l.getD i d) := by
  simp only [List.getD_eq_getElem?_getD, List.getElem?_map]
  cases l[i]? <;> rfl
set_option maxRecDepth 20000 in
set_option maxHeartbeats 4000000 in
theorem tags_same (a a' : Option Addr) (n c n' c' : Nat) (xs ys : List Tz) (w : World) (hx : Tgr w a n c xs) (hy : Tgr w a' n' c' ys) :
    Calls Try.prog 38 #[.slice a n c, .slice a' n' c'] w fun e w' => e = .returned (.bool (xs.map tagz == ys.map tagz)) ∧ Below w.heap.size w w' := by
  have hxl : (xs.map tagz).length = n := by rw [List.length_map]; exact hx.len
  have hyl : (ys.map tagz).length = n' := by rw [List.length_map]; exact hy.len
  have hmx := hx.row.max
  have hle := hx.row.le
  have hmy := hy.row.max
  have hley := hy.row.le
  obtain ⟨r, hr⟩ : ∃ r, (xs.map tagz == ys.map tagz) = r := ⟨_, rfl⟩
  rw [hr]
  have hr' := Lib.hid hr
  clear hr
  have hx' := Lib.hid hx
  have hy' := Lib.hid hy
  have hxl' := Lib.hid hxl
  have hyl' := Lib.hid hyl
  clear hx hy hxl hyl
  by_cases hnn : n = n'
  · subst hnn
    have hne : ((n : Int) != (n : Int)) = false := by simp
    go_enter Try.func38, Try.ntmps38
    go_wp2_with fail
    go_loopw [5] (fun iv wr => ∃ (i : Nat), i ≤ n ∧ iv = .int .i64 i ∧ Hid ((xs.map tagz).take i = (ys.map tagz).take i) ∧ Hid (Below w.heap.size w wr)) (fun iv _ => n - (intOf iv).toNat)
    case atStart => exact ⟨0, by omega, rfl, Lib.hid rfl, Lib.hid (Below.refl _ _)⟩
    case round =>
      obtain ⟨i, hin, rfl, htk, hb⟩ := hrel
      by_cases hi : i < n
      · have hil : (i : Int) < (n : Int) := by omega
        have hw1 : IntKind.i64.wrap ((i : Int) + 1) = i + 1 := by rw [IntKind.wrap_i64]; omega
        obtain ⟨b, o, rfl, hblt, f0, f1, f2, f3, hrd⟩ := hx'.out.at hi
        obtain ⟨b2, o2, rfl, hblt2, g0, g1, g2, g3, hrd2⟩ := hy'.out.at hi
        have hmx := map_getD tagz xs tz0 i
        have hmy := map_getD tagz ys tz0 i
        obtain ⟨⟨⟨y, t, k, xa, xn, xc⟩, d⟩, hzi⟩ : ∃ z, xs.getD i tz0 = z := ⟨_, rfl⟩
        obtain ⟨⟨⟨y2, t2, k2, xa2, xn2, xc2⟩, d2⟩, hzi2⟩ : ∃ z, ys.getD i tz0 = z := ⟨_, rfl⟩
        rw [hzi] at f0 f1 f2 f3 hrd hmx
        rw [hzi2] at g0 g1 g2 g3 hrd2 hmy
        simp only [tagz] at f0 f1 f2 f3 g0 g1 g2 g3 hrd hrd2 hmx hmy
        obtain ⟨Ty, f, hne, hbel, hsurj⟩ := below_worlds w.heap.size w
        have q0 : ∀ s, (f s).cell? ⟨b, o + i * 4, none⟩ = some (.int .i64 y) := fun s => late (hbel s) hblt f0
        have q1 : ∀ s, (f s).cell? ⟨b, o + i * 4 + 1, none⟩ = some (.int .i64 t) := fun s => late (hbel s) hblt f1
        have q2 : ∀ s, (f s).cell? ⟨b, o + i * 4 + 2, none⟩ = some (.int .i64 k) := fun s => late (hbel s) hblt f2
        have q3 : ∀ s, (f s).cell? ⟨b, o + i * 4 + 3, none⟩ = some (.slice xa xn xc) := fun s => late (hbel s) hblt f3
        have r0 : ∀ s, (f s).cell? ⟨b2, o2 + i * 4, none⟩ = some (.int .i64 y2) := fun s => late (hbel s) hblt2 g0
        have r1 : ∀ s, (f s).cell? ⟨b2, o2 + i * 4 + 1, none⟩ = some (.int .i64 t2) := fun s => late (hbel s) hblt2 g1
        have r2 : ∀ s, (f s).cell? ⟨b2, o2 + i * 4 + 2, none⟩ = some (.int .i64 k2) := fun s => late (hbel s) hblt2 g2
        have r3 : ∀ s, (f s).cell? ⟨b2, o2 + i * 4 + 3, none⟩ = some (.slice xa2 xn2 xc2) := fun s => late (hbel s) hblt2 g3
        have HS := Lib.hid (hsurj _ (hb.out.drew))
        have HG := Lib.hid (fun s => same18 t k t2 k2 xa xa2 xn xc xn2 xc2 d d2 (f s) (hrd.mono (hbel s)) (hrd2.mono (hbel s)))
        clear f0 f1 f2 f3 g0 g1 g2 g3 hblt hblt2
        have hbel' := Lib.hid hbel
        have hsurj' := Lib.hid hsurj
        have hrd' := Lib.hid hrd
        have hrd2' := Lib.hid hrd2
        have hzi' := Lib.hid hzi
        have hzi2' := Lib.hid hzi2
        have hmx' := Lib.hid hmx
        have hmy' := Lib.hid hmy
        clear hbel hsurj hrd hrd2 hzi hzi2 hmx hmy
        by_cases hyy : y = y2
        · subst hyy
          have hyy : (y != y) = false := by simp
          obtain ⟨r', hr1⟩ : ∃ b, (t == t2 && k == k2 && d == d2) = b := ⟨_, rfl⟩
          rw [hr1] at HG
          cases r' with
          | true =>
            have hnext : Hid ((xs.map tagz).take (i + 1) = (ys.map tagz).take (i + 1)) := Lib.hid (takeG_succ hxl'.out hyl'.out hi htk.out (by
              rw [hmx'.out, hmy'.out]
              simp only [Bool.and_eq_true, beq_iff_eq] at hr1
              rw [hr1.1.1, hr1.1.2, hr1.2]))
            clear hr1
            go_wp2_with fail
            refine wp_quiet_in f (by kernel_rfl) (by kernel_rfl) HS.out ?_
            iterate 25 (go_big_quiet_step ((go_at_call 59; refine (HG.out _).mono ?_; rintro e w3 ⟨rfl, hb3⟩; exact ⟨rfl, hsurj'.out _ ((hbel'.out _).trans (hb3.mono (hbel'.out _).size))⟩)))
            refine wpQuiet_nil ?_
            intro s
            have hbs := hbel'.out s
            have hbs' := Lib.hid hbs
            clear hbs
            clear q0 q1 q2 q3 r0 r1 r2 r3
            go_wp2_with fail
            go_roundw
            case rel => exact ⟨i + 1, by omega, by go_num, hnext, hbs'⟩
            case measure => simp [intOf]; omega
          | false =>
            obtain rfl : r = false := by
              rw [← hr'.out]
              refine neG_of_at (k := i) (d := (0, 0, 0, [])) (fun e => ?_)
              rw [hmx'.out, hmy'.out] at e
              simp only [Prod.mk.injEq] at e
              obtain ⟨_, rfl, rfl, rfl⟩ := e
              simp at hr1
            clear hr1
            go_wp2_with fail
            refine wp_quiet_in f (by kernel_rfl) (by kernel_rfl) HS.out ?_
            iterate 25 (go_big_quiet_step ((go_at_call 59; refine (HG.out _).mono ?_; rintro e w3 ⟨rfl, hb3⟩; exact ⟨rfl, hsurj'.out _ ((hbel'.out _).trans (hb3.mono (hbel'.out _).size))⟩)))
            refine wpQuiet_nil ?_
            intro s
            have hbs := hbel'.out s
            have hbs' := Lib.hid hbs
            clear hbs
            clear q0 q1 q2 q3 r0 r1 r2 r3
            go_wp2_with fail
            go_ret
            exact ⟨rfl, hbs'.out⟩
        · obtain rfl : r = false := by
            rw [← hr'.out]
            refine neG_of_at (k := i) (d := (0, 0, 0, [])) (fun e => ?_)
            rw [hmx'.out, hmy'.out] at e
            exact hyy (congrArg Prod.fst e)
          have hyy : (y != y2) = true := by simpa using hyy
          go_wp2_with fail
          refine wp_quiet_in f (by kernel_rfl) (by kernel_rfl) HS.out ?_
          iterate 25 (go_big_quiet_step (fail))
          refine wpQuiet_nil ?_
          intro s
          have hbs := hbel'.out s
          have hbs' := Lib.hid hbs
          clear hbs
          clear q0 q1 q2 q3 r0 r1 r2 r3
          go_wp2_with fail
          go_ret
          exact ⟨rfl, hbs'.out⟩
      · obtain rfl : i = n := by omega
        obtain rfl : r = true := by rw [← hr'.out]; exact eqG_of_take hxl'.out hyl'.out (by omega) htk.out
        go_wp2
        go_ret
        exact ⟨rfl, hb.out⟩
  · have hne : ((n : Int) != (n' : Int)) = true := by simp; omega
    obtain rfl : r = false := by
      rw [← hr'.out, beq_eq_false_iff_ne]
      intro e
      have := congrArg List.length e
      rw [hxl'.out, hyl'.out] at this
      exact hnn this
    go_enter Try.func38, Try.ntmps38
    go_wp2_with fail
    go_ret
    exact ⟨rfl, Below.refl _ _⟩
/-- a directory that is read -/
def DirR (w : World) : (f : Nat) → DirT f → Dz → Prop
  | 0, _, _ => False
  | f + 1, d, v => ∃ (ta : Option Addr) (tn tc : Nat) (zs : List Tz) (sa : Option Addr) (sn sc : Nat) (ds : List (Int × Dz)) (ba : Option Addr) (bn bc : Nat), v = (.slice ta tn tc, .slice sa sn sc, .slice ba bn bc) ∧ Tgr w ta tn tc zs ∧ d.1 = zs.map tagz ∧
      Sl w sa sn sc 4 (fl sbC ds) ∧ ds.length = d.2.1.length ∧ (∀ i (h : i < ds.length) (h' : i < d.2.1.length), ds[i].1 = d.2.1[i].1 ∧ DirR w f d.2.1[i].2 ds[i].2) ∧ Sl w ba bn bc 1 (ints .u8 d.2.2)
theorem DirR.mono {w w' : World} (hb : Below w.heap.size w w') : ∀ {f : Nat} {d : DirT f} {v : Dz}, DirR w f d v → DirR w' f d v
  | 0, _, _, h => h.elim
  | f + 1, d, v, h => by
    obtain ⟨ta, tn, tc, zs, sa, sn, sc, ds, ba, bn, bc, h1, h2, h3, h4, h5, h6, h7⟩ := h
    exact ⟨ta, tn, tc, zs, sa, sn, sc, ds, ba, bn, bc, h1, h2.mono hb, h3, h4.mono hb, h5, fun i hi hi' => ⟨(h6 i hi hi').1, (h6 i hi hi').2.mono hb⟩, h7.mono hb⟩
theorem Ck.v {X : Nat → Prop} {B : Nat} {w : World} {v : Value} {E : TypeId} {sz n : Nat} {xs : List Value} (h : Ck X B w v E sz n xs) : ∃ a c, v = .slice a n c := by
  rcases h.1.2 with ⟨rfl, h0⟩ | ⟨g, cap, cur, rfl, _⟩
  · exact ⟨none, 0, by rw [h0]⟩
  · exact ⟨_, _, rfl⟩
theorem DirAt.rd {X : Nat → Prop} {B : Nat} {w : World} : ∀ {f : Nat} {d : DirT f} {v : Dz}, DirAt X B w f d v → DirR w f d v
  | 0, _, _, h => h.elim
  | f + 1, d, (v1, v2, v3), h => by
    obtain ⟨h0, ⟨zs, h1, h2, h3⟩, ⟨ds, h4, h5, h6⟩, h7⟩ := h
    obtain ⟨ta, tc, rfl⟩ := Ck.v h2
    obtain ⟨sa, sc, rfl⟩ := Ck.v h5
    obtain ⟨ba, bc, rfl⟩ := Ck.v h7
    exact ⟨ta, _, tc, zs, sa, _, sc, ds, ba, _, bc, rfl, ⟨h2.sl, fun z hz => (h3 z hz).sl⟩, h1, h5.sl, h4, fun i hi hi' => ⟨(h6 i hi hi').1, (h6 i hi hi').2.rd⟩, h7.sl⟩
end Go.Proofs.Ytheelhepelbgcaa

namespace Go.Proofs.Ytheelhepelbgcaa
open Go.RowKit Tt
set_option linter.unusedVariables false
set_option linter.unusedSimpArgs false

abbrev dz0 : Int × Dz := (0, .slice none 0 0, .slice none 0 0, .slice none 0 0)
theorem list_ne {α : Type} {x y : List α} {i : Nat} (h : i < x.length) (h' : i < y.length) (hne : x[i] ≠ y[i]) : x ≠ y := by
  rintro rfl
  exact hne rfl
theorem dir_inj {f : Nat} {a a' : List Tgs} {b b' : List (Int × DirT f)} {c c' : List Int} (h : @Eq (DirT (f + 1)) (a, b, c) (a', b', c')) : a = a' ∧ b = b' ∧ c = c' := by
  have h' : ((a, b, c) : List Tgs × List (Int × DirT f) × List Int) = (a', b', c') := h
  cases h'
  exact ⟨rfl, rfl, rfl⟩
set_option maxRecDepth 20000 in
set_option maxHeartbeats 8000000 in
theorem dir_same : ∀ (f : Nat) (d d2 : DirT f) (v v2 : Dz) (w : World), DirR w f d v → DirR w f d2 v2 → ∀ b : Bool, (b = true ↔ d = d2) →
    Calls Try.prog 24 #[.agg #[v.1, v.2.1, v.2.2], .agg #[v2.1, v2.2.1, v2.2.2]] w fun e w' => e = .returned (.bool b) ∧ Below w.heap.size w w'
  | 0, _, _, _, _, _, h, _, _, _ => h.elim
  | f + 1, (dt, dsu, dbl), (et, esu, ebl), v, v2, w, h, h2, b, hb => by
    have IH := dir_same f
    obtain ⟨ta, tn, tc, zs, sa, sn, sc, ds, ba, bn, bc, rfl, t1, t2, t3, t4, t5, t6⟩ := h
    obtain ⟨ua, un, uc, ys, ra, rn, rc, es, ca, cn, cc, rfl, u1, u2, u3, u4, u5, u6⟩ := h2
    simp only at t2 t4 t5 t6 u2 u4 u5 u6 ⊢
    have hdl := t3.flen sbC_len (by decide)
    have hel := u3.flen sbC_len (by decide)
    obtain ⟨W, hW⟩ : ∃ W, (w.alloc (.cells #[.slice ta tn tc, .slice sa sn sc, .slice ba bn bc] 48)).alloc (.cells #[.slice ua un uc, .slice ra rn rc, .slice ca cn cc] 48) = W := ⟨_, rfl⟩
    have hbW : Below w.heap.size w W := by rw [← hW]; exact ((Below.refl w.heap.size w).alloc (Nat.le_refl _) _).alloc (by simp) _
    have b0 : Blk W w.heap.size 48 #[.slice ta tn tc, .slice sa sn sc, .slice ba bn bc] := by rw [← hW]; exact (Blk.new w _ _).alloc _
    have b1 : Blk W (w.heap.size + 1) 48 #[.slice ua un uc, .slice ra rn rc, .slice ca cn cc] := by rw [← hW]; exact heap_new' _ _ (by simp)
    obtain ⟨rt, hrt⟩ : ∃ b, (zs.map tagz == ys.map tagz) = b := ⟨_, rfl⟩
    obtain ⟨rb, hrb⟩ : ∃ b, (dbl == ebl) = b := ⟨_, rfl⟩
    have HT := fun W' (h : Below W.heap.size W W') => tags_same ta ua tn tc un uc zs ys W' ((t1.mono hbW).mono h) ((u1.mono hbW).mono h)
    rw [hrt] at HT
    have HB := fun W' (h : Below W.heap.size W W') => same01 ba ca bn cn bc cc dbl ebl W' ((t6.mono hbW).mono h) ((u6.mono hbW).mono h)
    rw [hrb] at HB
    have c00 : W.cell? ⟨w.heap.size, 0, none⟩ = some (.slice ta tn tc) := b0.cell rfl
    have c10 : W.cell? ⟨w.heap.size + 1, 0, none⟩ = some (.slice ua un uc) := b1.cell rfl
    have hsm := t3.max
    have hsle := t3.le
    have hrm := u3.max
    have hrle := u3.le
    have IH' := Lib.hid IH
    have t1' := Lib.hid t1
    have t2' := Lib.hid t2
    have t3' := Lib.hid t3
    have t4' := Lib.hid t4
    have t5' := Lib.hid t5
    have t6' := Lib.hid t6
    have u1' := Lib.hid u1
    have u2' := Lib.hid u2
    have u3' := Lib.hid u3
    have u4' := Lib.hid u4
    have u5' := Lib.hid u5
    have u6' := Lib.hid u6
    have hdl' := Lib.hid hdl
    have hel' := Lib.hid hel
    have hbW' := Lib.hid hbW
    have b0' := Lib.hid b0
    have b1' := Lib.hid b1
    have hrt' := Lib.hid hrt
    have hrb' := Lib.hid hrb
    have HT' := Lib.hid HT
    have HB' := Lib.hid HB
    have hb' := Lib.hid hb
    clear IH t1 t2 t3 t4 t5 t6 u1 u2 u3 u4 u5 u6 hdl hel hbW b0 b1 hrt hrb HT HB hb
    go_enter Try.func24, Try.ntmps24
    go_upto_region 1 with fail
    try rw [hW]
    clear hW
    go_wp2_with fail
    refine (HT'.out W (Below.refl _ _)).mono ?_
    rintro e w1 ⟨rfl, hb1⟩
    have b01 := b0'.out.late hb1
    have b11 := b1'.out.late hb1
    have c02 : w1.cell? ⟨w.heap.size, 2, none⟩ = some (.slice ba bn bc) := b01.cell rfl
    have c12 : w1.cell? ⟨w.heap.size + 1, 2, none⟩ = some (.slice ca cn cc) := b11.cell rfl
    have c01 : w1.cell? ⟨w.heap.size, 1, none⟩ = some (.slice sa sn sc) := b01.cell rfl
    have c11 : w1.cell? ⟨w.heap.size + 1, 1, none⟩ = some (.slice ra rn rc) := b11.cell rfl
    have hbw1 := hbW'.out.trans (hb1.mono hbW'.out.size)
    clear c00 c10
    have b01' := Lib.hid b01
    have b11' := Lib.hid b11
    have hb1' := Lib.hid hb1
    have hbw1' := Lib.hid hbw1
    clear b01 b11 hb1 hbw1
    cases rt with
    | false =>
      obtain rfl : b = false := by
        rw [← Bool.not_eq_true]
        intro e
        have e2 := dir_inj (hb'.out.1 e)
        rw [beq_eq_false_iff_ne] at hrt'
        exact hrt'.out (by rw [← t2'.out, ← u2'.out]; exact e2.1)
      go_wp2_with fail
      go_ret
      exact ⟨rfl, hbw1'.out⟩
    | true =>
      go_wp2_with fail
      refine (HB'.out w1 hb1'.out).mono ?_
      rintro e w2 ⟨rfl, hq2⟩
      have hb2 := hq2.below w1.heap.size
      have b02 := b01'.out.late hb2
      have b12 := b11'.out.late hb2
      have c01 : w2.cell? ⟨w.heap.size, 1, none⟩ = some (.slice sa sn sc) := b02.cell rfl
      have c11 : w2.cell? ⟨w.heap.size + 1, 1, none⟩ = some (.slice ra rn rc) := b12.cell rfl
      have hbw2 := hbw1'.out.trans (hb2.mono hbw1'.out.size)
      clear c02 c12
      have b02' := Lib.hid b02
      have b12' := Lib.hid b12
      have hq2' := Lib.hid hq2
      have hb2' := Lib.hid hb2
      have hbw2' := Lib.hid hbw2
      clear b02 b12 hq2 hb2 hbw2
      cases rb with
      | false =>
        obtain rfl : b = false := by
          rw [← Bool.not_eq_true]
          intro e
          have e2 := dir_inj (hb'.out.1 e)
          have := hrb'.out
          rw [beq_eq_false_iff_ne] at this
          exact this e2.2.2
        go_wp2_with fail
        go_ret
        exact ⟨rfl, hbw2'.out⟩
      | true =>
        by_cases hnn : sn = rn
        · subst hnn
          have hne : ((sn : Int) != (sn : Int)) = false := by simp
          go_wp2_with fail
          clear c01 c11
          go_loopw [5] (fun iv wr => ∃ (i : Nat), i ≤ sn ∧ iv = .int .i64 i ∧ Hid (∀ j (h : j < dsu.length) (h' : j < esu.length), j < i → dsu[j] = esu[j]) ∧ Hid (Below w.heap.size w wr) ∧ Hid (Below W.heap.size W wr)) (fun iv _ => sn - (intOf iv).toNat)
          case atStart => exact ⟨0, by omega, rfl, Lib.hid (fun j _ _ h => by omega), hbw2', Lib.hid (hb1'.out.trans (hb2'.out.mono hb1'.out.size))⟩
          case round =>
            obtain ⟨i, hin, rfl, htk, hbr, hbR⟩ := hrel
            have b03 := b0'.out.late hbR.out
            have b13 := b1'.out.late hbR.out
            have c01 : wr.cell? ⟨w.heap.size, 1, none⟩ = some (.slice sa sn sc) := b03.cell rfl
            have b03' := Lib.hid b03
            have b13' := Lib.hid b13
            clear b03 b13
            by_cases hi : i < sn
            · have hil : (i : Int) < (sn : Int) := by omega
              have hw1 : IntKind.i64.wrap ((i : Int) + 1) = i + 1 := by rw [IntKind.wrap_i64]; omega
              have hdi : i < ds.length := by rw [hdl'.out]; exact hi
              have hei : i < es.length := by rw [hel'.out]; exact hi
              have hdi2 : i < dsu.length := by have := t4'.out; omega
              have hei2 : i < esu.length := by have := u4'.out; omega
              obtain ⟨x, o, hsa, hx, fe⟩ := ((t3'.out.mono hbW'.out).mono hbR.out).elem sbC_len (by decide) dz0 hi
              obtain ⟨x2, o2, hra, hx2, ge⟩ := ((u3'.out.mono hbW'.out).mono hbR.out).elem sbC_len (by decide) dz0 hi
              have T5 := t5'.out i hdi hdi2
              have U5 := u5'.out i hei hei2
              rw [getD_el hdi] at fe
              rw [getD_el hei] at ge
              obtain ⟨⟨y, z1, z2, z3⟩, hds⟩ : ∃ q, ds[i] = q := ⟨_, rfl⟩
              obtain ⟨⟨y2, q1, q2, q3⟩, hes⟩ : ∃ q, es[i] = q := ⟨_, rfl⟩
              rw [hds] at fe T5
              rw [hes] at ge U5
              obtain ⟨T5a, T5b⟩ := T5
              obtain ⟨U5a, U5b⟩ := U5
              simp only at T5a U5a
              have f0 := fe 0 _ rfl
              have f1 := fe 1 _ rfl
              have f2 := fe 2 _ rfl
              have f3 := fe 3 _ rfl
              have g0 := ge 0 _ rfl
              have g1 := ge 1 _ rfl
              have g2 := ge 2 _ rfl
              have g3 := ge 3 _ rfl
              simp only [Nat.add_zero] at f0 f1 f2 f3 g0 g1 g2 g3
              subst hsa hra
              obtain ⟨Ty, ff, hne, hbel, hsurj⟩ := later_worlds wr
              have p0 : ∀ s, (ff s).cell? ⟨w.heap.size, 1, none⟩ = some (.slice (some ⟨x, o, none⟩) sn sc) := fun s => (b03'.out.late (hbel s)).cell rfl
              have p1 : ∀ s, (ff s).cell? ⟨w.heap.size + 1, 1, none⟩ = some (.slice (some ⟨x2, o2, none⟩) sn rc) := fun s => (b13'.out.late (hbel s)).cell rfl
              have r0 : ∀ s, (ff s).cell? ⟨x, o + i * 4, none⟩ = some (.int .i64 y) := fun s => late (hbel s) hx f0
              have r1 : ∀ s, (ff s).cell? ⟨x, o + i * 4 + 1, none⟩ = some z1 := fun s => late (hbel s) hx f1
              have r2 : ∀ s, (ff s).cell? ⟨x, o + i * 4 + 2, none⟩ = some z2 := fun s => late (hbel s) hx f2
              have r3 : ∀ s, (ff s).cell? ⟨x, o + i * 4 + 3, none⟩ = some z3 := fun s => late (hbel s) hx f3
              have k0 : ∀ s, (ff s).cell? ⟨x2, o2 + i * 4, none⟩ = some (.int .i64 y2) := fun s => late (hbel s) hx2 g0
              have k1 : ∀ s, (ff s).cell? ⟨x2, o2 + i * 4 + 1, none⟩ = some q1 := fun s => late (hbel s) hx2 g1
              have k2 : ∀ s, (ff s).cell? ⟨x2, o2 + i * 4 + 2, none⟩ = some q2 := fun s => late (hbel s) hx2 g2
              have k3 : ∀ s, (ff s).cell? ⟨x2, o2 + i * 4 + 3, none⟩ = some q3 := fun s => late (hbel s) hx2 g3
              obtain ⟨b', hb'_⟩ : ∃ b' : Bool, (b' = true ↔ dsu[i].2 = esu[i].2) := by classical exact ⟨decide (dsu[i].2 = esu[i].2), by simp⟩
              have HG := Lib.hid (fun s => IH'.out dsu[i].2 esu[i].2 (z1, z2, z3) (q1, q2, q3) (ff s) (((T5b.mono hbW'.out).mono hbR.out).mono (hbel s)) (((U5b.mono hbW'.out).mono hbR.out).mono (hbel s)) b' hb'_)
              simp only at HG
              have HS := Lib.hid (hsurj _ ((Below.refl _ _).drew))
              clear f0 f1 f2 f3 g0 g1 g2 g3 fe ge hx hx2
              have hbel' := Lib.hid hbel
              have hsurj' := Lib.hid hsurj
              have T5a' := Lib.hid T5a
              have T5b' := Lib.hid T5b
              have U5a' := Lib.hid U5a
              have U5b' := Lib.hid U5b
              have hds' := Lib.hid hds
              have hes' := Lib.hid hes
              clear hbel hsurj T5a T5b U5a U5b hds hes
              replace hb'_ := Lib.hid hb'_
              by_cases hyy : y = y2
              · subst hyy
                have hyy : (y != y) = false := by simp
                cases b' with
                | true =>
                  have hnext : Hid (∀ j (h : j < dsu.length) (h' : j < esu.length), j < i + 1 → dsu[j] = esu[j]) := Lib.hid (fun j h h' hj => by
                    by_cases hji : j < i
                    · exact htk.out j h h' hji
                    · obtain rfl : j = i := by omega
                      exact Prod.ext (by rw [← T5a'.out, ← U5a'.out]) (hb'_.out.1 rfl))
                  go_wp2_with fail
                  refine wp_quiet_in ff (by kernel_rfl) (by kernel_rfl) HS.out ?_
                  iterate 29 (go_big_quiet_step ((go_at_call 24; refine (HG.out _).mono ?_; rintro e w3 ⟨rfl, hb3⟩; exact ⟨rfl, hsurj'.out _ ((hbel'.out _).trans (hb3.mono (hbel'.out _).size))⟩)))
                  refine wpQuiet_nil ?_
                  intro s
                  have hbs := hbel'.out s
                  have hbs' := Lib.hid hbs
                  clear hbs
                  clear p0 p1 r0 r1 r2 r3 k0 k1 k2 k3
                  go_wp2_with fail
                  go_roundw
                  case rel => exact ⟨i + 1, by omega, by go_num, hnext, Lib.hid (hbr.out.trans (hbs'.out.mono hbr.out.size)), Lib.hid (hbR.out.trans (hbs'.out.mono hbR.out.size))⟩
                  case measure => simp [intOf]; omega
                | false =>
                  obtain rfl : b = false := by
                    rw [← Bool.not_eq_true]
                    intro e
                    have e2 := (dir_inj (hb'.out.1 e)).2.1
                    subst e2
                    have := hb'_.out.2 rfl
                    cases this
                  go_wp2_with fail
                  refine wp_quiet_in ff (by kernel_rfl) (by kernel_rfl) HS.out ?_
                  iterate 29 (go_big_quiet_step ((go_at_call 24; refine (HG.out _).mono ?_; rintro e w3 ⟨rfl, hb3⟩; exact ⟨rfl, hsurj'.out _ ((hbel'.out _).trans (hb3.mono (hbel'.out _).size))⟩)))
                  refine wpQuiet_nil ?_
                  intro s
                  have hbs := hbel'.out s
                  have hbs' := Lib.hid hbs
                  clear hbs
                  clear p0 p1 r0 r1 r2 r3 k0 k1 k2 k3
                  go_wp2_with fail
                  go_ret
                  exact ⟨rfl, hbr.out.trans (hbs'.out.mono hbr.out.size)⟩
              · obtain rfl : b = false := by
                  rw [← Bool.not_eq_true]
                  intro e
                  have e2 := (dir_inj (hb'.out.1 e)).2.1
                  subst e2
                  exact hyy (T5a'.out.trans U5a'.out.symm)
                have hyy : (y != y2) = true := by simpa using hyy
                go_wp2_with fail
                refine wp_quiet_in ff (by kernel_rfl) (by kernel_rfl) HS.out ?_
                iterate 29 (go_big_quiet_step ((go_at_call 24; refine (HG.out _).mono ?_; rintro e w3 ⟨rfl, hb3⟩; exact ⟨rfl, hsurj'.out _ ((hbel'.out _).trans (hb3.mono (hbel'.out _).size))⟩)))
                refine wpQuiet_nil ?_
                intro s
                have hbs := hbel'.out s
                have hbs' := Lib.hid hbs
                clear hbs
                clear p0 p1 r0 r1 r2 r3 k0 k1 k2 k3
                go_wp2_with fail
                go_ret
                exact ⟨rfl, hbr.out.trans (hbs'.out.mono hbr.out.size)⟩
            · obtain rfl : i = sn := by omega
              obtain rfl : b = true := by
                rw [hb'.out]
                have e1 : dt = et := by rw [t2'.out, u2'.out]; simpa using hrt'.out
                have e2 : dbl = ebl := by simpa using hrb'.out
                have e3 : dsu = esu := List.ext_getElem (by have := t4'.out; have := u4'.out; have := hdl'.out; have := hel'.out; omega) (fun j h1 h2 => htk.out j h1 h2 (by have := t4'.out; have := hdl'.out; omega))
                rw [e1, e2, e3]
              go_wp2_with fail
              go_ret
              exact ⟨rfl, hbr.out⟩
        · have hne : ((sn : Int) != (rn : Int)) = true := by simp; omega
          obtain rfl : b = false := by
            rw [← Bool.not_eq_true]
            intro e
            have e2 := dir_inj (hb'.out.1 e)
            have e3 := congrArg List.length e2.2.1
            have := t4'.out; have := u4'.out; have := hdl'.out; have := hel'.out
            omega
          go_wp2_with fail
          go_ret
          exact ⟨rfl, hbw2'.out⟩
end Go.Proofs.Ytheelhepelbgcaa

namespace Go.Proofs.Ytheelhepelbgcaa
open Go.RowKit Tt
set_option linter.unusedVariables false
set_option linter.unusedSimpArgs false

/-- directories that are read -/
def DirsR (f : Nat) (w : World) (a : Option Addr) (n c : Nat) (ds : List (DirT f)) : Prop :=
  ∃ dzs : List Dz, dzs.length = ds.length ∧ Sl w a n c 3 (fl dvC dzs) ∧ ∀ i (h : i < dzs.length) (h' : i < ds.length), DirR w f ds[i] dzs[i]
theorem DirsR.mono {f : Nat} {w w' : World} {a : Option Addr} {n c : Nat} {ds : List (DirT f)} (h : DirsR f w a n c ds) (hb : Below w.heap.size w w') : DirsR f w' a n c ds := by
  obtain ⟨dzs, h1, h2, h3⟩ := h
  exact ⟨dzs, h1, h2.mono hb, fun i hi hi' => (h3 i hi hi').mono hb⟩
abbrev dzz : Dz := (.slice none 0 0, .slice none 0 0, .slice none 0 0)
set_option maxRecDepth 20000 in
set_option maxHeartbeats 8000000 in
theorem tree_same (f : Nat) (o o2 : Int) (sa : Option Addr) (sn sc : Nat) (ra : Option Addr) (rn rc : Nat) (ds es : List (DirT f)) (w : World) (h : DirsR f w sa sn sc ds) (h2 : DirsR f w ra rn rc es) (b : Bool) (hb : b = true ↔ o = o2 ∧ ds = es) :
    Calls Try.prog 12 #[.agg #[.int .i64 o, .slice sa sn sc], .agg #[.int .i64 o2, .slice ra rn rc]] w fun e w' => e = .returned (.bool b) ∧ Below w.heap.size w w' := by
  obtain ⟨dzs, t4, t3, t5⟩ := h
  obtain ⟨ezs, u4, u3, u5⟩ := h2
  have hdl := t3.flen dvC_len (by decide)
  have hel := u3.flen dvC_len (by decide)
  obtain ⟨W, hW⟩ : ∃ W, (w.alloc (.cells #[.int .i64 o, .slice sa sn sc] 28)).alloc (.cells #[.int .i64 o2, .slice ra rn rc] 28) = W := ⟨_, rfl⟩
  have hbW : Below w.heap.size w W := by rw [← hW]; exact ((Below.refl w.heap.size w).alloc (Nat.le_refl _) _).alloc (by simp) _
  have b0 : Blk W w.heap.size 28 #[.int .i64 o, .slice sa sn sc] := by rw [← hW]; exact (Blk.new w _ _).alloc _
  have b1 : Blk W (w.heap.size + 1) 28 #[.int .i64 o2, .slice ra rn rc] := by rw [← hW]; exact heap_new' _ _ (by simp)
  have c00 : W.cell? ⟨w.heap.size, 0, none⟩ = some (.int .i64 o) := b0.cell rfl
  have c10 : W.cell? ⟨w.heap.size + 1, 0, none⟩ = some (.int .i64 o2) := b1.cell rfl
  have c01 : W.cell? ⟨w.heap.size, 1, none⟩ = some (.slice sa sn sc) := b0.cell rfl
  have c11 : W.cell? ⟨w.heap.size + 1, 1, none⟩ = some (.slice ra rn rc) := b1.cell rfl
  have hsm := t3.max
  have hsle := t3.le
  have hrm := u3.max
  have hrle := u3.le
  have t3' := Lib.hid t3
  have t4' := Lib.hid t4
  have t5' := Lib.hid t5
  have u3' := Lib.hid u3
  have u4' := Lib.hid u4
  have u5' := Lib.hid u5
  have hdl' := Lib.hid hdl
  have hel' := Lib.hid hel
  have hbW' := Lib.hid hbW
  have b0' := Lib.hid b0
  have b1' := Lib.hid b1
  have hb' := Lib.hid hb
  clear t3 t4 t5 u3 u4 u5 hdl hel hbW b0 b1 hb
  go_enter Try.func12, Try.ntmps12
  go_upto_region 1 with fail
  try rw [hW]
  clear hW
  by_cases hoo : o = o2
  · subst hoo
    have ho : (o != o) = false := by simp
    by_cases hnn : sn = rn
    · subst hnn
      have hne : ((sn : Int) != (sn : Int)) = false := by simp
      go_wp2_with fail
      clear c00 c01 c10 c11
      go_loopw [5] (fun iv wr => ∃ (i : Nat), i ≤ sn ∧ iv = .int .i64 i ∧ Hid (∀ j (h : j < ds.length) (h' : j < es.length), j < i → ds[j] = es[j]) ∧ Hid (Below W.heap.size W wr)) (fun iv _ => sn - (intOf iv).toNat)
      case atStart => exact ⟨0, by omega, rfl, Lib.hid (fun j _ _ h => by omega), Lib.hid (Below.refl _ _)⟩
      case round =>
        obtain ⟨i, hin, rfl, htk, hbR⟩ := hrel
        have b03 := b0'.out.late hbR.out
        have b13 := b1'.out.late hbR.out
        have c01 : wr.cell? ⟨w.heap.size, 1, none⟩ = some (.slice sa sn sc) := b03.cell rfl
        have b03' := Lib.hid b03
        have b13' := Lib.hid b13
        clear b03 b13
        by_cases hi : i < sn
        · have hil : (i : Int) < (sn : Int) := by omega
          have hw1 : IntKind.i64.wrap ((i : Int) + 1) = i + 1 := by rw [IntKind.wrap_i64]; omega
          have hdi : i < dzs.length := by rw [hdl'.out]; exact hi
          have hei : i < ezs.length := by rw [hel'.out]; exact hi
          have hdi2 : i < ds.length := by have := t4'.out; omega
          have hei2 : i < es.length := by have := u4'.out; omega
          obtain ⟨x, o, hsa, hx, fe⟩ := ((t3'.out.mono hbW'.out).mono hbR.out).elem dvC_len (by decide) dzz hi
          obtain ⟨x2, o2, hra, hx2, ge⟩ := ((u3'.out.mono hbW'.out).mono hbR.out).elem dvC_len (by decide) dzz hi
          have T5b := t5'.out i hdi hdi2
          have U5b := u5'.out i hei hei2
          rw [getD_el hdi] at fe
          rw [getD_el hei] at ge
          obtain ⟨⟨z1, z2, z3⟩, hds⟩ : ∃ q, dzs[i] = q := ⟨_, rfl⟩
          obtain ⟨⟨q1, q2, q3⟩, hes⟩ : ∃ q, ezs[i] = q := ⟨_, rfl⟩
          rw [hds] at fe T5b
          rw [hes] at ge U5b
          have f1 := fe 0 _ rfl
          have f2 := fe 1 _ rfl
          have f3 := fe 2 _ rfl
          have g1 := ge 0 _ rfl
          have g2 := ge 1 _ rfl
          have g3 := ge 2 _ rfl
          simp only [Nat.add_zero] at f1 f2 f3 g1 g2 g3
          subst hsa hra
          obtain ⟨Ty, ff, hne, hbel, hsurj⟩ := later_worlds wr
          have p0 : ∀ s, (ff s).cell? ⟨w.heap.size, 1, none⟩ = some (.slice (some ⟨x, o, none⟩) sn sc) := fun s => (b03'.out.late (hbel s)).cell rfl
          have p1 : ∀ s, (ff s).cell? ⟨w.heap.size + 1, 1, none⟩ = some (.slice (some ⟨x2, o2, none⟩) sn rc) := fun s => (b13'.out.late (hbel s)).cell rfl
          have r1 : ∀ s, (ff s).cell? ⟨x, o + i * 3, none⟩ = some z1 := fun s => late (hbel s) hx f1
          have r2 : ∀ s, (ff s).cell? ⟨x, o + i * 3 + 1, none⟩ = some z2 := fun s => late (hbel s) hx f2
          have r3 : ∀ s, (ff s).cell? ⟨x, o + i * 3 + 2, none⟩ = some z3 := fun s => late (hbel s) hx f3
          have k1 : ∀ s, (ff s).cell? ⟨x2, o2 + i * 3, none⟩ = some q1 := fun s => late (hbel s) hx2 g1
          have k2 : ∀ s, (ff s).cell? ⟨x2, o2 + i * 3 + 1, none⟩ = some q2 := fun s => late (hbel s) hx2 g2
          have k3 : ∀ s, (ff s).cell? ⟨x2, o2 + i * 3 + 2, none⟩ = some q3 := fun s => late (hbel s) hx2 g3
          obtain ⟨b', hb'_⟩ : ∃ b' : Bool, (b' = true ↔ ds[i] = es[i]) := by classical exact ⟨decide (ds[i] = es[i]), by simp⟩
          have HG := Lib.hid (fun s => dir_same f ds[i] es[i] (z1, z2, z3) (q1, q2, q3) (ff s) (((T5b.mono hbW'.out).mono hbR.out).mono (hbel s)) (((U5b.mono hbW'.out).mono hbR.out).mono (hbel s)) b' hb'_)
          simp only at HG
          have HS := Lib.hid (hsurj _ ((Below.refl _ _).drew))
          clear f1 f2 f3 g1 g2 g3 fe ge hx hx2
          have hbel' := Lib.hid hbel
          have hsurj' := Lib.hid hsurj
          have T5b' := Lib.hid T5b
          have U5b' := Lib.hid U5b
          have hds' := Lib.hid hds
          have hes' := Lib.hid hes
          clear hbel hsurj T5b U5b hds hes
          replace hb'_ := Lib.hid hb'_
          cases b' with
          | true =>
            have hnext : Hid (∀ j (h : j < ds.length) (h' : j < es.length), j < i + 1 → ds[j] = es[j]) := Lib.hid (fun j h h' hj => by
              by_cases hji : j < i
              · exact htk.out j h h' hji
              · obtain rfl : j = i := by omega
                exact hb'_.out.1 rfl)
            go_wp2_with fail
            refine wp_quiet_in ff (by kernel_rfl) (by kernel_rfl) HS.out ?_
            iterate 12 (go_big_quiet_step ((go_at_call 24; refine (HG.out _).mono ?_; rintro e w3 ⟨rfl, hb3⟩; exact ⟨rfl, hsurj'.out _ ((hbel'.out _).trans (hb3.mono (hbel'.out _).size))⟩)))
            refine wpQuiet_nil ?_
            intro s
            have hbs := hbel'.out s
            have hbs' := Lib.hid hbs
            clear hbs
            clear p0 p1 r1 r2 r3 k1 k2 k3
            go_wp2_with fail
            go_roundw
            case rel => exact ⟨i + 1, by omega, by go_num, hnext, Lib.hid (hbR.out.trans (hbs'.out.mono hbR.out.size))⟩
            case measure => simp [intOf]; omega
          | false =>
            obtain rfl : b = false := by
              rw [← Bool.not_eq_true]
              intro e
              have e2 := (hb'.out.1 e).2
              subst e2
              have := hb'_.out.2 rfl
              cases this
            go_wp2_with fail
            refine wp_quiet_in ff (by kernel_rfl) (by kernel_rfl) HS.out ?_
            iterate 12 (go_big_quiet_step ((go_at_call 24; refine (HG.out _).mono ?_; rintro e w3 ⟨rfl, hb3⟩; exact ⟨rfl, hsurj'.out _ ((hbel'.out _).trans (hb3.mono (hbel'.out _).size))⟩)))
            refine wpQuiet_nil ?_
            intro s
            have hbs := hbel'.out s
            have hbs' := Lib.hid hbs
            clear hbs
            clear p0 p1 r1 r2 r3 k1 k2 k3
            go_wp2_with fail
            go_ret
            exact ⟨rfl, hbW'.out.trans ((hbR.out.trans (hbs'.out.mono hbR.out.size)).mono hbW'.out.size)⟩
        · obtain rfl : i = sn := by omega
          obtain rfl : b = true := by
            rw [hb'.out]
            exact ⟨by simp, List.ext_getElem (by have := t4'.out; have := u4'.out; have := hdl'.out; have := hel'.out; omega) (fun j h1 h2 => htk.out j h1 h2 (by have := t4'.out; have := hdl'.out; omega))⟩
          go_wp2_with fail
          go_ret
          exact ⟨rfl, hbW'.out.trans (hbR.out.mono hbW'.out.size)⟩
    · have hne : ((sn : Int) != (rn : Int)) = true := by simp; omega
      obtain rfl : b = false := by
        rw [← Bool.not_eq_true]
        intro e
        have e3 := congrArg List.length (hb'.out.1 e).2
        have := t4'.out; have := u4'.out; have := hdl'.out; have := hel'.out
        omega
      go_wp2_with fail
      go_ret
      exact ⟨rfl, hbW'.out⟩
  · have ho : (o != o2) = true := by simpa using hoo
    obtain rfl : b = false := by
      rw [← Bool.not_eq_true]
      intro e
      exact hoo (hb'.out.1 e).1
    go_wp2_with fail
    go_ret
    exact ⟨rfl, hbW'.out⟩
end Go.Proofs.Ytheelhepelbgcaa

namespace Go.Proofs.Ytheelhepelbgcaa
open Go.RowKit Tt
set_option linter.unusedVariables false
set_option linter.unusedSimpArgs false

theorem info_u8 : (Try.prog.info? 5).map (fun i => (i.zero, i.size, i.bytes)) = some (some (.int .u8 0), 1, 1) := by kernel_rfl
set_option maxHeartbeats 1000000 in
theorem lof_any (a : Option Addr) (n c : Nat) (x : List Int) (w : World) (hx : Sl w a n c 1 (ints .u8 x)) (hn : n ≤ 1000000) :
    Calls Try.prog 18 #[.slice a n c] w fun e w' => ∃ a' c', e = .returned (.slice a' (8 + n) c') ∧ Sl w' a' (8 + n) c' 1 (ints .u8 (ofL x)) ∧ Below w.heap.size w w' := by
  obtain ⟨i0, hi, hz0, hz1, hz2⟩ := info_parts info_u8
  go_enter Try.func18, Try.ntmps18
  go_wp2_with (at_builtin; refine wpList_app rfl _ _ 24 rfl w.heap.size 5 i0 _ 1 1 Try.underlying24 hi hz0 hz1 hz2 rfl (by decide) _ 8 (ints .u8 [73, 73, 42, 0, 8, 0, 0, 0]) rfl (own_new w w.heap.size 5 1 8 _ (Nat.le_refl _) (by unfold maxLen; omega) rfl) a n c _ rfl (sl_alloc hx _) ints_one (by omega) (by decide) (by simp) ?_; intro a' c' w1 hown hbel hgrow)
  rw [← ints_append] at hown
  clear hgrow
  go_wp2
  go_ret
  exact ⟨a', c', rfl, (Sl.of_own hown).1, ((Below.refl _ _).alloc (Nat.le_refl _) _).trans hbel⟩
theorem DirsAt.rd {X : Nat → Prop} {B : Nat} {w : World} {a : Option Addr} {n c : Nat} {ds : List (DirT 16)} (h : DirsAt X B w (.slice a n c) ds) : DirsR 16 w a n c ds := by
  obtain ⟨dzs, h1, h2, h3⟩ := h
  exact ⟨dzs, h1, h2.sl, fun i hi hi' => (h3 i hi hi').rd⟩
theorem DirsR.len {f : Nat} {w : World} {a : Option Addr} {n c : Nat} {ds : List (DirT f)} (h : DirsR f w a n c ds) : ds.length = n := by
  obtain ⟨dzs, h1, h2, _⟩ := h
  rw [← h1]
  exact h2.flen dvC_len (by decide)
def AlPost (w : World) (oo : Int) (R : Except Int (List (DirT 16) × St)) (e : Ending) (w' : World) : Prop := match R with
  | .error x => e = .returned (.tuple #[.agg #[.int .i64 0, .slice none 0 0], .int .i64 x]) ∧ Below w.heap.size w w'
  | .ok (ds, s) => ∃ a c, e = .returned (.tuple #[.agg #[.int .i64 oo, .slice a ds.length c], .int .i64 0]) ∧ Below w.heap.size w w' ∧ DirsR 16 w' a ds.length c ds
theorem lone_at {w w' : World} (h : Below (w.heap.size + 1) (w.alloc (.cells #[.slice none 0 0, .int .i64 0, .int .i64 0, .int .i64 (-1)] 35)) w') : ShR w' (some ⟨w.heap.size, 0, none⟩) 1 1 [((none, 0, 0), ([], 0, 0, -1))] := by
  have h2 : ShR (w.alloc (.cells #[.slice none 0 0, .int .i64 0, .int .i64 0, .int .i64 (-1)] 35)) (some ⟨w.heap.size, 0, none⟩) 1 1 [((none, 0, 0), ([], 0, 0, -1))] :=
    ⟨Sl.new w 35 4 1 _ (0, 0) (by omega) rfl, fun z hz => by obtain rfl : z = _ := List.mem_singleton.1 hz; exact Sl.nil _ _⟩
  exact h2.mono (by simpa using h)
set_option maxRecDepth 20000 in
set_option maxHeartbeats 8000000 in
theorem alone_any (hD : DirOk) (a : Option Addr) (n c : Nat) (z : List Int) (w : World) (hs : Sl w a n c 1 (ints .u8 z)) (hby : Byt z) (hn : n ≤ 1000000000) :
    Calls Try.prog 17 #[.slice a n c] w (AlPost w (orderS z) (readS z loneS)) := by
  have bp := Blk.new w 28 #[.int .i64 0, .slice none 0 0]
  have hbW := (Below.refl w.heap.size w).alloc (Nat.le_refl _) (.cells #[.int .i64 0, .slice none 0 0] 28)
  have hsz : (w.alloc (.cells #[.int .i64 0, .slice none 0 0] 28)).heap.size = w.heap.size + 1 := by simp
  obtain ⟨W, hW⟩ : ∃ W, w.alloc (.cells #[.int .i64 0, .slice none 0 0] 28) = W := ⟨_, rfl⟩
  rw [hW] at bp hbW hsz
  obtain ⟨V, hV⟩ : ∃ V, W.alloc (.cells #[.slice none 0 0, .int .i64 0, .int .i64 0, .int .i64 (-1)] 35) = V := ⟨_, rfl⟩
  have hbV : Below W.heap.size W V := by rw [← hV]; exact (Below.refl _ _).alloc (Nat.le_refl _) _
  have hsV : V.heap.size = W.heap.size + 1 := by rw [← hV]; simp
  have hsh : ShR V (some ⟨W.heap.size, 0, none⟩) 1 1 [((none, 0, 0), ([], 0, 0, -1))] := lone_at (by rw [hV]; exact Below.refl _ _)
  have HW := wof_any hD a n c z _ 1 1 _ V ((hs.mono hbW).mono hbV) hsh hby hn (fun x h => readS_ne h)
  rw [show shps [((none, 0, 0), ([], 0, 0, -1))] = loneS from rfl] at HW
  obtain ⟨R, hR⟩ : ∃ R, readS z loneS = R := ⟨_, rfl⟩
  rw [hR] at HW
  rw [hR]
  obtain ⟨oo, hoo⟩ : ∃ o, orderS z = o := ⟨_, rfl⟩
  rw [hoo] at HW
  rw [hoo]
  rw [hsz] at HW
  have bpV := bp.late hbV
  have hbwV := hbW.trans (hbV.mono hbW.size)
  have hs' := Lib.hid hs
  have hby' := Lib.hid hby
  have bp' := Lib.hid bp
  have hbW' := Lib.hid hbW
  have HW' := Lib.hid HW
  have hR' := Lib.hid hR
  have hoo' := Lib.hid hoo
  have bpV' := Lib.hid bpV
  have hbwV' := Lib.hid hbwV
  have hbV' := Lib.hid hbV
  have hsh' := Lib.hid hsh
  clear hs hby bp hbW HW hR hoo bpV hbwV hbV hsh
  go_enter Try.func17, Try.ntmps17
  go_upto_region 1 with fail
  try rw [hW]
  clear hW
  go_wp2_with fail
  refine HW'.out.mono ?_
  rintro e w2 hpost
  obtain ⟨x0, xa, xm, xc, ys, er, rfl, hb2, hend⟩ : ∃ (x0 : Int) (xa : Option Addr) (xm xc : Nat) (ys : Value) (er : Int), e = .returned (.tuple #[.agg #[.int .i64 x0, .slice xa xm xc], ys, .int .i64 er]) ∧ Below V.heap.size V w2 ∧ (∀ w3, But w.heap.size w2 w3 → Below w.heap.size w w3 → AlPost w oo R (.returned (.tuple #[.agg #[.int .i64 x0, .slice xa xm xc], .int .i64 er])) w3) := by
    cases R with
    | error x =>
      obtain ⟨rfl, hb⟩ := hpost
      exact ⟨0, none, 0, 0, _, x, rfl, hb, fun w3 h3 h => ⟨rfl, h⟩⟩
    | ok r =>
      obtain ⟨ds, s⟩ := r
      obtain ⟨a2, m, c2, b, k, d, rfl, hb, hds, _⟩ := hpost
      have hm : ds.length = m := (DirsAt.rd hds).len
      subst hm
      exact ⟨oo, a2, ds.length, c2, _, 0, rfl, hb, fun w3 h3 h => ⟨a2, c2, rfl, h, DirsAt.rd (DirsAt.keep hds (kp_but h3 (by omega)))⟩⟩
  have bp2 := bpV'.out.late hb2
  have hbw2 := hbwV'.out.trans (hb2.mono hbwV'.out.size)
  have p0 : w2.cell? ⟨w.heap.size, 0, none⟩ = some (.int .i64 0) := bp2.cell rfl
  have p1 : w2.cell? ⟨w.heap.size, 1, none⟩ = some (.slice none 0 0) := bp2.cell rfl
  have y0 := bp2.frozen 0
  have y1 := bp2.frozen 1
  have hlt := bp2.lt
  have hbt := ((But.refl w.heap.size w2).set 0 (.int .i64 x0)).set 1 (.slice xa xm xc)
  have bp3 := (bp2.set 0 (.int .i64 x0)).set 1 (.slice xa xm xc)
  have hb3 := hbt.below (Nat.le_refl _) hbw2.size
  have hb23 := hbw2.trans hb3
  have bp2' := Lib.hid bp2
  have hbw2' := Lib.hid hbw2
  have hb2' := Lib.hid hb2
  have hend' := Lib.hid hend
  have hbt' := Lib.hid hbt
  have bp3' := Lib.hid bp3
  have hb3' := Lib.hid hb3
  have hb23' := Lib.hid hb23
  clear bp2 hbw2 hb2 hend hbt bp3 hb3 hb23
  go_wp2_with fail
  generalize (w2.setCell ⟨w.heap.size, 0, none⟩ (.int .i64 x0)).setCell ⟨w.heap.size, 1, none⟩ (.slice xa xm xc) = w3 at *
  have hal := (Below.refl w3.heap.size w3).alloc (Nat.le_refl _) (.cells #[.int .i64 x0, .slice xa xm xc] 28)
  refine bodyPost_ret (results_blk_tmp rfl _ _ w.heap.size 28 #[.int .i64 x0, .slice xa xm xc] _ rfl (bp3'.out.late hal) Try.underlying28 rfl (by kernel_rfl)) rfl ?_
  exact hend'.out _ (hbt'.out.trans (But.of_below hal)) (hb23'.out.trans (hal.mono hb23'.out.size))
end Go.Proofs.Ytheelhepelbgcaa

namespace Go.Proofs.Ytheelhepelbgcaa
open Go.RowKit Tt
set_option linter.unusedVariables false

theorem sign3 (w : World) : Calls Try.prog 39 #[.int .i64 3] w fun e w' => e = .returned (.bool false) ∧ w = w' := by
  go_enter Try.func39, Try.ntmps39
  go_wp2
  go_ret
  exact ⟨rfl, rfl⟩
theorem part3 (w : World) : Calls Try.prog 41 #[.int .i64 3] w fun e w' => e = .returned (.int .i64 2) ∧ w = w' := by
  go_enter Try.func41, Try.ntmps41
  go_wp2_with (go_at_call 26; refine (rsize_any _ _).mono ?_; rintro e w' ⟨rfl, rfl⟩)
  go_ret
  exact ⟨rfl, rfl⟩

theorem put258 (w : World) : Calls Try.prog 42 #[.int .i64 258, .int .i64 2, .int .i64 2] w fun e w' => ∃ a c, e = .returned (.tuple #[.slice a 2 c, .bool true]) ∧ Sl w' a 2 c 1 (ints .u8 [1, 2]) ∧ Below w.heap.size w w' := by
  refine (r1put_any _ _ _ _).mono ?_
  rintro e w' ⟨a, m, c, rfl, ho, hb⟩
  rw [show putS 258 2 2 = [1, 2] by decide] at ho
  have hs := (Sl.of_own ho).1
  obtain rfl : m = 2 := by have := hs.ilen; simpa using this.symm
  exact ⟨a, c, by rw [show putOk 258 2 2 = true by decide], hs, hb⟩

set_option maxRecDepth 20000 in
set_option maxHeartbeats 4000000 in
theorem of258 (a : Option Addr) (c : Nat) (w : World) (hs : Sl w a 1 c 1 (ints .i64 [258])) :
    Calls Try.prog 27 #[.int .i64 3, .slice a 1 c, .int .i64 1] w fun e w' => ∃ a' c', e = .returned (.tuple #[.agg #[.int .i64 3, .int .i64 1, .slice a' 2 c'], .bool true]) ∧ w'.ownsRow w.heap.size 5 1 (.slice a' 2 c') 2 (ints .u8 [1, 2]) ∧ Below w.heap.size w w' := by
  obtain ⟨i0, hi, hz0, hz1, hz2⟩ := info_parts info8
  obtain ⟨b, o, rfl, hbx, cx⟩ := hs.at (i := 0) (by omega)
  have c1 : w.cell? ⟨b, o, none⟩ = some (.int .i64 258) := cx 0 _ rfl
  clear cx
  have Hs := Lib.hid hs
  clear hs
  go_enter Try.func27, Try.ntmps27
  go_wp2
  obtain ⟨W0, hW0⟩ : ∃ W0, W0 = (w.alloc (.cells #[.int .i64 0, .int .i64 0, .slice none 0 0] 54)).alloc (.cells #[.int .i64 3, .int .i64 1, .slice none 0 0] 54) := ⟨_, rfl⟩
  obtain ⟨g, hg⟩ : ∃ g, g = w.heap.size + 1 := ⟨_, rfl⟩
  have B0 : Blk W0 w.heap.size 54 #[.int .i64 0, .int .i64 0, .slice none 0 0] := by rw [hW0]; exact (Blk.new _ _ _).alloc _
  have G0 : Blk W0 g 54 #[.int .i64 3, .int .i64 1, .slice none 0 0] := by rw [hW0, hg]; have := Blk.new (w.alloc (.cells #[.int .i64 0, .int .i64 0, .slice none 0 0] 54)) 54 #[.int .i64 3, .int .i64 1, .slice none 0 0]; simpa using this
  have BW : Below w.heap.size w W0 := by rw [hW0]; exact ((Below.refl _ _).alloc (Nat.le_refl _) _).alloc (by simp) _
  have B0 := Lib.hid B0
  have G0 := Lib.hid G0
  have BW := Lib.hid BW
  have Hg := Lib.hid hg
  have c2 : W0.cell? ⟨b, o, none⟩ = some (.int .i64 258) := late BW.out hbx c1
  rw [← hW0, ← hg]
  clear hW0 hg c1
  refine wp_loop_rounds 2 ?_
  rw [rounds_succ]
  go_wp2_with (first
    | (go_at_call 39; refine (sign3 _).mono ?_; rintro e w' ⟨rfl, rfl⟩)
    | (go_at_call 41; refine (part3 _).mono ?_; rintro e w' ⟨rfl, rfl⟩)
    | (go_at_call 42; refine (put258 _).mono ?_; rintro e w1 ⟨a1, c1, rfl, hs1, hb1⟩; have Hs1 := Lib.hid hs1; have G1 := Lib.hid (G0.out.late hb1); have Hb1 := Lib.hid hb1; clear hs1 hb1; have q2 : w1.cell? ⟨g, 2, none⟩ = some (.slice none 0 0) := G1.out.cell rfl)
    | (at_builtin; refine wpList_app rfl _ _ 24 rfl W0.heap.size 5 i0 _ 1 1 Try.underlying24 hi hz0 hz1 hz2 rfl (by decide) _ 0 [] rfl (own_nil _ _ _ _) a1 2 c1 _ rfl Hs1.out ints_one (by omega) (by decide) Hb1.out.size ?_; intro a5 c5 w2 ob hb2 hg2; clear hg2; have Ob := Lib.hid ob; have Hb2 := Lib.hid (Hb1.out.trans hb2); clear ob hb2; have G2 := Lib.hid (G0.out.late Hb2.out); have z0 : w2.cell? ⟨g, 0, none⟩ = some (.int .i64 3) := G2.out.cell rfl; have z1 : w2.cell? ⟨g, 1, none⟩ = some (.int .i64 1) := G2.out.cell rfl; have z2 : w2.cell? ⟨g, 2, none⟩ = some (.slice none 0 0) := G2.out.cell rfl; have fz := G2.out.frozen 2))
  obtain ⟨w3, hw3⟩ : ∃ w3, w3 = w2.setCell ⟨g, 2, none⟩ (.slice a5 2 c5) := ⟨_, rfl⟩
  rw [← hw3]
  have B2 : Blk w2 w.heap.size 54 #[.int .i64 0, .int .i64 0, .slice none 0 0] := B0.out.late Hb2.out
  have G3 : Blk w3 g 54 #[.int .i64 3, .int .i64 1, .slice a5 2 c5] := by rw [hw3]; exact G2.out.set 2 _
  have B3 : Blk w3 w.heap.size 54 #[.int .i64 0, .int .i64 0, .slice none 0 0] := by rw [hw3]; exact B2.set_other (by have := Hg.out; omega) _ _
  have O3 : w3.ownsRow W0.heap.size 5 1 (.slice a5 2 c5) 2 (ints .u8 [1, 2]) := by rw [hw3]; exact own_set_other Ob.out G0.out.lt _ _
  have BB : Below w.heap.size w w3 := by rw [hw3]; exact (BW.out.trans (Hb2.out.mono BW.out.size)).setCell (by show w.heap.size ≤ g; have := Hg.out; omega) _
  have S3 := Lib.hid (Sl.of_own O3).1
  have HO3 := Lib.hid O3
  have hlt0 : w.heap.size < W0.heap.size := by have h1 := G0.out.lt; have h2 := Hg.out; omega
  have Hlt0 := Lib.hid hlt0
  have G3 := Lib.hid G3
  have B3 := Lib.hid B3
  have BB := Lib.hid BB
  clear hw3 z0 z1 z2 fz B2 O3 q2 hlt0
  have z0 : w3.cell? ⟨g, 0, none⟩ = some (.int .i64 3) := G3.out.cell rfl
  have z1 : w3.cell? ⟨g, 1, none⟩ = some (.int .i64 1) := G3.out.cell rfl
  have z2 : w3.cell? ⟨g, 2, none⟩ = some (.slice a5 2 c5) := G3.out.cell rfl
  have hmt : mayS 3 1 [1, 2] = true := by decide
  have Hmt := Lib.hid hmt
  clear hmt
  rw [rounds_succ]
  go_wp2_with (go_at_call 43; refine (rmay_any 3 1 a5 2 c5 [1, 2] _ S3.out).mono ?_; rw [Hmt.out]; rintro e w4 ⟨rfl, hb4⟩; have G4 := Lib.hid (G3.out.late hb4); have B4 := Lib.hid (B3.out.late hb4); have O4 := Lib.hid (own_later HO3.out hb4); have Hb4 := Lib.hid hb4; clear hb4; have y0 : w4.cell? ⟨g, 0, none⟩ = some (.int .i64 3) := G4.out.cell rfl; have y1 : w4.cell? ⟨g, 1, none⟩ = some (.int .i64 1) := G4.out.cell rfl; have y2 : w4.cell? ⟨g, 2, none⟩ = some (.slice a5 2 c5) := G4.out.cell rfl; have x0 : w4.cell? ⟨w.heap.size, 0, none⟩ = some (.int .i64 0) := B4.out.cell rfl; have x1 : w4.cell? ⟨w.heap.size, 1, none⟩ = some (.int .i64 0) := B4.out.cell rfl; have x2 : w4.cell? ⟨w.heap.size, 2, none⟩ = some (.slice none 0 0) := B4.out.cell rfl; have f0 := B4.out.frozen 0; have f1 := B4.out.frozen 1; have f2 := B4.out.frozen 2)
  have B5 := ((B4.out.set 0 (.int .i64 3)).set 1 (.int .i64 1)).set 2 (.slice a5 2 c5)
  refine bodyPost_ret (results_blk_tmp rfl _ _ w.heap.size 54 #[.int .i64 3, .int .i64 1, .slice a5 2 c5] _ rfl B5 Try.underlying54 rfl (by kernel_rfl)) rfl ?_
  have O5 := own_set_other (own_set_other (own_set_other O4.out Hlt0.out 0 (.int .i64 3)) Hlt0.out 1 (.int .i64 1)) Hlt0.out 2 (.slice a5 2 c5)
  exact ⟨_, _, rfl, own_mono O5 (Nat.le_of_lt Hlt0.out), (((BB.out.trans (Hb4.out.mono BB.out.size)).setCell (Nat.le_refl _) _).setCell (Nat.le_refl _) _).setCell (Nat.le_refl _) _⟩

set_option maxHeartbeats 4000000 in
theorem ofnum258 (a : Option Addr) (c : Nat) (w : World) (hs : Sl w a 1 c 1 (ints .i64 [258])) :
    Calls Try.prog 19 #[.int .i64 3, .slice a 1 c] w fun e w' => ∃ a' c', e = .returned (.tuple #[.agg #[.int .i64 3, .int .i64 1, .slice a' 2 c'], .bool true]) ∧ w'.ownsRow w.heap.size 5 1 (.slice a' 2 c') 2 (ints .u8 [1, 2]) ∧ Below w.heap.size w w' := by
  have Hs := Lib.hid hs
  clear hs
  go_enter Try.func19, Try.ntmps19
  obtain ⟨W0, hW0⟩ : ∃ W0, W0 = w.alloc (.cells #[.int .i64 0, .int .i64 0, .slice none 0 0] 54) := ⟨_, rfl⟩
  have B0 : Blk W0 w.heap.size 54 #[.int .i64 0, .int .i64 0, .slice none 0 0] := by rw [hW0]; exact Blk.new _ _ _
  have BW : Below w.heap.size w W0 := by rw [hW0]; exact (Below.refl _ _).alloc (Nat.le_refl _) _
  have B0 := Lib.hid B0
  have BW := Lib.hid BW
  have HS := Lib.hid (Hs.out.mono BW.out)
  have hlt0 : w.heap.size < W0.heap.size := B0.out.lt
  have Hlt0 := Lib.hid hlt0
  clear hlt0
  go_upto_region 1 with fail
  rw [← hW0]
  clear hW0
  go_wp2_with (first
    | (go_at_call 26; refine (rsize_any _ _).mono ?_; rintro e w' ⟨rfl, rfl⟩)
    | (go_at_call 27; refine (of258 a c _ HS.out).mono ?_; rintro e w4 ⟨a5, c5, rfl, hs5, hb4⟩; have S4 := Lib.hid hs5; have B4 := Lib.hid (B0.out.late hb4); have Hb4 := Lib.hid hb4; clear hb4 hs5; have x0 : w4.cell? ⟨w.heap.size, 0, none⟩ = some (.int .i64 0) := B4.out.cell rfl; have x1 : w4.cell? ⟨w.heap.size, 1, none⟩ = some (.int .i64 0) := B4.out.cell rfl; have x2 : w4.cell? ⟨w.heap.size, 2, none⟩ = some (.slice none 0 0) := B4.out.cell rfl; have f0 := B4.out.frozen 0; have f1 := B4.out.frozen 1; have f2 := B4.out.frozen 2))
  have B5 := B4.out.set3 (.int .i64 3) (.int .i64 1) (.slice a5 2 c5)
  refine bodyPost_ret (results_blk_tmp rfl _ _ w.heap.size 54 #[.int .i64 3, .int .i64 1, .slice a5 2 c5] _ rfl B5 Try.underlying54 rfl (by kernel_rfl)) rfl ?_
  exact ⟨_, _, rfl, own_mono (own_set3 S4.out Hlt0.out _ _ _) (Nat.le_of_lt Hlt0.out), below_set3 (BW.out.trans (Hb4.out.mono BW.out.size)) (Nat.le_refl _) _ _ _⟩

end Go.Proofs.Ytheelhepelbgcaa

namespace Go.Proofs.Ytheelhepelbgcaa
open Go.RowKit Tt
set_option linter.unusedVariables false
set_option linter.unusedSimpArgs false

set_option maxRecDepth 20000 in
set_option maxHeartbeats 8000000 in
theorem wrong_any (hD : DirOk) (x : Int) (a : Option Addr) (n c : Nat) (z : List Int) (w : World) (hs : Sl w a n c 1 (ints .u8 z)) (hby : Byt z) (hn : n ≤ 1000000000) (hR : readS z loneS = .error x) :
    Calls Try.prog 20 #[.int .i64 x, .slice a n c] w fun e w' => e = .returned (.bool true) ∧ Below w.heap.size w w' := by
  have HA := alone_any hD a n c z w hs hby hn
  rw [hR] at HA
  have d1 : (x == x) = true := by simp
  have HA' := Lib.hid HA
  have hs' := Lib.hid hs
  have hby' := Lib.hid hby
  have hR' := Lib.hid hR
  clear HA hs hby hR
  go_enter Try.func20, Try.ntmps20
  go_wp2_with fail
  refine HA'.out.mono ?_
  rintro e w1 ⟨rfl, hb1⟩
  have hb1' := Lib.hid hb1
  clear hb1
  go_wp2_with fail
  go_ret
  exact ⟨rfl, hb1'.out.alloc hb1'.out.size _⟩
def dirOf (ts : List Tgs) : DirT 16 := ((ts, [], []) : List Tgs × List (Int × DirT 15) × List Int)
theorem sameT_ok {r : Except Int (List (DirT 16) × St)} {ts : List Tgs} (h : sameT r ts = true) : ∃ s, r = .ok ([dirOf ts], s) := by
  unfold sameT at h
  split at h
  · rename_i d s
    obtain ⟨d1, d2, d3⟩ : List Tgs × List (Int × DirT 15) × List Int := d
    simp only [Bool.and_eq_true, decide_eq_true_eq] at h
    obtain ⟨⟨rfl, h2⟩, rfl⟩ := h
    obtain rfl := List.eq_nil_of_length_eq_zero h2
    exact ⟨s, rfl⟩
  · cases h
theorem errS_ok {r : Except Int (List (DirT 16) × St)} {x : Int} (h : errS r = x) (hx : x ≠ 0) : r = .error x := by
  unfold errS at h
  split at h
  · rw [h]
  · exact absurd h.symm hx
def x1L : List Int := [1, 0, 0, 1, 3, 0, 1, 0, 0, 0, 2, 1, 0, 0, 0, 0, 0, 0]
def x3L : List Int := [1, 0, 0, 1, 5, 0, 1, 0, 0, 0, 8, 0, 0, 0, 0, 0, 0, 0]
def x4L : List Int := [1, 0, 0, 1, 5, 0, 1, 0, 0, 0, 9, 0, 0, 0, 0, 0, 0, 0]
def x5L : List Int := [1, 0, 0, 1, 5, 0, 1, 0, 0, 0, 232, 3, 0, 0, 0, 0, 0, 0]
def x6L : List Int := [1, 0, 0, 1, 2, 0, 2, 0, 0, 0, 97, 98, 0, 0, 0, 0, 0, 0]
theorem byt_dec {l : List Int} (h : l.all (fun x => decide (0 ≤ x) && decide (x < 256)) = true) : Byt l := fun x hx => by
  have := List.all_eq_true.1 h x hx
  simpa using this
theorem below_new {a w w' : World} {o : Obj} (h : Below a.heap.size a w) (hb : Below (w.alloc o).heap.size (w.alloc o) w') : Below a.heap.size a w' := (h.alloc h.size o).trans (hb.mono (h.alloc h.size o).size)
set_option maxRecDepth 100000 in
set_option maxHeartbeats 16000000 in
theorem awake_any (hD : DirOk) (w : World) : Calls Try.prog 5 #[] w fun e w' => e = .returned (.bool true) ∧ Below w.heap.size w w' := by
  obtain ⟨s1, hr1⟩ := sameT_ok ex1
  have ho1 : orderS (ofL x1L) = 1 := by decide +kernel
  have hr1' := Lib.hid hr1
  clear hr1
  go_enter Try.func5, Try.ntmps5
  go_wp2_with fail
  refine (lof_any _ 18 18 x1L _ (Sl.new w 5 1 18 _ (0, 0) (by omega) rfl) (by omega)).mono ?_
  rintro e w1 ⟨a1, c1, rfl, hs1, hb1⟩
  have HB1 : Below w.heap.size w w1 := (Below.refl w.heap.size w).trans (((Below.refl w.heap.size w).alloc (Nat.le_refl _) _).trans (hb1.mono (by simp)))
  have hs1' := Lib.hid hs1
  have hb1' := Lib.hid hb1
  have HB1' := Lib.hid HB1
  clear hs1 hb1 HB1
  go_wp2_with fail
  refine (alone_any hD a1 26 c1 _ w1 hs1'.out (byt_dec (by decide +kernel)) (by omega)).mono ?_
  rintro e w2 hpost
  rw [ho1, show readS (ofL x1L) loneS = _ from hr1'.out] at hpost
  obtain ⟨a2, c2, he2, hb2, hds⟩ := hpost
  replace he2 : e = .returned (.tuple #[.agg #[.int .i64 1, .slice a2 1 c2], .int .i64 0]) := he2
  subst he2
  replace hds : DirsR 16 w2 a2 1 c2 [dirOf [(256, 3, 1, [1, 2])]] := hds
  have HB2 := HB1'.out.trans (hb2.mono HB1'.out.size)
  obtain ⟨W2, hW2⟩ : ∃ W, w2.alloc (.cells #[.int .i64 1, .slice a2 1 c2] 28) = W := ⟨_, rfl⟩
  have bT : Blk W2 w2.heap.size 28 #[.int .i64 1, .slice a2 1 c2] := by rw [← hW2]; exact Blk.new _ _ _
  have hal : Below w2.heap.size w2 W2 := by rw [← hW2]; exact (Below.refl _ _).alloc (Nat.le_refl _) _
  have HW2 := HB2.trans (hal.mono HB2.size)
  have hdsW := hds.mono hal
  clear hb2 hds ho1 HB2
  have hal' := Lib.hid hal
  have HW2' := Lib.hid HW2
  have hdsW' := Lib.hid hdsW
  have bT' := Lib.hid bT
  clear hal HW2 hdsW bT
  go_upto_region 2 with fail
  obtain ⟨g1, hg1⟩ : ∃ g, w2.heap.size = g := ⟨_, rfl⟩
  rw [hg1] at bT'
  rw [hg1]
  clear hg1 hW2 hal'
  go_wp2_with fail
  refine (ofnum258 _ 1 _ (Sl.new W2 3 1 1 _ (0, 0) (by omega) rfl)).mono ?_
  rintro e w3 ⟨a3, c3, rfl, hown3, hb3⟩
  have hb23 : Below W2.heap.size W2 w3 := ((Below.refl W2.heap.size W2).alloc (Nat.le_refl _) _).trans (hb3.mono (by simp))
  obtain ⟨W3, hW3⟩ : ∃ W, w3.alloc (.cells #[.int .i64 3, .int .i64 1, .slice a3 2 c3] 54) = W := ⟨_, rfl⟩
  have bV : Blk W3 w3.heap.size 54 #[.int .i64 3, .int .i64 1, .slice a3 2 c3] := by rw [← hW3]; exact Blk.new _ _ _
  have hal : Below w3.heap.size w3 W3 := by rw [← hW3]; exact (Below.refl _ _).alloc (Nat.le_refl _) _
  have s3 := (Sl.of_own hown3).1.mono hal
  have hbW3 := hb23.trans (hal.mono hb23.size)
  have HW3 := HW2'.out.trans (hbW3.mono HW2'.out.size)
  have hds3 := hdsW'.out.mono hbW3
  have bT3 := bT'.out.late hbW3
  clear hb3 hown3 hb23 hbW3 HW2' hdsW' bT'
  have s3' := Lib.hid s3
  have HW3' := Lib.hid HW3
  have hds3' := Lib.hid hds3
  have bT3' := Lib.hid bT3
  have bV' := Lib.hid bV
  have hal' := Lib.hid hal
  clear s3 HW3 hds3 bT3 bV hal
  go_upto_region 3 with fail
  obtain ⟨g3, hg3⟩ : ∃ g, w3.heap.size = g := ⟨_, rfl⟩
  have bV := bV'.out
  rw [hg3] at bV
  rw [hg3]
  clear hg3 hW3 hal' bV'
  have p0 : W3.cell? ⟨g3, 0, none⟩ = some (.int .i64 3) := bV.cell rfl
  have p1 : W3.cell? ⟨g3, 1, none⟩ = some (.int .i64 1) := bV.cell rfl
  have p2 : W3.cell? ⟨g3, 2, none⟩ = some (.slice a3 2 c3) := bV.cell rfl
  have hlt3 := bV.lt
  have hlt1 := bT3'.out.lt
  have bV' := Lib.hid bV
  clear bV
  go_upto_region 4 with fail
  obtain ⟨n3, hn3⟩ : ∃ n, W3.heap.size = n := ⟨_, rfl⟩
  have tg := Sl.new W3 59 4 1 #[.int .i64 256, .int .i64 3, .int .i64 1, .slice a3 2 c3] (0, 0) (by omega) rfl
  have a1_ : Below W3.heap.size W3 (W3.alloc (.cells #[.int .i64 256, .int .i64 3, .int .i64 1, .slice a3 2 c3] 59)) := (Below.refl _ _).alloc (Nat.le_refl _) _
  have z1_ : (W3.alloc (.cells #[.int .i64 256, .int .i64 3, .int .i64 1, .slice a3 2 c3] 59)).heap.size = W3.heap.size + 1 := by simp
  obtain ⟨T1, hT1⟩ : ∃ W, W3.alloc (.cells #[.int .i64 256, .int .i64 3, .int .i64 1, .slice a3 2 c3] 59) = W := ⟨_, rfl⟩
  rw [hT1] at tg a1_ z1_ ⊢
  have dg := Sl.new T1 48 3 1 #[.slice (some ⟨W3.heap.size, 0, none⟩) 1 1, .slice none 0 0, .slice none 0 0] (0, 0) (by omega) rfl
  have a2_ : Below T1.heap.size T1 (T1.alloc (.cells #[.slice (some ⟨W3.heap.size, 0, none⟩) 1 1, .slice none 0 0, .slice none 0 0] 48)) := (Below.refl _ _).alloc (Nat.le_refl _) _
  have z2_ : (T1.alloc (.cells #[.slice (some ⟨W3.heap.size, 0, none⟩) 1 1, .slice none 0 0, .slice none 0 0] 48)).heap.size = T1.heap.size + 1 := by simp
  obtain ⟨T2, hT2⟩ : ∃ W, T1.alloc (.cells #[.slice (some ⟨W3.heap.size, 0, none⟩) 1 1, .slice none 0 0, .slice none 0 0] 48) = W := ⟨_, rfl⟩
  rw [hT2] at dg a2_ z2_ ⊢
  rw [z1_] at z2_ dg
  have bG := Blk.new T2 28 #[.int .i64 1, .slice (some ⟨W3.heap.size + 1, 0, none⟩) 1 1]
  have a3_ : Below T2.heap.size T2 (T2.alloc (.cells #[.int .i64 1, .slice (some ⟨W3.heap.size + 1, 0, none⟩) 1 1] 28)) := (Below.refl _ _).alloc (Nat.le_refl _) _
  obtain ⟨T3, hT3⟩ : ∃ W, T2.alloc (.cells #[.int .i64 1, .slice (some ⟨W3.heap.size + 1, 0, none⟩) 1 1] 28) = W := ⟨_, rfl⟩
  rw [hT3] at bG a3_ ⊢
  rw [z2_] at bG
  rw [hn3] at dg bG tg ⊢
  have a12 := a1_.trans (a2_.mono (by omega))
  have a13 := a12.trans (a3_.mono (by omega))
  have HT3 := HW3'.out.trans (a13.mono HW3'.out.size)
  have hdsT := hds3'.out.mono a13
  have bT := bT3'.out.late a13
  have sV := s3'.out.mono a13
  have tgT := (tg.mono a2_).mono a3_
  have dgT := dg.mono a3_
  have hwant : DirsR 16 T3 (some ⟨n3 + 1, 0, none⟩) 1 1 [dirOf [(256, 3, 1, [1, 2])]] :=
    ⟨[(.slice (some ⟨n3, 0, none⟩) 1 1, .slice none 0 0, .slice none 0 0)], rfl, dgT, fun i hi hi' => by
      obtain rfl : i = 0 := by simp at hi; omega
      exact ⟨some ⟨n3, 0, none⟩, 1, 1, [((256, 3, 1, a3, 2, c3), [1, 2])], none, 0, 0, [], none, 0, 0, rfl, ⟨tgT, fun z hz => by obtain rfl := List.mem_singleton.1 hz; exact sV⟩, rfl, Sl.nil _ _, rfl, (fun j hj _ => by cases hj), Sl.nil _ _⟩⟩
  have HS := tree_same 16 1 1 a2 1 c2 (some ⟨n3 + 1, 0, none⟩) 1 1 _ _ T3 hdsT hwant true (by simp)
  have f0 : T3.cell? ⟨g1, 0, none⟩ = some (.int .i64 1) := bT.cell rfl
  have f1 : T3.cell? ⟨g1, 1, none⟩ = some (.slice a2 1 c2) := bT.cell rfl
  have k0 : T3.cell? ⟨n3 + 1 + 1, 0, none⟩ = some (.int .i64 1) := bG.cell rfl
  have k1 : T3.cell? ⟨n3 + 1 + 1, 1, none⟩ = some (.slice (some ⟨n3 + 1, 0, none⟩) 1 1) := bG.cell rfl
  have k2 : T3.cell? ⟨n3 + 2, 0, none⟩ = some (.int .i64 1) := bG.cell rfl
  have k3 : T3.cell? ⟨n3 + 2, 1, none⟩ = some (.slice (some ⟨n3 + 1, 0, none⟩) 1 1) := bG.cell rfl
  clear hn3 hT1 hT2 hT3 tg dg bG a1_ a2_ a3_ z1_ z2_ a12 a13 hdsT bT sV tgT dgT hwant p0 p1 p2 hlt3 hlt1 s3' HW3' hds3' bT3' bV'
  have HS' := Lib.hid HS
  have HT3' := Lib.hid HT3
  clear HS HT3
  go_wp2_with fail
  refine HS'.out.mono ?_
  rintro e v1 ⟨rfl, hb⟩
  have HV := Lib.hid (HT3'.out.trans (hb.mono HT3'.out.size))
  clear hb HT3' f0 f1 k0 k1 k2 k3 HS' hs1' hb1' HB1'
  go_wp2_with fail
  refine (lof_any _ 6 6 [0, 0, 0, 0, 0, 0] _ (Sl.new v1 5 1 6 _ (0, 0) (by omega) rfl) (by omega)).mono ?_
  rintro e v2 ⟨a1, c1, rfl, hs, hb⟩
  have HV := Lib.hid (below_new HV.out hb)
  have hs' := Lib.hid hs
  clear hs
  clear hb
  go_wp2_with fail
  refine (wrong_any hD 2 a1 _ c1 _ v2 hs'.out (byt_dec (by decide +kernel)) (by omega) (errS_ok ex2 (by decide))).mono ?_
  rintro e v3 ⟨rfl, hb⟩
  have HV := Lib.hid (HV.out.trans (hb.mono HV.out.size))
  clear hs' hb
  go_wp2_with fail
  refine (lof_any _ 18 18 x3L _ (Sl.new v3 5 1 18 _ (0, 0) (by omega) rfl) (by omega)).mono ?_
  rintro e v4 ⟨a1, c1, rfl, hs, hb⟩
  have HV := Lib.hid (below_new HV.out hb)
  have hs' := Lib.hid hs
  clear hs
  clear hb
  go_wp2_with fail
  refine (wrong_any hD 5 a1 _ c1 _ v4 hs'.out (byt_dec (by decide +kernel)) (by omega) (errS_ok ex3 (by decide))).mono ?_
  rintro e v5 ⟨rfl, hb⟩
  have HV := Lib.hid (HV.out.trans (hb.mono HV.out.size))
  clear hs' hb
  go_wp2_with fail
  refine (lof_any _ 18 18 x4L _ (Sl.new v5 5 1 18 _ (0, 0) (by omega) rfl) (by omega)).mono ?_
  rintro e v6 ⟨a1, c1, rfl, hs, hb⟩
  have HV := Lib.hid (below_new HV.out hb)
  have hs' := Lib.hid hs
  clear hs
  clear hb
  go_wp2_with fail
  refine (wrong_any hD 4 a1 _ c1 _ v6 hs'.out (byt_dec (by decide +kernel)) (by omega) (errS_ok ex4 (by decide))).mono ?_
  rintro e v7 ⟨rfl, hb⟩
  have HV := Lib.hid (HV.out.trans (hb.mono HV.out.size))
  clear hs' hb
  go_wp2_with fail
  refine (lof_any _ 18 18 x5L _ (Sl.new v7 5 1 18 _ (0, 0) (by omega) rfl) (by omega)).mono ?_
  rintro e v8 ⟨a1, c1, rfl, hs, hb⟩
  have HV := Lib.hid (below_new HV.out hb)
  have hs' := Lib.hid hs
  clear hs
  clear hb
  go_wp2_with fail
  refine (wrong_any hD 4 a1 _ c1 _ v8 hs'.out (byt_dec (by decide +kernel)) (by omega) (errS_ok ex5 (by decide))).mono ?_
  rintro e v9 ⟨rfl, hb⟩
  have HV := Lib.hid (HV.out.trans (hb.mono HV.out.size))
  clear hs' hb
  go_wp2_with fail
  refine (lof_any _ 18 18 x6L _ (Sl.new v9 5 1 18 _ (0, 0) (by omega) rfl) (by omega)).mono ?_
  rintro e v10 ⟨a1, c1, rfl, hs, hb⟩
  have HV := Lib.hid (below_new HV.out hb)
  have hs' := Lib.hid hs
  clear hs
  clear hb
  go_wp2_with fail
  refine (wrong_any hD 6 a1 _ c1 _ v10 hs'.out (byt_dec (by decide +kernel)) (by omega) (errS_ok ex6 (by decide))).mono ?_
  rintro e v11 ⟨rfl, hb⟩
  have HV := Lib.hid (HV.out.trans (hb.mono HV.out.size))
  clear hs' hb
  go_wp2_with fail
  refine (wrong_any hD 3 none 0 0 [] v11 (Sl.nil _ _) (byt_dec (by decide +kernel)) (by omega) (errS_ok ex7 (by decide))).mono ?_
  rintro e v12 ⟨rfl, hb⟩
  have HV := Lib.hid (HV.out.trans (hb.mono HV.out.size))
  clear hb
  go_wp2_with fail
  go_ret
  exact ⟨rfl, HV.out⟩
end Go.Proofs.Ytheelhepelbgcaa
