/- Bytes, values, spots that are the same: chapters 1, 18, 20 of the document's answer. | Directories and trees that are the same: chapter 20 of the document's answer. | Directories that are the same: chapter 20 of the document's answer. | Trees that are the same: chapter 20 of the document's answer. -/
import Derived.Laws.StructEq
import Derived.Test.YtilennmeiaehnaaGreatCa08
namespace Go.Proofs.YtilennmeiaehnaaGreat
open Go.RowKit Tt
set_option linter.unusedVariables false
set_option linter.unusedSimpArgs false

set_option maxHeartbeats 400000 in
theorem same01 (a a' : Option Addr) (n n' c c' : Nat) (x y : List Int) (w : World) (hx : Sl w a n c 1 (ints .u8 x)) (hy : Sl w a' n' c' 1 (ints .u8 y)) :
    Calls Tryz.prog 15 #[.slice a n c, .slice a' n' c'] w fun e w' => e = .returned (.bool (x == y)) ∧ Qt w w' := by
  have hxl : x.length = n := hx.ilen; have hyl : y.length = n' := hy.ilen; have hn := hx.le; have hm := hx.max; have hn' := hy.le; have hm' := hy.max
  by_cases hne : n = n'
  · subst hne
    have Hx := Lib.hid hxl; have Hy := Lib.hid hyl; have hne : ((n : Int) != (n : Int)) = false := by simp
    clear hxl hyl
    go_enter Tryz.func15, Tryz.ntmps15
    go_wp2
    go_loopw [4, 5] (fun r i wr => ∃ k : Nat, k ≤ n ∧ i = .int .i64 k ∧ (x.take k = y.take k) ∧ r = .bool false ∧ Qt w wr) (fun _ i _ => n - (intOf i).toNat)
    case atStart => exact ⟨0, Nat.zero_le _, rfl, rfl, rfl, Qt.refl _⟩
    case round =>
      obtain ⟨k, hk, rfl, htk, rfl, hq⟩ := hrel
      by_cases hlt : k < n
      · obtain ⟨b, o, rfl, hbx, cx⟩ := (hx.qt hq).at hlt
        obtain ⟨b', o', rfl, hby, cy⟩ := (hy.qt hq).at hlt; have c1 := cx k _ (ints_get (by rw [Hx.out]; exact hlt)); have c2 := cy k _ (ints_get (by rw [Hy.out]; exact hlt)); clear cx cy; have Htk := Lib.hid htk; clear htk
        by_cases he : x.getD k 0 = y.getD k 0
        · have hb : (x.getD k 0 != y.getD k 0) = false := by rw [he]; simp
          have He := Lib.hid he; clear he
          generalize hu : x.getD k 0 = u at *
          generalize hv : y.getD k 0 = v at *
          have Hu := Lib.hid hu; have Hv := Lib.hid hv; clear hu hv
          go_wp2
          go_quiet (fail)
          go_wp2
          go_roundw
          case rel => exact ⟨k + 1, by omega, by go_num, take_succ_eq Hx.out Hy.out hlt Htk.out (Hu.out.trans (He.out.trans Hv.out.symm)), rfl, hq.step _⟩
          case measure => simp [intOf]; omega
        · have hb : (x.getD k 0 != y.getD k 0) = true := by simpa using he
          have He := Lib.hid he; clear he
          generalize hu : x.getD k 0 = u at *
          generalize hv : y.getD k 0 = v at *
          have Hu := Lib.hid hu; have Hv := Lib.hid hv; clear hu hv
          go_wp2
          go_quiet (fail)
          go_wp2
          go_ret
          exact ⟨ret_bool (ne_of_at (fun h => He.out (Hu.out.symm.trans (h.trans Hv.out)))).symm, hq.step _⟩
      · have Htk := Lib.hid htk
        clear htk
        go_wp2
        go_ret
        exact ⟨ret_bool (eq_of_take Hx.out Hy.out (by omega) Htk.out).symm, hq⟩
  · have hne : ((n : Int) != (n' : Int)) = true := by simp; omega
    have e : (x == y) = false := by rw [beq_eq_false_iff_ne]; rintro rfl; omega
    go_enter Tryz.func15, Tryz.ntmps15
    go_wp2
    go_ret
    exact ⟨ret_bool e.symm, Qt.refl _⟩
set_option maxHeartbeats 1000000 in
theorem same18 (y k y2 k2 : Int) (a a' : Option Addr) (n c n' c' : Nat) (d d2 : List Int) (w : World) (hs : Sl w a n c 1 (ints .u8 d)) (hs2 : Sl w a' n' c' 1 (ints .u8 d2)) :
    Calls Tryz.prog 141 #[.agg #[.int .i64 y, .int .i64 k, .slice a n c], .agg #[.int .i64 y2, .int .i64 k2, .slice a' n' c']] w fun e w' => e = .returned (.bool (y == y2 && k == k2 && d == d2)) ∧ Below w.heap.size w w' := by
  have hb0 := ((Below.refl w.heap.size w).alloc (Nat.le_refl _) (.cells #[.int .i64 y, .int .i64 k, .slice a n c] 76)).alloc (by simp) (.cells #[.int .i64 y2, .int .i64 k2, .slice a' n' c'] 76); have HC := same01 a a' n n' c c' d d2 _ (hs.mono hb0) (hs2.mono hb0); obtain ⟨b3, h3⟩ : ∃ b, (d == d2) = b := ⟨_, rfl⟩; rw [h3] at HC; rw [h3]; have hs' := Lib.hid hs; have hs2' := Lib.hid hs2; have HC' := Lib.hid HC; have h3' := Lib.hid h3; have hb0' := Lib.hid hb0; clear hs hs2 HC h3 hb0
  go_enter Tryz.func141, Tryz.ntmps141
  cases h1 : (y == y2) with
  | false =>
    go_wp2_with fail
    go_ret
    exact ⟨rfl, hb0'.out⟩
  | true =>
    cases h2 : (k == k2) with
    | false =>
      go_wp2_with fail
      go_ret
      exact ⟨rfl, hb0'.out⟩
    | true =>
      go_wp2_with fail
      refine HC'.out.mono ?_; rintro e w2 ⟨rfl, hq⟩; have hb := hb0'.out.trans (hq.below w.heap.size); have hb' := Lib.hid hb; have hq' := Lib.hid hq; clear hb hq
      go_wp2_with fail
      go_ret
      exact ⟨by cases b3 <;> rfl, hb'.out⟩
def spz : Spt := (0, 0, 0, 0, 0)
theorem takeG_succ {α : Type} {d : α} {x y : List α} {k n : Nat} (hx : x.length = n) (hy : y.length = n) (hk : k < n) (h : x.take k = y.take k) (he : x.getD k d = y.getD k d) : x.take (k + 1) = y.take (k + 1) := by
  rw [List.take_add_one, List.take_add_one, h]
  congr 1
  simp only [List.getD_eq_getElem?_getD] at he; rw [List.getElem?_eq_getElem (by omega), List.getElem?_eq_getElem (by omega)] at he ⊢
  simpa using he
theorem neG_of_at {α : Type} [BEq α] [LawfulBEq α] {d : α} {x y : List α} {k : Nat} (he : ¬ x.getD k d = y.getD k d) : (x == y) = false := by
  rw [beq_eq_false_iff_ne]; rintro rfl; exact he rfl
theorem eqG_of_take {α : Type} [BEq α] [LawfulBEq α] {x y : List α} {k n : Nat} (hx : x.length = n) (hy : y.length = n) (hk : n ≤ k) (h : x.take k = y.take k) : (x == y) = true := by
  rw [List.take_of_length_le (by omega), List.take_of_length_le (by omega)] at h
  simp [h]

theorem neq_sp (W : World) (p q : Spt) : (binOp .neq 57 (.agg (spC p).toArray) (.agg (spC q).toArray)).run Tryz.prog W = .ok (.bool (p != q)) W := by
  obtain ⟨a0, a1, a2, a3, a4⟩ := p; obtain ⟨b0, b1, b2, b3, b4⟩ := q; have hs : Tryz.prog.stoodInHeld 57 = false := by kernel_rfl
  rw [run_neq_struct, run_equalIn_agg (ht := by unfold Program.fieldsOf; rw [Tryz.underlying57]) (hp := hs)]; unfold Program.fieldsOf; rw [Tryz.underlying57]; have e1 : ∀ (x y : Int) (W : World), (Op.equalIn 9999 3 (.int .i64 x) (.int .i64 y)).run Tryz.prog W = .ok (x == y) W := fun x y W => run_equalIn_int W 9998 _ _ _ x y Tryz.underlying3; have p0 : ∀ (x0 x1 x2 x3 x4 : Int) (W : World), (part 3 #[.int .i64 x0, .int .i64 x1, .int .i64 x2, .int .i64 x3, .int .i64 x4] 0).run Tryz.prog W = .ok (.int .i64 x0) W := fun _ _ _ _ _ W => by kernel_rfl
  have p1 : ∀ (x0 x1 x2 x3 x4 : Int) (W : World), (part 3 #[.int .i64 x0, .int .i64 x1, .int .i64 x2, .int .i64 x3, .int .i64 x4] 1).run Tryz.prog W = .ok (.int .i64 x1) W := fun _ _ _ _ _ W => by kernel_rfl
  have p2 : ∀ (x0 x1 x2 x3 x4 : Int) (W : World), (part 3 #[.int .i64 x0, .int .i64 x1, .int .i64 x2, .int .i64 x3, .int .i64 x4] 2).run Tryz.prog W = .ok (.int .i64 x2) W := fun _ _ _ _ _ W => by kernel_rfl
  have p3 : ∀ (x0 x1 x2 x3 x4 : Int) (W : World), (part 3 #[.int .i64 x0, .int .i64 x1, .int .i64 x2, .int .i64 x3, .int .i64 x4] 3).run Tryz.prog W = .ok (.int .i64 x3) W := fun _ _ _ _ _ W => by kernel_rfl
  have p4 : ∀ (x0 x1 x2 x3 x4 : Int) (W : World), (part 3 #[.int .i64 x0, .int .i64 x1, .int .i64 x2, .int .i64 x3, .int .i64 x4] 4).run Tryz.prog W = .ok (.int .i64 x4) W := fun _ _ _ _ _ W => by kernel_rfl
  have hb : ((a0, a1, a2, a3, a4) != (b0, b1, b2, b3, b4)) = !(a0 == b0 && (a1 == b1 && (a2 == b2 && (a3 == b3 && a4 == b4)))) := rfl; rw [hb]; simp only [spC]
  simp [Op.eqFields, e1, p0, p1, p2, p3, p4, Result.andThen]
  cases h0 : a0 == b0 <;> cases h1 : a1 == b1 <;> cases h2 : a2 == b2 <;> cases h3 : a3 == b3 <;> cases h4 : a4 == b4 <;> simp_all

attribute [-go_sem] run_neq_struct
set_option maxHeartbeats 1000000 in
theorem spots_any (a a' : Option Addr) (n n' c c' : Nat) (x y : List Spt) (w : World) (hx : Sl w a n c 5 (fl spC x)) (hy : Sl w a' n' c' 5 (fl spC y)) :
    Calls Tryz.prog 33 #[.slice a n c, .slice a' n' c'] w fun e w' => e = .returned (.bool (x == y)) ∧ Qt w w' := by
  have hxl := hx.flen spC_len (by decide); have hyl := hy.flen spC_len (by decide); have hm := hx.max; have hle := hx.le; have hm' := hy.max; have hle' := hy.le; have hx' := Lib.hid hx; have hy' := Lib.hid hy; have hxl' := Lib.hid hxl; have hyl' := Lib.hid hyl; clear hx hy hxl hyl; obtain ⟨r, hr⟩ : ∃ r, (x == y) = r := ⟨_, rfl⟩; rw [hr]; have hr' := Lib.hid hr; clear hr
  by_cases hnn : n = n'
  · subst hnn
    have f0 : ((n : Int) != (n : Int)) = false := by simp
    go_enter Tryz.func33, Tryz.ntmps33
    go_wp2
    go_loopw [5] (fun i wr => ∃ k : Nat, k ≤ n ∧ i = .int .i64 k ∧ Hid (x.take k = y.take k) ∧ Qt w wr) (fun i _ => n - (intOf i).toNat)
    case atStart => exact ⟨0, by omega, rfl, Lib.hid rfl, Qt.refl _⟩
    case round =>
      obtain ⟨k, hk, rfl, htk, hq⟩ := hrel
      by_cases hlt : k < n
      · obtain ⟨b, o, rfl, hb, fe⟩ := hx'.out.elem spC_len (by decide) spz hlt
        have f0 := fe 0 _ rfl; have f1 := fe 1 _ rfl; have f2 := fe 2 _ rfl; have f3 := fe 3 _ rfl; have f4 := fe 4 _ rfl; simp only [Nat.add_zero] at f0 f1 f2 f3 f4; obtain ⟨b', o', rfl, hb', ge⟩ := hy'.out.elem spC_len (by decide) spz hlt; have g0 := ge 0 _ rfl; have g1 := ge 1 _ rfl; have g2 := ge 2 _ rfl; have g3 := ge 3 _ rfl; have g4 := ge 4 _ rfl; simp only [Nat.add_zero] at g0 g1 g2 g3 g4; clear fe ge; have hnq := fun W => neq_sp W (x.getD k spz) (y.getD k spz); simp only [spC] at hnq; obtain ⟨r', hr1⟩ : ∃ r', (x.getD k spz != y.getD k spz) = r' := ⟨_, rfl⟩; rw [hr1] at hnq; have hr1' := Lib.hid hr1; clear hr1
        generalize (x.getD k spz).1 = p0 at *
        generalize (x.getD k spz).2.1 = p1 at *
        generalize (x.getD k spz).2.2.1 = p2 at *
        generalize (x.getD k spz).2.2.2.1 = p3 at *
        generalize (x.getD k spz).2.2.2.2 = p4 at *
        generalize (y.getD k spz).1 = q0 at *
        generalize (y.getD k spz).2.1 = q1 at *
        generalize (y.getD k spz).2.2.1 = q2 at *
        generalize (y.getD k spz).2.2.2.1 = q3 at *
        generalize (y.getD k spz).2.2.2.2 = q4 at *
        obtain ⟨j, rfl⟩ := hq.ex
        cases r'
        · have hnext : Hid (x.take (k + 1) = y.take (k + 1)) := Lib.hid (takeG_succ hxl'.out hyl'.out hlt htk.out (by have := hr1'.out; simpa using this))
          go_wp2_with fail
          go_quiet (fail)
          go_wp2
          go_roundw
          case rel => exact ⟨k + 1, by omega, by go_num, hnext, ⟨_, rfl⟩⟩
          case measure => simp [intOf]; omega
        · obtain rfl : r = false := by rw [← hr'.out]; exact neG_of_at (k := k) (by have := hr1'.out; simpa using this)
          go_wp2_with fail
          go_quiet (fail)
          go_wp2
          go_ret
          exact ⟨rfl, hq.step _⟩
      · obtain rfl : r = true := by rw [← hr'.out]; exact eqG_of_take hxl'.out hyl'.out (by omega) htk.out
        go_wp2
        go_ret
        exact ⟨rfl, hq⟩
  · have f0 : ((n : Int) != (n' : Int)) = true := by simp; omega
    obtain rfl : r = false := by
      rw [← hr'.out, beq_eq_false_iff_ne]; rintro rfl; exact hnn (hxl'.out.symm.trans hyl'.out)
    go_enter Tryz.func33, Tryz.ntmps33
    go_wp2
    go_ret
    exact ⟨rfl, Qt.refl _⟩
end Go.Proofs.YtilennmeiaehnaaGreat

namespace Go.Proofs.YtilennmeiaehnaaGreat
open Go.RowKit Tt
set_option linter.unusedVariables false
set_option linter.unusedSimpArgs false

/-- a row of tags that is read -/
structure Tgr (w : World) (a : Option Addr) (n c : Nat) (zs : List Tz) : Prop where
  row : Sl w a n c 4 (fl tzc zs)
  each : ∀ z ∈ zs, Sl w z.1.2.2.2.1 z.1.2.2.2.2.1 z.1.2.2.2.2.2 1 (ints .u8 z.2)
theorem Tgr.mono {w w' : World} {a : Option Addr} {n c : Nat} {zs : List Tz} (h : Tgr w a n c zs) (hb : Below w.heap.size w w') : Tgr w' a n c zs := ⟨h.row.mono hb, fun z hz => (h.each z hz).mono hb⟩
theorem Tgr.len {w : World} {a : Option Addr} {n c : Nat} {zs : List Tz} (h : Tgr w a n c zs) : zs.length = n := h.row.flen tzc_len (by decide)
theorem Tgr.at {w : World} {a : Option Addr} {n c : Nat} {zs : List Tz} (h : Tgr w a n c zs) {k : Nat} (hk : k < n) :
    ∃ b o, a = some ⟨b, o, none⟩ ∧ b < w.heap.size ∧ w.cell? ⟨b, o + k * 4, none⟩ = some (.int .i64 (zs.getD k tz0).1.1) ∧ w.cell? ⟨b, o + k * 4 + 1, none⟩ = some (.int .i64 (zs.getD k tz0).1.2.1) ∧ w.cell? ⟨b, o + k * 4 + 2, none⟩ = some (.int .i64 (zs.getD k tz0).1.2.2.1) ∧
      w.cell? ⟨b, o + k * 4 + 3, none⟩ = some (.slice (zs.getD k tz0).1.2.2.2.1 (zs.getD k tz0).1.2.2.2.2.1 (zs.getD k tz0).1.2.2.2.2.2) ∧ Sl w (zs.getD k tz0).1.2.2.2.1 (zs.getD k tz0).1.2.2.2.2.1 (zs.getD k tz0).1.2.2.2.2.2 1 (ints .u8 (zs.getD k tz0).2) := by
  obtain ⟨b, o, rfl, hb, fe⟩ := h.row.elem tzc_len (by decide) tz0 hk; have f0 := fe 0 _ rfl; refine ⟨b, o, rfl, hb, by simpa using f0, fe 1 _ rfl, fe 2 _ rfl, fe 3 _ rfl, h.each _ ?_⟩; rw [getD_el (by rw [h.len]; exact hk)]; exact List.getElem_mem _
theorem map_getD {α β : Type} (f : α → β) (l : List α) (d : α) (i : Nat) : (l.map f).getD i (f d) = f (l.getD i d) := by
  simp only [List.getD_eq_getElem?_getD, List.getElem?_map]
  cases l[i]? <;> rfl
set_option maxRecDepth 20000 in
set_option maxHeartbeats 4000000 in
theorem tags_same (a a' : Option Addr) (n c n' c' : Nat) (xs ys : List Tz) (w : World) (hx : Tgr w a n c xs) (hy : Tgr w a' n' c' ys) :
    Calls Tryz.prog 94 #[.slice a n c, .slice a' n' c'] w fun e w' => e = .returned (.bool (xs.map tagz == ys.map tagz)) ∧ Below w.heap.size w w' := by
  have hxl : (xs.map tagz).length = n := by rw [List.length_map]; exact hx.len
  have hyl : (ys.map tagz).length = n' := by rw [List.length_map]; exact hy.len
  have hmx := hx.row.max; have hle := hx.row.le; have hmy := hy.row.max; have hley := hy.row.le; obtain ⟨r, hr⟩ : ∃ r, (xs.map tagz == ys.map tagz) = r := ⟨_, rfl⟩; rw [hr]; have hr' := Lib.hid hr; clear hr; have hx' := Lib.hid hx; have hy' := Lib.hid hy; have hxl' := Lib.hid hxl; have hyl' := Lib.hid hyl; clear hx hy hxl hyl
  by_cases hnn : n = n'
  · subst hnn
    have hne : ((n : Int) != (n : Int)) = false := by simp
    go_enter Tryz.func94, Tryz.ntmps94
    go_wp2_with fail
    go_loopw [5] (fun iv wr => ∃ (i : Nat), i ≤ n ∧ iv = .int .i64 i ∧ Hid ((xs.map tagz).take i = (ys.map tagz).take i) ∧ Hid (Below w.heap.size w wr)) (fun iv _ => n - (intOf iv).toNat)
    case atStart => exact ⟨0, by omega, rfl, Lib.hid rfl, Lib.hid (Below.refl _ _)⟩
    case round =>
      obtain ⟨i, hin, rfl, htk, hb⟩ := hrel
      by_cases hi : i < n
      · have hil : (i : Int) < (n : Int) := by omega
        have hw1 : IntKind.i64.wrap ((i : Int) + 1) = i + 1 := by rw [IntKind.wrap_i64]; omega
        obtain ⟨b, o, rfl, hblt, f0, f1, f2, f3, hrd⟩ := hx'.out.at hi; obtain ⟨b2, o2, rfl, hblt2, g0, g1, g2, g3, hrd2⟩ := hy'.out.at hi; have hmx := map_getD tagz xs tz0 i; have hmy := map_getD tagz ys tz0 i; obtain ⟨⟨⟨y, t, k, xa, xn, xc⟩, d⟩, hzi⟩ : ∃ z, xs.getD i tz0 = z := ⟨_, rfl⟩; obtain ⟨⟨⟨y2, t2, k2, xa2, xn2, xc2⟩, d2⟩, hzi2⟩ : ∃ z, ys.getD i tz0 = z := ⟨_, rfl⟩; rw [hzi] at f0 f1 f2 f3 hrd hmx; rw [hzi2] at g0 g1 g2 g3 hrd2 hmy; simp only [tagz] at f0 f1 f2 f3 g0 g1 g2 g3 hrd hrd2 hmx hmy; obtain ⟨Ty, f, hne, hbel, hsurj⟩ := below_worlds w.heap.size w; have q0 : ∀ s, (f s).cell? ⟨b, o + i * 4, none⟩ = some (.int .i64 y) := fun s => late (hbel s) hblt f0; have q1 : ∀ s, (f s).cell? ⟨b, o + i * 4 + 1, none⟩ = some (.int .i64 t) := fun s => late (hbel s) hblt f1; have q2 : ∀ s, (f s).cell? ⟨b, o + i * 4 + 2, none⟩ = some (.int .i64 k) := fun s => late (hbel s) hblt f2; have q3 : ∀ s, (f s).cell? ⟨b, o + i * 4 + 3, none⟩ = some (.slice xa xn xc) := fun s => late (hbel s) hblt f3; have r0 : ∀ s, (f s).cell? ⟨b2, o2 + i * 4, none⟩ = some (.int .i64 y2) := fun s => late (hbel s) hblt2 g0; have r1 : ∀ s, (f s).cell? ⟨b2, o2 + i * 4 + 1, none⟩ = some (.int .i64 t2) := fun s => late (hbel s) hblt2 g1; have r2 : ∀ s, (f s).cell? ⟨b2, o2 + i * 4 + 2, none⟩ = some (.int .i64 k2) := fun s => late (hbel s) hblt2 g2; have r3 : ∀ s, (f s).cell? ⟨b2, o2 + i * 4 + 3, none⟩ = some (.slice xa2 xn2 xc2) := fun s => late (hbel s) hblt2 g3; have HS := Lib.hid (hsurj _ (hb.out.drew)); have HG := Lib.hid (fun s => same18 t k t2 k2 xa xa2 xn xc xn2 xc2 d d2 (f s) (hrd.mono (hbel s)) (hrd2.mono (hbel s))); clear f0 f1 f2 f3 g0 g1 g2 g3 hblt hblt2; have hbel' := Lib.hid hbel; have hsurj' := Lib.hid hsurj; have hrd' := Lib.hid hrd; have hrd2' := Lib.hid hrd2; have hzi' := Lib.hid hzi; have hzi2' := Lib.hid hzi2; have hmx' := Lib.hid hmx; have hmy' := Lib.hid hmy; clear hbel hsurj hrd hrd2 hzi hzi2 hmx hmy
        by_cases hyy : y = y2
        · subst hyy
          have hyy : (y != y) = false := by simp
          obtain ⟨r', hr1⟩ : ∃ b, (t == t2 && k == k2 && d == d2) = b := ⟨_, rfl⟩; rw [hr1] at HG
          cases r' with
          | true =>
            have hnext : Hid ((xs.map tagz).take (i + 1) = (ys.map tagz).take (i + 1)) := Lib.hid (takeG_succ hxl'.out hyl'.out hi htk.out (by
              rw [hmx'.out, hmy'.out]; simp only [Bool.and_eq_true, beq_iff_eq] at hr1; rw [hr1.1.1, hr1.1.2, hr1.2]))
            clear hr1
            go_wp2_with fail
            refine wp_quiet_in f (by kernel_rfl) (by kernel_rfl) HS.out ?_
            iterate 25 (go_big_quiet_step ((go_at_call 141; refine (HG.out _).mono ?_; rintro e w3 ⟨rfl, hb3⟩; exact ⟨rfl, hsurj'.out _ ((hbel'.out _).trans (hb3.mono (hbel'.out _).size))⟩)))
            refine wpQuiet_nil ?_; intro s; have hbs := hbel'.out s; have hbs' := Lib.hid hbs; clear hbs; clear q0 q1 q2 q3 r0 r1 r2 r3
            go_wp2_with fail
            go_roundw
            case rel => exact ⟨i + 1, by omega, by go_num, hnext, hbs'⟩
            case measure => simp [intOf]; omega
          | false =>
            obtain rfl : r = false := by
              rw [← hr'.out]; refine neG_of_at (k := i) (d := (0, 0, 0, [])) (fun e => ?_); rw [hmx'.out, hmy'.out] at e; simp only [Prod.mk.injEq] at e; obtain ⟨_, rfl, rfl, rfl⟩ := e
              simp at hr1
            clear hr1
            go_wp2_with fail
            refine wp_quiet_in f (by kernel_rfl) (by kernel_rfl) HS.out ?_
            iterate 25 (go_big_quiet_step ((go_at_call 141; refine (HG.out _).mono ?_; rintro e w3 ⟨rfl, hb3⟩; exact ⟨rfl, hsurj'.out _ ((hbel'.out _).trans (hb3.mono (hbel'.out _).size))⟩)))
            refine wpQuiet_nil ?_; intro s; have hbs := hbel'.out s; have hbs' := Lib.hid hbs; clear hbs; clear q0 q1 q2 q3 r0 r1 r2 r3
            go_wp2_with fail
            go_ret
            exact ⟨rfl, hbs'.out⟩
        · obtain rfl : r = false := by
            rw [← hr'.out]; refine neG_of_at (k := i) (d := (0, 0, 0, [])) (fun e => ?_); rw [hmx'.out, hmy'.out] at e; exact hyy (congrArg Prod.fst e)
          have hyy : (y != y2) = true := by simpa using hyy
          go_wp2_with fail
          refine wp_quiet_in f (by kernel_rfl) (by kernel_rfl) HS.out ?_
          iterate 25 (go_big_quiet_step (fail))
          refine wpQuiet_nil ?_; intro s; have hbs := hbel'.out s; have hbs' := Lib.hid hbs; clear hbs; clear q0 q1 q2 q3 r0 r1 r2 r3
          go_wp2_with fail
          go_ret
          exact ⟨rfl, hbs'.out⟩
      · obtain rfl : i = n := by omega
        obtain rfl : r = true := by rw [← hr'.out]; exact eqG_of_take hxl'.out hyl'.out (by omega) htk.out
        go_wp2
        go_ret
        exact ⟨rfl, hb.out⟩
  · have hne : ((n : Int) != (n' : Int)) = true := by simp; omega
    obtain rfl : r = false := by
      rw [← hr'.out, beq_eq_false_iff_ne]; intro e; have := congrArg List.length e; rw [hxl'.out, hyl'.out] at this; exact hnn this
    go_enter Tryz.func94, Tryz.ntmps94
    go_wp2_with fail
    go_ret
    exact ⟨rfl, Below.refl _ _⟩
/-- a directory that is read -/
def DirR (w : World) : (f : Nat) → DirT f → Dz → Prop
  | 0, _, _ => False
  | f + 1, d, v => ∃ (ta : Option Addr) (tn tc : Nat) (zs : List Tz) (sa : Option Addr) (sn sc : Nat) (ds : List (Int × Dz)) (ba : Option Addr) (bn bc : Nat), v = (.slice ta tn tc, .slice sa sn sc, .slice ba bn bc) ∧ Tgr w ta tn tc zs ∧ d.1 = zs.map tagz ∧
      Sl w sa sn sc 4 (fl sbC ds) ∧ ds.length = d.2.1.length ∧ (∀ i (h : i < ds.length) (h' : i < d.2.1.length), ds[i].1 = d.2.1[i].1 ∧ DirR w f d.2.1[i].2 ds[i].2) ∧ Sl w ba bn bc 1 (ints .u8 d.2.2)
theorem DirR.mono {w w' : World} (hb : Below w.heap.size w w') : ∀ {f : Nat} {d : DirT f} {v : Dz}, DirR w f d v → DirR w' f d v
  | 0, _, _, h => h.elim
  | f + 1, d, v, h => by
    obtain ⟨ta, tn, tc, zs, sa, sn, sc, ds, ba, bn, bc, h1, h2, h3, h4, h5, h6, h7⟩ := h; exact ⟨ta, tn, tc, zs, sa, sn, sc, ds, ba, bn, bc, h1, h2.mono hb, h3, h4.mono hb, h5, fun i hi hi' => ⟨(h6 i hi hi').1, (h6 i hi hi').2.mono hb⟩, h7.mono hb⟩
theorem Ck.v {X : Nat → Prop} {B : Nat} {w : World} {v : Value} {E : TypeId} {sz n : Nat} {xs : List Value} (h : Ck X B w v E sz n xs) : ∃ a c, v = .slice a n c := by
  rcases h.1.2 with ⟨rfl, h0⟩ | ⟨g, cap, cur, rfl, _⟩
  · exact ⟨none, 0, by rw [h0]⟩
  · exact ⟨_, _, rfl⟩
theorem DirAt.rd {X : Nat → Prop} {B : Nat} {w : World} : ∀ {f : Nat} {d : DirT f} {v : Dz}, DirAt X B w f d v → DirR w f d v
  | 0, _, _, h => h.elim
  | f + 1, d, (v1, v2, v3), h => by
    obtain ⟨h0, ⟨zs, h1, h2, h3⟩, ⟨ds, h4, h5, h6⟩, h7⟩ := h; obtain ⟨ta, tc, rfl⟩ := Ck.v h2; obtain ⟨sa, sc, rfl⟩ := Ck.v h5; obtain ⟨ba, bc, rfl⟩ := Ck.v h7; exact ⟨ta, _, tc, zs, sa, _, sc, ds, ba, _, bc, rfl, ⟨h2.sl, fun z hz => (h3 z hz).sl⟩, h1, h5.sl, h4, fun i hi hi' => ⟨(h6 i hi hi').1, (h6 i hi hi').2.rd⟩, h7.sl⟩
end Go.Proofs.YtilennmeiaehnaaGreat

namespace Go.Proofs.YtilennmeiaehnaaGreat
open Go.RowKit Tt
set_option linter.unusedVariables false
set_option linter.unusedSimpArgs false

abbrev dz0 : Int × Dz := (0, .slice none 0 0, .slice none 0 0, .slice none 0 0)
theorem dir_inj {f : Nat} {a a' : List Tgs} {b b' : List (Int × DirT f)} {c c' : List Int} (h : @Eq (DirT (f + 1)) (a, b, c) (a', b', c')) : a = a' ∧ b = b' ∧ c = c' := by
  have h' : ((a, b, c) : List Tgs × List (Int × DirT f) × List Int) = (a', b', c') := h
  cases h'
  exact ⟨rfl, rfl, rfl⟩
set_option maxRecDepth 20000 in
set_option maxHeartbeats 8000000 in
theorem dir_same : ∀ (f : Nat) (d d2 : DirT f) (v v2 : Dz) (w : World), DirR w f d v → DirR w f d2 v2 → ∀ b : Bool, (b = true ↔ d = d2) →
    Calls Tryz.prog 49 #[.agg #[v.1, v.2.1, v.2.2], .agg #[v2.1, v2.2.1, v2.2.2]] w fun e w' => e = .returned (.bool b) ∧ Below w.heap.size w w'
  | 0, _, _, _, _, _, h, _, _, _ => h.elim
  | f + 1, (dt, dsu, dbl), (et, esu, ebl), v, v2, w, h, h2, b, hb => by
    have IH := dir_same f; obtain ⟨ta, tn, tc, zs, sa, sn, sc, ds, ba, bn, bc, rfl, t1, t2, t3, t4, t5, t6⟩ := h; obtain ⟨ua, un, uc, ys, ra, rn, rc, es, ca, cn, cc, rfl, u1, u2, u3, u4, u5, u6⟩ := h2; simp only at t2 t4 t5 t6 u2 u4 u5 u6 ⊢; have hdl := t3.flen sbC_len (by decide); have hel := u3.flen sbC_len (by decide); obtain ⟨W, hW⟩ : ∃ W, (w.alloc (.cells #[.slice ta tn tc, .slice sa sn sc, .slice ba bn bc] 42)).alloc (.cells #[.slice ua un uc, .slice ra rn rc, .slice ca cn cc] 42) = W := ⟨_, rfl⟩; have hbW : Below w.heap.size w W := by rw [← hW]; exact ((Below.refl w.heap.size w).alloc (Nat.le_refl _) _).alloc (by simp) _
    have b0 : Blk W w.heap.size 42 #[.slice ta tn tc, .slice sa sn sc, .slice ba bn bc] := by rw [← hW]; exact (Blk.new w _ _).alloc _
    have b1 : Blk W (w.heap.size + 1) 42 #[.slice ua un uc, .slice ra rn rc, .slice ca cn cc] := by rw [← hW]; exact heap_new' _ _ (by simp)
    obtain ⟨rt, hrt⟩ : ∃ b, (zs.map tagz == ys.map tagz) = b := ⟨_, rfl⟩; obtain ⟨rb, hrb⟩ : ∃ b, (dbl == ebl) = b := ⟨_, rfl⟩; have HT := fun W' (h : Below W.heap.size W W') => tags_same ta ua tn tc un uc zs ys W' ((t1.mono hbW).mono h) ((u1.mono hbW).mono h); rw [hrt] at HT; have HB := fun W' (h : Below W.heap.size W W') => same01 ba ca bn cn bc cc dbl ebl W' ((t6.mono hbW).mono h) ((u6.mono hbW).mono h); rw [hrb] at HB; have c00 : W.cell? ⟨w.heap.size, 0, none⟩ = some (.slice ta tn tc) := b0.cell rfl; have c10 : W.cell? ⟨w.heap.size + 1, 0, none⟩ = some (.slice ua un uc) := b1.cell rfl; have hsm := t3.max; have hsle := t3.le; have hrm := u3.max; have hrle := u3.le; have IH' := Lib.hid IH; have t1' := Lib.hid t1; have t2' := Lib.hid t2; have t3' := Lib.hid t3; have t4' := Lib.hid t4; have t5' := Lib.hid t5; have t6' := Lib.hid t6; have u1' := Lib.hid u1; have u2' := Lib.hid u2; have u3' := Lib.hid u3; have u4' := Lib.hid u4; have u5' := Lib.hid u5; have u6' := Lib.hid u6; have hdl' := Lib.hid hdl; have hel' := Lib.hid hel; have hbW' := Lib.hid hbW; have b0' := Lib.hid b0; have b1' := Lib.hid b1; have hrt' := Lib.hid hrt; have hrb' := Lib.hid hrb; have HT' := Lib.hid HT; have HB' := Lib.hid HB; have hb' := Lib.hid hb; clear IH t1 t2 t3 t4 t5 t6 u1 u2 u3 u4 u5 u6 hdl hel hbW b0 b1 hrt hrb HT HB hb
    go_enter Tryz.func49, Tryz.ntmps49
    go_upto_region 1 with fail
    try rw [hW]
    clear hW
    go_wp2_with fail
    refine (HT'.out W (Below.refl _ _)).mono ?_; rintro e w1 ⟨rfl, hb1⟩; have b01 := b0'.out.late hb1; have b11 := b1'.out.late hb1; have c02 : w1.cell? ⟨w.heap.size, 2, none⟩ = some (.slice ba bn bc) := b01.cell rfl; have c12 : w1.cell? ⟨w.heap.size + 1, 2, none⟩ = some (.slice ca cn cc) := b11.cell rfl; have c01 : w1.cell? ⟨w.heap.size, 1, none⟩ = some (.slice sa sn sc) := b01.cell rfl; have c11 : w1.cell? ⟨w.heap.size + 1, 1, none⟩ = some (.slice ra rn rc) := b11.cell rfl; have hbw1 := hbW'.out.trans (hb1.mono hbW'.out.size); clear c00 c10; have b01' := Lib.hid b01; have b11' := Lib.hid b11; have hb1' := Lib.hid hb1; have hbw1' := Lib.hid hbw1; clear b01 b11 hb1 hbw1
    cases rt with
    | false =>
      obtain rfl : b = false := by
        rw [← Bool.not_eq_true]; intro e; have e2 := dir_inj (hb'.out.1 e); rw [beq_eq_false_iff_ne] at hrt'; exact hrt'.out (by rw [← t2'.out, ← u2'.out]; exact e2.1)
      go_wp2_with fail
      go_ret
      exact ⟨rfl, hbw1'.out⟩
    | true =>
      go_wp2_with fail
      refine (HB'.out w1 hb1'.out).mono ?_; rintro e w2 ⟨rfl, hq2⟩; have hb2 := hq2.below w1.heap.size; have b02 := b01'.out.late hb2; have b12 := b11'.out.late hb2; have c01 : w2.cell? ⟨w.heap.size, 1, none⟩ = some (.slice sa sn sc) := b02.cell rfl; have c11 : w2.cell? ⟨w.heap.size + 1, 1, none⟩ = some (.slice ra rn rc) := b12.cell rfl; have hbw2 := hbw1'.out.trans (hb2.mono hbw1'.out.size); clear c02 c12; have b02' := Lib.hid b02; have b12' := Lib.hid b12; have hq2' := Lib.hid hq2; have hb2' := Lib.hid hb2; have hbw2' := Lib.hid hbw2; clear b02 b12 hq2 hb2 hbw2
      cases rb with
      | false =>
        obtain rfl : b = false := by
          rw [← Bool.not_eq_true]; intro e; have e2 := dir_inj (hb'.out.1 e); have := hrb'.out; rw [beq_eq_false_iff_ne] at this; exact this e2.2.2
        go_wp2_with fail
        go_ret
        exact ⟨rfl, hbw2'.out⟩
      | true =>
        by_cases hnn : sn = rn
        · subst hnn
          have hne : ((sn : Int) != (sn : Int)) = false := by simp
          go_wp2_with fail
          clear c01 c11
          go_loopw [5] (fun iv wr => ∃ (i : Nat), i ≤ sn ∧ iv = .int .i64 i ∧ Hid (∀ j (h : j < dsu.length) (h' : j < esu.length), j < i → dsu[j] = esu[j]) ∧ Hid (Below w.heap.size w wr) ∧ Hid (Below W.heap.size W wr)) (fun iv _ => sn - (intOf iv).toNat)
          case atStart => exact ⟨0, by omega, rfl, Lib.hid (fun j _ _ h => by omega), hbw2', Lib.hid (hb1'.out.trans (hb2'.out.mono hb1'.out.size))⟩
          case round =>
            obtain ⟨i, hin, rfl, htk, hbr, hbR⟩ := hrel; have b03 := b0'.out.late hbR.out; have b13 := b1'.out.late hbR.out; have c01 : wr.cell? ⟨w.heap.size, 1, none⟩ = some (.slice sa sn sc) := b03.cell rfl; have b03' := Lib.hid b03; have b13' := Lib.hid b13; clear b03 b13
            by_cases hi : i < sn
            · have hil : (i : Int) < (sn : Int) := by omega
              have hw1 : IntKind.i64.wrap ((i : Int) + 1) = i + 1 := by rw [IntKind.wrap_i64]; omega
              have hdi : i < ds.length := by rw [hdl'.out]; exact hi
              have hei : i < es.length := by rw [hel'.out]; exact hi
              have hdi2 : i < dsu.length := by have := t4'.out; omega
              have hei2 : i < esu.length := by have := u4'.out; omega
              obtain ⟨x, o, hsa, hx, fe⟩ := ((t3'.out.mono hbW'.out).mono hbR.out).elem sbC_len (by decide) dz0 hi; obtain ⟨x2, o2, hra, hx2, ge⟩ := ((u3'.out.mono hbW'.out).mono hbR.out).elem sbC_len (by decide) dz0 hi; have T5 := t5'.out i hdi hdi2; have U5 := u5'.out i hei hei2; rw [getD_el hdi] at fe; rw [getD_el hei] at ge; obtain ⟨⟨y, z1, z2, z3⟩, hds⟩ : ∃ q, ds[i] = q := ⟨_, rfl⟩; obtain ⟨⟨y2, q1, q2, q3⟩, hes⟩ : ∃ q, es[i] = q := ⟨_, rfl⟩; rw [hds] at fe T5; rw [hes] at ge U5; obtain ⟨T5a, T5b⟩ := T5; obtain ⟨U5a, U5b⟩ := U5; simp only at T5a U5a; have f0 := fe 0 _ rfl; have f1 := fe 1 _ rfl; have f2 := fe 2 _ rfl; have f3 := fe 3 _ rfl; have g0 := ge 0 _ rfl; have g1 := ge 1 _ rfl; have g2 := ge 2 _ rfl; have g3 := ge 3 _ rfl; simp only [Nat.add_zero] at f0 f1 f2 f3 g0 g1 g2 g3; subst hsa hra; obtain ⟨Ty, ff, hne, hbel, hsurj⟩ := later_worlds wr; have p0 : ∀ s, (ff s).cell? ⟨w.heap.size, 1, none⟩ = some (.slice (some ⟨x, o, none⟩) sn sc) := fun s => (b03'.out.late (hbel s)).cell rfl; have p1 : ∀ s, (ff s).cell? ⟨w.heap.size + 1, 1, none⟩ = some (.slice (some ⟨x2, o2, none⟩) sn rc) := fun s => (b13'.out.late (hbel s)).cell rfl; have r0 : ∀ s, (ff s).cell? ⟨x, o + i * 4, none⟩ = some (.int .i64 y) := fun s => late (hbel s) hx f0; have r1 : ∀ s, (ff s).cell? ⟨x, o + i * 4 + 1, none⟩ = some z1 := fun s => late (hbel s) hx f1; have r2 : ∀ s, (ff s).cell? ⟨x, o + i * 4 + 2, none⟩ = some z2 := fun s => late (hbel s) hx f2; have r3 : ∀ s, (ff s).cell? ⟨x, o + i * 4 + 3, none⟩ = some z3 := fun s => late (hbel s) hx f3; have k0 : ∀ s, (ff s).cell? ⟨x2, o2 + i * 4, none⟩ = some (.int .i64 y2) := fun s => late (hbel s) hx2 g0; have k1 : ∀ s, (ff s).cell? ⟨x2, o2 + i * 4 + 1, none⟩ = some q1 := fun s => late (hbel s) hx2 g1; have k2 : ∀ s, (ff s).cell? ⟨x2, o2 + i * 4 + 2, none⟩ = some q2 := fun s => late (hbel s) hx2 g2; have k3 : ∀ s, (ff s).cell? ⟨x2, o2 + i * 4 + 3, none⟩ = some q3 := fun s => late (hbel s) hx2 g3; obtain ⟨b', hb'_⟩ : ∃ b' : Bool, (b' = true ↔ dsu[i].2 = esu[i].2) := by classical exact ⟨decide (dsu[i].2 = esu[i].2), by simp⟩
              have HG := Lib.hid (fun s => IH'.out dsu[i].2 esu[i].2 (z1, z2, z3) (q1, q2, q3) (ff s) (((T5b.mono hbW'.out).mono hbR.out).mono (hbel s)) (((U5b.mono hbW'.out).mono hbR.out).mono (hbel s)) b' hb'_); simp only at HG; have HS := Lib.hid (hsurj _ ((Below.refl _ _).drew)); clear f0 f1 f2 f3 g0 g1 g2 g3 fe ge hx hx2; have hbel' := Lib.hid hbel; have hsurj' := Lib.hid hsurj; have T5a' := Lib.hid T5a; have T5b' := Lib.hid T5b; have U5a' := Lib.hid U5a; have U5b' := Lib.hid U5b; have hds' := Lib.hid hds; have hes' := Lib.hid hes; clear hbel hsurj T5a T5b U5a U5b hds hes
              replace hb'_ := Lib.hid hb'_
              by_cases hyy : y = y2
              · subst hyy
                have hyy : (y != y) = false := by simp
                cases b' with
                | true =>
                  have hnext : Hid (∀ j (h : j < dsu.length) (h' : j < esu.length), j < i + 1 → dsu[j] = esu[j]) := Lib.hid (fun j h h' hj => by
                    by_cases hji : j < i
                    · exact htk.out j h h' hji
                    · obtain rfl : j = i := by omega
                      exact Prod.ext (by rw [← T5a'.out, ← U5a'.out]) (hb'_.out.1 rfl))
                  go_wp2_with fail
                  refine wp_quiet_in ff (by kernel_rfl) (by kernel_rfl) HS.out ?_
                  iterate 29 (go_big_quiet_step ((go_at_call 49; refine (HG.out _).mono ?_; rintro e w3 ⟨rfl, hb3⟩; exact ⟨rfl, hsurj'.out _ ((hbel'.out _).trans (hb3.mono (hbel'.out _).size))⟩)))
                  refine wpQuiet_nil ?_; intro s; have hbs := hbel'.out s; have hbs' := Lib.hid hbs; clear hbs; clear p0 p1 r0 r1 r2 r3 k0 k1 k2 k3
                  go_wp2_with fail
                  go_roundw
                  case rel => exact ⟨i + 1, by omega, by go_num, hnext, Lib.hid (hbr.out.trans (hbs'.out.mono hbr.out.size)), Lib.hid (hbR.out.trans (hbs'.out.mono hbR.out.size))⟩
                  case measure => simp [intOf]; omega
                | false =>
                  obtain rfl : b = false := by
                    rw [← Bool.not_eq_true]; intro e; have e2 := (dir_inj (hb'.out.1 e)).2.1; subst e2; have := hb'_.out.2 rfl
                    cases this
                  go_wp2_with fail
                  refine wp_quiet_in ff (by kernel_rfl) (by kernel_rfl) HS.out ?_
                  iterate 29 (go_big_quiet_step ((go_at_call 49; refine (HG.out _).mono ?_; rintro e w3 ⟨rfl, hb3⟩; exact ⟨rfl, hsurj'.out _ ((hbel'.out _).trans (hb3.mono (hbel'.out _).size))⟩)))
                  refine wpQuiet_nil ?_; intro s; have hbs := hbel'.out s; have hbs' := Lib.hid hbs; clear hbs; clear p0 p1 r0 r1 r2 r3 k0 k1 k2 k3
                  go_wp2_with fail
                  go_ret
                  exact ⟨rfl, hbr.out.trans (hbs'.out.mono hbr.out.size)⟩
              · obtain rfl : b = false := by
                  rw [← Bool.not_eq_true]; intro e; have e2 := (dir_inj (hb'.out.1 e)).2.1; subst e2; exact hyy (T5a'.out.trans U5a'.out.symm)
                have hyy : (y != y2) = true := by simpa using hyy
                go_wp2_with fail
                refine wp_quiet_in ff (by kernel_rfl) (by kernel_rfl) HS.out ?_
                iterate 29 (go_big_quiet_step ((go_at_call 49; refine (HG.out _).mono ?_; rintro e w3 ⟨rfl, hb3⟩; exact ⟨rfl, hsurj'.out _ ((hbel'.out _).trans (hb3.mono (hbel'.out _).size))⟩)))
                refine wpQuiet_nil ?_; intro s; have hbs := hbel'.out s; have hbs' := Lib.hid hbs; clear hbs; clear p0 p1 r0 r1 r2 r3 k0 k1 k2 k3
                go_wp2_with fail
                go_ret
                exact ⟨rfl, hbr.out.trans (hbs'.out.mono hbr.out.size)⟩
            · obtain rfl : i = sn := by omega
              obtain rfl : b = true := by
                rw [hb'.out]; have e1 : dt = et := by rw [t2'.out, u2'.out]; simpa using hrt'.out
                have e2 : dbl = ebl := by simpa using hrb'.out
                have e3 : dsu = esu := List.ext_getElem (by have := t4'.out; have := u4'.out; have := hdl'.out; have := hel'.out; omega) (fun j h1 h2 => htk.out j h1 h2 (by have := t4'.out; have := hdl'.out; omega)); rw [e1, e2, e3]
              go_wp2_with fail
              go_ret
              exact ⟨rfl, hbr.out⟩
        · have hne : ((sn : Int) != (rn : Int)) = true := by simp; omega
          obtain rfl : b = false := by
            rw [← Bool.not_eq_true]; intro e; have e2 := dir_inj (hb'.out.1 e); have e3 := congrArg List.length e2.2.1; have := t4'.out; have := u4'.out; have := hdl'.out; have := hel'.out
            omega
          go_wp2_with fail
          go_ret
          exact ⟨rfl, hbw2'.out⟩
end Go.Proofs.YtilennmeiaehnaaGreat

namespace Go.Proofs.YtilennmeiaehnaaGreat
open Go.RowKit Tt
set_option linter.unusedVariables false
set_option linter.unusedSimpArgs false

/-- directories that are read -/
def DirsR (f : Nat) (w : World) (a : Option Addr) (n c : Nat) (ds : List (DirT f)) : Prop :=
  ∃ dzs : List Dz, dzs.length = ds.length ∧ Sl w a n c 3 (fl dvC dzs) ∧ ∀ i (h : i < dzs.length) (h' : i < ds.length), DirR w f ds[i] dzs[i]
theorem DirsR.mono {f : Nat} {w w' : World} {a : Option Addr} {n c : Nat} {ds : List (DirT f)} (h : DirsR f w a n c ds) (hb : Below w.heap.size w w') : DirsR f w' a n c ds := by
  obtain ⟨dzs, h1, h2, h3⟩ := h; exact ⟨dzs, h1, h2.mono hb, fun i hi hi' => (h3 i hi hi').mono hb⟩
abbrev dzz : Dz := (.slice none 0 0, .slice none 0 0, .slice none 0 0)
set_option maxRecDepth 20000 in
set_option maxHeartbeats 8000000 in
theorem tree_same (f : Nat) (o o2 : Int) (sa : Option Addr) (sn sc : Nat) (ra : Option Addr) (rn rc : Nat) (ds es : List (DirT f)) (w : World) (h : DirsR f w sa sn sc ds) (h2 : DirsR f w ra rn rc es) (b : Bool) (hb : b = true ↔ o = o2 ∧ ds = es) :
    Calls Tryz.prog 16 #[.agg #[.int .i64 o, .slice sa sn sc], .agg #[.int .i64 o2, .slice ra rn rc]] w fun e w' => e = .returned (.bool b) ∧ Below w.heap.size w w' := by
  obtain ⟨dzs, t4, t3, t5⟩ := h; obtain ⟨ezs, u4, u3, u5⟩ := h2; have hdl := t3.flen dvC_len (by decide); have hel := u3.flen dvC_len (by decide); obtain ⟨W, hW⟩ : ∃ W, (w.alloc (.cells #[.int .i64 o, .slice sa sn sc] 24)).alloc (.cells #[.int .i64 o2, .slice ra rn rc] 24) = W := ⟨_, rfl⟩; have hbW : Below w.heap.size w W := by rw [← hW]; exact ((Below.refl w.heap.size w).alloc (Nat.le_refl _) _).alloc (by simp) _
  have b0 : Blk W w.heap.size 24 #[.int .i64 o, .slice sa sn sc] := by rw [← hW]; exact (Blk.new w _ _).alloc _
  have b1 : Blk W (w.heap.size + 1) 24 #[.int .i64 o2, .slice ra rn rc] := by rw [← hW]; exact heap_new' _ _ (by simp)
  have c00 : W.cell? ⟨w.heap.size, 0, none⟩ = some (.int .i64 o) := b0.cell rfl; have c10 : W.cell? ⟨w.heap.size + 1, 0, none⟩ = some (.int .i64 o2) := b1.cell rfl; have c01 : W.cell? ⟨w.heap.size, 1, none⟩ = some (.slice sa sn sc) := b0.cell rfl; have c11 : W.cell? ⟨w.heap.size + 1, 1, none⟩ = some (.slice ra rn rc) := b1.cell rfl; have hsm := t3.max; have hsle := t3.le; have hrm := u3.max; have hrle := u3.le; have t3' := Lib.hid t3; have t4' := Lib.hid t4; have t5' := Lib.hid t5; have u3' := Lib.hid u3; have u4' := Lib.hid u4; have u5' := Lib.hid u5; have hdl' := Lib.hid hdl; have hel' := Lib.hid hel; have hbW' := Lib.hid hbW; have b0' := Lib.hid b0; have b1' := Lib.hid b1; have hb' := Lib.hid hb; clear t3 t4 t5 u3 u4 u5 hdl hel hbW b0 b1 hb
  go_enter Tryz.func16, Tryz.ntmps16
  go_upto_region 1 with fail
  try rw [hW]
  clear hW
  by_cases hoo : o = o2
  · subst hoo
    have ho : (o != o) = false := by simp
    by_cases hnn : sn = rn
    · subst hnn
      have hne : ((sn : Int) != (sn : Int)) = false := by simp
      go_wp2_with fail
      clear c00 c01 c10 c11
      go_loopw [5] (fun iv wr => ∃ (i : Nat), i ≤ sn ∧ iv = .int .i64 i ∧ Hid (∀ j (h : j < ds.length) (h' : j < es.length), j < i → ds[j] = es[j]) ∧ Hid (Below W.heap.size W wr)) (fun iv _ => sn - (intOf iv).toNat)
      case atStart => exact ⟨0, by omega, rfl, Lib.hid (fun j _ _ h => by omega), Lib.hid (Below.refl _ _)⟩
      case round =>
        obtain ⟨i, hin, rfl, htk, hbR⟩ := hrel; have b03 := b0'.out.late hbR.out; have b13 := b1'.out.late hbR.out; have c01 : wr.cell? ⟨w.heap.size, 1, none⟩ = some (.slice sa sn sc) := b03.cell rfl; have b03' := Lib.hid b03; have b13' := Lib.hid b13; clear b03 b13
        by_cases hi : i < sn
        · have hil : (i : Int) < (sn : Int) := by omega
          have hw1 : IntKind.i64.wrap ((i : Int) + 1) = i + 1 := by rw [IntKind.wrap_i64]; omega
          have hdi : i < dzs.length := by rw [hdl'.out]; exact hi
          have hei : i < ezs.length := by rw [hel'.out]; exact hi
          have hdi2 : i < ds.length := by have := t4'.out; omega
          have hei2 : i < es.length := by have := u4'.out; omega
          obtain ⟨x, o, hsa, hx, fe⟩ := ((t3'.out.mono hbW'.out).mono hbR.out).elem dvC_len (by decide) dzz hi; obtain ⟨x2, o2, hra, hx2, ge⟩ := ((u3'.out.mono hbW'.out).mono hbR.out).elem dvC_len (by decide) dzz hi; have T5b := t5'.out i hdi hdi2; have U5b := u5'.out i hei hei2; rw [getD_el hdi] at fe; rw [getD_el hei] at ge; obtain ⟨⟨z1, z2, z3⟩, hds⟩ : ∃ q, dzs[i] = q := ⟨_, rfl⟩; obtain ⟨⟨q1, q2, q3⟩, hes⟩ : ∃ q, ezs[i] = q := ⟨_, rfl⟩; rw [hds] at fe T5b; rw [hes] at ge U5b; have f1 := fe 0 _ rfl; have f2 := fe 1 _ rfl; have f3 := fe 2 _ rfl; have g1 := ge 0 _ rfl; have g2 := ge 1 _ rfl; have g3 := ge 2 _ rfl; simp only [Nat.add_zero] at f1 f2 f3 g1 g2 g3; subst hsa hra; obtain ⟨Ty, ff, hne, hbel, hsurj⟩ := later_worlds wr; have p0 : ∀ s, (ff s).cell? ⟨w.heap.size, 1, none⟩ = some (.slice (some ⟨x, o, none⟩) sn sc) := fun s => (b03'.out.late (hbel s)).cell rfl; have p1 : ∀ s, (ff s).cell? ⟨w.heap.size + 1, 1, none⟩ = some (.slice (some ⟨x2, o2, none⟩) sn rc) := fun s => (b13'.out.late (hbel s)).cell rfl; have r1 : ∀ s, (ff s).cell? ⟨x, o + i * 3, none⟩ = some z1 := fun s => late (hbel s) hx f1; have r2 : ∀ s, (ff s).cell? ⟨x, o + i * 3 + 1, none⟩ = some z2 := fun s => late (hbel s) hx f2; have r3 : ∀ s, (ff s).cell? ⟨x, o + i * 3 + 2, none⟩ = some z3 := fun s => late (hbel s) hx f3; have k1 : ∀ s, (ff s).cell? ⟨x2, o2 + i * 3, none⟩ = some q1 := fun s => late (hbel s) hx2 g1; have k2 : ∀ s, (ff s).cell? ⟨x2, o2 + i * 3 + 1, none⟩ = some q2 := fun s => late (hbel s) hx2 g2; have k3 : ∀ s, (ff s).cell? ⟨x2, o2 + i * 3 + 2, none⟩ = some q3 := fun s => late (hbel s) hx2 g3; obtain ⟨b', hb'_⟩ : ∃ b' : Bool, (b' = true ↔ ds[i] = es[i]) := by classical exact ⟨decide (ds[i] = es[i]), by simp⟩
          have HG := Lib.hid (fun s => dir_same f ds[i] es[i] (z1, z2, z3) (q1, q2, q3) (ff s) (((T5b.mono hbW'.out).mono hbR.out).mono (hbel s)) (((U5b.mono hbW'.out).mono hbR.out).mono (hbel s)) b' hb'_); simp only at HG; have HS := Lib.hid (hsurj _ ((Below.refl _ _).drew)); clear f1 f2 f3 g1 g2 g3 fe ge hx hx2; have hbel' := Lib.hid hbel; have hsurj' := Lib.hid hsurj; have T5b' := Lib.hid T5b; have U5b' := Lib.hid U5b; have hds' := Lib.hid hds; have hes' := Lib.hid hes; clear hbel hsurj T5b U5b hds hes
          replace hb'_ := Lib.hid hb'_
          cases b' with
          | true =>
            have hnext : Hid (∀ j (h : j < ds.length) (h' : j < es.length), j < i + 1 → ds[j] = es[j]) := Lib.hid (fun j h h' hj => by
              by_cases hji : j < i
              · exact htk.out j h h' hji
              · obtain rfl : j = i := by omega
                exact hb'_.out.1 rfl)
            go_wp2_with fail
            refine wp_quiet_in ff (by kernel_rfl) (by kernel_rfl) HS.out ?_
            iterate 12 (go_big_quiet_step ((go_at_call 49; refine (HG.out _).mono ?_; rintro e w3 ⟨rfl, hb3⟩; exact ⟨rfl, hsurj'.out _ ((hbel'.out _).trans (hb3.mono (hbel'.out _).size))⟩)))
            refine wpQuiet_nil ?_; intro s; have hbs := hbel'.out s; have hbs' := Lib.hid hbs; clear hbs; clear p0 p1 r1 r2 r3 k1 k2 k3
            go_wp2_with fail
            go_roundw
            case rel => exact ⟨i + 1, by omega, by go_num, hnext, Lib.hid (hbR.out.trans (hbs'.out.mono hbR.out.size))⟩
            case measure => simp [intOf]; omega
          | false =>
            obtain rfl : b = false := by
              rw [← Bool.not_eq_true]; intro e; have e2 := (hb'.out.1 e).2; subst e2; have := hb'_.out.2 rfl
              cases this
            go_wp2_with fail
            refine wp_quiet_in ff (by kernel_rfl) (by kernel_rfl) HS.out ?_
            iterate 12 (go_big_quiet_step ((go_at_call 49; refine (HG.out _).mono ?_; rintro e w3 ⟨rfl, hb3⟩; exact ⟨rfl, hsurj'.out _ ((hbel'.out _).trans (hb3.mono (hbel'.out _).size))⟩)))
            refine wpQuiet_nil ?_; intro s; have hbs := hbel'.out s; have hbs' := Lib.hid hbs; clear hbs; clear p0 p1 r1 r2 r3 k1 k2 k3
            go_wp2_with fail
            go_ret
            exact ⟨rfl, hbW'.out.trans ((hbR.out.trans (hbs'.out.mono hbR.out.size)).mono hbW'.out.size)⟩
        · obtain rfl : i = sn := by omega
          obtain rfl : b = true := by
            rw [hb'.out]; exact ⟨by simp, List.ext_getElem (by have := t4'.out; have := u4'.out; have := hdl'.out; have := hel'.out; omega) (fun j h1 h2 => htk.out j h1 h2 (by have := t4'.out; have := hdl'.out; omega))⟩
          go_wp2_with fail
          go_ret
          exact ⟨rfl, hbW'.out.trans (hbR.out.mono hbW'.out.size)⟩
    · have hne : ((sn : Int) != (rn : Int)) = true := by simp; omega
      obtain rfl : b = false := by
        rw [← Bool.not_eq_true]; intro e; have e3 := congrArg List.length (hb'.out.1 e).2; have := t4'.out; have := u4'.out; have := hdl'.out; have := hel'.out
        omega
      go_wp2_with fail
      go_ret
      exact ⟨rfl, hbW'.out⟩
  · have ho : (o != o2) = true := by simpa using hoo
    obtain rfl : b = false := by
      rw [← Bool.not_eq_true]; intro e; exact hoo (hb'.out.1 e).1
    go_wp2_with fail
    go_ret
    exact ⟨rfl, hbW'.out⟩
end Go.Proofs.YtilennmeiaehnaaGreat
