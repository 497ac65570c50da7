/- Chapter 19: an entry's bytes: the program. | Chapter 21: the writer's spots, entries with a number: the program. -/
import Derived.Test.YtilennmeiaehnaaGreatCo15
namespace Go.Proofs.YtilennmeiaehnaaGreat
open Go.RowKit Tt
set_option linter.unusedVariables false
set_option linter.unusedSimpArgs false

theorem putS_length {n s o : Int} (h : putOk n s o = true) : (putS n s o).length = s.toNat := by
  unfold putS
  rw [if_pos h]
  split <;> simp [leb_len]
def preE (x : Ent) (o k : Int) : List Int :=
  if k = 0 then [] else if k = 1 then putS x.1 2 o else if k = 2 then putS x.1 2 o ++ putS x.2.1 2 o else if k = 3 then putS x.1 2 o ++ putS x.2.1 2 o ++ putS x.2.2.1 4 o else entW x o
def lenE (k : Int) : Nat := if k = 0 then 0 else if k = 1 then 2 else if k = 2 then 4 else if k = 3 then 8 else 12
theorem infoBB : (Tryz.prog.info? 5).map (fun i => (i.zero, i.size, i.bytes)) = some (some (.int .u8 0), 1, 1) := by kernel_rfl
theorem own_ne_blk0 {w : World} {B : Nat} {E T : TypeId} {sz : Nat} {v : Value} {n g : Nat} {xs : List Value} {cs : Array Value} (h : w.ownsRow B E sz v n xs) (hb : Blk w g T cs) (hE : E ≠ T) : v.ownBlock ≠ some g := fun e => by
  rcases h.2 with ⟨rfl, _⟩ | ⟨g', cap, cur, rfl, _, hg, _⟩
  · cases e
  · obtain rfl : g' = g := by injection e
    unfold Blk at hb
    rw [hb] at hg
    injection hg with hg
    injection hg with h1 h2
    exact hE h2.symm
set_option maxRecDepth 20000 in
set_option maxHeartbeats 4000000 in
theorem ewrite_any (x0 x1 x2 x3 o : Int) (w : World) (hok : entOk (x0, x1, x2, x3) o = true) :
    Calls Tryz.prog 86 #[.agg #[.int .i64 x0, .int .i64 x1, .int .i64 x2, .int .i64 x3], .int .i64 o] w fun e w' => ∃ a c, e = .returned (.tuple #[.slice a 12 c, .bool true]) ∧ w'.ownsRow w.heap.size 5 1 (.slice a 12 c) 12 (ints .u8 (entW (x0, x1, x2, x3) o)) ∧ Below w.heap.size w w' := by
  obtain ⟨i0, hi, hz0, hz1, hz2⟩ := info_parts infoBB
  unfold entOk at hok
  simp only [Bool.and_eq_true] at hok
  obtain ⟨W1, hW1, bA, bB, hb1, s1⟩ := two_boxes w 62 #[.int .i64 x0, .int .i64 x1, .int .i64 x2, .int .i64 x3] 197 #[.int .i64 2, .int .i64 2, .int .i64 4, .int .i64 4]
  have hok' := Lib.hid hok
  have bA' := Lib.hid bA
  have bB' := Lib.hid bB
  have hb1' := Lib.hid hb1
  have hW1' := Lib.hid hW1
  clear hok bA bB hb1 hW1
  go_enter Tryz.func86, Tryz.ntmps86
  go_wp2_with fail
  rw [hW1'.out]
  go_loopw [6, 22] (fun v iv wr => ∃ (k : Int) (a : Option Addr) (c : Nat), (k = 0 ∨ k = 1 ∨ k = 2 ∨ k = 3 ∨ k = 4) ∧ iv = .int .i64 k ∧ v = .slice a (lenE k) c ∧ Hid (wr.ownsRow w.heap.size 5 1 (.slice a (lenE k) c) (lenE k) (ints .u8 (preE (x0, x1, x2, x3) o k))) ∧ Hid (Blk wr (w.heap.size + 1) 197 #[.int .i64 2, .int .i64 2, .int .i64 4, .int .i64 4]) ∧ Hid (Below w.heap.size w wr)) (fun _ iv _ => 4 - (intOf iv).toNat)
  case atStart => exact ⟨0, none, 0, .inl rfl, rfl, rfl, Lib.hid (own_nil _ _ _ _), bB', hb1'⟩
  clear bB'
  case round =>
    obtain ⟨k, a, c, hk, rfl, rfl, ho, bB, hb⟩ := hrel
    have ho := ho.out
    have bB := bB.out
    have hb := hb.out
    rcases hk with rfl | rfl | rfl | rfl | rfl
    ·
      have hX : ∀ W, (Instr.index 197 (.agg #[.int .i64 x0, .int .i64 x1, .int .i64 x2, .int .i64 x3]) (.int .i64 0)).run Tryz.prog W = .ok (.int .i64 x0) W := fun W => by kernel_rfl
      have hP := fun W => put_any x0 2 o W
      have hpk : putOk x0 2 o = true := by simp only [hok'.out]
      have hpl := putS_length hpk
      simp only [hpk] at hP
      have hpe : preE (x0, x1, x2, x3) o (0 + 1) = preE (x0, x1, x2, x3) o 0 ++ putS x0 2 o := by simp [preE, entW]
      obtain ⟨by_, hby⟩ : ∃ b, putS x0 2 o = b := ⟨_, rfl⟩
      rw [hby] at hpl hpe
      simp only [hby] at hP
      have c7 : wr.cell? ⟨w.heap.size + 1, 0, none⟩ = some (.int .i64 2) := bB.cell rfl
      have hle : lenE 0 = 0 := by simp [lenE]
      rw [hle] at ho ⊢
      have hP' := Lib.hid hP
      have hpk' := Lib.hid hpk
      have hpe' := Lib.hid hpe
      have hby' := Lib.hid hby
      have bB' := Lib.hid bB
      have hb' := Lib.hid hb
      clear hP hpk hpe hby bB hb
      go_wp2_with fail
      refine (hP'.out _).mono ?_
      rintro e w2 ⟨a2, m2, c2, rfl, ho2, hb2⟩
      have hbl2 : by_.length = m2 := (Sl.of_own ho2).1.ilen
      have hs2 := (Sl.of_own ho2).1
      obtain rfl : m2 = 2 := by rw [← hbl2, hpl]; rfl
      have ho1 := own_later ho hb2
      have bB2 := bB'.out.late hb2
      have hbw2 := hb'.out.trans (hb2.mono hb'.out.size)
      have hsz2 := hbw2.size
      clear c7 hbl2 hpl
      have hs2' := Lib.hid hs2
      have bB2' := Lib.hid bB2
      have hbw2' := Lib.hid hbw2
      have hb2' := Lib.hid hb2
      clear hs2 bB2 hbw2 hb2
      go_wp2_with (at_builtin; refine wpList_app rfl _ _ 30 rfl w.heap.size 5 i0 _ 1 1 Tryz.underlying30 hi hz0 hz1 hz2 rfl (by decide) _ 0 _ rfl ho1 a2 2 c2 (ints .u8 by_) rfl hs2'.out ints_one (by decide) (by decide) hsz2 ?_; intro a5 c5 w5 ob hb5 hg5; have Ob := Lib.hid ob; have Hb5 := Lib.hid (hbw2'.out.trans hb5); have BB5 := Lib.hid (bB2'.out.grown hg5 (own_ne_blk0 ho1 bB2'.out (by decide))); clear ob hb5 hg5)
      go_roundw
      case rel => exact ⟨0 + 1, a5, c5, by decide, rfl, rfl, Lib.hid (by rw [hpe'.out, ints_append]; exact Ob.out), BB5, Hb5⟩
      case measure => simp [intOf]
    ·
      have hX : ∀ W, (Instr.index 197 (.agg #[.int .i64 x0, .int .i64 x1, .int .i64 x2, .int .i64 x3]) (.int .i64 1)).run Tryz.prog W = .ok (.int .i64 x1) W := fun W => by kernel_rfl
      have hP := fun W => put_any x1 2 o W
      have hpk : putOk x1 2 o = true := by simp only [hok'.out]
      have hpl := putS_length hpk
      simp only [hpk] at hP
      have hpe : preE (x0, x1, x2, x3) o (1 + 1) = preE (x0, x1, x2, x3) o 1 ++ putS x1 2 o := by simp [preE, entW]
      obtain ⟨by_, hby⟩ : ∃ b, putS x1 2 o = b := ⟨_, rfl⟩
      rw [hby] at hpl hpe
      simp only [hby] at hP
      have c7 : wr.cell? ⟨w.heap.size + 1, 1, none⟩ = some (.int .i64 2) := bB.cell rfl
      have hle : lenE 1 = 2 := by simp [lenE]
      rw [hle] at ho ⊢
      have hP' := Lib.hid hP
      have hpk' := Lib.hid hpk
      have hpe' := Lib.hid hpe
      have hby' := Lib.hid hby
      have bB' := Lib.hid bB
      have hb' := Lib.hid hb
      clear hP hpk hpe hby bB hb
      go_wp2_with fail
      refine (hP'.out _).mono ?_
      rintro e w2 ⟨a2, m2, c2, rfl, ho2, hb2⟩
      have hbl2 : by_.length = m2 := (Sl.of_own ho2).1.ilen
      have hs2 := (Sl.of_own ho2).1
      obtain rfl : m2 = 2 := by rw [← hbl2, hpl]; rfl
      have ho1 := own_later ho hb2
      have bB2 := bB'.out.late hb2
      have hbw2 := hb'.out.trans (hb2.mono hb'.out.size)
      have hsz2 := hbw2.size
      clear c7 hbl2 hpl
      have hs2' := Lib.hid hs2
      have bB2' := Lib.hid bB2
      have hbw2' := Lib.hid hbw2
      have hb2' := Lib.hid hb2
      clear hs2 bB2 hbw2 hb2
      go_wp2_with (at_builtin; refine wpList_app rfl _ _ 30 rfl w.heap.size 5 i0 _ 1 1 Tryz.underlying30 hi hz0 hz1 hz2 rfl (by decide) _ 2 _ rfl ho1 a2 2 c2 (ints .u8 by_) rfl hs2'.out ints_one (by decide) (by decide) hsz2 ?_; intro a5 c5 w5 ob hb5 hg5; have Ob := Lib.hid ob; have Hb5 := Lib.hid (hbw2'.out.trans hb5); have BB5 := Lib.hid (bB2'.out.grown hg5 (own_ne_blk0 ho1 bB2'.out (by decide))); clear ob hb5 hg5)
      go_roundw
      case rel => exact ⟨1 + 1, a5, c5, by decide, rfl, rfl, Lib.hid (by rw [hpe'.out, ints_append]; exact Ob.out), BB5, Hb5⟩
      case measure => simp [intOf]
    ·
      have hX : ∀ W, (Instr.index 197 (.agg #[.int .i64 x0, .int .i64 x1, .int .i64 x2, .int .i64 x3]) (.int .i64 2)).run Tryz.prog W = .ok (.int .i64 x2) W := fun W => by kernel_rfl
      have hP := fun W => put_any x2 4 o W
      have hpk : putOk x2 4 o = true := by simp only [hok'.out]
      have hpl := putS_length hpk
      simp only [hpk] at hP
      have hpe : preE (x0, x1, x2, x3) o (2 + 1) = preE (x0, x1, x2, x3) o 2 ++ putS x2 4 o := by simp [preE, entW]
      obtain ⟨by_, hby⟩ : ∃ b, putS x2 4 o = b := ⟨_, rfl⟩
      rw [hby] at hpl hpe
      simp only [hby] at hP
      have c7 : wr.cell? ⟨w.heap.size + 1, 2, none⟩ = some (.int .i64 4) := bB.cell rfl
      have hle : lenE 2 = 4 := by simp [lenE]
      rw [hle] at ho ⊢
      have hP' := Lib.hid hP
      have hpk' := Lib.hid hpk
      have hpe' := Lib.hid hpe
      have hby' := Lib.hid hby
      have bB' := Lib.hid bB
      have hb' := Lib.hid hb
      clear hP hpk hpe hby bB hb
      go_wp2_with fail
      refine (hP'.out _).mono ?_
      rintro e w2 ⟨a2, m2, c2, rfl, ho2, hb2⟩
      have hbl2 : by_.length = m2 := (Sl.of_own ho2).1.ilen
      have hs2 := (Sl.of_own ho2).1
      obtain rfl : m2 = 4 := by rw [← hbl2, hpl]; rfl
      have ho1 := own_later ho hb2
      have bB2 := bB'.out.late hb2
      have hbw2 := hb'.out.trans (hb2.mono hb'.out.size)
      have hsz2 := hbw2.size
      clear c7 hbl2 hpl
      have hs2' := Lib.hid hs2
      have bB2' := Lib.hid bB2
      have hbw2' := Lib.hid hbw2
      have hb2' := Lib.hid hb2
      clear hs2 bB2 hbw2 hb2
      go_wp2_with (at_builtin; refine wpList_app rfl _ _ 30 rfl w.heap.size 5 i0 _ 1 1 Tryz.underlying30 hi hz0 hz1 hz2 rfl (by decide) _ 4 _ rfl ho1 a2 4 c2 (ints .u8 by_) rfl hs2'.out ints_one (by decide) (by decide) hsz2 ?_; intro a5 c5 w5 ob hb5 hg5; have Ob := Lib.hid ob; have Hb5 := Lib.hid (hbw2'.out.trans hb5); have BB5 := Lib.hid (bB2'.out.grown hg5 (own_ne_blk0 ho1 bB2'.out (by decide))); clear ob hb5 hg5)
      go_roundw
      case rel => exact ⟨2 + 1, a5, c5, by decide, rfl, rfl, Lib.hid (by rw [hpe'.out, ints_append]; exact Ob.out), BB5, Hb5⟩
      case measure => simp [intOf]
    ·
      have hX : ∀ W, (Instr.index 197 (.agg #[.int .i64 x0, .int .i64 x1, .int .i64 x2, .int .i64 x3]) (.int .i64 3)).run Tryz.prog W = .ok (.int .i64 x3) W := fun W => by kernel_rfl
      have hP := fun W => put_any x3 4 o W
      have hpk : putOk x3 4 o = true := by simp only [hok'.out]
      have hpl := putS_length hpk
      simp only [hpk] at hP
      have hpe : preE (x0, x1, x2, x3) o (3 + 1) = preE (x0, x1, x2, x3) o 3 ++ putS x3 4 o := by simp [preE, entW]
      obtain ⟨by_, hby⟩ : ∃ b, putS x3 4 o = b := ⟨_, rfl⟩
      rw [hby] at hpl hpe
      simp only [hby] at hP
      have c7 : wr.cell? ⟨w.heap.size + 1, 3, none⟩ = some (.int .i64 4) := bB.cell rfl
      have hle : lenE 3 = 8 := by simp [lenE]
      rw [hle] at ho ⊢
      have hP' := Lib.hid hP
      have hpk' := Lib.hid hpk
      have hpe' := Lib.hid hpe
      have hby' := Lib.hid hby
      have bB' := Lib.hid bB
      have hb' := Lib.hid hb
      clear hP hpk hpe hby bB hb
      go_wp2_with fail
      refine (hP'.out _).mono ?_
      rintro e w2 ⟨a2, m2, c2, rfl, ho2, hb2⟩
      have hbl2 : by_.length = m2 := (Sl.of_own ho2).1.ilen
      have hs2 := (Sl.of_own ho2).1
      obtain rfl : m2 = 4 := by rw [← hbl2, hpl]; rfl
      have ho1 := own_later ho hb2
      have bB2 := bB'.out.late hb2
      have hbw2 := hb'.out.trans (hb2.mono hb'.out.size)
      have hsz2 := hbw2.size
      clear c7 hbl2 hpl
      have hs2' := Lib.hid hs2
      have bB2' := Lib.hid bB2
      have hbw2' := Lib.hid hbw2
      have hb2' := Lib.hid hb2
      clear hs2 bB2 hbw2 hb2
      go_wp2_with (at_builtin; refine wpList_app rfl _ _ 30 rfl w.heap.size 5 i0 _ 1 1 Tryz.underlying30 hi hz0 hz1 hz2 rfl (by decide) _ 8 _ rfl ho1 a2 4 c2 (ints .u8 by_) rfl hs2'.out ints_one (by decide) (by decide) hsz2 ?_; intro a5 c5 w5 ob hb5 hg5; have Ob := Lib.hid ob; have Hb5 := Lib.hid (hbw2'.out.trans hb5); have BB5 := Lib.hid (bB2'.out.grown hg5 (own_ne_blk0 ho1 bB2'.out (by decide))); clear ob hb5 hg5)
      go_roundw
      case rel => exact ⟨3 + 1, a5, c5, by decide, rfl, rfl, Lib.hid (by rw [hpe'.out, ints_append]; exact Ob.out), BB5, Hb5⟩
      case measure => simp [intOf]
    · have e12 : lenE 4 = 12 := by decide
      rw [e12] at ho ⊢
      have bB' := Lib.hid bB
      have hb' := Lib.hid hb
      clear bB hb
      go_wp2_with fail
      refine bodyPost_ret (results_tmp2 rfl _ _ _) rfl ?_
      exact ⟨a, c, rfl, by simpa [preE] using ho, hb'.out⟩
end Go.Proofs.YtilennmeiaehnaaGreat

namespace Go.Proofs.YtilennmeiaehnaaGreat
open Go.RowKit Tt
set_option linter.unusedVariables false
set_option linter.unusedSimpArgs false

theorem long21_any (t n : Int) (w : World) : Calls Tryz.prog 81 #[.int .i64 t, .int .i64 n] w fun e w' => e = .returned (.agg #[.int .i64 t, .int .i64 4, .int .i64 1, .int .i64 n]) ∧ Below w.heap.size w w' := by
  have hb1 := (Below.refl w.heap.size w).alloc (Nat.le_refl _) (.cells #[.int .i64 t, .int .i64 4, .int .i64 1, .int .i64 n] 62)
  have b1 := Blk.new w 62 #[.int .i64 t, .int .i64 4, .int .i64 1, .int .i64 n]
  have hb1' := Lib.hid hb1
  have b1' := Lib.hid b1
  clear hb1 b1
  go_enter Tryz.func81, Tryz.ntmps81
  go_wp2_with fail
  refine bodyPost_ret (results_cell_row rfl _ _ w.heap.size 62 #[.int .i64 t, .int .i64 4, .int .i64 1, .int .i64 n] (0, 0) _ rfl b1'.out Tryz.underlying62 rfl (by kernel_rfl)) rfl ?_
  exact ⟨rfl, hb1'.out⟩
set_option maxHeartbeats 1000000 in
theorem spot1_any (g0 g1 g2 : Nat) (what no tag : Int) (x : Spt) (w : World) (h0 : w.cell? ⟨g0, 0, none⟩ = some (.int .i64 what)) (h1 : w.cell? ⟨g1, 0, none⟩ = some (.int .i64 no)) (h2 : w.cell? ⟨g2, 0, none⟩ = some (.int .i64 tag)) (l0 : g0 < w.heap.size) (l1 : g1 < w.heap.size) (l2 : g2 < w.heap.size) :
    Calls Tryz.prog 131 #[.agg (spC x).toArray, .pointer (some ⟨g0, 0, none⟩), .pointer (some ⟨g1, 0, none⟩), .pointer (some ⟨g2, 0, none⟩)] w fun e w' => e = .returned (.bool (atP what no tag x)) ∧ Below w.heap.size w w' := by
  obtain ⟨x0, x1, x2, x3, x4⟩ := x
  have hb1 := (Below.refl w.heap.size w).alloc (Nat.le_refl _) (.cells #[.int .i64 x0, .int .i64 x1, .int .i64 x2, .int .i64 x3, .int .i64 x4] 57)
  have e : atP what no tag (x0, x1, x2, x3, x4) = (x0 == what && x1 == no && x2 == tag) := rfl
  rw [e]
  simp only [spC]
  obtain ⟨b0, hb0⟩ : ∃ b, (x0 == what) = b := ⟨_, rfl⟩
  obtain ⟨b1, hbb⟩ : ∃ b, (x1 == no) = b := ⟨_, rfl⟩
  obtain ⟨b2, hb2⟩ : ∃ b, (x2 == tag) = b := ⟨_, rfl⟩
  rw [hb0, hbb, hb2]
  clear e
  have hb1' := Lib.hid hb1
  clear hb1
  cases b0
  · go_enter Tryz.func131, Tryz.ntmps131
    go_wp2_with fail
    go_ret
    exact ⟨rfl, hb1'.out⟩
  · cases b1
    · go_enter Tryz.func131, Tryz.ntmps131
      go_wp2_with fail
      go_ret
      exact ⟨rfl, hb1'.out⟩
    · go_enter Tryz.func131, Tryz.ntmps131
      go_wp2_with fail
      go_ret
      exact ⟨rfl, hb1'.out⟩
set_option maxHeartbeats 1000000 in
theorem sidx_any (caps : Array Value) (a : Option Addr) (n c : Nat) (ls : List Spt) (p : Spt → Bool) (w : World) (hs : Sl w a n c 5 (fl spC ls))
    (hc : ∀ W (x : Spt), Below w.heap.size w W → Calls Tryz.prog 131 (#[.agg (spC x).toArray] ++ caps) W fun e W' => e = .returned (.bool (p x)) ∧ Below W.heap.size W W') :
    Calls Tryz.prog 130 #[.slice a n c, .func (.func 131) #[] caps] w fun e w' => e = .returned (.int .i64 (fst p ls)) ∧ Below w.heap.size w w' := by
  have hl := hs.flen spC_len (by decide)
  have hm := hs.max
  have hle := hs.le
  have hs' := Lib.hid hs
  have hc' := Lib.hid hc
  have hl' := Lib.hid hl
  clear hs hc hl
  go_enter Tryz.func130, Tryz.ntmps130
  go_wp2
  go_loopw [8] (fun iv wr => ∃ k : Nat, k ≤ n ∧ iv = .int .i64 k ∧ Hid (∀ i (hi : i < ls.length), i < k → p ls[i] = false) ∧ Hid (Below w.heap.size w wr)) (fun iv _ => n - (intOf iv).toNat)
  case atStart => exact ⟨0, by omega, rfl, Lib.hid (fun j _ hj => by omega), Lib.hid (Below.refl _ _)⟩
  case round =>
    obtain ⟨k, hk, rfl, hall, hb⟩ := hrel
    by_cases hlt : k < n
    · have hww : IntKind.i64.wrap ((k : Int) + 1) = k + 1 := by rw [IntKind.wrap_i64]; omega
      have hkl : k < ls.length := by rw [hl'.out]; exact hlt
      obtain ⟨b, o, rfl, hbb, f⟩ := (hs'.out.mono hb.out).elem spC_len (by decide) (0, 0, 0, 0, 0) hlt
      rw [getD_el hkl] at f
      obtain ⟨r, hr⟩ : ∃ r, p (ls[k]'hkl) = r := ⟨_, rfl⟩
      have HC := hc'.out wr (ls[k]'hkl) hb.out
      rw [hr] at HC
      obtain ⟨⟨x0, x1, x2, x3, x4⟩, hx⟩ : ∃ x, ls[k]'hkl = x := ⟨_, rfl⟩
      rw [hx] at HC f
      have f0 := f 0 _ rfl
      have f1 := f 1 _ rfl
      have f2 := f 2 _ rfl
      have f3 := f 3 _ rfl
      have f4 := f 4 _ rfl
      clear f
      simp only [spC, Nat.add_zero] at f0 f1 f2 f3 f4 HC
      have HC' := Lib.hid HC
      have hr' := Lib.hid hr
      have hx' := Lib.hid hx
      clear HC hr hx
      go_wp2_with fail
      refine HC'.out.mono ?_
      rintro e w2 ⟨rfl, hb2⟩
      have hbw := hb.out.trans (hb2.mono hb.out.size)
      clear hb2
      cases r with
      | true =>
        have hbw' := Lib.hid hbw
        clear hbw
        go_wp2
        go_ret
        exact ⟨by rw [fst_at hkl hr'.out (fun i hi => hall.out i (by omega) hi)]; rfl, hbw'.out⟩
      | false =>
        have hall2 : ∀ i (hi : i < ls.length), i < k + 1 → p ls[i] = false := fun i hi h => by
          rcases Nat.lt_or_ge i k with h1 | h1
          · exact hall.out i hi h1
          · obtain rfl : i = k := by omega
            exact hr'.out
        have hbw' := Lib.hid hbw
        have hall2' := Lib.hid hall2
        clear hbw hall2
        go_wp2
        go_roundw
        case rel => exact ⟨k + 1, by omega, by go_num, hall2', hbw'⟩
        case measure => simp [intOf]; omega
    · obtain rfl : k = n := by omega
      go_wp2
      go_ret
      exact ⟨by rw [fst_no (fun i hi => hall.out i hi (by rw [hl'.out] at hi; exact hi))]; rfl, hb.out⟩
set_option maxHeartbeats 2000000 in
theorem wspot_any (K : Wc) (w : World) (no : Int) (P : List Int) (h : WrS K w no P) (what dir tag : Int) (hf : K.l.any (atP what dir tag) = true) :
    Calls Tryz.prog 82 #[.pointer (some ⟨K.gw, 0, none⟩), .int .i64 what, .int .i64 dir, .int .i64 tag] w fun e w' => e = .returned (.int .i64 (atS K.l what dir tag)) ∧ Below w.heap.size w w' := by
  obtain ⟨W1, hW1, b0, b1, b2, hb1, s1⟩ := three_boxes w 3 #[.int .i64 what] 3 #[.int .i64 dir] 3 #[.int .i64 tag]
  have h1 := h.later hb1
  have hI := sidx_any #[.pointer (some ⟨w.heap.size, 0, none⟩), .pointer (some ⟨w.heap.size + 1, 0, none⟩), .pointer (some ⟨w.heap.size + 2, 0, none⟩)] K.spa K.spn K.spc K.l (atP what dir tag) W1 h1.sp
    (fun W x hb => spot1_any _ _ _ what dir tag x W (late hb b0.lt (b0.cell rfl)) (late hb b1.lt (b1.cell rfl)) (late hb b2.lt (b2.cell rfl)) (Nat.lt_of_lt_of_le b0.lt hb.size) (Nat.lt_of_lt_of_le b1.lt hb.size) (Nat.lt_of_lt_of_le b2.lt hb.size))
  obtain ⟨s, hs1, hs2, hs3⟩ := find_any hf
  have hat : atS K.l what dir tag = s.2.2.2.1 := by unfold atS; rw [hs1]
  rw [hat]
  have hlen := h1.sp.flen spC_len (by decide)
  have hmx := h1.sp.max
  have hle := h1.sp.le
  obtain ⟨k, hk⟩ : ∃ k : Nat, fst (atP what dir tag) K.l = k := ⟨(fst (atP what dir tag) K.l).toNat, by omega⟩
  rw [hk] at hI hs2
  rw [Int.toNat_natCast] at hs2
  obtain ⟨hkl, hks⟩ := List.getElem?_eq_some_iff.1 hs2
  have hkn : k < K.spn := by rw [← hlen]; exact hkl
  have hkn2 : (k : Int) < (K.spn : Int) := by omega
  have hkn3 : (0 : Int) ≤ (k : Int) := by omega
  have c2 : W1.cell? ⟨K.gw, 2, none⟩ = some (.slice K.spa K.spn K.spc) := h1.blk.cell rfl
  rw [← hW1] at c2 hI
  clear hs3
  have h' := Lib.hid h
  have h1' := Lib.hid h1
  have b0' := Lib.hid b0
  have b1' := Lib.hid b1
  have b2' := Lib.hid b2
  have hb1' := Lib.hid hb1
  have hI' := Lib.hid hI
  have hs1' := Lib.hid hs1
  have hs2' := Lib.hid hs2
  have hlen' := Lib.hid hlen
  have hk' := Lib.hid hk
  have hks' := Lib.hid hks
  have hW1' := Lib.hid hW1
  have hat' := Lib.hid hat
  have hf' := Lib.hid hf
  clear h h1 b0 b1 b2 hb1 hI hs1 hs2 hlen hk hks hW1 hat hf
  go_enter Tryz.func82, Tryz.ntmps82
  go_wp2_with fail
  refine hI'.out.mono ?_
  rw [hW1'.out]
  rintro e w2 ⟨rfl, hb2⟩
  have h2 := h1'.out.later hb2
  clear c2
  have c2 : w2.cell? ⟨K.gw, 2, none⟩ = some (.slice K.spa K.spn K.spc) := h2.blk.cell rfl
  obtain ⟨b, o, e, hlt, fe⟩ := h2.sp.elem spC_len (by decide) (0, 0, 0, 0, 0) hkn
  rw [getD_el (by rw [hlen'.out]; exact hkn), hks'.out] at fe
  have f3 := fe 3 _ rfl
  clear fe
  have hbw := hb1'.out.trans (hb2.mono hb1'.out.size)
  have h2' := Lib.hid h2
  have hb2' := Lib.hid hb2
  have hbw' := Lib.hid hbw
  clear h2 hb2 hbw
  rw [e] at c2
  go_wp2_with fail
  go_ret
  exact ⟨rfl, hbw'.out⟩
end Go.Proofs.YtilennmeiaehnaaGreat
