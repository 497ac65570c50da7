import Derived.Test.YtgmcnjnkiblbjaaDoorIccF
import Derived.Test.YtgmcnjnkiblbjaaDoorL3
namespace Go.Proofs.YtgmcnjnkiblbjaaDoor
open Go.RowKit Tt
set_option linter.unusedVariables false

theorem zero5 : ∀ w, (zeroValue 5).run Tryd.prog w = .ok (.int .u8 0) w := fun w => by kernel_rfl

/-- rows of the call's own, whatever they hold -/
structure Rc (w : World) (B : Nat) (a : Option Addr) (n c : Nat) (vs : List Value) : Prop where
  own : w.ownsRow B 22 1 (.slice a n c) n vs
  rows : ∀ i, i < n → ∃ a' n' c' xs, vs[i]? = some (.slice a' n' c') ∧ w.ownsRow B 5 1 (.slice a' n' c') n' xs
theorem Ro.rc {w : World} {B : Nat} {a : Option Addr} {n c : Nat} {ls : List (List Int)} (h : Ro w B a n c ls) : ∃ vs, Rc w B a n c vs := by
  obtain ⟨⟨vs, h1, h2⟩, h3⟩ := h
  exact ⟨vs, h1, fun i hi => by obtain ⟨a', n', c', e, ho⟩ := h2 i hi; exact ⟨a', n', c', _, e, ho⟩⟩
theorem Rc.later {w w' : World} {B : Nat} {a : Option Addr} {n c : Nat} {vs : List Value} (h : Rc w B a n c vs) (hb : Below w.heap.size w w') : Rc w' B a n c vs :=
  ⟨own_later h.own hb, fun i hi => by obtain ⟨a', n', c', xs, e, ho⟩ := h.rows i hi; exact ⟨a', n', c', xs, e, own_later ho hb⟩⟩
theorem Rc.cleared {w w' : World} {B : Nat} {a : Option Addr} {n c : Nat} {vs : List Value} (h : Rc w B a n c vs) {v : Value} {m : Nat} {xs : List Value} (hv : w.ownsRow B 5 1 v m xs)
    (hw : w' = w ∨ ∃ g cs, v.ownBlock = some g ∧ B ≤ g ∧ w' = w.setCells g 0 cs) : Rc w' B a n c vs := by
  rcases hw with rfl | ⟨g, cs, hg, _, rfl⟩
  · exact h
  · exact ⟨own_kept h.own hv (by decide) hg 0 cs, fun i hi => by
      obtain ⟨a', n', c', ys, e, ho⟩ := h.rows i hi
      obtain ⟨zs, hz⟩ := own_cleared ho g 0 cs
      exact ⟨a', n', c', zs, e, hz⟩⟩
theorem below_cleared {W w w' : World} {B : Nat} {v : Value} (hb : Below B W w) (hw : w' = w ∨ ∃ g cs, v.ownBlock = some g ∧ B ≤ g ∧ w' = w.setCells g 0 cs) : Below B W w' := by
  rcases hw with rfl | ⟨g, cs, _, hg, rfl⟩
  · exact hb
  · exact below_cells g hg cs 0 hb

set_option maxHeartbeats 2000000 in
theorem cuts_any (n seed : Int) (a : Option Addr) (m c : Nat) (x : List Int) (a2 : Option Addr) (m2 c2 : Nat) (b : List Int) (size : Int) (w : World) (hn1 : -9223372036854775808 ≤ n) (hn2 : n ≤ 9223372036854775807) (hsz : size ≤ 9223372036854775807)
    (hx : Sl w a m c 1 (ints .u8 x)) (bx : Byt x) (hb : Sl w a2 m2 c2 1 (ints .u8 b)) (bb : Byt b) :
    Calls Tryd.prog 3 #[.int .i64 n, .int .i64 seed, .slice a m c, .slice a2 m2 c2, .int .i64 size] w fun e w' => e = .returned (.bool true) ∧ Below w.heap.size w w' := by
  have Hx := Lib.hid hx
  have Bx := Lib.hid bx
  have Hb := Lib.hid hb
  have Bb := Lib.hid bb
  have Hsz := Lib.hid hsz
  clear hx bx hb bb hsz
  go_enter Tryd.func3, Tryd.ntmps3
  go_wp2_with fail
  refine (long_any n seed a m c x w hn1 hn2 Hx.out Bx.out).mono ?_
  rintro e w1 ⟨g, L, p, rfl, hg, hr1, hpl, bp, hL, hb1⟩
  have hs1 := (Sl.of_own (hr1.own hpl hg (by unfold maxLen; omega))).1
  have Bp := Lib.hid bp
  have hL2 : L ≤ 140737488355328 := by omega
  clear hr1 bp hL
  go_wp2_with fail
  refine (own_any _ L L p w1 hs1 hL2).mono ?_
  rintro e w2 ⟨a3, c3, rfl, ho2, hb2⟩
  have hs2 := (Sl.of_own ho2).1
  have hB2 := hb1.trans (hb2.mono hb1.size)
  have hp2 := hs1.mono hb2
  clear hs1 ho2 hb1 hb2
  go_wp2_with fail
  refine (cut_any a3 L c3 p w2 hs2 Bp.out hL2).mono ?_
  rintro e w3 ⟨a4, n4, c4, rfl, hr4, hb3⟩
  have hp3 := hp2.mono hb3
  go_wp2_with fail
  refine (rcut_any _ L L p w3 hp3 hL2).mono ?_
  rintro e w4 ⟨a5, n5, c5, rfl, hr5, hb4⟩
  have hr4' := hr4.later hb4
  have hBc : Below w2.heap.size w2 w4 := hb3.trans (hb4.mono hb3.size)
  clear hr4 hb3 hb4 hp3
  have hself : ((cutS p).1 == (cutS p).1) = true := by simp
  have hsame : ((cutS p).2 != (cutS p).2) = false := by simp
  have Hself := Lib.hid hself
  have Hr4 := Lib.hid hr4'
  have Hp2 := Lib.hid hp2
  have Hs2 := Lib.hid hs2
  clear hself hp2 hs2
  have hrows := rows_any a4 a5 n4 n5 c4 c5 _ _ w4 hr4'.rs hr5.rs
  rw [Hself.out] at hrows
  clear hr5 hr4'
  generalize (cutS p).2 = ev at *
  go_wp2_with (go_at_call 11; refine hrows.mono ?_; rintro e w5 ⟨rfl, hq⟩)
  obtain ⟨vs, hrc⟩ := (Hr4.out.later (hq.below _)).rc
  have hB5 := hBc.trans (hq.below _)
  clear hq hBc hrows hsame Hr4 Hself
  go_loopw [17] (fun i wr => ∃ k : Nat, k ≤ n4 ∧ i = .int .i64 k ∧ Rc wr w2.heap.size a4 n4 c4 vs ∧ Below w2.heap.size w2 wr) (fun i _ => n4 - (intOf i).toNat)
  case atStart => exact ⟨0, by omega, rfl, hrc, hB5⟩
  case round =>
    obtain ⟨k, hk, rfl, hrk, hbk⟩ := hrel
    by_cases hlt : k < n4
    · obtain ⟨a6, n6, c6, xs, e6, ho6⟩ := hrk.rows k hlt
      obtain ⟨b4, o4, rfl, hlt4, hcell⟩ := (Sl.of_own hrk.own).1.at hlt
      have f4 := hcell k _ e6
      have hn4 : n4 ≤ 9223372036854775807 := Nat.le_trans (Sl.of_own hrk.own).1.le (Sl.of_own hrk.own).1.max
      have Hrk := Lib.hid hrk
      have Ho6 := Lib.hid ho6
      clear hcell hrk ho6 e6
      go_wp2_with (refine wpList_clear rfl (.tmp 52) 22 rfl rfl 5 (.int .u8 0) Tryd.underlying22 zero5 rfl rfl a6 n6 c6 w2.heap.size xs rfl Ho6.out ?_; intro w6 hw6)
      go_roundw
      case rel => exact ⟨k + 1, by omega, by go_num, Hrk.out.cleared Ho6.out hw6, below_cleared hbk hw6⟩
      case measure => simp [intOf]; omega
    · have hE := hB2.trans (hbk.mono hB2.size)
      have hpp : (p == p) = true := by simp
      have hs1 := same_any a3 (some ⟨g, 0, none⟩) L L c3 L p p wr (Hs2.out.mono hbk) (Hp2.out.mono hbk)
      rw [hpp] at hs1
      have hB2' := Lib.hid hB2
      clear hpp hB2 hbk Hs2 Hp2 hrk
      have hE2 := Lib.hid hE
      go_wp2_with fail
      refine hs1.mono ?_
      rintro e w6 ⟨rfl, hq6⟩
      have hE6 := hE.trans (hq6.below _)
      clear hs1 hq6
      have hbs := Hb.out.mono hE6
      go_wp2_with fail
      refine (is_any a2 m2 c2 b w6 hbs Bb.out).mono ?_
      rintro e w7 ⟨rfl, hb7⟩
      have hbs7 := hbs.mono hb7
      go_wp2_with fail
      refine (ris_any a2 m2 c2 b w7 hbs7).mono ?_
      rintro e w8 ⟨rfl, hb8⟩
      have hE8 := hE6.trans ((hb7.trans (hb8.mono hb7.size)).mono hE6.size)
      have hii : (isB b == isB b) = true := by simp
      clear hb7 hb8 hbs hbs7 hE6 hE hE2
      generalize isB b = u at *
      by_cases hgt : 1152921504606846976 < size
      · go_wp2_with fail
        refine (awake_any w8).mono ?_
        rintro e w9 ⟨rfl, hb9⟩
        go_wp2
        go_ret
        exact ⟨ret_bool rfl, hE8.trans (hb9.mono hE8.size)⟩
      · have hcc : (cnt size == cnt size) = true := by simp
        have H1 := count_any size w8 Hsz.out
        have H2 := rcount_any size w8 Hsz.out
        generalize cnt size = cs at *
        go_wp2_with (first | (go_at_call 15; refine H1.mono ?_; rintro e w9 ⟨rfl, rfl⟩) | (go_at_call 16; refine H2.mono ?_; rintro e w9 ⟨rfl, rfl⟩))
        refine (awake_any w8).mono ?_
        rintro e w9 ⟨rfl, hb9⟩
        go_wp2
        go_ret
        exact ⟨ret_bool rfl, hE8.trans (hb9.mono hE8.size)⟩
end Go.Proofs.YtgmcnjnkiblbjaaDoor
