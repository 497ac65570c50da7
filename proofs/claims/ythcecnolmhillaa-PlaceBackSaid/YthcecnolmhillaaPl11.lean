/- Chapter 29: the walk of PlaceTells, given that the examples hold. -/
import Derived.Test.YthcecnolmhillaaPl10
namespace Go.Proofs.Ythcecnolmhillaa
open Go.RowKit Tt
set_option linter.unusedVariables false

/-- the chapter's examples hold -/
def Awake : Prop := ∀ w : World, Calls Try.prog 5 #[] w fun e w' => e = .returned (.bool true) ∧ Below w.heap.size w w'
theorem ints_same (a a' : Option Addr) (n n' c c' : Nat) (x : List Int) (w : World) (hx : Sl w a n c 1 (ints .i64 x)) (hy : Sl w a' n' c' 1 (ints .i64 x)) :
    Calls Try.prog 10 #[.slice a n c, .slice a' n' c'] w fun e w' => e = .returned (.bool true) ∧ Below w.heap.size w w' :=
  (ints_any a a' n n' c c' x x w hx hy).mono fun e w' ⟨h1, h2⟩ => ⟨by rw [h1]; simp, h2.below _⟩
theorem places_same (a a' : Option Addr) (n n' c c' : Nat) (x : List Pl) (w : World) (hx : Sl w a n c 5 (pcs x)) (hy : Sl w a' n' c' 5 (pcs x)) :
    Calls Try.prog 11 #[.slice a n c, .slice a' n' c'] w fun e w' => e = .returned (.bool true) ∧ Below w.heap.size w w' :=
  (places_any a a' n n' c c' x x w hx hy).mono fun e w' ⟨h1, h2⟩ => ⟨by rw [h1]; simp, h2.below _⟩


set_option maxRecDepth 20000 in
set_option maxHeartbeats 8000000 in
theorem tells_walk (HA0 : Awake) (a : Option Addr) (n c : Nat) (xs : List Int) (header size : Int) (a2 : Option Addr) (n2 c2 : Nat) (ps : List Pl) (w : World) (hx : Sl w a n c 1 (ints .i64 xs)) (hp : Sl w a2 n2 c2 5 (pcs ps))
    (hA : ∀ i, i < n2 → -9223372036854775808 ≤ (ps.getD i plz).2.2.1 ∧ (ps.getD i plz).2.2.1 ≤ 9223372036854775807) :
    Calls Try.prog 3 #[.slice a n c, .int .i64 header, .int .i64 size, .slice a2 n2 c2] w fun e w' => e = .returned (.bool true) ∧ Below w.heap.size w w' := by
  obtain ⟨i0, hi, hz0, hz1, hz2⟩ := info_parts info3
  obtain ⟨j0, z0, hj, hjz, hjz1, hjz2, hjz3⟩ := infoP_parts
  have HA := Lib.hid HA0
  have X1 := Lib.hid hx
  have Y1 := Lib.hid hp
  have hxm := hx.max
  have hxl := hx.le
  have hpm := hp.max
  have hpl := hp.le
  clear HA0 hx hp
  have hA' := Lib.hid hA
  clear hA
  by_cases c1 : 100 < n
  · have d1 : decide ((100 : Int) < (n : Int)) = true := by simp; omega
    have d1' : decide (100 < n) = true := by simp; omega
    go_enter Try.func3, Try.ntmps3
    (go_wp2_with (go_at_call 5; refine (HA.out _).mono ?_; rintro e w1 ⟨rfl, hb1⟩; have HB1 := Lib.hid hb1; clear hb1); go_ret; exact ⟨rfl, HB1.out⟩)
  · have d1 : decide ((100 : Int) < (n : Int)) = false := by simp; omega
    have d1' : decide (100 < n) = false := by simp; omega
    by_cases c2' : 100 < n2
    · have d2 : decide ((100 : Int) < (n2 : Int)) = true := by simp; omega
      have d2' : decide (100 < n2) = true := by simp; omega
      go_enter Try.func3, Try.ntmps3
      (go_wp2_with (go_at_call 5; refine (HA.out _).mono ?_; rintro e w1 ⟨rfl, hb1⟩; have HB1 := Lib.hid hb1; clear hb1); go_ret; exact ⟨rfl, HB1.out⟩)
    · have d2 : decide ((100 : Int) < (n2 : Int)) = false := by simp; omega
      have d2' : decide (100 < n2) = false := by simp; omega
      by_cases c3 : 4294967295 < header
      · have d3 : decide (4294967295 < header) = true := by simp; omega
        go_enter Try.func3, Try.ntmps3
        (go_wp2_with (go_at_call 5; refine (HA.out _).mono ?_; rintro e w1 ⟨rfl, hb1⟩; have HB1 := Lib.hid hb1; clear hb1); go_ret; exact ⟨rfl, HB1.out⟩)
      · have d3 : decide (4294967295 < header) = false := by simp; omega
        by_cases c4 : size < 0
        · have d4 : decide (size < 0) = true := by simp; omega
          go_enter Try.func3, Try.ntmps3
          (go_wp2_with (go_at_call 5; refine (HA.out _).mono ?_; rintro e w1 ⟨rfl, hb1⟩; have HB1 := Lib.hid hb1; clear hb1); go_ret; exact ⟨rfl, HB1.out⟩)
        · have d4 : decide (size < 0) = false := by simp; omega
          by_cases c5 : 4294967295 < size
          · have d5 : decide (4294967295 < size) = true := by simp; omega
            go_enter Try.func3, Try.ntmps3
            (go_wp2_with (go_at_call 5; refine (HA.out _).mono ?_; rintro e w1 ⟨rfl, hb1⟩; have HB1 := Lib.hid hb1; clear hb1); go_ret; exact ⟨rfl, HB1.out⟩)
          · have d5 : decide (4294967295 < size) = false := by simp; omega
            by_cases c6 : header < -1099511627776
            · have d6 : decide (header < -1099511627776) = true := by simp; omega
              go_enter Try.func3, Try.ntmps3
              (go_wp2_with (go_at_call 5; refine (HA.out _).mono ?_; rintro e w1 ⟨rfl, hb1⟩; have HB1 := Lib.hid hb1; clear hb1); go_ret; exact ⟨rfl, HB1.out⟩)
            · have d6 : decide (header < -1099511627776) = false := by simp; omega
              clear c1 c2' c3 c4 c5 c6
              have hn : n ≤ 100 := by simpa using d1'
              have hn2 : n2 ≤ 100 := by simpa using d2'
              have hh1 : header ≤ 4294967295 := by simpa using d3
              have hs0 : 0 ≤ size := by simpa using d4
              have hs1 : size ≤ 4294967295 := by simpa using d5
              go_enter Try.func3, Try.ntmps3
              go_wp2_with (first
                | (at_builtin; refine wpList_app rfl _ _ 22 rfl w.heap.size 3 i0 _ 1 8 Try.underlying22 hi hz0 hz1 hz2 rfl (by decide) _ 0 [] rfl (own_new w w.heap.size 3 1 0 #[] (Nat.le_refl _) (by unfold maxLen; omega) rfl) _ n c _ rfl (sl_alloc X1.out _) ints_one (by omega) (by decide) (by simp) ?_; intro a5 c5 w5 ob hb5 hg5; rw [Nat.zero_add] at ob ⊢; rw [List.nil_append] at ob; have X2 := Lib.hid (Sl.of_own ob).1; have HB := Lib.hid (((Below.refl _ _).alloc (Nat.le_refl _) _).trans hb5); have X1 := Lib.hid (X1.out.mono HB.out); have Y1 := Lib.hid (Y1.out.mono HB.out); clear ob hb5 hg5)
                | (at_builtin; refine wpList_app rfl _ _ 23 rfl w5.heap.size 35 j0 z0 5 40 Try.underlying23 hj hjz hjz1 hjz2 hjz3 (by decide) _ 0 [] rfl (own_new w5 w5.heap.size 35 5 0 #[] (Nat.le_refl _) (by unfold maxLen; omega) rfl) _ n2 c2 _ rfl (sl_alloc Y1.out _) pcs_one (by omega) (by decide) (by simp) ?_; intro a6 c6 w6 ob hb6 hg6; rw [Nat.zero_add] at ob ⊢; rw [List.nil_append] at ob; have Y2 := Lib.hid (Sl.of_own ob).1; have hb6' := ((Below.refl w5.heap.size w5).alloc (Nat.le_refl _) _).trans hb6; have HB := Lib.hid (HB.out.trans (hb6'.mono HB.out.size)); have X1 := Lib.hid (X1.out.mono hb6'); have Y1 := Lib.hid (Y1.out.mono hb6'); have X2 := Lib.hid (X2.out.mono hb6'); clear ob hb6 hg6 hb6'))
              refine (starts_any _ _ _ xs _ X2.out (by omega)).mono ?_
              rintro e w7 ⟨a7, n7, c7, rfl, s7, hb'⟩
              have HB := Lib.hid (HB.out.trans (hb'.mono HB.out.size)); have X1 := Lib.hid (X1.out.mono hb'); have X2 := Lib.hid (X2.out.mono hb'); have Y1 := Lib.hid (Y1.out.mono hb'); have Y2 := Lib.hid (Y2.out.mono hb')
              have S7 := Lib.hid s7
              clear s7 hb'
              go_wp2_with fail
              refine (rstarts_any _ _ _ xs _ X1.out (by omega)).mono ?_
              rintro e w8 ⟨a8, n8, c8, rfl, s8, hb'⟩
              have HB := Lib.hid (HB.out.trans (hb'.mono HB.out.size)); have X1 := Lib.hid (X1.out.mono hb'); have X2 := Lib.hid (X2.out.mono hb'); have Y1 := Lib.hid (Y1.out.mono hb'); have Y2 := Lib.hid (Y2.out.mono hb')
              have S7 := Lib.hid (S7.out.mono hb')
              have S8 := Lib.hid s8
              clear s8 hb'
              go_wp2_with fail
              refine (of_any _ _ _ xs header _ _ _ ps _ X2.out Y2.out (by omega) (by omega) hh1).mono ?_
              rintro e w9 ⟨a9, n9, c9, rfl, s9, hb'⟩
              have HB := Lib.hid (HB.out.trans (hb'.mono HB.out.size)); have X1 := Lib.hid (X1.out.mono hb'); have X2 := Lib.hid (X2.out.mono hb'); have Y1 := Lib.hid (Y1.out.mono hb'); have Y2 := Lib.hid (Y2.out.mono hb')
              have S7 := Lib.hid (S7.out.mono hb')
              have S8 := Lib.hid (S8.out.mono hb')
              have S9 := Lib.hid s9
              clear s9 hb'
              go_wp2_with fail
              refine (rof_any _ _ _ xs header _ _ _ ps _ X1.out Y1.out (by omega) (by omega) hh1).mono ?_
              rintro e w10 ⟨a10, n10, c10, rfl, s10, hb'⟩
              have HB := Lib.hid (HB.out.trans (hb'.mono HB.out.size)); have X1 := Lib.hid (X1.out.mono hb'); have X2 := Lib.hid (X2.out.mono hb'); have Y1 := Lib.hid (Y1.out.mono hb'); have Y2 := Lib.hid (Y2.out.mono hb')
              have S7 := Lib.hid (S7.out.mono hb')
              have S8 := Lib.hid (S8.out.mono hb')
              have S9 := Lib.hid (S9.out.mono hb')
              have S10 := Lib.hid s10
              clear s10 hb'
              generalize startsOk xs = ok at *
              generalize ofB xs header ps = okk at *
              go_wp2_with fail
              refine (ints_same _ _ _ _ _ _ _ _ S7.out S8.out).mono ?_
              rintro e w11 ⟨rfl, hb'⟩
              have HB := Lib.hid (HB.out.trans (hb'.mono HB.out.size)); have X1 := Lib.hid (X1.out.mono hb'); have X2 := Lib.hid (X2.out.mono hb'); have Y1 := Lib.hid (Y1.out.mono hb'); have Y2 := Lib.hid (Y2.out.mono hb')
              have S9 := Lib.hid (S9.out.mono hb')
              have S10 := Lib.hid (S10.out.mono hb')
              clear hb'
              go_wp2_with fail
              refine (places_same _ _ _ _ _ _ _ _ S9.out S10.out).mono ?_
              rintro e w12 ⟨rfl, hb'⟩
              have HB := Lib.hid (HB.out.trans (hb'.mono HB.out.size)); have X1 := Lib.hid (X1.out.mono hb'); have X2 := Lib.hid (X2.out.mono hb'); have Y1 := Lib.hid (Y1.out.mono hb'); have Y2 := Lib.hid (Y2.out.mono hb')
              clear hb'
              go_wp2_with fail
              refine (ints_same _ _ _ _ _ _ _ _ X2.out X1.out).mono ?_
              rintro e w13 ⟨rfl, hb'⟩
              have HB := Lib.hid (HB.out.trans (hb'.mono HB.out.size)); have X1 := Lib.hid (X1.out.mono hb'); have X2 := Lib.hid (X2.out.mono hb'); have Y1 := Lib.hid (Y1.out.mono hb'); have Y2 := Lib.hid (Y2.out.mono hb')
              clear hb'
              go_wp2_with fail
              refine (places_same _ _ _ _ _ _ _ _ Y2.out Y1.out).mono ?_
              rintro e w14 ⟨rfl, hb'⟩
              have HB := Lib.hid (HB.out.trans (hb'.mono HB.out.size)); have X1 := Lib.hid (X1.out.mono hb'); have X2 := Lib.hid (X2.out.mono hb'); have Y1 := Lib.hid (Y1.out.mono hb'); have Y2 := Lib.hid (Y2.out.mono hb')
              clear hb'
              by_cases c7 : header < 0
              · have d7 : decide (header < 0) = true := by simp; omega
                go_wp2_with (go_at_call 5; refine (HA.out _).mono ?_; rintro e w1 ⟨rfl, hb1⟩; have HB1 := Lib.hid (HB.out.trans (hb1.mono HB.out.size)); clear hb1)
                go_ret
                exact ⟨rfl, HB1.out⟩
              · have d7 : decide (header < 0) = false := by simp; omega
                go_wp2_with fail
                refine (back_any _ _ _ ps header size _ Y2.out (by omega) (by omega) (by omega) (by omega) (by omega) hA'.out).mono ?_
                rintro e w15 ⟨a15, n15, c15, rfl, s15, hb'⟩
                have HB := Lib.hid (HB.out.trans (hb'.mono HB.out.size)); have X1 := Lib.hid (X1.out.mono hb'); have X2 := Lib.hid (X2.out.mono hb'); have Y1 := Lib.hid (Y1.out.mono hb'); have Y2 := Lib.hid (Y2.out.mono hb')
                have S15 := Lib.hid s15
                clear s15 hb'
                go_wp2_with fail
                refine (rback_any _ _ _ ps header size _ Y1.out (by omega) (by omega) (by omega) (by omega) (by omega)).mono ?_
                rintro e w16 ⟨a16, n16, c16, rfl, s16, hb'⟩
                have HB := Lib.hid (HB.out.trans (hb'.mono HB.out.size)); have X1 := Lib.hid (X1.out.mono hb'); have X2 := Lib.hid (X2.out.mono hb'); have Y1 := Lib.hid (Y1.out.mono hb'); have Y2 := Lib.hid (Y2.out.mono hb')
                have S15 := Lib.hid (S15.out.mono hb')
                have S16 := Lib.hid s16
                clear s16 hb'
                generalize backB ps header size = bk at *
                go_wp2_with fail
                refine (ints_same _ _ _ _ _ _ _ _ S15.out S16.out).mono ?_
                rintro e w17 ⟨rfl, hb'⟩
                have HB := Lib.hid (HB.out.trans (hb'.mono HB.out.size)); have X1 := Lib.hid (X1.out.mono hb'); have X2 := Lib.hid (X2.out.mono hb'); have Y1 := Lib.hid (Y1.out.mono hb'); have Y2 := Lib.hid (Y2.out.mono hb')
                clear hb'
                go_wp2_with (go_at_call 5; refine (HA.out _).mono ?_; rintro e w1 ⟨rfl, hb1⟩; have HB1 := Lib.hid (HB.out.trans (hb1.mono HB.out.size)); clear hb1)
                go_ret
                exact ⟨rfl, HB1.out⟩
end Go.Proofs.Ythcecnolmhillaa
