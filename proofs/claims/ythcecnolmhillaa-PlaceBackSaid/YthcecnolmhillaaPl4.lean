/- Chapter 29: the document's Starts. -/
import Derived.Test.YthcecnolmhillaaPl3
import Derived.Test.YthcecnolmhillaaL8
namespace Go.Proofs.Ythcecnolmhillaa
open Go.RowKit Tt
set_option linter.unusedVariables false

set_option maxRecDepth 20000 in
set_option maxHeartbeats 2000000 in
theorem rstarts_any (a : Option Addr) (n c : Nat) (xs : List Int) (w : World) (hs : Sl w a n c 1 (ints .i64 xs)) (hl : n ≤ 1000000) :
    Calls Try.prog 7 #[.slice a n c] w fun e w' => ∃ a' n' c', e = .returned (.tuple #[.slice a' n' c', .bool (startsOk xs)]) ∧ Sl w' a' n' c' 1 (ints .i64 (startsV xs)) ∧ Below w.heap.size w w' := by
  obtain ⟨i0, hi, hz0, hz1, hz2⟩ := info_parts info3
  have hxl := hs.ilen
  have hle := hs.le
  have hmx := hs.max
  have Hxl := Lib.hid hxl
  have Hs := Lib.hid hs
  clear hs hxl
  obtain ⟨ok, hok⟩ : ∃ ok, startsOk xs = ok := ⟨_, rfl⟩
  obtain ⟨V, hV⟩ : ∃ V, startsV xs = V := ⟨_, rfl⟩
  rw [hok, hV]
  have Hok := Lib.hid hok
  have HV := Lib.hid hV
  clear hok hV
  go_enter Try.func7, Try.ntmps7
  go_wp2
  go_loopw [4, 5] (fun v i wr => ∃ (k : Nat) (a4 : Option Addr) (c4 : Nat), k ≤ n ∧ v = .slice a4 (k + 1) c4 ∧ i = .int .i64 k ∧ Hid (okTo xs k) ∧ Hid (wr.ownsRow w.heap.size 3 1 (.slice a4 (k + 1) c4) (k + 1) (ints .i64 (starts xs k))) ∧ Hid (Below w.heap.size w wr)) (fun _ i _ => n - (intOf i).toNat)
  case atStart => exact ⟨0, some ⟨w.heap.size, 0, none⟩, 1, by omega, rfl, rfl, Lib.hid (fun i hi => by omega), Lib.hid (own_new w w.heap.size 3 1 1 #[.int .i64 0] (Nat.le_refl _) (by unfold maxLen; omega) rfl), Lib.hid ((Below.refl _ _).alloc (Nat.le_refl _) _)⟩
  case round =>
    obtain ⟨k, a4, c4, hk, rfl, rfl, hok, hown, hb⟩ := hrel
    by_cases hlt : k < n
    · obtain ⟨b, o, rfl, hbb, hc⟩ := (Hs.out.mono hb.out).at hlt
      have f1 := hc k _ (ints_get (by rw [Hxl.out]; exact hlt))
      obtain ⟨g', rfl, hg', hlt', hfr, hcl⟩ := own_place hown.out (i := k) (by omega)
      have f2 := hcl k _ (ints_get (by rw [starts_len]; omega))
      rw [starts_get (by omega)] at f2
      have hus := upto_succ (xs := xs) (k := k) (by rw [Hxl.out]; exact hlt)
      have hup := upto_nonneg (k := k) (by rw [Hxl.out]; omega) hok.out
      obtain ⟨s, hs⟩ : ∃ s, upto xs k = s := ⟨_, rfl⟩
      obtain ⟨u, hu⟩ : ∃ u, xs.getD k 0 = u := ⟨_, rfl⟩
      rw [hs] at f2 hus hup
      rw [hu] at f1 hus
      have hlt3 : (k : Int) < (k : Int) + 1 := by omega
      have hw1 : IntKind.i64.wrap (4294967295 - s) = 4294967295 - s := by rw [IntKind.wrap_i64]; omega
      have Hu := Lib.hid hu
      have Hus := Lib.hid hus
      have Hup := Lib.hid hup
      have HD : Hid (Below wr.heap.size wr wr.drew) := Lib.hid (Below.refl _ _).drew
      clear hc hcl hfr hs hu hus hup
      by_cases hu1 : u < 1
      · have d1 : decide (u < 1) = true := decide_eq_true hu1
        have hno : startsOk xs = false := decide_eq_false (fun h => by have := (h k (by rw [Hxl.out]; exact hlt)).1; rw [Hu.out] at this; omega)
        obtain rfl : ok = false := Hok.out.symm.trans hno
        obtain rfl : V = [] := HV.out.symm.trans (by unfold startsV; rw [hno]; rfl)
        clear hno
        go_wp2_with fail
        go_quiet (fail)
        go_wp2
        go_ret2
        exact ⟨_, _, _, rfl, Sl.nil _ _, hb.out.trans (((Qt.refl _).step _).below _)⟩
      · have d1 : decide (u < 1) = false := decide_eq_false hu1
        by_cases hu2 : 4294967295 - s < u
        · have d2 : decide (4294967295 - s < u) = true := decide_eq_true hu2
          have hno : startsOk xs = false := decide_eq_false (fun h => by have := (h k (by rw [Hxl.out]; exact hlt)).2; rw [Hus.out] at this; omega)
          obtain rfl : ok = false := Hok.out.symm.trans hno
          obtain rfl : V = [] := HV.out.symm.trans (by unfold startsV; rw [hno]; rfl)
          clear hno
          go_wp2_with fail
          go_quiet (fail)
          go_wp2
          go_ret2
          exact ⟨_, _, _, rfl, Sl.nil _ _, hb.out.trans (((Qt.refl _).step _).below _)⟩
        · have d2 : decide (4294967295 - s < u) = false := decide_eq_false hu2
          have hup := Hup.out
          have hw2 : IntKind.i64.wrap (s + u) = s + u := by rw [IntKind.wrap_i64]; omega
          have hok2 := Lib.hid (okTo_succ hok.out (by rw [Hu.out]; omega) (by rw [Hus.out]; omega))
          clear hu1 hu2 hup
          go_wp2_with fail
          go_quiet (fail)
          go_wp2_with fail
          rename Nat => m
          have HDr : Hid (Below w.heap.size w (wr.drewN m).drew) := Lib.hid (hb.out.trans ((((Qt.refl wr).step _).below _).drew))
          have HOw : Hid ((wr.drewN m).drew.ownsRow w.heap.size 3 1 (.slice (some ⟨g', 0, none⟩) (k + 1) c4) (k + 1) (ints .i64 (starts xs k))) := hown
          go_region_law (refine step_app rfl (.tmp 30) (.tmp 40) 22 rfl w.heap.size 3 i0 _ 1 8 Try.underlying22 hi hz0 hz1 hz2 rfl (by decide) (.slice (some ⟨g', 0, none⟩) (k + 1) c4) (k + 1) _ (by simp [Act.eval]) (World.ownsRow.alloc HOw.out _) (some ⟨wr.heap.size, 0, none⟩) 1 1 [.int .i64 (s + u)] (by simp [Act.eval]) (Sl.new' (wr.drewN m).drew 3 1 1 #[.int .i64 (s + u)] (0, 0) (by simp) (by omega) rfl) (by simp [Value.oneCell']) (by omega) (by decide) (by have := HDr.out.size; simp at this ⊢; omega) ?_; intro a6 c6 w6 ho6 hb6 hg6; have Ho6 := Lib.hid ho6; have Hb6 := Lib.hid ((HDr.out.alloc HDr.out.size _).trans hb6); clear ho6 hb6 hg6)
          all_goals go_wp2
          all_goals go_roundw
          all_goals first
            | exact ⟨k + 1, a6, c6, by omega, rfl, by go_num, hok2, Lib.hid (by rw [starts_succ, ints_append, Hus.out]; exact Ho6.out), Hb6⟩
            | (simp [intOf]; omega)
    · obtain rfl : k = n := by omega
      have hokk : startsOk xs = true := decide_eq_true (by rw [Hxl.out]; exact hok.out)
      obtain rfl : ok = true := Hok.out.symm.trans hokk
      obtain rfl : V = starts xs k := HV.out.symm.trans (by unfold startsV; rw [if_pos hokk, Hxl.out])
      clear hokk
      go_wp2
      go_ret2
      exact ⟨_, _, _, rfl, (Sl.of_own hown.out).1, hb.out⟩
end Go.Proofs.Ythcecnolmhillaa
