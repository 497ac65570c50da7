/- Chapter 29: the document's Back. -/
import Derived.Test.YthcecnolmhillaaPl8
namespace Go.Proofs.Ythcecnolmhillaa
open Go.RowKit Tt
set_option linter.unusedVariables false

set_option maxRecDepth 20000 in
set_option maxHeartbeats 4000000 in
theorem rback_any (a : Option Addr) (n c : Nat) (ps : List Pl) (header size : Int) (w : World) (hp : Sl w a n c 5 (pcs ps)) (hl : n ≤ 1000000) (hh0 : 0 ≤ header) (hh1 : header ≤ 1099511627776) (hs0 : 0 ≤ size) (hs1 : size ≤ 1099511627776) :
    Calls Try.prog 13 #[.slice a n c, .int .i64 header, .int .i64 size] w fun e w' => ∃ a' n' c', e = .returned (.tuple #[.slice a' n' c', .bool (backB ps header size)]) ∧ Sl w' a' n' c' 1 (ints .i64 (backV ps header size)) ∧ Below w.heap.size w w' := by
  obtain ⟨i0, hi, hz0, hz1, hz2⟩ := info_parts info3
  have hpl := Ps.ilen hp
  have hp' := Lib.hid hp
  have hpl' := Lib.hid hpl
  clear hp hpl
  obtain ⟨r, hr⟩ : ∃ r, backB ps header size = r := ⟨_, rfl⟩
  rw [hr]
  have hr' := Lib.hid hr
  clear hr
  obtain ⟨V, hV⟩ : ∃ V, backV ps header size = V := ⟨_, rfl⟩
  rw [hV]
  have hV' := Lib.hid hV
  clear hV
  by_cases hn0 : n = 0
  · have hno := backB_no0 (ps := ps) (header := header) (size := size) (by rw [hpl'.out]; exact hn0)
    obtain rfl : r = false := hr'.out.symm.trans hno
    obtain rfl : V = [] := hV'.out.symm.trans (backV_no hno)
    have q1 : ((n : Int) == 0) = true := by simp [hn0]
    have q2 : (n == 0) = true := by simp [hn0]
    clear hno
    have hn0' := Lib.hid hn0
    clear hn0
    go_enter Try.func13, Try.ntmps13
    go_wp2
    go_ret2
    exact ⟨_, _, _, rfl, Sl.nil _ _, Below.refl _ _⟩
  · have q1 : ((n : Int) == 0) = false := by simp [hn0]
    have q2 : (n == 0) = false := by simp [hn0]
    have hnp : 0 < n := by omega
    have hpl0 := hpl'.out
    obtain ⟨b, o, rfl, hbb, f1, f2, f3, f4, f5⟩ := Ps.at hp'.out hnp
    obtain ⟨A0, hA0⟩ : ∃ A0, (ps.getD 0 plz).2.2.1 = A0 := ⟨_, rfl⟩
    rw [hA0] at f3
    have hA0' := Lib.hid hA0
    clear hA0
    rw [Nat.zero_mul, Nat.add_zero] at f3
    clear f1 f2 f4 f5 hn0 hpl0
    by_cases ha0 : A0 = 0
    · have q3 : (A0 != 0) = false := by simp [ha0]
      have ha0' := Lib.hid ha0
      clear ha0
      go_enter Try.func13, Try.ntmps13
      go_wp2
      go_loopw [8, 9] (fun v i wr => ∃ (k : Nat) (a4 : Option Addr) (c4 : Nat), k ≤ n ∧ v = .slice a4 (k + 1) c4 ∧ i = .int .i64 k ∧ Hid (∀ i, i < k → bOk ps header size i) ∧ Hid (wr.ownsRow w.heap.size 3 1 (.slice a4 (k + 1) c4) (k + 1) (ints .i64 (starts (zsz ps) k))) ∧ Hid (Below w.heap.size w wr)) (fun _ i _ => n - (intOf i).toNat)
      case atStart => exact ⟨0, some ⟨w.heap.size, 0, none⟩, 1, by omega, rfl, rfl, Lib.hid (fun i hi => by omega), Lib.hid (own_new w w.heap.size 3 1 1 #[.int .i64 0] (Nat.le_refl _) (by unfold maxLen; omega) rfl), Lib.hid ((Below.refl _ _).alloc (Nat.le_refl _) _)⟩
      case round =>
        obtain ⟨k, a4, c4, hk, rfl, rfl, hall, hown, hb⟩ := hrel
        have hEb := bOk_upto hs0 (k := k) (by rw [hpl'.out]; omega) hall.out
        obtain ⟨hE0, hE1⟩ := hEb
        obtain ⟨g', rfl, hg', hlt', hfr, hcl⟩ := own_place hown.out (i := k) (by omega)
        have f2 := hcl k _ (ints_get (by rw [starts_len]; omega))
        rw [starts_get (by omega)] at f2
        obtain ⟨E, hE⟩ : ∃ E, upto (zsz ps) k = E := ⟨_, rfl⟩
        rw [hE] at f2 hE0 hE1
        have hlt3 : (k : Int) < (k : Int) + 1 := by omega
        clear hcl hfr
        by_cases hlt : k < n
        · obtain ⟨b', o', e', hbb', f5, f6, f7, f8, f9⟩ := Ps.at (hp'.out.mono hb.out) hlt
          cases e'
          clear f5 f8 f9
          have hbk : bOk ps header size k ↔ (ps.getD k plz).2.2.1 = (if k = 0 then 0 else E - header) ∧ 1 ≤ (ps.getD k plz).2.1 ∧ (ps.getD k plz).2.1 ≤ size - E := by rw [← hE]; exact Iff.rfl
          have hus : upto (zsz ps) (k + 1) = E + (ps.getD k plz).2.1 := by rw [upto_succ (by rw [zsz_len, hpl'.out]; exact hlt), zsz_get (by rw [hpl'.out]; exact hlt), hE]
          obtain ⟨Z, hZ⟩ : ∃ Z, (ps.getD k plz).2.1 = Z := ⟨_, rfl⟩
          rw [hZ] at f6 hbk hus
          obtain ⟨A, hAA⟩ : ∃ A, (ps.getD k plz).2.2.1 = A := ⟨_, rfl⟩
          rw [hAA] at f7 hbk
          have hA0k : k = 0 → A = 0 := fun h => by rw [← hAA, h, hA0'.out]; exact ha0'.out
          have hw0 : IntKind.i64.wrap (E - header) = E - header := by rw [IntKind.wrap_i64]; omega
          have hw1 : IntKind.i64.wrap (size - E) = size - E := by rw [IntKind.wrap_i64]; omega
          have hw2 : Z ≤ size - E → 1 ≤ Z → IntKind.i64.wrap (E + Z) = E + Z := fun h1 h2 => by rw [IntKind.wrap_i64]; omega
          have hbk2 : bOk ps header size k ↔ (0 < k → A = E - header) ∧ 1 ≤ Z ∧ Z ≤ size - E := by
            rw [hbk]
            rcases Nat.eq_zero_or_pos k with h0 | h0
            · rw [if_pos h0]; exact ⟨fun h => ⟨fun h => by omega, h.2⟩, fun h => ⟨hA0k h0, h.2⟩⟩
            · rw [if_neg (by omega)]; exact ⟨fun h => ⟨fun _ => h.1, h.2⟩, fun h => ⟨h.1 h0, h.2⟩⟩
          clear hA0k hbk
          have hk0 : (k = 0 ∧ decide ((0 : Int) < (k : Int)) = false ∧ decide (0 < k) = false) ∨ (0 < k ∧ decide ((0 : Int) < (k : Int)) = true ∧ decide (0 < k) = true) := by
            rcases Nat.eq_zero_or_pos k with h0 | h0
            · exact .inl ⟨h0, by simp; omega, by simp; omega⟩
            · exact .inr ⟨h0, by simp; omega, by simp; omega⟩
          have HD : Hid (Below wr.heap.size wr wr.drew) := Lib.hid (Below.refl _ _).drew
          have hbk2' := Lib.hid hbk2
          have hus' := Lib.hid hus
          have hw2' := Lib.hid hw2
          have hE' := Lib.hid hE
          have hZ' := Lib.hid hZ
          have hAA' := Lib.hid hAA
          clear hbk2 hus hw2 hE hZ hAA
          by_cases hgood : bOk ps header size k
          · obtain ⟨g1, g2, g3⟩ := hbk2'.out.1 hgood
            have q4 : decide (Z < 1) = false := by simp; omega
            have q5 : decide (size - E < Z) = false := by simp; omega
            have hw3 := hw2'.out g3 g2
            have hnew := Lib.hid (bOk_succ hall.out hgood)
            clear hgood
            rcases hk0 with ⟨h0, d1, d2⟩ | ⟨h0, d1, d2⟩
            all_goals
              first
                | (have q6 : (A != E - header) = false := by simp [g1 h0])
                | skip
              have h0' := Lib.hid h0
              have g1' := Lib.hid g1
              have g2' := Lib.hid g2
              have g3' := Lib.hid g3
              clear h0 g1 g2 g3
              go_wp2_with fail
              go_quiet (fail)
              go_wp2_with fail
              rename Nat => m
              have HDr : Hid (Below w.heap.size w (wr.drewN m).drew) := Lib.hid (hb.out.trans ((((Qt.refl wr).step _).below _).drew))
              have HOw : Hid ((wr.drewN m).drew.ownsRow w.heap.size 3 1 (.slice (some ⟨g', 0, none⟩) (k + 1) c4) (k + 1) (ints .i64 (starts (zsz ps) k))) := hown
              go_region_law (refine step_app rfl (.tmp 65) (.tmp 76) 22 rfl w.heap.size 3 i0 _ 1 8 Try.underlying22 hi hz0 hz1 hz2 rfl (by decide) (.slice (some ⟨g', 0, none⟩) (k + 1) c4) (k + 1) _ (by simp [Act.eval]) (World.ownsRow.alloc HOw.out _) (some ⟨wr.heap.size, 0, none⟩) 1 1 [.int .i64 (E + Z)] (by simp [Act.eval]) (Sl.new' (wr.drewN m).drew 3 1 1 #[.int .i64 (E + Z)] (0, 0) (by simp) (by omega) rfl) (by simp [Value.oneCell']) (by omega) (by decide) (by have := HDr.out.size; simp at this ⊢; omega) ?_; intro a6 c6 w6 ho6 hb6 hg6; have Ho6 := Lib.hid ho6; have Hb6 := Lib.hid ((HDr.out.alloc HDr.out.size _).trans hb6); clear ho6 hb6 hg6)
              all_goals go_wp2
              all_goals go_roundw
              all_goals first
                | exact ⟨k + 1, a6, c6, by omega, rfl, by go_num, hnew, Lib.hid (by rw [starts_succ, ints_append, hus'.out]; exact Ho6.out), Hb6⟩
                | (simp [intOf]; omega)
          · have hno := backB_no (ps := ps) (header := header) (size := size) (i := k) (by rw [hpl'.out]; exact hlt) hgood
            obtain rfl : r = false := hr'.out.symm.trans hno
            obtain rfl : V = [] := hV'.out.symm.trans (backV_no hno)
            have hbad : (0 < k ∧ A ≠ E - header) ∨ ((k = 0 ∨ A = E - header) ∧ Z < 1) ∨ ((k = 0 ∨ A = E - header) ∧ 1 ≤ Z ∧ size - E < Z) := by
              have := mt hbk2'.out.2 hgood
              omega
            clear hno hgood
            rcases hk0 with ⟨h0, d1, d2⟩ | ⟨h0, d1, d2⟩
            all_goals
              rcases hbad with ⟨_, g1⟩ | ⟨g1, g2⟩ | ⟨g1, g2, g3⟩
              all_goals (try (exfalso; omega))
              all_goals
                first
                  | (have q6 : (A != E - header) = true := by simp [g1])
                  | (have q4 : decide (Z < 1) = true := by simp; omega
                     try (have q6 : (A != E - header) = false := by simp; omega)
                     clear g1)
                  | (have q4 : decide (Z < 1) = false := by simp; omega
                     have q5 : decide (size - E < Z) = true := by simp; omega
                     try (have q6 : (A != E - header) = false := by simp; omega)
                     clear g1)
                have h0' := Lib.hid h0
                clear h0
                go_wp2_with fail
                go_quiet (fail)
                go_wp2
                go_ret2
                exact ⟨_, _, _, rfl, Sl.nil _ _, hb.out.trans (((Qt.refl _).step _).below _)⟩
        · obtain rfl : k = n := by omega
          by_cases hEs : E = size
          · have q4 : (E != size) = false := by simp [hEs]
            have hyes := backB_yes (ps := ps) (header := header) (size := size) (by rw [hpl'.out]; omega) (by rw [hpl'.out]; exact hall.out) (by rw [hpl'.out, hE]; exact hEs)
            obtain rfl : r = true := hr'.out.symm.trans hyes
            obtain rfl : V = starts (zsz ps) k := hV'.out.symm.trans (by unfold backV; rw [if_pos hyes, hpl'.out])
            clear hyes
            have hEs' := Lib.hid hEs
            have hE' := Lib.hid hE
            clear hEs hE
            go_wp2
            go_ret2
            exact ⟨_, _, _, rfl, (Sl.of_own hown.out).1, hb.out⟩
          · have q4 : (E != size) = true := by simp [hEs]
            have hno := backB_no2 (ps := ps) (header := header) (size := size) (by rw [hpl'.out, hE]; exact hEs)
            obtain rfl : r = false := hr'.out.symm.trans hno
            obtain rfl : V = [] := hV'.out.symm.trans (backV_no hno)
            clear hno
            have hEs' := Lib.hid hEs
            have hE' := Lib.hid hE
            clear hEs hE
            go_wp2
            go_ret2
            exact ⟨_, _, _, rfl, Sl.nil _ _, hb.out⟩
    · have q3 : (A0 != 0) = true := by simp [ha0]
      have hno := backB_no (ps := ps) (header := header) (size := size) (i := 0) (by rw [hpl'.out]; omega) (fun h => ha0 (by have := h.1; rw [hA0'.out] at this; exact this))
      obtain rfl : r = false := hr'.out.symm.trans hno
      obtain rfl : V = [] := hV'.out.symm.trans (backV_no hno)
      clear hno
      have ha0' := Lib.hid ha0
      clear ha0
      go_enter Try.func13, Try.ntmps13
      go_wp2
      go_ret2
      exact ⟨_, _, _, rfl, Sl.nil _ _, Below.refl _ _⟩
end Go.Proofs.Ythcecnolmhillaa
