/- Chapter 29: the document's Of. -/
import Derived.Test.YthcecnolmhillaaPl7
namespace Go.Proofs.Ythcecnolmhillaa
open Go.RowKit Tt
set_option linter.unusedVariables false


theorem range_snoc {xs : List Int} {header : Int} {ps : List Pl} {k : Nat} {A u T d1 d2 : Int} (h1 : (ps.getD k plz).1 = A) (h2 : xs.getD k 0 = u) (h3 : (if k = 0 then 0 else upto xs k - header) = T) (h4 : (ps.getD k plz).2.2.2.1 = d1) (h5 : (ps.getD k plz).2.2.2.2 = d2) :
    pcs ((List.range k).map (newP xs header ps)) ++ [.int .i64 A, .int .i64 u, .int .i64 T, .int .i64 d1, .int .i64 d2] = pcs ((List.range (k + 1)).map (newP xs header ps)) := by
  rw [List.range_succ, List.map_append, pcs_append, ← h1, ← h2, ← h3, ← h4, ← h5]
  rfl

set_option maxRecDepth 20000 in
set_option maxHeartbeats 4000000 in
theorem rof_any (a : Option Addr) (n c : Nat) (xs : List Int) (header : Int) (a2 : Option Addr) (n2 c2 : Nat) (ps : List Pl) (w : World) (hs : Sl w a n c 1 (ints .i64 xs)) (hp : Sl w a2 n2 c2 5 (pcs ps)) (hl : n ≤ 1000000) (hl2 : n2 ≤ 1000000) (hh : header ≤ 4294967295) :
    Calls Try.prog 9 #[.slice a n c, .int .i64 header, .slice a2 n2 c2] w fun e w' => ∃ a' n' c', e = .returned (.tuple #[.slice a' n' c', .bool (ofB xs header ps)]) ∧ Sl w' a' n' c' 5 (pcs (ofV xs header ps)) ∧ Below w.heap.size w w' := by
  obtain ⟨i0, z0, hi, hz, hz1, hz2, hz3⟩ := infoP_parts
  have hxl := hs.ilen
  have hpl := Ps.ilen hp
  have hst := rstarts_any a n c xs w hs hl
  have hs' := Lib.hid hs
  have hp' := Lib.hid hp
  have hxl' := Lib.hid hxl
  have hpl' := Lib.hid hpl
  clear hs hp hxl hpl
  obtain ⟨ok, hok⟩ : ∃ ok, startsOk xs = ok := ⟨_, rfl⟩
  obtain ⟨S, hS⟩ : ∃ S, startsV xs = S := ⟨_, rfl⟩
  rw [hok, hS] at hst
  obtain ⟨r, hr⟩ : ∃ r, ofB xs header ps = r := ⟨_, rfl⟩
  rw [hr]
  have hr' := Lib.hid hr
  clear hr
  obtain ⟨V, hV⟩ : ∃ V, ofV xs header ps = V := ⟨_, rfl⟩
  rw [hV]
  have hV' := Lib.hid hV
  clear hV
  have hok' := Lib.hid hok
  have hS' := Lib.hid hS
  have hst' := Lib.hid hst
  clear hok hS hst
  cases ok
  · have hno := ofB_no1 (header := header) (ps := ps) hok'.out
    obtain rfl : r = false := hr'.out.symm.trans hno
    obtain rfl : V = [] := hV'.out.symm.trans (ofV_no hno)
    clear hno
    go_enter Try.func9, Try.ntmps9
    go_wp2_with (go_at_call 7; refine (hst'.out).mono ?_; rintro e w1 ⟨a1, n1, c1, rfl, hs1, hb1⟩; have HB1 := Lib.hid hb1; clear hs1 hb1)
    go_ret2
    exact ⟨_, _, _, rfl, Sl.nil _ _, HB1.out⟩
  · by_cases hnn : n2 = n
    · subst hnn
      have f0 : ((n2 : Int) != (n2 : Int)) = false := by simp
      by_cases hh0 : header < 0
      · have d0 : decide (header < 0) = true := decide_eq_true hh0
        have hno := ofB_no3 (xs := xs) (ps := ps) (show ¬ 0 ≤ header by omega)
        obtain rfl : r = false := hr'.out.symm.trans hno
        obtain rfl : V = [] := hV'.out.symm.trans (ofV_no hno)
        clear hno
        go_enter Try.func9, Try.ntmps9
        go_wp2_with (go_at_call 7; refine (hst'.out).mono ?_; rintro e w1 ⟨a1, n1, c1, rfl, hs1, hb1⟩; have HB1 := Lib.hid hb1; clear hs1 hb1)
        go_ret2
        exact ⟨_, _, _, rfl, Sl.nil _ _, HB1.out⟩
      · have d0 : decide (header < 0) = false := decide_eq_false hh0
        have hS : S = starts xs n2 := by rw [← hS'.out]; unfold startsV; rw [if_pos hok'.out, hxl'.out]
        subst hS
        go_enter Try.func9, Try.ntmps9
        go_wp2_with (go_at_call 7; refine (hst'.out).mono ?_; rintro e w1 ⟨a1, n1, c1, rfl, hs1, hb1⟩; have HB1 := Lib.hid hb1; have S1 := Lib.hid hs1; have hn1 : n1 = n2 + 1 := hs1.ilen.symm.trans (starts_len _ _); subst hn1; clear hs1 hb1)
        go_loopw [10, 11] (fun v i wr => ∃ (k : Nat) (a4 : Option Addr) (c4 : Nat), k ≤ n2 ∧ v = .slice a4 k c4 ∧ i = .int .i64 k ∧ Hid (∀ i, i < k → i = 0 ∨ header ≤ upto xs i) ∧ Hid (wr.ownsRow w1.heap.size 35 5 (.slice a4 k c4) k (pcs ((List.range k).map (newP xs header ps)))) ∧ Hid (Below w1.heap.size w1 wr)) (fun _ i _ => n2 - (intOf i).toNat)
        case atStart => exact ⟨0, none, 0, by omega, rfl, rfl, Lib.hid (fun i hi => by omega), Lib.hid (own_nil _ _ _ _), Lib.hid (Below.refl _ _)⟩
        case round =>
          obtain ⟨k, a4, c4, hk, rfl, rfl, hq3, hO, hb⟩ := hrel
          by_cases hlt : k < n2
          · obtain ⟨b, o, rfl, hbb, hc⟩ := ((hs'.out.mono HB1.out).mono hb.out).at hlt
            have g1 := hc k _ (ints_get (by rw [hxl'.out]; exact hlt))
            obtain ⟨b2, o2, rfl, hb2, hc2⟩ := S1.out.at (i := k) (by omega)
            have g2 := late hb.out hb2 (hc2 k _ (ints_get (by rw [starts_len]; omega)))
            have hb2' : b2 < wr.heap.size := Nat.lt_of_lt_of_le hb2 hb.out.size
            rw [starts_get (by omega)] at g2
            obtain ⟨b3, o3, rfl, hb3, f1, f2, f3, f4, f5⟩ := Ps.at ((hp'.out.mono HB1.out).mono hb.out) hlt
            have hup := upto_nonneg (k := k) (by rw [hxl'.out]; omega) (okTo_mono (of_decide_eq_true hok'.out) (by rw [hxl'.out]; omega))
            obtain ⟨s, hs⟩ : ∃ s, upto xs k = s := ⟨_, rfl⟩
            rw [hs] at g2 hup
            have hs' := Lib.hid hs
            clear hs
            obtain ⟨u, hu⟩ : ∃ u, xs.getD k 0 = u := ⟨_, rfl⟩
            rw [hu] at g1
            have hu' := Lib.hid hu
            clear hu
            obtain ⟨A, hA⟩ : ∃ A, (ps.getD k plz).1 = A := ⟨_, rfl⟩
            rw [hA] at f1
            have hA' := Lib.hid hA
            clear hA
            obtain ⟨x2, hx2⟩ : ∃ x2, (ps.getD k plz).2.1 = x2 := ⟨_, rfl⟩
            rw [hx2] at f2
            have hx2' := Lib.hid hx2
            clear hx2
            obtain ⟨x3, hx3⟩ : ∃ x3, (ps.getD k plz).2.2.1 = x3 := ⟨_, rfl⟩
            rw [hx3] at f3
            have hx3' := Lib.hid hx3
            clear hx3
            obtain ⟨x4, hx4⟩ : ∃ x4, (ps.getD k plz).2.2.2.1 = x4 := ⟨_, rfl⟩
            rw [hx4] at f4
            have hx4' := Lib.hid hx4
            clear hx4
            obtain ⟨x5, hx5⟩ : ∃ x5, (ps.getD k plz).2.2.2.2 = x5 := ⟨_, rfl⟩
            rw [hx5] at f5
            have hx5' := Lib.hid hx5
            clear hx5
            clear hc hc2
            by_cases hk0 : k = 0
            · have d1 : decide ((0 : Int) < (k : Int)) = false := by simp; omega
              have d2 : decide (0 < k) = false := by simp; omega
              have hk0' := Lib.hid hk0
              clear hk0
              go_wp2_with (at_builtin; refine wpList_app rfl _ _ 23 rfl w1.heap.size 35 i0 z0 5 40 Try.underlying23 hi hz hz1 hz2 hz3 (by decide) _ k _ rfl (World.ownsRow.alloc (World.ownsRow.alloc hO.out _) _) _ 1 1 [.int .i64 A, .int .i64 u, .int .i64 0, .int .i64 x4, .int .i64 x5] rfl (Sl.new' _ 35 5 1 ([.int .i64 A, .int .i64 u, .int .i64 0, .int .i64 x4, .int .i64 x5]).toArray (0, 0) (by simp) (by omega) rfl) (by simp [Value.oneCell']) (by omega) (by decide) (by have := hb.out.size; simp at this ⊢; omega) ?_; intro a5 c5 w5 ob hb5 hg5; have Ob := Lib.hid ob; have Hb5 := Lib.hid (((hb.out.alloc hb.out.size _).alloc (by have := hb.out.size; simp at this ⊢; omega) _).trans hb5); skip; clear ob hb5 hg5)
              go_roundw
              case rel => exact ⟨k + 1, a5, c5, by omega, rfl, by go_num, Lib.hid (upto_le hq3.out (.inl hk0'.out)), Lib.hid (by rw [← range_snoc hA'.out hu'.out (if_pos hk0'.out) hx4'.out hx5'.out]; exact Ob.out), Hb5⟩
              case measure => simp [intOf]; omega
            · have d1 : decide ((0 : Int) < (k : Int)) = true := by simp; omega
              have d2 : decide (0 < k) = true := by simp; omega
              have hk0' := Lib.hid hk0
              clear hk0
              by_cases hsh : s < header
              · have hno := ofB_no4 (xs := xs) (header := header) (ps := ps) (i := k) (by rw [hxl'.out]; exact hlt) hk0'.out (by rw [hs'.out]; exact hsh)
                obtain rfl : r = false := hr'.out.symm.trans hno
                obtain rfl : V = [] := hV'.out.symm.trans (ofV_no hno)
                have d3 : decide (s < header) = true := by simp; omega
                clear hno
                go_wp2
                go_ret2
                exact ⟨_, _, _, rfl, Sl.nil _ _, HB1.out.trans ((hb.out.alloc hb.out.size _).mono HB1.out.size)⟩
              · have d3 : decide (s < header) = false := by simp; omega
                go_wp2_with (at_builtin; refine wpList_app rfl _ _ 23 rfl w1.heap.size 35 i0 z0 5 40 Try.underlying23 hi hz hz1 hz2 hz3 (by decide) _ k _ rfl (World.ownsRow.alloc (World.ownsRow.alloc hO.out _) _) _ 1 1 [.int .i64 A, .int .i64 u, .int .i64 (s - header), .int .i64 x4, .int .i64 x5] rfl (Sl.new' _ 35 5 1 ([.int .i64 A, .int .i64 u, .int .i64 (s - header), .int .i64 x4, .int .i64 x5]).toArray (0, 0) (by simp) (by omega) rfl) (by simp [Value.oneCell']) (by omega) (by decide) (by have := hb.out.size; simp at this ⊢; omega) ?_; intro a5 c5 w5 ob hb5 hg5; have Ob := Lib.hid ob; have Hb5 := Lib.hid (((hb.out.alloc hb.out.size _).alloc (by have := hb.out.size; simp at this ⊢; omega) _).trans hb5); skip; clear ob hb5 hg5)
                go_roundw
                case rel => exact ⟨k + 1, a5, c5, by omega, rfl, by go_num, Lib.hid (upto_le hq3.out (.inr (by rw [hs'.out]; omega))), Lib.hid (by rw [← range_snoc hA'.out hu'.out (by rw [if_neg hk0'.out, hs'.out]) hx4'.out hx5'.out]; exact Ob.out), Hb5⟩
                case measure => simp [intOf]; omega
          · obtain rfl : k = n2 := by omega
            have hyes := ofB_yes (xs := xs) (header := header) (ps := ps) hok'.out (hpl'.out.trans hxl'.out.symm) (by omega) (by rw [hxl'.out]; exact hq3.out)
            obtain rfl : r = true := hr'.out.symm.trans hyes
            obtain rfl : V = (List.range k).map (newP xs header ps) := hV'.out.symm.trans (by unfold ofV; rw [if_pos hyes, hxl'.out])
            clear hyes
            go_wp2
            go_ret2
            exact ⟨_, _, _, rfl, (Sl.of_own hO.out).1, HB1.out.trans (hb.out.mono HB1.out.size)⟩
    · have f0 : ((n2 : Int) != (n : Int)) = true := by simp; omega
      have hno := ofB_no2 (xs := xs) (header := header) (ps := ps) (by rw [hxl'.out, hpl'.out]; exact hnn)
      obtain rfl : r = false := hr'.out.symm.trans hno
      obtain rfl : V = [] := hV'.out.symm.trans (ofV_no hno)
      clear hno
      go_enter Try.func9, Try.ntmps9
      go_wp2_with (go_at_call 7; refine (hst'.out).mono ?_; rintro e w1 ⟨a1, n1, c1, rfl, hs1, hb1⟩; have HB1 := Lib.hid hb1; clear hs1 hb1)
      go_ret2
      exact ⟨_, _, _, rfl, Sl.nil _ _, HB1.out⟩
end Go.Proofs.Ythcecnolmhillaa
